/- The journal, as plain mathematics: numbers as four bytes, records, what is recovered. -/
import Derived.Test.YtdcgmkoonanpgaaCrcMath
namespace Go.Proofs.Ytdcgmkoonanpgaa.Jn
set_option linter.unusedSimpArgs false
set_option linter.unusedVariables false

/-- four bytes of a number, the most significant one first -/
def enc4 (n : Nat) : List UInt8 := [UInt8.ofNat (n / 16777216), UInt8.ofNat (n / 65536), UInt8.ofNat (n / 256), UInt8.ofNat n]
theorem dec4_ex : ∃ f : List UInt8 → Nat, ∀ l, f l = (l.getD 0 0).toNat * 16777216 + (l.getD 1 0).toNat * 65536 + (l.getD 2 0).toNat * 256 + (l.getD 3 0).toNat := ⟨_, fun _ => rfl⟩
/-- the number (chosen, so that the kernel does not reckon with great factors one by one) -/
noncomputable def dec4 : List UInt8 → Nat := Classical.choose dec4_ex
theorem dec4_eq (l : List UInt8) : dec4 l = (l.getD 0 0).toNat * 16777216 + (l.getD 1 0).toNat * 65536 + (l.getD 2 0).toNat * 256 + (l.getD 3 0).toNat := Classical.choose_spec dec4_ex l
theorem enc4_len (n : Nat) : (enc4 n).length = 4 := rfl
theorem dec4_lt (l : List UInt8) : dec4 l < 4294967296 := by
  have h0 := (l.getD 0 0).toNat_lt; have h1 := (l.getD 1 0).toNat_lt; have h2 := (l.getD 2 0).toNat_lt; have h3 := (l.getD 3 0).toNat_lt
  rw [dec4_eq]; omega
theorem dec_enc {n : Nat} (h : n < 4294967296) (l : List UInt8) : dec4 (enc4 n ++ l) = n := by
  rw [dec4_eq]; simp [enc4]; omega
theorem enc_dec {l : List UInt8} (h : 4 ≤ l.length) : enc4 (dec4 l) = l.take 4 := by
  match l, h with
  | a :: b :: c :: d :: r, _ =>
    have h0 := a.toNat_lt; have h1 := b.toNat_lt; have h2 := c.toNat_lt; have h3 := d.toNat_lt
    simp only [enc4, dec4_eq, List.getD_cons_zero, List.getD_cons_succ, List.take_succ_cons, List.take_zero]
    have e : ∀ (x : UInt8) (m : Nat), m % 256 = x.toNat → UInt8.ofNat m = x := fun x m hm => by
      apply UInt8.toNat.inj; simp [hm]
    rw [e a _ (by omega), e b _ (by omega), e c _ (by omega), e d _ (by omega)]
theorem dec4_take {l : List UInt8} {n : Nat} (h : 4 ≤ n) : dec4 (l.take n) = dec4 l := by
  have e : ∀ i, i < 4 → (l.take n).getD i 0 = l.getD i 0 := fun i hi => by
    rw [List.getD_eq_getElem?_getD, List.getD_eq_getElem?_getD, List.getElem?_take, if_pos (by omega)]
  rw [dec4_eq, dec4_eq, e 0 (by omega), e 1 (by omega), e 2 (by omega), e 3 (by omega)]
/-- the checksum as a number -/
def crcN (l : List UInt8) : Nat := (Crc.crc l).toNat
theorem crcN_lt (l : List UInt8) : crcN l < 4294967296 := (Crc.crc l).isLt
/-- a record -/
def head (p : List UInt8) : List UInt8 := enc4 p.length ++ p
def rec (p : List UInt8) : List UInt8 := head p ++ enc4 (crcN (head p))
theorem head_len (p : List UInt8) : (head p).length = p.length + 4 := by simp [head, enc4_len]; omega
theorem rec_len (p : List UInt8) : (rec p).length = p.length + 8 := by simp [rec, head_len, enc4_len]
/-- the bytes of the record with which bytes begin, or 0 -/
noncomputable def first (l : List UInt8) : Nat :=
  if l.length < 8 then 0
  else if 4194304 < dec4 l ∨ l.length < dec4 l + 8 then 0
  else if crcN (l.take (dec4 l + 4)) = dec4 (l.drop (dec4 l + 4)) then dec4 l + 8 else 0
theorem first_le (l : List UInt8) : first l ≤ l.length := by unfold first; split; omega; split; omega; split <;> omega
theorem first_ge {l : List UInt8} (h : first l ≠ 0) : 8 ≤ first l ∧ first l = dec4 l + 8 ∧ dec4 l ≤ 4194304 := by
  unfold first at *
  split at h
  · exact (h rfl).elim
  · split at h
    · exact (h rfl).elim
    · split at h
      · rename_i h1 h2 h3; rw [if_neg h1, if_neg h2, if_pos h3]; omega
      · exact (h rfl).elim
/-- what is recovered, at most k records -/
noncomputable def recs : Nat → List UInt8 → List (List UInt8)
  | 0, _ => []
  | k + 1, l => if first l = 0 then [] else ((l.drop 4).take (first l - 8)) :: recs k (l.drop (first l))
/-- the bytes of records, and how many -/
def encs (ls : List (List UInt8)) : List UInt8 := ls.flatMap rec
def siz (ls : List (List UInt8)) : Nat := (ls.map fun p => p.length + 8).sum
theorem siz_nil : siz [] = 0 := rfl
theorem siz_app (a b : List (List UInt8)) : siz (a ++ b) = siz a + siz b := by simp [siz]
theorem siz_one (p : List UInt8) : siz [p] = p.length + 8 := by simp [siz]
theorem siz_cons (p : List UInt8) (b : List (List UInt8)) : siz (p :: b) = p.length + 8 + siz b := by simp [siz]
theorem encs_len (ls : List (List UInt8)) : (encs ls).length = siz ls := by
  induction ls with
  | nil => rfl
  | cons p ls ih => rw [siz_cons, encs, List.flatMap_cons, List.length_append, rec_len]; show _ + (encs ls).length = _; rw [ih]
theorem encs_app (a b : List (List UInt8)) : encs (a ++ b) = encs a ++ encs b := by simp [encs]
theorem encs_cons (p : List UInt8) (b : List (List UInt8)) : encs (p :: b) = rec p ++ encs b := by simp [encs]
theorem siz_len (ls : List (List UInt8)) : 8 * ls.length ≤ siz ls := by
  induction ls with
  | nil => simp
  | cons p ls ih => rw [siz_cons, List.length_cons]; omega
theorem first_rec {p : List UInt8} (hp : p.length ≤ 4194304) (r : List UInt8) : first (rec p ++ r) = p.length + 8 := by
  have hd : dec4 (rec p ++ r) = p.length := by
    rw [rec, head, List.append_assoc, List.append_assoc, dec_enc (by omega)]
  have hl : (rec p ++ r).length = p.length + 8 + r.length := by rw [List.length_append, rec_len]
  unfold first
  rw [if_neg (by omega), hd, if_neg (by omega)]
  have e1 : (rec p ++ r).take (p.length + 4) = head p := by
    rw [rec, List.append_assoc, List.take_append_of_le_length (by rw [head_len]; omega), List.take_of_length_le (by rw [head_len]; omega)]
  have e2 : (rec p ++ r).drop (p.length + 4) = enc4 (crcN (head p)) ++ r := by
    rw [rec, List.append_assoc, List.drop_append_of_le_length (by rw [head_len]; omega), List.drop_of_length_le (by rw [head_len]; omega), List.nil_append]
  rw [e1, e2, dec_enc (crcN_lt _), if_pos rfl]
theorem take_rec (p r : List UInt8) : ((rec p ++ r).drop 4).take (p.length + 8 - 8) = p := by
  have : (rec p ++ r).drop 4 = p ++ (enc4 (crcN (head p)) ++ r) := by
    rw [rec, head, List.append_assoc, List.append_assoc, List.drop_append_of_le_length (by rw [enc4_len]; omega), List.drop_of_length_le (by rw [enc4_len]; omega), List.nil_append]
  rw [this, Nat.add_sub_cancel, List.take_append_of_le_length (Nat.le_refl _), List.take_length]
theorem recs_app : ∀ (ls : List (List UInt8)) (k : Nat) (r : List UInt8), (∀ p ∈ ls, p.length ≤ 4194304) → ls.length ≤ k → recs k (encs ls ++ r) = ls ++ recs (k - ls.length) r
  | [], k, r, _, _ => by simp [encs]
  | p :: ls, 0, r, _, h => by simp at h
  | p :: ls, k + 1, r, hp, h => by
    rw [encs_cons, List.append_assoc]
    have hf := first_rec (hp p (by simp)) (encs ls ++ r)
    rw [recs, if_neg (by rw [hf]; omega), hf, take_rec, List.drop_append_of_le_length (by rw [rec_len]; omega), List.drop_of_length_le (by rw [rec_len]; omega), List.nil_append,
      recs_app ls k r (fun q hq => hp q (by simp [hq])) (by simpa using h)]
    simp
/-- a record that is read is written so -/
theorem rec_first {l : List UInt8} (h : first l ≠ 0) : rec ((l.drop 4).take (first l - 8)) = l.take (first l) ∧ ((l.drop 4).take (first l - 8)).length + 8 = first l ∧ ((l.drop 4).take (first l - 8)).length ≤ 4194304 := by
  obtain ⟨h8, hd, hm⟩ := first_ge h
  have hle := first_le l
  have hlen : ((l.drop 4).take (first l - 8)).length = dec4 l := by rw [List.length_take, List.length_drop]; omega
  have hh : head ((l.drop 4).take (first l - 8)) = l.take (dec4 l + 4) := by
    rw [head, hlen, enc_dec (by omega), hd, Nat.add_sub_cancel, Nat.add_comm (dec4 l) 4, List.take_add]
  refine ⟨?_, by omega, by omega⟩
  rw [rec, hh]
  have hc : crcN (l.take (dec4 l + 4)) = dec4 (l.drop (dec4 l + 4)) := by
    unfold first at h
    rw [if_neg (by omega), if_neg (by omega)] at h
    by_cases hc : crcN (l.take (dec4 l + 4)) = dec4 (l.drop (dec4 l + 4))
    · exact hc
    · rw [if_neg hc] at h; exact (h rfl).elim
  rw [hc, enc_dec (by rw [List.length_drop]; omega), hd, show dec4 l + 8 = (dec4 l + 4) + 4 by omega]
  exact List.take_add.symm
theorem recs_le (k : Nat) : ∀ l, (recs k l).length ≤ k := by
  induction k with
  | zero => intro l; simp [recs]
  | succ k ih => intro l; rw [recs]; split; simp; simp; exact ih _
theorem recs_small (k : Nat) : ∀ l, ∀ p ∈ recs k l, p.length ≤ 4194304 := by
  induction k with
  | zero => intro l p hp; simp [recs] at hp
  | succ k ih =>
    intro l p hp
    rw [recs] at hp
    split at hp
    · simp at hp
    · rename_i h
      rcases List.mem_cons.1 hp with rfl | hp
      · exact (rec_first h).2.2
      · exact ih _ p hp
/-- the bytes that are recovered are those of the records -/
theorem encs_recs (k : Nat) : ∀ l, encs (recs k l) = l.take (siz (recs k l)) ∧ siz (recs k l) ≤ l.length := by
  induction k with
  | zero => intro l; simp [recs, encs, siz]
  | succ k ih =>
    intro l
    rw [recs]
    split
    · simp [encs, siz]
    · rename_i h
      obtain ⟨h1, h2, _⟩ := rec_first h
      obtain ⟨i1, i2⟩ := ih (l.drop (first l))
      have hle := first_le l
      rw [List.length_drop] at i2
      rw [encs_cons, siz_cons, h1, i1, h2, List.take_add]
      exact ⟨rfl, by omega⟩
/-- a record of which something is lacking is none -/
theorem first_part {p : List UInt8} (hp : p.length ≤ 4194304) {n : Nat} (hn : n < p.length + 8) : first ((rec p).take n) = 0 := by
  have hl : ((rec p).take n).length = n := by rw [List.length_take, rec_len]; omega
  unfold first
  by_cases h8 : n < 8
  · rw [if_pos (by omega)]
  · rw [if_neg (by omega), dec4_take (by omega)]
    have : dec4 (rec p) = p.length := by rw [rec, head, List.append_assoc, dec_enc (by omega)]
    rw [this, if_pos (.inr (by omega))]
/-- how many of the records have all their bytes among the first n -/
def fit (n : Nat) : List (List UInt8) → Nat
  | [] => 0
  | p :: ls => if p.length + 8 ≤ n then fit (n - (p.length + 8)) ls + 1 else 0
theorem fit_le (ls : List (List UInt8)) : ∀ n, fit n ls ≤ ls.length := by
  induction ls with
  | nil => intro n; simp [fit]
  | cons p ls ih => intro n; rw [fit]; split; simp; exact ih _; simp
theorem recs_take : ∀ (ls : List (List UInt8)) (k n : Nat), (∀ p ∈ ls, p.length ≤ 4194304) → ls.length ≤ k → recs k ((encs ls).take n) = ls.take (fit n ls)
  | [], k, n, _, _ => by
    cases k with
    | zero => rfl
    | succ k => simp [encs, recs, first, fit]
  | p :: ls, 0, n, _, h => by simp at h
  | p :: ls, k + 1, n, hp, h => by
    rw [encs_cons, fit]
    by_cases hn : p.length + 8 ≤ n
    · rw [if_pos hn]
      have e : (rec p ++ encs ls).take n = rec p ++ (encs ls).take (n - (p.length + 8)) := by
        rw [List.take_append, rec_len, List.take_of_length_le (by rw [rec_len]; omega)]
      rw [e]
      have hf := first_rec (hp p (by simp)) ((encs ls).take (n - (p.length + 8)))
      rw [recs, if_neg (by rw [hf]; omega), hf, take_rec, List.drop_append_of_le_length (by rw [rec_len]; omega), List.drop_of_length_le (by rw [rec_len]; omega), List.nil_append,
        recs_take ls k _ (fun q hq => hp q (by simp [hq])) (by simpa using h), List.take_succ_cons]
    · rw [if_neg hn]
      have e : (rec p ++ encs ls).take n = (rec p).take n := by rw [List.take_append_of_le_length (by rw [rec_len]; omega)]
      rw [e, recs, if_pos (first_part (hp p (by simp)) (by omega))]; rfl
/-- records are taken off the end until at most m bytes are left -/
theorem fit_iff (ls : List (List UInt8)) : ∀ (n k : Nat), k ≤ ls.length → (k ≤ fit n ls ↔ siz (ls.take k) ≤ n) := by
  induction ls with
  | nil => intro n k hk; simp at hk; subst hk; simp [siz]
  | cons p ls ih =>
    intro n k hk
    cases k with
    | zero => simp [siz]
    | succ k =>
      rw [List.take_succ_cons, siz_cons, fit]
      by_cases hn : p.length + 8 ≤ n
      · rw [if_pos hn]
        have := ih (n - (p.length + 8)) k (by simpa using hk)
        omega
      · rw [if_neg hn]; omega
theorem fit_eq {ls : List (List UInt8)} {n k : Nat} (hk : k ≤ ls.length) (h1 : siz (ls.take k) ≤ n) (h2 : ∀ h : k < ls.length, n < siz (ls.take (k + 1))) : fit n ls = k := by
  have a := (fit_iff ls n k hk).2 h1
  have b := fit_le ls n
  by_cases e : k < ls.length
  · have := (fit_iff ls n (k + 1) e).1
    have := h2 e
    omega
  · omega
theorem siz_mono (ls : List (List UInt8)) (k : Nat) : siz (ls.take k) ≤ siz ls := by
  have : siz ls = siz (ls.take k) + siz (ls.drop k) := by rw [← siz_app, List.take_append_drop]
  omega
end Go.Proofs.Ytdcgmkoonanpgaa.Jn
