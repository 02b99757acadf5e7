/- Texts of the claim, laid together: FdE, FdK, FdN, Fd3. -/
import Derived.Test.Ytbinlkobmlebpaax0
import Derived.Test.Ytbinlkobmlebpaax4
import Derived.Test.Ytbinlkobmlebpaax5
set_option linter.unusedSimpArgs false
set_option linter.unusedVariables false
namespace Go.Proofs.Ytbinlkobmlebpaa
open Go.RowKit Sym
namespace Fi
def edg (c : Nat → Bool) : Nat → List Int
 | 0 => []
 | k + 1 => if k = 0 ∨ c k ≠ c (k - 1) then edg c k ++ [(k : Int)] else edg c k
def eds (c : Nat → Bool) (n : Nat) : List Int := edg c n ++ [(n : Int)]
theorem edg_t {c : Nat → Bool} {k : Nat} (h : k = 0 ∨ c k ≠ c (k - 1)) : edg c (k + 1) = edg c k ++ [(k : Int)] := if_pos h
theorem edg_f {c : Nat → Bool} {k : Nat} (h : ¬ (k = 0 ∨ c k ≠ c (k - 1))) : edg c (k + 1) = edg c k := if_neg h
theorem edg_len (c : Nat → Bool) : ∀ k, (edg c k).length ≤ k
 | 0 => Nat.le_refl _
 | k + 1 => by
  have := edg_len c k
  unfold edg; split
  · rw [List.length_append]; simp; omega
  · omega
theorem edg_mem (c : Nat → Bool) : ∀ k, ∀ x ∈ edg c k, 0 ≤ x ∧ x < k
  | 0, x, h => by cases h
  | k + 1, x, h => by
    have ih := edg_mem c k
    unfold edg at h; split at h
    · rcases List.mem_append.1 h with h | h
      · have := ih x h; omega
      · rw [List.mem_singleton] at h; omega
    · have := ih x h; omega
theorem edg_srt (c : Nat → Bool) : ∀ k, (edg c k).Pairwise (· < ·)
  | 0 => List.Pairwise.nil
  | k + 1 => by
    have ih := edg_srt c k
    unfold edg; split
    · refine List.pairwise_append.2 ⟨ih, by simp, fun a ha b hb => ?_⟩
      rw [List.mem_singleton] at hb
      have := edg_mem c k a ha; omega
    · exact ih
theorem eds_mem {c : Nat → Bool} {n : Nat} : ∀ x ∈ eds c n, 0 ≤ x ∧ x ≤ n := fun x h => by
 rcases List.mem_append.1 h with h | h
 · have := edg_mem c n x h; omega
 · rw [List.mem_singleton] at h; omega
theorem eds_len (c : Nat → Bool) (n : Nat) : (eds c n).length ≤ n + 1 := by
 have := edg_len c n
 unfold eds; rw [List.length_append]; simp; omega
theorem eds_srt (c : Nat → Bool) (n : Nat) : (eds c n).Pairwise (· < ·) := List.pairwise_append.2 ⟨edg_srt c n, by simp, fun a ha b hb => by
 rw [List.mem_singleton] at hb
 have := edg_mem c n a ha; omega⟩
theorem getD_b {es : List Int} {N : Int} (h : ∀ x ∈ es, 0 ≤ x ∧ x ≤ N) (h0 : 0 ≤ N) (j : Nat) : 0 ≤ es.getD j 0 ∧ es.getD j 0 ≤ N := by
 rw [List.getD_eq_getElem?_getD]
 cases e : es[j]? with
 | none => exact ⟨Int.le_refl _, h0⟩
 | some x => exact h x (List.mem_of_getElem? e)
theorem cnt_eq {es : List Int} {x : Int} {a : Nat} (ha : a ≤ es.length) (h1 : ∀ j (h : j < es.length), j < a → es[j] < x) (h2 : ∀ j (h : j < es.length), a ≤ j → x ≤ es[j]) : es.countP (fun y => decide (y < x)) = a := by
  rw [← List.take_append_drop a es, List.countP_append]
  have e1 : (es.take a).countP (fun y => decide (y < x)) = a := by
    rw [List.countP_eq_length.2, List.length_take]
    · omega
    · intro y hy
      obtain ⟨j, hj, rfl⟩ := List.getElem_of_mem hy
      rw [List.length_take] at hj
      rw [List.getElem_take]
      exact decide_eq_true (h1 j (by omega) (by omega))
  have e2 : (es.drop a).countP (fun y => decide (y < x)) = 0 := by
    rw [List.countP_eq_zero]
    intro y hy
    obtain ⟨j, hj, rfl⟩ := List.getElem_of_mem hy
    rw [List.length_drop] at hj
    rw [List.getElem_drop]
    have := h2 (a + j) (by omega) (by omega)
    simp; omega
  omega
theorem srt_lt {es : List Int} (h : es.Pairwise (· < ·)) {x : Int} {m : Nat} (hm : m < es.length) (hx : es[m] < x) : ∀ j (h : j < es.length), j < m + 1 → es[j] < x := fun j hj hl => by
 by_cases e : j = m
 · subst e; exact hx
 · have := List.pairwise_iff_getElem.1 h j m hj hm (by omega); omega
theorem srt_ge {es : List Int} (h : es.Pairwise (· < ·)) {x : Int} {m : Nat} (hm : m < es.length) (hx : x ≤ es[m]) : ∀ j (h : j < es.length), m ≤ j → x ≤ es[j] := fun j hj hl => by
 by_cases e : j = m
 · subst e; exact hx
 · have := List.pairwise_iff_getElem.1 h m j hm hj (by omega); omega
def fit1 (es sh : List Int) (r : Nat) (T : Int) (i : Nat) : Prop :=
 2 * max (7 * (es.getD (r + i + 1) 0 - es.getD (r + i) 0) - sh.getD i 0 * T) (-(7 * (es.getD (r + i + 1) 0 - es.getD (r + i) 0) - sh.getD i 0 * T)) ≤ T
instance (es sh : List Int) (r : Nat) (T : Int) (i : Nat) : Decidable (fit1 es sh r T i) := by unfold fit1; exact inferInstance
def patv (es : List Int) (d0 kd : Bool) (sh : List Int) (run : Int) : Option (Int × Int) :=
 if run < 0 ∨ (es.length : Int) ≤ run + sh.length ∨ ¬ (run % 2 = 0 ↔ d0 = kd) then none
 else if ∀ i, i < sh.length → fit1 es sh run.toNat (es.getD (run.toNat + sh.length) 0 - es.getD run.toNat 0) i then some (es.getD run.toNat 0, es.getD (run.toNat + sh.length) 0 - es.getD run.toNat 0) else none
theorem patv_no {es : List Int} {d0 kd : Bool} {sh : List Int} {run : Int} (h : run < 0 ∨ (es.length : Int) ≤ run + sh.length ∨ ¬ (run % 2 = 0 ↔ d0 = kd)) : patv es d0 kd sh run = none := if_pos h
theorem patv_bad {es : List Int} {d0 kd : Bool} {sh : List Int} {r i : Nat} (hi : i < sh.length) (h : ¬ fit1 es sh r (es.getD (r + sh.length) 0 - es.getD r 0) i) : patv es d0 kd sh (r : Int) = none := by
 unfold patv; split
 · rfl
 · rw [Int.toNat_natCast, if_neg (fun k => h (k i hi))]
theorem patv_ok {es : List Int} {d0 kd : Bool} {sh : List Int} {r : Nat} (h : ¬ ((r : Int) < 0 ∨ (es.length : Int) ≤ r + sh.length ∨ ¬ ((r : Int) % 2 = 0 ↔ d0 = kd))) (h2 : ∀ i, i < sh.length → fit1 es sh r (es.getD (r + sh.length) 0 - es.getD r 0) i) : patv es d0 kd sh (r : Int) = some (es.getD r 0, es.getD (r + sh.length) 0 - es.getD r 0) := by
 unfold patv; rw [if_neg h, Int.toNat_natCast, if_pos h2]
def patR : Option (Int × Int) → Value
 | none => .tuple #[i64 0, i64 0, .bool false]
 | some q => .tuple #[i64 q.1, i64 q.2, .bool true]
def rn (es : List Int) (at_ : Int) : Int := (es.countP (fun y => decide (y < at_ + 1)) : Int) - 1
def jud (b T y : Int) (es : List Int) (d0 kd : Bool) (sh : List Int) : Option Mk :=
 match patv es d0 kd sh (rn es y - (sh.length : Int) / 2) with
 | none => none
 | some q => if T < 4 * max (T - q.2) (q.2 - T) then none else some ⟨14 * b + 7 * T, 14 * q.1 + 7 * q.2, T + q.2, 1⟩
theorem jud_n {b T y : Int} {es : List Int} {d0 kd : Bool} {sh : List Int} (h : patv es d0 kd sh (rn es y - (sh.length : Int) / 2) = none) : jud b T y es d0 kd sh = none := by unfold jud; rw [h]
theorem jud_f {b T y : Int} {es : List Int} {d0 kd : Bool} {sh : List Int} {q : Int × Int} (h : patv es d0 kd sh (rn es y - (sh.length : Int) / 2) = some q) (h2 : T < 4 * max (T - q.2) (q.2 - T)) : jud b T y es d0 kd sh = none := by unfold jud; rw [h]; exact if_pos h2
theorem jud_t {b T y : Int} {es : List Int} {d0 kd : Bool} {sh : List Int} {q : Int × Int} (h : patv es d0 kd sh (rn es y - (sh.length : Int) / 2) = some q) (h2 : ¬ T < 4 * max (T - q.2) (q.2 - T)) : jud b T y es d0 kd sh = some ⟨14 * b + 7 * T, 14 * q.1 + 7 * q.2, T + q.2, 1⟩ := by unfold jud; rw [h]; exact if_neg h2
theorem patv_in {es : List Int} {d0 kd : Bool} {sh : List Int} {run : Int} {q : Int × Int} (h : patv es d0 kd sh run = some q) : ∃ r : Nat, run = r ∧ r + sh.length < es.length ∧ (run % 2 = 0 ↔ d0 = kd) ∧ q = (es.getD r 0, es.getD (r + sh.length) 0 - es.getD r 0) ∧ ∀ i, i < sh.length → fit1 es sh r (es.getD (r + sh.length) 0 - es.getD r 0) i := by
  unfold patv at h
  split at h
  · cases h
  · rename_i h1
    split at h
    · rename_i h2
      refine ⟨run.toNat, by omega, by omega, Decidable.byContradiction fun e => h1 (.inr (.inr e)), (Option.some.inj h).symm, h2⟩
    · cases h
theorem patv_b {es : List Int} {d0 kd : Bool} {sh : List Int} {run : Int} {q : Int × Int} {N : Int} (h : patv es d0 kd sh run = some q) (hb : ∀ x ∈ es, 0 ≤ x ∧ x ≤ N) (h0 : 0 ≤ N) : 0 ≤ q.1 ∧ q.1 ≤ N ∧ -N ≤ q.2 ∧ q.2 ≤ N := by
 obtain ⟨r, _, _, _, rfl, _⟩ := patv_in h
 have h1 := getD_b hb h0 r
 have h2 := getD_b hb h0 (r + sh.length)
 exact ⟨h1.1, h1.2, show -N ≤ es.getD (r + sh.length) 0 - es.getD r 0 by omega, show es.getD (r + sh.length) 0 - es.getD r 0 ≤ N by omega⟩
end Fi
end Go.Proofs.Ytbinlkobmlebpaa
namespace Go.Proofs.Ytbinlkobmlebpaa
open Go.RowKit Sym
namespace Fi
def nearM (m : Mk) (x y : Int) : Prop := max (m.x - x) (x - m.x) ≤ m.s ∧ max (m.y - y) (y - m.y) ≤ m.s
instance (m : Mk) (x y : Int) : Decidable (nearM m x y) := by unfold nearM; exact inferInstance
def fdx (x y : Int) : List Mk → Nat
 | [] => 0
 | m :: l => if nearM m x y then 0 else fdx x y l + 1
theorem fdx_le (x y : Int) : ∀ l, fdx x y l ≤ l.length
 | [] => Nat.le_refl _
 | m :: l => by
  have := fdx_le x y l
  unfold fdx; split <;> simp <;> omega
theorem fdx_t {x y : Int} : ∀ {l : List Mk} {k : Nat} (hk : k < l.length), (∀ j (h : j < l.length), j < k → ¬ nearM l[j] x y) → nearM l[k] x y → fdx x y l = k
 | m :: l, 0, _, _, h => by unfold fdx; rw [if_pos (show nearM m x y from h)]
 | m :: l, k + 1, hk, h0, h => by
  unfold fdx
  rw [if_neg (show ¬ nearM m x y from h0 0 (by simp) (by omega)), fdx_t (k := k) (by simpa using hk) (fun j hj hl => h0 (j + 1) (by simpa using hj) (by omega)) h]
theorem fdx_f {x y : Int} : ∀ {l : List Mk}, (∀ j (h : j < l.length), ¬ nearM l[j] x y) → fdx x y l = l.length
 | [], _ => rfl
 | m :: l, h0 => by
  unfold fdx
  rw [if_neg (show ¬ nearM m x y from h0 0 (by simp)), fdx_f (fun j hj => h0 (j + 1) (by simpa using hj))]; rfl
def addM (l : List Mk) (m : Mk) : List Mk :=
 match l[fdx m.x m.y l]? with
 | some q => l.set (fdx m.x m.y l) { q with n := q.n + 1 }
 | none => l ++ [m]
theorem addM_t {l : List Mk} {m : Mk} {k : Nat} (hk : k < l.length) (h : fdx m.x m.y l = k) : addM l m = l.set k { l[k] with n := l[k].n + 1 } := by
 unfold addM; rw [h, List.getElem?_eq_getElem hk]
theorem addM_f {l : List Mk} {m : Mk} (h : fdx m.x m.y l = l.length) : addM l m = l ++ [m] := by
 unfold addM; rw [h, List.getElem?_eq_none (Nat.le_refl _)]
def stp (l : List Mk) : Option Mk → List Mk
 | none => l
 | some m => addM l m
def mbd (N : Int) (m : Mk) : Prop := -1000000 ≤ m.x ∧ m.x ≤ 1000000 ∧ -1000000 ≤ m.y ∧ m.y ≤ 1000000 ∧ -1000000 ≤ m.s ∧ m.s ≤ 1000000 ∧ 0 ≤ m.n ∧ m.n ≤ N
theorem mbd_le {N N' : Int} {m : Mk} (h : mbd N m) (k : N ≤ N') : mbd N' m := by unfold mbd at *; omega
theorem stp_mbd {N : Int} {l : List Mk} {o : Option Mk} (h : ∀ m ∈ l, mbd N m) (ho : ∀ m, o = some m → mbd (N + 1) m) : ∀ m ∈ stp l o, mbd (N + 1) m := by
  cases o with
  | none => exact fun m hm => mbd_le (h m hm) (by omega)
  | some q =>
    intro m hm
    show mbd (N + 1) m
    have hm : m ∈ addM l q := hm
    have hle := fdx_le q.x q.y l
    by_cases e : fdx q.x q.y l < l.length
    · rw [addM_t e rfl] at hm
      rcases List.mem_or_eq_of_mem_set hm with hm | rfl
      · exact mbd_le (h m hm) (by omega)
      · have := h _ (List.getElem_mem e)
        unfold mbd at *; simp; omega
    · rw [addM_f (by omega)] at hm
      rcases List.mem_append.1 hm with hm | hm
      · exact mbd_le (h m hm) (by omega)
      · rw [List.mem_singleton] at hm; subst hm; exact ho _ rfl
def fold (l : List Mk) : List (Option Mk) → List Mk
 | [] => l
 | o :: r => if 256 < (stp l o).length then stp l o else fold (stp l o) r
theorem fold_app (l : List Mk) : ∀ (a b : List (Option Mk)), l.length ≤ 256 → fold l (a ++ b) = if 256 < (fold l a).length then fold l a else fold (fold l a) b := by
 intro a
 induction a generalizing l with
 | nil => intro b h; rw [List.nil_append]; show _ = if 256 < l.length then l else fold l b; rw [if_neg (by omega)]
 | cons o a ih =>
  intro b h
  rw [List.cons_append, fold, fold]
  by_cases e : 256 < (stp l o).length
  · rw [if_pos e, if_pos e, if_pos e]
  · rw [if_neg e, if_neg e]; exact ih _ b (by omega)
end Fi
end Go.Proofs.Ytbinlkobmlebpaa
namespace Go.Proofs.Ytbinlkobmlebpaa
open Go.RowKit Sym
namespace Fi
abbrev lc (dk : List Bool) (f st : Nat) : Nat → Bool := fun k => dk.getD (f + k * st) false
def vis (W H : Nat) (dk : List Bool) (sh : List Int) (kd : Bool) (y run : Nat) : Option (Option Mk) :=
 match patv (eds (lc dk (y * W) 1) W) (lc dk (y * W) 1 0) kd sh run with
 | none => none
 | some q => some (jud q.1 q.2 y (eds (lc dk (q.1 + q.2 / 2).toNat W) H) (lc dk (q.1 + q.2 / 2).toNat W 0) kd sh)
theorem vis_n {W H : Nat} {dk : List Bool} {sh : List Int} {kd : Bool} {y run : Nat} (h : patv (eds (lc dk (y * W) 1) W) (lc dk (y * W) 1 0) kd sh run = none) : vis W H dk sh kd y run = none := by unfold vis; rw [h]
theorem vis_s {W H : Nat} {dk : List Bool} {sh : List Int} {kd : Bool} {y run x : Nat} {q : Int × Int} (h : patv (eds (lc dk (y * W) 1) W) (lc dk (y * W) 1 0) kd sh run = some q) (hx : q.1 + q.2 / 2 = x) : vis W H dk sh kd y run = some (jud q.1 q.2 y (eds (lc dk x W) H) (lc dk x W 0) kd sh) := by unfold vis; rw [h]; simp only []; rw [hx, Int.toNat_natCast]
def rowC (W H : Nat) (dk : List Bool) (sh : List Int) (kd : Bool) (y k : Nat) : List (Option Mk) := (List.range k).filterMap (vis W H dk sh kd y)
def runs (W : Nat) (dk : List Bool) (y : Nat) : Nat := (eds (lc dk (y * W) 1) W).length
def allC (W H : Nat) (dk : List Bool) (sh : List Int) (kd : Bool) (y k : Nat) : List (Option Mk) := (List.range y).flatMap (fun y => rowC W H dk sh kd y (runs W dk y)) ++ rowC W H dk sh kd y k
theorem allC_n {W H : Nat} {dk : List Bool} {sh : List Int} {kd : Bool} {y k : Nat} (h : vis W H dk sh kd y k = none) : allC W H dk sh kd y (k + 1) = allC W H dk sh kd y k := by
 unfold allC rowC; rw [List.range_succ, List.filterMap_append]; simp [h]
theorem allC_s {W H : Nat} {dk : List Bool} {sh : List Int} {kd : Bool} {y k : Nat} {o : Option Mk} (h : vis W H dk sh kd y k = some o) : allC W H dk sh kd y (k + 1) = allC W H dk sh kd y k ++ [o] := by
 unfold allC rowC; rw [List.range_succ, List.filterMap_append]; simp [h]
theorem allC_y {W H : Nat} {dk : List Bool} {sh : List Int} {kd : Bool} {y : Nat} : allC W H dk sh kd y (runs W dk y) = allC W H dk sh kd (y + 1) 0 := by
 unfold allC; rw [List.range_succ, List.flatMap_append]; simp [rowC]
theorem range_pre {a b : Nat} (h : a ≤ b) : ∃ r, List.range b = List.range a ++ r := by
 obtain ⟨c, rfl⟩ : ∃ c, b = a + c := ⟨b - a, by omega⟩
 induction c with
 | zero => exact ⟨[], by simp⟩
 | succ c ih => obtain ⟨r, hr⟩ := ih (by omega); exact ⟨r ++ [a + c], by rw [← Nat.add_assoc, List.range_succ, hr, List.append_assoc]⟩
theorem allC_pre {W H : Nat} {dk : List Bool} {sh : List Int} {kd : Bool} {y k : Nat} (hy : y < H) (hk : k ≤ runs W dk y) : ∃ r, allC W H dk sh kd H 0 = allC W H dk sh kd y k ++ r := by
 obtain ⟨r1, h1⟩ := range_pre (show y + 1 ≤ H by omega)
 obtain ⟨r2, h2⟩ := range_pre hk
 refine ⟨r2.filterMap (vis W H dk sh kd y) ++ r1.flatMap (fun y => rowC W H dk sh kd y (runs W dk y)), ?_⟩
 have e : rowC W H dk sh kd y (runs W dk y) = rowC W H dk sh kd y k ++ r2.filterMap (vis W H dk sh kd y) := by unfold rowC; rw [h2, List.filterMap_append]
 unfold allC
 rw [h1, List.flatMap_append, List.range_succ, List.flatMap_append]
 simp only [List.flatMap_cons, List.flatMap_nil, List.append_nil]
 rw [e]
 show _ ++ rowC W H dk sh kd H 0 = _
 rw [show rowC W H dk sh kd H 0 = [] from rfl]
 simp
theorem fold_one {l : List Mk} {o : Option Mk} : fold l [o] = stp l o := by
 unfold fold; split
 · rfl
 · rfl
theorem fold_snoc {a : List (Option Mk)} {o : Option Mk} (h : (fold [] a).length ≤ 256) : fold [] (a ++ [o]) = stp (fold [] a) o := by
 rw [fold_app [] a [o] (by simp), if_neg (by omega), fold_one]
theorem fold_stop {a r : List (Option Mk)} (h : 256 < (fold [] a).length) : fold [] (a ++ r) = fold [] a := by
 rw [fold_app [] a r (by simp), if_pos h]
theorem patv_T {c : Nat → Bool} {n : Nat} {d0 kd : Bool} {sh : List Int} {run : Int} {q : Int × Int} (h : patv (eds c n) d0 kd sh run = some q) (hp : 0 < sh.length) : 0 ≤ q.1 ∧ 1 ≤ q.2 ∧ q.1 + q.2 ≤ n := by
 obtain ⟨r, _, h1, _, rfl, _⟩ := patv_in h
 have e1 : (eds c n).getD r 0 = (eds c n)[r]'(by omega) := by rw [List.getD_eq_getElem?_getD, List.getElem?_eq_getElem (by omega)]; rfl
 have e2 : (eds c n).getD (r + sh.length) 0 = (eds c n)[r + sh.length] := by rw [List.getD_eq_getElem?_getD, List.getElem?_eq_getElem h1]; rfl
 have b1 := eds_mem _ (List.getElem_mem (show r < (eds c n).length by omega))
 have b2 := eds_mem _ (List.getElem_mem h1)
 have hlt := List.pairwise_iff_getElem.1 (eds_srt c n) r (r + sh.length) (by omega) h1 (by omega)
 show 0 ≤ (eds c n).getD r 0 ∧ 1 ≤ (eds c n).getD (r + sh.length) 0 - (eds c n).getD r 0 ∧ (eds c n).getD r 0 + ((eds c n).getD (r + sh.length) 0 - (eds c n).getD r 0) ≤ n
 omega
theorem jud_mbd {b T y : Int} {es : List Int} {d0 kd : Bool} {sh : List Int} {m : Mk} (h : jud b T y es d0 kd sh = some m) (hb : ∀ x ∈ es, 0 ≤ x ∧ x ≤ 4096) (hbb : 0 ≤ b ∧ b ≤ 4096) (hT : -4096 ≤ T ∧ T ≤ 4096) : mbd 1 m := by
  unfold jud at h
  split at h
  · cases h
  · rename_i q hq
    have := patv_b hq hb (by decide)
    split at h
    · cases h
    · rw [← Option.some.inj h]; unfold mbd; simp only []; omega
theorem at_lt {W H x y : Nat} (hx : x < W) (hy : y < H) : x + y * W < W * H := by
 have := Nat.mul_le_mul_right W (show y + 1 ≤ H by omega)
 rw [Nat.add_mul, Nat.one_mul] at this
 rw [Nat.mul_comm W H]; omega
end Fi
end Go.Proofs.Ytbinlkobmlebpaa
namespace Go.Proofs.Ytbinlkobmlebpaa
open Go.RowKit Sym
theorem elem_Tint : Elem Try.prog 3 1 8 := elem_of (z := .int .i64 0) (by kernel_rfl) rfl (by decide)
open Fi
theorem gb {l : List Bool} {k : Nat} (h : k < l.length) : l[k] = l.getD k false := by rw [List.getD_eq_getElem?_getD, List.getElem?_eq_getElem h]; rfl
theorem gi {l : List Int} {k : Nat} (h : k < l.length) : l[k] = l.getD k 0 := by rw [List.getD_eq_getElem?_getD, List.getElem?_eq_getElem h]; rfl
set_option maxHeartbeats 1000000 in
theorem newLine_ret (p : Value) (dk : List Bool) (f st n : Nat) (w : World) (hp : RdL Value.bool w p dk) (hn : 1 ≤ n ∧ n ≤ 4096) (hin : ∀ k, k < n → f + k * st < dk.length) (hl : dk.length ≤ 4194304) :
  Ret Try.prog 98 #[p, i64 f, i64 st, i64 n] w fun v w' => ∃ ve, v = .agg #[ve, .bool ((lc dk f st) 0)] ∧ M w Nn w' [Rg.sl i64 3 ve (eds (lc dk f st) n)] := by
 have hM := M.start w
 refine enter Try.func98 rfl (by kernel_rfl) Try.ntmps98 rfl ?_
 refine C.seq <| C.region <| ?_
 refine E.allocM (z := .agg #[.slice none 0 0, .bool false]) (cs := [.slice none 0 0, .bool false]) hM (by kernel_rfl) rfl rfl ?_
 intro b8 w0 hM
 try dsimp only [Za, Zb, Zc, Zd, repl] at hM
 refine E.nil <| X.next <| C.seq <| C.region <| E.mv rfl rfl <| E.mv rfl rfl <| ?_
 have h0 := hin 0 (by omega)
 rw [Nat.zero_mul, Nat.add_zero] at h0
 refine E.get (k := f) rfl rfl (hM.arg0 hp) rfl h0 Try.underlying35 (by kernel_rfl) Try.underlying4 rfl rfl rfl ?_
 rw [gb h0, show dk.getD f false = (lc dk f st) 0 by unfold lc; rw [Nat.zero_mul, Nat.add_zero]]
 refine E.buildC (cs := [_, _]) [.slice none 0 0, .bool false] [1] rfl rfl (by kernel_rfl) rfl ?_
 refine E.allocM (z := .agg #[.slice none 0 0, .bool false]) (cs := [.slice none 0 0, .bool false]) hM (by kernel_rfl) rfl rfl ?_
 intro b9 w1 hM
 try dsimp only [Za, Zb, Zc, Zd, repl] at hM
 first
  | refine E.storeAM 0 hM rfl rfl rfl (by kernel_rfl) rfl ?_ ?_
  | refine E.storeAM 1 hM rfl rfl rfl (by kernel_rfl) rfl ?_ ?_
  | refine E.storeAM 2 hM rfl rfl rfl (by kernel_rfl) rfl ?_ ?_
  | refine E.storeAM 3 hM rfl rfl rfl (by kernel_rfl) rfl ?_ ?_
  | refine E.storeAM 4 hM rfl rfl rfl (by kernel_rfl) rfl ?_ ?_
 · exact ones (by rfl) <| ones (by rfl) <| ones_nil
 intro w2 hM
 try dsimp only [Za, Zb, Zc, Zd, repl] at hM
 refine E.nil <| X.next <| C.seq <| C.seq <| C.region <| E.mv rfl rfl <| E.mv rfl rfl <| E.nil <| X.next <| C.block <| ?_
 have hM := hM.nil i64 3
 try dsimp only [Za, Zb, Zc, Zd, repl] at hM

 refine C.loop2 [(0, _), (1, _), (2, _), (3, _), (8, _), (9, _), (16, _)] rfl (fun (k : Nat) (ve : Value) => [(17, i64 k)]) (fun (k : Nat) (ve : Value) w' => M w (Nn) w' [Rg.blk b8 153 [nls, .bool false], Rg.blk b9 153 [ve, .bool ((lc dk f st) 0)], Rg.sl i64 3 ve (edg (lc dk f st) k)] ∧ k ≤ n) (fun (k : Nat) (ve : Value) => n - k) 0 nls ?_ ?_ ?_
 · exact Sub.cons rfl <| Sub.nil _
 · exact ⟨hM, Nat.zero_le _⟩
 rintro k ve w3 ⟨hM, hk⟩
 refine C.seq <| C.region <| E.bin rfl rfl rfl rfl <| E.nil <| X.next <| C.seq <| ?_
 refine C.cond' rfl (fun hC0 => ?_) (fun hC0 => ?_)
 ·
  have hk' : k < n := by omega
  have hik := hin k hk'
  have hel := edg_len (lc dk f st) k
  refine C.skip <| X.next <| ?_

  refine C.cut1 [(0, _), (1, _), (2, _), (3, _), (8, _), (9, _), (16, _), (17, _)] rfl (fun (ve : Value) => []) (fun (ve : Value) w' => M w (Nn) w' [Rg.blk b8 153 [nls, .bool false], Rg.blk b9 153 [ve, .bool ((lc dk f st) 0)], Rg.sl i64 3 ve (edg (lc dk f st) (k + 1))]) ?_ ?_
  ·
   refine C.block <| C.seq <| C.region <| E.mv rfl rfl <| E.asg rfl rfl <| E.nil <| X.next <| ?_

   refine C.chainQ [(0, _), (1, _), (2, _), (3, _), (8, _), (9, _), (10, _), (16, _), (17, _)] rfl [(41, .bool (decide (k = 0 ∨ (lc dk f st) k ≠ (lc dk f st) (k - 1))))] ?_ ?_
   ·
    refine C.drawn (by kernel_rfl) (by kernel_rfl) <| Q.mv rfl rfl <| Q.bin rfl rfl rfl rfl <| Q.mv rfl rfl <| ?_
    refine Q.split 22 rfl (fun g22 => ?_) (fun g22 => ?_)
    ·
     try simp only [Ya, Yb, Yc, Yd, Ye, Yf] at g22
     refine Q.off rfl rfl rfl rfl <| Q.off rfl rfl rfl rfl <| Q.off rfl rfl rfl rfl <| Q.off rfl rfl rfl rfl <| Q.off rfl rfl rfl rfl <| Q.off rfl rfl rfl rfl <| Q.off rfl rfl rfl rfl <| Q.off rfl rfl rfl rfl <| Q.off rfl rfl rfl rfl <| Q.off rfl rfl rfl rfl <| Q.off rfl rfl rfl rfl <| Q.off rfl rfl rfl rfl <| Q.off rfl rfl rfl rfl <| Q.off rfl rfl rfl rfl <| Q.off rfl rfl rfl rfl <| Q.off rfl rfl rfl rfl <| Q.off rfl rfl rfl rfl <| Q.off rfl rfl rfl rfl <| Q.pick rfl rfl rfl <| Q.nil <| fun w4 hx4 => ?_
     refine X.join0 (Sub.cons (look_eq rfl (congrArg Value.bool (by exact (decide_eq_true (.inl (by omega))).symm))) <| Sub.nil _) rfl hx4
    ·
     try simp only [Ya, Yb, Yc, Yd, Ye, Yf] at g22
     have hi1 := hin (k - 1) (by omega)
     refine Q.on rfl rfl (Q.mv rfl rfl ?_)
     refine Q.on rfl rfl (Q.mv rfl rfl ?_)
     refine Q.on rfl rfl (Q.mv rfl rfl ?_)
     refine Q.on rfl rfl (Q.mv rfl rfl ?_)
     refine Q.on rfl rfl (Q.mulN (a := k) (b := st) rfl rfl (by omega) rfl ?_)
     refine Q.on rfl rfl (Q.addN (a := f) (b := k * st) rfl rfl (by omega) rfl ?_)
     refine Q.on rfl rfl (Q.idx1 (k := f + k * st) rfl rfl (hM.arg0 hp) rfl hik Try.underlying35 (by kernel_rfl) rfl ?_)
     refine Q.on rfl rfl (Q.load rfl Try.underlying4 rfl ((hM.arg0 hp).cellA rfl hik) rfl ?_)
     rw [gb hik]
     refine Q.on rfl rfl (Q.mv rfl rfl ?_)
     refine Q.on rfl rfl (Q.mv rfl rfl ?_)
     refine Q.on rfl rfl (Q.mv rfl rfl ?_)
     refine Q.on rfl rfl (Q.subN (a := k) (b := 1) rfl rfl (by omega) rfl ?_)
     refine Q.on rfl rfl (Q.mv rfl rfl ?_)
     refine Q.on rfl rfl (Q.mulN (a := k - 1) (b := st) rfl rfl (by omega) rfl ?_)
     refine Q.on rfl rfl (Q.addN (a := f) (b := (k - 1) * st) rfl rfl (by omega) rfl ?_)
     refine Q.on rfl rfl (Q.idx1 (k := f + (k - 1) * st) rfl rfl (hM.arg0 hp) rfl hi1 Try.underlying35 (by kernel_rfl) rfl ?_)
     refine Q.on rfl rfl (Q.load rfl Try.underlying4 rfl ((hM.arg0 hp).cellA rfl hi1) rfl ?_)
     rw [gb hi1]
     refine Q.on rfl rfl (Q.neb rfl rfl Try.underlying4 rfl ?_)
     refine Q.pick rfl rfl rfl <| Q.nil <| fun w5 hx5 => ?_
     refine X.join0 (Sub.cons (look_eq rfl (congrArg Value.bool (by (rw [Bool.eq_iff_iff]; have hk0 : k ≠ 0 := (by omega); simp [hk0, lc])))) <| Sub.nil _) rfl hx5
   intro w6 hx6
   have hM := hM.ext hx6
   refine C.cond' rfl (fun hC1 => ?_) (fun hC1 => ?_)
   ·
    refine C.region <| ?_
    refine E.fld (o := 0) (sz := 0) rfl Try.underlying153 rfl rfl (by kernel_rfl) rfl ?_
    refine E.load rfl Try.underlying45 rfl (hM.bcell 1 rfl rfl) rfl ?_
    refine E.mv rfl rfl <| ?_
    refine E.pushM (enc := i64) 2 (k : Int) hM rfl rfl rfl Try.underlying45 elem_Tint rfl (by omega) (by omega) (by simp) rfl rfl ?_
    intro v46 u46 w7 hM
    try dsimp only [Za, Zb, Zc, Zd, repl] at hM
    refine E.fld (o := 0) (sz := 0) rfl Try.underlying153 rfl rfl (by kernel_rfl) rfl ?_
    refine E.storeM 1 hM rfl rfl rfl (by kernel_rfl) (hM.sl 2 rfl).one rfl ?_
    intro w8 hM
    try dsimp only [Za, Zb, Zc, Zd, repl] at hM

    refine E.nil <| X.outN <| X.join1 _ (Sub.nil _) rfl (by rw [edg_t hC1]; exact hM)
   ·

    refine C.skip <| X.outN <| X.join1 _ (Sub.nil _) rfl (by rw [edg_f hC1]; exact hM)
  rintro ve w9 hM
  refine C.region <| ?_
  refine E.add rfl rfl (by omega) rfl ?_

  refine E.mv rfl rfl <| E.nil <| X.again2 (k + 1) _ (Sub.cons rfl <| Sub.nil _) rfl ⟨hM, by omega⟩ (by omega)
 ·
  obtain rfl : k = n := by omega
  have hel := edg_len (lc dk f st) k
  refine C.exit <| X.exitT <| X.exitT <| X.outE <| X.next <| C.seq <| C.region <| ?_
  refine E.fld (o := 0) (sz := 0) rfl Try.underlying153 rfl rfl (by kernel_rfl) rfl ?_
  refine E.load rfl Try.underlying45 rfl (hM.bcell 1 rfl rfl) rfl ?_
  refine E.mv rfl rfl <| ?_
  refine E.pushM (enc := i64) 2 (k : Int) hM rfl rfl rfl Try.underlying45 elem_Tint rfl (by omega) (by omega) (by simp) rfl rfl ?_
  intro v53 u53 w10 hM
  try dsimp only [Za, Zb, Zc, Zd, repl] at hM
  refine E.fld (o := 0) (sz := 0) rfl Try.underlying153 rfl rfl (by kernel_rfl) rfl ?_
  refine E.storeM 1 hM rfl rfl rfl (by kernel_rfl) (hM.sl 2 rfl).one rfl ?_
  intro w11 hM
  try dsimp only [Za, Zb, Zc, Zd, repl] at hM
  refine E.nil <| X.next <| C.seq <| C.region <| ?_
  refine E.loadA rfl Try.underlying153 rfl (by kernel_rfl) (hM.bat 1 rfl) rfl ?_
  refine E.storeAM 0 hM rfl rfl rfl (by kernel_rfl) rfl (ones (hM.sl 2 rfl).one <| ones rfl <| ones_nil) ?_
  intro w12 hM
  try dsimp only [Za, Zb, Zc, Zd, repl] at hM
  refine E.nil <| X.next <| C.ret <| retA rfl rfl Try.underlying153 rfl (by exact hM.blk 0 rfl) (by kernel_rfl) ?_
  exact ⟨_, rfl, hM.pick [2] (by decide)⟩
structure Kind (kv : Value) (sh : List Int) (kd : Bool) : Prop where
 len : sh.length ≤ 7
 pos : 0 < sh.length
 small : ∀ x ∈ sh, 0 ≤ x ∧ x ≤ 3
 is : ∃ t v f1 f2, kv = .iface t v ∧ Meth Try.prog t v "barscan/finder.proportions" f1 ∧ (∀ w, Ret Try.prog f1 #[v] w fun r w' => M w Nn w' [Rg.sl i64 3 r sh]) ∧ Meth Try.prog t v "barscan/finder.dark" f2 ∧ ∀ w, Ret Try.prog f2 #[v] w fun r w' => r = .bool kd ∧ Ext w w'
theorem sq_prop (w : World) :
  Ret Try.prog 134 #[.agg #[]] w fun v w' => M w Nn w' [Rg.sl i64 3 v [1, 1, 3, 1, 1]] := by
 have hM := M.start w
 refine enter Try.func134 rfl (by kernel_rfl) Try.ntmps134 rfl ?_
 refine C.seq <| C.region <| ?_
 refine E.boxM (cs := []) hM rfl rfl rfl ?_
 intro b1 w0 hM
 try dsimp only [Za, Zb, Zc, Zd, repl] at hM
 refine E.asg rfl rfl <| E.nil <| X.next <| C.seq <| C.region <| ?_
 refine E.mkM (enc := i64) (e := 3) [1, 1, 3, 1, 1] hM rfl (fun _ => by kernel_rfl) rfl rfl rfl ?_
 intro v3 w1 hM
 try dsimp only [Za, Zb, Zc, Zd, repl] at hM
 refine E.asg rfl rfl <| E.nil <| X.next <| C.ret <| ret1 rfl rfl ?_
 exact hM.pick [1] (by decide)
theorem sq_dark (w : World) :
  Ret Try.prog 133 #[.agg #[]] w fun v w' => v = .bool true ∧ Ext w w' := by
 have hM := M.start w
 refine enter Try.func133 rfl (by kernel_rfl) Try.ntmps133 rfl ?_
 refine C.seq <| C.region <| ?_
 refine E.boxM (cs := []) hM rfl rfl rfl ?_
 intro b1 w0 hM
 try dsimp only [Za, Zb, Zc, Zd, repl] at hM
 refine E.asg rfl rfl <| E.nil <| X.next <| C.seq <| C.region <| E.asg rfl rfl <| E.nil <| X.next <| C.ret <| ret1 rfl rfl ?_
 exact ⟨rfl, hM.toExt⟩
theorem kind_sq : Kind (.iface 103 (.agg #[])) [1, 1, 3, 1, 1] true := ⟨by decide, by decide, by decide, _, _, 134, 133, rfl, fun _ => by kernel_rfl, sq_prop, fun _ => by kernel_rfl, sq_dark⟩
set_option maxHeartbeats 2000000 in
theorem lpattern_ret (kv ve : Value) (sh es : List Int) (d0 kd : Bool) (run : Int) (w : World) (hk : Kind kv sh kd) (he : RdL i64 w ve es) (hb : ∀ x ∈ es, 0 ≤ x ∧ x ≤ 4096) (hrun : -100 ≤ run ∧ run ≤ 100000) :
  Ret Try.prog 99 #[.agg #[ve, .bool d0], i64 run, kv] w fun v w' => v = patR (patv es d0 kd sh run) ∧ Ext w w' := by
 have hM := M.start w
 refine enter Try.func99 rfl (by kernel_rfl) Try.ntmps99 rfl ?_
 refine C.seq <| C.region <| ?_
 obtain ⟨t, kx, f1, f2, rfl, m1, c1, m2, c2⟩ := hk.is
 have hkl := hk.len
 have hks := hk.small
 have hle := Rd.le he
 refine E.boxM (cs := [ve, .bool d0]) hM rfl rfl rfl ?_
 intro b3 w0 hM
 try dsimp only [Za, Zb, Zc, Zd, repl] at hM
 refine E.asg rfl rfl <| E.asg rfl rfl <| E.asg rfl rfl <| E.nil <| X.next <| C.seq <| C.region <| E.mv rfl rfl <| ?_
 refine E.inv rfl rfl (m1) rfl (c1 _) ?_
 rintro v14 w1 m
 have hM := hM.call m
 try dsimp only [Za, Zb, Zc, Zd, repl] at hM
 refine E.asg rfl rfl <| E.nil <| X.next <| C.seq <| ?_

 refine C.cut0 [(1, _), (3, _), (9, _)] rfl [(37, .bool (decide (run < 0 ∨ (es.length : Int) ≤ run + sh.length ∨ ¬ (run % 2 = 0 ↔ d0 = kd))))] (fun w' => M w (Nn) w' [Rg.blk b3 153 [ve, .bool d0], Rg.sl i64 3 v14 sh]) ?_ ?_
 ·
  refine C.heldE (by kernel_rfl) fun wh2 hwh2 _ => ?_
  have hS := hwh2
  have hM0 := hM
  have hM := M.ofExt hwh2
  refine H.take 0 rfl rfl (by kernel_rfl) (by kernel_rfl) (by kernel_rfl) hS (fun w' hS => by have hM := hM0.ext hS; exact Y.mv rfl) rfl ?_
  refine H.take 1 rfl rfl (by kernel_rfl) (by kernel_rfl) (by kernel_rfl) hS (fun w' hS => by have hM := hM0.ext hS; exact Y.bin rfl rfl rfl) rfl ?_
  refine H.take 2 rfl rfl (by kernel_rfl) (by kernel_rfl) (by kernel_rfl) hS (fun w' hS => by have hM := hM0.ext hS; exact Y.mv rfl) rfl ?_
  refine H.split 17 rfl (fun g17 => ?_) (fun g17 => ?_)
  ·
   try simp only [Ya, Yb, Yc, Yd, Ye, Yf] at g17
   refine H.take 3 rfl rfl (by kernel_rfl) (by kernel_rfl) (by kernel_rfl) hS (fun w' hS => by have hM := hM0.ext hS; exact Y.off rfl rfl rfl) rfl ?_
   refine H.take 4 rfl rfl (by kernel_rfl) (by kernel_rfl) (by kernel_rfl) hS (fun w' hS => by have hM := hM0.ext hS; exact Y.off rfl rfl rfl) rfl ?_
   refine H.take 5 rfl rfl (by kernel_rfl) (by kernel_rfl) (by kernel_rfl) hS (fun w' hS => by have hM := hM0.ext hS; exact Y.off rfl rfl rfl) rfl ?_
   refine H.take 6 rfl rfl (by kernel_rfl) (by kernel_rfl) (by kernel_rfl) hS (fun w' hS => by have hM := hM0.ext hS; exact Y.off rfl rfl rfl) rfl ?_
   refine H.take 7 rfl rfl (by kernel_rfl) (by kernel_rfl) (by kernel_rfl) hS (fun w' hS => by have hM := hM0.ext hS; exact Y.off rfl rfl rfl) rfl ?_
   refine H.only 8 rfl (by kernel_rfl) ?_
   refine E.off rfl rfl rfl rfl ?_
   have hS := hM.toExt
   refine H.back hS ?_
   refine H.take 9 rfl rfl (by kernel_rfl) (by kernel_rfl) (by kernel_rfl) hS (fun w' hS => by have hM := hM0.ext hS; exact Y.off rfl rfl rfl) rfl ?_
   refine H.take 10 rfl rfl (by kernel_rfl) (by kernel_rfl) (by kernel_rfl) hS (fun w' hS => by have hM := hM0.ext hS; exact Y.off rfl rfl rfl) rfl ?_
   refine H.take 11 rfl rfl (by kernel_rfl) (by kernel_rfl) (by kernel_rfl) hS (fun w' hS => by have hM := hM0.ext hS; exact Y.pick rfl rfl) rfl ?_
   refine H.take 12 rfl rfl (by kernel_rfl) (by kernel_rfl) (by kernel_rfl) hS (fun w' hS => by have hM := hM0.ext hS; exact Y.mv rfl) rfl ?_
   refine H.take 13 rfl rfl (by kernel_rfl) (by kernel_rfl) (by kernel_rfl) hS (fun w' hS => by have hM := hM0.ext hS; exact Y.off rfl rfl rfl) rfl ?_
   refine H.take 14 rfl rfl (by kernel_rfl) (by kernel_rfl) (by kernel_rfl) hS (fun w' hS => by have hM := hM0.ext hS; exact Y.off rfl rfl rfl) rfl ?_
   refine H.take 15 rfl rfl (by kernel_rfl) (by kernel_rfl) (by kernel_rfl) hS (fun w' hS => by have hM := hM0.ext hS; exact Y.off rfl rfl rfl) rfl ?_
   refine H.take 16 rfl rfl (by kernel_rfl) (by kernel_rfl) (by kernel_rfl) hS (fun w' hS => by have hM := hM0.ext hS; exact Y.off rfl rfl rfl) rfl ?_
   refine H.take 18 rfl rfl (by kernel_rfl) (by kernel_rfl) (by kernel_rfl) hS (fun w' hS => by have hM := hM0.ext hS; exact Y.off rfl rfl rfl) rfl ?_
   refine H.take 17 rfl rfl (by kernel_rfl) (by kernel_rfl) (by kernel_rfl) hS (fun w' hS => by have hM := hM0.ext hS; exact Y.off rfl rfl rfl) rfl ?_
   refine H.only 19 rfl (by kernel_rfl) ?_
   refine E.off rfl rfl rfl rfl ?_
   have hS := hM.toExt
   refine H.back hS ?_
   refine H.take 20 rfl rfl (by kernel_rfl) (by kernel_rfl) (by kernel_rfl) hS (fun w' hS => by have hM := hM0.ext hS; exact Y.off rfl rfl rfl) rfl ?_
   refine H.take 21 rfl rfl (by kernel_rfl) (by kernel_rfl) (by kernel_rfl) hS (fun w' hS => by have hM := hM0.ext hS; exact Y.off rfl rfl rfl) rfl ?_
   refine H.take 22 rfl rfl (by kernel_rfl) (by kernel_rfl) (by kernel_rfl) hS (fun w' hS => by have hM := hM0.ext hS; exact Y.pick rfl rfl) rfl ?_
   refine H.done (by kernel_rfl) ?_
   have hM := hM0.call hM

   refine X.join0  (Sub.cons (look_eq rfl (congrArg Value.bool (decide_eq_true (p := run < 0 ∨ (es.length : Int) ≤ run + sh.length ∨ ¬ (run % 2 = 0 ↔ d0 = kd)) (.inl g17)).symm)) <| Sub.nil _) rfl hM
  ·
   try simp only [Ya, Yb, Yc, Yd, Ye, Yf] at g17
   refine H.take 3 rfl rfl (by kernel_rfl) (by kernel_rfl) (by kernel_rfl) hS (fun w' hS => by have hM := hM0.ext hS; exact Y.on rfl rfl (Y.mv rfl)) rfl ?_
   refine H.take 4 rfl rfl (by kernel_rfl) (by kernel_rfl) (by kernel_rfl) hS (fun w' hS => by have hM := hM0.ext hS; exact Y.on rfl rfl (Y.mv rfl)) rfl ?_
   refine H.takeV 5 rfl rfl (by kernel_rfl) (by kernel_rfl) (by kernel_rfl) hS (Y.on rfl rfl (Y.lenv rfl (Rd.shape ((hM0.ext hS).sl 1 rfl)) Try.underlying45)) (fun w' hS => by have hM := hM0.ext hS; exact Y.on rfl rfl (Y.lenv rfl (Rd.shape (hM.sl 1 rfl)) Try.underlying45)) rfl ?_
   refine H.take 6 rfl rfl (by kernel_rfl) (by kernel_rfl) (by kernel_rfl) hS (fun w' hS => by have hM := hM0.ext hS; exact Y.on rfl rfl (Y.add rfl rfl (by omega))) rfl ?_
   refine H.takeV 7 rfl rfl (by kernel_rfl) (by kernel_rfl) (by kernel_rfl) hS (Y.on rfl rfl (Y.fld (o := 0) (sz := 0) rfl Try.underlying153 rfl rfl (by kernel_rfl))) (fun w' hS => by have hM := hM0.ext hS; exact Y.on rfl rfl (Y.fld (o := 0) (sz := 0) rfl Try.underlying153 rfl rfl (by kernel_rfl))) rfl ?_
   refine H.only 8 rfl (by kernel_rfl) ?_
   refine E.on rfl rfl (E.load rfl Try.underlying45 rfl ((hM0.ext hM.toExt).bcell 0 rfl rfl) rfl ?_)
   have hS := hM.toExt
   refine H.back hS ?_
   refine H.takeV 9 rfl rfl (by kernel_rfl) (by kernel_rfl) (by kernel_rfl) hS (Y.on rfl rfl (Y.lenv rfl (Rd.shape ((hM0.ext hS).arg0 he)) Try.underlying45)) (fun w' hS => by have hM := hM0.ext hS; exact Y.on rfl rfl (Y.lenv rfl (Rd.shape (hM.arg0 he)) Try.underlying45)) rfl ?_
   refine H.take 10 rfl rfl (by kernel_rfl) (by kernel_rfl) (by kernel_rfl) hS (fun w' hS => by have hM := hM0.ext hS; exact Y.on rfl rfl (Y.bin rfl rfl rfl)) rfl ?_
   refine H.take 11 rfl rfl (by kernel_rfl) (by kernel_rfl) (by kernel_rfl) hS (fun w' hS => by have hM := hM0.ext hS; exact Y.pick rfl rfl) rfl ?_
   refine H.take 12 rfl rfl (by kernel_rfl) (by kernel_rfl) (by kernel_rfl) hS (fun w' hS => by have hM := hM0.ext hS; exact Y.mv rfl) rfl ?_
   refine H.split 27 rfl (fun g27 => ?_) (fun g27 => ?_)
   ·
    try simp only [Ya, Yb, Yc, Yd, Ye, Yf] at g27
    refine H.take 13 rfl rfl (by kernel_rfl) (by kernel_rfl) (by kernel_rfl) hS (fun w' hS => by have hM := hM0.ext hS; exact Y.off rfl rfl rfl) rfl ?_
    refine H.take 14 rfl rfl (by kernel_rfl) (by kernel_rfl) (by kernel_rfl) hS (fun w' hS => by have hM := hM0.ext hS; exact Y.off rfl rfl rfl) rfl ?_
    refine H.take 15 rfl rfl (by kernel_rfl) (by kernel_rfl) (by kernel_rfl) hS (fun w' hS => by have hM := hM0.ext hS; exact Y.off rfl rfl rfl) rfl ?_
    refine H.take 16 rfl rfl (by kernel_rfl) (by kernel_rfl) (by kernel_rfl) hS (fun w' hS => by have hM := hM0.ext hS; exact Y.off rfl rfl rfl) rfl ?_
    refine H.take 18 rfl rfl (by kernel_rfl) (by kernel_rfl) (by kernel_rfl) hS (fun w' hS => by have hM := hM0.ext hS; exact Y.off rfl rfl rfl) rfl ?_
    refine H.take 17 rfl rfl (by kernel_rfl) (by kernel_rfl) (by kernel_rfl) hS (fun w' hS => by have hM := hM0.ext hS; exact Y.off rfl rfl rfl) rfl ?_
    refine H.only 19 rfl (by kernel_rfl) ?_
    refine E.off rfl rfl rfl rfl ?_
    have hS := hM.toExt
    refine H.back hS ?_
    refine H.take 20 rfl rfl (by kernel_rfl) (by kernel_rfl) (by kernel_rfl) hS (fun w' hS => by have hM := hM0.ext hS; exact Y.off rfl rfl rfl) rfl ?_
    refine H.take 21 rfl rfl (by kernel_rfl) (by kernel_rfl) (by kernel_rfl) hS (fun w' hS => by have hM := hM0.ext hS; exact Y.off rfl rfl rfl) rfl ?_
    refine H.take 22 rfl rfl (by kernel_rfl) (by kernel_rfl) (by kernel_rfl) hS (fun w' hS => by have hM := hM0.ext hS; exact Y.pick rfl rfl) rfl ?_
    refine H.done (by kernel_rfl) ?_
    have hM := hM0.call hM

    refine X.join0  (Sub.cons (look_eq rfl (congrArg Value.bool (decide_eq_true (p := run < 0 ∨ (es.length : Int) ≤ run + sh.length ∨ ¬ (run % 2 = 0 ↔ d0 = kd)) (.inr (.inl g27))).symm)) <| Sub.nil _) rfl hM
   ·
    try simp only [Ya, Yb, Yc, Yd, Ye, Yf] at g27
    refine H.take 13 rfl rfl (by kernel_rfl) (by kernel_rfl) (by kernel_rfl) hS (fun w' hS => by have hM := hM0.ext hS; exact Y.on rfl rfl (Y.mv rfl)) rfl ?_
    refine H.take 14 rfl rfl (by kernel_rfl) (by kernel_rfl) (by kernel_rfl) hS (fun w' hS => by have hM := hM0.ext hS; exact Y.on rfl rfl (Y.rem rfl rfl (by omega) (IntWalk.rem_in _ _ (by omega)))) rfl ?_
    refine H.take 15 rfl rfl (by kernel_rfl) (by kernel_rfl) (by kernel_rfl) hS (fun w' hS => by have hM := hM0.ext hS; exact Y.on rfl rfl (Y.bin rfl rfl rfl)) rfl ?_
    refine H.takeV 16 rfl rfl (by kernel_rfl) (by kernel_rfl) (by kernel_rfl) hS (Y.on rfl rfl (Y.fld (o := 1) (sz := 0) rfl Try.underlying153 rfl rfl (by kernel_rfl))) (fun w' hS => by have hM := hM0.ext hS; exact Y.on rfl rfl (Y.fld (o := 1) (sz := 0) rfl Try.underlying153 rfl rfl (by kernel_rfl))) rfl ?_
    refine H.take 18 rfl rfl (by kernel_rfl) (by kernel_rfl) (by kernel_rfl) hS (fun w' hS => by have hM := hM0.ext hS; exact Y.on rfl rfl (Y.mv rfl)) rfl ?_
    refine H.takeV 17 rfl rfl (by kernel_rfl) (by kernel_rfl) (by kernel_rfl) hS (Y.on rfl rfl (Y.load rfl Try.underlying4 rfl ((hM0.ext hS).bcell 0 rfl rfl))) (fun w' hS => by have hM := hM0.ext hS; exact Y.on rfl rfl (Y.load rfl Try.underlying4 rfl (hM.bcell 0 rfl rfl))) rfl ?_
    refine H.only 19 rfl (by kernel_rfl) ?_
    refine E.on rfl rfl (E.inv rfl rfl (m2) rfl (c2 _) ?_)
    rintro _ w3 ⟨rfl, x3⟩
    have hM := hM.ext x3
    try dsimp only [Za, Zb, Zc, Zd, repl] at hM
    have hS := hM.toExt
    refine H.back hS ?_
    refine H.takeV 20 rfl rfl (by kernel_rfl) (by kernel_rfl) (by kernel_rfl) hS (Y.on rfl rfl (Y.eqb rfl rfl Try.underlying4)) (fun w' hS => by have hM := hM0.ext hS; exact Y.on rfl rfl (Y.eqb rfl rfl Try.underlying4)) rfl ?_
    refine H.takeV 21 rfl rfl (by kernel_rfl) (by kernel_rfl) (by kernel_rfl) hS (Y.on rfl rfl (Y.neb rfl rfl Try.underlying4)) (fun w' hS => by have hM := hM0.ext hS; exact Y.on rfl rfl (Y.neb rfl rfl Try.underlying4)) rfl ?_
    refine H.take 22 rfl rfl (by kernel_rfl) (by kernel_rfl) (by kernel_rfl) hS (fun w' hS => by have hM := hM0.ext hS; exact Y.pick rfl rfl) rfl ?_
    refine H.done (by kernel_rfl) ?_
    have hM := hM0.call hM

    refine X.join0  (Sub.cons (look_eq rfl (congrArg Value.bool (by have g1 : ¬ run < 0 := (by omega); have g2 : ¬ (es.length : Int) ≤ run + sh.length := (by omega); cases d0 <;> cases kd <;> by_cases h : run % 2 = 0 <;> simp [h, g1, g2]))) <| Sub.nil _) rfl hM
 rintro  w4 hM
 refine C.cond' rfl (fun hC0 => ?_) (fun hC0 => ?_)
 ·
  refine C.seq <| C.region <| E.asg rfl rfl <| E.asg rfl rfl <| E.asg rfl rfl <| E.nil <| X.next <| C.ret <| X.retT <| ret3 rfl rfl rfl rfl ?_
  exact ⟨by rw [patv_no hC0]; rfl, hM.toExt⟩
 ·
  obtain ⟨r, rfl⟩ : ∃ r : Nat, run = (r : Int) := ⟨run.toNat, by omega⟩
  have hr1 : r + sh.length < es.length := by omega
  have hr0 : r < es.length := by omega
  have br := getD_b hb (by decide) r
  have bR := getD_b hb (by decide) (r + sh.length)
  refine C.skip <| X.next <| C.seq <| C.region <| ?_
  refine E.fld (o := 0) (sz := 0) rfl Try.underlying153 rfl rfl (by kernel_rfl) rfl ?_
  refine E.load rfl Try.underlying45 rfl (hM.bcell 0 rfl rfl) rfl ?_
  refine E.mv rfl rfl <| ?_
  refine E.get (k := r) rfl rfl (hM.arg0 he) rfl hr0 Try.underlying45 (by kernel_rfl) Try.underlying3 rfl rfl rfl ?_
  rw [gi hr0]
  refine E.asg rfl rfl <| E.nil <| X.next <| C.seq <| C.region <| ?_
  refine E.fld (o := 0) (sz := 0) rfl Try.underlying153 rfl rfl (by kernel_rfl) rfl ?_
  refine E.load rfl Try.underlying45 rfl (hM.bcell 0 rfl rfl) rfl ?_
  refine E.mv rfl rfl <| E.mv rfl rfl <| ?_
  refine E.lenv rfl (Rd.shape (hM.sl 1 rfl)) Try.underlying45 rfl ?_
  refine E.addN (a := r) (b := sh.length) rfl rfl (by omega) rfl ?_
  refine E.get (k := r + sh.length) rfl rfl (hM.arg0 he) rfl hr1 Try.underlying45 (by kernel_rfl) Try.underlying3 rfl rfl rfl ?_
  rw [gi hr1]
  refine E.mv rfl rfl <| ?_
  refine E.sub' rfl rfl (by omega) rfl ?_
  obtain ⟨T, hT⟩ : ∃ z, z = es.getD (r + sh.length) 0 - es.getD r 0 := ⟨_, rfl⟩
  rw [← hT]
  refine E.asg rfl rfl <| E.nil <| X.next <| C.seq <| C.seq <| C.region <| E.mv rfl rfl <| ?_
  refine E.lenv rfl (Rd.shape (hM.sl 1 rfl)) Try.underlying45 rfl ?_
  refine E.mv rfl rfl <| E.nil <| X.next <| C.block <| ?_

  refine C.loop1 [(1, _), (3, _), (53, _), (54, _)] rfl (fun (k : Nat) => [(6, i64 (es.getD r 0)), (7, i64 T), (55, i64 k)]) (fun (k : Nat) w' => M w (Nn) w' [Rg.blk b3 153 [ve, .bool d0], Rg.sl i64 3 v14 sh] ∧ k ≤ sh.length ∧ ∀ i, i < k → fit1 es sh r T i) (fun (k : Nat) => sh.length - k) 0 ?_ ?_ ?_
  · exact Sub.cons rfl <| Sub.cons rfl <| Sub.cons rfl <| Sub.nil _
  · exact ⟨hM, Nat.zero_le _, fun i h => absurd h (Nat.not_lt_zero _)⟩
  rintro k w5 ⟨hM, hk', hfi⟩
  refine C.seq <| C.region <| E.bin rfl rfl rfl rfl <| E.nil <| X.next <| C.seq <| ?_
  refine C.cond' rfl (fun hC1 => ?_) (fun hC1 => ?_)
  ·
   have hks' : k < sh.length := by omega
   have b1 := getD_b hb (by decide) (r + k)
   have b2 := getD_b hb (by decide) (r + k + 1)
   have b4 := getD_b (N := 3) hks (by decide) k
   have b5 := mul_b (a := sh.getD k 0) (b := T) (A := 3) (B := 4096) (by omega) (by omega)
   refine C.skip <| X.next <| C.seq <| C.block <| C.seq <| C.region <| E.mv rfl rfl <| ?_
   refine E.get (k := k) rfl rfl (hM.sl 1 rfl) rfl hks' Try.underlying45 (by kernel_rfl) Try.underlying3 rfl rfl rfl ?_
   rw [gi hks']
   refine E.asg rfl rfl <| E.asg rfl rfl <| E.nil <| X.next <| C.seq <| C.drawn (by kernel_rfl) (by kernel_rfl) <| ?_
   refine Q.fld (o := 0) (sz := 0) rfl Try.underlying153 rfl rfl (by kernel_rfl) rfl ?_
   refine Q.load rfl Try.underlying45 rfl (hM.bcell 0 rfl rfl) rfl ?_
   refine Q.mv rfl rfl <| Q.mv rfl rfl <| ?_
   refine Q.addN (a := r) (b := k) rfl rfl (by omega) rfl ?_
   refine Q.addN (a := r + k) (b := 1) rfl rfl (by omega) rfl ?_
   refine Q.idx1 (k := r + k + 1) rfl rfl (hM.arg0 he) rfl (show r + k + 1 < es.length by omega) Try.underlying45 (by kernel_rfl) rfl ?_
   refine Q.load rfl Try.underlying3 rfl ((hM.arg0 he).cellA rfl (show r + k + 1 < es.length by omega)) rfl ?_
   rw [gi (show r + k + 1 < es.length by omega)]
   refine Q.fld (o := 0) (sz := 0) rfl Try.underlying153 rfl rfl (by kernel_rfl) rfl ?_
   refine Q.load rfl Try.underlying45 rfl (hM.bcell 0 rfl rfl) rfl ?_
   refine Q.mv rfl rfl <| Q.mv rfl rfl <| ?_
   refine Q.addN (a := r) (b := k) rfl rfl (by omega) rfl ?_
   refine Q.idx1 (k := r + k) rfl rfl (hM.arg0 he) rfl (show r + k < es.length by omega) Try.underlying45 (by kernel_rfl) rfl ?_
   refine Q.load rfl Try.underlying3 rfl ((hM.arg0 he).cellA rfl (show r + k < es.length by omega)) rfl ?_
   rw [gi (show r + k < es.length by omega)]
   refine Q.sub' rfl rfl (by omega) rfl ?_
   refine Q.mul rfl rfl (by omega) rfl ?_
   refine Q.mv rfl rfl <| Q.mv rfl rfl <| ?_
   refine Q.mul rfl rfl (by omega) rfl ?_
   refine Q.sub' rfl rfl (by omega) rfl ?_
   refine Q.asg rfl rfl <| Q.nil <| fun w6 hx6 => ?_
   have hM := hM.ext hx6
   refine X.next <| C.seq <| C.region <| E.mv rfl rfl <| E.mv rfl rfl <| ?_
   refine E.neg rfl (IntWalk.i64_in _ (by omega)) rfl ?_
   rw [Int.zero_sub]
   refine E.max2 rfl rfl rfl <| ?_
   refine E.mul rfl rfl (by omega) rfl ?_
   refine E.mv rfl rfl <| E.bin rfl rfl rfl rfl <| E.nil <| X.next <| ?_
   refine C.cond' rfl (fun hC2 => ?_) (fun hC2 => ?_)
   ·
    refine C.seq <| C.region <| E.asg rfl rfl <| E.asg rfl rfl <| E.asg rfl rfl <| E.nil <| X.next <| C.ret <| X.retB <| X.retT <| X.retT <| X.retB <| X.retT <| ret3 rfl rfl rfl rfl ?_
    exact ⟨by rw [patv_bad hks' (by rw [← hT]; unfold fit1; omega)]; rfl, hM.toExt⟩
   ·
    refine C.skip <| X.outN <| X.next <| C.region <| ?_
    refine E.add rfl rfl (by omega) rfl ?_

    refine E.mv rfl rfl <| E.nil <| X.again1 (k + 1) (Sub.cons rfl <| Sub.cons rfl <| Sub.cons rfl <| Sub.nil _) rfl ⟨hM, by omega, fun i hi => if e : i = k then by subst e; unfold fit1; omega else hfi i (by omega)⟩ (by omega)
  ·
   obtain rfl : k = sh.length := by omega
   refine C.exit <| X.exitT <| X.exitT <| X.outE <| X.next <| C.seq <| C.region <| E.mv rfl rfl <| E.mv rfl rfl <| E.asg rfl rfl <| E.asg rfl rfl <| E.asg rfl rfl <| E.nil <| X.next <| C.ret <| ret3 rfl rfl rfl rfl ?_
   exact ⟨by rw [patv_ok hC0 (by rw [← hT]; exact hfi), ← hT]; rfl, hM.toExt⟩
end Go.Proofs.Ytbinlkobmlebpaa
