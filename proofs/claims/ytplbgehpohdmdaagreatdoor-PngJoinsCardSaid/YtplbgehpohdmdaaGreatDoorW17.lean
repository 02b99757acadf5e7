/- Texts of the claim, laid together: DfI, Df16. -/
import Derived.Test.YtplbgehpohdmdaaGreatDoorW0
import Derived.Test.YtplbgehpohdmdaaGreatDoorW13
import Derived.Test.YtplbgehpohdmdaaGreatDoorW16
set_option linter.unusedSimpArgs false
set_option linter.unusedVariables false
namespace Go.Proofs.YtplbgehpohdmdaaGreatDoor
open Sym
namespace Df
noncomputable def fc (l : List Nat) (n : Nat) : Nat := Pf.np l n 0
def cn (l : List Nat) (n : Nat) : Nat := Pf.cnt l l.length n
theorem np_all {l : List Nat} {n : Nat} (h0 : 1 ≤ n) (hn : n ≤ 30) : ∀ i : Nat, i ≤ l.length → Pf.np l n i = fc l n + Pf.cnt l i n
  | 0, _ => by rw [Pf.cnt_zero]; rfl
  | i + 1, hi => by
    have ih := np_all (l := l) h0 hn i (by omega)
    have hi' : i < l.length := by omega
    by_cases e : (l[i]'hi') = n
    · have h1 := (Pf.np_put hi' (by omega) (by omega)).2.1
      rw [e] at h1
      rw [h1, ih, Pf.cnt_succ hi', if_pos ⟨by omega, e.symm⟩]; omega
    · have h1 := Pf.np_skip (n := n) hi' e
      unfold Pf.np at ih ⊢
      rw [h1]; exact ih
theorem fc_one (l : List Nat) : fc l 1 = 0 := by
 unfold fc; rw [← Pf.np_zero (by decide) (by decide), Pf.nr_one]
theorem fc_succ {l : List Nat} {n : Nat} (h0 : 1 ≤ n) (hn : n ≤ 29) : fc l (n + 1) = 2 * (fc l n + cn l n) := by
 unfold fc
 rw [← Pf.np_zero (by omega) (by omega), ← Pf.np_end l (by omega), np_all h0 (by omega) _ (Nat.le_refl _)]; rfl
theorem code_cnt {l : List Nat} {s n : Nat} (hs : s < l.length) (h : l.getD s 0 = n) (h0 : 1 ≤ n) (hn : n ≤ 30) : Pf.code l s = fc l n + Pf.cnt l s n ∧ Pf.cnt l s n < cn l n ∧ (Pf.od l)[Pf.nx l n + Pf.cnt l s n]? = some s := by
  rw [Pf.getD_eq hs] at h
  subst h
  refine ⟨?_, ?_, Pf.od_place hs h0 hn⟩
  · rw [← (Pf.np_put hs h0 hn).1, np_all h0 hn _ (by omega)]
  · have h1 := Pf.od_place hs h0 hn
    have hlt := (List.getElem?_eq_some_iff.1 h1).1
    have he := (List.getElem?_eq_some_iff.1 h1).2
    have h2 := (Pf.place hlt (show l[s] + 1 ≤ 31 by omega)).2 (by rw [he, Pf.getD_eq hs]; omega)
    rw [Pf.nx_succ] at h2; unfold cn; omega
theorem nx_run {l : List Nat} {n : Nat} (hn : n ≤ 30) : Pf.nx l n + cn l n ≤ (Pf.od l).length := by
 have := Pf.nx_le (l := l) (show n + 1 ≤ 31 by omega)
 rw [Pf.nx_succ] at this; exact this
theorem fnd_in {l : List Nat} {v n : Nat} (hb : ∀ n ∈ l, n ≤ 30) (h0 : 1 ≤ n) (hn : n ≤ 30) (h1 : fc l n ≤ v) (h2 : v < fc l n + cn l n) : Pf.fnd l v n = some ((Pf.od l).getD (Pf.nx l n + (v - fc l n)) 0) := by
 have hr := nx_run (l := l) hn
 have hk : Pf.nx l n + (v - fc l n) < (Pf.od l).length := by omega
 have hg : l.getD ((Pf.od l).getD (Pf.nx l n + (v - fc l n)) 0) 0 = n := (Pf.place_eq hk hn (by omega)).1 (by rw [Pf.nx_succ]; unfold cn at h2; omega)
 have hm := Pf.od_mem.1 (List.getElem_mem hk)
 rw [← Pf.getD_eq hk] at hm
 obtain ⟨k1, k2, k3⟩ := code_cnt hm.1 hg h0 hn
 obtain ⟨k4, k5⟩ := List.getElem?_eq_some_iff.1 k3
 have e3 := (Pf.od_nodup l).idxOf_getElem _ k4
 have e4 := (Pf.od_nodup l).idxOf_getElem _ hk
 rw [k5, Pf.getD_eq hk] at e3
 have : Pf.cnt l ((Pf.od l).getD (Pf.nx l n + (v - fc l n)) 0) n = v - fc l n := by
  rw [Pf.getD_eq hk] at k1 k2 ⊢
  omega
 refine Pf.fnd_some hb hm.1 (by omega) hg ?_
 rw [k1, this]; omega
theorem fnd_out {l : List Nat} {v n : Nat} (h0 : 1 ≤ n) (hn : n ≤ 30) (h2 : fc l n + cn l n ≤ v) : Pf.fnd l v n = none := by
 refine Pf.fnd_none.2 fun i hi ⟨g0, g1, g2⟩ => ?_
 obtain ⟨k1, k2, k3⟩ := code_cnt hi g1 h0 hn
 omega
def rbits (n : Nat) (B : List Bool) (a : Nat) : Except Int (Nat × Nat) := if B.length < a + n then .error 10 else .ok (bs B a n, a + n)
noncomputable def rgo (l : List Nat) (B : List Bool) (a : Nat) : Nat → Nat → Except Int (Nat × Nat)
 | 0, _ => .error 9
 | f + 1, n => if B.length ≤ a + n then .error 10 else match Pf.fnd l (tkv B a (n + 1)) (n + 1) with
  | some i => .ok (i, a + n + 1)
  | none => rgo l B a f (n + 1)
def mx (l : List Nat) : Nat := l.foldl max 0
theorem mx_ge : ∀ (l : List Nat) (z : Nat), z ≤ l.foldl max z ∧ ∀ n ∈ l, n ≤ l.foldl max z
 | [], z => ⟨Nat.le_refl _, fun n hn => by cases hn⟩
 | a :: l, z => by
  obtain ⟨h1, h2⟩ := mx_ge l (max z a)
  refine ⟨Nat.le_trans (Nat.le_max_left _ _) h1, fun n hn => ?_⟩
  rcases List.mem_cons.1 hn with rfl | hn
  · exact Nat.le_trans (Nat.le_max_right _ _) h1
  · exact h2 n hn
theorem mx_le {l : List Nat} {n : Nat} (h : n ∈ l) : n ≤ mx l := (mx_ge l 0).2 n h
theorem mx_bd {B : Nat} : ∀ (l : List Nat) (z : Nat), z ≤ B → (∀ n ∈ l, n ≤ B) → l.foldl max z ≤ B
 | [], z, h, _ => h
 | a :: l, z, h, hl => mx_bd l (max z a) (Nat.max_le.2 ⟨h, hl a (by simp)⟩) fun n hn => hl n (by simp [hn])
noncomputable def rsym (l : List Nat) (B : List Bool) (a : Nat) : Except Int (Nat × Nat) := rgo l B a (mx l) 0
theorem btv_take {c n : Nat} (hc : c < 2 ^ n) : ∀ {j : Nat}, j ≤ n → bvl ((btv c n).take j) = c / 2 ^ (n - j) := by
 intro j
 induction j with
 | zero => intro _; rw [Nat.sub_zero, Nat.div_eq_of_lt hc]; rfl
 | succ j ih =>
  intro hj
  have h1 := ih (by omega)
  have hl : j < (btv c n).length := by rw [btv_len]; omega
  have hg : (btv c n)[j] = bt c n j := by simp [btv, tab]
  unfold bvl at h1 ⊢
  rw [← List.take_append_getElem hl, List.foldl_append, h1, hg]
  show 2 * (c / 2 ^ (n - j)) + (if bt c n j = true then 1 else 0) = _
  have e : c / 2 ^ (n - j) = c / 2 ^ (n - (j + 1)) / 2 := by rw [Nat.div_div_eq_div_mul, ← Nat.pow_succ]; congr 2; omega
  have e2 : n - 1 - j = n - (j + 1) := by omega
  rw [e]
  unfold bt
  rw [e2]
  by_cases h : c / 2 ^ (n - (j + 1)) % 2 = 1
  · rw [if_pos (by simpa using h)]; omega
  · rw [if_neg (by simpa using h)]; omega
theorem tkv_bits {b r : List Bool} {a c n j : Nat} (hb : b.drop a = btv c n ++ r) (hc : c < 2 ^ n) (hj : j ≤ n) : tkv b a j = c / 2 ^ (n - j) := by
 unfold tkv
 rw [hb, List.take_append_of_le_length (by rw [btv_len]; omega)]
 exact btv_take hc hj
structure Code (l : List Nat) : Prop where
 le : ∀ n ∈ l, n ≤ 15
 kr : Pf.kr l ≤ 1073741824
theorem Code.b30 {l : List Nat} (h : Code l) : ∀ n ∈ l, n ≤ 30 := fun n hn => Nat.le_trans (h.le n hn) (by decide)
theorem rsym_ok {l : List Nat} {B r : List Bool} {a s : Nat} (hc : Code l) (hs : s < l.length) (h0 : 1 ≤ l.getD s 0) (hb : B.drop a = btv (Pf.code l s) (l.getD s 0) ++ r) : rsym l B a = .ok (s, a + l.getD s 0) := by
 have hb30 := hc.b30
 have hso : s ∈ Pf.od l := Pf.od_mem.2 ⟨hs, h0, by have := hb30 l[s] (List.getElem_mem hs); rw [Pf.getD_eq hs]; exact this⟩
 have hcl := Pf.code_lt hb30 hc.kr hso
 have hmx : l.getD s 0 ≤ mx l := by rw [Pf.getD_eq hs]; exact mx_le (List.getElem_mem hs)
 have hlen : a + l.getD s 0 ≤ B.length := by
  have := congrArg List.length hb
  rw [List.length_drop, List.length_append, btv_len] at this; omega
 have key : ∀ k j, j + k + 1 = l.getD s 0 → rgo l B a (mx l - j) j = .ok (s, a + l.getD s 0) := by
  intro k
  induction k with
  | zero =>
   intro j hj
   obtain ⟨f, hf⟩ : ∃ f, mx l - j = f + 1 := ⟨mx l - j - 1, by omega⟩
   have ht := tkv_bits hb hcl (show j + 1 ≤ l.getD s 0 by omega)
   rw [show l.getD s 0 - (j + 1) = 0 by omega, Nat.pow_zero, Nat.div_one] at ht
   rw [hf, rgo, if_neg (by omega), Pf.fnd_some (i := s) hb30 hs (by omega) (by omega) ht.symm]
   show Except.ok (s, a + j + 1) = _
   rw [show a + j + 1 = a + l.getD s 0 by omega]
  | succ k ih =>
   intro j hj
   obtain ⟨f, hf⟩ : ∃ f, mx l - j = f + 1 := ⟨mx l - j - 1, by omega⟩
   have ht := tkv_bits hb hcl (show j + 1 ≤ l.getD s 0 by omega)
   have hn : Pf.fnd l (tkv B a (j + 1)) (j + 1) = none := Pf.fnd_none.2 fun i hi ⟨g0, g1, g2⟩ => by
    have hio : i ∈ Pf.od l := Pf.od_mem.2 ⟨hi, by omega, by have := hb30 l[i] (List.getElem_mem hi); rw [Pf.getD_eq hi]; exact this⟩
    have := Pf.front_lt hio hso (by omega) (.inl (by omega))
    rw [g1, g2, ht] at this; omega
   rw [hf, rgo, if_neg (by omega), hn]
   show rgo l B a f (j + 1) = _
   rw [show f = mx l - (j + 1) by omega]
   exact ih (j + 1) (by omega)
 obtain ⟨k, hk⟩ : ∃ k, 0 + k + 1 = l.getD s 0 := ⟨l.getD s 0 - 1, by omega⟩
 exact key k 0 hk
theorem rbits_ok {B r : List Bool} {a v n : Nat} (hb : B.drop a = low v n ++ r) (hv : v < 2 ^ n) (ha : a ≤ B.length) : rbits n B a = .ok (v, a + n) := by
 have : ¬ B.length < a + n := by
  have := congrArg List.length hb
  rw [List.length_drop, List.length_append, low_len] at this; omega
 rw [rbits, if_neg this, bs_low hb hv]
def Cut {α : Type} (f : List Bool → Nat → Except Int (α × Nat)) : Prop := ∀ (B : List Bool) (a : Nat) (x : α) (e : Nat), a ≤ B.length → f B a = .ok (x, e) →
 a ≤ e ∧ e ≤ B.length ∧ ∀ m, a ≤ m → (m < e → f (B.take m) a = .error 10) ∧ (e ≤ m → f (B.take m) a = .ok (x, e))
def bnd {α β : Type} (f : List Bool → Nat → Except Int (α × Nat)) (g : α → List Bool → Nat → Except Int (β × Nat)) (B : List Bool) (a : Nat) : Except Int (β × Nat) :=
 match f B a with
 | .error e => .error e
 | .ok (x, a') => g x B a'
theorem bnd_ok {α β : Type} {f : List Bool → Nat → Except Int (α × Nat)} {g : α → List Bool → Nat → Except Int (β × Nat)} {B : List Bool} {a a' : Nat} {x : α} (h : f B a = .ok (x, a')) : bnd f g B a = g x B a' := by unfold bnd; rw [h]
theorem bnd_err {α β : Type} {f : List Bool → Nat → Except Int (α × Nat)} {g : α → List Bool → Nat → Except Int (β × Nat)} {B : List Bool} {a : Nat} {e : Int} (h : f B a = .error e) : bnd f g B a = .error e := by unfold bnd; rw [h]
theorem Cut.bnd {α β : Type} {f : List Bool → Nat → Except Int (α × Nat)} {g : α → List Bool → Nat → Except Int (β × Nat)} (hf : Cut f) (hg : ∀ x, Cut (g x)) : Cut (bnd f g) := by
  intro B a y e ha h
  cases h1 : f B a with
  | error z => rw [bnd_err h1] at h; cases h
  | ok p =>
    obtain ⟨x, a'⟩ := p
    rw [bnd_ok h1] at h
    obtain ⟨f1, f2, f3⟩ := hf B a x a' ha h1
    obtain ⟨g1, g2, g3⟩ := hg x B a' y e f2 h
    refine ⟨by omega, g2, fun m hm => ⟨fun hlt => ?_, fun hle => ?_⟩⟩
    · by_cases c : m < a'
      · exact bnd_err ((f3 m hm).1 c)
      · rw [bnd_ok ((f3 m hm).2 (by omega))]; exact (g3 m (by omega)).1 hlt
    · rw [bnd_ok ((f3 m hm).2 (by omega))]; exact (g3 m (by omega)).2 hle
theorem Cut.ok {α : Type} (x : α) : Cut (fun _ a => .ok (x, a)) := by
 intro B a y e ha h
 have h : Except.ok (x, a) = (Except.ok (y, e) : Except Int (α × Nat)) := h
 cases h
 exact ⟨Nat.le_refl _, ha, fun m hm => ⟨fun h => by omega, fun _ => rfl⟩⟩
theorem Cut.fail {α : Type} (z : Int) : Cut (α := α) (fun _ _ => .error z) := by intro B a y e ha h; cases h
theorem take_getD {B : List Bool} {m i : Nat} (h : i < m) : (B.take m).getD i false = B.getD i false := by
 rw [List.getD_eq_getElem?_getD, List.getElem?_take_of_lt h, ← List.getD_eq_getElem?_getD]
theorem cut_bits (n : Nat) : Cut (rbits n) := by
  intro B a x e ha h
  unfold rbits at h
  split at h
  · cases h
  · cases h
    refine ⟨by omega, by omega, fun m hm => ⟨fun hlt => ?_, fun hle => ?_⟩⟩
    · rw [rbits, if_pos (by rw [List.length_take]; omega)]
    · rw [rbits, if_neg (by rw [List.length_take]; omega)]
      have : bs (B.take m) a n = bs B a n := bv_congr fun i hi => take_getD (by omega)
      rw [this]
theorem tkv_take {B : List Bool} {a n m : Nat} (h : a + n ≤ m) : tkv (B.take m) a n = tkv B a n := by
 unfold tkv
 rw [List.drop_take, List.take_take, Nat.min_eq_left (by omega)]
theorem cut_rgo (l : List Nat) (a : Nat) : ∀ (f n : Nat) (B : List Bool) (x e : Nat), a + n ≤ B.length → rgo l B a f n = .ok (x, e) → a + n ≤ e ∧ e ≤ B.length ∧ a + n < e ∧ ∀ m, a + n ≤ m → (m < e → rgo l (B.take m) a f n = .error 10) ∧ (e ≤ m → rgo l (B.take m) a f n = .ok (x, e))
  | 0, n, B, x, e, ha, h => by rw [rgo] at h; cases h
  | f + 1, n, B, x, e, ha, h => by
    rw [rgo] at h
    split at h
    · cases h
    · rename_i hl
      have hstep : ∀ m, a + n < m → rgo l (B.take m) a (f + 1) n = match Pf.fnd l (tkv B a (n + 1)) (n + 1) with | some i => .ok (i, a + n + 1) | none => rgo l (B.take m) a f (n + 1) := fun m hm => by
        rw [rgo, if_neg (by rw [List.length_take]; omega), tkv_take (by omega)]
      have hstop : ∀ m, a + n ≤ m → m < a + n + 1 → rgo l (B.take m) a (f + 1) n = .error 10 := fun m h1 h2 => by
        rw [rgo, if_pos (by rw [List.length_take]; omega)]
      cases hf : Pf.fnd l (tkv B a (n + 1)) (n + 1) with
      | some i =>
        rw [hf] at h
        have h : Except.ok (i, a + n + 1) = (Except.ok (x, e) : Except Int (Nat × Nat)) := h
        cases h
        refine ⟨by omega, by omega, by omega, fun m hm => ⟨fun hlt => hstop m hm hlt, fun hle => ?_⟩⟩
        rw [hstep m (by omega), hf]
      | none =>
        rw [hf] at h
        have h : rgo l B a f (n + 1) = .ok (x, e) := h
        obtain ⟨k1, k2, k3, k4⟩ := cut_rgo l a f (n + 1) B x e (by omega) h
        refine ⟨by omega, k2, by omega, fun m hm => ⟨fun hlt => ?_, fun hle => ?_⟩⟩
        · by_cases c : m < a + n + 1
          · exact hstop m hm c
          · rw [hstep m (by omega), hf]; exact (k4 m (by omega)).1 hlt
        · rw [hstep m (by omega), hf]; exact (k4 m (by omega)).2 hle
theorem cut_sym (l : List Nat) : Cut (rsym l) := by
 intro B a x e ha h
 obtain ⟨h1, h2, h3, h4⟩ := cut_rgo l a (mx l) 0 B x e ha h
 exact ⟨h1, h2, h4⟩
theorem rsym_adv {l : List Nat} {B : List Bool} {a x e : Nat} (ha : a ≤ B.length) (h : rsym l B a = .ok (x, e)) : a < e ∧ e ≤ B.length := by
 obtain ⟨h1, h2, h3, h4⟩ := cut_rgo l a (mx l) 0 B x e ha h
 exact ⟨by omega, h2⟩
noncomputable def rmt (D : List Nat) (s : Nat) : List Bool → Nat → Except Int ((Nat × Nat) × Nat) :=
 bnd (rbits (lxt s)) fun x => bnd (rsym D) fun d => if 30 ≤ d then fun _ _ => .error 9 else bnd (rbits (dxt d)) fun y => fun _ a => .ok ((lls s + x, dls d + y), a)
theorem cut_mt (D : List Nat) (s : Nat) : Cut (rmt D s) := by
 unfold rmt
 refine (cut_bits _).bnd fun x => (cut_sym D).bnd fun d => ?_
 split
 · exact Cut.fail 9
 · exact (cut_bits _).bnd fun y => Cut.ok _
noncomputable def tk (L D : List Nat) (lim : Nat) (B : List Bool) (a : Nat) (out : List UInt8) : Except Int (List UInt8 × Nat) :=
 match rsym L B a with
 | .error e => .error e
 | .ok (s, a1) =>
  if s = 256 then .ok (out, a1) else if 285 < s then .error 9 else if 256 < s then
   (match rmt D s B a1 with
   | .error e => .error e
   | .ok ((n, d), a2) => if out.length < d then .error 28 else if lim < out.length + n then .error 4 else if h : a < a2 ∧ a2 ≤ B.length then tk L D lim B a2 (rp d out n) else .error 0)
  else if lim ≤ out.length then .error 4 else if h : a < a1 ∧ a1 ≤ B.length then tk L D lim B a1 (out ++ [UInt8.ofNat s]) else .error 0
termination_by B.length - a
theorem tk_err {L D : List Nat} {lim : Nat} {B : List Bool} {a : Nat} {out : List UInt8} {e : Int} (h : rsym L B a = .error e) : tk L D lim B a out = .error e := by rw [tk, h]
theorem tk_end {L D : List Nat} {lim : Nat} {B : List Bool} {a a1 : Nat} {out : List UInt8} (h : rsym L B a = .ok (256, a1)) : tk L D lim B a out = .ok (out, a1) := by rw [tk, h]; simp
theorem tk_bad {L D : List Nat} {lim : Nat} {B : List Bool} {a a1 s : Nat} {out : List UInt8} (h : rsym L B a = .ok (s, a1)) (h2 : 285 < s) : tk L D lim B a out = .error 9 := by
 rw [tk, h]; simp only; rw [if_neg (by omega), if_pos h2]
theorem tk_lit {L D : List Nat} {lim : Nat} {B : List Bool} {a a1 s : Nat} {out : List UInt8} (ha : a ≤ B.length) (h : rsym L B a = .ok (s, a1)) (h2 : s < 256) : tk L D lim B a out = if lim ≤ out.length then .error 4 else tk L D lim B a1 (out ++ [UInt8.ofNat s]) := by
 rw [tk, h]; simp only; rw [if_neg (by omega), if_neg (by omega), if_neg (by omega), dif_pos (rsym_adv ha h)]
theorem rmt_adv {D : List Nat} {B : List Bool} {a s e : Nat} {x : Nat × Nat} (ha : a ≤ B.length) (h : rmt D s B a = .ok (x, e)) : a ≤ e ∧ e ≤ B.length := ⟨((cut_mt D s) B a x e ha h).1, ((cut_mt D s) B a x e ha h).2.1⟩
theorem tk_merr {L D : List Nat} {lim : Nat} {B : List Bool} {a a1 s : Nat} {out : List UInt8} {e : Int} (h : rsym L B a = .ok (s, a1)) (h2 : 256 < s) (h3 : s ≤ 285) (h4 : rmt D s B a1 = .error e) : tk L D lim B a out = .error e := by
 rw [tk, h]; simp only; rw [if_neg (by omega), if_neg (by omega), if_pos h2, h4]
theorem tk_mat {L D : List Nat} {lim : Nat} {B : List Bool} {a a1 a2 s n d : Nat} {out : List UInt8} (ha : a ≤ B.length) (h : rsym L B a = .ok (s, a1)) (h2 : 256 < s) (h3 : s ≤ 285) (h4 : rmt D s B a1 = .ok ((n, d), a2)) :
  tk L D lim B a out = if out.length < d then .error 28 else if lim < out.length + n then .error 4 else tk L D lim B a2 (rp d out n) := by
 have h5 := rsym_adv ha h
 have h6 := rmt_adv h5.2 h4
 rw [tk, h]; simp only; rw [if_neg (by omega), if_neg (by omega), if_pos h2, h4]; simp only; rw [dif_pos (by omega)]
theorem tk_cut (L D : List Nat) (lim : Nat) (B : List Bool) (a : Nat) (out : List UInt8) (x : List UInt8) (e : Nat) (ha : a ≤ B.length) (h : tk L D lim B a out = .ok (x, e)) :
    a ≤ e ∧ e ≤ B.length ∧ ∀ m, a ≤ m → (m < e → tk L D lim (B.take m) a out = .error 10) ∧ (e ≤ m → tk L D lim (B.take m) a out = .ok (x, e)) := by
  cases h1 : rsym L B a with
  | error z => rw [tk_err h1] at h; cases h
  | ok p =>
    obtain ⟨s, a1⟩ := p
    obtain ⟨f1, f2, f3⟩ := cut_sym L B a s a1 ha h1
    have hadv := rsym_adv ha h1
    by_cases c1 : s = 256
    · subst c1
      rw [tk_end h1] at h
      cases h
      exact ⟨f1, f2, fun m hm => ⟨fun hlt => tk_err ((f3 m hm).1 hlt), fun hle => tk_end ((f3 m hm).2 hle)⟩⟩
    · by_cases c2 : 285 < s
      · rw [tk_bad h1 c2] at h; cases h
      · by_cases c3 : 256 < s
        · cases h2 : rmt D s B a1 with
          | error z => rw [tk_merr h1 c3 (by omega) h2] at h; cases h
          | ok p =>
            obtain ⟨⟨n, d⟩, a2⟩ := p
            obtain ⟨g1, g2, g3⟩ := cut_mt D s B a1 (n, d) a2 f2 h2
            rw [tk_mat ha h1 c3 (by omega) h2] at h
            split at h
            · cases h
            · rename_i hd
              split at h
              · cases h
              · rename_i hl
                obtain ⟨k1, k2, k3⟩ := tk_cut L D lim B a2 (rp d out n) x e g2 h
                refine ⟨by omega, k2, fun m hm => ⟨fun hlt => ?_, fun hle => ?_⟩⟩
                · by_cases b1 : m < a1
                  · exact tk_err ((f3 m hm).1 b1)
                  · have r1 := (f3 m hm).2 (by omega)
                    by_cases b2 : m < a2
                    · exact tk_merr r1 c3 (by omega) ((g3 m (by omega)).1 b2)
                    · rw [tk_mat (by rw [List.length_take]; omega) r1 c3 (by omega) ((g3 m (by omega)).2 (by omega)), if_neg hd, if_neg hl]
                      exact (k3 m (by omega)).1 hlt
                · rw [tk_mat (by rw [List.length_take]; omega) ((f3 m hm).2 (by omega)) c3 (by omega) ((g3 m (by omega)).2 (by omega)), if_neg hd, if_neg hl]
                  exact (k3 m (by omega)).2 hle
        · rw [tk_lit ha h1 (by omega)] at h
          split at h
          · cases h
          · rename_i hl
            obtain ⟨k1, k2, k3⟩ := tk_cut L D lim B a1 _ x e f2 h
            refine ⟨by omega, k2, fun m hm => ⟨fun hlt => ?_, fun hle => ?_⟩⟩
            · by_cases b1 : m < a1
              · exact tk_err ((f3 m hm).1 b1)
              · rw [tk_lit (by rw [List.length_take]; omega) ((f3 m hm).2 (by omega)) (by omega), if_neg hl]
                exact (k3 m (by omega)).1 hlt
            · rw [tk_lit (by rw [List.length_take]; omega) ((f3 m hm).2 (by omega)) (by omega), if_neg hl]
              exact (k3 m (by omega)).2 hle
termination_by B.length - a
decreasing_by all_goals omega
def Has (L D : List Nat) (t : Nat) : Prop := if t ≤ 255 then 1 ≤ L.getD t 0 else 1 ≤ L.getD (lsy (t / 65536)) 0 ∧ 1 ≤ D.getD (dsy (t % 65536)) 0
theorem drop_more {B m r : List Bool} {a : Nat} (h : B.drop a = m ++ r) : B.drop (a + m.length) = r := by
 rw [← List.drop_drop, h, List.drop_left]
theorem lt_gd {l : List Nat} {s : Nat} (h : 1 ≤ l.getD s 0) : s < l.length := by
 by_cases c : s < l.length
 · exact c
 · rw [List.getD_eq_getElem?_getD, List.getElem?_eq_none (by omega)] at h; simp at h
theorem tk_toks {L D : List Nat} {l : List UInt8} {lim : Nat} {B r : List Bool} (hL : Code L) (hD : Code D) (hl : l.length ≤ 32768) (hend : 1 ≤ L.getD 256 0) (i a : Nat) (hi : i ≤ l.length) (hil : i ≤ lim)
    (hu : ∀ t ∈ toks l i, Has L D t) (hB : B.drop a = tbs L D (toks l i) ++ (btv (Pf.code L 256) (L.getD 256 0) ++ r)) (ha : a ≤ B.length) :
    tk L D lim B a (l.take i) = if l.length ≤ lim then .ok (l, a + (tbs L D (toks l i)).length + L.getD 256 0) else .error 4 := by
  by_cases h : i < l.length
  · have htl : (l.take i).length = i := by rw [List.length_take]; omega
    by_cases h2 : (bst l i).1 = 0
    · have hb8 := (l.getD i 0).toNat_lt
      rw [toks_lit h h2] at hu hB ⊢
      have hu1 := hu _ List.mem_cons_self
      unfold Has at hu1
      rw [if_pos (by omega)] at hu1
      have htb : tbs L D ((l.getD i 0).toNat :: toks l (i + 1)) = btv (Pf.code L (l.getD i 0).toNat) (L.getD (l.getD i 0).toNat 0) ++ tbs L D (toks l (i + 1)) := by
        unfold tbs; rw [List.flatMap_cons, tb, if_pos (by omega)]
      rw [htb, List.append_assoc] at hB
      have hr := rsym_ok hL (lt_gd hu1) hu1 hB
      have hdm := drop_more hB
      rw [btv_len] at hdm
      have hadv := rsym_adv ha hr
      rw [tk_lit ha hr (by omega), htl]
      by_cases c : lim ≤ i
      · rw [if_pos c, if_neg (by omega)]
      · have e : l.take i ++ [UInt8.ofNat (l.getD i 0).toNat] = l.take (i + 1) := by
          rw [UInt8.ofNat_toNat, gdU h]; exact List.take_append_getElem h
        rw [if_neg c, e, tk_toks hL hD hl hend (i + 1) _ (by omega) (by omega) (fun t ht => hu t (List.mem_cons_of_mem _ ht)) hdm hadv.2]
        rw [htb, List.length_append, btv_len]
        split
        · congr 2; omega
        · rfl
    · rw [toks_mat h h2] at hu hB ⊢
      rcases bst_good l i with hz | ⟨g1, g2, g3, g4, g5, g6⟩
      · rw [hz] at h2; exact (h2 rfl).elim
      · have hu1 := hu _ List.mem_cons_self
        obtain ⟨t, ht⟩ : ∃ t, t = (bst l i).1 * 65536 + (bst l i).2 := ⟨_, rfl⟩
        have e1 : t / 65536 = (bst l i).1 := by omega
        have e2 : t % 65536 = (bst l i).2 := by omega
        rw [← ht] at hu1 hB ⊢
        unfold Has at hu1
        rw [if_neg (by omega)] at hu1
        obtain ⟨s1, s2, s3, s4⟩ := lsy_spec (n := t / 65536) (by omega) (by omega)
        obtain ⟨d1, d2, d3⟩ := dsy_spec (n := t % 65536) (by omega) (by omega)
        have htb : tbs L D (t :: toks l (i + (bst l i).1)) = btv (Pf.code L (lsy (t / 65536))) (L.getD (lsy (t / 65536)) 0) ++ (low (t / 65536 - lls (lsy (t / 65536))) (lxt (lsy (t / 65536)))
            ++ (btv (Pf.code D (dsy (t % 65536))) (D.getD (dsy (t % 65536)) 0) ++ (low (t % 65536 - dls (dsy (t % 65536))) (dxt (dsy (t % 65536))) ++ tbs L D (toks l (i + (bst l i).1))))) := by
          unfold tbs; rw [List.flatMap_cons, tb, if_neg (by omega)]; simp only [List.append_assoc]
        rw [htb] at hB ⊢
        simp only [List.append_assoc] at hB
        have r1 := rsym_ok hL (lt_gd hu1.1) hu1.1 hB
        have k1 := drop_more hB
        rw [btv_len] at k1
        have v1 := rsym_adv ha r1
        have r2 := rbits_ok k1 (by omega) v1.2
        have k2 := drop_more k1
        rw [low_len] at k2
        have v2 := (cut_bits _ B _ _ _ v1.2 r2).2.1
        have r3 := rsym_ok hD (lt_gd hu1.2) hu1.2 k2
        have k3 := drop_more k2
        rw [btv_len] at k3
        have v3 := rsym_adv v2 r3
        have r4 := rbits_ok k3 (by omega) v3.2
        have k4 := drop_more k3
        rw [low_len] at k4
        have v4 := (cut_bits _ B _ _ _ v3.2 r4).2.1
        have rm : rmt D (lsy (t / 65536)) B (a + L.getD (lsy (t / 65536)) 0) = .ok (((bst l i).1, (bst l i).2), a + L.getD (lsy (t / 65536)) 0 + lxt (lsy (t / 65536)) + D.getD (dsy (t % 65536)) 0 + dxt (dsy (t % 65536))) := by
          unfold rmt
          rw [bnd_ok r2, bnd_ok r3, if_neg (by omega), bnd_ok r4]
          congr 3 <;> omega
        rw [tk_mat ha r1 (by omega) (by omega) rm, htl, if_neg (by omega)]
        by_cases c : lim < i + (bst l i).1
        · rw [if_pos c, if_neg (by omega)]
        · rw [if_neg c, rp_take g3 g4 _ g5 g6, tk_toks hL hD hl hend (i + (bst l i).1) _ g5 (by omega) (fun t ht => hu t (List.mem_cons_of_mem _ ht)) k4 v4]
          simp only [List.length_append, btv_len, low_len]
          split
          · congr 2; omega
          · rfl
  · obtain rfl : i = l.length := by omega
    rw [toks_end (Nat.le_refl _)] at hB ⊢
    have hB : B.drop a = btv (Pf.code L 256) (L.getD 256 0) ++ r := hB
    rw [tk_end (rsym_ok hL (lt_gd hend) hend hB), List.take_length, if_pos hil]; rfl
termination_by l.length - i
decreasing_by all_goals omega
end Df
end Go.Proofs.YtplbgehpohdmdaaGreatDoor
namespace Go.Proofs.YtplbgehpohdmdaaGreatDoor
open Go.RowKit Sym
theorem Sym.Ax_ex : ∃ f : Nat → TypeId → Nat → (Nat → Int) → List Value → Rg, ∀ b T N g t, f b T N g t = Rg.blk b T ((tab N g).map i64 ++ t) := ⟨_, fun _ _ _ _ _ => rfl⟩
noncomputable def Sym.Ax : Nat → TypeId → Nat → (Nat → Int) → List Value → Rg := Classical.choose Sym.Ax_ex
theorem Sym.Ax_eq (b : Nat) (T : TypeId) (N : Nat) (g : Nat → Int) (t : List Value) : Sym.Ax b T N g t = Rg.blk b T ((tab N g).map i64 ++ t) := Classical.choose_spec Sym.Ax_ex b T N g t
theorem Sym.Ax_congr {b : Nat} {T : TypeId} {N : Nat} {g h : Nat → Int} {t : List Value} (e : ∀ k, k < N → g k = h k) : Sym.Ax b T N g t = Sym.Ax b T N h t := by rw [Sym.Ax_eq, Sym.Ax_eq, tab_congr e]
theorem Sym.M.ax {w0 w : World} {S : Nat → Prop} {rs : List Rg} {b N k : Nat} {T : TypeId} {g : Nat → Int} {t : List Value} (h : M w0 S w rs) (i : Nat) (hi : rs[i]? = some (Sym.Ax b T N g t)) (hk : k < N) : w.cell? ⟨b, k, none⟩ = some (i64 (g k)) :=
 h.bcell i (by rw [hi, Sym.Ax_eq]) (by rw [List.getElem?_append_left (by rw [List.length_map, tab_len]; exact hk), List.getElem?_map, tab_get hk]; rfl)
theorem Sym.M.axT {w0 w : World} {S : Nat → Prop} {rs : List Rg} {b N : Nat} {T : TypeId} {g : Nat → Int} {t : List Value} {u : Value} (j : Nat) (h : M w0 S w rs) (i : Nat) (hi : rs[i]? = some (Sym.Ax b T N g t)) (hj : t[j]? = some u) : w.cell? ⟨b, N + j, none⟩ = some u :=
 h.bcell i (by rw [hi, Sym.Ax_eq]) (by rw [List.getElem?_append_right (by rw [List.length_map, tab_len]; omega), List.length_map, tab_len, Nat.add_sub_cancel_left]; exact hj)
theorem Sym.M.axA {w0 w : World} {S : Nat → Prop} {rs : List Rg} {b N : Nat} {T : TypeId} {g : Nat → Int} {t : List Value} (h : M w0 S w rs) (i : Nat) (hi : rs[i]? = some (Sym.Ax b T N g t)) : At w b 0 ((tab N g).map i64) := fun j u hu => by
 have hj : j < N := by have := (List.getElem?_eq_some_iff.1 hu).1; rw [List.length_map, tab_len] at this; exact this
 rw [List.getElem?_map, tab_get hj] at hu
 rw [Nat.zero_add, h.ax i hi hj]; exact hu
theorem Sym.E.storeAx {P : Program} {ops : Array Oper} {Q : Exit → Act → World → Prop} {s : St} {env : Env} {w0 w : World} {S : Nat → Prop} {rs : List Rg} {rest : List Oper} {ty : TypeId} {pos : String} {aft : Array Edge} {t T : TypeId} {x y : Operand} {b N k : Nat} {g : Nat → Int} {tl : List Value} (i : Nat) (z : Int) (hM : M w0 S w rs) (hi : rs[i]? = some (Sym.Ax b T N g tl)) (hx : ev env x = some (.pointer (some ⟨b, k, none⟩))) (hy : ev env y = some (i64 z)) (hs : (P.info? t).map (·.size) = some 1) (hk : k < N)
  (h : ∀ w', M w0 S w' (rs.set i (Sym.Ax b T N (Sym.upd g k z) tl)) → wpE P ops Q s rest env w') : wpE P ops Q s (⟨none, .store t x y, ty, pos, aft, none⟩ :: rest) env w :=
 E.storeM i hM (by rw [hi, Sym.Ax_eq]) hx hy hs rfl (old := i64 (g k)) (by rw [List.getElem?_append_left (by rw [List.length_map, tab_len]; exact hk), List.getElem?_map, tab_get hk]; rfl) fun w' hM' => h w' (by
  rw [List.set_append_left _ _ (by rw [List.length_map, tab_len]; exact hk), tab_upd hk, ← Sym.Ax_eq] at hM'; exact hM')
theorem Sym.E.storeAxT {P : Program} {ops : Array Oper} {Q : Exit → Act → World → Prop} {s : St} {env : Env} {w0 w : World} {S : Nat → Prop} {rs : List Rg} {rest : List Oper} {ty : TypeId} {pos : String} {aft : Array Edge} {t T : TypeId} {x y : Operand} {b N : Nat} {g : Nat → Int} {tl : List Value} {u old : Value} (i j : Nat) (hM : M w0 S w rs) (hi : rs[i]? = some (Sym.Ax b T N g tl)) (hx : ev env x = some (.pointer (some ⟨b, N + j, none⟩))) (hy : ev env y = some u) (hs : (P.info? t).map (·.size) = some 1) (h1 : u.oneCell' = true) (hj : tl[j]? = some old)
  (h : ∀ w', M w0 S w' (rs.set i (Sym.Ax b T N g (tl.set j u))) → wpE P ops Q s rest env w') : wpE P ops Q s (⟨none, .store t x y, ty, pos, aft, none⟩ :: rest) env w :=
 E.storeM i hM (by rw [hi, Sym.Ax_eq]) hx hy hs h1 (old := old) (by rw [List.getElem?_append_right (by rw [List.length_map, tab_len]; omega), List.length_map, tab_len, Nat.add_sub_cancel_left]; exact hj) fun w' hM' => h w' (by
  rw [List.set_append_right _ _ (by rw [List.length_map, tab_len]; omega), List.length_map, tab_len, Nat.add_sub_cancel_left, ← Sym.Ax_eq] at hM'; exact hM')
theorem three {a a' b b' c c' : Rg} (h1 : a = a') (h2 : b = b') (h3 : c = c') : [a, b, c] = [a', b', c'] := by rw [h1, h2, h3]
namespace Df
theorem mx_snoc (l : List Nat) (x : Nat) : mx (l ++ [x]) = max (mx l) x := by unfold mx; rw [List.foldl_append]; rfl
theorem cnt_count {l : List Nat} {n : Nat} (h0 : n ≠ 0) : ∀ i : Nat, i ≤ l.length → Pf.cnt l i n = (l.take i).count n
 | 0, _ => by rw [Pf.cnt_zero]; rfl
 | i + 1, hi => by
  have hi' : i < l.length := by omega
  rw [Pf.cnt_succ hi', cnt_count h0 i (by omega), ← List.take_append_getElem hi', List.count_append, List.count_singleton]
  congr 1
  by_cases e : n = l[i]
  · rw [if_pos ⟨h0, e⟩, if_pos (by simp [e])]
  · rw [if_neg (fun c => e c.2), if_neg (by simp; omega)]
theorem cn_zero (l : List Nat) : cn l 0 = 0 := rfl
theorem count_upd {l : List Nat} {i : Nat} (hi : i < l.length) (k : Nat) : Sym.upd (fun n => ((l.take i).count n : Int)) l[i] (((l.take i).count l[i] : Int) + 1) k = ((l.take (i + 1)).count k : Int) := by
 rw [← List.take_append_getElem hi, List.count_append, List.count_singleton]
 unfold Sym.upd
 by_cases e : k = l[i]
 · rw [if_pos e, e, if_pos (by simp)]; omega
 · rw [if_neg e, if_neg (by simp; omega)]; show ((l.take i).count k : Int) = _; omega
theorem count_fin (l : List Nat) (k : Nat) : Sym.upd (fun n => ((l.take l.length).count n : Int)) 0 0 k = (cn l k : Int) := by
 unfold Sym.upd
 by_cases e : k = 0
 · rw [if_pos e, e, cn_zero]; rfl
 · rw [if_neg e]; unfold cn; rw [cnt_count e _ (Nat.le_refl _)]
theorem nx16 {l : List Nat} (hb : ∀ n ∈ l, n ≤ 15) : Pf.nx l 16 = (Pf.od l).length := by
  have key : ∀ k, 15 ≤ k → Pf.ord l k = Pf.ord l 15 := by
    intro k
    induction k with
    | zero => intro h; omega
    | succ k ih =>
      intro h
      by_cases e : k + 1 = 15
      · rw [e]
      · rw [Pf.ord, ih (by omega)]
        have : Pf.sy l (k + 1) = [] := by
          apply List.eq_nil_iff_forall_not_mem.2
          intro i hi
          obtain ⟨h1, h2⟩ := Pf.sy_mem.1 hi
          have := hb l[i] (List.getElem_mem h1)
          rw [Pf.getD_eq h1] at h2; omega
        rw [this, List.append_nil]
  rw [Pf.od_eq, key 30 (by decide)]; rfl
end Df
theorem Max_ret (p : Value) (l : List Nat) (w : World) (hr : RdL i64 w p (nz l)) (h0 : 0 < l.length) (hlen : l.length ≤ 4096) :
  Ret Tryz.prog 158 #[p] w fun v w' => v = i64 (Df.mx l : Int) ∧ Ext w w' := by
 have hM := M.start w
 refine enter Tryz.func158 rfl (by kernel_rfl) Tryz.ntmps158 rfl ?_
 refine C.seq <| C.region <| E.asg rfl rfl <| E.nil <| X.next <| ?_

 refine C.cut0 [(0, _)] rfl [] (fun w' => M w (Nn) w' []) ?_ ?_
 ·
  refine C.seq <| C.region <| E.mv rfl rfl <| ?_
  refine E.lenv rfl (Rd.shape (hM.arg0 hr)) Tryz.underlying86 rfl ?_
  rw [nz_len]
  have hnl := nz_len l
  refine E.bin rfl rfl rfl rfl <| E.nil <| X.next <| ?_
  refine C.cond' rfl (fun hC0 => ?_) (fun hC0 => ?_)
  ·
   omega
  ·

   refine C.skip <| X.join0  (Sub.nil _) rfl hM
 rintro  w0 hM
 refine C.seq <| C.region <| E.mv rfl rfl <| ?_
 refine E.get (k := 0) rfl rfl (hM.arg0 hr) rfl (by rw [nz_len]; omega) Tryz.underlying86 (by kernel_rfl) Tryz.underlying3 rfl rfl rfl ?_
 rw [nz_get h0]
 refine E.asg rfl rfl <| E.nil <| X.next <| C.seq <| C.seq <| C.region <| E.asg rfl rfl <| E.nil <| X.next <| C.block <| ?_

 refine C.loop1 [(0, _)] rfl (fun (i : Nat) => [(3, i64 (Df.mx (l.take i) : Int)), (4, i64 i)]) (fun (i : Nat) w' => M w (Nn) w' [] ∧ 1 ≤ i ∧ i ≤ l.length) (fun (i : Nat) => l.length - i) 1 ?_ ?_ ?_
 · exact Sub.cons (look_val rfl (by rw [show l.take 1 = [] ++ [l[0]] by rw [← List.take_append_getElem h0]; rfl, Df.mx_snoc]; show (l[0] : Int) = ((max 0 l[0] : Nat) : Int); omega)) <| Sub.cons rfl <| Sub.nil _
 · exact ⟨hM, by omega, by omega⟩
 rintro i w1 ⟨hM, hi1, hi⟩
 refine C.seq <| C.seq <| C.region <| E.mv rfl rfl <| E.mv rfl rfl <| ?_
 refine E.lenv rfl (Rd.shape (hM.arg0 hr)) Tryz.underlying86 rfl ?_
 rw [nz_len]
 refine E.bin rfl rfl rfl rfl <| E.nil <| X.next <| ?_
 refine C.cond' rfl (fun hC1 => ?_) (fun hC1 => ?_)
 ·
  have hi' : i < l.length := by omega
  refine C.skip <| X.next <| C.seq <| C.block <| C.region <| E.mv rfl rfl <| E.mv rfl rfl <| E.mv rfl rfl <| ?_
  refine E.get (k := i) rfl rfl (hM.arg0 hr) rfl (by rw [nz_len]; omega) Tryz.underlying86 (by kernel_rfl) Tryz.underlying3 rfl rfl rfl ?_
  rw [nz_get hi']
  refine E.max2 rfl rfl rfl <| E.asg rfl rfl <| E.nil <| X.outN <| X.next <| C.region <| E.mv rfl rfl <| ?_
  refine E.addN (a := i) (b := 1) rfl rfl (by omega) rfl ?_

  refine E.asg rfl rfl <| E.nil <| X.again1 (i + 1) (Sub.cons (look_val rfl (by rw [← List.take_append_getElem hi', Df.mx_snoc]; omega)) <| Sub.cons rfl <| Sub.nil _) rfl ⟨hM, by omega, by omega⟩ (by omega)
 ·
  obtain rfl : i = l.length := by omega
  rw [List.take_length]
  refine C.exit <| X.exitT <| X.exitT <| X.outE <| X.next <| C.seq <| C.region <| E.mv rfl rfl <| E.asg rfl rfl <| E.nil <| X.next <| C.ret <| ret1 rfl rfl ?_
  exact ⟨rfl, hM.toExt⟩
set_option maxHeartbeats 4000000 in
set_option maxRecDepth 4000 in
theorem newDecoder_ret (p : Value) (l : List Nat) (w : World) (hr : RdL i64 w p (nz l)) (h0 : 0 < l.length) (hlen : l.length ≤ 4096) (hb : ∀ n ∈ l, n ≤ 15) :
  Ret Tryz.prog 126 #[p] w fun v w' => ∃ b vs, v = pv b ∧ M w Nn w' [Sym.Ax b 180 16 (fun n => (Df.cn l n : Int)) [vs, i64 (Df.mx l : Int)], Rg.sl i64 3 vs (nz (Pf.od l))] := by
 have hM := M.start w
 refine enter Tryz.func126 rfl (by kernel_rfl) Tryz.ntmps126 rfl ?_
 refine C.seq <| C.region <| E.asg rfl rfl <| E.nil <| X.next <| C.seq <| C.region <| E.mv rfl rfl <| ?_
 refine E.call rfl rfl (Max_ret p l _ (hM.arg0 hr) h0 hlen) ?_
 rintro _ w1 ⟨rfl, x1⟩
 have hM := hM.ext x1
 try dsimp only [Za, Zb, Zc, Zd, repl] at hM
 refine E.buildC (cs := [_, _, _, _, _, _, _, _, _, _, _, _, _, _, _, _, _, _]) [.int .i64 0, .int .i64 0, .int .i64 0, .int .i64 0, .int .i64 0, .int .i64 0, .int .i64 0, .int .i64 0, .int .i64 0, .int .i64 0, .int .i64 0, .int .i64 0, .int .i64 0, .int .i64 0, .int .i64 0, .int .i64 0, .slice none 0 0, .int .i64 0] [17] rfl rfl (by kernel_rfl) rfl ?_
 refine E.boxM hM rfl rfl rfl ?_
 intro b14 w1 hM
 try dsimp only [Za, Zb, Zc, Zd, repl] at hM
 have hnl := nz_len l
 have hod := Pf.od_le l
 have hmx : Df.mx l ≤ 15 := Df.mx_bd l 0 (by decide) hb
 have hM : M w Nn _ [Sym.Ax b14 180 16 (fun n => ((l.take 0).count n : Int)) [.slice none 0 0, i64 (Df.mx l : Int)]] := hM.to (show _ = _ from congrArg (fun r => [r]) ((congrArg (Rg.blk b14 180) (show _ = (tab 16 (fun n => ((l.take 0).count n : Int))).map i64 ++ [.slice none 0 0, i64 (Df.mx l : Int)] from rfl)).trans (Sym.Ax_eq _ _ _ _ _).symm))
 refine E.asg rfl rfl <| E.nil <| X.next <| C.seq <| C.seq <| C.region <| E.mv rfl rfl <| ?_
 refine E.lenv rfl (Rd.shape (hM.arg0 hr)) Tryz.underlying86 rfl ?_
 rw [nz_len]
 refine E.mv rfl rfl <| E.nil <| X.next <| C.block <| ?_

 refine C.loop1 [(0, _), (3, _), (15, _), (16, _)] rfl (fun (i : Nat) => [(17, i64 i)]) (fun (i : Nat) w' => M w (Nn) w' [Sym.Ax b14 180 16 (fun n => ((l.take i).count n : Int)) [.slice none 0 0, i64 (Df.mx l : Int)]] ∧ i ≤ l.length) (fun (i : Nat) => l.length - i) 0 ?_ ?_ ?_
 · exact Sub.cons rfl <| Sub.nil _
 · exact ⟨hM, Nat.zero_le _⟩
 rintro i w2 ⟨hM, hi⟩
 refine C.seq <| C.region <| E.bin rfl rfl rfl rfl <| E.nil <| X.next <| C.seq <| ?_
 refine C.cond' rfl (fun hC0 => ?_) (fun hC0 => ?_)
 ·
  have hi' : i < l.length := by omega
  have hbi := hb l[i] (List.getElem_mem hi')
  have hcl : (l.take i).count l[i] ≤ 4096 := by have := List.count_le_length (a := l[i]) (l := l.take i); rw [List.length_take] at this; omega
  refine C.skip <| X.next <| C.seq <| C.block <| C.seq <| C.region <| ?_
  refine E.get (k := i) rfl rfl (hM.arg0 hr) rfl (by omega) Tryz.underlying86 (by kernel_rfl) Tryz.underlying3 rfl rfl rfl ?_
  rw [nz_get hi']
  refine E.asg rfl rfl <| E.nil <| X.next <| C.drawnT 10 (by kernel_rfl) (by kernel_rfl) fun wh3 hwh3 => ?_
  have hM := hM.ext hwh3
  refine S.mv rfl rfl <| S.mv rfl rfl <| S.nilc rfl rfl <| ?_
  refine S.fld (o := 0) (sz := 15) rfl Tryz.underlying180 rfl rfl (by kernel_rfl) rfl ?_
  refine S.idxN (i := l[i]) rfl rfl Tryz.underlying178 (by kernel_rfl) (by omega) rfl ?_
  refine S.load rfl Tryz.underlying3 rfl (hM.ax 0 rfl (by omega)) rfl ?_
  refine S.add rfl rfl (by omega) rfl ?_
  refine S.nilc rfl rfl <| ?_
  refine S.fld (o := 0) (sz := 15) rfl Tryz.underlying180 rfl rfl (by kernel_rfl) rfl ?_
  refine S.idxN (i := l[i]) rfl rfl Tryz.underlying178 (by kernel_rfl) (by omega) rfl ?_
  refine S.nil ?_
  refine E.storeAx 0 (((l.take i).count l[i] : Int) + 1) hM rfl rfl rfl (by kernel_rfl) (by omega) ?_
  intro w4 hM
  try dsimp only [Za, Zb, Zc, Zd, repl] at hM
  refine E.nil <| X.outN <| X.next <| C.region <| ?_
  refine E.addN (a := i) (b := 1) rfl rfl (by omega) rfl ?_

  refine E.mv rfl rfl <| E.nil <| X.again1 (i + 1) (Sub.cons rfl <| Sub.nil _) rfl ⟨hM.to (congrArg (fun r => [r]) (Sym.Ax_congr fun k _ => Df.count_upd hi' k)), by omega⟩ (by omega)
 ·
  obtain rfl : i = l.length := by omega
  refine C.exit <| X.exitT <| X.exitT <| X.outE <| X.next <| C.seq <| C.region <| E.mv rfl rfl <| E.nilc rfl rfl <| ?_
  refine E.fld (o := 0) (sz := 15) rfl Tryz.underlying180 rfl rfl (by kernel_rfl) rfl ?_
  refine E.idxN (i := 0) rfl rfl Tryz.underlying178 (by kernel_rfl) (by omega) rfl ?_
  refine E.storeAx 0 0 hM rfl rfl rfl (by kernel_rfl) (by omega) ?_
  intro w5 hM
  try dsimp only [Za, Zb, Zc, Zd, repl] at hM
  have hM := hM.to (congrArg (fun r => [r]) (Sym.Ax_congr (h := fun n => (Df.cn l n : Int)) fun k _ => Df.count_fin l k))
  refine E.nil <| X.next <| C.seq <| C.region <| ?_
  refine E.allocM (z := .agg #[.int .i64 0, .int .i64 0, .int .i64 0, .int .i64 0, .int .i64 0, .int .i64 0, .int .i64 0, .int .i64 0, .int .i64 0, .int .i64 0, .int .i64 0, .int .i64 0, .int .i64 0, .int .i64 0, .int .i64 0, .int .i64 0, .int .i64 0]) (cs := [.int .i64 0, .int .i64 0, .int .i64 0, .int .i64 0, .int .i64 0, .int .i64 0, .int .i64 0, .int .i64 0, .int .i64 0, .int .i64 0, .int .i64 0, .int .i64 0, .int .i64 0, .int .i64 0, .int .i64 0, .int .i64 0, .int .i64 0]) hM (by kernel_rfl) rfl rfl ?_
  intro b6 w6 hM
  try dsimp only [Za, Zb, Zc, Zd, repl] at hM
  have hM : M w Nn _ [Sym.Ax b14 180 16 (fun n => (Df.cn l n : Int)) [.slice none 0 0, i64 (Df.mx l : Int)], Sym.Ar b6 181 17 (fun n => if n ≤ 0 then (Pf.nx l n : Int) else 0)] := hM.to (Sym.two rfl ((congrArg (Rg.blk b6 181) (show _ = (tab 17 (fun _ => (0 : Int))).map i64 from rfl)).trans ((Sym.Ar_eq _ _ _ _).symm.trans (Sym.Ar_congr fun k _ => Pf.nx_init l k))))
  refine E.nil <| X.next <| C.seq <| C.seq <| C.region <| E.mv rfl rfl <| E.nilc rfl rfl <| ?_
  refine E.fld (o := 0) (sz := 15) rfl Tryz.underlying180 rfl rfl (by kernel_rfl) rfl ?_
  refine E.loadA (cs := (tab 16 (fun n => (Df.cn l n : Int))).map i64) rfl Tryz.underlying178 rfl (by kernel_rfl) (hM.axA 0 rfl) rfl ?_
  refine E.mv rfl rfl <| E.nil <| X.next <| C.block <| ?_

  refine C.loop1 [(0, _), (3, _), (6, _), (39, _)] rfl (fun (k : Nat) => [(40, i64 k)]) (fun (k : Nat) w' => M w (Nn) w' [Sym.Ax b14 180 16 (fun n => (Df.cn l n : Int)) [.slice none 0 0, i64 (Df.mx l : Int)], Sym.Ar b6 181 17 (fun n => if n ≤ k then (Pf.nx l n : Int) else 0)] ∧ k ≤ 16) (fun (k : Nat) => 16 - k) 0 ?_ ?_ ?_
  · exact Sub.cons rfl <| Sub.nil _
  · exact ⟨hM, by omega⟩
  rintro k w7 ⟨hM, hk⟩
  refine C.seq <| C.region <| E.bin rfl rfl rfl rfl <| E.nil <| X.next <| C.seq <| ?_
  refine C.cond' rfl (fun hC1 => ?_) (fun hC1 => ?_)
  ·
   have hk' : k < 16 := by omega
   have hn1 := Pf.nx_le (l := l) (show k ≤ 31 by omega)
   have hn2 := Pf.cnt_le (n := k) (Nat.le_refl l.length)
   have hn3 : Df.cn l k = Pf.cnt l l.length k := rfl
   refine C.skip <| X.next <| C.seq <| C.block <| C.seq <| C.region <| E.mv rfl rfl <| ?_
   refine E.idxV k rfl rfl rfl Tryz.underlying178 Tryz.underlying3 (by kernel_rfl) hk' (show _ = some (i64 (Df.cn l k : Int)) by rw [List.getElem?_map, tab_get hk']; rfl) rfl ?_
   refine E.asg rfl rfl <| E.asg rfl rfl <| E.nil <| X.next <| C.region <| E.mv rfl rfl <| ?_
   refine E.addN (a := k) (b := 1) rfl rfl (by omega) rfl ?_
   refine E.mv rfl rfl <| ?_
   refine E.idxN (i := k) rfl rfl Tryz.underlying181 (by kernel_rfl) (by omega) rfl ?_
   refine E.load rfl Tryz.underlying3 rfl (hM.arr 1 rfl (by omega)) rfl ?_
   rw [if_pos (Nat.le_refl k)]
   refine E.mv rfl rfl <| ?_
   refine E.add rfl rfl (by omega) rfl ?_
   refine E.idxN (i := (k + 1)) rfl rfl Tryz.underlying181 (by kernel_rfl) (by omega) rfl ?_
   refine E.storeAr 1 ((Pf.nx l k : Int) + (Df.cn l k : Int)) hM rfl rfl rfl (by kernel_rfl) (by omega) ?_
   intro w8 hM
   try dsimp only [Za, Zb, Zc, Zd, repl] at hM
   refine E.nil <| X.outN <| X.next <| C.region <| ?_
   refine E.addN (a := k) (b := 1) rfl rfl (by omega) rfl ?_

   refine E.mv rfl rfl <| E.nil <| X.again1 (k + 1) (Sub.cons rfl <| Sub.nil _) rfl ⟨hM.to (Sym.two rfl (Sym.Ar_congr fun j _ => Pf.nx_upd l k j)), by omega⟩ (by omega)
  ·
   obtain rfl : k = 16 := by omega
   refine C.exit <| X.exitT <| X.exitT <| X.outE <| X.next <| C.seq <| C.region <| E.mv rfl rfl <| ?_
   refine E.idxN (i := 16) rfl rfl Tryz.underlying181 (by kernel_rfl) (by omega) rfl ?_
   refine E.load rfl Tryz.underlying3 rfl (hM.arr 1 rfl (by omega)) rfl ?_
   rw [if_pos (Nat.le_refl 16), Df.nx16 hb]
   refine E.makeM (by_ := 8) (enc := i64) 0 hM rfl Tryz.underlying86 (by kernel_rfl) rfl (by omega) (by omega) rfl ?_
   intro v56 w9 hM
   try dsimp only [Za, Zb, Zc, Zd, repl] at hM
   refine E.nilc rfl rfl <| ?_
   refine E.fld (o := 16) (sz := 0) rfl Tryz.underlying180 rfl rfl (by kernel_rfl) rfl ?_
   refine E.storeAxT 0 0 hM rfl rfl rfl (by kernel_rfl) (hM.sl 2 rfl).one rfl ?_
   intro w10 hM
   try dsimp only [Za, Zb, Zc, Zd, repl] at hM
   refine E.nil <| X.next <| C.seq <| C.seq <| C.region <| E.mv rfl rfl <| ?_
   refine E.lenv rfl (Rd.shape (hM.arg0 hr)) Tryz.underlying86 rfl ?_
   rw [nz_len]
   refine E.mv rfl rfl <| E.nil <| X.next <| C.block <| ?_

   refine C.loop1 [(3, _), (6, _), (59, _), (60, _)] rfl (fun (i : Nat) => [(61, i64 i)]) (fun (i : Nat) w' => M w (Nn) w' [Sym.Ax b14 180 16 (fun n => (Df.cn l n : Int)) [v56, i64 (Df.mx l : Int)], Sym.Ar b6 181 17 (fun n => ((Pf.nx l n + Pf.cnt l i n : Nat) : Int)), Rg.sl i64 3 v56 (tab (Pf.od l).length (Pf.lay l i))] ∧ i ≤ l.length) (fun (i : Nat) => l.length - i) 0 ?_ ?_ ?_
   · exact Sub.cons rfl <| Sub.nil _
   · exact ⟨hM.to (three rfl (Sym.Ar_congr (fun k hk => by rw [Pf.cnt_zero, if_pos (by omega)]; rfl)) (by rw [Pf.lay_zero l])), Nat.zero_le _⟩
   rintro i w11 ⟨hM, hi⟩
   refine C.seq <| C.region <| E.bin rfl rfl rfl rfl <| E.nil <| X.next <| C.seq <| ?_
   refine C.cond' rfl (fun hC2 => ?_) (fun hC2 => ?_)
   ·
    have hi' : i < l.length := by omega
    have hbi := hb l[i] (List.getElem_mem hi')
    refine C.skip <| X.next <| ?_

    refine C.cut0 [(3, _), (6, _), (59, _), (60, _), (61, _)] rfl [] (fun w' => M w (Nn) w' [Sym.Ax b14 180 16 (fun n => (Df.cn l n : Int)) [v56, i64 (Df.mx l : Int)], Sym.Ar b6 181 17 (fun n => ((Pf.nx l n + Pf.cnt l (i + 1) n : Nat) : Int)), Rg.sl i64 3 v56 (tab (Pf.od l).length (Pf.lay l (i + 1)))]) ?_ ?_
    ·
     refine C.block <| C.seq <| C.region <| E.mv rfl rfl <| ?_
     refine E.get (k := i) rfl rfl (hM.arg0 hr) rfl (by omega) Tryz.underlying86 (by kernel_rfl) Tryz.underlying3 rfl rfl rfl ?_
     rw [nz_get hi']
     refine E.asg rfl rfl <| E.asg rfl rfl <| E.nil <| X.next <| C.seq <| C.region <| E.mv rfl rfl <| E.bin rfl rfl rfl rfl <| E.nil <| X.next <| ?_
     refine C.cond' rfl (fun hC3 => ?_) (fun hC3 => ?_)
     ·
      obtain ⟨hp1, hp2⟩ := Pf.lay_put hi' (by omega) (by omega)
      refine C.seq <| C.drawnT 9 (by kernel_rfl) (by kernel_rfl) fun wh12 hwh12 => ?_
      have hM := hM.ext hwh12
      refine S.mv rfl rfl <| S.nilc rfl rfl <| ?_
      refine S.fld (o := 16) (sz := 0) rfl Tryz.underlying180 rfl rfl (by kernel_rfl) rfl ?_
      refine S.load rfl Tryz.underlying86 rfl (hM.axT 0 0 rfl rfl) rfl ?_
      refine S.mv rfl rfl <| ?_
      refine S.idxN (i := l[i]) rfl rfl Tryz.underlying181 (by kernel_rfl) (by omega) rfl ?_
      refine S.load rfl Tryz.underlying3 rfl (hM.arr 1 rfl (by omega)) rfl ?_
      refine S.mv rfl rfl <| ?_
      refine S.idx1 (k := Pf.nx l l[i] + Pf.cnt l i l[i]) rfl rfl (hM.sl 2 rfl) rfl (by rw [tab_len]; exact hp1) Tryz.underlying86 (by kernel_rfl) rfl ?_
      refine S.nil ?_
      refine E.storeL 2 (i : Int) hM rfl rfl rfl (by kernel_rfl) rfl rfl (by rw [tab_len]; exact hp1) ?_
      intro w13 hM
      try dsimp only [Za, Zb, Zc, Zd, repl] at hM
      rw [hp2] at hM
      refine E.nil <| X.next <| C.region <| E.mv rfl rfl <| ?_
      refine E.idxN (i := l[i]) rfl rfl Tryz.underlying181 (by kernel_rfl) (by omega) rfl ?_
      refine E.load rfl Tryz.underlying3 rfl (hM.arr 1 rfl (by omega)) rfl ?_
      refine E.addN (b := 1) rfl rfl (by omega) rfl ?_
      refine E.idxN (i := l[i]) rfl rfl Tryz.underlying181 (by kernel_rfl) (by omega) rfl ?_
      refine E.storeAr 1 ((Pf.nx l l[i] + Pf.cnt l i l[i] + 1 : Nat) : Int) hM rfl rfl rfl (by kernel_rfl) (by omega) ?_
      intro w14 hM
      try dsimp only [Za, Zb, Zc, Zd, repl] at hM

      refine E.nil <| X.outN <| X.join0  (Sub.nil _) rfl (hM.to (three rfl (Sym.Ar_congr fun k _ => Pf.n2_upd hi' (by omega) k) rfl))
     ·

      refine C.skip <| X.outN <| X.join0  (Sub.nil _) rfl (hM.to (three rfl (Sym.Ar_congr fun k _ => by rw [Pf.cnt_same hi' (by omega)]) (by rw [tab_congr fun a ha => Pf.lay_skip hi' (by omega) ha])))
    rintro  w15 hM
    refine C.region <| ?_
    refine E.addN (a := i) (b := 1) rfl rfl (by omega) rfl ?_

    refine E.mv rfl rfl <| E.nil <| X.again1 (i + 1) (Sub.cons rfl <| Sub.nil _) rfl ⟨hM, by omega⟩ (by omega)
   ·
    obtain rfl : i = l.length := by omega
    rw [Pf.lay_end] at hM
    refine C.exit <| X.exitT <| X.exitT <| X.outE <| X.next <| C.seq <| C.region <| E.mv rfl rfl <| E.asg rfl rfl <| E.nil <| X.next <| C.ret <| ret1 rfl rfl ?_
    exact ⟨_, _, rfl, hM.pick [0, 2] (by decide)⟩
end Go.Proofs.YtplbgehpohdmdaaGreatDoor
