/- Deflate, as plain mathematics: a block's header is read; blocks; what Inflate answers. -/
import Derived.Test.YtcmgbjmcklfkcaaDoorDfIG
namespace Go.Proofs.YtcmgbjmcklfkcaaDoor
set_option linter.unusedSimpArgs false
set_option linter.unusedVariables false
open Sym
namespace Df
theorem lt_getD {l : List Nat} {s : Nat} (h : 1 ≤ l.getD s 0) : s < l.length := by
  by_cases c : s < l.length
  · exact c
  · rw [List.getD_eq_getElem?_getD, List.getElem?_eq_none (by omega)] at h; simp at h
/-- how many lengths are not 0 -/
def us (l : List Nat) : Nat := (l.filter fun n => decide (0 < n)).length
def acc (l : List Nat) : Bool := decide (chv (nz l) = 0 ∨ (us l = 1 ∧ l.sum = 1))
/-! the lengths of the length code -/
def rl3 : Nat → Nat → List Nat → List Bool → Nat → Except Int (List Nat × Nat)
  | 0, _, c => fun _ a => .ok (c, a)
  | k + 1, i, c => bnd (rbits 3) fun v => rl3 k (i + 1) (c.set (ordL.getD i 0) v)
theorem cut_l3 : ∀ (k i : Nat) (c : List Nat), Cut (rl3 k i c)
  | 0, i, c => by rw [rl3]; exact Cut.ok c
  | k + 1, i, c => by rw [rl3]; exact (cut_bits 3).bnd fun v => cut_l3 k (i + 1) _
def lsv (s : Nat) (out : List Nat) : Nat := if s = 16 then out.getD (out.length - 1) 0 else 0
def lsl (s : Nat) : Nat := if s = 18 then 11 else 3
def lsx (s : Nat) : Nat := if s = 16 then 2 else if s = 18 then 7 else 3
noncomputable def rln (C : List Nat) (n : Nat) (out : List Nat) : List Bool → Nat → Except Int (List Nat × Nat) :=
  if h : out.length < n then bnd (rsym C) fun s =>
    if s < 16 then rln C n (out ++ [s])
    else if s = 16 ∧ out.length = 0 then fun _ _ => .error 9
    else bnd (rbits (lsx s)) fun x => if n < out.length + lsl s + x then fun _ _ => .error 9 else rln C n (out ++ List.replicate (lsl s + x) (lsv s out))
  else fun _ a => .ok (out, a)
termination_by n - out.length
decreasing_by
  all_goals
    have : 3 ≤ lsl s := by unfold lsl; split <;> omega
    simp only [List.length_append, List.length_replicate, List.length_singleton]; omega
theorem rln_end {C : List Nat} {n : Nat} {out : List Nat} (h : ¬ out.length < n) : rln C n out = fun _ a => .ok (out, a) := by rw [rln, dif_neg h]
theorem rln_on {C : List Nat} {n : Nat} {out : List Nat} (h : out.length < n) : rln C n out = bnd (rsym C) fun s =>
    if s < 16 then rln C n (out ++ [s])
    else if s = 16 ∧ out.length = 0 then fun _ _ => .error 9
    else bnd (rbits (lsx s)) fun x => if n < out.length + lsl s + x then fun _ _ => .error 9 else rln C n (out ++ List.replicate (lsl s + x) (lsv s out)) := by rw [rln, dif_pos h]
theorem cut_ln (C : List Nat) (n : Nat) (out : List Nat) : Cut (rln C n out) := by
  by_cases h : out.length < n
  · rw [rln_on h]
    refine (cut_sym C).bnd fun s => ?_
    split
    · exact cut_ln C n (out ++ [s])
    · split
      · exact Cut.fail 9
      · refine (cut_bits _).bnd fun x => ?_
        split
        · exact Cut.fail 9
        · exact cut_ln C n _
  · rw [rln_end h]; exact Cut.ok out
termination_by n - out.length
decreasing_by
  all_goals
    have : 3 ≤ lsl s := by unfold lsl; split <;> omega
    simp only [List.length_append, List.length_replicate, List.length_singleton]; omega
def badl (l : List Nat) (m : Nat) : Prop := acc (l.take m) = false ∨ l.getD 256 0 = 0 ∨ (acc (l.drop m) = false ∧ 0 < us (l.drop m))
instance (l : List Nat) (m : Nat) : Decidable (badl l m) := by unfold badl; exact inferInstance
/-- a block's own lengths -/
noncomputable def rown : List Bool → Nat → Except Int ((List Nat × List Nat) × Nat) :=
  bnd (rbits 5) fun x => bnd (rbits 5) fun y => bnd (rbits 4) fun z =>
    if 286 < x + 257 ∨ 30 < y + 1 then fun _ _ => .error 9
    else bnd (rl3 (z + 4) 0 (List.replicate 19 0)) fun c =>
      if chv (nz c) = 0 then bnd (rln c (x + 257 + (y + 1)) []) fun l => if badl l (x + 257) then fun _ _ => .error 27 else fun _ a => .ok ((l.take (x + 257), l.drop (x + 257)), a)
      else fun _ _ => .error 27
theorem cut_own : Cut rown := by
  unfold rown
  refine (cut_bits _).bnd fun x => (cut_bits _).bnd fun y => (cut_bits _).bnd fun z => ?_
  split
  · exact Cut.fail 9
  · refine (cut_l3 _ _ _).bnd fun c => ?_
    split
    · refine (cut_ln _ _ _).bnd fun l => ?_
      split
      · exact Cut.fail 27
      · exact Cut.ok _
    · exact Cut.fail 27
/-- stored data -/
def rsto (lim : Nat) (p : List UInt8) (out : List UInt8) (B : List Bool) (a : Nat) : Except Int (List UInt8 × Nat) :=
  match rbits 16 B ((a + 7) / 8 * 8) with
  | .error e => .error e
  | .ok (n, a1) => match rbits 16 B a1 with
    | .error e => .error e
    | .ok (c, a2) => if n ^^^ c ≠ 65535 then .error 9 else if lim < out.length + n then .error 4 else if p.length < a2 / 8 + n then .error 10 else .ok (out ++ (p.drop (a2 / 8)).take n, a2 + 8 * n)
/-- a block, behind its two numbers -/
noncomputable def rkin (lim : Nat) (p out : List UInt8) (k : Nat) (B : List Bool) (a : Nat) : Except Int (List UInt8 × Nat) :=
  if k = 0 then rsto lim p out B a else if k = 1 then tk fixL fixD lim B a out else if k = 2 then bnd rown (fun x => fun B a => tk x.1 x.2 lim B a out) B a else .error 9
noncomputable def rblk (lim : Nat) (p out : List UInt8) : List Bool → Nat → Except Int ((Nat × List UInt8) × Nat) :=
  bnd (rbits 1) fun x => bnd (rbits 2) fun k => bnd (rkin lim p out k) fun o => fun _ a => .ok ((x, o), a)
noncomputable def rinf (lim : Nat) (p out : List UInt8) (B : List Bool) (a : Nat) : Except Int (List UInt8 × Nat) :=
  match rblk lim p out B a with
  | .error e => .error e
  | .ok ((x, o), a') => if x = 1 then .ok (o, a') else if h : a < a' ∧ a' ≤ B.length then rinf lim p o B a' else .error 0
termination_by B.length - a
theorem rinf_err {lim : Nat} {p out : List UInt8} {B : List Bool} {a : Nat} {e : Int} (h : rblk lim p out B a = .error e) : rinf lim p out B a = .error e := by rw [rinf, h]
theorem rinf_last {lim : Nat} {p out o : List UInt8} {B : List Bool} {a a' : Nat} (h : rblk lim p out B a = .ok ((1, o), a')) : rinf lim p out B a = .ok (o, a') := by rw [rinf, h]; simp
theorem rinf_more {lim : Nat} {p out o : List UInt8} {B : List Bool} {a a' x : Nat} (h : rblk lim p out B a = .ok ((x, o), a')) (hx : x ≠ 1) (ha : a < a' ∧ a' ≤ B.length) : rinf lim p out B a = rinf lim p o B a' := by rw [rinf, h]; simp only; rw [if_neg hx, dif_pos ha]
/-- what Inflate answers: data and bytes, or an error -/
noncomputable def inf (p : List UInt8) (lim : Int) : Except Int (List UInt8 × Nat) :=
  if lim < 0 ∨ 16777216 < lim then .error 3 else if 4194304 < p.length then .error 4 else rinf lim.toNat p [] (ub p) 0
/-! bounds -/
theorem tk_len (L D : List Nat) (lim : Nat) (B : List Bool) (a : Nat) (out : List UInt8) (x : List UInt8) (e : Nat) (ha : a ≤ B.length) (ho : out.length ≤ lim) (h : tk L D lim B a out = .ok (x, e)) : x.length ≤ lim := by
  cases h1 : rsym L B a with
  | error z => rw [tk_err h1] at h; cases h
  | ok p =>
    obtain ⟨s, a1⟩ := p
    have hadv := rsym_adv ha h1
    by_cases c1 : s = 256
    · subst c1; rw [tk_end h1] at h; cases h; exact ho
    · by_cases c2 : 285 < s
      · rw [tk_bad h1 c2] at h; cases h
      · by_cases c3 : 256 < s
        · cases h2 : rmt D s B a1 with
          | error z => rw [tk_merr h1 c3 (by omega) h2] at h; cases h
          | ok p =>
            obtain ⟨⟨n, d⟩, a2⟩ := p
            have hm := rmt_adv hadv.2 h2
            rw [tk_mat ha h1 c3 (by omega) h2] at h
            split at h
            · cases h
            · split at h
              · cases h
              · exact tk_len L D lim B a2 _ x e hm.2 (by rw [rp_len]; omega) h
        · rw [tk_lit ha h1 (by omega)] at h
          split at h
          · cases h
          · exact tk_len L D lim B a1 _ x e hadv.2 (by rw [List.length_append, List.length_singleton]; omega) h
termination_by B.length - a
decreasing_by all_goals omega
theorem tk_adv {L D : List Nat} {lim : Nat} {B : List Bool} {a e : Nat} {out x : List UInt8} (ha : a ≤ B.length) (h : tk L D lim B a out = .ok (x, e)) : a ≤ e ∧ e ≤ B.length := ⟨(tk_cut L D lim B a out x e ha h).1, (tk_cut L D lim B a out x e ha h).2.1⟩
theorem rsto_adv {lim : Nat} {p out x : List UInt8} {a e : Nat} (ha : a ≤ (ub p).length) (h : rsto lim p out (ub p) a = .ok (x, e)) : a ≤ e ∧ e ≤ (ub p).length ∧ x.length ≤ lim := by
  rw [ub_len] at ha
  unfold rsto at h
  cases h1 : rbits 16 (ub p) ((a + 7) / 8 * 8) with
  | error z => rw [h1] at h; cases h
  | ok q =>
    obtain ⟨n, a1⟩ := q
    rw [h1] at h
    simp only at h
    cases h2 : rbits 16 (ub p) a1 with
    | error z => rw [h2] at h; cases h
    | ok q =>
      obtain ⟨c, a2⟩ := q
      rw [h2] at h
      simp only at h
      have k1 := cut_bits 16 (ub p) _ _ _ (by rw [ub_len]; omega) h1
      have k2 := cut_bits 16 (ub p) _ _ _ k1.2.1 h2
      have e1 : a1 = (a + 7) / 8 * 8 + 16 := by unfold rbits at h1; split at h1 <;> cases h1; rfl
      have e2 : a2 = a1 + 16 := by unfold rbits at h2; split at h2 <;> cases h2; rfl
      split at h
      · cases h
      · split at h
        · cases h
        · split at h
          · cases h
          · cases h
            rw [ub_len] at k2 ⊢
            refine ⟨by omega, by omega, ?_⟩
            rw [List.length_append, List.length_take, List.length_drop]; omega
end Df
end Go.Proofs.YtcmgbjmcklfkcaaDoor
