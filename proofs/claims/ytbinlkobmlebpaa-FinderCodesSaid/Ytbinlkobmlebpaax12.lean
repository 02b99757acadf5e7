/- Texts of the claim, laid together: Lab, Flood, SpreadM, Sets, LabelM. -/
import Derived.Test.Ytbinlkobmlebpaax2
import Derived.Test.Ytbinlkobmlebpaax3
import Derived.Test.Ytbinlkobmlebpaax11
set_option linter.unusedSimpArgs false
set_option linter.unusedVariables false
namespace Go.Proofs.Ytbinlkobmlebpaa
open Classical
section
variable (D : Nat → Prop) (R : Nat → Nat → Prop)
def Fst (i : Nat) : Prop := D i ∧ ∀ j, j < i → D j → ¬ R j i
noncomputable def nf : Nat → Nat
 | 0 => 0
 | k + 1 => nf k + if Fst D R k then 1 else 0
noncomputable def cnt (f : Nat) : Nat → Nat
 | 0 => 0
 | k + 1 => cnt f k + if D k ∧ R f k then 1 else 0
end
section
variable {D : Nat → Prop} {R : Nat → Nat → Prop}
theorem nf_succ_pos {k : Nat} (h : Fst D R k) : nf D R (k + 1) = nf D R k + 1 := by rw [nf, if_pos h]
theorem nf_succ_neg {k : Nat} (h : ¬ Fst D R k) : nf D R (k + 1) = nf D R k := by rw [nf, if_neg h, Nat.add_zero]
theorem nf_mono {k m : Nat} (h : k ≤ m) : nf D R k ≤ nf D R m := by
  induction m with
  | zero => obtain rfl : k = 0 := by omega
            exact Nat.le_refl _
  | succ m ih =>
    by_cases e : k = m + 1
    · subst e; exact Nat.le_refl _
    · have := ih (by omega); rw [nf]; omega
theorem nf_lt {f k : Nat} (h : Fst D R f) (hk : f < k) : nf D R f < nf D R k := by
 have := nf_mono (D := D) (R := R) (show f + 1 ≤ k from hk)
 rw [nf_succ_pos h] at this; omega
theorem nf_inj {f g : Nat} (hf : Fst D R f) (hg : Fst D R g) (h : nf D R f = nf D R g) : f = g := by
 rcases Nat.lt_trichotomy f g with h1 | h1 | h1
 · have := nf_lt hf h1; omega
 · exact h1
 · have := nf_lt hg h1; omega
theorem nf_surj {q k : Nat} (h : q < nf D R k) : ∃ f, f < k ∧ Fst D R f ∧ nf D R f = q := by
  induction k with
  | zero => simp [nf] at h
  | succ k ih =>
    by_cases hk : Fst D R k
    · rw [nf_succ_pos hk] at h
      by_cases e : q = nf D R k
      · exact ⟨k, by omega, hk, e.symm⟩
      · obtain ⟨f, h1, h2, h3⟩ := ih (by omega); exact ⟨f, by omega, h2, h3⟩
    · rw [nf_succ_neg hk] at h
      obtain ⟨f, h1, h2, h3⟩ := ih h; exact ⟨f, by omega, h2, h3⟩
theorem first_of (hr : ∀ i, R i i) (ht : ∀ i j k, R i j → R j k → R i k) : ∀ (i : Nat), D i → ∃ f, f ≤ i ∧ Fst D R f ∧ R f i := by
  intro i
  induction i using Nat.strongRecOn with
  | _ i ih =>
    intro hi
    by_cases h : Fst D R i
    · exact ⟨i, Nat.le_refl _, h, hr i⟩
    · have : ∃ j, j < i ∧ D j ∧ R j i := by
        refine byContradiction fun hn => h ⟨hi, fun j hj hD hR => hn ⟨j, hj, hD, hR⟩⟩
      obtain ⟨j, hj, hD, hR⟩ := this
      obtain ⟨f, h1, h2, h3⟩ := ih j hj hD
      exact ⟨f, by omega, h2, ht _ _ _ h3 hR⟩
theorem first_eq (hs : ∀ i j, R i j → R j i) (ht : ∀ i j k, R i j → R j k → R i k) {f g i : Nat} (hf : Fst D R f) (hg : Fst D R g) (h1 : R f i) (h2 : R g i) : f = g := by
 rcases Nat.lt_trichotomy f g with h | h | h
 · exact (hg.2 f h hf.1 (ht _ _ _ h1 (hs _ _ h2))).elim
 · exact h
 · exact (hf.2 g h hg.1 (ht _ _ _ h2 (hs _ _ h1))).elim
structure BSpec (D : Nat → Prop) (R : Nat → Nat → Prop) (W f k : Nat) (b : Bl) : Prop where
 fx : b.fx = ((f % W : Nat) : Int)
 fy : b.fy = ((f / W : Nat) : Int)
 y : b.y = ((f / W : Nat) : Int)
 all : ∀ i : Nat, i < k → D i → R f i → b.x ≤ ((i % W : Nat) : Int) ∧ ((i % W : Nat) : Int) < b.x + b.w ∧ ((i / W : Nat) : Int) < b.y + b.h
 left : ∃ i : Nat, i < k ∧ D i ∧ R f i ∧ ((i % W : Nat) : Int) = b.x
 right : ∃ i : Nat, i < k ∧ D i ∧ R f i ∧ ((i % W : Nat) : Int) + 1 = b.x + b.w
 low : ∃ i : Nat, i < k ∧ D i ∧ R f i ∧ ((i / W : Nat) : Int) + 1 = b.y + b.h
 area : b.area = (cnt D R f k : Int)
theorem BSpec.skip {W f k : Nat} {b : Bl} (h : BSpec D R W f k b) (hk : ¬ (D k ∧ R f k)) : BSpec D R W f (k + 1) b where
 fx := h.fx
 fy := h.fy
 y := h.y
 all i hi h1 h2 := h.all i (by have : i ≠ k := fun e => hk (e ▸ ⟨h1, h2⟩); omega) h1 h2
 left := let ⟨i, h1, h2⟩ := h.left; ⟨i, by omega, h2⟩
 right := let ⟨i, h1, h2⟩ := h.right; ⟨i, by omega, h2⟩
 low := let ⟨i, h1, h2⟩ := h.low; ⟨i, by omega, h2⟩
 area := by rw [cnt, if_neg hk]; exact h.area
theorem BSpec.add {W f k : Nat} {b : Bl} (h : BSpec D R W f k b) (hD : D k) (hR : R f k) (hfk : f / W ≤ k / W) : BSpec D R W f (k + 1) (b.add ((k % W : Nat) : Int) ((k / W : Nat) : Int)) where
 fx := h.fx
 fy := h.fy
 y := h.y
 all i hi h1 h2 := by
  simp only [Bl.add]
  by_cases e : i = k
  · subst e; omega
  · have := h.all i (by omega) h1 h2; omega
 left := by
  simp only [Bl.add]
  by_cases e : b.x ≤ ((k % W : Nat) : Int)
  · obtain ⟨i, h1, h2, h3, h4⟩ := h.left; exact ⟨i, by omega, h2, h3, by omega⟩
  · exact ⟨k, by omega, hD, hR, by omega⟩
 right := by
  simp only [Bl.add]
  by_cases e : ((k % W : Nat) : Int) + 1 ≤ b.x + b.w
  · obtain ⟨i, h1, h2, h3, h4⟩ := h.right; exact ⟨i, by omega, h2, h3, by omega⟩
  · exact ⟨k, by omega, hD, hR, by omega⟩
 low := by
  simp only [Bl.add]
  by_cases e : ((k / W : Nat) : Int) + 1 ≤ b.y + b.h
  · obtain ⟨i, h1, h2, h3, h4⟩ := h.low; exact ⟨i, by omega, h2, h3, by omega⟩
  · exact ⟨k, by omega, hD, hR, by omega⟩
 area := by
  rw [cnt, if_pos ⟨hD, hR⟩, Bl.add, h.area]; simp
theorem cnt_zero (hs : ∀ i j, R i j → R j i) {f : Nat} (h : Fst D R f) : ∀ k, k ≤ f → cnt D R f k = 0
 | 0, _ => rfl
 | k + 1, hk => by rw [cnt, if_neg (fun e => h.2 k (by omega) e.1 (hs _ _ e.2)), cnt_zero hs h k (by omega)]
theorem BSpec.new (hr : ∀ i, R i i) (hs : ∀ i j, R i j → R j i) {W k : Nat} (h : Fst D R k) : BSpec D R W k (k + 1) (Bl.add ⟨((k % W : Nat) : Int), ((k / W : Nat) : Int), 1, 1, 0, ((k % W : Nat) : Int), ((k / W : Nat) : Int)⟩ ((k % W : Nat) : Int) ((k / W : Nat) : Int)) where
 fx := rfl
 fy := rfl
 y := rfl
 all i hi h1 h2 := by
  simp only [Bl.add]
  by_cases e : i = k
  · subst e; omega
  · exact (h.2 i (by omega) h1 (hs _ _ h2)).elim
 left := ⟨k, by omega, h.1, hr k, by simp [Bl.add]⟩
 right := ⟨k, by omega, h.1, hr k, by simp only [Bl.add]; omega⟩
 low := ⟨k, by omega, h.1, hr k, by simp only [Bl.add]; omega⟩
 area := by rw [cnt, if_pos ⟨h.1, hr k⟩, cnt_zero hs h k (Nat.le_refl _)]; simp [Bl.add]
theorem cnt_le (f k : Nat) : cnt D R f k ≤ k := by
 induction k with
 | zero => exact Nat.le_refl _
 | succ k ih => rw [cnt]; split <;> omega
theorem Fst.le (hs : ∀ i j, R i j → R j i) {f i : Nat} (h : Fst D R f) (hD : D i) (hR : R f i) : f ≤ i := Nat.le_of_not_lt fun hlt => h.2 i hlt hD (hs _ _ hR)
theorem BSpec.small (hs : ∀ i j, R i j → R j i) {W f k : Nat} {b : Bl} (h : BSpec D R W f k b) (hf : Fst D R f) (hfk : f < k) (hk : k ≤ 4194304) : b.small := by
 obtain ⟨i1, a1, a2, a3, a4⟩ := h.left
 obtain ⟨i3, c1, c2, c3, c4⟩ := h.right
 obtain ⟨i5, e1, e2, e3, e4⟩ := h.low
 have p1 := h.all i1 a1 a2 a3
 have y1 := h.y
 have ar := h.area
 have hc := cnt_le (D := D) (R := R) f k
 have m1 := Nat.mod_le i1 W
 have m3 := Nat.mod_le i3 W
 have d5 := Nat.div_le_self i5 W
 have d0 := Nat.div_le_self f W
 have l5 := Nat.div_le_div_right (c := W) (hf.le hs e2 e3)
 unfold Bl.small
 generalize f / W = y0 at *
 generalize i1 % W = z1 at *
 generalize i1 / W = z2 at *
 generalize i3 % W = z3 at *
 generalize i5 / W = z5 at *
 omega
theorem BSpec.eq {W f k : Nat} {b c : Bl} (h : BSpec D R W f k b) (h' : BSpec D R W f k c) : b = c := by
 obtain ⟨i1, a1, a2, a3, a4⟩ := h.left
 obtain ⟨i2, b1, b2, b3, b4⟩ := h'.left
 obtain ⟨i3, c1, c2, c3, c4⟩ := h.right
 obtain ⟨i4, d1, d2, d3, d4⟩ := h'.right
 obtain ⟨i5, e1, e2, e3, e4⟩ := h.low
 obtain ⟨i6, f1, f2, f3, f4⟩ := h'.low
 have p1 := h'.all i1 a1 a2 a3
 have p2 := h.all i2 b1 b2 b3
 have p3 := h'.all i3 c1 c2 c3
 have p4 := h.all i4 d1 d2 d3
 have p5 := h'.all i5 e1 e2 e3
 have p6 := h.all i6 f1 f2 f3
 have y1 := h.y; have y2 := h'.y
 have hx : b.x = c.x := by omega
 have hw : b.w = c.w := by omega
 have hh : b.h = c.h := by omega
 cases b; cases c
 simp only [Bl.mk.injEq]
 exact ⟨hx, y1.trans y2.symm, hw, hh, h.area.trans h'.area.symm, h.fx.trans h'.fx.symm, h.fy.trans h'.fy.symm⟩
structure Labelled (D : Nat → Prop) (R : Nat → Nat → Prop) (W n : Nat) (lab : List Int) (bl : List Bl) : Prop where
 len : lab.length = n
 off : ∀ i : Nat, i < n → ¬ D i → lab[i]? = some (-1)
 on : ∀ i : Nat, i < n → D i → ∃ f, f ≤ i ∧ Fst D R f ∧ R f i ∧ lab[i]? = some (nf D R f : Int)
 num : bl.length = nf D R n
 blob : ∀ f, f < n → Fst D R f → ∃ b, bl[nf D R f]? = some b ∧ BSpec D R W f n b
end
end Go.Proofs.Ytbinlkobmlebpaa
namespace Go.Proofs.Ytbinlkobmlebpaa
open Uf
structure Fl (W H : Nat) (eight : Bool) (dk : List Bool) (dark : Bool) (f : Nat) (num : Int) (lab0 lab : List Int) (found : List Nat) (i : Nat) : Prop where
 len : lab.length = lab0.length
 nodup : found.Nodup
 head : found[0]? = some f
 ins : ∀ j ∈ found, dk[j]? = some dark ∧ Cl (Ed W eight dk dark dk.length) f j
 lab : ∀ j : Nat, lab[j]? = if j ∈ found then (lab0[j]?).map (fun _ => num) else lab0[j]?
 done : ∀ t j : Nat, t < i → ∀ p, found[t]? = some p → dk[j]? = some dark → Nb W H eight p j → j ∈ found
section
variable {W H : Nat} {eight : Bool} {dk : List Bool} {dark : Bool} {f : Nat} {num : Int} {lab0 lab : List Int} {found : List Nat} {i : Nat}
end
end Go.Proofs.Ytbinlkobmlebpaa
namespace Go.Proofs.Ytbinlkobmlebpaa
open Go.RowKit Sym Uf
theorem Fl.le {W H : Nat} {eight : Bool} {dk : List Bool} {dark : Bool} {f : Nat} {num : Int} {lab0 lab : List Int} {found : List Nat} {i : Nat} (h : Fl W H eight dk dark f num lab0 lab found i) : found.length ≤ dk.length := by
 have := List.Nodup.length_le_of_subset (l₂ := List.range dk.length) h.nodup (fun x hx => List.mem_range.2 (List.getElem?_eq_some_iff.1 (h.ins x hx).1).1)
 simpa using this
section
variable {w w' w'' : World} {B0 bm : Nat} {vl vf vd : Value} {W H : Nat} {dk : List Bool} {lab : List Int} {found : List Nat}
end
end Go.Proofs.Ytbinlkobmlebpaa
namespace Go.Proofs.Ytbinlkobmlebpaa
open Go.RowKit Sym Uf
structure SInv (w w' : World) (c : SV) (n W : Nat) (eight : Bool) (k : Nat) (par siz : List Int) : Prop where
 sw : SW w' w.heap.size c par siz
 pl : par.length = n
 zl : siz.length = n
 ext : Ext w w'
 says : Says par (Dm c.dk c.dark k) (Ed W eight c.dk c.dark k)
 light : ∀ i : Nat, i < k → c.dk[i]? ≠ some c.dark → par[i]? = some (-1)
structure RInv (w w' : World) (c : SV) (n W : Nat) (eight : Bool) (k : Nat) (par siz : List Int) : Prop where
 sw : SW w' w.heap.size c par siz
 pl : par.length = n
 ext : Ext w w'
 says : Says par (Dm c.dk c.dark n) (Ed W eight c.dk c.dark n)
 light : ∀ i : Nat, i < n → c.dk[i]? ≠ some c.dark → par[i]? = some (-1)
 done : ∀ i : Nat, i < k → c.dk[i]? = some c.dark → ∃ r : Nat, par[i]? = some (r : Int) ∧ Root par i r
theorem parted {w w' : World} {c : SV} {n W : Nat} {eight : Bool} {par siz : List Int} (h : RInv w w' c n W eight n par siz) (hn : c.dk.length = n) : Parted W eight c.dk c.dark par := by
  have hlt : ∀ i : Nat, ∀ b, c.dk[i]? = some b → i < n := fun i b hb => by have := (List.getElem?_eq_some_iff.1 hb).1; omega
  refine ⟨by rw [h.pl, hn], fun i hi => ?_, fun i hi => ?_, fun i j z hi hj hz => ?_⟩
  · exact h.light i (hlt i _ hi) (by rw [hi]; intro e; have := Option.some.inj e; cases hd : c.dark <;> simp [hd] at this)
  · obtain ⟨r, h1, h2⟩ := h.done i (hlt i _ hi) hi
    obtain ⟨s, h3, h4⟩ := h.says.root i ⟨hlt i _ hi, hi⟩
    have := h4.det h2; subst this
    exact ⟨s, h3.2, h1⟩
  · obtain ⟨r, h1, h2⟩ := h.done i (hlt i _ hi) hi
    obtain ⟨s, h3, h4⟩ := h.done j (hlt j _ hj) hj
    rw [h1] at hz
    have hz' := (Option.some.inj hz).symm
    rw [h3, hn, ← h.says.same i j r s ⟨hlt i _ hi, hi⟩ ⟨hlt j _ hj, hj⟩ h2 h4]
    constructor
    · intro e; have := Option.some.inj e; omega
    · rintro rfl; rw [hz']
set_option maxHeartbeats 2000000 in
theorem sets_ret (W Ht : Nat) (vd : Value) (dk : List Bool) (dark eight : Bool) (w : World) (hrd : RdL Value.bool w vd dk) (hW : 0 < W) (hWn : W ≤ 4194304) (hl : dk.length ≤ 4194304) :
    Ret Try.prog 64 #[.agg #[i64 W, i64 Ht, vd], .bool dark, .bool eight] w fun v w' => ∃ s, OwnL i32 w' w.heap.size 21 v s ∧ Parted W eight dk dark s ∧ Ext w w' := by
  obtain ⟨n, hn⟩ : ∃ n, dk.length = n := ⟨_, rfl⟩
  refine enter Try.func64 rfl (by kernel_rfl) Try.ntmps64 rfl ?_
  refine C.seq <| C.region <| ?_
  refine E.boxB (cs := [i64 W, i64 Ht, vd]) rfl rfl rfl ?_
  intro w1 b1 x1 z1
  refine E.boxB (cs := [.bool dark]) rfl rfl rfl ?_
  intro w2 b2 x2 z2
  have y2 := x1.trans x2
  refine E.asg rfl rfl <| E.nil <| X.next <| C.seq <| C.region <| ?_
  refine E.fld (o := 2) (sz := 0) rfl Try.underlying37 rfl rfl (by kernel_rfl) rfl ?_
  refine E.load rfl Try.underlying35 rfl ((b1.ext x2).cell 2) rfl ?_
  refine E.len rfl (hrd.ext y2) Try.underlying35 rfl ?_
  rw [hn]
  refine E.make (enc := i32) (by_ := 4) (0 : Int) rfl Try.underlying107 (by kernel_rfl) rfl (by omega) (by omega) w.heap.size (by omega) rfl ?_
  intro vp w3 op3 x3 np3 z3
  have y3 := y2.trans x3
  refine E.varB (z := .slice none 0 0) (by kernel_rfl) rfl rfl rfl (by kernel_rfl) (by obtain ⟨_, _, rfl⟩ := op3.rd.shape; rfl) ?_
  intro w4 b4 x4 z4
  have y4 := y3.trans x4
  refine E.nil <| X.next <| C.seq <| C.region <| ?_
  refine E.fld (o := 2) (sz := 0) rfl Try.underlying37 rfl rfl (by kernel_rfl) rfl ?_
  refine E.load rfl Try.underlying35 rfl ((b1.ext (x2.trans (x3.trans x4))).cell 2) rfl ?_
  refine E.len rfl (hrd.ext y4) Try.underlying35 rfl ?_
  rw [hn]
  refine E.make (enc := i32) (by_ := 4) (0 : Int) rfl Try.underlying107 (by kernel_rfl) rfl (by omega) (by omega) w.heap.size (by omega) rfl ?_
  intro vz w5 oz5 x5 nz5 z5
  refine E.varB (z := .slice none 0 0) (by kernel_rfl) rfl rfl rfl (by kernel_rfl) (by obtain ⟨_, _, rfl⟩ := oz5.rd.shape; rfl) ?_
  intro w6 b6 x6 z6
  refine E.nil <| X.next <| C.seq <| C.region <| ?_
  refine E.allocB (z := .nilFunc) (cs := [.nilFunc]) (by kernel_rfl) rfl rfl ?_
  intro w7 b7 x7 z7
  refine E.nil <| X.next <| C.seq <| C.region <| ?_
  refine E.mkfn rfl rfl ?_
  refine E.storeB rfl rfl (by kernel_rfl) rfl b7 ?_
  intro w8 b8 g8 z8
  have x8 : Ext w6 w8 := x7.ofGrown g8 (Nat.le_refl _)
  obtain ⟨c, hc⟩ : ∃ c : SV, c = ⟨w.heap.size, w1.heap.size, w3.heap.size, w6.heap.size, w5.heap.size, vp, vz, vd, (W : Int), (Ht : Int), dark, dk⟩ := ⟨_, rfl⟩
  have hdn : c.dk.length = n := by rw [hc]; exact hn
  have hsw : SW w8 w.heap.size c (List.replicate n 0) (List.replicate n 0) := by
    subst hc
    refine { u := ⟨b4.ext (x5.trans (x6.trans x8)), b8, op3.kept (x4.trans (x5.trans (x6.trans x8))), ?_, ?_⟩, hm := b1.ext (x2.trans (x3.trans (x4.trans (x5.trans (x6.trans x8))))), hd := b2.ext (x3.trans (x4.trans (x5.trans (x6.trans x8)))), hz := b6.ext x8, oz := oz5.kept (x6.trans x8), rd := hrd.ext (y4.trans (x5.trans (x6.trans x8))), rb := ?_, ap := ?_, n1 := ?_, n2 := ?_, n3 := ?_, m1 := ?_, m2 := ?_, m3 := ?_, m4 := ?_, m5 := ?_ }
    case refine_3 =>
      by_cases h0 : dk = []
      · exact .inl h0
      · exact .inr (World.block_lt_of_cell? w _ (hrd.cell (List.length_pos_iff.2 h0)))
    case refine_4 => intro g h1 h2; rw [np3] at h1; rw [nz5] at h2; have := Option.some.inj h1; have := Option.some.inj h2; omega
    all_goals (intro e; simp only [np3, nz5] at e; have := Option.some.inj e; omega)
  have hI0 : SInv w w8 c n W eight 0 (List.replicate n 0) (List.replicate n 0) := ⟨hsw, by simp, by simp, (y4.trans (x5.trans (x6.trans x8))), ⟨fun i hi => by have := hi.1; omega, fun i j hi => by have := hi.1; omega, fun i j r s hi => by have := hi.1; omega⟩, fun i hi => by omega⟩
  have hcm : pv w.heap.size = pv c.bm := by rw [hc]
  have hcd : pv w1.heap.size = pv c.bd := by rw [hc]
  have hcp : pv w3.heap.size = pv c.bp := by rw [hc]
  have hcz : pv w5.heap.size = pv c.bz := by rw [hc]
  have hcf : pv w6.heap.size = pv c.bf := by rw [hc]
  have hcv : vd = c.vd := by rw [hc]
  have hcW : c.W = (W : Int) := by rw [hc]
  have hcdk : c.dk = dk := by rw [hc]
  have hcdark : c.dark = dark := by rw [hc]
  refine E.sub (env' := [(2, .bool eight), (3, pv c.bm), (4, pv c.bd), (7, pv c.bp), (8, pv c.bz), (9, pv c.bf)]) (by
    rw [← hcm, ← hcd, ← hcp, ← hcz, ← hcf]
    exact Sub.cons rfl <| Sub.cons rfl <| Sub.cons rfl <| Sub.cons rfl <| Sub.cons rfl <| Sub.cons rfl <| Sub.nil _) ?_
  clear hsw b1 b2 b4 b6 b7 b8 g8 x1 x2 x3 x4 x5 x6 x7 x8 y2 y3 y4 op3 oz5 np3 nz5 z1 z2 z3 z4 z5 z6 z7 z8 hcm hcd hcp hcz hcf
  rw [hcv] at hrd
  clear hc
  refine E.nil <| X.next <| C.seq <| C.region <| ?_
  refine E.mkfn rfl rfl ?_
  refine E.asg rfl rfl <| E.nil <| X.next <| C.seq <| C.seq <| C.region <| ?_
  refine E.fld (o := 2) (sz := 0) rfl Try.underlying37 rfl rfl (by kernel_rfl) rfl ?_
  refine E.load rfl Try.underlying35 rfl (hI0.sw.hm.cell 2) rfl ?_
  refine E.len rfl hI0.sw.rd Try.underlying35 rfl ?_
  rw [hdn]
  refine E.mv rfl rfl <| E.nil <| X.next <| C.block <| ?_

  refine C.loop (G := Nat × List Int × List Int) (fun g => [(2, .bool eight), (3, pv c.bm), (4, pv c.bd), (7, pv c.bp), (8, pv c.bz), (9, pv c.bf), (10, fnv 89 [pv c.bm, pv c.bd, pv c.bf, pv c.bz, pv c.bp]), (27, c.vd), (28, i64 n), (29, i64 (g.1 : Nat))]) (fun g w' => g.1 ≤ n ∧ SInv w w' c n W eight g.1 g.2.1 g.2.2) (fun g => n - g.1) (0, List.replicate n 0, List.replicate n 0) ?_ ?_ ?_
  · exact Sub.cons rfl <| Sub.cons rfl <| Sub.cons rfl <| Sub.cons rfl <| Sub.cons rfl <| Sub.cons rfl <| Sub.cons rfl <| Sub.cons rfl <| Sub.cons rfl <| Sub.cons rfl <| Sub.nil _
  · exact ⟨Nat.zero_le _, hI0⟩
  · rintro ⟨k, par, siz⟩ wk ⟨hk, hI⟩
    simp only at hk hI
    refine C.seq <| C.region <| E.bin rfl rfl rfl rfl <| E.nil <| X.next <| C.seq <| ?_
    refine C.cond' rfl (fun hc => ?_) (fun hc => ?_)
    ·
      have hk' : k < n := by have hc' : (k : Int) < (n : Int) := hc; omega
      have hkd : k < c.dk.length := by omega
      refine C.skip <| X.next <| ?_

      refine C.cut (G := List Int × List Int) (fun _ => [(2, .bool eight), (3, pv c.bm), (4, pv c.bd), (7, pv c.bp), (8, pv c.bz), (9, pv c.bf), (10, fnv 89 [pv c.bm, pv c.bd, pv c.bf, pv c.bz, pv c.bp]), (27, c.vd), (28, i64 n), (29, i64 (k : Nat))]) (fun g w' => SInv w w' c n W eight (k + 1) g.1 g.2) ?_ ?_
      ·
        refine C.block <| C.seq <| C.region <| E.mv rfl rfl <| ?_
        refine E.get (k := k) rfl rfl hI.sw.rd rfl hkd Try.underlying35 (by kernel_rfl) Try.underlying4 rfl rfl rfl ?_
        refine E.asg rfl rfl <| E.asg rfl rfl <| E.nil <| X.next <| C.seq <| C.seq <| C.region <| E.mv rfl rfl <| ?_
        refine E.load rfl Try.underlying4 rfl (hI.sw.hd.cell 0) rfl ?_
        refine E.neb rfl rfl Try.underlying4 rfl <| E.nil <| X.next <| ?_
        refine C.cond rfl (fun hc => ?_) (fun hc => ?_)
        ·
          refine C.seq <| C.region <| ?_
          refine E.load rfl Try.underlying107 rfl (hI.sw.u.hp.cell 0) rfl ?_
          refine E.mv rfl rfl <| ?_
          refine E.idx (sz := 1) rfl rfl hI.sw.u.own.rd Try.underlying107 (by kernel_rfl) (by omega) (by have := hI.pl; omega) (by decide) rfl ?_
          have hkp : k < par.length := by have := hI.pl; omega
          rw [show (k : Int).toNat * 1 = k from by omega]
          refine E.store rfl rfl (by kernel_rfl) rfl (hI.sw.u.own.cellAt hkp).1 (hI.sw.u.own.cellAt hkp).2.1 ?_
          obtain ⟨s1, f1⟩ := hI.sw.setP hkp (-1)
          have hnd : c.dk[k]? ≠ some c.dark := by
            rw [List.getElem?_eq_getElem hkd]; intro e; have := Option.some.inj e; rw [this] at hc; simp at hc
          refine E.nil <| X.next <| C.exit <| X.exitT <| X.outE <| X.join (par.set k (-1), siz) (Sub.cons rfl <| Sub.cons rfl <| Sub.cons rfl <| Sub.cons rfl <| Sub.cons rfl <| Sub.cons rfl <| Sub.cons rfl <| Sub.cons rfl <| Sub.cons rfl <| Sub.cons rfl <| Sub.nil _) ⟨s1, by rw [List.length_set]; exact hI.pl, hI.zl, f1 _ hI.ext (Nat.le_refl _), ?_, fun i hi hd => ?_⟩
          · refine Says.iff (hI.says.away (a := k) (fun i hi => by have := hi.1; omega) (-1)) (fun i => ⟨fun h => ⟨by have := h.1; omega, h.2⟩, fun h => ⟨?_, h.2⟩⟩) (fun i j => ⟨fun h => ⟨by have := h.1; omega, h.2⟩, fun h => ⟨?_, h.2⟩⟩)
            · have := h.1; have : i ≠ k := fun e => hnd (e ▸ h.2); omega
            · have := h.1; have : i ≠ k := fun e => hnd (e ▸ h.2.1); omega
          · by_cases e : i = k
            · subst e; rw [List.getElem?_set_self hkp]
            · rw [List.getElem?_set_ne (fun h => e h.symm)]; exact hI.light i (by omega) hd
        ·
          have hdk : c.dk[k]? = some c.dark := by
            rw [List.getElem?_eq_getElem hkd]; simpa using hc
          have hkp : k < par.length := by have := hI.pl; omega
          have hkz : k < siz.length := by have := hI.zl; omega

          refine C.skip <| X.next <| C.seq <| C.held (fun w' => ∃ par' siz', SW w' w.heap.size c par' siz' ∧ par'.length = n ∧ siz'.length = n) (by kernel_rfl) fun wh hwh hhh => ?_
          have s0 := hI.sw.ext hwh
          have hS : ∃ par' siz', SW wh w.heap.size c par' siz' ∧ par'.length = n ∧ siz'.length = n := ⟨par, siz, s0, hI.pl, hI.zl⟩
          refine H.take 1 rfl rfl (by kernel_rfl) (by kernel_rfl) (by kernel_rfl) hS (fun w' hS => Y.mv rfl) rfl ?_
          refine H.take 3 rfl rfl (by kernel_rfl) (by kernel_rfl) (by kernel_rfl) hS (fun w' hS => Y.mv rfl) rfl ?_
          refine H.take 4 rfl rfl (by kernel_rfl) (by kernel_rfl) (by kernel_rfl) hS (fun w' hS => Y.mv rfl) rfl ?_
          refine H.take 5 rfl rfl (by kernel_rfl) (by kernel_rfl) (by kernel_rfl) hS (fun w' hS => Y.conv rfl Try.underlying3 Try.underlying21 (IntWalk.i32_in _ (by omega))) rfl ?_
          refine H.take 0 rfl rfl (by kernel_rfl) (by kernel_rfl) (by kernel_rfl) hS (fun w' hS => Y.load rfl Try.underlying107 rfl (hS.choose_spec.choose_spec.1.u.hp.cell 0)) rfl ?_
          refine H.take 6 rfl rfl (by kernel_rfl) (by kernel_rfl) (by kernel_rfl) hS (fun w' hS => Y.idx (sz := 1) rfl rfl hS.choose_spec.choose_spec.1.u.own.rd Try.underlying107 (by kernel_rfl) (by omega) (by have := hS.choose_spec.choose_spec.2.1; omega) (by decide)) rfl ?_
          refine H.take 2 rfl rfl (by kernel_rfl) (by kernel_rfl) (by kernel_rfl) hS (fun w' hS => Y.load rfl Try.underlying107 rfl (hS.choose_spec.choose_spec.1.hz.cell 0)) rfl ?_
          rw [show (k : Int).toNat * 1 = k from by omega]
          refine H.only 7 rfl (by kernel_rfl) ?_
          refine E.store rfl rfl (by kernel_rfl) rfl (s0.u.own.cellAt hkp).1 (s0.u.own.cellAt hkp).2.1 ?_
          obtain ⟨s1, f1⟩ := s0.setP hkp (k : Int)
          have hS : ∃ par' siz', SW (wh.setCell (el c.vp k) (i32 k)) w.heap.size c par' siz' ∧ par'.length = n ∧ siz'.length = n := ⟨_, _, s1, by rw [List.length_set]; exact hI.pl, hI.zl⟩
          refine H.back hS ?_
          refine H.take 8 rfl rfl (by kernel_rfl) (by kernel_rfl) (by kernel_rfl) hS (fun w' hS => Y.idx (sz := 1) rfl rfl hS.choose_spec.choose_spec.1.oz.rd Try.underlying107 (by kernel_rfl) (by omega) (by have := hS.choose_spec.choose_spec.2.2; omega) (by decide)) rfl ?_
          rw [show (k : Int).toNat * 1 = k from by omega]
          refine H.only 9 rfl (by kernel_rfl) ?_
          refine E.store rfl rfl (by kernel_rfl) rfl (s1.oz.cellAt hkz).1 (s1.oz.cellAt hkz).2.1 ?_
          obtain ⟨s2, f2⟩ := s1.setZ hkz 1
          have hS : ∃ par' siz', SW ((wh.setCell (el c.vp k) (i32 k)).setCell (el c.vz k) (i32 1)) w.heap.size c par' siz' ∧ par'.length = n ∧ siz'.length = n := ⟨_, _, s2, by rw [List.length_set]; exact hI.pl, by rw [List.length_set]; exact hI.zl⟩
          have t0 : Stg wk ((wh.setCell (el c.vp k) (i32 k)).setCell (el c.vz k) (i32 1)) w.heap.size c n W eight k (fun _ => False) (par.set k (k : Int)) (siz.set k 1) := by
            refine ⟨s2, by rw [List.length_set]; exact hI.pl, by rw [List.length_set]; exact hI.zl, ((Fr.ext hwh).trans f1).trans f2, ?_, fun i hi hd => ?_⟩
            · refine Says.iff (hI.says.one hkp (fun i hi => by have := hi.1; omega) (fun i j hij => hij.in)) (fun i => ⟨fun h => ?_, fun h => ?_⟩) (fun i j => ⟨fun h => .inl h, fun h => h.elim id fun h => h.2.2.elim⟩)
              · rcases h with h | rfl
                · exact ⟨by have := h.1; omega, h.2⟩
                · exact ⟨by omega, hdk⟩
              · by_cases e : i = k
                · exact .inr e
                · exact .inl ⟨by have := h.1; omega, h.2⟩
            · rw [List.getElem?_set_ne (by omega)]; exact hI.light i hi hd
          refine H.back hS ?_

          refine H.done (by kernel_rfl) <| X.next <| C.seq <| C.drawn (by kernel_rfl) (by kernel_rfl) <| ?_
          refine Q.mv rfl rfl ?_
          refine Q.fld (o := 0) (sz := 0) rfl Try.underlying37 rfl rfl (by kernel_rfl) rfl ?_
          refine Q.load rfl Try.underlying3 rfl (t0.sw.hm.cell 0) rfl ?_
          rw [hcW]
          refine Q.rem rfl rfl (by omega) (IntWalk.rem_in _ _ (by omega)) rfl ?_
          refine Q.mv rfl rfl ?_
          refine Q.fld (o := 0) (sz := 0) rfl Try.underlying37 rfl rfl (by kernel_rfl) rfl ?_
          refine Q.load rfl Try.underlying3 rfl (t0.sw.hm.cell 0) rfl ?_
          rw [hcW]
          refine Q.quo rfl rfl (by omega) (IntWalk.i64_quo _ _ (by omega)) rfl ?_
          rw [← Int.natCast_emod, ← Int.natCast_ediv]
          refine Q.asg rfl rfl ?_
          refine Q.asg rfl rfl ?_
          refine Q.nil <| fun w2 hx2 => X.next <| ?_

          refine C.cut (G := List Int × List Int) (fun _ => [(2, .bool eight), (3, pv c.bm), (4, pv c.bd), (7, pv c.bp), (8, pv c.bz), (9, pv c.bf), (10, fnv 89 [pv c.bm, pv c.bd, pv c.bf, pv c.bz, pv c.bp]), (11, i64 (k : Nat)), (13, i64 ((k % W : Nat) : Int)), (14, i64 ((k / W : Nat) : Int)), (27, c.vd), (28, i64 n), (29, i64 (k : Nat))]) (fun g w' => Stg wk w' w.heap.size c n W eight k (fun j => (0 < k % W ∧ j + 1 = k)) g.1 g.2) ?_ ?_
          ·
            refine C.seq <| C.region <| E.mv rfl rfl <| E.bin rfl rfl rfl rfl <| E.nil <| X.next <| ?_
            refine C.cond' rfl (fun hc => ?_) (fun hc => ?_)
            ·
              have hg : Stg wk w2 w.heap.size c n W eight k (fun _ => False) (par.set k (k : Int), siz.set k 1).1 (par.set k (k : Int), siz.set k 1).2 := t0.ext hx2
              generalize (par.set k (k : Int), siz.set k 1) = g at hg
              obtain ⟨b, hb⟩ : ∃ b : Nat, b + 1 = k := ⟨k - 1, by have hc' : (0 : Int) < ((k % W : Nat) : Int) := hc; have := Nat.mod_le k W; omega⟩
              refine C.region <| E.mv rfl rfl <| E.mv rfl rfl <| E.mv rfl rfl <| ?_
              refine E.sub' rfl rfl (by omega) rfl ?_
              rw [show (k : Int) - 1 = (b : Int) from by omega]
              refine E.callv rfl rfl rfl (unite_ret w.heap.size c n k b g.1 g.2 _ _ _ hg.sw hg.says ⟨by omega, hdk⟩ (fun hb => ⟨by omega, hb⟩) (by omega) (by omega) hdn hg.pl hg.zl (by omega)) ?_
              rintro _ w3 ⟨par', siz', hu⟩
              refine E.nil <| X.join (par', siz') (Sub.cons rfl <| Sub.cons rfl <| Sub.cons rfl <| Sub.cons rfl <| Sub.cons rfl <| Sub.cons rfl <| Sub.cons rfl <| Sub.cons rfl <| Sub.cons rfl <| Sub.cons rfl <| Sub.cons rfl <| Sub.cons rfl <| Sub.cons rfl <| Sub.nil _) ((hg.step hu).iff fun j => ?_)
              have hc' : (0 : Int) < ((k % W : Nat) : Int) := hc
              exact ⟨fun h => h.elim False.elim fun h => ⟨by omega, by omega⟩, fun h => .inr (by omega)⟩
            ·
              refine C.skip <| X.join (par.set k (k : Int), siz.set k 1) (Sub.cons rfl <| Sub.cons rfl <| Sub.cons rfl <| Sub.cons rfl <| Sub.cons rfl <| Sub.cons rfl <| Sub.cons rfl <| Sub.cons rfl <| Sub.cons rfl <| Sub.cons rfl <| Sub.cons rfl <| Sub.cons rfl <| Sub.cons rfl <| Sub.nil _) ((t0.ext hx2).iff fun j => ?_)
              have hc' : ¬ (0 : Int) < ((k % W : Nat) : Int) := hc
              exact ⟨False.elim, fun h => by omega⟩
          ·
            rintro g w3 hg

            refine C.cut (G := List Int × List Int) (fun _ => [(2, .bool eight), (3, pv c.bm), (4, pv c.bd), (7, pv c.bp), (8, pv c.bz), (9, pv c.bf), (10, fnv 89 [pv c.bm, pv c.bd, pv c.bf, pv c.bz, pv c.bp]), (11, i64 (k : Nat)), (13, i64 ((k % W : Nat) : Int)), (14, i64 ((k / W : Nat) : Int)), (27, c.vd), (28, i64 n), (29, i64 (k : Nat))]) (fun g w' => Stg wk w' w.heap.size c n W eight k (fun j => (0 < k % W ∧ j + 1 = k) ∨ (0 < k / W ∧ j + W = k)) g.1 g.2) ?_ ?_
            ·
              refine C.seq <| C.region <| E.mv rfl rfl <| E.bin rfl rfl rfl rfl <| E.nil <| X.next <| ?_
              refine C.cond' rfl (fun hc => ?_) (fun hc => ?_)
              ·
                have hc' : 0 < k / W := by have hc' : (0 : Int) < ((k / W : Nat) : Int) := hc; omega
                have hlo := row_lo hc'
                obtain ⟨b, hb⟩ : ∃ b : Nat, b + W = k := ⟨k - W, by omega⟩
                refine C.region <| E.mv rfl rfl <| E.mv rfl rfl <| E.mv rfl rfl <| ?_
                refine E.fld (o := 0) (sz := 0) rfl Try.underlying37 rfl rfl (by kernel_rfl) rfl ?_
                refine E.load rfl Try.underlying3 rfl (hg.sw.hm.cell 0) rfl ?_
                rw [hcW]
                refine E.sub' rfl rfl (by omega) rfl ?_
                rw [show (k : Int) - (W : Int) = (b : Int) from by omega]
                refine E.callv rfl rfl rfl (unite_ret w.heap.size c n k b g.1 g.2 _ _ _ hg.sw hg.says ⟨by omega, hdk⟩ (fun hb => ⟨by omega, hb⟩) (by omega) (by omega) hdn hg.pl hg.zl (by omega)) ?_
                rintro _ w4 ⟨par', siz', hu⟩
                refine E.nil <| X.join (par', siz') (Sub.cons rfl <| Sub.cons rfl <| Sub.cons rfl <| Sub.cons rfl <| Sub.cons rfl <| Sub.cons rfl <| Sub.cons rfl <| Sub.cons rfl <| Sub.cons rfl <| Sub.cons rfl <| Sub.cons rfl <| Sub.cons rfl <| Sub.cons rfl <| Sub.nil _) ((hg.step hu).iff fun j => ?_)
                exact ⟨fun h => h.imp id fun h => ⟨hc', by omega⟩, fun h => h.imp id fun h => by omega⟩
              ·
                refine C.skip <| X.join g (Sub.cons rfl <| Sub.cons rfl <| Sub.cons rfl <| Sub.cons rfl <| Sub.cons rfl <| Sub.cons rfl <| Sub.cons rfl <| Sub.cons rfl <| Sub.cons rfl <| Sub.cons rfl <| Sub.cons rfl <| Sub.cons rfl <| Sub.cons rfl <| Sub.nil _) (hg.iff fun j => ?_)
                have hc' : ¬ (0 : Int) < ((k / W : Nat) : Int) := hc
                exact ⟨.inl, fun h => h.elim id fun h => by omega⟩
            ·
              rintro g w4 hg

              refine C.cut (G := List Int × List Int) (fun _ => [(2, .bool eight), (3, pv c.bm), (4, pv c.bd), (7, pv c.bp), (8, pv c.bz), (9, pv c.bf), (10, fnv 89 [pv c.bm, pv c.bd, pv c.bf, pv c.bz, pv c.bp]), (11, i64 (k : Nat)), (13, i64 ((k % W : Nat) : Int)), (14, i64 ((k / W : Nat) : Int)), (27, c.vd), (28, i64 n), (29, i64 (k : Nat))]) (fun g w' => Stg wk w' w.heap.size c n W eight k (fun j => ((0 < k % W ∧ j + 1 = k) ∨ (0 < k / W ∧ j + W = k)) ∨ (eight = true ∧ 0 < k / W ∧ 0 < k % W ∧ j + W + 1 = k)) g.1 g.2) ?_ ?_
              ·
                refine C.seq <| C.region <| E.mv rfl rfl <| E.mv rfl rfl <| ?_
                cases eight with
                | false =>
                  refine E.off rfl rfl rfl rfl <| E.off rfl rfl rfl rfl <| E.pick rfl rfl rfl <| E.mv rfl rfl <| E.off rfl rfl rfl rfl <| E.off rfl rfl rfl rfl <| E.pick rfl rfl rfl <| E.nil <| X.next <| C.condF rfl <| C.skip <| X.join g (Sub.cons rfl <| Sub.cons rfl <| Sub.cons rfl <| Sub.cons rfl <| Sub.cons rfl <| Sub.cons rfl <| Sub.cons rfl <| Sub.cons rfl <| Sub.cons rfl <| Sub.cons rfl <| Sub.cons rfl <| Sub.cons rfl <| Sub.cons rfl <| Sub.nil _) (hg.iff fun j => ⟨.inl, fun h => h.elim id fun h => by cases h.1⟩)
                | true =>
                refine E.on rfl rfl (E.mv rfl rfl ?_)
                refine E.on rfl rfl (E.bin rfl rfl rfl rfl ?_)
                by_cases hy : (0 : Int) < ((k / W : Nat) : Int)
                case neg =>
                  rw [decide_eq_false hy]
                  refine E.pick rfl rfl rfl <| E.mv rfl rfl <| E.off rfl rfl rfl rfl <| E.off rfl rfl rfl rfl <| E.pick rfl rfl rfl <| E.nil <| X.next <| C.condF rfl <| C.skip <| X.join g (Sub.cons rfl <| Sub.cons rfl <| Sub.cons rfl <| Sub.cons rfl <| Sub.cons rfl <| Sub.cons rfl <| Sub.cons rfl <| Sub.cons rfl <| Sub.cons rfl <| Sub.cons rfl <| Sub.cons rfl <| Sub.cons rfl <| Sub.cons rfl <| Sub.nil _) (hg.iff fun j => ⟨.inl, fun h => h.elim id fun h => by have := h.2.1; omega⟩)
                rw [decide_eq_true hy]
                have hy' : 0 < k / W := by omega
                have hlo := row_lo hy'
                refine E.pick rfl rfl rfl <| E.mv rfl rfl <| ?_
                refine E.on rfl rfl (E.mv rfl rfl ?_)
                refine E.on rfl rfl (E.bin rfl rfl rfl rfl ?_)
                refine E.pick rfl rfl rfl <| E.nil <| X.next <| ?_
                refine C.cond' rfl (fun hc => ?_) (fun hc => ?_)
                ·
                  have hc' : 0 < k % W := by have hc' : (0 : Int) < ((k % W : Nat) : Int) := hc; omega
                  obtain ⟨b, hb⟩ : ∃ b : Nat, b + W + 1 = k := ⟨k - W - 1, by omega⟩
                  refine C.region <| E.mv rfl rfl <| E.mv rfl rfl <| E.mv rfl rfl <| ?_
                  refine E.fld (o := 0) (sz := 0) rfl Try.underlying37 rfl rfl (by kernel_rfl) rfl ?_
                  refine E.load rfl Try.underlying3 rfl (hg.sw.hm.cell 0) rfl ?_
                  rw [hcW]
                  refine E.sub' rfl rfl (by omega) rfl ?_
                  refine E.sub' rfl rfl (by omega) rfl ?_
                  rw [show (k : Int) - (W : Int) - 1 = (b : Int) from by omega]
                  refine E.callv rfl rfl rfl (unite_ret w.heap.size c n k b g.1 g.2 _ _ _ hg.sw hg.says ⟨by omega, hdk⟩ (fun hb => ⟨by omega, hb⟩) (by omega) (by omega) hdn hg.pl hg.zl (by omega)) ?_
                  rintro _ w5 ⟨par', siz', hu⟩
                  refine E.nil <| X.join (par', siz') (Sub.cons rfl <| Sub.cons rfl <| Sub.cons rfl <| Sub.cons rfl <| Sub.cons rfl <| Sub.cons rfl <| Sub.cons rfl <| Sub.cons rfl <| Sub.cons rfl <| Sub.cons rfl <| Sub.cons rfl <| Sub.cons rfl <| Sub.cons rfl <| Sub.nil _) ((hg.step hu).iff fun j => ?_)
                  exact ⟨fun h => h.imp id fun h => ⟨rfl, hy', hc', by omega⟩, fun h => h.imp id fun h => by omega⟩
                ·
                  refine C.skip <| X.join g (Sub.cons rfl <| Sub.cons rfl <| Sub.cons rfl <| Sub.cons rfl <| Sub.cons rfl <| Sub.cons rfl <| Sub.cons rfl <| Sub.cons rfl <| Sub.cons rfl <| Sub.cons rfl <| Sub.cons rfl <| Sub.cons rfl <| Sub.cons rfl <| Sub.nil _) (hg.iff fun j => ?_)
                  have hc' : ¬ (0 : Int) < ((k % W : Nat) : Int) := hc
                  exact ⟨.inl, fun h => h.elim id fun h => by omega⟩
              ·
                rintro g w5 hg
                have fin : ∀ (g : List Int × List Int) w', Stg wk w' w.heap.size c n W eight k (fun j => Back W eight k j) g.1 g.2 → SInv w w' c n W eight (k + 1) g.1 g.2 := fun g w' h => by
                  refine ⟨h.sw, h.pl, h.zl, h.fr _ hI.ext (Nat.le_refl _), Says.iff h.says (fun _ => Iff.rfl) (fun i j => ⟨fun e => ?_, fun e => ?_⟩), fun i hi hd => h.light i (by have : i ≠ k := fun e => hd (e ▸ hdk); omega) hd⟩
                  · rcases e with e | ⟨rfl, e1, e2⟩
                    · exact ⟨by have := e.1; omega, e.2⟩
                    · exact ⟨by omega, hdk, e1, e2⟩
                  · by_cases ek : i = k
                    · subst ek; exact .inr ⟨rfl, e.2.2.1, e.2.2.2⟩
                    · exact .inl ⟨by have := e.1; omega, e.2⟩
                have bk : ∀ j, Back W eight k j ↔ ((((0 < k % W ∧ j + 1 = k) ∨ (0 < k / W ∧ j + W = k)) ∨ (eight = true ∧ 0 < k / W ∧ 0 < k % W ∧ j + W + 1 = k)) ∨ (eight = true ∧ 0 < k / W ∧ k % W + 1 < W ∧ j + W = k + 1)) := fun j => by unfold Back; exact or_assoc.symm
                refine C.seq <| C.region <| E.mv rfl rfl <| E.mv rfl rfl <| ?_
                cases eight with
                | false =>
                  refine E.off rfl rfl rfl rfl <| E.off rfl rfl rfl rfl <| E.pick rfl rfl rfl <| E.mv rfl rfl <| E.off rfl rfl rfl rfl <| E.off rfl rfl rfl rfl <| E.off rfl rfl rfl rfl <| E.off rfl rfl rfl rfl <| E.off rfl rfl rfl rfl <| E.pick rfl rfl rfl <| E.nil <| X.next <| C.condF rfl <| C.skip <| X.outN <| X.join g (Sub.cons rfl <| Sub.cons rfl <| Sub.cons rfl <| Sub.cons rfl <| Sub.cons rfl <| Sub.cons rfl <| Sub.cons rfl <| Sub.cons rfl <| Sub.cons rfl <| Sub.cons rfl <| Sub.nil _) (fin _ _ (hg.iff fun j => by rw [bk]; exact ⟨.inl, fun h => h.elim id fun h => by cases h.1⟩))
                | true =>
                refine E.on rfl rfl (E.mv rfl rfl ?_)
                refine E.on rfl rfl (E.bin rfl rfl rfl rfl ?_)
                by_cases hy : (0 : Int) < ((k / W : Nat) : Int)
                case neg =>
                  rw [decide_eq_false hy]
                  refine E.pick rfl rfl rfl <| E.mv rfl rfl <| E.off rfl rfl rfl rfl <| E.off rfl rfl rfl rfl <| E.off rfl rfl rfl rfl <| E.off rfl rfl rfl rfl <| E.off rfl rfl rfl rfl <| E.pick rfl rfl rfl <| E.nil <| X.next <| C.condF rfl <| C.skip <| X.outN <| X.join g (Sub.cons rfl <| Sub.cons rfl <| Sub.cons rfl <| Sub.cons rfl <| Sub.cons rfl <| Sub.cons rfl <| Sub.cons rfl <| Sub.cons rfl <| Sub.cons rfl <| Sub.cons rfl <| Sub.nil _) (fin _ _ (hg.iff fun j => by rw [bk]; exact ⟨.inl, fun h => h.elim id fun h => by have := h.2.1; omega⟩))
                rw [decide_eq_true hy]
                have hy' : 0 < k / W := by omega
                have hlo := row_lo hy'
                refine E.pick rfl rfl rfl <| E.mv rfl rfl <| ?_
                refine E.on rfl rfl (E.mv rfl rfl ?_)
                refine E.on rfl rfl (E.fld (o := 0) (sz := 0) rfl Try.underlying37 rfl rfl (by kernel_rfl) rfl ?_)
                refine E.on rfl rfl (E.load rfl Try.underlying3 rfl (hg.sw.hm.cell 0) rfl ?_)
                rw [hcW]
                refine E.on rfl rfl (E.sub' rfl rfl (by omega) rfl ?_)
                refine E.on rfl rfl (E.bin rfl rfl rfl rfl ?_)
                refine E.pick rfl rfl rfl <| E.nil <| X.next <| ?_
                refine C.cond' rfl (fun hc => ?_) (fun hc => ?_)
                ·
                  have hc' : k % W + 1 < W := by have hc' : ((k % W : Nat) : Int) < (W : Int) - 1 := hc; omega
                  obtain ⟨b, hb⟩ : ∃ b : Nat, b + W = k + 1 := ⟨k + 1 - W, by omega⟩
                  refine C.region <| E.mv rfl rfl <| E.mv rfl rfl <| E.mv rfl rfl <| ?_
                  refine E.fld (o := 0) (sz := 0) rfl Try.underlying37 rfl rfl (by kernel_rfl) rfl ?_
                  refine E.load rfl Try.underlying3 rfl (hg.sw.hm.cell 0) rfl ?_
                  rw [hcW]
                  refine E.sub' rfl rfl (by omega) rfl ?_
                  refine E.add rfl rfl (by omega) rfl ?_
                  rw [show (k : Int) - (W : Int) + 1 = (b : Int) from by omega]
                  refine E.callv rfl rfl rfl (unite_ret w.heap.size c n k b g.1 g.2 _ _ _ hg.sw hg.says ⟨by omega, hdk⟩ (fun hb => ⟨by omega, hb⟩) (by omega) (by omega) hdn hg.pl hg.zl (by omega)) ?_
                  rintro _ w6 ⟨par', siz', hu⟩
                  refine E.nil <| X.outN <| X.join (par', siz') (Sub.cons rfl <| Sub.cons rfl <| Sub.cons rfl <| Sub.cons rfl <| Sub.cons rfl <| Sub.cons rfl <| Sub.cons rfl <| Sub.cons rfl <| Sub.cons rfl <| Sub.cons rfl <| Sub.nil _) (fin (par', siz') _ ((hg.step hu).iff fun j => ?_))
                  rw [bk]
                  exact ⟨fun h => h.imp id fun h => ⟨rfl, hy', hc', by omega⟩, fun h => h.imp id fun h => by omega⟩
                ·
                  refine C.skip <| X.outN <| X.join g (Sub.cons rfl <| Sub.cons rfl <| Sub.cons rfl <| Sub.cons rfl <| Sub.cons rfl <| Sub.cons rfl <| Sub.cons rfl <| Sub.cons rfl <| Sub.cons rfl <| Sub.cons rfl <| Sub.nil _) (fin _ _ (hg.iff fun j => ?_))
                  have hc' : ¬ ((k % W : Nat) : Int) < (W : Int) - 1 := hc
                  rw [bk]
                  exact ⟨.inl, fun h => h.elim id fun h => by omega⟩
      ·
        rintro g wg hg
        refine C.region <| ?_
        refine E.add rfl rfl (by omega) rfl ?_
        refine E.mv rfl rfl <| E.nil <| X.again (k + 1, g.1, g.2) (Sub.cons rfl <| Sub.cons rfl <| Sub.cons rfl <| Sub.cons rfl <| Sub.cons rfl <| Sub.cons rfl <| Sub.cons rfl <| Sub.cons rfl <| Sub.cons rfl <| Sub.cons rfl <| Sub.nil _) ⟨hk', hg⟩ (by simp only; omega)
    ·
      obtain rfl : k = n := by have hc' : ¬ (k : Int) < (n : Int) := hc; omega
      have hR0 : RInv w wk c k W eight 0 par siz := ⟨hI.sw, hI.pl, hI.ext, hI.says, hI.light, fun i hi => by omega⟩
      refine C.exit <| X.exitT <| X.exitT <| X.outE <| X.next <| C.seq <| C.seq <| C.region <| ?_
      refine E.load rfl Try.underlying107 rfl (hI.sw.u.hp.cell 0) rfl ?_
      refine E.len rfl hI.sw.u.own.rd Try.underlying107 rfl ?_
      rw [hI.pl]
      refine E.mv rfl rfl <| E.nil <| X.next <| C.block <| ?_

      refine C.loop (G := Nat × List Int × List Int) (fun g => [(7, pv c.bp), (9, pv c.bf), (111, i64 k), (112, i64 (g.1 : Nat))]) (fun g w' => g.1 ≤ k ∧ RInv w w' c k W eight g.1 g.2.1 g.2.2) (fun g => k - g.1) (0, par, siz) ?_ ?_ ?_
      · exact Sub.cons rfl <| Sub.cons rfl <| Sub.cons rfl <| Sub.cons rfl <| Sub.nil _
      · exact ⟨Nat.zero_le _, hR0⟩
      · clear hR0 hI
        rintro ⟨i, par, siz⟩ wi ⟨hi, hR⟩
        simp only at hi hR
        refine C.seq <| C.region <| E.bin rfl rfl rfl rfl <| E.nil <| X.next <| C.seq <| ?_
        refine C.cond' rfl (fun hc => ?_) (fun hc => ?_)
        ·
          have hi' : i < k := by have hc' : (i : Int) < (k : Int) := hc; omega
          have hip : i < par.length := by have := hR.pl; omega
          refine C.skip <| X.next <| ?_

          refine C.cut (G := List Int × List Int) (fun _ => [(7, pv c.bp), (9, pv c.bf), (111, i64 k), (112, i64 (i : Nat))]) (fun g w' => RInv w w' c k W eight (i + 1) g.1 g.2) ?_ ?_
          ·
            refine C.block <| C.seq <| C.region <| E.mv rfl rfl <| E.asg rfl rfl <| E.nil <| X.next <| C.seq <| C.region <| ?_
            refine E.load rfl Try.underlying107 rfl (hR.sw.u.hp.cell 0) rfl ?_
            refine E.mv rfl rfl <| ?_
            refine E.get (k := i) rfl rfl hR.sw.u.own.rd rfl hip Try.underlying107 (by kernel_rfl) Try.underlying21 rfl rfl rfl ?_
            refine E.bin rfl rfl rfl rfl <| E.nil <| X.next <| ?_
            refine C.cond' rfl (fun hc => ?_) (fun hc => ?_)
            ·
              have hdi : c.dk[i]? = some c.dark := Decidable.byContradiction fun hd => by
                have := hR.light i hi' hd
                rw [List.getElem?_eq_getElem hip] at this
                exact hc (Option.some.inj this)
              obtain ⟨r, hDr, m, hpm⟩ := hR.says.root i ⟨hi', hdi⟩

              refine C.held (fun w' => ∃ par', UW w' w.heap.size c.bp c.bf c.vp par' ∧ par'.length = k) (by kernel_rfl) fun wh hwh hhh => ?_
              have s0 := hR.sw.ext hwh
              have hS : ∃ par', UW wh w.heap.size c.bp c.bf c.vp par' ∧ par'.length = k := ⟨par, s0.u, hR.pl⟩
              refine H.take 1 rfl rfl (by kernel_rfl) (by kernel_rfl) (by kernel_rfl) hS (fun w' hS => Y.mv rfl) rfl ?_
              refine H.take 3 rfl rfl (by kernel_rfl) (by kernel_rfl) (by kernel_rfl) hS (fun w' hS => Y.mv rfl) rfl ?_
              refine H.take 4 rfl rfl (by kernel_rfl) (by kernel_rfl) (by kernel_rfl) hS (fun w' hS => Y.conv rfl Try.underlying3 Try.underlying21 (IntWalk.i32_in _ (by omega))) rfl ?_
              refine H.take 0 rfl rfl (by kernel_rfl) (by kernel_rfl) (by kernel_rfl) hS (fun w' hS => Y.load rfl Try.underlying107 rfl (hS.choose_spec.1.hp.cell 0)) rfl ?_
              refine H.only 2 rfl (by kernel_rfl) ?_
              refine E.load rfl Try.underlying144 rfl (s0.u.hf.cell 0) rfl ?_
              refine H.back hS ?_
              refine H.only 5 rfl (by kernel_rfl) ?_
              refine E.callv rfl rfl rfl (find_ret w.heap.size c.bp c.bf c.vp m i r par _ hpm s0.u) ?_
              rintro _ w1 ⟨rfl, par1, hu1, hc1, hg1⟩
              have s1 := s0.parG hg1 hu1
              have hl1 : par1.length = k := by rw [hc1.1]; exact hR.pl
              have hS : ∃ par', UW w1 w.heap.size c.bp c.bf c.vp par' ∧ par'.length = k := ⟨par1, hu1, hl1⟩
              refine H.back hS ?_
              refine H.take 6 rfl rfl (by kernel_rfl) (by kernel_rfl) (by kernel_rfl) hS (fun w' hS => Y.idx (sz := 1) rfl rfl hS.choose_spec.1.own.rd Try.underlying107 (by kernel_rfl) (by omega) (by have := hS.choose_spec.2; omega) (by decide)) rfl ?_
              rw [show (i : Int).toNat * 1 = i from by omega]
              have hi1 : i < par1.length := by omega
              refine H.only 7 rfl (by kernel_rfl) ?_
              refine E.store rfl rfl (by kernel_rfl) rfl (hu1.own.cellAt hi1).1 (hu1.own.cellAt hi1).2.1 ?_
              obtain ⟨s2, f2⟩ := s1.setP hi1 (r : Int)
              have hS : ∃ par', UW (w1.setCell (el c.vp i) (i32 r)) w.heap.size c.bp c.bf c.vp par' ∧ par'.length = k := ⟨_, s2.u, by rw [List.length_set]; exact hl1⟩
              obtain ⟨m2, hc2⟩ := Comp.last hc1 ⟨m, hpm⟩
              have hDi : Dm c.dk c.dark k i := ⟨hi', hdi⟩
              have hR2 : RInv w (w1.setCell (el c.vp i) (i32 r)) c k W eight (i + 1) (par1.set i (r : Int)) siz := by
                refine ⟨s2, by rw [List.length_set]; exact hl1, (((Fr.ext hwh).trans (Fr.own s0.u.own hg1)).trans f2) _ hR.ext (Nat.le_refl _), hR.says.comp hc2, fun a ha hd => ?_, fun a ha hd => ?_⟩
                · rw [hc2.out hDi hR.says.step (fun hD => hd hD.2)]; exact hR.light a ha hd
                · by_cases e : a = i
                  · subst e; exact ⟨r, by rw [List.getElem?_set_self hi1], hc2.root ⟨m, hpm⟩⟩
                  · obtain ⟨r', h1, h2⟩ := hR.done a (by omega) hd
                    exact ⟨r', Comp.val hc2 h1 h2, hc2.root h2⟩
              refine H.back hS ?_
              refine H.done (by kernel_rfl) <| X.outN <| X.join (par1.set i (r : Int), siz) (Sub.cons rfl <| Sub.cons rfl <| Sub.cons rfl <| Sub.cons rfl <| Sub.nil _) hR2
            ·
              have hdi : c.dk[i]? ≠ some c.dark := fun hd => by
                obtain ⟨r, hDr, hr⟩ := hR.says.root i ⟨hi', hd⟩
                have hv : par[i] = -1 := Decidable.byContradiction fun h => hc h
                obtain ⟨m, hm⟩ := hr
                cases m with
                | zero => have := hm.2; rw [List.getElem?_eq_getElem hip, hv] at this; have := Option.some.inj this; omega
                | succ m => obtain ⟨j, hj, _⟩ := hm; rw [List.getElem?_eq_getElem hip, hv] at hj; have := Option.some.inj hj; omega
              refine C.skip <| X.outN <| X.join (par, siz) (Sub.cons rfl <| Sub.cons rfl <| Sub.cons rfl <| Sub.cons rfl <| Sub.nil _) { hR with done := fun a ha hd => hR.done a (by have : a ≠ i := fun e => hdi (e ▸ hd); omega) hd }
          ·
            rintro g wg hg
            refine C.region <| ?_
            refine E.add rfl rfl (by omega) rfl ?_
            refine E.mv rfl rfl <| E.nil <| X.again (i + 1, g.1, g.2) (Sub.cons rfl <| Sub.cons rfl <| Sub.cons rfl <| Sub.cons rfl <| Sub.nil _) ⟨hi', hg⟩ (by simp only; omega)
        ·
          obtain rfl : i = k := by have hc' : ¬ (i : Int) < (k : Int) := hc; omega
          refine C.exit <| X.exitT <| X.exitT <| X.outE <| X.next <| C.seq <| C.region <| ?_
          refine E.load rfl Try.underlying107 rfl (hR.sw.u.hp.cell 0) rfl ?_
          refine E.asg rfl rfl <| E.nil <| X.next <| C.ret <| ret1 rfl rfl ?_
          exact ⟨par, hR.sw.u.own, by have := parted hR hdn; rw [hcdk, hcdark] at this; exact this, hR.ext⟩
end Go.Proofs.Ytbinlkobmlebpaa
namespace Go.Proofs.Ytbinlkobmlebpaa
open Go.RowKit Sym Uf
theorem elem_Tapi_Blob : Elem Try.prog 73 7 56 := elem_of (z := .agg #[.int .i64 0, .int .i64 0, .int .i64 0, .int .i64 0, .int .i64 0, .int .i64 0, .int .i64 0]) (by kernel_rfl) rfl (by decide)
abbrev nilS : Value := .slice none 0 0
abbrev DD (dk : List Bool) (dark : Bool) (i : Nat) : Prop := dk[i]? = some dark
abbrev RR (W : Nat) (eight : Bool) (dk : List Bool) (dark : Bool) : Nat → Nat → Prop := Cl (Ed W eight dk dark dk.length)
def LabelAns (W Ht : Int) (dk : List Bool) (eight : Bool) (v : Value) (w0 w : World) : Prop :=
 (¬ okMat W Ht dk.length ∧ v = .tuple #[nilS, nilS, i64 1]) ∨
 (okMat W Ht dk.length ∧ 65536 < nf (DD dk true) (RR W.toNat eight dk true) dk.length ∧ v = .tuple #[nilS, nilS, i64 4]) ∨
 (okMat W Ht dk.length ∧ nf (DD dk true) (RR W.toNat eight dk true) dk.length ≤ 65536 ∧ ∃ va vb lab bl, v = .tuple #[va, vb, i64 0] ∧ M w0 Nn w [Rg.sl i64 3 va lab, Rg.slF Bl.cells 7 73 vb bl] ∧ Labelled (DD dk true) (RR W.toNat eight dk true) W.toNat dk.length lab bl)
structure LW (w' : World) (B : Nat) (bm r : Nat) (va vs vd : Value) (W Ht : Int) (s : List Int) (lab : List Int) (m : List (Int × Int)) (vb : Value) (bl : List Bl) : Prop where
 hm : Blk w' bm 37 #[i64 W, i64 Ht, vd]
 ol : OwnL i64 w' B 3 va lab
 mp : Mp w' r .i32 i64 m
 ob : OwnF Bl.cells 7 w' B 73 vb bl
 os : OwnL i32 w' B 21 vs s
 rB : B ≤ r
 a1 : va.ownBlock ≠ some bm
 a2 : va.ownBlock ≠ some r
 b1 : vb.ownBlock ≠ some bm
 b2 : vb.ownBlock ≠ some r
 s1 : vs.ownBlock ≠ some r
 mr : bm ≠ r
 ab : Apart va vb
 avs : Apart va vs
 bvs : Apart vb vs
section
variable {w' w'' : World} {B bm r : Nat} {va vs vd : Value} {W Ht : Int} {s lab : List Int} {m : List (Int × Int)} {vb : Value} {bl : List Bl}
theorem LW.ext (h : LW w' B bm r va vs vd W Ht s lab m vb bl) (k : Ext w' w'') : LW w'' B bm r va vs vd W Ht s lab m vb bl :=
 { h with hm := h.hm.ext k, ol := h.ol.kept k, mp := h.mp.ext k, ob := h.ob.kept k, os := h.os.kept k }
theorem LW.put {m' : List (Int × Int)} (h : LW w' B bm r va vs vd W Ht s lab m vb bl) (g : w'.grownBy w'' (some r)) (hm : Mp w'' r .i32 i64 m') : LW w'' B bm r va vs vd W Ht s lab m' vb bl :=
 { h with hm := Blk.apart h.hm g (fun e => h.mr (Option.some.inj e).symm), ol := Own.other h.ol g (.inr h.a2), mp := hm, ob := h.ob.other g (.inr h.b2), os := Own.other h.os g (.inr h.s1) }
theorem LW.setL (h : LW w' B bm r va vs vd W Ht s lab m vb bl) {i : Nat} (hi : i < lab.length) (z : Int) : LW (w'.setCell (el va i) (i64 z)) B bm r va vs vd W Ht s (lab.set i z) m vb bl ∧ Fr B w' (w'.setCell (el va i) (i64 z)) := by
 obtain ⟨_, _, c3⟩ := h.ol.cellAt hi
 have g := grown_set w' (el va i) (i64 z)
 rw [← c3] at g
 exact ⟨{ h with hm := Blk.apart h.hm g h.a1, ol := h.ol.set hi z, mp := h.mp.other g (fun e => h.a2 e.symm), ob := h.ob.apart g h.ab, os := Own.apart h.os g h.avs }, Fr.own h.ol g⟩
theorem LW.blobs {bl' : List Bl} {vb' : Value} (h : LW w' B bm r va vs vd W Ht s lab m vb bl) (g : w'.grownBy w'' vb.ownBlock) (ho : OwnF Bl.cells 7 w'' B 73 vb' bl') (hl : Lies w' vb vb') : LW w'' B bm r va vs vd W Ht s lab m vb' bl' := by
 have hne : ∀ x, vb.ownBlock ≠ some x → x < w'.heap.size → vb'.ownBlock ≠ some x := fun x hx hlt e => by
  rcases hl with hl | ⟨y, hl, hge⟩
  · exact hx (hl ▸ e)
  · rw [hl] at e; have := Option.some.inj e; omega
 exact { h with hm := Blk.apart h.hm g h.b1, ol := Own.apart h.ol g h.ab.symm, mp := h.mp.other g (fun e => h.b2 e.symm), ob := ho, os := Own.apart h.os g h.bvs, b1 := hne _ h.b1 h.hm.lt, b2 := hne _ h.b2 h.mp.lt, ab := (h.ab.symm.grow hl h.ol).symm, bvs := h.bvs.grow hl h.os }
theorem LW.grown {bl' : List Bl} (h : LW w' B bm r va vs vd W Ht s lab m vb bl) (g : w'.grownBy w'' vb.ownBlock) (ho : OwnF Bl.cells 7 w'' B 73 vb bl') : LW w'' B bm r va vs vd W Ht s lab m vb bl' := h.blobs g ho (.inl rfl)
end
structure LG where
 k : Nat
 lab : List Int
 m : List (Int × Int)
 vb : Value
 bl : List Bl
structure LInv (D : Nat → Prop) (R : Nat → Nat → Prop) (W n : Nat) (s : List Int) (k : Nat) (lab : List Int) (m : List (Int × Int)) (bl : List Bl) : Prop where
 len : lab.length = n
 off : ∀ i : Nat, i < k → ¬ D i → lab[i]? = some (-1)
 on : ∀ i : Nat, i < k → D i → ∃ f, f ≤ i ∧ Fst D R f ∧ R f i ∧ lab[i]? = some (nf D R f : Int)
 has : ∀ f : Nat, f < k → Fst D R f → ∀ z, s[f]? = some z → aget m z = some (nf D R f : Int)
 of : ∀ z v, aget m z = some v → ∃ f : Nat, f < k ∧ Fst D R f ∧ s[f]? = some z ∧ v = (nf D R f : Int)
 num : bl.length = nf D R k
 few : nf D R k ≤ 65536
 blob : ∀ f, f < k → Fst D R f → ∃ b, bl[nf D R f]? = some b ∧ BSpec D R W f k b
theorem Parted.off' {W : Nat} {eight : Bool} {dk : List Bool} {s : List Int} (h : Parted W eight dk true s) {i : Nat} (hs : s[i]? = some (-1)) : ¬ DD dk true i := fun hd => by
 obtain ⟨r, _, h2⟩ := h.on i hd
 rw [hs] at h2; have := Option.some.inj h2; omega
theorem Parted.on' {W : Nat} {eight : Bool} {dk : List Bool} {s : List Int} (h : Parted W eight dk true s) {i : Nat} (hi : i < dk.length) (hs : s[i]? ≠ some (-1)) : DD dk true i := by
 cases hq : dk[i] with
 | true => show dk[i]? = _; rw [List.getElem?_eq_getElem hi, hq]
 | false => exact (hs (h.off i (by rw [List.getElem?_eq_getElem hi, hq]; rfl))).elim
theorem LInv.light {D : Nat → Prop} {R : Nat → Nat → Prop} {W n : Nat} {s : List Int} {k : Nat} {lab : List Int} {m : List (Int × Int)} {bl : List Bl} (h : LInv D R W n s k lab m bl) (hk : k < n) (hD : ¬ D k) : LInv D R W n s (k + 1) (lab.set k (-1)) m bl := by
  have hF : ¬ Fst D R k := fun hf => hD hf.1
  have hl : k < lab.length := by rw [h.len]; exact hk
  refine ⟨by rw [List.length_set]; exact h.len, fun i hi hd => ?_, fun i hi hd => ?_, fun f hf h1 => h.has f (by have : f ≠ k := fun e => hF (e ▸ h1); omega) h1, fun z v hz => ?_, by rw [nf_succ_neg hF]; exact h.num, by rw [nf_succ_neg hF]; exact h.few, fun f hf h1 => ?_⟩
  · by_cases e : i = k
    · subst e; rw [List.getElem?_set_self hl]
    · rw [List.getElem?_set_ne (fun h => e h.symm)]; exact h.off i (by omega) hd
  · have e : i ≠ k := fun e => hD (e ▸ hd)
    rw [List.getElem?_set_ne (fun h => e h.symm)]; exact h.on i (by omega) hd
  · obtain ⟨f, f1, f2⟩ := h.of z v hz; exact ⟨f, by omega, f2⟩
  · obtain ⟨b, b1, b2⟩ := h.blob f (by have : f ≠ k := fun e => hF (e ▸ h1); omega) h1
    exact ⟨b, b1, b2.skip fun e => hD e.1⟩
structure LMid (D : Nat → Prop) (R : Nat → Nat → Prop) (W n : Nat) (s : List Int) (k : Nat) (m : List (Int × Int)) (bl : List Bl) (f : Nat) : Prop where
 fle : f ≤ k
 fst : Fst D R f
 rel : R f k
 has : ∀ f : Nat, f < k + 1 → Fst D R f → ∀ z, s[f]? = some z → aget m z = some (nf D R f : Int)
 of : ∀ z v, aget m z = some v → ∃ f : Nat, f < k + 1 ∧ Fst D R f ∧ s[f]? = some z ∧ v = (nf D R f : Int)
 num : bl.length = nf D R (k + 1)
 few : nf D R (k + 1) ≤ 65536
 blob : ∀ f, f < k → Fst D R f → ∃ b, bl[nf D R f]? = some b ∧ BSpec D R W f k b
 new : Fst D R k → bl[nf D R k]? = some ⟨((k % W : Nat) : Int), ((k / W : Nat) : Int), 1, 1, 0, ((k % W : Nat) : Int), ((k / W : Nat) : Int)⟩
section
variable {D : Nat → Prop} {R : Nat → Nat → Prop} {W n : Nat} {s : List Int} {k : Nat} {lab : List Int} {m : List (Int × Int)} {bl : List Bl}
theorem LInv.old (h : LInv D R W n s k lab m bl) (hR : ∀ i j z, D i → D j → s[i]? = some z → s[j]? = some z → R i j) (hD : D k) {z v : Int} (hz : s[k]? = some z) (hv : aget m z = some v) : ∃ f, LMid D R W n s k m bl f ∧ v = (nf D R f : Int) := by
 obtain ⟨f, f1, f2, f3, f4⟩ := h.of z v hv
 have hfk := hR f k z f2.1 hD f3 hz
 have hF : ¬ Fst D R k := fun hk => hk.2 f f1 f2.1 hfk
 refine ⟨f, ⟨by omega, f2, hfk, fun g hg g1 => h.has g (by have : g ≠ k := fun e => hF (e ▸ g1); omega) g1, fun z v hz => ?_, by rw [nf_succ_neg hF]; exact h.num, by rw [nf_succ_neg hF]; exact h.few, h.blob, fun hk => (hF hk).elim⟩, f4⟩
 obtain ⟨f, f1, f2⟩ := h.of z v hz; exact ⟨f, by omega, f2⟩
theorem LInv.isNew (h : LInv D R W n s k lab m bl) (hr : ∀ i, R i i) (ht : ∀ i j k, R i j → R j k → R i k) (hR' : ∀ i j z, D i → D j → s[i]? = some z → R i j → s[j]? = some z) (hs : ∀ i j, R i j → R j i) (hD : D k) {z : Int} (hz : s[k]? = some z) (hv : aget m z = none) : Fst D R k := by
 refine ⟨hD, fun j hj hDj hRj => ?_⟩
 obtain ⟨f, f1, f2, f3⟩ := first_of (D := D) hr ht j hDj
 have hfz : s[f]? = some z := hR' k f z hD f2.1 hz (hs _ _ (ht _ _ _ f3 hRj))
 rw [h.has f (by omega) f2 z hfz] at hv; cases hv
theorem LInv.fresh (h : LInv D R W n s k lab m bl) (hr : ∀ i, R i i) (hR' : ∀ i j z, D i → D j → s[i]? = some z → s[j]? = some z → R i j) (hF : Fst D R k) {z : Int} (hz : s[k]? = some z) (hfew : nf D R k < 65536) :
    LMid D R W n s k (aput m z (nf D R k : Int)) (bl ++ [⟨((k % W : Nat) : Int), ((k / W : Nat) : Int), 1, 1, 0, ((k % W : Nat) : Int), ((k / W : Nat) : Int)⟩]) k := by
  refine ⟨Nat.le_refl _, hF, hr k, fun f hf f1 y hy => ?_, fun y v hy => ?_, by rw [List.length_append, nf_succ_pos hF, h.num]; rfl, by rw [nf_succ_pos hF]; omega, fun f hf f1 => ?_, fun _ => by rw [List.getElem?_append_right (by rw [h.num]; exact Nat.le_refl _), h.num]; simp⟩
  · rw [aget_aput]
    by_cases e : f = k
    · subst e; rw [hz] at hy; cases hy; rw [if_pos rfl]
    · by_cases ez : y = z
      · subst ez; exact (hF.2 f (by omega) f1.1 (hR' f k y f1.1 hF.1 hy hz)).elim
      · rw [if_neg ez]; exact h.has f (by omega) f1 y hy
  · rw [aget_aput] at hy
    by_cases ez : y = z
    · rw [if_pos ez] at hy; cases hy; subst ez; exact ⟨k, by omega, hF, hz, rfl⟩
    · rw [if_neg ez] at hy
      obtain ⟨f, f1, f2⟩ := h.of y v hy; exact ⟨f, by omega, f2⟩
  · obtain ⟨b, b1, b2⟩ := h.blob f hf f1
    exact ⟨b, by rw [List.getElem?_append_left (List.getElem?_eq_some_iff.1 b1).1]; exact b1, b2⟩
theorem LMid.now {f : Nat} (h : LMid D R W n s k m bl f) (hs : ∀ i j, R i j → R j i) (hk : k < 4194304) (hW : W ≤ 4096) (hW0 : 0 < W) : ∃ b, bl[nf D R f]? = some b ∧ b.small := by
  by_cases e : f = k
  · subst e
    refine ⟨_, h.new h.fst, ?_⟩
    have := Nat.mod_lt f hW0; have := Nat.div_le_self f W
    unfold Bl.small
    simp only
    generalize f % W = a at *
    generalize f / W = c at *
    omega
  · obtain ⟨b, b1, b2⟩ := h.blob f (by have := h.fle; omega) h.fst
    exact ⟨b, b1, b2.small hs h.fst (by have := h.fle; omega) (by omega)⟩
theorem LMid.next {f : Nat} (h : LMid D R W n s k m bl f) (hI : lab.length = n) (hoff : ∀ i : Nat, i < k → ¬ D i → lab[i]? = some (-1)) (hon : ∀ i : Nat, i < k → D i → ∃ f, f ≤ i ∧ Fst D R f ∧ R f i ∧ lab[i]? = some (nf D R f : Int)) (hr : ∀ i, R i i) (hs : ∀ i j, R i j → R j i) (ht : ∀ i j k, R i j → R j k → R i k) (hk : k < n) (hD : D k) {b : Bl} (hb : bl[nf D R f]? = some b) :
    LInv D R W n s (k + 1) (lab.set k (nf D R f : Int)) m (bl.set (nf D R f) (b.add ((k % W : Nat) : Int) ((k / W : Nat) : Int))) := by
  have hl : k < lab.length := by omega
  have hbl : nf D R f < bl.length := (List.getElem?_eq_some_iff.1 hb).1
  refine ⟨by rw [List.length_set]; exact hI, fun i hi hd => ?_, fun i hi hd => ?_, h.has, h.of, by rw [List.length_set]; exact h.num, h.few, fun g hg g1 => ?_⟩
  · have e : i ≠ k := fun e => hd (e ▸ hD)
    rw [List.getElem?_set_ne (fun h => e h.symm)]; exact hoff i (by omega) hd
  · by_cases e : i = k
    · subst e; exact ⟨f, h.fle, h.fst, h.rel, by rw [List.getElem?_set_self hl]⟩
    · rw [List.getElem?_set_ne (fun h => e h.symm)]; exact hon i (by omega) hd
  · by_cases e : g = f
    · subst e
      refine ⟨_, by rw [List.getElem?_set_self hbl], ?_⟩
      by_cases ek : g = k
      · subst ek
        have := h.new h.fst
        rw [hb] at this; cases this
        exact BSpec.new hr hs h.fst
      · obtain ⟨c, c1, c2⟩ := h.blob g (by omega) g1
        rw [hb] at c1; cases c1
        exact c2.add hD h.rel (Nat.div_le_div_right (by omega))
    · have hne : nf D R f ≠ nf D R g := fun e' => e (nf_inj g1 h.fst e'.symm)
      have hgk : g ≠ k := fun ek => by
        subst ek
        exact e (first_eq hs ht g1 h.fst (hr g) h.rel)
      obtain ⟨c, c1, c2⟩ := h.blob g (by omega) g1
      exact ⟨c, by rw [List.getElem?_set_ne hne]; exact c1, c2.skip fun e' => e (first_eq hs ht g1 h.fst e'.2 h.rel)⟩
end
end Go.Proofs.Ytbinlkobmlebpaa
