/- Texts of the claim, laid together: Grid, Near. -/
import Derived.Test.YtnnmebpahickhaaComponentsSymmetricTopMg3
import Derived.Test.YtnnmebpahickhaaComponentsSymmetricTopMg6
/- Pixels of a bitmap that are neighbours; what sets knows while it goes through them. -/
namespace Go.Proofs.Ytnnmebpahickhaa
set_option linter.unusedSimpArgs false
set_option linter.unusedVariables false
open Go.RowKit Sym Uf

/-- the neighbours of pixel i that come ahead of it -/
def Back (W : Nat) (eight : Bool) (i j : Nat) : Prop := ((0 < i % W ∧ j + 1 = i) ∨ (0 < i / W ∧ j + W = i)) ∨ (eight = true ∧ 0 < i / W ∧ 0 < i % W ∧ j + W + 1 = i) ∨ (eight = true ∧ 0 < i / W ∧ i % W + 1 < W ∧ j + W = i + 1)
/-- the pairs of neighbours of the colour, the first of them before k -/
def Ed (W : Nat) (eight : Bool) (dk : List Bool) (dark : Bool) (k i j : Nat) : Prop := i < k ∧ dk[i]? = some dark ∧ dk[j]? = some dark ∧ Back W eight i j
def Dm (dk : List Bool) (dark : Bool) (k i : Nat) : Prop := i < k ∧ dk[i]? = some dark
theorem Back.le {W : Nat} {eight : Bool} {i j : Nat} (h : Back W eight i j) : j ≤ i := by
  rcases h with (⟨_, h⟩ | ⟨_, h⟩) | ⟨_, _, _, h⟩ | ⟨_, _, h1, h⟩ <;> omega
theorem Ed.in {W : Nat} {eight : Bool} {dk : List Bool} {dark : Bool} {k i j : Nat} (h : Ed W eight dk dark k i j) : Dm dk dark k i ∧ Dm dk dark k j := ⟨⟨h.1, h.2.1⟩, ⟨by have := h.2.2.2.le; have := h.1; omega, h.2.2.1⟩⟩
/-- while the neighbours of pixel k are joined: p are those that have been -/
def Es (W : Nat) (eight : Bool) (dk : List Bool) (dark : Bool) (k : Nat) (p : Nat → Prop) (i j : Nat) : Prop := Ed W eight dk dark k i j ∨ (i = k ∧ dk[j]? = some dark ∧ p j)
theorem Says.iff {par : List Int} {D D' : Nat → Prop} {E F : Nat → Nat → Prop} (h : Says par D E) (hD : ∀ i, D i ↔ D' i) (hE : ∀ i j, E i j ↔ F i j) : Says par D' F := by
  have e1 : D = D' := funext fun i => propext (hD i)
  have e2 : E = F := funext fun i => funext fun j => propext (hE i j)
  rw [← e1, ← e2]; exact h
/-- what is known while pixel k is looked at -/
structure Stg (wk w' : World) (B : Nat) (c : SV) (n W : Nat) (eight : Bool) (k : Nat) (p : Nat → Prop) (par siz : List Int) : Prop where
  sw : SW w' B c par siz
  pl : par.length = n
  zl : siz.length = n
  fr : Fr B wk w'
  says : Says par (Dm c.dk c.dark (k + 1)) (Es W eight c.dk c.dark k p)
  light : ∀ i : Nat, i < k → c.dk[i]? ≠ some c.dark → par[i]? = some (-1)
section
variable {wk w' w'' : World} {B : Nat} {c : SV} {n W : Nat} {eight : Bool} {k : Nat} {p q : Nat → Prop} {par par' siz siz' : List Int}
theorem Stg.iff (h : Stg wk w' B c n W eight k p par siz) (hp : ∀ j, p j ↔ q j) : Stg wk w' B c n W eight k q par siz :=
  { h with says := Says.iff h.says (fun _ => Iff.rfl) (fun i j => by unfold Es; rw [hp j]) }
theorem Stg.step {b : Nat} (h : Stg wk w' B c n W eight k p par siz) (u : UPost w' w'' B c par n (Dm c.dk c.dark (k + 1)) (Es W eight c.dk c.dark k p) k b par' siz') : Stg wk w'' B c n W eight k (fun j => p j ∨ j = b) par' siz' where
  sw := u.sw
  pl := u.pl
  zl := u.zl
  fr := h.fr.trans u.fr
  says := Says.iff u.says (fun _ => Iff.rfl) fun i j => by
    unfold Es
    constructor
    · rintro ((h1 | ⟨h1, h2, h3⟩) | ⟨h1, h2, rfl⟩)
      · exact .inl h1
      · exact .inr ⟨h1, h2, .inl h3⟩
      · exact .inr ⟨h2, h1, .inr rfl⟩
    · rintro (h1 | ⟨h1, h2, h3 | rfl⟩)
      · exact .inl (.inl h1)
      · exact .inl (.inr ⟨h1, h2, h3⟩)
      · exact .inr ⟨h2, h1, rfl⟩
  light i hi hd := by rw [u.out i (fun hD => hd hD.2)]; exact h.light i hi hd
theorem Stg.ext (h : Stg wk w' B c n W eight k p par siz) (x : Ext w' w'') : Stg wk w'' B c n W eight k p par siz := { h with sw := h.sw.ext x, fr := h.fr.trans (Fr.ext x) }
end
theorem row_lo {k W : Nat} (h : 0 < k / W) : W + k % W ≤ k := by
  have h1 := Nat.div_add_mod k W
  have h2 := Nat.mul_le_mul_left W (show 1 ≤ k / W from h)
  omega
/-- a Comp at the end: the element itself points at its root -/
theorem Comp.last {n i r : Nat} {par par1 : List Int} (h : Comp n i par par1) (hr : Root par i r) : ∃ m, Comp m i par (par1.set i (r : Int)) := by
  obtain ⟨m, hm⟩ := hr
  refine ⟨max n m, by simpa using h.1, fun k => ?_⟩
  by_cases e : i = k
  · subst e
    exact .inr ⟨m, r, by omega, hm, by rw [List.getElem?_set_self (by rw [h.1]; exact hm.lt)], fun D hD _ => hD⟩
  · rw [List.getElem?_set_ne e]
    rcases h.2 k with h1 | ⟨a, b, h2, h3⟩
    · exact .inl h1
    · exact .inr ⟨a, b, by omega, h3⟩
theorem Comp.val {n o : Nat} {par par' : List Int} (h : Comp n o par par') {j r : Nat} (hv : par[j]? = some (r : Int)) (hr : Root par j r) : par'[j]? = some (r : Int) := by
  rcases h.2 j with h1 | ⟨a, b, _, h3, h4, _⟩
  · rw [h1]; exact hv
  · have : b = r := Root.det ⟨a, h3⟩ hr
    rw [h4, this]
/-- the answer of sets -/
structure Parted (W : Nat) (eight : Bool) (dk : List Bool) (dark : Bool) (s : List Int) : Prop where
  len : s.length = dk.length
  off : ∀ i : Nat, dk[i]? = some (!dark) → s[i]? = some (-1)
  on : ∀ i : Nat, dk[i]? = some dark → ∃ r : Nat, dk[r]? = some dark ∧ s[i]? = some (r : Int)
  same : ∀ (i j : Nat) (z : Int), dk[i]? = some dark → dk[j]? = some dark → s[i]? = some z → (s[j]? = some z ↔ Cl (Ed W eight dk dark dk.length) i j)
end Go.Proofs.Ytnnmebpahickhaa

/- reference of components: near. -/
namespace Go.Proofs.Ytnnmebpahickhaa
set_option linter.unusedSimpArgs false
set_option linter.unusedVariables false
open Go.RowKit Sym Uf

theorem elem_Tint : Elem Try.prog 3 1 8 := elem_of (z := .int .i64 0) (by kernel_rfl) rfl (by decide)
/-- the step (dx, dy) leads to a neighbour in the bitmap -/
def Step (W Ht : Int) (eight : Bool) (x y dx dy : Int) : Prop := ¬ ((dx = 0 ∧ dy = 0) ∨ (eight = false ∧ dx ≠ 0 ∧ dy ≠ 0)) ∧ 0 ≤ x + dx ∧ x + dx < W ∧ 0 ≤ y + dy ∧ y + dy < Ht
/-- the neighbours that come up before the step (dx, dy) -/
def Nrs (W Ht : Int) (eight : Bool) (x y dx dy : Int) (l : List Int) : Prop := ∀ z : Int, z ∈ l ↔ ∃ a b : Int, -1 ≤ a ∧ a ≤ 1 ∧ -1 ≤ b ∧ b ≤ 1 ∧ (b < dy ∨ (b = dy ∧ a < dx)) ∧ Step W Ht eight x y a b ∧ z = (y + b) * W + x + a

set_option maxHeartbeats 1000000 in
theorem near_ret (W Ht k : Int) (vd : Value) (eight : Bool) (w : World) (hW : 1 ≤ W ∧ W ≤ 4096) (hH : 1 ≤ Ht ∧ Ht ≤ 4096) (hk : 0 ≤ k ∧ k ≤ 4194304) :
    Ret Try.prog 50 #[mat W Ht vd, i64 k, .bool eight] w fun v w' => ∃ l, OwnL i64 w' w.heap.size 3 v l ∧ Nrs W Ht eight (k % W) (k / W) (-1) 2 l ∧ l.length ≤ 9 ∧ Ext w w' := by
  refine enter Try.func50 rfl (by kernel_rfl) Try.ntmps50 rfl ?_
  refine C.seq <| C.region <| ?_
  refine E.boxB (cs := [i64 W, i64 Ht, vd]) rfl rfl rfl ?_
  intro w1 b1 x1 z1
  obtain ⟨bm, hbm⟩ : ∃ bm, bm = w.heap.size := ⟨_, rfl⟩
  rw [← hbm] at b1 ⊢

  refine E.asg rfl rfl <| E.nil <| X.next <| C.seq <| C.region <| E.asg rfl rfl <| E.nil <| X.next <| C.seq <| C.drawn (by kernel_rfl) (by kernel_rfl) <| ?_
  refine Q.mv rfl rfl ?_
  refine Q.fld (o := 0) (sz := 0) rfl Try.underlying24 rfl rfl (by kernel_rfl) rfl ?_
  refine Q.load rfl Try.underlying3 rfl (b1.cell 0) rfl ?_
  refine Q.rem rfl rfl (by omega) (IntWalk.rem_in _ _ (by omega)) rfl ?_
  refine Q.mv rfl rfl ?_
  refine Q.fld (o := 0) (sz := 0) rfl Try.underlying24 rfl rfl (by kernel_rfl) rfl ?_
  refine Q.load rfl Try.underlying3 rfl (b1.cell 0) rfl ?_
  refine Q.quo rfl rfl (by omega) (IntWalk.i64_quo _ _ (by omega)) rfl ?_
  have hx0 : 0 ≤ k % W := Int.emod_nonneg _ (by omega)
  have hx1 : k % W < W := Int.emod_lt_of_pos _ (by omega)
  have hy0 : 0 ≤ k / W := Int.ediv_nonneg (by omega) (by omega)
  have hy1 : k / W ≤ k := Int.ediv_le_self _ (by omega)
  generalize k % W = x at *
  generalize k / W = y at *
  refine Q.asg rfl rfl ?_
  refine Q.asg rfl rfl ?_
  refine Q.nil <| fun w2 x2 => X.next <| C.seq <| C.seq <| C.region <| E.asg rfl rfl <| E.nil <| X.next <| C.block <| ?_

  refine C.loop (G := Int × Value × List Int) (fun g => [(2, .bool eight), (3, pv bm), (7, g.2.1), (8, i64 x), (9, i64 y), (10, i64 g.1)]) (fun g w' => (-1 ≤ g.1 ∧ g.1 ≤ 2) ∧ OwnL i64 w' w.heap.size 3 g.2.1 g.2.2 ∧ Nrs W Ht eight x y (-1) g.1 g.2.2 ∧ (g.2.2.length : Int) ≤ 3 * (g.1 + 1) ∧ Blk w' bm 24 #[i64 W, i64 Ht, vd] ∧ g.2.1.ownBlock ≠ some bm ∧ Ext w w') (fun g => (2 - g.1).toNat) (-1, .slice none 0 0, []) ?_ ?_ ?_
  · exact Sub.cons rfl <| Sub.cons rfl <| Sub.cons rfl <| Sub.cons rfl <| Sub.cons rfl <| Sub.cons rfl <| Sub.nil _
  · exact ⟨by simp, OwnL.nil _ _ _ _, fun z => ⟨(fun h => by simp at h), (fun ⟨a, b, h1, h2, h3, h4, h5, _⟩ => by simp only at h5; omega)⟩, by simp, b1.ext x2, nofun, x1.trans x2⟩
  · rintro ⟨dy, v, l⟩ wk ⟨hdy, hO, hN, hl, hb, hnb, hxw⟩
    simp only at hdy hO hN hl hnb
    refine C.seq <| C.seq <| C.region <| E.mv rfl rfl <| E.bin rfl rfl rfl rfl <| E.nil <| X.next <| ?_
    refine C.cond' rfl (fun hc => ?_) (fun hc => ?_)
    ·
      refine C.skip <| X.next <| C.seq <| C.block <| C.seq <| C.region <| E.asg rfl rfl <| E.nil <| X.next <| C.block <| ?_

      refine C.loop (G := Int × Value × List Int) (fun g => [(2, .bool eight), (3, pv bm), (7, g.2.1), (8, i64 x), (9, i64 y), (10, i64 dy), (11, i64 g.1)]) (fun g w' => (-1 ≤ g.1 ∧ g.1 ≤ 2) ∧ OwnL i64 w' w.heap.size 3 g.2.1 g.2.2 ∧ Nrs W Ht eight x y g.1 dy g.2.2 ∧ (g.2.2.length : Int) ≤ 3 * (dy + 1) + g.1 + 1 ∧ Blk w' bm 24 #[i64 W, i64 Ht, vd] ∧ g.2.1.ownBlock ≠ some bm ∧ Ext w w') (fun g => (2 - g.1).toNat) (-1, v, l) ?_ ?_ ?_
      · exact Sub.cons rfl <| Sub.cons rfl <| Sub.cons rfl <| Sub.cons rfl <| Sub.cons rfl <| Sub.cons rfl <| Sub.cons rfl <| Sub.nil _
      · exact ⟨by simp, hO, hN, by simp only; omega, hb, hnb, hxw⟩
      · clear hO hN hl hb hnb hxw
        have hdy' : dy ≤ 1 := hc
        rintro ⟨dx, v, l⟩ wk ⟨hdx, hO, hN, hl, hb, hnb, hxw⟩
        simp only at hdx hO hN hl hnb
        refine C.seq <| C.seq <| C.region <| E.mv rfl rfl <| E.bin rfl rfl rfl rfl <| E.nil <| X.next <| ?_
        refine C.cond' rfl (fun hc => ?_) (fun hc => ?_)
        ·
          have hdx' : dx ≤ 1 := hc
          refine C.skip <| X.next <| ?_

          refine C.cut (G := Int × Value × List Int) (fun g => [(2, .bool eight), (3, pv bm), (7, g.2.1), (8, i64 x), (9, i64 y), (10, i64 dy), (11, i64 dx)]) (fun g w' => OwnL i64 w' w.heap.size 3 g.2.1 g.2.2 ∧ Nrs W Ht eight x y (dx + 1) dy g.2.2 ∧ (g.2.2.length : Int) ≤ 3 * (dy + 1) + dx + 2 ∧ Blk w' bm 24 #[i64 W, i64 Ht, vd] ∧ g.2.1.ownBlock ≠ some bm ∧ Ext w w') ?_ ?_
          ·
            refine C.block <| C.seq <| ?_

            refine C.cut (G := Unit) (fun _ => [(2, .bool eight), (3, pv bm), (7, v), (8, i64 x), (9, i64 y), (10, i64 dy), (11, i64 dx), (45, .bool (decide ((dx = 0 ∧ dy = 0) ∨ (eight = false ∧ dx ≠ 0 ∧ dy ≠ 0))))]) (fun _ w' => wk = w') (C.region ?_) ?_
            ·
              refine E.mv rfl rfl <| E.bin rfl rfl rfl rfl <| E.mv rfl rfl <| ?_
              refine E.split 30 rfl (fun g30 => ?_) (fun g30 => ?_)
              ·
                refine E.on rfl rfl (E.mv rfl rfl ?_)
                refine E.on rfl rfl (E.bin rfl rfl rfl rfl ?_)
                refine E.pick rfl rfl rfl <| E.mv rfl rfl <| ?_
                refine E.split 34 rfl (fun g34 => ?_) (fun g34 => ?_)
                ·
                  refine E.off rfl rfl rfl rfl <| E.off rfl rfl rfl rfl <| E.off rfl rfl rfl rfl <| E.offu rfl rfl rfl <| E.offu rfl rfl rfl <| E.off rfl rfl rfl rfl <| E.off rfl rfl rfl rfl <| E.offu rfl rfl rfl <| E.offu rfl rfl rfl <| E.off rfl rfl rfl rfl <| E.pick rfl rfl rfl <| E.nil <| X.join () (Sub.cons rfl <| Sub.cons rfl <| Sub.cons rfl <| Sub.cons rfl <| Sub.cons rfl <| Sub.cons rfl <| Sub.cons rfl <| Sub.cons (by (first | exact leaf_f (by omega) | exact leaf_t (by omega) | exact leaf_d (by omega) | exact leaf_f (by first | (simp [*] <;> fail) | omega) | exact leaf_t (by first | (simp [*] <;> fail) | omega) | exact leaf_d (by first | (simp [*] <;> fail) | omega) | exact leaf_f (by (first | omega | ((try simp only [decide_eq_true_eq, decide_eq_false_iff_not, Bool.not_eq_true', Bool.not_eq_false'] at *); first | omega | (simp_all <;> fail) | (simp_all; omega)))) | exact leaf_t (by (first | omega | ((try simp only [decide_eq_true_eq, decide_eq_false_iff_not, Bool.not_eq_true', Bool.not_eq_false'] at *); first | omega | (simp_all <;> fail) | (simp_all; omega)))) | exact leaf_d (by (first | omega | ((try simp only [decide_eq_true_eq, decide_eq_false_iff_not, Bool.not_eq_true', Bool.not_eq_false'] at *); first | omega | (simp_all <;> fail) | (simp_all; omega)))))) <| Sub.nil _) rfl
                ·
                  refine E.on rfl rfl (E.mv rfl rfl ?_)
                  refine E.on rfl rfl (E.not rfl rfl ?_)
                  refine E.on rfl rfl (E.mv rfl rfl ?_)
                  refine E.split 37 rfl (fun g37 => ?_) (fun g37 => ?_)
                  ·
                    refine E.on rfl rfl (E.mv rfl rfl ?_)
                    refine E.on rfl rfl (E.bin rfl rfl rfl rfl ?_)
                    refine E.on rfl rfl (E.pick rfl rfl rfl ?_)
                    refine E.on rfl rfl (E.mv rfl rfl ?_)
                    refine E.split 41 rfl (fun g41 => ?_) (fun g41 => ?_)
                    ·
                      refine E.on rfl rfl (E.mv rfl rfl ?_)
                      refine E.on rfl rfl (E.bin rfl rfl rfl rfl ?_)
                      refine E.on rfl rfl (E.pick rfl rfl rfl ?_)
                      refine E.pick rfl rfl rfl <| E.nil <| X.join () (Sub.cons rfl <| Sub.cons rfl <| Sub.cons rfl <| Sub.cons rfl <| Sub.cons rfl <| Sub.cons rfl <| Sub.cons rfl <| Sub.cons (by (first | exact leaf_f (by omega) | exact leaf_t (by omega) | exact leaf_d (by omega) | exact leaf_f (by first | (simp [*] <;> fail) | omega) | exact leaf_t (by first | (simp [*] <;> fail) | omega) | exact leaf_d (by first | (simp [*] <;> fail) | omega) | exact leaf_f (by (first | omega | ((try simp only [decide_eq_true_eq, decide_eq_false_iff_not, Bool.not_eq_true', Bool.not_eq_false'] at *); first | omega | (simp_all <;> fail) | (simp_all; omega)))) | exact leaf_t (by (first | omega | ((try simp only [decide_eq_true_eq, decide_eq_false_iff_not, Bool.not_eq_true', Bool.not_eq_false'] at *); first | omega | (simp_all <;> fail) | (simp_all; omega)))) | exact leaf_d (by (first | omega | ((try simp only [decide_eq_true_eq, decide_eq_false_iff_not, Bool.not_eq_true', Bool.not_eq_false'] at *); first | omega | (simp_all <;> fail) | (simp_all; omega)))))) <| Sub.nil _) rfl
                    ·
                      refine E.off rfl rfl rfl rfl <| E.off rfl rfl rfl rfl <| ?_
                      refine E.on rfl rfl (E.pick rfl rfl rfl ?_)
                      refine E.pick rfl rfl rfl <| E.nil <| X.join () (Sub.cons rfl <| Sub.cons rfl <| Sub.cons rfl <| Sub.cons rfl <| Sub.cons rfl <| Sub.cons rfl <| Sub.cons rfl <| Sub.cons (by (first | exact leaf_f (by omega) | exact leaf_t (by omega) | exact leaf_d (by omega) | exact leaf_f (by first | (simp [*] <;> fail) | omega) | exact leaf_t (by first | (simp [*] <;> fail) | omega) | exact leaf_d (by first | (simp [*] <;> fail) | omega) | exact leaf_f (by (first | omega | ((try simp only [decide_eq_true_eq, decide_eq_false_iff_not, Bool.not_eq_true', Bool.not_eq_false'] at *); first | omega | (simp_all <;> fail) | (simp_all; omega)))) | exact leaf_t (by (first | omega | ((try simp only [decide_eq_true_eq, decide_eq_false_iff_not, Bool.not_eq_true', Bool.not_eq_false'] at *); first | omega | (simp_all <;> fail) | (simp_all; omega)))) | exact leaf_d (by (first | omega | ((try simp only [decide_eq_true_eq, decide_eq_false_iff_not, Bool.not_eq_true', Bool.not_eq_false'] at *); first | omega | (simp_all <;> fail) | (simp_all; omega)))))) <| Sub.nil _) rfl
                  ·
                    refine E.off rfl rfl rfl rfl <| E.off rfl rfl rfl rfl <| ?_
                    refine E.on rfl rfl (E.pick rfl rfl rfl ?_)
                    refine E.on rfl rfl (E.mv rfl rfl ?_)
                    refine E.off rfl rfl rfl rfl <| E.off rfl rfl rfl rfl <| ?_
                    refine E.on rfl rfl (E.pick rfl rfl rfl ?_)
                    refine E.pick rfl rfl rfl <| E.nil <| X.join () (Sub.cons rfl <| Sub.cons rfl <| Sub.cons rfl <| Sub.cons rfl <| Sub.cons rfl <| Sub.cons rfl <| Sub.cons rfl <| Sub.cons (by (first | exact leaf_f (by omega) | exact leaf_t (by omega) | exact leaf_d (by omega) | exact leaf_f (by first | (simp [*] <;> fail) | omega) | exact leaf_t (by first | (simp [*] <;> fail) | omega) | exact leaf_d (by first | (simp [*] <;> fail) | omega) | exact leaf_f (by (first | omega | ((try simp only [decide_eq_true_eq, decide_eq_false_iff_not, Bool.not_eq_true', Bool.not_eq_false'] at *); first | omega | (simp_all <;> fail) | (simp_all; omega)))) | exact leaf_t (by (first | omega | ((try simp only [decide_eq_true_eq, decide_eq_false_iff_not, Bool.not_eq_true', Bool.not_eq_false'] at *); first | omega | (simp_all <;> fail) | (simp_all; omega)))) | exact leaf_d (by (first | omega | ((try simp only [decide_eq_true_eq, decide_eq_false_iff_not, Bool.not_eq_true', Bool.not_eq_false'] at *); first | omega | (simp_all <;> fail) | (simp_all; omega)))))) <| Sub.nil _) rfl
              ·
                refine E.off rfl rfl rfl rfl <| E.off rfl rfl rfl rfl <| E.pick rfl rfl rfl <| E.mv rfl rfl <| ?_
                refine E.on rfl rfl (E.mv rfl rfl ?_)
                refine E.on rfl rfl (E.not rfl rfl ?_)
                refine E.on rfl rfl (E.mv rfl rfl ?_)
                refine E.split 37 rfl (fun g37 => ?_) (fun g37 => ?_)
                ·
                  refine E.on rfl rfl (E.mv rfl rfl ?_)
                  refine E.on rfl rfl (E.bin rfl rfl rfl rfl ?_)
                  refine E.on rfl rfl (E.pick rfl rfl rfl ?_)
                  refine E.on rfl rfl (E.mv rfl rfl ?_)
                  refine E.split 41 rfl (fun g41 => ?_) (fun g41 => ?_)
                  ·
                    refine E.on rfl rfl (E.mv rfl rfl ?_)
                    refine E.on rfl rfl (E.bin rfl rfl rfl rfl ?_)
                    refine E.on rfl rfl (E.pick rfl rfl rfl ?_)
                    refine E.pick rfl rfl rfl <| E.nil <| X.join () (Sub.cons rfl <| Sub.cons rfl <| Sub.cons rfl <| Sub.cons rfl <| Sub.cons rfl <| Sub.cons rfl <| Sub.cons rfl <| Sub.cons (by (first | exact leaf_f (by omega) | exact leaf_t (by omega) | exact leaf_d (by omega) | exact leaf_f (by first | (simp [*] <;> fail) | omega) | exact leaf_t (by first | (simp [*] <;> fail) | omega) | exact leaf_d (by first | (simp [*] <;> fail) | omega) | exact leaf_f (by (first | omega | ((try simp only [decide_eq_true_eq, decide_eq_false_iff_not, Bool.not_eq_true', Bool.not_eq_false'] at *); first | omega | (simp_all <;> fail) | (simp_all; omega)))) | exact leaf_t (by (first | omega | ((try simp only [decide_eq_true_eq, decide_eq_false_iff_not, Bool.not_eq_true', Bool.not_eq_false'] at *); first | omega | (simp_all <;> fail) | (simp_all; omega)))) | exact leaf_d (by (first | omega | ((try simp only [decide_eq_true_eq, decide_eq_false_iff_not, Bool.not_eq_true', Bool.not_eq_false'] at *); first | omega | (simp_all <;> fail) | (simp_all; omega)))))) <| Sub.nil _) rfl
                  ·
                    refine E.off rfl rfl rfl rfl <| E.off rfl rfl rfl rfl <| ?_
                    refine E.on rfl rfl (E.pick rfl rfl rfl ?_)
                    refine E.pick rfl rfl rfl <| E.nil <| X.join () (Sub.cons rfl <| Sub.cons rfl <| Sub.cons rfl <| Sub.cons rfl <| Sub.cons rfl <| Sub.cons rfl <| Sub.cons rfl <| Sub.cons (by (first | exact leaf_f (by omega) | exact leaf_t (by omega) | exact leaf_d (by omega) | exact leaf_f (by first | (simp [*] <;> fail) | omega) | exact leaf_t (by first | (simp [*] <;> fail) | omega) | exact leaf_d (by first | (simp [*] <;> fail) | omega) | exact leaf_f (by (first | omega | ((try simp only [decide_eq_true_eq, decide_eq_false_iff_not, Bool.not_eq_true', Bool.not_eq_false'] at *); first | omega | (simp_all <;> fail) | (simp_all; omega)))) | exact leaf_t (by (first | omega | ((try simp only [decide_eq_true_eq, decide_eq_false_iff_not, Bool.not_eq_true', Bool.not_eq_false'] at *); first | omega | (simp_all <;> fail) | (simp_all; omega)))) | exact leaf_d (by (first | omega | ((try simp only [decide_eq_true_eq, decide_eq_false_iff_not, Bool.not_eq_true', Bool.not_eq_false'] at *); first | omega | (simp_all <;> fail) | (simp_all; omega)))))) <| Sub.nil _) rfl
                ·
                  refine E.off rfl rfl rfl rfl <| E.off rfl rfl rfl rfl <| ?_
                  refine E.on rfl rfl (E.pick rfl rfl rfl ?_)
                  refine E.on rfl rfl (E.mv rfl rfl ?_)
                  refine E.off rfl rfl rfl rfl <| E.off rfl rfl rfl rfl <| ?_
                  refine E.on rfl rfl (E.pick rfl rfl rfl ?_)
                  refine E.pick rfl rfl rfl <| E.nil <| X.join () (Sub.cons rfl <| Sub.cons rfl <| Sub.cons rfl <| Sub.cons rfl <| Sub.cons rfl <| Sub.cons rfl <| Sub.cons rfl <| Sub.cons (by (first | exact leaf_f (by omega) | exact leaf_t (by omega) | exact leaf_d (by omega) | exact leaf_f (by first | (simp [*] <;> fail) | omega) | exact leaf_t (by first | (simp [*] <;> fail) | omega) | exact leaf_d (by first | (simp [*] <;> fail) | omega) | exact leaf_f (by (first | omega | ((try simp only [decide_eq_true_eq, decide_eq_false_iff_not, Bool.not_eq_true', Bool.not_eq_false'] at *); first | omega | (simp_all <;> fail) | (simp_all; omega)))) | exact leaf_t (by (first | omega | ((try simp only [decide_eq_true_eq, decide_eq_false_iff_not, Bool.not_eq_true', Bool.not_eq_false'] at *); first | omega | (simp_all <;> fail) | (simp_all; omega)))) | exact leaf_d (by (first | omega | ((try simp only [decide_eq_true_eq, decide_eq_false_iff_not, Bool.not_eq_true', Bool.not_eq_false'] at *); first | omega | (simp_all <;> fail) | (simp_all; omega)))))) <| Sub.nil _) rfl
            ·
              rintro _ _ rfl
              refine C.cond' rfl (fun hc => ?_) (fun hc => ?_)
              ·
                refine C.exit <| X.exitT <| X.outE <| X.join (dx, v, l) (Sub.cons rfl <| Sub.cons rfl <| Sub.cons rfl <| Sub.cons rfl <| Sub.cons rfl <| Sub.cons rfl <| Sub.cons rfl <| Sub.nil _) ⟨hO, fun z => ?_, by simp only; omega, hb, hnb, hxw⟩
                rw [hN z]
                constructor
                · rintro ⟨a, b, h1, h2, h3, h4, h5, h6⟩; exact ⟨a, b, h1, h2, h3, h4, by omega, h6⟩
                · rintro ⟨a, b, h1, h2, h3, h4, h5, h6, h7⟩
                  refine ⟨a, b, h1, h2, h3, h4, ?_, h6, h7⟩
                  by_cases e : a = dx ∧ b = dy
                  · obtain ⟨rfl, rfl⟩ := e; exact (h6.1 hc).elim
                  · omega
              ·
                have hno : ¬ ((dx = 0 ∧ dy = 0) ∨ (eight = false ∧ dx ≠ 0 ∧ dy ≠ 0)) := hc
                refine C.skip <| X.next <| ?_

                refine C.cut (G := Unit) (fun _ => [(2, .bool eight), (3, pv bm), (7, v), (8, i64 x), (9, i64 y), (10, i64 dy), (11, i64 dx), (71, .bool (decide (0 ≤ x + dx ∧ x + dx < W ∧ 0 ≤ y + dy ∧ y + dy < Ht)))]) (fun _ w' => wk = w') (C.region ?_) ?_
                ·
                  refine E.mv rfl rfl <| E.mv rfl rfl <| ?_
                  refine E.add rfl rfl (by omega) rfl ?_
                  refine E.bin rfl rfl rfl rfl <| E.mv rfl rfl <| ?_
                  refine E.split 50 rfl (fun g50 => ?_) (fun g50 => ?_)
                  ·
                    refine E.on rfl rfl (E.mv rfl rfl ?_)
                    refine E.on rfl rfl (E.mv rfl rfl ?_)
                    refine E.on rfl rfl (E.add rfl rfl (by omega) rfl ?_)
                    refine E.on rfl rfl (E.fld (o := 0) (sz := 0) rfl Try.underlying24 rfl rfl (by kernel_rfl) rfl ?_)
                    refine E.on rfl rfl (E.load rfl Try.underlying3 rfl (hb.cell 0) rfl ?_)
                    refine E.on rfl rfl (E.bin rfl rfl rfl rfl ?_)
                    refine E.pick rfl rfl rfl <| E.mv rfl rfl <| ?_
                    refine E.split 58 rfl (fun g58 => ?_) (fun g58 => ?_)
                    ·
                      refine E.on rfl rfl (E.mv rfl rfl ?_)
                      refine E.on rfl rfl (E.mv rfl rfl ?_)
                      refine E.on rfl rfl (E.add rfl rfl (by omega) rfl ?_)
                      refine E.on rfl rfl (E.bin rfl rfl rfl rfl ?_)
                      refine E.pick rfl rfl rfl <| E.mv rfl rfl <| ?_
                      refine E.split 64 rfl (fun g64 => ?_) (fun g64 => ?_)
                      ·
                        refine E.on rfl rfl (E.mv rfl rfl ?_)
                        refine E.on rfl rfl (E.mv rfl rfl ?_)
                        refine E.on rfl rfl (E.add rfl rfl (by omega) rfl ?_)
                        refine E.on rfl rfl (E.fld (o := 1) (sz := 0) rfl Try.underlying24 rfl rfl (by kernel_rfl) rfl ?_)
                        refine E.on rfl rfl (E.load rfl Try.underlying3 rfl (hb.cell 1) rfl ?_)
                        refine E.on rfl rfl (E.bin rfl rfl rfl rfl ?_)
                        refine E.pick rfl rfl rfl <| E.nil <| X.join () (Sub.cons rfl <| Sub.cons rfl <| Sub.cons rfl <| Sub.cons rfl <| Sub.cons rfl <| Sub.cons rfl <| Sub.cons rfl <| Sub.cons (by (first | exact leaf_f (by omega) | exact leaf_t (by omega) | exact leaf_d (by omega) | exact leaf_f (by first | (simp [*] <;> fail) | omega) | exact leaf_t (by first | (simp [*] <;> fail) | omega) | exact leaf_d (by first | (simp [*] <;> fail) | omega) | exact leaf_f (by (first | omega | ((try simp only [decide_eq_true_eq, decide_eq_false_iff_not, Bool.not_eq_true', Bool.not_eq_false'] at *); first | omega | (simp_all <;> fail) | (simp_all; omega)))) | exact leaf_t (by (first | omega | ((try simp only [decide_eq_true_eq, decide_eq_false_iff_not, Bool.not_eq_true', Bool.not_eq_false'] at *); first | omega | (simp_all <;> fail) | (simp_all; omega)))) | exact leaf_d (by (first | omega | ((try simp only [decide_eq_true_eq, decide_eq_false_iff_not, Bool.not_eq_true', Bool.not_eq_false'] at *); first | omega | (simp_all <;> fail) | (simp_all; omega)))))) <| Sub.nil _) rfl
                      ·
                        refine E.off rfl rfl rfl rfl <| E.off rfl rfl rfl rfl <| E.off rfl rfl rfl rfl <| E.off rfl rfl rfl rfl <| E.off rfl rfl rfl rfl <| E.off rfl rfl rfl rfl <| E.pick rfl rfl rfl <| E.nil <| X.join () (Sub.cons rfl <| Sub.cons rfl <| Sub.cons rfl <| Sub.cons rfl <| Sub.cons rfl <| Sub.cons rfl <| Sub.cons rfl <| Sub.cons (by (first | exact leaf_f (by omega) | exact leaf_t (by omega) | exact leaf_d (by omega) | exact leaf_f (by first | (simp [*] <;> fail) | omega) | exact leaf_t (by first | (simp [*] <;> fail) | omega) | exact leaf_d (by first | (simp [*] <;> fail) | omega) | exact leaf_f (by (first | omega | ((try simp only [decide_eq_true_eq, decide_eq_false_iff_not, Bool.not_eq_true', Bool.not_eq_false'] at *); first | omega | (simp_all <;> fail) | (simp_all; omega)))) | exact leaf_t (by (first | omega | ((try simp only [decide_eq_true_eq, decide_eq_false_iff_not, Bool.not_eq_true', Bool.not_eq_false'] at *); first | omega | (simp_all <;> fail) | (simp_all; omega)))) | exact leaf_d (by (first | omega | ((try simp only [decide_eq_true_eq, decide_eq_false_iff_not, Bool.not_eq_true', Bool.not_eq_false'] at *); first | omega | (simp_all <;> fail) | (simp_all; omega)))))) <| Sub.nil _) rfl
                    ·
                      refine E.off rfl rfl rfl rfl <| E.off rfl rfl rfl rfl <| E.off rfl rfl rfl rfl <| E.off rfl rfl rfl rfl <| E.pick rfl rfl rfl <| E.mv rfl rfl <| E.off rfl rfl rfl rfl <| E.off rfl rfl rfl rfl <| E.off rfl rfl rfl rfl <| E.off rfl rfl rfl rfl <| E.off rfl rfl rfl rfl <| E.off rfl rfl rfl rfl <| E.pick rfl rfl rfl <| E.nil <| X.join () (Sub.cons rfl <| Sub.cons rfl <| Sub.cons rfl <| Sub.cons rfl <| Sub.cons rfl <| Sub.cons rfl <| Sub.cons rfl <| Sub.cons (by (first | exact leaf_f (by omega) | exact leaf_t (by omega) | exact leaf_d (by omega) | exact leaf_f (by first | (simp [*] <;> fail) | omega) | exact leaf_t (by first | (simp [*] <;> fail) | omega) | exact leaf_d (by first | (simp [*] <;> fail) | omega) | exact leaf_f (by (first | omega | ((try simp only [decide_eq_true_eq, decide_eq_false_iff_not, Bool.not_eq_true', Bool.not_eq_false'] at *); first | omega | (simp_all <;> fail) | (simp_all; omega)))) | exact leaf_t (by (first | omega | ((try simp only [decide_eq_true_eq, decide_eq_false_iff_not, Bool.not_eq_true', Bool.not_eq_false'] at *); first | omega | (simp_all <;> fail) | (simp_all; omega)))) | exact leaf_d (by (first | omega | ((try simp only [decide_eq_true_eq, decide_eq_false_iff_not, Bool.not_eq_true', Bool.not_eq_false'] at *); first | omega | (simp_all <;> fail) | (simp_all; omega)))))) <| Sub.nil _) rfl
                  ·
                    refine E.off rfl rfl rfl rfl <| E.off rfl rfl rfl rfl <| E.off rfl rfl rfl rfl <| E.off rfl rfl rfl rfl <| E.off rfl rfl rfl rfl <| E.off rfl rfl rfl rfl <| E.pick rfl rfl rfl <| E.mv rfl rfl <| E.off rfl rfl rfl rfl <| E.off rfl rfl rfl rfl <| E.off rfl rfl rfl rfl <| E.off rfl rfl rfl rfl <| E.pick rfl rfl rfl <| E.mv rfl rfl <| E.off rfl rfl rfl rfl <| E.off rfl rfl rfl rfl <| E.off rfl rfl rfl rfl <| E.off rfl rfl rfl rfl <| E.off rfl rfl rfl rfl <| E.off rfl rfl rfl rfl <| E.pick rfl rfl rfl <| E.nil <| X.join () (Sub.cons rfl <| Sub.cons rfl <| Sub.cons rfl <| Sub.cons rfl <| Sub.cons rfl <| Sub.cons rfl <| Sub.cons rfl <| Sub.cons (by (first | exact leaf_f (by omega) | exact leaf_t (by omega) | exact leaf_d (by omega) | exact leaf_f (by first | (simp [*] <;> fail) | omega) | exact leaf_t (by first | (simp [*] <;> fail) | omega) | exact leaf_d (by first | (simp [*] <;> fail) | omega) | exact leaf_f (by (first | omega | ((try simp only [decide_eq_true_eq, decide_eq_false_iff_not, Bool.not_eq_true', Bool.not_eq_false'] at *); first | omega | (simp_all <;> fail) | (simp_all; omega)))) | exact leaf_t (by (first | omega | ((try simp only [decide_eq_true_eq, decide_eq_false_iff_not, Bool.not_eq_true', Bool.not_eq_false'] at *); first | omega | (simp_all <;> fail) | (simp_all; omega)))) | exact leaf_d (by (first | omega | ((try simp only [decide_eq_true_eq, decide_eq_false_iff_not, Bool.not_eq_true', Bool.not_eq_false'] at *); first | omega | (simp_all <;> fail) | (simp_all; omega)))))) <| Sub.nil _) rfl
                ·
                  rintro _ _ rfl
                  refine C.cond' rfl (fun hc => ?_) (fun hc => ?_)
                  ·
                    have hmul : -5000 ≤ (y + dy) * W ∧ (y + dy) * W ≤ 16777216 := ⟨by have := Int.mul_nonneg hc.2.2.1 (show 0 ≤ W by omega); omega, by have := Int.mul_le_mul (show y + dy ≤ 4096 by omega) (show W ≤ 4096 by omega) (by omega) (by omega); omega⟩
                    refine C.region <| E.mv rfl rfl <| E.mv rfl rfl <| E.mv rfl rfl <| ?_
                    refine E.add rfl rfl (by omega) rfl ?_
                    refine E.fld (o := 0) (sz := 0) rfl Try.underlying24 rfl rfl (by kernel_rfl) rfl ?_
                    refine E.load rfl Try.underlying3 rfl (hb.cell 0) rfl ?_
                    refine E.mul rfl rfl (by omega) rfl ?_
                    refine E.mv rfl rfl <| ?_
                    refine E.add rfl rfl (by omega) rfl ?_
                    refine E.mv rfl rfl <| ?_
                    refine E.add rfl rfl (by omega) rfl ?_
                    refine E.pushL (enc := i64) ((y + dy) * W + x + dx) rfl rfl Try.underlying27 elem_Tint hO rfl (by omega) (by omega) hxw.size (by simp) rfl rfl ?_
                    intro v' w3 hO3 g3 l3
                    have x3 : Ext w w3 := hxw.own hO g3 (Nat.le_refl _)
                    have hb3 := Blk.apart hb g3 hnb
                    have hnb3 : v'.ownBlock ≠ some bm := by
                      rcases l3 with l3 | ⟨u, l3, hge⟩
                      · rw [l3]; exact hnb
                      · rw [l3]; intro e; have := Option.some.inj e; have := hb.lt; omega
                    refine E.asg rfl rfl <| E.nil <| X.outN <| X.join (dx, v', l ++ [(y + dy) * W + x + dx]) (Sub.cons rfl <| Sub.cons rfl <| Sub.cons rfl <| Sub.cons rfl <| Sub.cons rfl <| Sub.cons rfl <| Sub.cons rfl <| Sub.nil _) ⟨hO3, fun z => ?_, by simp only [List.length_append, List.length_singleton]; omega, hb3, hnb3, x3⟩
                    rw [List.mem_append, hN z, List.mem_singleton]
                    constructor
                    · rintro (⟨a, b, h1, h2, h3, h4, h5, h6⟩ | rfl)
                      · exact ⟨a, b, h1, h2, h3, h4, by omega, h6⟩
                      · exact ⟨dx, dy, by omega, by omega, by omega, by omega, by omega, ⟨hno, hc⟩, rfl⟩
                    · rintro ⟨a, b, h1, h2, h3, h4, h5, h6, h7⟩
                      by_cases e : a = dx ∧ b = dy
                      · obtain ⟨rfl, rfl⟩ := e; exact .inr h7
                      · exact .inl ⟨a, b, h1, h2, h3, h4, by omega, h6, h7⟩
                  ·
                    refine C.skip <| X.outN <| X.join (dx, v, l) (Sub.cons rfl <| Sub.cons rfl <| Sub.cons rfl <| Sub.cons rfl <| Sub.cons rfl <| Sub.cons rfl <| Sub.cons rfl <| Sub.nil _) ⟨hO, fun z => ?_, by simp only; omega, hb, hnb, hxw⟩
                    rw [hN z]
                    constructor
                    · rintro ⟨a, b, h1, h2, h3, h4, h5, h6⟩; exact ⟨a, b, h1, h2, h3, h4, by omega, h6⟩
                    · rintro ⟨a, b, h1, h2, h3, h4, h5, h6, h7⟩
                      refine ⟨a, b, h1, h2, h3, h4, ?_, h6, h7⟩
                      by_cases e : a = dx ∧ b = dy
                      · obtain ⟨rfl, rfl⟩ := e; exact (hc h6.2).elim
                      · omega
          ·
            rintro ⟨dx', v', l'⟩ w3 ⟨hO3, hN3, hl3, hb3, hnb3, x3⟩
            simp only at hO3 hN3 hl3 hnb3
            refine C.region <| E.mv rfl rfl <| ?_
            refine E.add rfl rfl (by omega) rfl ?_
            refine E.asg rfl rfl <| E.nil <| X.again (dx + 1, v', l') (Sub.cons rfl <| Sub.cons rfl <| Sub.cons rfl <| Sub.cons rfl <| Sub.cons rfl <| Sub.cons rfl <| Sub.cons rfl <| Sub.nil _) ⟨by simp only; omega, hO3, hN3, by simp only; omega, hb3, hnb3, x3⟩ (by simp only; omega)
        ·
          obtain rfl : dx = 2 := by have hc' : ¬ dx ≤ 1 := hc; omega
          refine C.exit <| X.exitT <| X.exitT <| X.outE <| X.outN <| X.next <| C.region <| E.mv rfl rfl <| ?_
          refine E.add rfl rfl (by omega) rfl ?_
          refine E.asg rfl rfl <| E.nil <| X.again (dy + 1, v, l) (Sub.cons rfl <| Sub.cons rfl <| Sub.cons rfl <| Sub.cons rfl <| Sub.cons rfl <| Sub.cons rfl <| Sub.nil _) ⟨by simp only; omega, hO, (fun z => by
            rw [hN z]
            constructor
            · rintro ⟨a, b, h1, h2, h3, h4, h5, h6⟩; exact ⟨a, b, h1, h2, h3, h4, by omega, h6⟩
            · rintro ⟨a, b, h1, h2, h3, h4, h5, h6⟩; exact ⟨a, b, h1, h2, h3, h4, by simp only at h5; omega, h6⟩), by simp only; omega, hb, hnb, hxw⟩ (by simp only; omega)
    ·
      refine C.exit <| X.exitT <| X.exitT <| X.outE <| X.next <| C.seq <| C.region <| E.mv rfl rfl <| E.asg rfl rfl <| E.nil <| X.next <| C.ret <| ret1 rfl rfl ?_
      obtain rfl : dy = 2 := by have hc' : ¬ dy ≤ 1 := hc; omega
      exact ⟨l, by rw [hbm]; exact hO, hN, by omega, hxw⟩
end Go.Proofs.Ytnnmebpahickhaa
