/- Texts of the claim, laid together: Near, Nb, Grow, Lab, Flood, SpreadM. -/
import Derived.Test.YtbinlkobmlebpaaB1
import Derived.Test.YtbinlkobmlebpaaB2
import Derived.Test.YtbinlkobmlebpaaB7
import Derived.Test.YtbinlkobmlebpaaB12
set_option linter.unusedSimpArgs false
set_option linter.unusedVariables false
namespace Go.Proofs.Ytbinlkobmlebpaa
open Go.RowKit Sym Uf
def Step (W Ht : Int) (eight : Bool) (x y dx dy : Int) : Prop := ¬ ((dx = 0 ∧ dy = 0) ∨ (eight = false ∧ dx ≠ 0 ∧ dy ≠ 0)) ∧ 0 ≤ x + dx ∧ x + dx < W ∧ 0 ≤ y + dy ∧ y + dy < Ht
def Nrs (W Ht : Int) (eight : Bool) (x y dx dy : Int) (l : List Int) : Prop := ∀ z : Int, z ∈ l ↔ ∃ a b : Int, -1 ≤ a ∧ a ≤ 1 ∧ -1 ≤ b ∧ b ≤ 1 ∧ (b < dy ∨ (b = dy ∧ a < dx)) ∧ Step W Ht eight x y a b ∧ z = (y + b) * W + x + a
set_option maxHeartbeats 1000000 in
theorem near_ret (W Ht k : Int) (vd : Value) (eight : Bool) (w : World) (hW : 1 ≤ W ∧ W ≤ 4096) (hH : 1 ≤ Ht ∧ Ht ≤ 4096) (hk : 0 ≤ k ∧ k ≤ 4194304) :
    Ret Try.prog 107 #[mat W Ht vd, i64 k, .bool eight] w fun v w' => ∃ l, OwnL i64 w' w.heap.size 3 v l ∧ Nrs W Ht eight (k % W) (k / W) (-1) 2 l ∧ l.length ≤ 9 ∧ Ext w w' := by
  refine enter Try.func107 rfl (by kernel_rfl) Try.ntmps107 rfl ?_
  refine C.seq <| C.region <| ?_
  refine E.boxB (cs := [i64 W, i64 Ht, vd]) rfl rfl rfl ?_
  intro w1 b1 x1 z1
  obtain ⟨bm, hbm⟩ : ∃ bm, bm = w.heap.size := ⟨_, rfl⟩
  rw [← hbm] at b1 ⊢

  refine E.asg rfl rfl <| E.nil <| X.next <| C.seq <| C.region <| E.asg rfl rfl <| E.nil <| X.next <| C.seq <| C.drawn (by kernel_rfl) (by kernel_rfl) <| ?_
  refine Q.mv rfl rfl ?_
  refine Q.fld (o := 0) (sz := 0) rfl Try.underlying37 rfl rfl (by kernel_rfl) rfl ?_
  refine Q.load rfl Try.underlying3 rfl (b1.cell 0) rfl ?_
  refine Q.rem rfl rfl (by omega) (IntWalk.rem_in _ _ (by omega)) rfl ?_
  refine Q.mv rfl rfl ?_
  refine Q.fld (o := 0) (sz := 0) rfl Try.underlying37 rfl rfl (by kernel_rfl) rfl ?_
  refine Q.load rfl Try.underlying3 rfl (b1.cell 0) rfl ?_
  refine Q.quo rfl rfl (by omega) (IntWalk.i64_quo _ _ (by omega)) rfl ?_
  have hx0 : 0 ≤ k % W := Int.emod_nonneg _ (by omega)
  have hx1 : k % W < W := Int.emod_lt_of_pos _ (by omega)
  have hy0 : 0 ≤ k / W := Int.ediv_nonneg (by omega) (by omega)
  have hy1 : k / W ≤ k := Int.ediv_le_self _ (by omega)
  generalize k % W = x at *
  generalize k / W = y at *
  refine Q.asg rfl rfl ?_
  refine Q.asg rfl rfl ?_
  refine Q.nil <| fun w2 x2 => X.next <| C.seq <| C.seq <| C.region <| E.asg rfl rfl <| E.nil <| X.next <| C.block <| ?_

  refine C.loop (G := Int × Value × List Int) (fun g => [(2, .bool eight), (3, pv bm), (7, g.2.1), (8, i64 x), (9, i64 y), (10, i64 g.1)]) (fun g w' => (-1 ≤ g.1 ∧ g.1 ≤ 2) ∧ OwnL i64 w' w.heap.size 3 g.2.1 g.2.2 ∧ Nrs W Ht eight x y (-1) g.1 g.2.2 ∧ (g.2.2.length : Int) ≤ 3 * (g.1 + 1) ∧ Blk w' bm 37 #[i64 W, i64 Ht, vd] ∧ g.2.1.ownBlock ≠ some bm ∧ Ext w w') (fun g => (2 - g.1).toNat) (-1, .slice none 0 0, []) ?_ ?_ ?_
  · exact Sub.cons rfl <| Sub.cons rfl <| Sub.cons rfl <| Sub.cons rfl <| Sub.cons rfl <| Sub.cons rfl <| Sub.nil _
  · exact ⟨by simp, OwnL.nil _ _ _ _, fun z => ⟨(fun h => by simp at h), (fun ⟨a, b, h1, h2, h3, h4, h5, _⟩ => by simp only at h5; omega)⟩, by simp, b1.ext x2, nofun, x1.trans x2⟩
  · rintro ⟨dy, v, l⟩ wk ⟨hdy, hO, hN, hl, hb, hnb, hxw⟩
    simp only at hdy hO hN hl hnb
    refine C.seq <| C.seq <| C.region <| E.mv rfl rfl <| E.bin rfl rfl rfl rfl <| E.nil <| X.next <| ?_
    refine C.cond' rfl (fun hc => ?_) (fun hc => ?_)
    ·
      refine C.skip <| X.next <| C.seq <| C.block <| C.seq <| C.region <| E.asg rfl rfl <| E.nil <| X.next <| C.block <| ?_

      refine C.loop (G := Int × Value × List Int) (fun g => [(2, .bool eight), (3, pv bm), (7, g.2.1), (8, i64 x), (9, i64 y), (10, i64 dy), (11, i64 g.1)]) (fun g w' => (-1 ≤ g.1 ∧ g.1 ≤ 2) ∧ OwnL i64 w' w.heap.size 3 g.2.1 g.2.2 ∧ Nrs W Ht eight x y g.1 dy g.2.2 ∧ (g.2.2.length : Int) ≤ 3 * (dy + 1) + g.1 + 1 ∧ Blk w' bm 37 #[i64 W, i64 Ht, vd] ∧ g.2.1.ownBlock ≠ some bm ∧ Ext w w') (fun g => (2 - g.1).toNat) (-1, v, l) ?_ ?_ ?_
      · exact Sub.cons rfl <| Sub.cons rfl <| Sub.cons rfl <| Sub.cons rfl <| Sub.cons rfl <| Sub.cons rfl <| Sub.cons rfl <| Sub.nil _
      · exact ⟨by simp, hO, hN, by simp only; omega, hb, hnb, hxw⟩
      · clear hO hN hl hb hnb hxw
        have hdy' : dy ≤ 1 := hc
        rintro ⟨dx, v, l⟩ wk ⟨hdx, hO, hN, hl, hb, hnb, hxw⟩
        simp only at hdx hO hN hl hnb
        refine C.seq <| C.seq <| C.region <| E.mv rfl rfl <| E.bin rfl rfl rfl rfl <| E.nil <| X.next <| ?_
        refine C.cond' rfl (fun hc => ?_) (fun hc => ?_)
        ·
          have hdx' : dx ≤ 1 := hc
          refine C.skip <| X.next <| ?_

          refine C.cut (G := Int × Value × List Int) (fun g => [(2, .bool eight), (3, pv bm), (7, g.2.1), (8, i64 x), (9, i64 y), (10, i64 dy), (11, i64 dx)]) (fun g w' => OwnL i64 w' w.heap.size 3 g.2.1 g.2.2 ∧ Nrs W Ht eight x y (dx + 1) dy g.2.2 ∧ (g.2.2.length : Int) ≤ 3 * (dy + 1) + dx + 2 ∧ Blk w' bm 37 #[i64 W, i64 Ht, vd] ∧ g.2.1.ownBlock ≠ some bm ∧ Ext w w') ?_ ?_
          ·
            refine C.block <| C.seq <| ?_

            refine C.cut (G := Unit) (fun _ => [(2, .bool eight), (3, pv bm), (7, v), (8, i64 x), (9, i64 y), (10, i64 dy), (11, i64 dx), (45, .bool (decide ((dx = 0 ∧ dy = 0) ∨ (eight = false ∧ dx ≠ 0 ∧ dy ≠ 0))))]) (fun _ w' => wk = w') (C.region ?_) ?_
            ·
              refine E.mv rfl rfl <| E.bin rfl rfl rfl rfl <| E.mv rfl rfl <| ?_
              refine E.split 30 rfl (fun g30 => ?_) (fun g30 => ?_)
              ·
                refine E.on rfl rfl (E.mv rfl rfl ?_)
                refine E.on rfl rfl (E.bin rfl rfl rfl rfl ?_)
                refine E.pick rfl rfl rfl <| E.mv rfl rfl <| ?_
                refine E.split 34 rfl (fun g34 => ?_) (fun g34 => ?_)
                ·
                  refine E.off rfl rfl rfl rfl <| E.off rfl rfl rfl rfl <| E.off rfl rfl rfl rfl <| E.offu rfl rfl rfl <| E.offu rfl rfl rfl <| E.off rfl rfl rfl rfl <| E.off rfl rfl rfl rfl <| E.offu rfl rfl rfl <| E.offu rfl rfl rfl <| E.off rfl rfl rfl rfl <| E.pick rfl rfl rfl <| E.nil <| X.join () (Sub.cons rfl <| Sub.cons rfl <| Sub.cons rfl <| Sub.cons rfl <| Sub.cons rfl <| Sub.cons rfl <| Sub.cons rfl <| Sub.cons (by exact leaf_t (by ((try simp only [decide_eq_true_eq, decide_eq_false_iff_not, Bool.not_eq_true', Bool.not_eq_false'] at *); first | omega | (simp_all <;> fail) | (simp_all; omega)))) <| Sub.nil _) rfl
                ·
                  refine E.on rfl rfl (E.mv rfl rfl ?_)
                  refine E.on rfl rfl (E.not rfl rfl ?_)
                  refine E.on rfl rfl (E.mv rfl rfl ?_)
                  refine E.split 37 rfl (fun g37 => ?_) (fun g37 => ?_)
                  ·
                    refine E.on rfl rfl (E.mv rfl rfl ?_)
                    refine E.on rfl rfl (E.bin rfl rfl rfl rfl ?_)
                    refine E.on rfl rfl (E.pick rfl rfl rfl ?_)
                    refine E.on rfl rfl (E.mv rfl rfl ?_)
                    refine E.split 41 rfl (fun g41 => ?_) (fun g41 => ?_)
                    ·
                      refine E.on rfl rfl (E.mv rfl rfl ?_)
                      refine E.on rfl rfl (E.bin rfl rfl rfl rfl ?_)
                      refine E.on rfl rfl (E.pick rfl rfl rfl ?_)
                      refine E.pick rfl rfl rfl <| E.nil <| X.join () (Sub.cons rfl <| Sub.cons rfl <| Sub.cons rfl <| Sub.cons rfl <| Sub.cons rfl <| Sub.cons rfl <| Sub.cons rfl <| Sub.cons (by exact leaf_d (by ((try simp only [decide_eq_true_eq, decide_eq_false_iff_not, Bool.not_eq_true', Bool.not_eq_false'] at *); first | omega | (simp_all <;> fail) | (simp_all; omega)))) <| Sub.nil _) rfl
                    ·
                      refine E.off rfl rfl rfl rfl <| E.off rfl rfl rfl rfl <| ?_
                      refine E.on rfl rfl (E.pick rfl rfl rfl ?_)
                      refine E.pick rfl rfl rfl <| E.nil <| X.join () (Sub.cons rfl <| Sub.cons rfl <| Sub.cons rfl <| Sub.cons rfl <| Sub.cons rfl <| Sub.cons rfl <| Sub.cons rfl <| Sub.cons (by exact leaf_f (by ((try simp only [decide_eq_true_eq, decide_eq_false_iff_not, Bool.not_eq_true', Bool.not_eq_false'] at *); first | omega | (simp_all <;> fail) | (simp_all; omega)))) <| Sub.nil _) rfl
                  ·
                    refine E.off rfl rfl rfl rfl <| E.off rfl rfl rfl rfl <| ?_
                    refine E.on rfl rfl (E.pick rfl rfl rfl ?_)
                    refine E.on rfl rfl (E.mv rfl rfl ?_)
                    refine E.off rfl rfl rfl rfl <| E.off rfl rfl rfl rfl <| ?_
                    refine E.on rfl rfl (E.pick rfl rfl rfl ?_)
                    refine E.pick rfl rfl rfl <| E.nil <| X.join () (Sub.cons rfl <| Sub.cons rfl <| Sub.cons rfl <| Sub.cons rfl <| Sub.cons rfl <| Sub.cons rfl <| Sub.cons rfl <| Sub.cons (by exact leaf_f (by ((try simp only [decide_eq_true_eq, decide_eq_false_iff_not, Bool.not_eq_true', Bool.not_eq_false'] at *); first | omega | (simp_all <;> fail) | (simp_all; omega)))) <| Sub.nil _) rfl
              ·
                refine E.off rfl rfl rfl rfl <| E.off rfl rfl rfl rfl <| E.pick rfl rfl rfl <| E.mv rfl rfl <| ?_
                refine E.on rfl rfl (E.mv rfl rfl ?_)
                refine E.on rfl rfl (E.not rfl rfl ?_)
                refine E.on rfl rfl (E.mv rfl rfl ?_)
                refine E.split 37 rfl (fun g37 => ?_) (fun g37 => ?_)
                ·
                  refine E.on rfl rfl (E.mv rfl rfl ?_)
                  refine E.on rfl rfl (E.bin rfl rfl rfl rfl ?_)
                  refine E.on rfl rfl (E.pick rfl rfl rfl ?_)
                  refine E.on rfl rfl (E.mv rfl rfl ?_)
                  refine E.split 41 rfl (fun g41 => ?_) (fun g41 => ?_)
                  ·
                    refine E.on rfl rfl (E.mv rfl rfl ?_)
                    refine E.on rfl rfl (E.bin rfl rfl rfl rfl ?_)
                    refine E.on rfl rfl (E.pick rfl rfl rfl ?_)
                    refine E.pick rfl rfl rfl <| E.nil <| X.join () (Sub.cons rfl <| Sub.cons rfl <| Sub.cons rfl <| Sub.cons rfl <| Sub.cons rfl <| Sub.cons rfl <| Sub.cons rfl <| Sub.cons (by exact leaf_d (by ((try simp only [decide_eq_true_eq, decide_eq_false_iff_not, Bool.not_eq_true', Bool.not_eq_false'] at *); first | omega | (simp_all <;> fail) | (simp_all; omega)))) <| Sub.nil _) rfl
                  ·
                    refine E.off rfl rfl rfl rfl <| E.off rfl rfl rfl rfl <| ?_
                    refine E.on rfl rfl (E.pick rfl rfl rfl ?_)
                    refine E.pick rfl rfl rfl <| E.nil <| X.join () (Sub.cons rfl <| Sub.cons rfl <| Sub.cons rfl <| Sub.cons rfl <| Sub.cons rfl <| Sub.cons rfl <| Sub.cons rfl <| Sub.cons (by exact leaf_f (by ((try simp only [decide_eq_true_eq, decide_eq_false_iff_not, Bool.not_eq_true', Bool.not_eq_false'] at *); first | omega | (simp_all <;> fail) | (simp_all; omega)))) <| Sub.nil _) rfl
                ·
                  refine E.off rfl rfl rfl rfl <| E.off rfl rfl rfl rfl <| ?_
                  refine E.on rfl rfl (E.pick rfl rfl rfl ?_)
                  refine E.on rfl rfl (E.mv rfl rfl ?_)
                  refine E.off rfl rfl rfl rfl <| E.off rfl rfl rfl rfl <| ?_
                  refine E.on rfl rfl (E.pick rfl rfl rfl ?_)
                  refine E.pick rfl rfl rfl <| E.nil <| X.join () (Sub.cons rfl <| Sub.cons rfl <| Sub.cons rfl <| Sub.cons rfl <| Sub.cons rfl <| Sub.cons rfl <| Sub.cons rfl <| Sub.cons (by exact leaf_f (by ((try simp only [decide_eq_true_eq, decide_eq_false_iff_not, Bool.not_eq_true', Bool.not_eq_false'] at *); first | omega | (simp_all <;> fail) | (simp_all; omega)))) <| Sub.nil _) rfl
            ·
              rintro _ _ rfl
              refine C.cond' rfl (fun hc => ?_) (fun hc => ?_)
              ·
                refine C.exit <| X.exitT <| X.outE <| X.join (dx, v, l) (Sub.cons rfl <| Sub.cons rfl <| Sub.cons rfl <| Sub.cons rfl <| Sub.cons rfl <| Sub.cons rfl <| Sub.cons rfl <| Sub.nil _) ⟨hO, fun z => ?_, by simp only; omega, hb, hnb, hxw⟩
                rw [hN z]
                constructor
                · rintro ⟨a, b, h1, h2, h3, h4, h5, h6⟩; exact ⟨a, b, h1, h2, h3, h4, by omega, h6⟩
                · rintro ⟨a, b, h1, h2, h3, h4, h5, h6, h7⟩
                  refine ⟨a, b, h1, h2, h3, h4, ?_, h6, h7⟩
                  by_cases e : a = dx ∧ b = dy
                  · obtain ⟨rfl, rfl⟩ := e; exact (h6.1 hc).elim
                  · omega
              ·
                have hno : ¬ ((dx = 0 ∧ dy = 0) ∨ (eight = false ∧ dx ≠ 0 ∧ dy ≠ 0)) := hc
                refine C.skip <| X.next <| ?_

                refine C.cut (G := Unit) (fun _ => [(2, .bool eight), (3, pv bm), (7, v), (8, i64 x), (9, i64 y), (10, i64 dy), (11, i64 dx), (71, .bool (decide (0 ≤ x + dx ∧ x + dx < W ∧ 0 ≤ y + dy ∧ y + dy < Ht)))]) (fun _ w' => wk = w') (C.region ?_) ?_
                ·
                  refine E.mv rfl rfl <| E.mv rfl rfl <| ?_
                  refine E.add rfl rfl (by omega) rfl ?_
                  refine E.bin rfl rfl rfl rfl <| E.mv rfl rfl <| ?_
                  refine E.split 50 rfl (fun g50 => ?_) (fun g50 => ?_)
                  ·
                    refine E.on rfl rfl (E.mv rfl rfl ?_)
                    refine E.on rfl rfl (E.mv rfl rfl ?_)
                    refine E.on rfl rfl (E.add rfl rfl (by omega) rfl ?_)
                    refine E.on rfl rfl (E.fld (o := 0) (sz := 0) rfl Try.underlying37 rfl rfl (by kernel_rfl) rfl ?_)
                    refine E.on rfl rfl (E.load rfl Try.underlying3 rfl (hb.cell 0) rfl ?_)
                    refine E.on rfl rfl (E.bin rfl rfl rfl rfl ?_)
                    refine E.pick rfl rfl rfl <| E.mv rfl rfl <| ?_
                    refine E.split 58 rfl (fun g58 => ?_) (fun g58 => ?_)
                    ·
                      refine E.on rfl rfl (E.mv rfl rfl ?_)
                      refine E.on rfl rfl (E.mv rfl rfl ?_)
                      refine E.on rfl rfl (E.add rfl rfl (by omega) rfl ?_)
                      refine E.on rfl rfl (E.bin rfl rfl rfl rfl ?_)
                      refine E.pick rfl rfl rfl <| E.mv rfl rfl <| ?_
                      refine E.split 64 rfl (fun g64 => ?_) (fun g64 => ?_)
                      ·
                        refine E.on rfl rfl (E.mv rfl rfl ?_)
                        refine E.on rfl rfl (E.mv rfl rfl ?_)
                        refine E.on rfl rfl (E.add rfl rfl (by omega) rfl ?_)
                        refine E.on rfl rfl (E.fld (o := 1) (sz := 0) rfl Try.underlying37 rfl rfl (by kernel_rfl) rfl ?_)
                        refine E.on rfl rfl (E.load rfl Try.underlying3 rfl (hb.cell 1) rfl ?_)
                        refine E.on rfl rfl (E.bin rfl rfl rfl rfl ?_)
                        refine E.pick rfl rfl rfl <| E.nil <| X.join () (Sub.cons rfl <| Sub.cons rfl <| Sub.cons rfl <| Sub.cons rfl <| Sub.cons rfl <| Sub.cons rfl <| Sub.cons rfl <| Sub.cons (by exact leaf_d (by ((try simp only [decide_eq_true_eq, decide_eq_false_iff_not, Bool.not_eq_true', Bool.not_eq_false'] at *); first | omega | (simp_all <;> fail) | (simp_all; omega)))) <| Sub.nil _) rfl
                      ·
                        refine E.off rfl rfl rfl rfl <| E.off rfl rfl rfl rfl <| E.off rfl rfl rfl rfl <| E.off rfl rfl rfl rfl <| E.off rfl rfl rfl rfl <| E.off rfl rfl rfl rfl <| E.pick rfl rfl rfl <| E.nil <| X.join () (Sub.cons rfl <| Sub.cons rfl <| Sub.cons rfl <| Sub.cons rfl <| Sub.cons rfl <| Sub.cons rfl <| Sub.cons rfl <| Sub.cons (by exact leaf_f (by ((try simp only [decide_eq_true_eq, decide_eq_false_iff_not, Bool.not_eq_true', Bool.not_eq_false'] at *); first | omega | (simp_all <;> fail) | (simp_all; omega)))) <| Sub.nil _) rfl
                    ·
                      refine E.off rfl rfl rfl rfl <| E.off rfl rfl rfl rfl <| E.off rfl rfl rfl rfl <| E.off rfl rfl rfl rfl <| E.pick rfl rfl rfl <| E.mv rfl rfl <| E.off rfl rfl rfl rfl <| E.off rfl rfl rfl rfl <| E.off rfl rfl rfl rfl <| E.off rfl rfl rfl rfl <| E.off rfl rfl rfl rfl <| E.off rfl rfl rfl rfl <| E.pick rfl rfl rfl <| E.nil <| X.join () (Sub.cons rfl <| Sub.cons rfl <| Sub.cons rfl <| Sub.cons rfl <| Sub.cons rfl <| Sub.cons rfl <| Sub.cons rfl <| Sub.cons (by exact leaf_f (by ((try simp only [decide_eq_true_eq, decide_eq_false_iff_not, Bool.not_eq_true', Bool.not_eq_false'] at *); first | omega | (simp_all <;> fail) | (simp_all; omega)))) <| Sub.nil _) rfl
                  ·
                    refine E.off rfl rfl rfl rfl <| E.off rfl rfl rfl rfl <| E.off rfl rfl rfl rfl <| E.off rfl rfl rfl rfl <| E.off rfl rfl rfl rfl <| E.off rfl rfl rfl rfl <| E.pick rfl rfl rfl <| E.mv rfl rfl <| E.off rfl rfl rfl rfl <| E.off rfl rfl rfl rfl <| E.off rfl rfl rfl rfl <| E.off rfl rfl rfl rfl <| E.pick rfl rfl rfl <| E.mv rfl rfl <| E.off rfl rfl rfl rfl <| E.off rfl rfl rfl rfl <| E.off rfl rfl rfl rfl <| E.off rfl rfl rfl rfl <| E.off rfl rfl rfl rfl <| E.off rfl rfl rfl rfl <| E.pick rfl rfl rfl <| E.nil <| X.join () (Sub.cons rfl <| Sub.cons rfl <| Sub.cons rfl <| Sub.cons rfl <| Sub.cons rfl <| Sub.cons rfl <| Sub.cons rfl <| Sub.cons (by exact leaf_f (by ((try simp only [decide_eq_true_eq, decide_eq_false_iff_not, Bool.not_eq_true', Bool.not_eq_false'] at *); first | omega | (simp_all <;> fail) | (simp_all; omega)))) <| Sub.nil _) rfl
                ·
                  rintro _ _ rfl
                  refine C.cond' rfl (fun hc => ?_) (fun hc => ?_)
                  ·
                    have hmul : -5000 ≤ (y + dy) * W ∧ (y + dy) * W ≤ 16777216 := ⟨by have := Int.mul_nonneg hc.2.2.1 (show 0 ≤ W by omega); omega, by have := Int.mul_le_mul (show y + dy ≤ 4096 by omega) (show W ≤ 4096 by omega) (by omega) (by omega); omega⟩
                    refine C.region <| E.mv rfl rfl <| E.mv rfl rfl <| E.mv rfl rfl <| ?_
                    refine E.add rfl rfl (by omega) rfl ?_
                    refine E.fld (o := 0) (sz := 0) rfl Try.underlying37 rfl rfl (by kernel_rfl) rfl ?_
                    refine E.load rfl Try.underlying3 rfl (hb.cell 0) rfl ?_
                    refine E.mul rfl rfl (by omega) rfl ?_
                    refine E.mv rfl rfl <| ?_
                    refine E.add rfl rfl (by omega) rfl ?_
                    refine E.mv rfl rfl <| ?_
                    refine E.add rfl rfl (by omega) rfl ?_
                    refine E.pushL (enc := i64) ((y + dy) * W + x + dx) rfl rfl Try.underlying45 elem_Tint hO rfl (by omega) (by omega) hxw.size (by simp) rfl rfl ?_
                    intro v' w3 hO3 g3 l3
                    have x3 : Ext w w3 := hxw.own hO g3 (Nat.le_refl _)
                    have hb3 := Blk.apart hb g3 hnb
                    have hnb3 : v'.ownBlock ≠ some bm := by
                      rcases l3 with l3 | ⟨u, l3, hge⟩
                      · rw [l3]; exact hnb
                      · rw [l3]; intro e; have := Option.some.inj e; have := hb.lt; omega
                    refine E.asg rfl rfl <| E.nil <| X.outN <| X.join (dx, v', l ++ [(y + dy) * W + x + dx]) (Sub.cons rfl <| Sub.cons rfl <| Sub.cons rfl <| Sub.cons rfl <| Sub.cons rfl <| Sub.cons rfl <| Sub.cons rfl <| Sub.nil _) ⟨hO3, fun z => ?_, by simp only [List.length_append, List.length_singleton]; omega, hb3, hnb3, x3⟩
                    rw [List.mem_append, hN z, List.mem_singleton]
                    constructor
                    · rintro (⟨a, b, h1, h2, h3, h4, h5, h6⟩ | rfl)
                      · exact ⟨a, b, h1, h2, h3, h4, by omega, h6⟩
                      · exact ⟨dx, dy, by omega, by omega, by omega, by omega, by omega, ⟨hno, hc⟩, rfl⟩
                    · rintro ⟨a, b, h1, h2, h3, h4, h5, h6, h7⟩
                      by_cases e : a = dx ∧ b = dy
                      · obtain ⟨rfl, rfl⟩ := e; exact .inr h7
                      · exact .inl ⟨a, b, h1, h2, h3, h4, by omega, h6, h7⟩
                  ·
                    refine C.skip <| X.outN <| X.join (dx, v, l) (Sub.cons rfl <| Sub.cons rfl <| Sub.cons rfl <| Sub.cons rfl <| Sub.cons rfl <| Sub.cons rfl <| Sub.cons rfl <| Sub.nil _) ⟨hO, fun z => ?_, by simp only; omega, hb, hnb, hxw⟩
                    rw [hN z]
                    constructor
                    · rintro ⟨a, b, h1, h2, h3, h4, h5, h6⟩; exact ⟨a, b, h1, h2, h3, h4, by omega, h6⟩
                    · rintro ⟨a, b, h1, h2, h3, h4, h5, h6, h7⟩
                      refine ⟨a, b, h1, h2, h3, h4, ?_, h6, h7⟩
                      by_cases e : a = dx ∧ b = dy
                      · obtain ⟨rfl, rfl⟩ := e; exact (hc h6.2).elim
                      · omega
          ·
            rintro ⟨dx', v', l'⟩ w3 ⟨hO3, hN3, hl3, hb3, hnb3, x3⟩
            simp only at hO3 hN3 hl3 hnb3
            refine C.region <| E.mv rfl rfl <| ?_
            refine E.add rfl rfl (by omega) rfl ?_
            refine E.asg rfl rfl <| E.nil <| X.again (dx + 1, v', l') (Sub.cons rfl <| Sub.cons rfl <| Sub.cons rfl <| Sub.cons rfl <| Sub.cons rfl <| Sub.cons rfl <| Sub.cons rfl <| Sub.nil _) ⟨by simp only; omega, hO3, hN3, by simp only; omega, hb3, hnb3, x3⟩ (by simp only; omega)
        ·
          obtain rfl : dx = 2 := by have hc' : ¬ dx ≤ 1 := hc; omega
          refine C.exit <| X.exitT <| X.exitT <| X.outE <| X.outN <| X.next <| C.region <| E.mv rfl rfl <| ?_
          refine E.add rfl rfl (by omega) rfl ?_
          refine E.asg rfl rfl <| E.nil <| X.again (dy + 1, v, l) (Sub.cons rfl <| Sub.cons rfl <| Sub.cons rfl <| Sub.cons rfl <| Sub.cons rfl <| Sub.cons rfl <| Sub.nil _) ⟨by simp only; omega, hO, (fun z => by
            rw [hN z]
            constructor
            · rintro ⟨a, b, h1, h2, h3, h4, h5, h6⟩; exact ⟨a, b, h1, h2, h3, h4, by omega, h6⟩
            · rintro ⟨a, b, h1, h2, h3, h4, h5, h6⟩; exact ⟨a, b, h1, h2, h3, h4, by simp only at h5; omega, h6⟩), by simp only; omega, hb, hnb, hxw⟩ (by simp only; omega)
    ·
      refine C.exit <| X.exitT <| X.exitT <| X.outE <| X.next <| C.seq <| C.region <| E.mv rfl rfl <| E.asg rfl rfl <| E.nil <| X.next <| C.ret <| ret1 rfl rfl ?_
      obtain rfl : dy = 2 := by have hc' : ¬ dy ≤ 1 := hc; omega
      exact ⟨l, by rw [hbm]; exact hO, hN, by omega, hxw⟩
end Go.Proofs.Ytbinlkobmlebpaa
namespace Go.Proofs.Ytbinlkobmlebpaa
open Go.RowKit Sym Uf
theorem divmod_of {W j y x : Nat} (h : j = y * W + x) (hx : x < W) : j / W = y ∧ j % W = x := by
 subst h
 constructor
 · rw [Nat.add_comm, Nat.add_mul_div_right _ _ (by omega), Nat.div_eq_of_lt hx, Nat.zero_add]
 · rw [Nat.add_comm, Nat.add_mul_mod_self_right, Nat.mod_eq_of_lt hx]
def Nb (W H : Nat) (eight : Bool) (i j : Nat) : Prop := ∃ a b : Int, -1 ≤ a ∧ a ≤ 1 ∧ -1 ≤ b ∧ b ≤ 1 ∧ Step W H eight ((i % W : Nat) : Int) ((i / W : Nat) : Int) a b ∧ (j : Int) = (((i / W : Nat) : Int) + b) * W + ((i % W : Nat) : Int) + a
theorem nb_coord {W H : Nat} {eight : Bool} {i j : Nat} (h : Nb W H eight i j) : ∃ a b : Int, -1 ≤ a ∧ a ≤ 1 ∧ -1 ≤ b ∧ b ≤ 1 ∧ ¬ ((a = 0 ∧ b = 0) ∨ (eight = false ∧ a ≠ 0 ∧ b ≠ 0)) ∧ ((j % W : Nat) : Int) = ((i % W : Nat) : Int) + a ∧ ((j / W : Nat) : Int) = ((i / W : Nat) : Int) + b := by
 obtain ⟨a, b, h1, h2, h3, h4, ⟨h5, h6, h7, h8, h9⟩, h10⟩ := h
 obtain ⟨x, hx⟩ : ∃ x : Nat, ((i % W : Nat) : Int) + a = x := ⟨(((i % W : Nat) : Int) + a).toNat, by omega⟩
 obtain ⟨y, hy⟩ : ∃ y : Nat, ((i / W : Nat) : Int) + b = y := ⟨(((i / W : Nat) : Int) + b).toNat, by omega⟩
 have hj : j = y * W + x := by
  rw [hy, Int.add_assoc, hx] at h10
  have : (j : Int) = ((y * W + x : Nat) : Int) := by rw [h10]; simp
  exact Int.ofNat.inj this
 obtain ⟨e1, e2⟩ := divmod_of hj (by omega)
 exact ⟨a, b, h1, h2, h3, h4, h5, by rw [e2]; exact hx.symm, by rw [e1]; exact hy.symm⟩
theorem nb_back {W H : Nat} {eight : Bool} {i j : Nat} (hW : 0 < W) (h : Nb W H eight i j) : Back W eight i j ∨ Back W eight j i := by
  obtain ⟨a, b, h1, h2, h3, h4, h5, h6, h7⟩ := nb_coord h
  have di := Nat.div_add_mod i W
  have dj := Nat.div_add_mod j W
  have li := Nat.mod_lt i hW
  have lj := Nat.mod_lt j hW
  have hm : ∀ y : Nat, W * (y + 1) = W * y + W := fun y => Nat.mul_succ W y
  unfold Back
  clear h
  generalize i / W = yi at *
  generalize j / W = yj at *
  generalize i % W = xi at *
  generalize j % W = xj at *
  have hb : b = -1 ∨ b = 0 ∨ b = 1 := by omega
  have ha : a = -1 ∨ a = 0 ∨ a = 1 := by omega
  rcases hb with rfl | rfl | rfl
  · have e : yi = yj + 1 := by omega
    rw [e, hm] at di
    left
    rcases ha with rfl | rfl | rfl
    · refine .inr (.inl ⟨?_, by omega, by omega, by omega⟩)
      cases eight with
      | true => rfl
      | false => exact (h5 (.inr ⟨rfl, by omega, by omega⟩)).elim
    · exact .inl (.inr ⟨by omega, by omega⟩)
    · refine .inr (.inr ⟨?_, by omega, by omega, by omega⟩)
      cases eight with
      | true => rfl
      | false => exact (h5 (.inr ⟨rfl, by omega, by omega⟩)).elim
  · have e : yi = yj := by omega
    rw [e] at di
    rcases ha with rfl | rfl | rfl
    · exact .inl (.inl (.inl ⟨by omega, by omega⟩))
    · exact (h5 (.inl ⟨rfl, rfl⟩)).elim
    · exact .inr (.inl (.inl ⟨by omega, by omega⟩))
  · have e : yj = yi + 1 := by omega
    rw [e, hm] at dj
    right
    rcases ha with rfl | rfl | rfl
    · refine .inr (.inr ⟨?_, by omega, by omega, by omega⟩)
      cases eight with
      | true => rfl
      | false => exact (h5 (.inr ⟨rfl, by omega, by omega⟩)).elim
    · exact .inl (.inr ⟨by omega, by omega⟩)
    · refine .inr (.inl ⟨?_, by omega, by omega, by omega⟩)
      cases eight with
      | true => rfl
      | false => exact (h5 (.inr ⟨rfl, by omega, by omega⟩)).elim
theorem nb_mk {W H : Nat} {eight : Bool} {i j : Nat} (hj : j < W * H) {a b : Int} (h1 : -1 ≤ a ∧ a ≤ 1 ∧ -1 ≤ b ∧ b ≤ 1) (h5 : ¬ ((a = 0 ∧ b = 0) ∨ (eight = false ∧ a ≠ 0 ∧ b ≠ 0))) (hx : ((j % W : Nat) : Int) = ((i % W : Nat) : Int) + a) (hy : ((j / W : Nat) : Int) = ((i / W : Nat) : Int) + b) : Nb W H eight i j := by
  have hW : 0 < W := by rcases Nat.eq_zero_or_pos W with h | h; · simp [h] at hj
                        · exact h
  have lj := Nat.mod_lt j hW
  have hH : j / W < H := Nat.div_lt_of_lt_mul hj
  refine ⟨a, b, h1.1, h1.2.1, h1.2.2.1, h1.2.2.2, ⟨h5, by rw [← hx]; exact Int.natCast_nonneg _, by rw [← hx]; exact Int.ofNat_lt.2 lj, by rw [← hy]; exact Int.natCast_nonneg _, by rw [← hy]; exact Int.ofNat_lt.2 hH⟩, ?_⟩
  rw [← hy, Int.add_assoc, ← hx]
  have := Nat.div_add_mod j W
  rw [Nat.mul_comm] at this
  have h2 : ((j / W * W + j % W : Nat) : Int) = (j : Int) := by rw [this]
  rw [← h2]; simp
theorem back_nb {W H : Nat} {eight : Bool} {i j : Nat} (hW : 0 < W) (hi : i < W * H) (hj : j < W * H) (h : Back W eight i j) : Nb W H eight i j ∧ Nb W H eight j i := by
  have di := Nat.div_add_mod i W
  have dj := Nat.div_add_mod j W
  have li := Nat.mod_lt i hW
  have lj := Nat.mod_lt j hW
  have key : ∀ x y : Nat, j = y * W + x → x < W → j / W = y ∧ j % W = x := fun x y h hx => divmod_of h hx
  have hc : i / W * W + i % W = i := Nat.div_add_mod' i W
  have hs : ∀ y : Nat, 0 < y → (y - 1) * W + W = y * W := fun y hy => by
    rw [← Nat.succ_mul]; congr 1; omega
  rcases h with (⟨h1, h2⟩ | ⟨h1, h2⟩) | ⟨he, h1, h2, h3⟩ | ⟨he, h1, h2, h3⟩
  · obtain ⟨e1, e2⟩ := key (i % W - 1) (i / W) (by omega) (by omega)
    exact ⟨nb_mk hj (a := -1) (b := 0) (by omega) (by simp) (by rw [e2]; omega) (by rw [e1]; omega), nb_mk hi (a := 1) (b := 0) (by omega) (by simp) (by rw [e2]; omega) (by rw [e1]; omega)⟩
  · have := hs (i / W) h1
    obtain ⟨e1, e2⟩ := key (i % W) (i / W - 1) (by omega) (by omega)
    exact ⟨nb_mk hj (a := 0) (b := -1) (by omega) (by simp) (by rw [e2]; omega) (by rw [e1]; omega), nb_mk hi (a := 0) (b := 1) (by omega) (by simp) (by rw [e2]; omega) (by rw [e1]; omega)⟩
  · have := hs (i / W) h1
    obtain ⟨e1, e2⟩ := key (i % W - 1) (i / W - 1) (by omega) (by omega)
    exact ⟨nb_mk hj (a := -1) (b := -1) (by omega) (by simp [he]) (by rw [e2]; omega) (by rw [e1]; omega), nb_mk hi (a := 1) (b := 1) (by omega) (by simp [he]) (by rw [e2]; omega) (by rw [e1]; omega)⟩
  · have := hs (i / W) h1
    obtain ⟨e1, e2⟩ := key (i % W + 1) (i / W - 1) (by omega) (by omega)
    exact ⟨nb_mk hj (a := 1) (b := -1) (by omega) (by simp [he]) (by rw [e2]; omega) (by rw [e1]; omega), nb_mk hi (a := -1) (b := 1) (by omega) (by simp [he]) (by rw [e2]; omega) (by rw [e1]; omega)⟩
end Go.Proofs.Ytbinlkobmlebpaa
namespace Go.Proofs.Ytbinlkobmlebpaa
open Go.RowKit Sym
structure Bl where
 x : Int
 y : Int
 w : Int
 h : Int
 area : Int
 fx : Int
 fy : Int
def Bl.cells (b : Bl) : List Value := [i64 b.x, i64 b.y, i64 b.w, i64 b.h, i64 b.area, i64 b.fx, i64 b.fy]
def Bl.add (b : Bl) (px py : Int) : Bl := ⟨min b.x px, b.y, max (b.x + b.w) (px + 1) - min b.x px, max b.h (py - b.y + 1), b.area + 1, b.fx, b.fy⟩
def Bl.small (b : Bl) : Prop := 0 ≤ b.x ∧ b.x ≤ 5000000 ∧ 0 ≤ b.y ∧ b.y ≤ 5000000 ∧ 0 ≤ b.w ∧ b.w ≤ 5000000 ∧ 0 ≤ b.h ∧ b.h ≤ 5000000 ∧ 0 ≤ b.area ∧ b.area ≤ 5000000
set_option maxRecDepth 10000 in
set_option maxHeartbeats 1000000 in
theorem grow_ret (B : Nat) (v : Value) (l : List Bl) (q : Nat) (px py : Int) (w : World) (hO : OwnF Bl.cells 7 w B 73 v l) (hq : q < l.length) (hsm : l[q].small) (hx : 0 ≤ px ∧ px ≤ 5000000) (hy : 0 ≤ py ∧ py ≤ 5000000) :
  Ret Try.prog 65 #[.pointer (some (el v (q * 7))), .agg #[i64 px, i64 py]] w fun _ w' => OwnF Bl.cells 7 w' B 73 v (l.set q (l[q].add px py)) ∧ w.grownBy w' v.ownBlock := by
 obtain ⟨b, hb⟩ : ∃ b, b = l[q] := ⟨_, rfl⟩
 rw [← hb] at hsm ⊢
 obtain ⟨s1, s2, s3, s4, s5, s6, s7, s8, s9, s10⟩ := hsm
 have cb : Bl.cells l[q] = b.cells := by rw [hb]
 refine enter Try.func65 rfl (by kernel_rfl) Try.ntmps65 rfl ?_
 refine C.seq <| C.region <| ?_
 refine E.boxB (cs := [i64 px, i64 py]) rfl rfl rfl ?_
 intro w1 b1 x1 _
 have O1 := hO.kept x1
 have nv : v.ownBlock ≠ some w.heap.size := fun e => by have := (World.ownsRow.lt hO.2 _ e).2; omega

 refine E.nil <| X.next <| C.seq <| C.drawn (by kernel_rfl) (by kernel_rfl) <| ?_
 refine Q.mv rfl rfl ?_
 refine Q.nilc rfl rfl ?_
 refine Q.fld (o := 0) (sz := 3) rfl Try.underlying73 rfl rfl (by kernel_rfl) rfl ?_
 refine Q.fld (o := 0) (sz := 0) rfl Try.underlying59 rfl rfl (by kernel_rfl) rfl ?_
 refine Q.load rfl Try.underlying3 rfl (O1.cellF hq 0 (by rw [cb]; rfl) rfl) rfl ?_
 refine Q.mv rfl rfl ?_
 refine Q.nilc rfl rfl ?_
 refine Q.fld (o := 0) (sz := 3) rfl Try.underlying73 rfl rfl (by kernel_rfl) rfl ?_
 refine Q.fld (o := 2) (sz := 0) rfl Try.underlying59 rfl rfl (by kernel_rfl) rfl ?_
 refine Q.load rfl Try.underlying3 rfl (O1.cellF hq 2 (by rw [cb]; rfl) rfl) rfl ?_
 refine Q.add rfl rfl (by omega) rfl ?_
 refine Q.fld (o := 0) (sz := 0) rfl Try.underlying64 rfl rfl (by kernel_rfl) rfl ?_
 refine Q.load rfl Try.underlying3 rfl (b1.cell 0) rfl ?_
 refine Q.add rfl rfl (by omega) rfl ?_
 refine Q.max2 rfl rfl rfl ?_
 refine Q.asg rfl rfl ?_

 refine Q.nil <| fun w2 x2 => X.next <| C.seq <| C.drawnT 12 (by kernel_rfl) (by kernel_rfl) fun w3 x3 => ?_
 have O3 := O1.kept (x2.trans x3)
 have b3 := b1.ext (x2.trans x3)
 refine S.mv rfl rfl ?_
 refine S.mv rfl rfl ?_
 refine S.nilc rfl rfl ?_
 refine S.fld (o := 0) (sz := 3) rfl Try.underlying73 rfl rfl (by kernel_rfl) rfl ?_
 refine S.fld (o := 0) (sz := 0) rfl Try.underlying59 rfl rfl (by kernel_rfl) rfl ?_
 refine S.load rfl Try.underlying3 rfl (O3.cellF hq 0 (by rw [cb]; rfl) rfl) rfl ?_
 refine S.fld (o := 0) (sz := 0) rfl Try.underlying64 rfl rfl (by kernel_rfl) rfl ?_
 refine S.load rfl Try.underlying3 rfl (b3.cell 0) rfl ?_
 refine S.min2 rfl rfl rfl ?_
 refine S.nilc rfl rfl ?_
 refine S.fld (o := 0) (sz := 3) rfl Try.underlying73 rfl rfl (by kernel_rfl) rfl ?_
 refine S.fld (o := 0) (sz := 0) rfl Try.underlying59 rfl rfl (by kernel_rfl) rfl ?_
 refine S.nil ?_
 refine E.storeF 0 ⟨min b.x px, b.y, b.w, b.h, b.area, b.fx, b.fy⟩ rfl rfl (by kernel_rfl) rfl O3 hq rfl (by rw [cb]; rfl) (by rw [cb]; rfl) ?_
 intro w4 O4 g4 _
 have q4 : q < (l.set q ⟨min b.x px, b.y, b.w, b.h, b.area, b.fx, b.fy⟩).length := by rw [List.length_set]; exact hq
 have c4 : Bl.cells (l.set q ⟨min b.x px, b.y, b.w, b.h, b.area, b.fx, b.fy⟩)[q] = Bl.cells ⟨min b.x px, b.y, b.w, b.h, b.area, b.fx, b.fy⟩ := by rw [List.getElem_set_self]
 have b4 := Blk.apart b3 g4 nv
 refine E.nil <| X.next <| C.seq <| C.region <| E.mv rfl rfl <| E.mv rfl rfl <| E.mv rfl rfl <| E.nilc rfl rfl <| ?_
 refine E.fld (o := 0) (sz := 3) rfl Try.underlying73 rfl rfl (by kernel_rfl) rfl ?_
 refine E.fld (o := 0) (sz := 0) rfl Try.underlying59 rfl rfl (by kernel_rfl) rfl ?_
 refine E.load rfl Try.underlying3 rfl (O4.cellF q4 0 (by rw [c4]; rfl) rfl) rfl ?_
 refine E.sub' rfl rfl (by simp only; omega) rfl ?_
 refine E.nilc rfl rfl <| ?_
 refine E.fld (o := 0) (sz := 3) rfl Try.underlying73 rfl rfl (by kernel_rfl) rfl ?_
 refine E.fld (o := 2) (sz := 0) rfl Try.underlying59 rfl rfl (by kernel_rfl) rfl ?_
 refine E.storeF 2 ⟨min b.x px, b.y, max (b.x + b.w) (px + 1) - min b.x px, b.h, b.area, b.fx, b.fy⟩ rfl rfl (by kernel_rfl) rfl O4 q4 rfl (by rw [c4]; rfl) (by rw [c4]; rfl) ?_
 intro w5 O5 g5 _
 rw [List.set_set] at O5
 have q5 : q < (l.set q ⟨min b.x px, b.y, max (b.x + b.w) (px + 1) - min b.x px, b.h, b.area, b.fx, b.fy⟩).length := by rw [List.length_set]; exact hq
 have c5 : Bl.cells (l.set q ⟨min b.x px, b.y, max (b.x + b.w) (px + 1) - min b.x px, b.h, b.area, b.fx, b.fy⟩)[q] = Bl.cells ⟨min b.x px, b.y, max (b.x + b.w) (px + 1) - min b.x px, b.h, b.area, b.fx, b.fy⟩ := by rw [List.getElem_set_self]
 have b5 := Blk.apart b4 g5 nv

 refine E.nil <| X.next <| C.seq <| C.drawnT 19 (by kernel_rfl) (by kernel_rfl) fun w6 x6 => ?_
 have O6 := O5.kept x6
 have b6 := b5.ext x6
 refine S.mv rfl rfl ?_
 refine S.mv rfl rfl ?_
 refine S.nilc rfl rfl ?_
 refine S.fld (o := 0) (sz := 3) rfl Try.underlying73 rfl rfl (by kernel_rfl) rfl ?_
 refine S.fld (o := 3) (sz := 0) rfl Try.underlying59 rfl rfl (by kernel_rfl) rfl ?_
 refine S.load rfl Try.underlying3 rfl (O6.cellF q5 3 (by rw [c5]; rfl) rfl) rfl ?_
 refine S.fld (o := 1) (sz := 0) rfl Try.underlying64 rfl rfl (by kernel_rfl) rfl ?_
 refine S.load rfl Try.underlying3 rfl (b6.cell 1) rfl ?_
 refine S.mv rfl rfl ?_
 refine S.nilc rfl rfl ?_
 refine S.fld (o := 0) (sz := 3) rfl Try.underlying73 rfl rfl (by kernel_rfl) rfl ?_
 refine S.fld (o := 1) (sz := 0) rfl Try.underlying59 rfl rfl (by kernel_rfl) rfl ?_
 refine S.load rfl Try.underlying3 rfl (O6.cellF q5 1 (by rw [c5]; rfl) rfl) rfl ?_
 refine S.sub' rfl rfl (by simp only; omega) rfl ?_
 refine S.add rfl rfl (by simp only; omega) rfl ?_
 refine S.max2 rfl rfl rfl ?_
 refine S.nilc rfl rfl ?_
 refine S.fld (o := 0) (sz := 3) rfl Try.underlying73 rfl rfl (by kernel_rfl) rfl ?_
 refine S.fld (o := 3) (sz := 0) rfl Try.underlying59 rfl rfl (by kernel_rfl) rfl ?_
 refine S.nil ?_
 refine E.storeF 3 ⟨min b.x px, b.y, max (b.x + b.w) (px + 1) - min b.x px, max b.h (py - b.y + 1), b.area, b.fx, b.fy⟩ rfl rfl (by kernel_rfl) rfl O6 q5 rfl (by rw [c5]; rfl) (by rw [c5]; rfl) ?_
 intro w7 O7 g7 _
 rw [List.set_set] at O7
 have q7 : q < (l.set q ⟨min b.x px, b.y, max (b.x + b.w) (px + 1) - min b.x px, max b.h (py - b.y + 1), b.area, b.fx, b.fy⟩).length := by rw [List.length_set]; exact hq
 have c7 : Bl.cells (l.set q ⟨min b.x px, b.y, max (b.x + b.w) (px + 1) - min b.x px, max b.h (py - b.y + 1), b.area, b.fx, b.fy⟩)[q] = Bl.cells ⟨min b.x px, b.y, max (b.x + b.w) (px + 1) - min b.x px, max b.h (py - b.y + 1), b.area, b.fx, b.fy⟩ := by rw [List.getElem_set_self]
 refine E.nil <| X.next <| C.region <| E.mv rfl rfl <| E.nilc rfl rfl <| ?_
 refine E.fld (o := 4) (sz := 0) rfl Try.underlying73 rfl rfl (by kernel_rfl) rfl ?_
 refine E.load rfl Try.underlying3 rfl (O7.cellF q7 4 (by rw [c7]; rfl) rfl) rfl ?_
 refine E.add rfl rfl (by simp only; omega) rfl ?_
 refine E.nilc rfl rfl <| ?_
 refine E.fld (o := 4) (sz := 0) rfl Try.underlying73 rfl rfl (by kernel_rfl) rfl ?_
 refine E.storeF 4 (b.add px py) rfl rfl (by kernel_rfl) rfl O7 q7 rfl (by rw [c7]; rfl) (by rw [c7]; rfl) ?_
 intro w8 O8 g8 _
 rw [List.set_set] at O8
 have q8 : q < (l.set q (b.add px py)).length := by rw [List.length_set]; exact hq
 have c8 : Bl.cells (l.set q (b.add px py))[q] = Bl.cells (b.add px py) := by rw [List.getElem_set_self]
 refine E.nil <| end0 rfl ?_
 exact ⟨O8, grown_trans (grown_trans (grown_trans (grown_trans (grown_trans ((x1.trans (x2.trans x3)).toGrown _) g4) g5) (x6.toGrown _)) g7) g8⟩
end Go.Proofs.Ytbinlkobmlebpaa
namespace Go.Proofs.Ytbinlkobmlebpaa
open Classical
section
variable (D : Nat → Prop) (R : Nat → Nat → Prop)
def Fst (i : Nat) : Prop := D i ∧ ∀ j, j < i → D j → ¬ R j i
noncomputable def nf : Nat → Nat
 | 0 => 0
 | k + 1 => nf k + if Fst D R k then 1 else 0
noncomputable def cnt (f : Nat) : Nat → Nat
 | 0 => 0
 | k + 1 => cnt f k + if D k ∧ R f k then 1 else 0
end
section
variable {D : Nat → Prop} {R : Nat → Nat → Prop}
theorem nf_succ_pos {k : Nat} (h : Fst D R k) : nf D R (k + 1) = nf D R k + 1 := by rw [nf, if_pos h]
theorem nf_succ_neg {k : Nat} (h : ¬ Fst D R k) : nf D R (k + 1) = nf D R k := by rw [nf, if_neg h, Nat.add_zero]
theorem nf_mono {k m : Nat} (h : k ≤ m) : nf D R k ≤ nf D R m := by
  induction m with
  | zero => obtain rfl : k = 0 := by omega
            exact Nat.le_refl _
  | succ m ih =>
    by_cases e : k = m + 1
    · subst e; exact Nat.le_refl _
    · have := ih (by omega); rw [nf]; omega
theorem nf_lt {f k : Nat} (h : Fst D R f) (hk : f < k) : nf D R f < nf D R k := by
 have := nf_mono (D := D) (R := R) (show f + 1 ≤ k from hk)
 rw [nf_succ_pos h] at this; omega
theorem nf_le (k : Nat) : nf D R k ≤ k := by
 induction k with
 | zero => exact Nat.le_refl _
 | succ k ih => rw [nf]; split <;> omega
theorem nf_inj {f g : Nat} (hf : Fst D R f) (hg : Fst D R g) (h : nf D R f = nf D R g) : f = g := by
 rcases Nat.lt_trichotomy f g with h1 | h1 | h1
 · have := nf_lt hf h1; omega
 · exact h1
 · have := nf_lt hg h1; omega
theorem nf_surj {q k : Nat} (h : q < nf D R k) : ∃ f, f < k ∧ Fst D R f ∧ nf D R f = q := by
  induction k with
  | zero => simp [nf] at h
  | succ k ih =>
    by_cases hk : Fst D R k
    · rw [nf_succ_pos hk] at h
      by_cases e : q = nf D R k
      · exact ⟨k, by omega, hk, e.symm⟩
      · obtain ⟨f, h1, h2, h3⟩ := ih (by omega); exact ⟨f, by omega, h2, h3⟩
    · rw [nf_succ_neg hk] at h
      obtain ⟨f, h1, h2, h3⟩ := ih h; exact ⟨f, by omega, h2, h3⟩
theorem first_of (hr : ∀ i, R i i) (ht : ∀ i j k, R i j → R j k → R i k) : ∀ (i : Nat), D i → ∃ f, f ≤ i ∧ Fst D R f ∧ R f i := by
  intro i
  induction i using Nat.strongRecOn with
  | _ i ih =>
    intro hi
    by_cases h : Fst D R i
    · exact ⟨i, Nat.le_refl _, h, hr i⟩
    · have : ∃ j, j < i ∧ D j ∧ R j i := by
        refine byContradiction fun hn => h ⟨hi, fun j hj hD hR => hn ⟨j, hj, hD, hR⟩⟩
      obtain ⟨j, hj, hD, hR⟩ := this
      obtain ⟨f, h1, h2, h3⟩ := ih j hj hD
      exact ⟨f, by omega, h2, ht _ _ _ h3 hR⟩
theorem first_eq (hs : ∀ i j, R i j → R j i) (ht : ∀ i j k, R i j → R j k → R i k) {f g i : Nat} (hf : Fst D R f) (hg : Fst D R g) (h1 : R f i) (h2 : R g i) : f = g := by
 rcases Nat.lt_trichotomy f g with h | h | h
 · exact (hg.2 f h hf.1 (ht _ _ _ h1 (hs _ _ h2))).elim
 · exact h
 · exact (hf.2 g h hg.1 (ht _ _ _ h2 (hs _ _ h1))).elim
structure BSpec (D : Nat → Prop) (R : Nat → Nat → Prop) (W f k : Nat) (b : Bl) : Prop where
 fx : b.fx = ((f % W : Nat) : Int)
 fy : b.fy = ((f / W : Nat) : Int)
 y : b.y = ((f / W : Nat) : Int)
 all : ∀ i : Nat, i < k → D i → R f i → b.x ≤ ((i % W : Nat) : Int) ∧ ((i % W : Nat) : Int) < b.x + b.w ∧ ((i / W : Nat) : Int) < b.y + b.h
 left : ∃ i : Nat, i < k ∧ D i ∧ R f i ∧ ((i % W : Nat) : Int) = b.x
 right : ∃ i : Nat, i < k ∧ D i ∧ R f i ∧ ((i % W : Nat) : Int) + 1 = b.x + b.w
 low : ∃ i : Nat, i < k ∧ D i ∧ R f i ∧ ((i / W : Nat) : Int) + 1 = b.y + b.h
 area : b.area = (cnt D R f k : Int)
theorem BSpec.skip {W f k : Nat} {b : Bl} (h : BSpec D R W f k b) (hk : ¬ (D k ∧ R f k)) : BSpec D R W f (k + 1) b where
 fx := h.fx
 fy := h.fy
 y := h.y
 all i hi h1 h2 := h.all i (by have : i ≠ k := fun e => hk (e ▸ ⟨h1, h2⟩); omega) h1 h2
 left := let ⟨i, h1, h2⟩ := h.left; ⟨i, by omega, h2⟩
 right := let ⟨i, h1, h2⟩ := h.right; ⟨i, by omega, h2⟩
 low := let ⟨i, h1, h2⟩ := h.low; ⟨i, by omega, h2⟩
 area := by rw [cnt, if_neg hk]; exact h.area
theorem BSpec.add {W f k : Nat} {b : Bl} (h : BSpec D R W f k b) (hD : D k) (hR : R f k) (hfk : f / W ≤ k / W) : BSpec D R W f (k + 1) (b.add ((k % W : Nat) : Int) ((k / W : Nat) : Int)) where
 fx := h.fx
 fy := h.fy
 y := h.y
 all i hi h1 h2 := by
  simp only [Bl.add]
  by_cases e : i = k
  · subst e; omega
  · have := h.all i (by omega) h1 h2; omega
 left := by
  simp only [Bl.add]
  by_cases e : b.x ≤ ((k % W : Nat) : Int)
  · obtain ⟨i, h1, h2, h3, h4⟩ := h.left; exact ⟨i, by omega, h2, h3, by omega⟩
  · exact ⟨k, by omega, hD, hR, by omega⟩
 right := by
  simp only [Bl.add]
  by_cases e : ((k % W : Nat) : Int) + 1 ≤ b.x + b.w
  · obtain ⟨i, h1, h2, h3, h4⟩ := h.right; exact ⟨i, by omega, h2, h3, by omega⟩
  · exact ⟨k, by omega, hD, hR, by omega⟩
 low := by
  simp only [Bl.add]
  by_cases e : ((k / W : Nat) : Int) + 1 ≤ b.y + b.h
  · obtain ⟨i, h1, h2, h3, h4⟩ := h.low; exact ⟨i, by omega, h2, h3, by omega⟩
  · exact ⟨k, by omega, hD, hR, by omega⟩
 area := by
  rw [cnt, if_pos ⟨hD, hR⟩, Bl.add, h.area]; simp
theorem cnt_zero (hs : ∀ i j, R i j → R j i) {f : Nat} (h : Fst D R f) : ∀ k, k ≤ f → cnt D R f k = 0
 | 0, _ => rfl
 | k + 1, hk => by rw [cnt, if_neg (fun e => h.2 k (by omega) e.1 (hs _ _ e.2)), cnt_zero hs h k (by omega)]
theorem BSpec.new (hr : ∀ i, R i i) (hs : ∀ i j, R i j → R j i) {W k : Nat} (h : Fst D R k) : BSpec D R W k (k + 1) (Bl.add ⟨((k % W : Nat) : Int), ((k / W : Nat) : Int), 1, 1, 0, ((k % W : Nat) : Int), ((k / W : Nat) : Int)⟩ ((k % W : Nat) : Int) ((k / W : Nat) : Int)) where
 fx := rfl
 fy := rfl
 y := rfl
 all i hi h1 h2 := by
  simp only [Bl.add]
  by_cases e : i = k
  · subst e; omega
  · exact (h.2 i (by omega) h1 (hs _ _ h2)).elim
 left := ⟨k, by omega, h.1, hr k, by simp [Bl.add]⟩
 right := ⟨k, by omega, h.1, hr k, by simp only [Bl.add]; omega⟩
 low := ⟨k, by omega, h.1, hr k, by simp only [Bl.add]; omega⟩
 area := by rw [cnt, if_pos ⟨h.1, hr k⟩, cnt_zero hs h k (Nat.le_refl _)]; simp [Bl.add]
theorem cnt_le (f k : Nat) : cnt D R f k ≤ k := by
 induction k with
 | zero => exact Nat.le_refl _
 | succ k ih => rw [cnt]; split <;> omega
theorem Fst.le (hs : ∀ i j, R i j → R j i) {f i : Nat} (h : Fst D R f) (hD : D i) (hR : R f i) : f ≤ i := Nat.le_of_not_lt fun hlt => h.2 i hlt hD (hs _ _ hR)
theorem BSpec.small (hs : ∀ i j, R i j → R j i) {W f k : Nat} {b : Bl} (h : BSpec D R W f k b) (hf : Fst D R f) (hfk : f < k) (hk : k ≤ 4194304) : b.small := by
 obtain ⟨i1, a1, a2, a3, a4⟩ := h.left
 obtain ⟨i3, c1, c2, c3, c4⟩ := h.right
 obtain ⟨i5, e1, e2, e3, e4⟩ := h.low
 have p1 := h.all i1 a1 a2 a3
 have y1 := h.y
 have ar := h.area
 have hc := cnt_le (D := D) (R := R) f k
 have m1 := Nat.mod_le i1 W
 have m3 := Nat.mod_le i3 W
 have d5 := Nat.div_le_self i5 W
 have d0 := Nat.div_le_self f W
 have l5 := Nat.div_le_div_right (c := W) (hf.le hs e2 e3)
 unfold Bl.small
 generalize f / W = y0 at *
 generalize i1 % W = z1 at *
 generalize i1 / W = z2 at *
 generalize i3 % W = z3 at *
 generalize i5 / W = z5 at *
 omega
theorem BSpec.eq {W f k : Nat} {b c : Bl} (h : BSpec D R W f k b) (h' : BSpec D R W f k c) : b = c := by
 obtain ⟨i1, a1, a2, a3, a4⟩ := h.left
 obtain ⟨i2, b1, b2, b3, b4⟩ := h'.left
 obtain ⟨i3, c1, c2, c3, c4⟩ := h.right
 obtain ⟨i4, d1, d2, d3, d4⟩ := h'.right
 obtain ⟨i5, e1, e2, e3, e4⟩ := h.low
 obtain ⟨i6, f1, f2, f3, f4⟩ := h'.low
 have p1 := h'.all i1 a1 a2 a3
 have p2 := h.all i2 b1 b2 b3
 have p3 := h'.all i3 c1 c2 c3
 have p4 := h.all i4 d1 d2 d3
 have p5 := h'.all i5 e1 e2 e3
 have p6 := h.all i6 f1 f2 f3
 have y1 := h.y; have y2 := h'.y
 have hx : b.x = c.x := by omega
 have hw : b.w = c.w := by omega
 have hh : b.h = c.h := by omega
 cases b; cases c
 simp only [Bl.mk.injEq]
 exact ⟨hx, y1.trans y2.symm, hw, hh, h.area.trans h'.area.symm, h.fx.trans h'.fx.symm, h.fy.trans h'.fy.symm⟩
structure Labelled (D : Nat → Prop) (R : Nat → Nat → Prop) (W n : Nat) (lab : List Int) (bl : List Bl) : Prop where
 len : lab.length = n
 off : ∀ i : Nat, i < n → ¬ D i → lab[i]? = some (-1)
 on : ∀ i : Nat, i < n → D i → ∃ f, f ≤ i ∧ Fst D R f ∧ R f i ∧ lab[i]? = some (nf D R f : Int)
 num : bl.length = nf D R n
 blob : ∀ f, f < n → Fst D R f → ∃ b, bl[nf D R f]? = some b ∧ BSpec D R W f n b
theorem Labelled.eq (hs : ∀ i j, R i j → R j i) (ht : ∀ i j k, R i j → R j k → R i k) {W n : Nat} {lab lab' : List Int} {bl bl' : List Bl} (h : Labelled D R W n lab bl) (h' : Labelled D R W n lab' bl') : lab = lab' ∧ bl = bl' := by
  constructor
  · apply List.ext_getElem?
    intro i
    by_cases hi : i < n
    · by_cases hD : D i
      · obtain ⟨f, _, f2, f3, f4⟩ := h.on i hi hD
        obtain ⟨g, _, g2, g3, g4⟩ := h'.on i hi hD
        have := first_eq hs ht f2 g2 f3 g3
        subst this
        rw [f4, g4]
      · rw [h.off i hi hD, h'.off i hi hD]
    · rw [List.getElem?_eq_none (by have := h.len; omega), List.getElem?_eq_none (by have := h'.len; omega)]
  · apply List.ext_getElem?
    intro q
    by_cases hq : q < nf D R n
    · obtain ⟨f, h1, h2, rfl⟩ := nf_surj hq
      obtain ⟨b, b1, b2⟩ := h.blob f h1 h2
      obtain ⟨c, c1, c2⟩ := h'.blob f h1 h2
      rw [b1, c1, b2.eq c2]
    · rw [List.getElem?_eq_none (by have := h.num; omega), List.getElem?_eq_none (by have := h'.num; omega)]
end
end Go.Proofs.Ytbinlkobmlebpaa
namespace Go.Proofs.Ytbinlkobmlebpaa
open Uf
theorem flood_closed {W H : Nat} {eight : Bool} {dk : List Bool} {dark : Bool} (hW : 0 < W) (hn : dk.length = W * H) {S : Nat → Prop} (hS : ∀ i j, S i → dk[j]? = some dark → Nb W H eight i j → S j) {i j : Nat} (h : Cl (Ed W eight dk dark dk.length) i j) : S i ↔ S j := by
 induction h with
 | refl i => exact Iff.rfl
 | edge e =>
  obtain ⟨h1, h2, h3, h4⟩ := e
  have hi := (List.getElem?_eq_some_iff.1 h2).1
  have hj := (List.getElem?_eq_some_iff.1 h3).1
  obtain ⟨n1, n2⟩ := back_nb (H := H) hW (by omega) (by omega) h4
  exact ⟨fun h => hS _ _ h h3 n1, fun h => hS _ _ h h2 n2⟩
 | symm _ ih => exact ih.symm
 | trans _ _ ih1 ih2 => exact ih1.trans ih2
theorem nb_joined {W H : Nat} {eight : Bool} {dk : List Bool} {dark : Bool} (hW : 0 < W) {i j : Nat} (hi : dk[i]? = some dark) (hj : dk[j]? = some dark) (h : Nb W H eight i j) : Cl (Ed W eight dk dark dk.length) i j := by
 have li := (List.getElem?_eq_some_iff.1 hi).1
 have lj := (List.getElem?_eq_some_iff.1 hj).1
 rcases nb_back hW h with h | h
 · exact .edge ⟨li, hi, hj, h⟩
 · exact .symm (.edge ⟨lj, hj, hi, h⟩)
structure Fl (W H : Nat) (eight : Bool) (dk : List Bool) (dark : Bool) (f : Nat) (num : Int) (lab0 lab : List Int) (found : List Nat) (i : Nat) : Prop where
 len : lab.length = lab0.length
 nodup : found.Nodup
 head : found[0]? = some f
 ins : ∀ j ∈ found, dk[j]? = some dark ∧ Cl (Ed W eight dk dark dk.length) f j
 lab : ∀ j : Nat, lab[j]? = if j ∈ found then (lab0[j]?).map (fun _ => num) else lab0[j]?
 done : ∀ t j : Nat, t < i → ∀ p, found[t]? = some p → dk[j]? = some dark → Nb W H eight p j → j ∈ found
section
variable {W H : Nat} {eight : Bool} {dk : List Bool} {dark : Bool} {f : Nat} {num : Int} {lab0 lab : List Int} {found : List Nat} {i : Nat}
theorem Fl.all (h : Fl W H eight dk dark f num lab0 lab found found.length) (hW : 0 < W) (hn : dk.length = W * H) (j : Nat) : j ∈ found ↔ dk[j]? = some dark ∧ Cl (Ed W eight dk dark dk.length) f j := by
 refine ⟨h.ins j, fun ⟨_, hR⟩ => ?_⟩
 have hf : f ∈ found := List.mem_of_getElem? h.head
 refine (flood_closed hW hn (S := (· ∈ found)) (fun a b ha hb hab => ?_) hR).1 hf
 obtain ⟨t, ht, rfl⟩ := List.mem_iff_getElem.1 ha
 exact h.done t b ht _ (List.getElem?_eq_getElem ht) hb hab
theorem Fl.push {j : Nat} (h : Fl W H eight dk dark f num lab0 lab found i) (hW : 0 < W) {p : Nat} (hp : p ∈ found) (hj : dk[j]? = some dark) (hnb : Nb W H eight p j) (hnew : j ∉ found) (hi : i ≤ found.length) : Fl W H eight dk dark f num lab0 (lab.set j num) (found ++ [j]) i where
  len := by rw [List.length_set]; exact h.len
  nodup := by
    rw [List.nodup_append]
    exact ⟨h.nodup, by simp, fun a ha b hb => by
      have : b = j := by simpa using hb
      subst this; intro e; exact hnew (e ▸ ha)⟩
  head := by
    have hlt := (List.getElem?_eq_some_iff.1 h.head).1
    rw [List.getElem?_append_left hlt]; exact h.head
  ins a ha := by
    rcases List.mem_append.1 ha with ha | ha
    · exact h.ins a ha
    · have : a = j := by simpa using ha
      subst this
      exact ⟨hj, (h.ins p hp).2.trans (nb_joined hW (h.ins p hp).1 hj hnb)⟩
  lab a := by
    by_cases e : j = a
    · subst e
      rw [if_pos (by simp)]
      by_cases hl : j < lab.length
      · rw [List.getElem?_set_self hl, List.getElem?_eq_getElem (by have := h.len; omega)]; rfl
      · rw [List.getElem?_eq_none (by rw [List.length_set]; omega), List.getElem?_eq_none (by have := h.len; omega)]; rfl
    · rw [List.getElem?_set_ne e, h.lab a]
      by_cases ha : a ∈ found
      · rw [if_pos ha, if_pos (by simp [ha])]
      · rw [if_neg ha, if_neg (by simp [ha]; exact fun h => e h.symm)]
  done t b ht q hq hb hqb := by
    rw [List.getElem?_append_left (by omega)] at hq
    exact List.mem_append.2 (.inl (h.done t b ht q hq hb hqb))
theorem Fl.next (h : Fl W H eight dk dark f num lab0 lab found i) {p : Nat} (hp : found[i]? = some p) (hall : ∀ j : Nat, dk[j]? = some dark → Nb W H eight p j → j ∈ found) : Fl W H eight dk dark f num lab0 lab found (i + 1) := by
 refine ⟨h.len, h.nodup, h.head, h.ins, h.lab, fun t j ht q hq hj hqj => ?_⟩
 by_cases e : t = i
 · subst e; rw [hp] at hq; cases hq; exact hall j hj hqj
 · exact h.done t j (by omega) q hq hj hqj
theorem Fl.start (hf : dk[f]? = some dark) (hl : f < lab0.length) : Fl W H eight dk dark f num lab0 (lab0.set f num) [f] 0 where
 len := by rw [List.length_set]
 nodup := by simp
 head := rfl
 ins j hj := by
  have : j = f := by simpa using hj
  subst this; exact ⟨hf, .refl _⟩
 lab j := by
  by_cases e : f = j
  · subst e; rw [List.getElem?_set_self hl, if_pos (by simp), List.getElem?_eq_getElem hl]; rfl
  · rw [List.getElem?_set_ne e, if_neg (by simp; exact fun h => e h.symm)]
 done t j ht := by omega
end
end Go.Proofs.Ytbinlkobmlebpaa
namespace Go.Proofs.Ytbinlkobmlebpaa
open Go.RowKit Sym Uf
theorem grown_fresh {w w1 w2 : World} {r : Option Nat} {g : Option Nat} (h : w.grownBy w1 r) (k : w1.grownBy w2 g) (hg : ∀ x, g = some x → w.heap.size ≤ x) : w.grownBy w2 r := by
 obtain ⟨h1, h2, h3, h4, h5⟩ := h
 obtain ⟨k1, k2, k3, k4, k5⟩ := k
 refine ⟨k1.trans h1, k2.trans h2, k3.trans h3, by omega, fun i hi hne => ?_⟩
 rw [k5 i (by omega) (fun e => by have := hg i e.symm; omega)]
 exact h5 i hi hne
theorem Fl.le {W H : Nat} {eight : Bool} {dk : List Bool} {dark : Bool} {f : Nat} {num : Int} {lab0 lab : List Int} {found : List Nat} {i : Nat} (h : Fl W H eight dk dark f num lab0 lab found i) : found.length ≤ dk.length := by
 have := List.Nodup.length_le_of_subset (l₂ := List.range dk.length) h.nodup (fun x hx => List.mem_range.2 (List.getElem?_eq_some_iff.1 (h.ins x hx).1).1)
 simpa using this
abbrev px (n : Nat) : Value := i64 (n : Int)
structure FW (w w' : World) (B0 bm : Nat) (vl vf vd : Value) (W H : Nat) (dk : List Bool) (lab : List Int) (found : List Nat) : Prop where
 ol : OwnL i64 w' B0 3 vl lab
 of : OwnL px w' w.heap.size 3 vf found
 hm : Blk w' bm 37 #[i64 W, i64 H, vd]
 rd : RdL Value.bool w' vd dk
 rb : dk = [] ∨ (vl.ownBlock ≠ some (bs vd).1 ∧ (bs vd).1 < w.heap.size)
 ap : Apart vl vf
 nl : vl.ownBlock ≠ some bm
 nf : vf.ownBlock ≠ some bm
 gr : w.grownBy w' vl.ownBlock
section
variable {w w' w'' : World} {B0 bm : Nat} {vl vf vd : Value} {W H : Nat} {dk : List Bool} {lab : List Int} {found : List Nat}
theorem FW.ext (h : FW w w' B0 bm vl vf vd W H dk lab found) (k : Ext w' w'') : FW w w'' B0 bm vl vf vd W H dk lab found :=
 { h with ol := h.ol.kept k, of := h.of.kept k, hm := h.hm.ext k, rd := h.rd.ext k, gr := grown_trans h.gr (k.toGrown _) }
theorem FW.setL (h : FW w w' B0 bm vl vf vd W H dk lab found) {i : Nat} (hi : i < lab.length) (z : Int) : FW w (w'.setCell (el vl i) (i64 z)) B0 bm vl vf vd W H dk (lab.set i z) found := by
 obtain ⟨_, _, c3⟩ := h.ol.cellAt hi
 have g := grown_set w' (el vl i) (i64 z)
 rw [← c3] at g
 refine { h with ol := h.ol.set hi z, of := Own.apart h.of g h.ap, hm := Blk.apart h.hm g h.nl, rd := ?_, gr := grown_trans h.gr g }
 rcases h.rb with hb | hb
 · exact Rd.grown h.rd g (.inl (by rw [hb]; rfl))
 · exact Rd.grown h.rd g (.inr fun e => hb.1 e.symm)
theorem FW.push {vf' : Value} {found' : List Nat} (h : FW w w' B0 bm vl vf vd W H dk lab found) (g : w'.grownBy w'' vf.ownBlock) (ho : OwnL px w'' w.heap.size 3 vf' found') (hl : Lies w' vf vf') : FW w w'' B0 bm vl vf' vd W H dk lab found' := by
  refine { h with ol := Own.apart h.ol g h.ap.symm, of := ho, hm := Blk.apart h.hm g h.nf, rd := ?_, ap := (h.ap.symm.grow hl h.ol).symm, nf := ?_, gr := grown_fresh h.gr g fun x hx => (World.ownsRow.lt h.of x hx).1 }
  · rcases h.rb with hb | hb
    · exact Rd.grown h.rd g (.inl (by rw [hb]; rfl))
    · exact Rd.grown h.rd g (.inr fun e => by have := (World.ownsRow.lt h.of _ e.symm).1; omega)
  · rcases hl with hl | ⟨y, hl, hge⟩
    · rw [hl]; exact h.nf
    · rw [hl]; intro e; have := Option.some.inj e; have := h.hm.lt; omega
end
end Go.Proofs.Ytbinlkobmlebpaa
