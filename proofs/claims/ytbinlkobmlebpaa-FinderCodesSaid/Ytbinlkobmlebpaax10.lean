/- Texts of the claim, laid together: Fd9, Fd10, FdQ. -/
import Derived.Test.Ytbinlkobmlebpaax0
import Derived.Test.Ytbinlkobmlebpaax6
import Derived.Test.Ytbinlkobmlebpaax8
import Derived.Test.Ytbinlkobmlebpaax9
set_option linter.unusedSimpArgs false
set_option linter.unusedVariables false
namespace Go.Proofs.Ytbinlkobmlebpaa
open Go.RowKit Sym
open Fi
def SymOk (N : Nat) : Prop := ∀ (p : Value) (la lx ly lc : List Mk) (a m b : Nat) (w : World), Sep w [Rg.slF mkc 4 24 p (la ++ lx ++ ly ++ lc)] → a = la.length → m = a + lx.length → b = m + ly.length → 0 < lx.length → 0 < ly.length → Srt key lx → Srt key ly → (∀ z ∈ la ++ lx ++ ly ++ lc, bdm z) → (la ++ lx ++ ly ++ lc).length ≤ 1000000 → lx.length + ly.length < N →
 Ret Try.prog 110 #[p, i64 a, i64 m, i64 b, fnv 83 []] w fun v w' => M w (fpU [Rg.slF mkc 4 24 p (la ++ lx ++ ly ++ lc)]) w' [Rg.slF mkc 4 24 p (la ++ mrg key lx ly ++ lc)]
set_option maxHeartbeats 4000000 in
theorem sym_step (N : Nat) (ih : SymOk N) (p : Value) (la lx ly lc : List Mk) (a m b : Nat) (w : World) (hs : Sep w [Rg.slF mkc 4 24 p (la ++ lx ++ ly ++ lc)]) (ha : a = la.length) (hm : m = a + lx.length) (hb : b = m + ly.length) (hx0 : 0 < lx.length) (hy0 : 0 < ly.length) (hsx : Srt key lx) (hsy : Srt key ly) (hP : ∀ z ∈ la ++ lx ++ ly ++ lc, bdm z) (hlen : (la ++ lx ++ ly ++ lc).length ≤ 1000000) (hN : lx.length + ly.length < N + 1) :
    Ret Try.prog 110 #[p, i64 a, i64 m, i64 b, fnv 83 []] w fun v w' => M w (fpU [Rg.slF mkc 4 24 p (la ++ lx ++ ly ++ lc)]) w' [Rg.slF mkc 4 24 p (la ++ mrg key lx ly ++ lc)] := by
  have hM := M.startS hs
  refine enter Try.func110 rfl (by kernel_rfl) Try.ntmps110 rfl ?_
  refine C.seq <| C.seq <| C.region <| E.mv rfl rfl <| E.mv rfl rfl <| ?_
  have hDl := D_len (la := la) (lx := lx) (ly := ly) (lc := lc)
  rw [hDl] at hlen
  refine E.subN rfl rfl (by omega) rfl ?_
  refine E.bin rfl rfl rfl rfl <| E.nil <| X.next <| ?_
  refine C.cond' rfl (fun hC0 => ?_) (fun hC0 => ?_)
  ·
    have hx1 : lx.length = 1 := by omega
    obtain ⟨x, hx⟩ : ∃ x, lx = [x] := List.length_eq_one_iff.1 hx1
    have hxa : W (la ++ lx ++ ly ++ lc) a = key x := by
      have := W_x (la := la) (lx := lx) (ly := ly) (lc := lc) (k := 0) (by omega)
      rw [Nat.add_zero, ← ha] at this; rw [this, hx]; rfl
    rw [W_eq (by rw [D_len]; omega)] at hxa
    refine C.seq <| C.region <| E.mv rfl rfl <| E.asg rfl rfl <| E.nil <| X.next <| C.seq <| C.region <| E.mv rfl rfl <| E.asg rfl rfl <| E.nil <| X.next <| C.seq <| C.block <| ?_

    refine C.loop2 [(0, _), (1, _), (4, _)] rfl (fun (u : Nat) (t : Nat) => [(10, i64 ((m + u : Nat) : Int)), (11, i64 ((m + t : Nat) : Int))]) (fun (u : Nat) (t : Nat) w' => M w (fpU [Rg.slF mkc 4 24 p (la ++ lx ++ ly ++ lc)]) w' [Rg.slF mkc 4 24 p (la ++ lx ++ ly ++ lc)] ∧ u ≤ t ∧ t ≤ ly.length ∧ (u = 0 ∨ (ly.map key).getD (u - 1) 0 < key x) ∧ (t = ly.length ∨ key x ≤ (ly.map key).getD t 0)) (fun (u : Nat) (t : Nat) => t - u) 0 ly.length ?_ ?_ ?_
    · exact Sub.cons rfl <| Sub.cons (look_val rfl (by omega)) <| Sub.nil _
    · exact ⟨hM, Nat.zero_le _, Nat.le_refl _, .inl rfl, .inl rfl⟩
    rintro u t w0 ⟨hM, hut, htl, hl1, hl2⟩
    refine C.seq <| C.seq <| C.region <| E.mv rfl rfl <| E.mv rfl rfl <| E.bin rfl rfl rfl rfl <| E.nil <| X.next <| ?_
    refine C.cond' rfl (fun hC1 => ?_) (fun hC1 => ?_)
    ·
      obtain ⟨c, hc⟩ : ∃ c, c = (u + t) / 2 := ⟨_, rfl⟩
      have hh : (m + u + (m + t)) / 2 = m + c := by omega
      have hcw : key ((la ++ lx ++ ly ++ lc)[m + c]'(by rw [D_len]; omega)) = (ly.map key).getD c 0 := by
        rw [← W_eq, ← W_y (la := la) (lx := lx) (lc := lc) (show c < ly.length by omega)]; congr 1; omega
      refine C.skip <| X.next <| C.block <| C.seq <| C.region <| E.mv rfl rfl <| E.mv rfl rfl <| ?_
      refine E.addN rfl rfl (by omega) rfl ?_
      refine E.conv rfl Try.underlying3 Try.underlying100 (IntWalk.u64_in _ (by omega)) rfl ?_
      refine E.shr rfl rfl (by decide) (shr_u64 _) rfl ?_
      refine E.conv rfl Try.underlying100 Try.underlying3 (IntWalk.i64_in _ (by omega)) rfl ?_
      rw [hh]
      refine E.asg rfl rfl <| E.nil <| X.next <| C.seq <| C.drawnT 9 (by kernel_rfl) (by kernel_rfl) fun wh1 hwh1 => ?_
      have hM := hM.ext hwh1
      refine S.mv rfl rfl <| S.mv rfl rfl <| S.mv rfl rfl <| ?_
      refine S.idxF (k := (m + c)) rfl rfl (hM.slF 0 rfl) rfl (by rw [D_len]; omega) (by decide) Try.underlying22 (by kernel_rfl) rfl ?_
      refine S.loadA (cs := mkc _) rfl Try.underlying24 rfl (by kernel_rfl) ((hM.slF 0 rfl).all (by rw [D_len]; omega)) rfl ?_
      refine S.mv rfl rfl <| S.mv rfl rfl <| ?_
      refine S.idxF (k := a) rfl rfl (hM.slF 0 rfl) rfl (by rw [D_len]; omega) (by decide) Try.underlying22 (by kernel_rfl) rfl ?_
      refine S.loadA (cs := mkc _) rfl Try.underlying24 rfl (by kernel_rfl) ((hM.slF 0 rfl).all (by rw [D_len]; omega)) rfl ?_
      refine S.nil ?_
      refine E.callv rfl rfl rfl (cmp_ret (la ++ lx ++ ly ++ lc)[m + c] (la ++ lx ++ ly ++ lc)[a] _ (hP _ (List.getElem_mem _)) (hP _ (List.getElem_mem _))) ?_
      rintro _ w3 ⟨rfl, x3⟩
      have hM := hM.ext x3
      have hcl := cm2_lt (a := (la ++ lx ++ ly ++ lc)[m + c]) (b := (la ++ lx ++ ly ++ lc)[a]) (hP _ (List.getElem_mem _)) (hP _ (List.getElem_mem _))
      try dsimp only [Za, Zb, Zc, Zd, repl] at hM
      refine E.bin rfl rfl rfl rfl <| E.nil <| X.next <| ?_
      refine C.cond' rfl (fun hC2 => ?_) (fun hC2 => ?_)
      ·
        refine C.region <| E.mv rfl rfl <| ?_
        refine E.addN (b := 1) rfl rfl (by omega) rfl ?_

        refine E.asg rfl rfl <| E.nil <| X.outN <| X.again2 (c + 1) t (Sub.cons rfl <| Sub.cons rfl <| Sub.nil _) rfl ⟨hM, by omega, htl, .inr (by rw [Nat.add_sub_cancel]; omega), hl2⟩ (by omega)
      ·

        refine C.region <| E.mv rfl rfl <| E.asg rfl rfl <| E.nil <| X.outN <| X.again2 u c (Sub.cons rfl <| Sub.cons rfl <| Sub.nil _) rfl ⟨hM, by omega, by omega, hl1, .inr (by omega)⟩ (by omega)
    ·
      obtain rfl : u = t := by omega
      have hmo := mrg_one (x := x) hsy htl hl1 hl2
      have hM := hM.to (Sym.twoF (show _ = Rg.slF mkc 4 24 p (dat la ly x lc 0) by rw [hx]; simp [dat]) rfl)
      refine C.exit <| X.exitT <| X.exitT <| X.outE <| X.next <| C.seq <| C.seq <| C.region <| E.mv rfl rfl <| E.asg rfl rfl <| E.nil <| X.next <| C.block <| ?_

      refine C.loop1 [(0, _), (10, _)] rfl (fun (q : Nat) => [(13, i64 ((a + q : Nat) : Int))]) (fun (q : Nat) w' => M w (fpU [Rg.slF mkc 4 24 p (la ++ lx ++ ly ++ lc)]) w' [Rg.slF mkc 4 24 p (dat la ly x lc q)] ∧ q ≤ u) (fun (q : Nat) => u - q) 0 ?_ ?_ ?_
      · exact Sub.cons rfl <| Sub.nil _
      · exact ⟨hM, Nat.zero_le _⟩
      rintro q w3 ⟨hM, hq⟩
      refine C.seq <| C.seq <| C.region <| E.mv rfl rfl <| E.mv rfl rfl <| ?_
      refine E.subN (b := 1) rfl rfl (by omega) rfl ?_
      refine E.bin rfl rfl rfl rfl <| E.nil <| X.next <| ?_
      refine C.cond' rfl (fun hC3 => ?_) (fun hC3 => ?_)
      ·
        have hq' : q < ly.length := by omega
        refine C.skip <| X.next <| C.seq <| C.block <| C.heldM hM [] (by decide) (by kernel_rfl) fun wh4 hM hS => ?_
        have hR := hM.slF 0 rfl
        refine H.take 0 rfl rfl (by kernel_rfl) (by kernel_rfl) (by kernel_rfl) hS (fun w' hM => Y.mv rfl) rfl ?_
        refine H.take 1 rfl rfl (by kernel_rfl) (by kernel_rfl) (by kernel_rfl) hS (fun w' hM => Y.mv rfl) rfl ?_
        refine H.take 2 rfl rfl (by kernel_rfl) (by kernel_rfl) (by kernel_rfl) hS (fun w' hM => Y.mv rfl) rfl ?_
        refine H.take 3 rfl rfl (by kernel_rfl) (by kernel_rfl) (by kernel_rfl) hS (fun w' hM => Y.mv rfl) rfl ?_
        refine H.take 4 rfl rfl (by kernel_rfl) (by kernel_rfl) (by kernel_rfl) hS (fun w' hM => Y.addN (b := 1) rfl rfl (by omega)) rfl ?_
        refine H.take 5 rfl rfl (by kernel_rfl) (by kernel_rfl) (by kernel_rfl) hS (fun w' hM => Y.mv rfl) rfl ?_
        refine H.take 6 rfl rfl (by kernel_rfl) (by kernel_rfl) (by kernel_rfl) hS (fun w' hM => Y.mv rfl) rfl ?_
        refine H.take 7 rfl rfl (by kernel_rfl) (by kernel_rfl) (by kernel_rfl) hS (fun w' hM => Y.addN (b := 1) rfl rfl (by omega)) rfl ?_
        refine H.takeV 8 rfl rfl (by kernel_rfl) (by kernel_rfl) (by kernel_rfl) hS (Y.idxFW _ (a + q + 1) rfl rfl hR rfl (by rw [dat_len _ _ _ _ (by omega)]; omega) (by decide) Try.underlying22 (by kernel_rfl)) (fun w' hM => Y.idxFW _ (a + q + 1) rfl rfl hR rfl (by rw [dat_len _ _ _ _ (by omega)]; omega) (by decide) Try.underlying22 (by kernel_rfl)) rfl ?_
        refine H.take 10 rfl rfl (by kernel_rfl) (by kernel_rfl) (by kernel_rfl) hS (fun w' hM => Y.mv rfl) rfl ?_
        refine H.take 11 rfl rfl (by kernel_rfl) (by kernel_rfl) (by kernel_rfl) hS (fun w' hM => Y.mv rfl) rfl ?_
        refine H.takeV 12 rfl rfl (by kernel_rfl) (by kernel_rfl) (by kernel_rfl) hS (Y.idxFW _ (a + q) rfl rfl hR rfl (by rw [dat_len _ _ _ _ (by omega)]; omega) (by decide) Try.underlying22 (by kernel_rfl)) (fun w' hM => Y.idxFW _ (a + q) rfl rfl hR rfl (by rw [dat_len _ _ _ _ (by omega)]; omega) (by decide) Try.underlying22 (by kernel_rfl)) rfl ?_
        refine H.two 9 13 rfl rfl (by kernel_rfl) ?_ ?_
        ·
          refine E.loadA (cs := mkc _) rfl Try.underlying24 rfl (by kernel_rfl) ((hM.slF 0 rfl).all (by rw [dat_len _ _ _ _ (by omega)]; omega)) rfl ?_
          rw [dat_y0 _ _ _ _ hq' (by omega)]
          have hS := hM.pick [] (by decide)
          refine H.back hS ?_
          refine H.only 13 rfl (by kernel_rfl) ?_
          refine E.loadA (cs := mkc _) rfl Try.underlying24 rfl (by kernel_rfl) ((hM.slF 0 rfl).all (by rw [dat_len _ _ _ _ (by omega)]; omega)) rfl ?_
          rw [dat_x0 _ _ _ _ (by omega) (by omega)]
          have hS := hM.pick [] (by decide)
          refine H.back hS ?_
          refine H.takeV 14 rfl rfl (by kernel_rfl) (by kernel_rfl) (by kernel_rfl) hS (Y.idxFW _ (a + q) rfl rfl hR rfl (by rw [dat_len _ _ _ _ (by omega)]; omega) (by decide) Try.underlying22 (by kernel_rfl)) (fun w' hM => Y.idxFW _ (a + q) rfl rfl hR rfl (by rw [dat_len _ _ _ _ (by omega)]; omega) (by decide) Try.underlying22 (by kernel_rfl)) rfl ?_
          refine H.only 15 rfl (by kernel_rfl) ?_
          refine E.storeEM (k := a + q) 0 ly[q] hM rfl rfl rfl (by kernel_rfl) rfl (ones rfl <| ones rfl <| ones rfl <| ones rfl <| ones_nil) rfl (by rw [dat_len _ _ _ _ (by omega)]; omega) ?_
          intro w5 hM
          try dsimp only [Za, Zb, Zc, Zd, repl] at hM
          have hS := hM.pick [] (by decide)
          refine H.back hS ?_
          refine H.takeV 16 rfl rfl (by kernel_rfl) (by kernel_rfl) (by kernel_rfl) hS (Y.idxFW _ (a + q + 1) rfl rfl hR rfl (by rw [dat_len _ _ _ _ (by omega)]; omega) (by decide) Try.underlying22 (by kernel_rfl)) (fun w' hM => Y.idxFW _ (a + q + 1) rfl rfl hR rfl (by rw [dat_len _ _ _ _ (by omega)]; omega) (by decide) Try.underlying22 (by kernel_rfl)) rfl ?_
          refine H.only 17 rfl (by kernel_rfl) ?_
          refine E.storeEM (k := a + q + 1) 0 x hM rfl rfl rfl (by kernel_rfl) rfl (ones rfl <| ones rfl <| ones rfl <| ones rfl <| ones_nil) rfl (by rw [List.length_set]; rw [dat_len _ _ _ _ (by omega)]; omega) ?_
          intro w6 hM
          try dsimp only [Za, Zb, Zc, Zd, repl] at hM
          rw [dat_up _ _ _ _ hq' (by omega) (by omega)] at hM
          have hS := hM.pick [] (by decide)
          refine H.back hS ?_
          refine H.done (by kernel_rfl) ?_
          refine X.outN <| X.next <| C.region <| E.mv rfl rfl <| ?_
          refine E.addN (b := 1) rfl rfl (by omega) rfl ?_

          refine E.asg rfl rfl <| E.nil <| X.again1 (q + 1) (Sub.cons rfl <| Sub.nil _) rfl ⟨hM, by omega⟩ (by omega)
        ·
          refine E.loadA (cs := mkc _) rfl Try.underlying24 rfl (by kernel_rfl) ((hM.slF 0 rfl).all (by rw [dat_len _ _ _ _ (by omega)]; omega)) rfl ?_
          rw [dat_x0 _ _ _ _ (by omega) (by omega)]
          have hS := hM.pick [] (by decide)
          refine H.back hS ?_
          refine H.only 9 rfl (by kernel_rfl) ?_
          refine E.loadA (cs := mkc _) rfl Try.underlying24 rfl (by kernel_rfl) ((hM.slF 0 rfl).all (by rw [dat_len _ _ _ _ (by omega)]; omega)) rfl ?_
          rw [dat_y0 _ _ _ _ hq' (by omega)]
          have hS := hM.pick [] (by decide)
          refine H.back hS ?_
          refine H.takeV 14 rfl rfl (by kernel_rfl) (by kernel_rfl) (by kernel_rfl) hS (Y.idxFW _ (a + q) rfl rfl hR rfl (by rw [dat_len _ _ _ _ (by omega)]; omega) (by decide) Try.underlying22 (by kernel_rfl)) (fun w' hM => Y.idxFW _ (a + q) rfl rfl hR rfl (by rw [dat_len _ _ _ _ (by omega)]; omega) (by decide) Try.underlying22 (by kernel_rfl)) rfl ?_
          refine H.only 15 rfl (by kernel_rfl) ?_
          refine E.storeEM (k := a + q) 0 ly[q] hM rfl rfl rfl (by kernel_rfl) rfl (ones rfl <| ones rfl <| ones rfl <| ones rfl <| ones_nil) rfl (by rw [dat_len _ _ _ _ (by omega)]; omega) ?_
          intro w7 hM
          try dsimp only [Za, Zb, Zc, Zd, repl] at hM
          have hS := hM.pick [] (by decide)
          refine H.back hS ?_
          refine H.takeV 16 rfl rfl (by kernel_rfl) (by kernel_rfl) (by kernel_rfl) hS (Y.idxFW _ (a + q + 1) rfl rfl hR rfl (by rw [dat_len _ _ _ _ (by omega)]; omega) (by decide) Try.underlying22 (by kernel_rfl)) (fun w' hM => Y.idxFW _ (a + q + 1) rfl rfl hR rfl (by rw [dat_len _ _ _ _ (by omega)]; omega) (by decide) Try.underlying22 (by kernel_rfl)) rfl ?_
          refine H.only 17 rfl (by kernel_rfl) ?_
          refine E.storeEM (k := a + q + 1) 0 x hM rfl rfl rfl (by kernel_rfl) rfl (ones rfl <| ones rfl <| ones rfl <| ones rfl <| ones_nil) rfl (by rw [List.length_set]; rw [dat_len _ _ _ _ (by omega)]; omega) ?_
          intro w8 hM
          try dsimp only [Za, Zb, Zc, Zd, repl] at hM
          rw [dat_up _ _ _ _ hq' (by omega) (by omega)] at hM
          have hS := hM.pick [] (by decide)
          refine H.back hS ?_
          refine H.done (by kernel_rfl) ?_
          refine X.outN <| X.next <| C.region <| E.mv rfl rfl <| ?_
          refine E.addN (b := 1) rfl rfl (by omega) rfl ?_

          refine E.asg rfl rfl <| E.nil <| X.again1 (q + 1) (Sub.cons rfl <| Sub.nil _) rfl ⟨hM, by omega⟩ (by omega)
      ·
        obtain rfl : q = u := by omega
        refine C.exit <| X.exitT <| X.exitT <| X.outE <| X.next <| C.ret <| X.retT <| ret0 rfl ?_
        exact hM.to (Sym.twoF (by rw [hx, hmo]; unfold dat; simp only [List.append_assoc, List.cons_append]) rfl)
  ·
    refine C.skip <| X.next <| C.seq <| C.seq <| C.region <| E.mv rfl rfl <| E.mv rfl rfl <| ?_
    refine E.subN rfl rfl (by omega) rfl ?_
    refine E.bin rfl rfl rfl rfl <| E.nil <| X.next <| ?_
    refine C.cond' rfl (fun hC4 => ?_) (fun hC4 => ?_)
    ·
      have hy1 : ly.length = 1 := by omega
      obtain ⟨y, hy⟩ : ∃ y, ly = [y] := List.length_eq_one_iff.1 hy1
      have hym : W (la ++ lx ++ ly ++ lc) m = key y := by
        have := W_y (la := la) (lx := lx) (ly := ly) (lc := lc) (k := 0) (by omega)
        rw [Nat.add_zero, ← ha, ← hm] at this; rw [this, hy]; rfl
      rw [W_eq (by rw [D_len]; omega)] at hym
      refine C.seq <| C.region <| E.mv rfl rfl <| E.asg rfl rfl <| E.nil <| X.next <| C.seq <| C.region <| E.mv rfl rfl <| E.asg rfl rfl <| E.nil <| X.next <| C.seq <| C.block <| ?_

      refine C.loop2 [(0, _), (2, _), (4, _)] rfl (fun (u : Nat) (t : Nat) => [(14, i64 ((a + u : Nat) : Int)), (15, i64 ((a + t : Nat) : Int))]) (fun (u : Nat) (t : Nat) w' => M w (fpU [Rg.slF mkc 4 24 p (la ++ lx ++ ly ++ lc)]) w' [Rg.slF mkc 4 24 p (la ++ lx ++ ly ++ lc)] ∧ u ≤ t ∧ t ≤ lx.length ∧ (u = 0 ∨ (lx.map key).getD (u - 1) 0 ≤ key y) ∧ (t = lx.length ∨ key y < (lx.map key).getD t 0)) (fun (u : Nat) (t : Nat) => t - u) 0 lx.length ?_ ?_ ?_
      · exact Sub.cons rfl <| Sub.cons (look_val rfl (by omega)) <| Sub.nil _
      · exact ⟨hM, Nat.zero_le _, Nat.le_refl _, .inl rfl, .inl rfl⟩
      rintro u t w9 ⟨hM, hut, htl, hl1, hl2⟩
      refine C.seq <| C.seq <| C.region <| E.mv rfl rfl <| E.mv rfl rfl <| E.bin rfl rfl rfl rfl <| E.nil <| X.next <| ?_
      refine C.cond' rfl (fun hC5 => ?_) (fun hC5 => ?_)
      ·
        obtain ⟨c, hc⟩ : ∃ c, c = (u + t) / 2 := ⟨_, rfl⟩
        have hh : (a + u + (a + t)) / 2 = a + c := by omega
        have hcw : key ((la ++ lx ++ ly ++ lc)[a + c]'(by rw [D_len]; omega)) = (lx.map key).getD c 0 := by
          rw [← W_eq, ← W_x (la := la) (ly := ly) (lc := lc) (show c < lx.length by omega)]; congr 1; omega
        refine C.skip <| X.next <| C.block <| C.seq <| C.region <| E.mv rfl rfl <| E.mv rfl rfl <| ?_
        refine E.addN rfl rfl (by omega) rfl ?_
        refine E.conv rfl Try.underlying3 Try.underlying100 (IntWalk.u64_in _ (by omega)) rfl ?_
        refine E.shr rfl rfl (by decide) (shr_u64 _) rfl ?_
        refine E.conv rfl Try.underlying100 Try.underlying3 (IntWalk.i64_in _ (by omega)) rfl ?_
        rw [hh]
        refine E.asg rfl rfl <| E.nil <| X.next <| C.seq <| C.drawnT 9 (by kernel_rfl) (by kernel_rfl) fun wh10 hwh10 => ?_
        have hM := hM.ext hwh10
        refine S.mv rfl rfl <| S.mv rfl rfl <| S.mv rfl rfl <| ?_
        refine S.idxF (k := m) rfl rfl (hM.slF 0 rfl) rfl (by rw [D_len]; omega) (by decide) Try.underlying22 (by kernel_rfl) rfl ?_
        refine S.loadA (cs := mkc _) rfl Try.underlying24 rfl (by kernel_rfl) ((hM.slF 0 rfl).all (by rw [D_len]; omega)) rfl ?_
        refine S.mv rfl rfl <| S.mv rfl rfl <| ?_
        refine S.idxF (k := (a + c)) rfl rfl (hM.slF 0 rfl) rfl (by rw [D_len]; omega) (by decide) Try.underlying22 (by kernel_rfl) rfl ?_
        refine S.loadA (cs := mkc _) rfl Try.underlying24 rfl (by kernel_rfl) ((hM.slF 0 rfl).all (by rw [D_len]; omega)) rfl ?_
        refine S.nil ?_
        refine E.callv rfl rfl rfl (cmp_ret (la ++ lx ++ ly ++ lc)[m] (la ++ lx ++ ly ++ lc)[a + c] _ (hP _ (List.getElem_mem _)) (hP _ (List.getElem_mem _))) ?_
        rintro _ w4 ⟨rfl, x4⟩
        have hM := hM.ext x4
        have hcl := cm2_lt (a := (la ++ lx ++ ly ++ lc)[m]) (b := (la ++ lx ++ ly ++ lc)[a + c]) (hP _ (List.getElem_mem _)) (hP _ (List.getElem_mem _))
        try dsimp only [Za, Zb, Zc, Zd, repl] at hM
        refine E.bin rfl rfl rfl rfl <| E.not rfl rfl <| E.nil <| X.next <| ?_
        refine C.cond rfl (fun hC6 => ?_) (fun hC6 => ?_)
        ·
          have hC6 : ¬ cm2 (la ++ lx ++ ly ++ lc)[m] (la ++ lx ++ ly ++ lc)[a + c] < 0 := by simpa using hC6
          refine C.region <| E.mv rfl rfl <| ?_
          refine E.addN (b := 1) rfl rfl (by omega) rfl ?_

          refine E.asg rfl rfl <| E.nil <| X.outN <| X.again2 (c + 1) t (Sub.cons rfl <| Sub.cons rfl <| Sub.nil _) rfl ⟨hM, by omega, htl, .inr (by rw [Nat.add_sub_cancel]; omega), hl2⟩ (by omega)
        ·
          have hC6 : cm2 (la ++ lx ++ ly ++ lc)[m] (la ++ lx ++ ly ++ lc)[a + c] < 0 := by simpa using hC6

          refine C.region <| E.mv rfl rfl <| E.asg rfl rfl <| E.nil <| X.outN <| X.again2 u c (Sub.cons rfl <| Sub.cons rfl <| Sub.nil _) rfl ⟨hM, by omega, by omega, hl1, .inr (by omega)⟩ (by omega)
      ·
        obtain rfl : u = t := by omega
        have hmo := mrg_two (y := y) hsx htl hl1 hl2
        have hM := hM.to (Sym.twoF (show _ = Rg.slF mkc 4 24 p (dat la lx y lc lx.length) by rw [hy, dat, List.take_length, List.drop_length]) rfl)
        refine C.exit <| X.exitT <| X.exitT <| X.outE <| X.next <| C.seq <| C.seq <| C.region <| E.mv rfl rfl <| E.asg rfl rfl <| E.nil <| X.next <| C.block <| ?_

        refine C.loop1 [(0, _), (14, _)] rfl (fun (q : Nat) => [(17, i64 ((a + q : Nat) : Int))]) (fun (q : Nat) w' => M w (fpU [Rg.slF mkc 4 24 p (la ++ lx ++ ly ++ lc)]) w' [Rg.slF mkc 4 24 p (dat la lx y lc q)] ∧ u ≤ q ∧ q ≤ lx.length) (fun (q : Nat) => q) lx.length ?_ ?_ ?_
        · exact Sub.cons (look_val rfl (by omega)) <| Sub.nil _
        · exact ⟨hM, htl, Nat.le_refl _⟩
        rintro q w12 ⟨hM, hq1, hq2⟩
        refine C.seq <| C.seq <| C.region <| E.mv rfl rfl <| E.mv rfl rfl <| E.bin rfl rfl rfl rfl <| E.nil <| X.next <| ?_
        refine C.cond' rfl (fun hC7 => ?_) (fun hC7 => ?_)
        ·
          obtain ⟨r, rfl⟩ : ∃ r, q = r + 1 := ⟨q - 1, by omega⟩
          have hr' : r < lx.length := by omega
          refine C.skip <| X.next <| C.seq <| C.block <| C.heldM hM [] (by decide) (by kernel_rfl) fun wh13 hM hS => ?_
          have hR := hM.slF 0 rfl
          refine H.take 0 rfl rfl (by kernel_rfl) (by kernel_rfl) (by kernel_rfl) hS (fun w' hM => Y.mv rfl) rfl ?_
          refine H.take 1 rfl rfl (by kernel_rfl) (by kernel_rfl) (by kernel_rfl) hS (fun w' hM => Y.mv rfl) rfl ?_
          refine H.take 2 rfl rfl (by kernel_rfl) (by kernel_rfl) (by kernel_rfl) hS (fun w' hM => Y.mv rfl) rfl ?_
          refine H.take 3 rfl rfl (by kernel_rfl) (by kernel_rfl) (by kernel_rfl) hS (fun w' hM => Y.mv rfl) rfl ?_
          refine H.take 4 rfl rfl (by kernel_rfl) (by kernel_rfl) (by kernel_rfl) hS (fun w' hM => Y.subN (b := 1) rfl rfl (by omega)) rfl ?_
          refine H.take 5 rfl rfl (by kernel_rfl) (by kernel_rfl) (by kernel_rfl) hS (fun w' hM => Y.mv rfl) rfl ?_
          refine H.take 6 rfl rfl (by kernel_rfl) (by kernel_rfl) (by kernel_rfl) hS (fun w' hM => Y.mv rfl) rfl ?_
          refine H.take 7 rfl rfl (by kernel_rfl) (by kernel_rfl) (by kernel_rfl) hS (fun w' hM => Y.subN (b := 1) rfl rfl (by omega)) rfl ?_
          refine H.takeV 8 rfl rfl (by kernel_rfl) (by kernel_rfl) (by kernel_rfl) hS (Y.idxFW _ (a + (r + 1) - 1) rfl rfl hR rfl (by rw [dat_len _ _ _ _ (by omega)]; omega) (by decide) Try.underlying22 (by kernel_rfl)) (fun w' hM => Y.idxFW _ (a + (r + 1) - 1) rfl rfl hR rfl (by rw [dat_len _ _ _ _ (by omega)]; omega) (by decide) Try.underlying22 (by kernel_rfl)) rfl ?_
          refine H.take 10 rfl rfl (by kernel_rfl) (by kernel_rfl) (by kernel_rfl) hS (fun w' hM => Y.mv rfl) rfl ?_
          refine H.take 11 rfl rfl (by kernel_rfl) (by kernel_rfl) (by kernel_rfl) hS (fun w' hM => Y.mv rfl) rfl ?_
          refine H.takeV 12 rfl rfl (by kernel_rfl) (by kernel_rfl) (by kernel_rfl) hS (Y.idxFW _ (a + (r + 1)) rfl rfl hR rfl (by rw [dat_len _ _ _ _ (by omega)]; omega) (by decide) Try.underlying22 (by kernel_rfl)) (fun w' hM => Y.idxFW _ (a + (r + 1)) rfl rfl hR rfl (by rw [dat_len _ _ _ _ (by omega)]; omega) (by decide) Try.underlying22 (by kernel_rfl)) rfl ?_
          refine H.two 9 13 rfl rfl (by kernel_rfl) ?_ ?_
          ·
            refine E.loadA (cs := mkc _) rfl Try.underlying24 rfl (by kernel_rfl) ((hM.slF 0 rfl).all (by rw [dat_len _ _ _ _ (by omega)]; omega)) rfl ?_
            rw [dat_y _ _ _ _ hr' (by omega)]
            have hS := hM.pick [] (by decide)
            refine H.back hS ?_
            refine H.only 13 rfl (by kernel_rfl) ?_
            refine E.loadA (cs := mkc _) rfl Try.underlying24 rfl (by kernel_rfl) ((hM.slF 0 rfl).all (by rw [dat_len _ _ _ _ (by omega)]; omega)) rfl ?_
            rw [dat_x _ _ _ _ hr' (by omega)]
            have hS := hM.pick [] (by decide)
            refine H.back hS ?_
            refine H.takeV 14 rfl rfl (by kernel_rfl) (by kernel_rfl) (by kernel_rfl) hS (Y.idxFW _ (a + (r + 1)) rfl rfl hR rfl (by rw [dat_len _ _ _ _ (by omega)]; omega) (by decide) Try.underlying22 (by kernel_rfl)) (fun w' hM => Y.idxFW _ (a + (r + 1)) rfl rfl hR rfl (by rw [dat_len _ _ _ _ (by omega)]; omega) (by decide) Try.underlying22 (by kernel_rfl)) rfl ?_
            refine H.only 15 rfl (by kernel_rfl) ?_
            refine E.storeEM (k := a + (r + 1)) 0 lx[r] hM rfl rfl rfl (by kernel_rfl) rfl (ones rfl <| ones rfl <| ones rfl <| ones rfl <| ones_nil) rfl (by rw [dat_len _ _ _ _ (by omega)]; omega) ?_
            intro w14 hM
            try dsimp only [Za, Zb, Zc, Zd, repl] at hM
            have hS := hM.pick [] (by decide)
            refine H.back hS ?_
            refine H.takeV 16 rfl rfl (by kernel_rfl) (by kernel_rfl) (by kernel_rfl) hS (Y.idxFW _ (a + (r + 1) - 1) rfl rfl hR rfl (by rw [dat_len _ _ _ _ (by omega)]; omega) (by decide) Try.underlying22 (by kernel_rfl)) (fun w' hM => Y.idxFW _ (a + (r + 1) - 1) rfl rfl hR rfl (by rw [dat_len _ _ _ _ (by omega)]; omega) (by decide) Try.underlying22 (by kernel_rfl)) rfl ?_
            refine H.only 17 rfl (by kernel_rfl) ?_
            refine E.storeEM (k := a + (r + 1) - 1) 0 y hM rfl rfl rfl (by kernel_rfl) rfl (ones rfl <| ones rfl <| ones rfl <| ones rfl <| ones_nil) rfl (by rw [List.length_set]; rw [dat_len _ _ _ _ (by omega)]; omega) ?_
            intro w15 hM
            try dsimp only [Za, Zb, Zc, Zd, repl] at hM
            rw [dat_swap _ _ _ _ hr' (by omega) (by omega)] at hM
            have hS := hM.pick [] (by decide)
            refine H.back hS ?_
            refine H.done (by kernel_rfl) ?_
            refine X.outN <| X.next <| C.region <| E.mv rfl rfl <| ?_
            refine E.subN (b := 1) rfl rfl (by omega) rfl ?_

            refine E.asg rfl rfl <| E.nil <| X.again1 r (Sub.cons (look_val rfl (by omega)) <| Sub.nil _) rfl ⟨hM, by omega, by omega⟩ (by omega)
          ·
            refine E.loadA (cs := mkc _) rfl Try.underlying24 rfl (by kernel_rfl) ((hM.slF 0 rfl).all (by rw [dat_len _ _ _ _ (by omega)]; omega)) rfl ?_
            rw [dat_x _ _ _ _ hr' (by omega)]
            have hS := hM.pick [] (by decide)
            refine H.back hS ?_
            refine H.only 9 rfl (by kernel_rfl) ?_
            refine E.loadA (cs := mkc _) rfl Try.underlying24 rfl (by kernel_rfl) ((hM.slF 0 rfl).all (by rw [dat_len _ _ _ _ (by omega)]; omega)) rfl ?_
            rw [dat_y _ _ _ _ hr' (by omega)]
            have hS := hM.pick [] (by decide)
            refine H.back hS ?_
            refine H.takeV 14 rfl rfl (by kernel_rfl) (by kernel_rfl) (by kernel_rfl) hS (Y.idxFW _ (a + (r + 1)) rfl rfl hR rfl (by rw [dat_len _ _ _ _ (by omega)]; omega) (by decide) Try.underlying22 (by kernel_rfl)) (fun w' hM => Y.idxFW _ (a + (r + 1)) rfl rfl hR rfl (by rw [dat_len _ _ _ _ (by omega)]; omega) (by decide) Try.underlying22 (by kernel_rfl)) rfl ?_
            refine H.only 15 rfl (by kernel_rfl) ?_
            refine E.storeEM (k := a + (r + 1)) 0 lx[r] hM rfl rfl rfl (by kernel_rfl) rfl (ones rfl <| ones rfl <| ones rfl <| ones rfl <| ones_nil) rfl (by rw [dat_len _ _ _ _ (by omega)]; omega) ?_
            intro w16 hM
            try dsimp only [Za, Zb, Zc, Zd, repl] at hM
            have hS := hM.pick [] (by decide)
            refine H.back hS ?_
            refine H.takeV 16 rfl rfl (by kernel_rfl) (by kernel_rfl) (by kernel_rfl) hS (Y.idxFW _ (a + (r + 1) - 1) rfl rfl hR rfl (by rw [dat_len _ _ _ _ (by omega)]; omega) (by decide) Try.underlying22 (by kernel_rfl)) (fun w' hM => Y.idxFW _ (a + (r + 1) - 1) rfl rfl hR rfl (by rw [dat_len _ _ _ _ (by omega)]; omega) (by decide) Try.underlying22 (by kernel_rfl)) rfl ?_
            refine H.only 17 rfl (by kernel_rfl) ?_
            refine E.storeEM (k := a + (r + 1) - 1) 0 y hM rfl rfl rfl (by kernel_rfl) rfl (ones rfl <| ones rfl <| ones rfl <| ones rfl <| ones_nil) rfl (by rw [List.length_set]; rw [dat_len _ _ _ _ (by omega)]; omega) ?_
            intro w17 hM
            try dsimp only [Za, Zb, Zc, Zd, repl] at hM
            rw [dat_swap _ _ _ _ hr' (by omega) (by omega)] at hM
            have hS := hM.pick [] (by decide)
            refine H.back hS ?_
            refine H.done (by kernel_rfl) ?_
            refine X.outN <| X.next <| C.region <| E.mv rfl rfl <| ?_
            refine E.subN (b := 1) rfl rfl (by omega) rfl ?_

            refine E.asg rfl rfl <| E.nil <| X.again1 r (Sub.cons (look_val rfl (by omega)) <| Sub.nil _) rfl ⟨hM, by omega, by omega⟩ (by omega)
        ·
          obtain rfl : q = u := by omega
          refine C.exit <| X.exitT <| X.exitT <| X.outE <| X.next <| C.ret <| X.retT <| ret0 rfl ?_
          exact hM.to (Sym.twoF (by rw [hy, hmo]; unfold dat; simp only [List.append_assoc, List.cons_append]) rfl)
    ·
      have hX2 : 2 ≤ lx.length := by omega
      have hY2 : 2 ≤ ly.length := by omega
      obtain ⟨q, hq⟩ : ∃ q, q = (a + b) / 2 := ⟨_, rfl⟩
      refine C.skip <| X.next <| C.seq <| C.region <| E.mv rfl rfl <| E.mv rfl rfl <| ?_
      refine E.addN rfl rfl (by omega) rfl ?_
      refine E.conv rfl Try.underlying3 Try.underlying100 (IntWalk.u64_in _ (by omega)) rfl ?_
      refine E.shr rfl rfl (by decide) (shr_u64 _) rfl ?_
      refine E.conv rfl Try.underlying100 Try.underlying3 (IntWalk.i64_in _ (by omega)) rfl ?_
      rw [← hq]
      refine E.asg rfl rfl <| E.nil <| X.next <| C.seq <| C.region <| E.mv rfl rfl <| E.mv rfl rfl <| ?_
      refine E.addN rfl rfl (by omega) rfl ?_
      refine E.asg rfl rfl <| E.nil <| X.next <| C.seq <| C.region <| E.asg rfl rfl <| E.asg rfl rfl <| E.nil <| X.next <| ?_

      refine C.cut2 [(0, _), (1, _), (2, _), (3, _), (4, _), (18, _), (19, _)] rfl (fun (s0 : Nat) (t0 : Nat) => [(20, i64 (s0 : Int)), (21, i64 (t0 : Int))]) (fun (s0 : Nat) (t0 : Nat) w' => M w (fpU [Rg.slF mkc 4 24 p (la ++ lx ++ ly ++ lc)]) w' [Rg.slF mkc 4 24 p (la ++ lx ++ ly ++ lc)] ∧ a ≤ s0 ∧ s0 ≤ t0 ∧ t0 ≤ m ∧ (s0 = a ∨ q + m = s0 + b) ∧ (t0 = m ∨ t0 = q) ∧ q + m ≤ s0 + b ∧ t0 ≤ q) ?_ ?_
      ·
        refine C.seq <| C.region <| E.mv rfl rfl <| E.mv rfl rfl <| E.bin rfl rfl rfl rfl <| E.nil <| X.next <| ?_
        refine C.cond' rfl (fun hC8 => ?_) (fun hC8 => ?_)
        ·
          refine C.seq <| C.region <| E.mv rfl rfl <| E.mv rfl rfl <| ?_
          refine E.subN rfl rfl (by omega) rfl ?_

          refine E.asg rfl rfl <| E.nil <| X.next <| C.region <| E.mv rfl rfl <| E.asg rfl rfl <| E.nil <| X.join2 (q + m - b) q (Sub.cons rfl <| Sub.cons rfl <| Sub.nil _) rfl ⟨hM, by omega, by omega, by omega, by omega, by omega, by omega, by omega⟩
        ·

          refine C.seq <| C.region <| E.mv rfl rfl <| E.asg rfl rfl <| E.nil <| X.next <| C.region <| E.mv rfl rfl <| E.asg rfl rfl <| E.nil <| X.join2 a m (Sub.cons rfl <| Sub.cons rfl <| Sub.nil _) rfl ⟨hM, by omega, by omega, by omega, by omega, by omega, by omega, by omega⟩
      rintro s0 t0 w18 ⟨hM, ha0, hst, htm, hs0, ht0, hnb, htq⟩
      refine C.seq <| C.region <| E.mv rfl rfl <| ?_
      refine E.subN (b := 1) rfl rfl (by omega) rfl ?_
      refine E.asg rfl rfl <| E.nil <| X.next <| C.seq <| C.block <| ?_

      refine C.loop2 [(0, _), (1, _), (2, _), (3, _), (4, _), (18, _), (19, _), (22, _)] rfl (fun (u : Nat) (t : Nat) => [(20, i64 (u : Int)), (21, i64 (t : Int))]) (fun (u : Nat) (t : Nat) w' => M w (fpU [Rg.slF mkc 4 24 p (la ++ lx ++ ly ++ lc)]) w' [Rg.slF mkc 4 24 p (la ++ lx ++ ly ++ lc)] ∧ s0 ≤ u ∧ u ≤ t ∧ t ≤ t0 ∧ (u = s0 ∨ W (la ++ lx ++ ly ++ lc) (u - 1) ≤ W (la ++ lx ++ ly ++ lc) (q + m - u)) ∧ (t = t0 ∨ W (la ++ lx ++ ly ++ lc) (q + m - 1 - t) < W (la ++ lx ++ ly ++ lc) t)) (fun (u : Nat) (t : Nat) => t - u) s0 t0 ?_ ?_ ?_
      · exact Sub.cons rfl <| Sub.cons rfl <| Sub.nil _
      · exact ⟨hM, Nat.le_refl _, hst, Nat.le_refl _, .inl rfl, .inl rfl⟩
      rintro u t w19 ⟨hM, hsu, hut, htt, hl1, hl2⟩
      refine C.seq <| C.seq <| C.region <| E.mv rfl rfl <| E.mv rfl rfl <| E.bin rfl rfl rfl rfl <| E.nil <| X.next <| ?_
      refine C.cond' rfl (fun hC9 => ?_) (fun hC9 => ?_)
      ·
        obtain ⟨c, hc⟩ : ∃ c, c = (u + t) / 2 := ⟨_, rfl⟩
        have hw1 : W (la ++ lx ++ ly ++ lc) (q + m - 1 - c) = key ((la ++ lx ++ ly ++ lc)[q + m - 1 - c]'(by rw [D_len]; omega)) := W_eq _
        have hw2 : W (la ++ lx ++ ly ++ lc) c = key ((la ++ lx ++ ly ++ lc)[c]'(by rw [D_len]; omega)) := W_eq _
        refine C.skip <| X.next <| C.block <| C.seq <| C.region <| E.mv rfl rfl <| E.mv rfl rfl <| ?_
        refine E.addN rfl rfl (by omega) rfl ?_
        refine E.conv rfl Try.underlying3 Try.underlying100 (IntWalk.u64_in _ (by omega)) rfl ?_
        refine E.shr rfl rfl (by decide) (shr_u64 _) rfl ?_
        refine E.conv rfl Try.underlying100 Try.underlying3 (IntWalk.i64_in _ (by omega)) rfl ?_
        rw [← hc]
        refine E.asg rfl rfl <| E.nil <| X.next <| C.seq <| C.drawnT 11 (by kernel_rfl) (by kernel_rfl) fun wh20 hwh20 => ?_
        have hM := hM.ext hwh20
        refine S.mv rfl rfl <| S.mv rfl rfl <| S.mv rfl rfl <| S.mv rfl rfl <| ?_
        refine S.subN rfl rfl (by omega) rfl ?_
        refine S.idxF (k := (q + m - 1 - c)) rfl rfl (hM.slF 0 rfl) rfl (by rw [D_len]; omega) (by decide) Try.underlying22 (by kernel_rfl) rfl ?_
        refine S.loadA (cs := mkc _) rfl Try.underlying24 rfl (by kernel_rfl) ((hM.slF 0 rfl).all (by rw [D_len]; omega)) rfl ?_
        refine S.mv rfl rfl <| S.mv rfl rfl <| ?_
        refine S.idxF (k := c) rfl rfl (hM.slF 0 rfl) rfl (by rw [D_len]; omega) (by decide) Try.underlying22 (by kernel_rfl) rfl ?_
        refine S.loadA (cs := mkc _) rfl Try.underlying24 rfl (by kernel_rfl) ((hM.slF 0 rfl).all (by rw [D_len]; omega)) rfl ?_
        refine S.nil ?_
        refine E.callv rfl rfl rfl (cmp_ret (la ++ lx ++ ly ++ lc)[q + m - 1 - c] (la ++ lx ++ ly ++ lc)[c] _ (hP _ (List.getElem_mem _)) (hP _ (List.getElem_mem _))) ?_
        rintro _ w5 ⟨rfl, x5⟩
        have hM := hM.ext x5
        have hcl := cm2_lt (a := (la ++ lx ++ ly ++ lc)[q + m - 1 - c]) (b := (la ++ lx ++ ly ++ lc)[c]) (hP _ (List.getElem_mem _)) (hP _ (List.getElem_mem _))
        try dsimp only [Za, Zb, Zc, Zd, repl] at hM
        refine E.bin rfl rfl rfl rfl <| E.not rfl rfl <| E.nil <| X.next <| ?_
        refine C.cond rfl (fun hC10 => ?_) (fun hC10 => ?_)
        ·
          have hC10 : ¬ cm2 (la ++ lx ++ ly ++ lc)[q + m - 1 - c] (la ++ lx ++ ly ++ lc)[c] < 0 := by simpa using hC10
          refine C.region <| E.mv rfl rfl <| ?_
          refine E.addN (b := 1) rfl rfl (by omega) rfl ?_

          refine E.asg rfl rfl <| E.nil <| X.outN <| X.again2 (c + 1) t (Sub.cons rfl <| Sub.cons rfl <| Sub.nil _) rfl ⟨hM, by omega, by omega, htt, .inr (by rw [Nat.add_sub_cancel, show q + m - (c + 1) = q + m - 1 - c by omega, hw1, hw2]; omega), hl2⟩ (by omega)
        ·
          have hC10 : cm2 (la ++ lx ++ ly ++ lc)[q + m - 1 - c] (la ++ lx ++ ly ++ lc)[c] < 0 := by simpa using hC10

          refine C.region <| E.mv rfl rfl <| E.asg rfl rfl <| E.nil <| X.outN <| X.again2 u c (Sub.cons rfl <| Sub.cons rfl <| Sub.nil _) rfl ⟨hM, hsu, by omega, by omega, hl1, .inr (by rw [hw1, hw2]; omega)⟩ (by omega)
      ·
        obtain rfl : u = t := by omega
        obtain ⟨e, he⟩ : ∃ e, q = u + e := ⟨q - u, by omega⟩
        have k1 : u - a = 0 ∨ W (la ++ lx ++ ly ++ lc) (u - 1) = (lx.map key).getD (u - a - 1) 0 := by
          by_cases h : u = a
          · left; omega
          · right; rw [← W_x (la := la) (ly := ly) (lc := lc) (show u - a - 1 < lx.length by omega)]; congr 1; omega
        have k2 : e = ly.length ∨ W (la ++ lx ++ ly ++ lc) (q + m - u) = (ly.map key).getD e 0 := by
          by_cases h : e = ly.length
          · left; omega
          · right; rw [← W_y (la := la) (lx := lx) (lc := lc) (show e < ly.length by omega)]; congr 1; omega
        have k3 : e = 0 ∨ W (la ++ lx ++ ly ++ lc) (q + m - 1 - u) = (ly.map key).getD (e - 1) 0 := by
          by_cases h : e = 0
          · left; omega
          · right; rw [← W_y (la := la) (lx := lx) (lc := lc) (show e - 1 < ly.length by omega)]; congr 1; omega
        have k4 : u - a = lx.length ∨ W (la ++ lx ++ ly ++ lc) u = (lx.map key).getD (u - a) 0 := by
          by_cases h : u - a = lx.length
          · left; omega
          · right; rw [← W_x (la := la) (ly := ly) (lc := lc) (show u - a < lx.length by omega)]; congr 1; omega
        have hcut := sym_cut (s := u - a) (t := e) hsx hsy (by omega) (by omega) (by omega) (by omega)
        obtain ⟨x1, hx1⟩ : ∃ x1, x1 = lx.take (u - a) := ⟨_, rfl⟩
        obtain ⟨x2, hx2⟩ : ∃ x2, x2 = lx.drop (u - a) := ⟨_, rfl⟩
        obtain ⟨y1, hy1⟩ : ∃ y1, y1 = ly.take e := ⟨_, rfl⟩
        obtain ⟨y2, hy2⟩ : ∃ y2, y2 = ly.drop e := ⟨_, rfl⟩
        have hxs : lx = x1 ++ x2 := by rw [hx1, hx2, List.take_append_drop]
        have hys : ly = y1 ++ y2 := by rw [hy1, hy2, List.take_append_drop]
        have lx1 : x1.length = u - a := by rw [hx1, List.length_take]; omega
        have lx2 : x2.length = m - u := by rw [hx2, List.length_drop]; omega
        have ly1 : y1.length = e := by rw [hy1, List.length_take]; omega
        have ly2 : y2.length = b - m - e := by rw [hy2, List.length_drop]; omega
        have hs1 : Srt key x1 := hx1 ▸ List.Pairwise.sublist (List.take_sublist _ _) hsx
        have hs2 : Srt key x2 := hx2 ▸ List.Pairwise.sublist (List.drop_sublist _ _) hsx
        have hs3 : Srt key y1 := hy1 ▸ List.Pairwise.sublist (List.take_sublist _ _) hsy
        have hs4 : Srt key y2 := hy2 ▸ List.Pairwise.sublist (List.drop_sublist _ _) hsy
        rw [← hx1, ← hx2, ← hy1, ← hy2] at hcut
        have hPm : ∀ z, (z ∈ la ∨ z ∈ x1 ∨ z ∈ x2 ∨ z ∈ y1 ∨ z ∈ y2 ∨ z ∈ lc) → bdm z := fun z hz => hP z (by rw [hxs, hys]; simp only [List.mem_append]; rcases hz with h | h | h | h | h | h <;> simp [h])
        refine C.exit <| X.exitT <| X.exitT <| X.outE <| X.next <| C.seq <| C.region <| E.mv rfl rfl <| E.mv rfl rfl <| ?_
        refine E.subN rfl rfl (by omega) rfl ?_
        rw [show q + m - u = m + e by omega]
        refine E.asg rfl rfl <| E.nil <| X.next <| ?_

        refine C.cut0 [(0, _), (1, _), (3, _), (4, _), (18, _), (20, _), (24, _)] rfl [] (fun w' => M w (fpU [Rg.slF mkc 4 24 p (la ++ lx ++ ly ++ lc)]) w' [Rg.slF mkc 4 24 p (la ++ x1 ++ y1 ++ x2 ++ y2 ++ lc)]) ?_ ?_
        ·

          refine C.chainE [(0, _), (1, _), (2, _), (3, _), (4, _), (18, _), (20, _), (24, _)] rfl [(185, .bool (decide (u < m ∧ m < m + e)))] ?_ ?_
          ·
            refine C.region <| E.mv rfl rfl <| E.mv rfl rfl <| E.bin rfl rfl rfl rfl <| E.mv rfl rfl <| ?_
            refine E.split 181 rfl (fun g181 => ?_) (fun g181 => ?_)
            ·
              try simp only [Ya, Yb, Yc, Yd, Ye, Yf] at g181
              refine E.on rfl rfl (E.mv rfl rfl ?_)
              refine E.on rfl rfl (E.mv rfl rfl ?_)
              refine E.on rfl rfl (E.bin rfl rfl rfl rfl ?_)
              refine E.pick rfl rfl rfl <| E.nil <| X.join0 (Sub.cons (by exact leaf_d (by omega)) <| Sub.nil _) rfl rfl
            ·
              try simp only [Ya, Yb, Yc, Yd, Ye, Yf] at g181
              refine E.off rfl rfl rfl rfl <| E.off rfl rfl rfl rfl <| E.off rfl rfl rfl rfl <| E.pick rfl rfl rfl <| E.nil <| X.join0 (Sub.cons (by exact leaf_f (by omega)) <| Sub.nil _) rfl rfl
          refine C.cond' rfl (fun hC11 => ?_) (fun hC11 => ?_)
          ·
            have hM := hM.to (Sym.twoF (show _ = Rg.slF mkc 4 24 p (la ++ x1 ++ x2 ++ y1 ++ (y2 ++ lc)) by rw [hxs, hys]; simp only [List.append_assoc]) rfl)
            refine C.region <| E.mv rfl rfl <| E.mv rfl rfl <| E.mv rfl rfl <| E.mv rfl rfl <| E.mv rfl rfl <| ?_
            refine E.call rfl rfl (rotate_ret p (la ++ x1) x2 y1 (y2 ++ lc) _ _ _ _ _ hM.sep (by rw [List.length_append]; omega) (by rw [List.length_append]; omega) (by omega) (by omega) (by omega) (by simp only [List.length_append]; omega)) ?_
            rintro _ w6 m6
            have hM := hM.calls [0] (by decide) rfl (by simp) m6
            try dsimp only [Za, Zb, Zc, Zd, repl] at hM

            refine E.nil <| X.join0  (Sub.nil _) rfl (hM.to (Sym.twoF (by simp only [List.append_assoc]) rfl))
          ·
            have hM := hM.to (Sym.twoF (show _ = Rg.slF mkc 4 24 p (la ++ x1 ++ y1 ++ x2 ++ y2 ++ lc) by
              by_cases h : u < m
              · obtain rfl : y1 = [] := List.eq_nil_of_length_eq_zero (by omega)
                rw [hxs, hys]; simp only [List.append_assoc, List.nil_append]
              · obtain rfl : x2 = [] := List.eq_nil_of_length_eq_zero (by omega)
                rw [hxs, hys]; simp only [List.append_assoc, List.nil_append]) rfl)

            refine C.skip <| X.join0  (Sub.nil _) rfl hM
        rintro  w23 hM

        refine C.cut0 [(0, _), (3, _), (4, _), (18, _), (24, _)] rfl [] (fun w' => M w (fpU [Rg.slF mkc 4 24 p (la ++ lx ++ ly ++ lc)]) w' [Rg.slF mkc 4 24 p (la ++ mrg key x1 y1 ++ x2 ++ y2 ++ lc)]) ?_ ?_
        ·

          refine C.chainE [(0, _), (1, _), (3, _), (4, _), (18, _), (20, _), (24, _)] rfl [(199, .bool (decide (a < u ∧ u < q)))] ?_ ?_
          ·
            refine C.region <| E.mv rfl rfl <| E.mv rfl rfl <| E.bin rfl rfl rfl rfl <| E.mv rfl rfl <| ?_
            refine E.split 195 rfl (fun g195 => ?_) (fun g195 => ?_)
            ·
              try simp only [Ya, Yb, Yc, Yd, Ye, Yf] at g195
              refine E.on rfl rfl (E.mv rfl rfl ?_)
              refine E.on rfl rfl (E.mv rfl rfl ?_)
              refine E.on rfl rfl (E.bin rfl rfl rfl rfl ?_)
              refine E.pick rfl rfl rfl <| E.nil <| X.join0 (Sub.cons (by exact leaf_d (by omega)) <| Sub.nil _) rfl rfl
            ·
              try simp only [Ya, Yb, Yc, Yd, Ye, Yf] at g195
              refine E.off rfl rfl rfl rfl <| E.off rfl rfl rfl rfl <| E.off rfl rfl rfl rfl <| E.pick rfl rfl rfl <| E.nil <| X.join0 (Sub.cons (by exact leaf_f (by omega)) <| Sub.nil _) rfl rfl
          refine C.cond' rfl (fun hC12 => ?_) (fun hC12 => ?_)
          ·
            have hM := hM.to (Sym.twoF (show _ = Rg.slF mkc 4 24 p (la ++ x1 ++ y1 ++ (x2 ++ y2 ++ lc)) by simp only [List.append_assoc]) rfl)
            refine C.region <| E.mv rfl rfl <| E.mv rfl rfl <| E.mv rfl rfl <| E.mv rfl rfl <| E.mv rfl rfl <| ?_
            refine E.call rfl rfl (ih p la x1 y1 (x2 ++ y2 ++ lc) _ _ _ _ hM.sep ha (by omega) (by omega) (by omega) (by omega) hs1 hs3 (fun z hz => hPm z (by simp only [List.mem_append] at hz; rcases hz with ((h | h) | h) | ((h | h) | h) <;> simp [h])) (by simp only [List.length_append]; omega) (by omega)) ?_
            rintro _ w7 m7
            have hM := hM.calls [0] (by decide) rfl (by simp) m7
            try dsimp only [Za, Zb, Zc, Zd, repl] at hM

            refine E.nil <| X.join0  (Sub.nil _) rfl (hM.to (Sym.twoF (by simp only [List.append_assoc]) rfl))
          ·
            have hM := hM.to (Sym.twoF (show _ = Rg.slF mkc 4 24 p (la ++ mrg key x1 y1 ++ x2 ++ y2 ++ lc) by
              by_cases h : a < u
              · obtain rfl : y1 = [] := List.eq_nil_of_length_eq_zero (by omega)
                rw [mrg_nil, List.append_nil]
              · obtain rfl : x1 = [] := List.eq_nil_of_length_eq_zero (by omega)
                rw [mrg, List.append_nil]) rfl)

            refine C.skip <| X.join0  (Sub.nil _) rfl hM
        rintro  w25 hM

        refine C.chainE [(0, _), (3, _), (4, _), (18, _), (24, _)] rfl [(213, .bool (decide (q < m + e ∧ m + e < b)))] ?_ ?_
        ·
          refine C.region <| E.mv rfl rfl <| E.mv rfl rfl <| E.bin rfl rfl rfl rfl <| E.mv rfl rfl <| ?_
          refine E.split 209 rfl (fun g209 => ?_) (fun g209 => ?_)
          ·
            try simp only [Ya, Yb, Yc, Yd, Ye, Yf] at g209
            refine E.on rfl rfl (E.mv rfl rfl ?_)
            refine E.on rfl rfl (E.mv rfl rfl ?_)
            refine E.on rfl rfl (E.bin rfl rfl rfl rfl ?_)
            refine E.pick rfl rfl rfl <| E.nil <| X.join0 (Sub.cons (by exact leaf_d (by omega)) <| Sub.nil _) rfl rfl
          ·
            try simp only [Ya, Yb, Yc, Yd, Ye, Yf] at g209
            refine E.off rfl rfl rfl rfl <| E.off rfl rfl rfl rfl <| E.off rfl rfl rfl rfl <| E.pick rfl rfl rfl <| E.nil <| X.join0 (Sub.cons (by exact leaf_f (by omega)) <| Sub.nil _) rfl rfl
        have hml := mrg_len key x1 y1
        refine C.cond' rfl (fun hC13 => ?_) (fun hC13 => ?_)
        ·
          have hM := hM.to (Sym.twoF (show _ = Rg.slF mkc 4 24 p (la ++ mrg key x1 y1 ++ x2 ++ y2 ++ lc) from rfl) rfl)
          refine C.region <| E.mv rfl rfl <| E.mv rfl rfl <| E.mv rfl rfl <| E.mv rfl rfl <| E.mv rfl rfl <| ?_
          refine E.call rfl rfl (ih p (la ++ mrg key x1 y1) x2 y2 lc _ _ _ _ hM.sep (by rw [List.length_append]; omega) (by omega) (by omega) (by omega) (by omega) hs2 hs4 (fun z hz => hPm z (by simp only [List.mem_append, mrg_mem] at hz; rcases hz with (((h | h | h) | h) | h) | h <;> simp [h])) (by simp only [List.length_append]; omega) (by omega)) ?_
          rintro _ w8 m8
          have hM := hM.calls [0] (by decide) rfl (by simp) m8
          try dsimp only [Za, Zb, Zc, Zd, repl] at hM
          refine E.nil <| end0 rfl ?_
          exact hM.to (Sym.twoF (by rw [hcut]; simp only [List.append_assoc]) rfl)
        ·
          have hM := hM.to (Sym.twoF (show _ = Rg.slF mkc 4 24 p (la ++ mrg key x1 y1 ++ mrg key x2 y2 ++ lc) by
            by_cases h : u < m
            · obtain rfl : y2 = [] := List.eq_nil_of_length_eq_zero (by omega)
              rw [mrg_nil, List.append_nil]
            · obtain rfl : x2 = [] := List.eq_nil_of_length_eq_zero (by omega)
              rw [mrg, List.append_nil]) rfl)
          refine C.skip <| end0 rfl ?_
          exact hM.to (Sym.twoF (by rw [hcut]; simp only [List.append_assoc]) rfl)
theorem sym_ok : ∀ N, SymOk N
 | 0 => fun _ _ _ _ _ _ _ _ _ _ _ _ _ _ _ _ _ _ _ h => absurd h (Nat.not_lt_zero _)
 | N + 1 => fun p la lx ly lc a m b w hs ha hm hb hx0 hy0 hsx hsy hP hlen hN => sym_step N (sym_ok N) p la lx ly lc a m b w hs ha hm hb hx0 hy0 hsx hsy hP hlen hN
end Go.Proofs.Ytbinlkobmlebpaa
namespace Go.Proofs.Ytbinlkobmlebpaa
open Go.RowKit Sym
open Fi
set_option maxHeartbeats 2000000 in
theorem stable_ret (p : Value) (xs : List Mk) (w : World) (hs : Sep w [Rg.slF mkc 4 24 p xs]) (hx : ∀ x ∈ xs, bdm x) (hlen : xs.length ≤ 100000) :
  Ret Try.prog 101 #[p, i64 (xs.length : Int), fnv 83 []] w fun v w' => M w (fpU [Rg.slF mkc 4 24 p xs]) w' [Rg.slF mkc 4 24 p (isort key xs)] := by
 have hM := M.startS hs
 refine enter Try.func101 rfl (by kernel_rfl) Try.ntmps101 rfl ?_
 refine C.seq <| C.region <| E.asg rfl rfl <| E.nil <| X.next <| C.seq <| C.region <| E.mv rfl rfl <| E.asg rfl rfl <| E.asg rfl rfl <| E.nil <| X.next <| C.seq <| C.block <| ?_

 refine C.loop2 [(0, _), (1, _), (2, _), (6, _)] rfl (fun (D : (List Mk)) (ys : (List Mk)) => [(7, i64 (D.length : Int)), (8, i64 ((D.length + 20 : Nat) : Int))]) (fun (D : (List Mk)) (ys : (List Mk)) w' => M w (fpU [Rg.slF mkc 4 24 p xs]) w' [Rg.slF mkc 4 24 p (D ++ ys)] ∧ D ++ chk key 20 ys = chk key 20 xs ∧ D.length + ys.length = xs.length ∧ (∀ z ∈ D, bdm z) ∧ (∀ z ∈ ys, bdm z)) (fun (D : (List Mk)) (ys : (List Mk)) => ys.length) [] xs ?_ ?_ ?_
 · exact Sub.cons rfl <| Sub.cons rfl <| Sub.nil _
 · exact ⟨hM, rfl, by simp, (fun _ h => by cases h), hx⟩
 rintro D ys w0 ⟨hM, hD, hDl, hDP, hyP⟩
 refine C.seq <| C.seq <| C.region <| E.mv rfl rfl <| E.mv rfl rfl <| E.bin rfl rfl rfl rfl <| E.nil <| X.next <| ?_
 refine C.cond' rfl (fun hC0 => ?_) (fun hC0 => ?_)
 ·
  have hy20 : 20 ≤ ys.length := by omega
  have hl2 := isort_len key (ys.take 20)
  have hl3 : (ys.take 20).length = 20 := by rw [List.length_take]; omega
  refine C.skip <| X.next <| C.block <| C.seq <| C.region <| E.mv rfl rfl <| E.mv rfl rfl <| E.mv rfl rfl <| E.mv rfl rfl <| ?_
  refine E.call rfl rfl (isort_ret p (D ++ ys) D.length (D.length + 20) _ (hM.pick [0] (by decide)).sep (mem_app hDP hyP) (by omega) (by rw [List.length_append]; omega) (by rw [List.length_append]; omega)) ?_
  rintro _ w2 m
  have hM := hM.calls [0] (by decide) rfl (by simp) m
  rw [srt_at key rfl rfl] at hM
  try dsimp only [Za, Zb, Zc, Zd, repl] at hM
  refine E.nil <| X.next <| C.seq <| C.region <| E.mv rfl rfl <| E.asg rfl rfl <| E.nil <| X.next <| C.region <| E.mv rfl rfl <| E.mv rfl rfl <| ?_
  refine E.addN (a := D.length + 20) (b := 20) rfl rfl (by omega) rfl ?_

  refine E.asg rfl rfl <| E.nil <| X.outN <| X.again2 (D ++ isort key (ys.take 20)) (ys.drop 20) (Sub.cons (look_val rfl (by rw [List.length_append]; omega)) <| Sub.cons (look_val rfl (by rw [List.length_append]; omega)) <| Sub.nil _) rfl ⟨hM, by rw [List.append_assoc, ← chk_step (by decide) hy20, hD], by rw [List.length_append, List.length_drop]; omega, mem_app hDP (mem_isort (mem_tk hyP _)), mem_dr hyP _⟩ (by rw [List.length_drop]; omega)
 ·
  refine C.exit <| X.exitT <| X.exitT <| X.outE <| X.next <| C.seq <| C.region <| E.mv rfl rfl <| E.mv rfl rfl <| E.mv rfl rfl <| E.mv rfl rfl <| ?_
  refine E.call rfl rfl (isort_ret p (D ++ ys) D.length xs.length _ (hM.pick [0] (by decide)).sep (mem_app hDP hyP) (by omega) (by rw [List.length_append]; omega) (by rw [List.length_append]; omega)) ?_
  rintro _ w2 m
  have hM := hM.calls [0] (by decide) rfl (by simp) m
  rw [srt_at key rfl hDl.symm, List.take_length, List.drop_length, List.append_nil, ← chk_small (show ys.length ≤ 20 by omega), hD] at hM
  try dsimp only [Za, Zb, Zc, Zd, repl] at hM
  refine E.nil <| X.next <| C.block <| ?_

  refine C.loop1 [(0, _), (1, _), (2, _)] rfl (fun (s : Nat) => [(6, i64 (s : Int))]) (fun (s : Nat) w' => M w (fpU [Rg.slF mkc 4 24 p xs]) w' [Rg.slF mkc 4 24 p (chk key s xs)] ∧ 0 < s ∧ s ≤ 200000) (fun (s : Nat) => xs.length - s) 20 ?_ ?_ ?_
  · exact Sub.cons rfl <| Sub.nil _
  · exact ⟨hM, by decide, by decide⟩
  rintro s w3 ⟨hM, hs0, hs1⟩
  refine C.seq <| C.seq <| C.region <| E.mv rfl rfl <| E.mv rfl rfl <| E.bin rfl rfl rfl rfl <| E.nil <| X.next <| ?_
  refine C.cond' rfl (fun hC1 => ?_) (fun hC1 => ?_)
  ·
   refine C.skip <| X.next <| C.block <| C.seq <| C.region <| E.mv rfl rfl <| ?_
   refine E.mulN (a := 2) (b := s) rfl rfl (by omega) rfl ?_
   refine E.asg rfl rfl <| E.asg rfl rfl <| E.nil <| X.next <| C.seq <| C.block <| ?_

   refine C.loop2 [(0, _), (1, _), (2, _), (6, _)] rfl (fun (D : (List Mk)) (ys : (List Mk)) => [(7, i64 (D.length : Int)), (8, i64 ((D.length + 2 * s : Nat) : Int))]) (fun (D : (List Mk)) (ys : (List Mk)) w' => M w (fpU [Rg.slF mkc 4 24 p xs]) w' [Rg.slF mkc 4 24 p (D ++ chk key s ys)] ∧ D ++ chk key (2 * s) ys = chk key (2 * s) xs ∧ D.length + ys.length = xs.length ∧ (∀ z ∈ D, bdm z) ∧ (∀ z ∈ ys, bdm z)) (fun (D : (List Mk)) (ys : (List Mk)) => ys.length) [] xs ?_ ?_ ?_
   · exact Sub.cons rfl <| Sub.cons (look_val rfl (by simp)) <| Sub.nil _
   · exact ⟨hM, rfl, by simp, (fun _ h => by cases h), hx⟩
   rintro D ys w4 ⟨hM, hD, hDl, hDP, hyP⟩
   refine C.seq <| C.seq <| C.region <| E.mv rfl rfl <| E.mv rfl rfl <| E.bin rfl rfl rfl rfl <| E.nil <| X.next <| ?_
   refine C.cond' rfl (fun hC2 => ?_) (fun hC2 => ?_)
   ·
    have hy2 : 2 * s ≤ ys.length := by omega
    have i1 := isort_len key (ys.take s)
    have i2 := isort_len key ((ys.drop s).take s)
    have l1 : (ys.take s).length = s := by rw [List.length_take]; omega
    have l2 : ((ys.drop s).take s).length = s := by rw [List.length_take, List.length_drop]; omega
    have l3 := chk_len (g := key) hs0 _ (ys.drop (2 * s)) (Nat.le_refl _)
    rw [List.length_drop] at l3
    have i4 := isort_len key (ys.take (2 * s))
    have l4 : (ys.take (2 * s)).length = 2 * s := by rw [List.length_take]; omega
    have hM := hM.to (Sym.twoF (show _ = Rg.slF mkc 4 24 p (D ++ isort key (ys.take s) ++ isort key ((ys.drop s).take s) ++ chk key s (ys.drop (2 * s))) by rw [chk_two hs0 hy2]; simp only [List.append_assoc]) rfl)
    refine C.skip <| X.next <| C.block <| C.seq <| C.region <| E.mv rfl rfl <| E.mv rfl rfl <| E.mv rfl rfl <| E.mv rfl rfl <| ?_
    refine E.addN rfl rfl (by omega) rfl ?_
    refine E.mv rfl rfl <| E.mv rfl rfl <| ?_
    refine E.call rfl rfl (sym_ok _ p D (isort key (ys.take s)) (isort key ((ys.drop s).take s)) (chk key s (ys.drop (2 * s))) D.length (D.length + s) (D.length + 2 * s) _ (hM.pick [0] (by decide)).sep rfl (by omega) (by omega) (by omega) (by omega) (isort_srt _ _ rfl) (isort_srt _ _ rfl) (mem_app (mem_app (mem_app hDP (mem_isort (mem_tk hyP _))) (mem_isort (mem_tk (mem_dr hyP _) _))) (mem_chk hs0 (mem_dr hyP _))) (by simp only [List.length_append]; omega) (Nat.lt_succ_self _)) ?_
    rintro _ w3 m3
    have hM := hM.calls [0] (by decide) rfl (by simp) m3
    rw [mrg_two_chk] at hM
    try dsimp only [Za, Zb, Zc, Zd, repl] at hM
    refine E.nil <| X.next <| C.seq <| C.region <| E.mv rfl rfl <| E.asg rfl rfl <| E.nil <| X.next <| C.region <| E.mv rfl rfl <| E.mv rfl rfl <| ?_
    refine E.mulN (a := 2) (b := s) rfl rfl (by omega) rfl ?_
    refine E.addN (a := D.length + 2 * s) (b := 2 * s) rfl rfl (by omega) rfl ?_

    refine E.asg rfl rfl <| E.nil <| X.outN <| X.again2 (D ++ isort key (ys.take (2 * s))) (ys.drop (2 * s)) (Sub.cons (look_val rfl (by rw [List.length_append]; omega)) <| Sub.cons (look_val rfl (by rw [List.length_append]; omega)) <| Sub.nil _) rfl ⟨hM, by rw [List.append_assoc, ← chk_step (by omega) hy2, hD], by rw [List.length_append, List.length_drop]; omega, mem_app hDP (mem_isort (mem_tk hyP _)), mem_dr hyP _⟩ (by rw [List.length_drop]; omega)
   ·
    refine C.exit <| X.exitT <| X.exitT <| X.outE <| X.next <| ?_

    refine C.cut0 [(0, _), (1, _), (2, _), (6, _)] rfl [] (fun w' => M w (fpU [Rg.slF mkc 4 24 p xs]) w' [Rg.slF mkc 4 24 p (chk key (2 * s) xs)]) ?_ ?_
    ·
     refine C.seq <| C.region <| E.mv rfl rfl <| E.mv rfl rfl <| ?_
     refine E.addN rfl rfl (by omega) rfl ?_
     refine E.asg rfl rfl <| E.nil <| X.next <| C.seq <| C.region <| E.mv rfl rfl <| E.mv rfl rfl <| E.bin rfl rfl rfl rfl <| E.nil <| X.next <| ?_
     refine C.cond' rfl (fun hC3 => ?_) (fun hC3 => ?_)
     ·
      have i1 := isort_len key (ys.take s)
      have i2 := isort_len key (ys.drop s)
      have l1 : (ys.take s).length = s := by rw [List.length_take]; omega
      have l2 : (ys.drop s).length = ys.length - s := by rw [List.length_drop]
      have hM := hM.to (Sym.twoF (show _ = Rg.slF mkc 4 24 p (D ++ isort key (ys.take s) ++ isort key (ys.drop s) ++ []) by rw [chk_last hs0 (by omega) (by omega)]; simp only [List.append_assoc, List.append_nil]) rfl)
      refine C.region <| E.mv rfl rfl <| E.mv rfl rfl <| E.mv rfl rfl <| E.mv rfl rfl <| E.mv rfl rfl <| ?_
      refine E.call rfl rfl (sym_ok _ p D (isort key (ys.take s)) (isort key (ys.drop s)) [] D.length (D.length + s) xs.length _ (hM.pick [0] (by decide)).sep rfl (by omega) (by omega) (by omega) (by omega) (isort_srt _ _ rfl) (isort_srt _ _ rfl) (mem_app (mem_app (mem_app hDP (mem_isort (mem_tk hyP _))) (mem_isort (mem_dr hyP _))) (fun _ h => by cases h)) (by simp only [List.length_append, List.length_nil]; omega) (Nat.lt_succ_self _)) ?_
      rintro _ w4 m4
      have hM := hM.calls [0] (by decide) rfl (by simp) m4
      rw [mrg_last, ← chk_small (show ys.length ≤ 2 * s by omega), hD] at hM
      simp only [List.append_nil] at hM
      try dsimp only [Za, Zb, Zc, Zd, repl] at hM

      refine E.nil <| X.join0  (Sub.nil _) rfl hM
     ·
      rw [chk_small (show ys.length ≤ s by omega), ← chk_small (show ys.length ≤ 2 * s by omega), hD] at hM

      refine C.skip <| X.join0  (Sub.nil _) rfl hM
    rintro  w7 hM
    refine C.region <| E.mv rfl rfl <| ?_
    refine E.mulN (a := s) (b := 2) rfl rfl (by omega) rfl ?_

    refine E.asg rfl rfl <| E.nil <| X.outN <| X.again1 (2 * s) (Sub.cons (look_val rfl (by omega)) <| Sub.nil _) rfl ⟨hM, by omega, by omega⟩ (by omega)
  ·
   rw [chk_small (show xs.length ≤ s by omega)] at hM
   refine C.exit <| X.exitT <| X.exitT <| X.outE <| end0 rfl ?_
   exact hM
theorem sort_ret (p : Value) (xs : List Mk) (w : World) (hs : Sep w [Rg.slF mkc 4 24 p xs]) (hx : ∀ x ∈ xs, bdm x) (hlen : xs.length ≤ 100000) :
  Ret Try.prog 82 #[p, fnv 83 []] w fun v w' => M w (fpU [Rg.slF mkc 4 24 p xs]) w' [Rg.slF mkc 4 24 p (isort key xs)] := by
 have hM := M.startS hs
 refine enter Try.func82 rfl (by kernel_rfl) Try.ntmps82 rfl ?_
 refine C.region <| E.mv rfl rfl <| E.mv rfl rfl <| ?_
 refine E.lenv rfl (RdF.shape (hM.slF 0 rfl)) Try.underlying22 rfl ?_
 refine E.mv rfl rfl <| ?_
 refine E.call rfl rfl (stable_ret p xs _ (hM.pick [0] (by decide)).sep hx hlen) ?_
 rintro _ w2 m
 have hM := hM.calls [0] (by decide) rfl (by simp) m
 try dsimp only [Za, Zb, Zc, Zd, repl] at hM
 refine E.nil <| end0 rfl ?_
 exact hM
end Go.Proofs.Ytbinlkobmlebpaa
namespace Go.Proofs.Ytbinlkobmlebpaa
open Go.RowKit Sym
theorem Sym.M.offA {α : Type} {enc : α → Value} {w0 w : World} {rs : List Rg} {v : Value} {l : List α} (h : M w0 Nn w rs) (hR : RdL enc w0 v l) : Off (fpU rs) v l := by
 cases l with
 | nil => exact .inl rfl
 | cons a l =>
  exact .inr fun ⟨i, r, hi, hk⟩ => by
   have h1 := (h.mine i r hi _ hk).resolve_left (fun h => h)
   have h2 := hR.lt (by simp)
   omega
namespace Fi
theorem stp_bd {l : List Mk} {o : Option Mk} (h : ∀ m ∈ l, bdm m) (ho : ∀ m, o = some m → bdm m) : ∀ m ∈ stp l o, bdm m := by
  cases o with
  | none => exact h
  | some q =>
    intro m hm
    have hm : m ∈ addM l q := hm
    have hle := fdx_le q.x q.y l
    by_cases e : fdx q.x q.y l < l.length
    · rw [addM_t e rfl] at hm
      rcases List.mem_or_eq_of_mem_set hm with hm | rfl
      · exact h m hm
      · exact (h _ (List.getElem_mem e) : bdm l[fdx q.x q.y l])
    · rw [addM_f (by omega)] at hm
      rcases List.mem_append.1 hm with hm | hm
      · exact h m hm
      · rw [List.mem_singleton] at hm; subst hm; exact ho _ rfl
theorem fold_bd : ∀ (cs : List (Option Mk)) (l : List Mk), (∀ m ∈ l, bdm m) → (∀ o ∈ cs, ∀ m, o = some m → bdm m) → ∀ m ∈ fold l cs, bdm m
 | [], l, h, _ => h
 | o :: cs, l, h, hc => by
  have h1 := stp_bd (o := o) h (hc o (by simp))
  unfold fold; split
  · exact h1
  · exact fold_bd cs _ h1 (fun o' ho' => hc o' (by simp [ho']))
theorem vis_bd {W H : Nat} {dk : List Bool} {sh : List Int} {kd : Bool} {y run : Nat} {m : Mk} (hW : W ≤ 4096) (hH : H ≤ 4096) (h : vis W H dk sh kd y run = some (some m)) (hp : 0 < sh.length) : mbd 1 m := by
  unfold vis at h
  split at h
  · cases h
  · rename_i q hq
    have hT := patv_T hq hp
    exact jud_mbd (Option.some.inj h) (fun z hz => by have := eds_mem z hz; omega) (by omega) (by omega)
theorem allC_bd {W H : Nat} {dk : List Bool} {sh : List Int} {kd : Bool} {y k : Nat} (hW : W ≤ 4096) (hH : H ≤ 4096) (hp : 0 < sh.length) : ∀ o ∈ allC W H dk sh kd y k, ∀ m, o = some m → mbd 1 m := fun o ho m hm => by
 subst hm
 unfold allC at ho
 have key : ∀ y k, (some m : Option Mk) ∈ rowC W H dk sh kd y k → mbd 1 m := fun y k h => by
  obtain ⟨run, _, hr⟩ := List.mem_filterMap.1 h
  exact vis_bd hW hH hr hp
 rcases List.mem_append.1 ho with h | h
 · obtain ⟨y', _, h'⟩ := List.mem_flatMap.1 h; exact key _ _ h'
 · exact key _ _ h
def mrk (W H : Nat) (dk : List Bool) (sh : List Int) (kd : Bool) : List Mk := fold [] (allC W H dk sh kd H 0)
theorem mrk_bd {W H : Nat} {dk : List Bool} {sh : List Int} {kd : Bool} (hW : W ≤ 4096) (hH : H ≤ 4096) (hp : 0 < sh.length) : ∀ m ∈ mrk W H dk sh kd, bdm m :=
 fold_bd _ _ (fun m hm => by cases hm) fun o ho m hm => by have := allC_bd hW hH hp o ho m hm; unfold mbd at this; unfold bdm; omega
def shq : Bool → List Int
 | true => [1, 1, 3, 1, 1]
 | false => [1, 1, 1, 1, 1, 1, 1]
end Fi
end Go.Proofs.Ytbinlkobmlebpaa
