/- Texts of the claim, laid together: Fd8. -/
import Derived.Test.Ytbinlkobmlebpaax0
import Derived.Test.Ytbinlkobmlebpaax8
set_option linter.unusedSimpArgs false
set_option linter.unusedVariables false
namespace Go.Proofs.Ytbinlkobmlebpaa
open Go.RowKit Sym
open Fi
set_option maxHeartbeats 1000000 in
theorem swap_ret (p : Value) (la lx lb ly lc : List Mk) (a b n : Nat) (fv : Value) (w : World) (hs : Sep w [Rg.slF mkc 4 24 p (la ++ lx ++ lb ++ ly ++ lc)]) (ha : a = la.length) (hb : b = la.length + lx.length + lb.length) (hn : n = lx.length) (hXY : lx.length = ly.length) (hlen : (la ++ lx ++ lb ++ ly ++ lc).length ≤ 1000000) :
  Ret Try.prog 117 #[p, i64 a, i64 b, i64 n, fv] w fun v w' => M w (fpU [Rg.slF mkc 4 24 p (la ++ lx ++ lb ++ ly ++ lc)]) w' [Rg.slF mkc 4 24 p (la ++ ly ++ lb ++ lx ++ lc)] := by
 have hM := M.startS hs
 refine enter Try.func117 rfl (by kernel_rfl) Try.ntmps117 rfl ?_
 refine C.seq <| C.region <| E.asg rfl rfl <| E.nil <| X.next <| C.block <| ?_
 subst ha hb hn
 simp only [List.length_append] at hlen
 rw [← swp_zero] at hM

 refine C.loop1 [(0, _), (1, _), (2, _), (3, _)] rfl (fun (i : Nat) => [(10, i64 i)]) (fun (i : Nat) w' => M w (fpU [Rg.slF mkc 4 24 p (la ++ lx ++ lb ++ ly ++ lc)]) w' [Rg.slF mkc 4 24 p (swp la lx lb ly lc i)] ∧ i ≤ lx.length) (fun (i : Nat) => lx.length - i) 0 ?_ ?_ ?_
 · exact Sub.cons rfl <| Sub.nil _
 · exact ⟨hM, Nat.zero_le _⟩
 rintro i w0 ⟨hM, hi⟩
 refine C.seq <| C.seq <| C.region <| E.mv rfl rfl <| E.mv rfl rfl <| E.bin rfl rfl rfl rfl <| E.nil <| X.next <| ?_
 refine C.cond' rfl (fun hC0 => ?_) (fun hC0 => ?_)
 ·
  have hi' : i < lx.length := by omega
  refine C.skip <| X.next <| C.seq <| C.block <| C.heldM hM [] (by decide) (by kernel_rfl) fun wh1 hM hS => ?_
  have hR := hM.slF 0 rfl
  refine H.take 0 rfl rfl (by kernel_rfl) (by kernel_rfl) (by kernel_rfl) hS (fun w' hM => Y.mv rfl) rfl ?_
  refine H.take 1 rfl rfl (by kernel_rfl) (by kernel_rfl) (by kernel_rfl) hS (fun w' hM => Y.mv rfl) rfl ?_
  refine H.take 2 rfl rfl (by kernel_rfl) (by kernel_rfl) (by kernel_rfl) hS (fun w' hM => Y.mv rfl) rfl ?_
  refine H.take 3 rfl rfl (by kernel_rfl) (by kernel_rfl) (by kernel_rfl) hS (fun w' hM => Y.addN rfl rfl (by omega)) rfl ?_
  refine H.take 4 rfl rfl (by kernel_rfl) (by kernel_rfl) (by kernel_rfl) hS (fun w' hM => Y.mv rfl) rfl ?_
  refine H.take 5 rfl rfl (by kernel_rfl) (by kernel_rfl) (by kernel_rfl) hS (fun w' hM => Y.mv rfl) rfl ?_
  refine H.take 6 rfl rfl (by kernel_rfl) (by kernel_rfl) (by kernel_rfl) hS (fun w' hM => Y.mv rfl) rfl ?_
  refine H.take 7 rfl rfl (by kernel_rfl) (by kernel_rfl) (by kernel_rfl) hS (fun w' hM => Y.addN rfl rfl (by omega)) rfl ?_
  refine H.take 8 rfl rfl (by kernel_rfl) (by kernel_rfl) (by kernel_rfl) hS (fun w' hM => Y.mv rfl) rfl ?_
  refine H.take 9 rfl rfl (by kernel_rfl) (by kernel_rfl) (by kernel_rfl) hS (fun w' hM => Y.mv rfl) rfl ?_
  refine H.take 10 rfl rfl (by kernel_rfl) (by kernel_rfl) (by kernel_rfl) hS (fun w' hM => Y.mv rfl) rfl ?_
  refine H.take 11 rfl rfl (by kernel_rfl) (by kernel_rfl) (by kernel_rfl) hS (fun w' hM => Y.addN rfl rfl (by omega)) rfl ?_
  refine H.takeV 12 rfl rfl (by kernel_rfl) (by kernel_rfl) (by kernel_rfl) hS (Y.idxFW _ ((la.length + lx.length + lb.length + i)) rfl rfl hR rfl (by rw [swp_len la lx lb ly lc hXY (by omega)]; omega) (by decide) Try.underlying22 (by kernel_rfl)) (fun w' hM => Y.idxFW _ ((la.length + lx.length + lb.length + i)) rfl rfl hR rfl (by rw [swp_len la lx lb ly lc hXY (by omega)]; omega) (by decide) Try.underlying22 (by kernel_rfl)) rfl ?_
  refine H.take 14 rfl rfl (by kernel_rfl) (by kernel_rfl) (by kernel_rfl) hS (fun w' hM => Y.mv rfl) rfl ?_
  refine H.take 15 rfl rfl (by kernel_rfl) (by kernel_rfl) (by kernel_rfl) hS (fun w' hM => Y.mv rfl) rfl ?_
  refine H.take 16 rfl rfl (by kernel_rfl) (by kernel_rfl) (by kernel_rfl) hS (fun w' hM => Y.mv rfl) rfl ?_
  refine H.take 17 rfl rfl (by kernel_rfl) (by kernel_rfl) (by kernel_rfl) hS (fun w' hM => Y.addN rfl rfl (by omega)) rfl ?_
  refine H.takeV 18 rfl rfl (by kernel_rfl) (by kernel_rfl) (by kernel_rfl) hS (Y.idxFW _ ((la.length + i)) rfl rfl hR rfl (by rw [swp_len la lx lb ly lc hXY (by omega)]; omega) (by decide) Try.underlying22 (by kernel_rfl)) (fun w' hM => Y.idxFW _ ((la.length + i)) rfl rfl hR rfl (by rw [swp_len la lx lb ly lc hXY (by omega)]; omega) (by decide) Try.underlying22 (by kernel_rfl)) rfl ?_
  refine H.two 13 19 rfl rfl (by kernel_rfl) ?_ ?_
  ·
   refine E.loadA (cs := mkc _) rfl Try.underlying24 rfl (by kernel_rfl) ((hM.slF 0 rfl).all (by rw [swp_len la lx lb ly lc hXY (by omega)]; omega)) rfl ?_
   rw [swp_y hXY hi' rfl]
   have hS := hM.pick [] (by decide)
   refine H.back hS ?_
   refine H.only 19 rfl (by kernel_rfl) ?_
   refine E.loadA (cs := mkc _) rfl Try.underlying24 rfl (by kernel_rfl) ((hM.slF 0 rfl).all (by rw [swp_len la lx lb ly lc hXY (by omega)]; omega)) rfl ?_
   rw [swp_x hXY hi' rfl]
   have hS := hM.pick [] (by decide)
   refine H.back hS ?_
   refine H.takeV 20 rfl rfl (by kernel_rfl) (by kernel_rfl) (by kernel_rfl) hS (Y.idxFW _ ((la.length + i)) rfl rfl hR rfl (by rw [swp_len la lx lb ly lc hXY (by omega)]; omega) (by decide) Try.underlying22 (by kernel_rfl)) (fun w' hM => Y.idxFW _ ((la.length + i)) rfl rfl hR rfl (by rw [swp_len la lx lb ly lc hXY (by omega)]; omega) (by decide) Try.underlying22 (by kernel_rfl)) rfl ?_
   refine H.only 21 rfl (by kernel_rfl) ?_
   refine E.storeEM (k := (la.length + i)) 0 ly[i] hM rfl rfl rfl (by kernel_rfl) rfl (ones rfl <| ones rfl <| ones rfl <| ones rfl <| ones_nil) rfl (by rw [swp_len la lx lb ly lc hXY (by omega)]; omega) ?_
   intro w2 hM
   try dsimp only [Za, Zb, Zc, Zd, repl] at hM
   have hS := hM.pick [] (by decide)
   refine H.back hS ?_
   refine H.takeV 22 rfl rfl (by kernel_rfl) (by kernel_rfl) (by kernel_rfl) hS (Y.idxFW _ ((la.length + lx.length + lb.length + i)) rfl rfl hR rfl (by rw [swp_len la lx lb ly lc hXY (by omega)]; omega) (by decide) Try.underlying22 (by kernel_rfl)) (fun w' hM => Y.idxFW _ ((la.length + lx.length + lb.length + i)) rfl rfl hR rfl (by rw [swp_len la lx lb ly lc hXY (by omega)]; omega) (by decide) Try.underlying22 (by kernel_rfl)) rfl ?_
   refine H.only 23 rfl (by kernel_rfl) ?_
   refine E.storeEM (k := (la.length + lx.length + lb.length + i)) 0 lx[i] hM rfl rfl rfl (by kernel_rfl) rfl (ones rfl <| ones rfl <| ones rfl <| ones rfl <| ones_nil) rfl (by rw [List.length_set]; rw [swp_len la lx lb ly lc hXY (by omega)]; omega) ?_
   intro w3 hM
   try dsimp only [Za, Zb, Zc, Zd, repl] at hM
   rw [swp_step hXY hi' rfl rfl] at hM
   have hS := hM.pick [] (by decide)
   refine H.back hS ?_
   refine H.done (by kernel_rfl) ?_
   refine X.outN <| X.next <| C.region <| E.mv rfl rfl <| ?_
   refine E.addN (b := 1) rfl rfl (by omega) rfl ?_

   refine E.asg rfl rfl <| E.nil <| X.again1 (i + 1) (Sub.cons rfl <| Sub.nil _) rfl ⟨hM, by omega⟩ (by omega)
  ·
   refine E.loadA (cs := mkc _) rfl Try.underlying24 rfl (by kernel_rfl) ((hM.slF 0 rfl).all (by rw [swp_len la lx lb ly lc hXY (by omega)]; omega)) rfl ?_
   rw [swp_x hXY hi' rfl]
   have hS := hM.pick [] (by decide)
   refine H.back hS ?_
   refine H.only 13 rfl (by kernel_rfl) ?_
   refine E.loadA (cs := mkc _) rfl Try.underlying24 rfl (by kernel_rfl) ((hM.slF 0 rfl).all (by rw [swp_len la lx lb ly lc hXY (by omega)]; omega)) rfl ?_
   rw [swp_y hXY hi' rfl]
   have hS := hM.pick [] (by decide)
   refine H.back hS ?_
   refine H.takeV 20 rfl rfl (by kernel_rfl) (by kernel_rfl) (by kernel_rfl) hS (Y.idxFW _ ((la.length + i)) rfl rfl hR rfl (by rw [swp_len la lx lb ly lc hXY (by omega)]; omega) (by decide) Try.underlying22 (by kernel_rfl)) (fun w' hM => Y.idxFW _ ((la.length + i)) rfl rfl hR rfl (by rw [swp_len la lx lb ly lc hXY (by omega)]; omega) (by decide) Try.underlying22 (by kernel_rfl)) rfl ?_
   refine H.only 21 rfl (by kernel_rfl) ?_
   refine E.storeEM (k := (la.length + i)) 0 ly[i] hM rfl rfl rfl (by kernel_rfl) rfl (ones rfl <| ones rfl <| ones rfl <| ones rfl <| ones_nil) rfl (by rw [swp_len la lx lb ly lc hXY (by omega)]; omega) ?_
   intro w4 hM
   try dsimp only [Za, Zb, Zc, Zd, repl] at hM
   have hS := hM.pick [] (by decide)
   refine H.back hS ?_
   refine H.takeV 22 rfl rfl (by kernel_rfl) (by kernel_rfl) (by kernel_rfl) hS (Y.idxFW _ ((la.length + lx.length + lb.length + i)) rfl rfl hR rfl (by rw [swp_len la lx lb ly lc hXY (by omega)]; omega) (by decide) Try.underlying22 (by kernel_rfl)) (fun w' hM => Y.idxFW _ ((la.length + lx.length + lb.length + i)) rfl rfl hR rfl (by rw [swp_len la lx lb ly lc hXY (by omega)]; omega) (by decide) Try.underlying22 (by kernel_rfl)) rfl ?_
   refine H.only 23 rfl (by kernel_rfl) ?_
   refine E.storeEM (k := (la.length + lx.length + lb.length + i)) 0 lx[i] hM rfl rfl rfl (by kernel_rfl) rfl (ones rfl <| ones rfl <| ones rfl <| ones rfl <| ones_nil) rfl (by rw [List.length_set]; rw [swp_len la lx lb ly lc hXY (by omega)]; omega) ?_
   intro w5 hM
   try dsimp only [Za, Zb, Zc, Zd, repl] at hM
   rw [swp_step hXY hi' rfl rfl] at hM
   have hS := hM.pick [] (by decide)
   refine H.back hS ?_
   refine H.done (by kernel_rfl) ?_
   refine X.outN <| X.next <| C.region <| E.mv rfl rfl <| ?_
   refine E.addN (b := 1) rfl rfl (by omega) rfl ?_

   refine E.asg rfl rfl <| E.nil <| X.again1 (i + 1) (Sub.cons rfl <| Sub.nil _) rfl ⟨hM, by omega⟩ (by omega)
 ·
  obtain rfl : i = lx.length := by omega
  rw [swp_end la lx lb ly lc hXY] at hM
  refine C.exit <| X.exitT <| X.exitT <| X.outE <| end0 rfl ?_
  exact hM
set_option maxHeartbeats 1000000 in
theorem rotate_ret (p : Value) (la lu lv lc : List Mk) (a m b : Nat) (fv : Value) (w : World) (hs : Sep w [Rg.slF mkc 4 24 p (la ++ lu ++ lv ++ lc)]) (ha : a = la.length) (hm : m = la.length + lu.length) (hb : b = m + lv.length) (hu : 0 < lu.length) (hv : 0 < lv.length) (hlen : (la ++ lu ++ lv ++ lc).length ≤ 1000000) :
  Ret Try.prog 114 #[p, i64 a, i64 m, i64 b, fv] w fun v w' => M w (fpU [Rg.slF mkc 4 24 p (la ++ lu ++ lv ++ lc)]) w' [Rg.slF mkc 4 24 p (la ++ lv ++ lu ++ lc)] := by
 have hM := M.startS hs
 refine enter Try.func114 rfl (by kernel_rfl) Try.ntmps114 rfl ?_
 refine C.seq <| C.region <| E.mv rfl rfl <| E.mv rfl rfl <| ?_
 simp only [List.length_append] at hlen
 refine E.subN rfl rfl (by omega) rfl ?_
 refine E.asg rfl rfl <| E.nil <| X.next <| C.seq <| C.region <| E.mv rfl rfl <| E.mv rfl rfl <| ?_
 refine E.subN rfl rfl (by omega) rfl ?_
 refine E.asg rfl rfl <| E.nil <| X.next <| C.seq <| C.block <| ?_

 refine C.loop4 [(0, _), (2, _), (4, _)] rfl (fun (qa : (List Mk)) (qu : (List Mk)) (qv : (List Mk)) (qc : (List Mk)) => [(10, i64 (qu.length : Int)), (11, i64 (qv.length : Int))]) (fun (qa : (List Mk)) (qu : (List Mk)) (qv : (List Mk)) (qc : (List Mk)) w' => M w (fpU [Rg.slF mkc 4 24 p (la ++ lu ++ lv ++ lc)]) w' [Rg.slF mkc 4 24 p (qa ++ qu ++ qv ++ qc)] ∧ qa.length + qu.length = m ∧ 0 < qu.length ∧ 0 < qv.length ∧ qa ++ qv ++ qu ++ qc = la ++ lv ++ lu ++ lc) (fun (qa : (List Mk)) (qu : (List Mk)) (qv : (List Mk)) (qc : (List Mk)) => qu.length + qv.length) la lu lv lc ?_ ?_ ?_
 · exact Sub.cons (look_val rfl (by omega)) <| Sub.cons (look_val rfl (by omega)) <| Sub.nil _
 · exact ⟨hM, hm.symm, hu, hv, rfl⟩
 rintro qa qu qv qc w0 ⟨hM, hq, hu0, hv0, he⟩
 refine C.seq <| C.seq <| C.region <| E.mv rfl rfl <| E.mv rfl rfl <| E.bin rfl rfl rfl rfl <| E.nil <| X.next <| ?_
 refine C.cond' rfl (fun hC0 => ?_) (fun hC0 => ?_)
 ·
  have hql : qa.length + qv.length + qu.length + qc.length = la.length + lv.length + lu.length + lc.length := by
   have := congrArg List.length he
   simpa only [List.length_append] using this
  refine C.skip <| X.next <| C.block <| C.seq <| C.region <| E.mv rfl rfl <| E.mv rfl rfl <| E.bin rfl rfl rfl rfl <| E.nil <| X.next <| ?_
  refine C.cond' rfl (fun hC1 => ?_) (fun hC1 => ?_)
  ·
   have hul : (qu.take qv.length).length = qv.length := by rw [List.length_take]; omega
   have hdl : (qu.drop qv.length).length = qu.length - qv.length := by simp
   rw [rot_u qa qu qv qc qv.length] at hM
   refine C.seq <| C.region <| E.mv rfl rfl <| E.mv rfl rfl <| E.mv rfl rfl <| ?_
   refine E.subN rfl rfl (by omega) rfl ?_
   refine E.mv rfl rfl <| E.mv rfl rfl <| E.mv rfl rfl <| ?_
   refine E.call rfl rfl (swap_ret p qa (qu.take qv.length) (qu.drop qv.length) qv qc _ _ _ fv _ (hM.pick [0] (by decide)).sep (by omega) (by omega) (by omega) (by omega) (by simp only [List.length_append]; omega)) ?_
   rintro _ w2 m2
   have hM := hM.calls [0] (by decide) rfl (by simp) m2
   try dsimp only [Za, Zb, Zc, Zd, repl] at hM
   refine E.nil <| X.next <| C.region <| E.mv rfl rfl <| E.mv rfl rfl <| ?_
   refine E.subN rfl rfl (by omega) rfl ?_

   refine E.asg rfl rfl <| E.nil <| X.outN <| X.again4 (qa ++ qv) (qu.drop qv.length) (qu.take qv.length) qc (Sub.cons (look_val rfl (by omega)) <| Sub.cons (look_val rfl (by omega)) <| Sub.nil _) rfl ⟨hM, by rw [List.length_append]; omega, by omega, by omega, by rw [← he, List.append_assoc (qa ++ qv), List.take_append_drop]⟩ (by omega)
  ·
   have hul : (qv.take (qv.length - qu.length)).length = qv.length - qu.length := by rw [List.length_take]; omega
   have hdl : (qv.drop (qv.length - qu.length)).length = qu.length := by simp; omega
   rw [rot_v qa qu qv qc (qv.length - qu.length)] at hM
   refine C.seq <| C.region <| E.mv rfl rfl <| E.mv rfl rfl <| E.mv rfl rfl <| ?_
   refine E.subN rfl rfl (by omega) rfl ?_
   refine E.mv rfl rfl <| E.mv rfl rfl <| ?_
   refine E.addN rfl rfl (by omega) rfl ?_
   refine E.mv rfl rfl <| ?_
   refine E.subN rfl rfl (by omega) rfl ?_
   refine E.mv rfl rfl <| E.mv rfl rfl <| ?_
   refine E.call rfl rfl (swap_ret p qa qu (qv.take (qv.length - qu.length)) (qv.drop (qv.length - qu.length)) qc _ _ _ fv _ (hM.pick [0] (by decide)).sep (by omega) (by omega) (by omega) (by omega) (by simp only [List.length_append]; omega)) ?_
   rintro _ w3 m3
   have hM := hM.calls [0] (by decide) rfl (by simp) m3
   try dsimp only [Za, Zb, Zc, Zd, repl] at hM
   refine E.nil <| X.next <| C.region <| E.mv rfl rfl <| E.mv rfl rfl <| ?_
   refine E.subN rfl rfl (by omega) rfl ?_

   refine E.asg rfl rfl <| E.nil <| X.outN <| X.again4 qa (qv.drop (qv.length - qu.length)) (qv.take (qv.length - qu.length)) (qu ++ qc) (Sub.cons (look_val rfl (by omega)) <| Sub.cons (look_val rfl (by omega)) <| Sub.nil _) rfl ⟨hM.to (Sym.twoF (by rw [← List.append_assoc]) rfl), by omega, by omega, by omega, by rw [← he, List.append_assoc qa, List.take_append_drop, ← List.append_assoc]⟩ (by omega)
 ·
  have hql : qa.length + qv.length + qu.length + qc.length = la.length + lv.length + lu.length + lc.length := by
   have := congrArg List.length he
   simpa only [List.length_append] using this
  have hM := hM.to (Sym.twoF (show _ = Rg.slF mkc 4 24 p (qa ++ qu ++ [] ++ qv ++ qc) by rw [List.append_nil]) rfl)
  refine C.exit <| X.exitT <| X.exitT <| X.outE <| X.next <| C.region <| E.mv rfl rfl <| E.mv rfl rfl <| E.mv rfl rfl <| ?_
  refine E.subN rfl rfl (by omega) rfl ?_
  refine E.mv rfl rfl <| E.mv rfl rfl <| E.mv rfl rfl <| ?_
  refine E.call rfl rfl (swap_ret p qa qu [] qv qc _ _ _ fv _ (hM.pick [0] (by decide)).sep (by omega) (by simp; omega) (by omega) (by omega) (by simp only [List.length_append, List.length_nil]; omega)) ?_
  rintro _ w4 m4
  have hM := hM.calls [0] (by decide) rfl (by simp) m4
  try dsimp only [Za, Zb, Zc, Zd, repl] at hM
  refine E.nil <| end0 rfl ?_
  exact hM.to (Sym.twoF (by rw [← he, List.append_nil]) rfl)
end Go.Proofs.Ytbinlkobmlebpaa
