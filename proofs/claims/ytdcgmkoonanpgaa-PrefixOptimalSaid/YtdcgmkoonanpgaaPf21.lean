/- prefix: rotation. -/
import Derived.Test.YtdcgmkoonanpgaaPf20
namespace Go.Proofs.Ytdcgmkoonanpgaa
set_option linter.unusedSimpArgs false
set_option linter.unusedVariables false
open Go.RowKit Sym

theorem rot_u {α : Type} (qa qu qv qc : List α) (j : Nat) : qa ++ qu ++ qv ++ qc = qa ++ qu.take j ++ qu.drop j ++ qv ++ qc := by rw [List.append_assoc qa (qu.take j), List.take_append_drop]
theorem rot_v {α : Type} (qa qu qv qc : List α) (j : Nat) : qa ++ qu ++ qv ++ qc = qa ++ qu ++ qv.take j ++ qv.drop j ++ qc := by rw [List.append_assoc (qa ++ qu) (qv.take j), List.take_append_drop]
set_option maxHeartbeats 1000000 in
theorem rotate_ret (p : Value) (la lu lv lc : List It) (a m b : Nat) (fv : Value) (P : List It) (w : World) (hs : Sep w [Rg.sl ip 97 p (la ++ lu ++ lv ++ lc), Rg.pool P P]) (ha : a = la.length) (hm : m = la.length + lu.length) (hb : b = m + lv.length) (hu : 0 < lu.length) (hv : 0 < lv.length) (hlen : (la ++ lu ++ lv ++ lc).length ≤ 1000000) :
    Ret Try.prog 97 #[p, i64 a, i64 m, i64 b, fv] w fun v w' => M w (fpU [Rg.sl ip 97 p (la ++ lu ++ lv ++ lc), Rg.pool P P]) w' [Rg.sl ip 97 p (la ++ lv ++ lu ++ lc), Rg.pool P P] := by
  have hM := M.startS hs
  refine enter Try.func97 rfl (by kernel_rfl) Try.ntmps97 rfl ?_
  refine C.seq <| C.region <| E.mv rfl rfl <| E.mv rfl rfl <| ?_
  simp only [List.length_append] at hlen
  refine E.subN rfl rfl (by omega) rfl ?_
  refine E.asg rfl rfl <| E.nil <| X.next <| C.seq <| C.region <| E.mv rfl rfl <| E.mv rfl rfl <| ?_
  refine E.subN rfl rfl (by omega) rfl ?_
  refine E.asg rfl rfl <| E.nil <| X.next <| C.seq <| C.block <| ?_

  refine C.loop4 [(0, _), (2, _), (4, _)] rfl (fun (qa : (List It)) (qu : (List It)) (qv : (List It)) (qc : (List It)) => [(10, i64 (qu.length : Int)), (11, i64 (qv.length : Int))]) (fun (qa : (List It)) (qu : (List It)) (qv : (List It)) (qc : (List It)) w' => M w (fpU [Rg.sl ip 97 p (la ++ lu ++ lv ++ lc), Rg.pool P P]) w' [Rg.sl ip 97 p (qa ++ qu ++ qv ++ qc), Rg.pool P P] ∧ qa.length + qu.length = m ∧ 0 < qu.length ∧ 0 < qv.length ∧ qa ++ qv ++ qu ++ qc = la ++ lv ++ lu ++ lc) (fun (qa : (List It)) (qu : (List It)) (qv : (List It)) (qc : (List It)) => qu.length + qv.length) la lu lv lc ?_ ?_ ?_
  · exact Sub.cons (look_val rfl (by omega)) <| Sub.cons (look_val rfl (by omega)) <| Sub.nil _
  · exact ⟨hM, hm.symm, hu, hv, rfl⟩
  rintro qa qu qv qc w0 ⟨hM, hq, hu0, hv0, he⟩
  refine C.seq <| C.seq <| C.region <| E.mv rfl rfl <| E.mv rfl rfl <| E.bin rfl rfl rfl rfl <| E.nil <| X.next <| ?_
  refine C.cond' rfl (fun hC0 => ?_) (fun hC0 => ?_)
  ·
    have hql : qa.length + qv.length + qu.length + qc.length = la.length + lv.length + lu.length + lc.length := by
      have := congrArg List.length he
      simpa only [List.length_append] using this
    refine C.skip <| X.next <| C.block <| C.seq <| C.region <| E.mv rfl rfl <| E.mv rfl rfl <| E.bin rfl rfl rfl rfl <| E.nil <| X.next <| ?_
    refine C.cond' rfl (fun hC1 => ?_) (fun hC1 => ?_)
    ·
      have hul : (qu.take qv.length).length = qv.length := by rw [List.length_take]; omega
      have hdl : (qu.drop qv.length).length = qu.length - qv.length := by simp
      rw [rot_u qa qu qv qc qv.length] at hM
      refine C.seq <| C.region <| E.mv rfl rfl <| E.mv rfl rfl <| E.mv rfl rfl <| ?_
      refine E.subN rfl rfl (by omega) rfl ?_
      refine E.mv rfl rfl <| E.mv rfl rfl <| E.mv rfl rfl <| ?_
      refine E.call rfl rfl (swap_ret p qa (qu.take qv.length) (qu.drop qv.length) qv qc _ _ _ fv P _ (hM.pick [0, 1] (by decide)).sep (by omega) (by omega) (by omega) (by omega) (by simp only [List.length_append]; omega)) ?_
      rintro _ w2 m2
      have hM := hM.calls [0, 1] (by decide) rfl (by simp) m2
      try dsimp only [List.nil_append, List.cons_append, List.set_cons_zero, List.set_cons_succ, repl] at hM
      refine E.nil <| X.next <| C.region <| E.mv rfl rfl <| E.mv rfl rfl <| ?_
      refine E.subN rfl rfl (by omega) rfl ?_

      refine E.asg rfl rfl <| E.nil <| X.outN <| X.again4 (qa ++ qv) (qu.drop qv.length) (qu.take qv.length) qc (Sub.cons (look_val rfl (by omega)) <| Sub.cons (look_val rfl (by omega)) <| Sub.nil _) rfl ⟨hM, by rw [List.length_append]; omega, by omega, by omega, by rw [← he, List.append_assoc (qa ++ qv), List.take_append_drop]⟩ (by omega)
    ·
      have hul : (qv.take (qv.length - qu.length)).length = qv.length - qu.length := by rw [List.length_take]; omega
      have hdl : (qv.drop (qv.length - qu.length)).length = qu.length := by simp; omega
      rw [rot_v qa qu qv qc (qv.length - qu.length)] at hM
      refine C.seq <| C.region <| E.mv rfl rfl <| E.mv rfl rfl <| E.mv rfl rfl <| ?_
      refine E.subN rfl rfl (by omega) rfl ?_
      refine E.mv rfl rfl <| E.mv rfl rfl <| ?_
      refine E.addN rfl rfl (by omega) rfl ?_
      refine E.mv rfl rfl <| ?_
      refine E.subN rfl rfl (by omega) rfl ?_
      refine E.mv rfl rfl <| E.mv rfl rfl <| ?_
      refine E.call rfl rfl (swap_ret p qa qu (qv.take (qv.length - qu.length)) (qv.drop (qv.length - qu.length)) qc _ _ _ fv P _ (hM.pick [0, 1] (by decide)).sep (by omega) (by omega) (by omega) (by omega) (by simp only [List.length_append]; omega)) ?_
      rintro _ w3 m3
      have hM := hM.calls [0, 1] (by decide) rfl (by simp) m3
      try dsimp only [List.nil_append, List.cons_append, List.set_cons_zero, List.set_cons_succ, repl] at hM
      refine E.nil <| X.next <| C.region <| E.mv rfl rfl <| E.mv rfl rfl <| ?_
      refine E.subN rfl rfl (by omega) rfl ?_

      refine E.asg rfl rfl <| E.nil <| X.outN <| X.again4 qa (qv.drop (qv.length - qu.length)) (qv.take (qv.length - qu.length)) (qu ++ qc) (Sub.cons (look_val rfl (by omega)) <| Sub.cons (look_val rfl (by omega)) <| Sub.nil _) rfl ⟨hM.to (Sym.two (by rw [← List.append_assoc]) rfl), by omega, by omega, by omega, by rw [← he, List.append_assoc qa, List.take_append_drop, ← List.append_assoc]⟩ (by omega)
  ·
    have hql : qa.length + qv.length + qu.length + qc.length = la.length + lv.length + lu.length + lc.length := by
      have := congrArg List.length he
      simpa only [List.length_append] using this
    have hM := hM.to (Sym.two (show _ = Rg.sl ip 97 p (qa ++ qu ++ [] ++ qv ++ qc) by rw [List.append_nil]) rfl)
    refine C.exit <| X.exitT <| X.exitT <| X.outE <| X.next <| C.region <| E.mv rfl rfl <| E.mv rfl rfl <| E.mv rfl rfl <| ?_
    refine E.subN rfl rfl (by omega) rfl ?_
    refine E.mv rfl rfl <| E.mv rfl rfl <| E.mv rfl rfl <| ?_
    refine E.call rfl rfl (swap_ret p qa qu [] qv qc _ _ _ fv P _ (hM.pick [0, 1] (by decide)).sep (by omega) (by simp; omega) (by omega) (by omega) (by simp only [List.length_append, List.length_nil]; omega)) ?_
    rintro _ w4 m4
    have hM := hM.calls [0, 1] (by decide) rfl (by simp) m4
    try dsimp only [List.nil_append, List.cons_append, List.set_cons_zero, List.set_cons_succ, repl] at hM
    refine E.nil <| end0 rfl ?_
    exact hM.to (Sym.two (by rw [← he, List.append_nil]) rfl)

end Go.Proofs.Ytdcgmkoonanpgaa
