/- Texts of the claim, laid together: Pf25. -/
import Derived.Test.YtcmgbjmcklfkcaaDoorG21
/- prefix: the stable sort. -/
namespace Go.Proofs.YtcmgbjmcklfkcaaDoor
set_option linter.unusedSimpArgs false
set_option linter.unusedVariables false
open Go.RowKit Sym

theorem srt_at {α : Type} (g : α → Nat) {D ys : List α} {a b k : Nat} (ha : a = D.length) (hb : b = D.length + k) : srt g (D ++ ys) a b = D ++ isort g (ys.take k) ++ ys.drop k := by
  subst ha hb
  unfold srt; rw [List.take_left' rfl, List.drop_left' rfl, Nat.add_sub_cancel_left, List.drop_append, List.drop_of_length_le (show D.length ≤ D.length + k by omega), Nat.add_sub_cancel_left, List.nil_append]
theorem chk_two {α : Type} {g : α → Nat} {s : Nat} {ys : List α} (hs : 0 < s) (h : 2 * s ≤ ys.length) : chk g s ys = isort g (ys.take s) ++ isort g ((ys.drop s).take s) ++ chk g s (ys.drop (2 * s)) := by
  rw [chk_step hs (by omega), chk_step hs (show s ≤ (ys.drop s).length by rw [List.length_drop]; omega), List.drop_drop, List.append_assoc, show s + s = 2 * s by omega]
theorem mrg_two_chk {α : Type} {g : α → Nat} {s : Nat} {ys : List α} : mrg g (isort g (ys.take s)) (isort g ((ys.drop s).take s)) = isort g (ys.take (2 * s)) := by
  rw [← isort_app _ _ _ rfl, show 2 * s = s + s by omega, List.take_add]
theorem chk_last {α : Type} {g : α → Nat} {s : Nat} {ys : List α} (hs : 0 < s) (h : s ≤ ys.length) (h2 : ys.length ≤ 2 * s) : chk g s ys = isort g (ys.take s) ++ isort g (ys.drop s) := by
  rw [chk_step hs h, chk_small (show (ys.drop s).length ≤ s by rw [List.length_drop]; omega)]
theorem mrg_last {α : Type} {g : α → Nat} {s : Nat} {ys : List α} : mrg g (isort g (ys.take s)) (isort g (ys.drop s)) = isort g ys := by
  rw [← isort_app _ _ _ rfl, List.take_append_drop]
theorem mem_chk {s : Nat} (hs : 0 < s) {xs P : List It} (h : ∀ z ∈ xs, z ∈ P) : ∀ z ∈ chk wi s xs, z ∈ P := fun z hz => h z (chk_mem hs z _ xs (Nat.le_refl _) hz)
theorem mem_isort {xs P : List It} (h : ∀ z ∈ xs, z ∈ P) : ∀ z ∈ isort wi xs, z ∈ P := fun z hz => h z ((isort_mem _ _ _).1 hz)
theorem mem_app {xs ys P : List It} (h : ∀ z ∈ xs, z ∈ P) (h' : ∀ z ∈ ys, z ∈ P) : ∀ z ∈ xs ++ ys, z ∈ P := fun z hz => (List.mem_append.1 hz).elim (h z) (h' z)
theorem mem_tk {xs P : List It} (h : ∀ z ∈ xs, z ∈ P) (k : Nat) : ∀ z ∈ xs.take k, z ∈ P := fun z hz => h z (List.mem_of_mem_take hz)
theorem mem_dr {xs P : List It} (h : ∀ z ∈ xs, z ∈ P) (k : Nat) : ∀ z ∈ xs.drop k, z ∈ P := fun z hz => h z (List.mem_of_mem_drop hz)
set_option maxHeartbeats 2000000 in
theorem stable_ret (p : Value) (xs : List It) (P : List It) (w : World) (hs : Sep w [Rg.sl ip 112 p xs, Rg.pool P P]) (hx : ∀ x ∈ xs, x ∈ P) (hlen : xs.length ≤ 100000) :
    Ret Tryd.prog 95 #[p, i64 (xs.length : Int), fnv 71 []] w fun v w' => M w (fpU [Rg.sl ip 112 p xs, Rg.pool P P]) w' [Rg.sl ip 112 p (isort wi xs), Rg.pool P P] := by
  have hM := M.startS hs
  refine enter Tryd.func95 rfl (by kernel_rfl) Tryd.ntmps95 rfl ?_
  refine C.seq <| C.region <| E.asg rfl rfl <| E.nil <| X.next <| C.seq <| C.region <| E.mv rfl rfl <| E.asg rfl rfl <| E.asg rfl rfl <| E.nil <| X.next <| C.seq <| C.block <| ?_

  refine C.loop2 [(0, _), (1, _), (2, _), (6, _)] rfl (fun (D : (List It)) (ys : (List It)) => [(7, i64 (D.length : Int)), (8, i64 ((D.length + 20 : Nat) : Int))]) (fun (D : (List It)) (ys : (List It)) w' => M w (fpU [Rg.sl ip 112 p xs, Rg.pool P P]) w' [Rg.sl ip 112 p (D ++ ys), Rg.pool P P] ∧ D ++ chk wi 20 ys = chk wi 20 xs ∧ D.length + ys.length = xs.length ∧ (∀ z ∈ D, z ∈ P) ∧ (∀ z ∈ ys, z ∈ P)) (fun (D : (List It)) (ys : (List It)) => ys.length) [] xs ?_ ?_ ?_
  · exact Sub.cons rfl <| Sub.cons rfl <| Sub.nil _
  · exact ⟨hM, rfl, by simp, (fun _ h => by cases h), hx⟩
  rintro D ys w0 ⟨hM, hD, hDl, hDP, hyP⟩
  refine C.seq <| C.seq <| C.region <| E.mv rfl rfl <| E.mv rfl rfl <| E.bin rfl rfl rfl rfl <| E.nil <| X.next <| ?_
  refine C.cond' rfl (fun hC0 => ?_) (fun hC0 => ?_)
  ·
    have hy20 : 20 ≤ ys.length := by omega
    have hl2 := isort_len wi (ys.take 20)
    have hl3 : (ys.take 20).length = 20 := by rw [List.length_take]; omega
    refine C.skip <| X.next <| C.block <| C.seq <| C.region <| E.mv rfl rfl <| E.mv rfl rfl <| E.mv rfl rfl <| E.mv rfl rfl <| ?_
    refine E.call rfl rfl (isort_ret p (D ++ ys) D.length (D.length + 20) P _ (hM.pick [0, 1] (by decide)).sep (mem_app hDP hyP) (by omega) (by rw [List.length_append]; omega) (by rw [List.length_append]; omega)) ?_
    rintro _ w2 m
    have hM := hM.calls [0, 1] (by decide) rfl (by simp) m
    rw [srt_at wi rfl rfl] at hM
    try dsimp only [List.nil_append, List.cons_append, List.set_cons_zero, List.set_cons_succ, repl] at hM
    refine E.nil <| X.next <| C.seq <| C.region <| E.mv rfl rfl <| E.asg rfl rfl <| E.nil <| X.next <| C.region <| E.mv rfl rfl <| E.mv rfl rfl <| ?_
    refine E.addN (a := D.length + 20) (b := 20) rfl rfl (by omega) rfl ?_

    refine E.asg rfl rfl <| E.nil <| X.outN <| X.again2 (D ++ isort wi (ys.take 20)) (ys.drop 20) (Sub.cons (look_val rfl (by rw [List.length_append]; omega)) <| Sub.cons (look_val rfl (by rw [List.length_append]; omega)) <| Sub.nil _) rfl ⟨hM, by rw [List.append_assoc, ← chk_step (by decide) hy20, hD], by rw [List.length_append, List.length_drop]; omega, mem_app hDP (mem_isort (mem_tk hyP _)), mem_dr hyP _⟩ (by rw [List.length_drop]; omega)
  ·
    refine C.exit <| X.exitT <| X.exitT <| X.outE <| X.next <| C.seq <| C.region <| E.mv rfl rfl <| E.mv rfl rfl <| E.mv rfl rfl <| E.mv rfl rfl <| ?_
    refine E.call rfl rfl (isort_ret p (D ++ ys) D.length xs.length P _ (hM.pick [0, 1] (by decide)).sep (mem_app hDP hyP) (by omega) (by rw [List.length_append]; omega) (by rw [List.length_append]; omega)) ?_
    rintro _ w2 m
    have hM := hM.calls [0, 1] (by decide) rfl (by simp) m
    rw [srt_at wi rfl hDl.symm, List.take_length, List.drop_length, List.append_nil, ← chk_small (show ys.length ≤ 20 by omega), hD] at hM
    try dsimp only [List.nil_append, List.cons_append, List.set_cons_zero, List.set_cons_succ, repl] at hM
    refine E.nil <| X.next <| C.block <| ?_

    refine C.loop1 [(0, _), (1, _), (2, _)] rfl (fun (s : Nat) => [(6, i64 (s : Int))]) (fun (s : Nat) w' => M w (fpU [Rg.sl ip 112 p xs, Rg.pool P P]) w' [Rg.sl ip 112 p (chk wi s xs), Rg.pool P P] ∧ 0 < s ∧ s ≤ 200000) (fun (s : Nat) => xs.length - s) 20 ?_ ?_ ?_
    · exact Sub.cons rfl <| Sub.nil _
    · exact ⟨hM, by decide, by decide⟩
    rintro s w3 ⟨hM, hs0, hs1⟩
    refine C.seq <| C.seq <| C.region <| E.mv rfl rfl <| E.mv rfl rfl <| E.bin rfl rfl rfl rfl <| E.nil <| X.next <| ?_
    refine C.cond' rfl (fun hC1 => ?_) (fun hC1 => ?_)
    ·
      refine C.skip <| X.next <| C.block <| C.seq <| C.region <| E.mv rfl rfl <| ?_
      refine E.mulN (a := 2) (b := s) rfl rfl (by omega) rfl ?_
      refine E.asg rfl rfl <| E.asg rfl rfl <| E.nil <| X.next <| C.seq <| C.block <| ?_

      refine C.loop2 [(0, _), (1, _), (2, _), (6, _)] rfl (fun (D : (List It)) (ys : (List It)) => [(7, i64 (D.length : Int)), (8, i64 ((D.length + 2 * s : Nat) : Int))]) (fun (D : (List It)) (ys : (List It)) w' => M w (fpU [Rg.sl ip 112 p xs, Rg.pool P P]) w' [Rg.sl ip 112 p (D ++ chk wi s ys), Rg.pool P P] ∧ D ++ chk wi (2 * s) ys = chk wi (2 * s) xs ∧ D.length + ys.length = xs.length ∧ (∀ z ∈ D, z ∈ P) ∧ (∀ z ∈ ys, z ∈ P)) (fun (D : (List It)) (ys : (List It)) => ys.length) [] xs ?_ ?_ ?_
      · exact Sub.cons rfl <| Sub.cons (look_val rfl (by simp)) <| Sub.nil _
      · exact ⟨hM, rfl, by simp, (fun _ h => by cases h), hx⟩
      rintro D ys w4 ⟨hM, hD, hDl, hDP, hyP⟩
      refine C.seq <| C.seq <| C.region <| E.mv rfl rfl <| E.mv rfl rfl <| E.bin rfl rfl rfl rfl <| E.nil <| X.next <| ?_
      refine C.cond' rfl (fun hC2 => ?_) (fun hC2 => ?_)
      ·
        have hy2 : 2 * s ≤ ys.length := by omega
        have i1 := isort_len wi (ys.take s)
        have i2 := isort_len wi ((ys.drop s).take s)
        have l1 : (ys.take s).length = s := by rw [List.length_take]; omega
        have l2 : ((ys.drop s).take s).length = s := by rw [List.length_take, List.length_drop]; omega
        have l3 := chk_len (g := wi) hs0 _ (ys.drop (2 * s)) (Nat.le_refl _)
        rw [List.length_drop] at l3
        have i4 := isort_len wi (ys.take (2 * s))
        have l4 : (ys.take (2 * s)).length = 2 * s := by rw [List.length_take]; omega
        have hM := hM.to (Sym.two (show _ = Rg.sl ip 112 p (D ++ isort wi (ys.take s) ++ isort wi ((ys.drop s).take s) ++ chk wi s (ys.drop (2 * s))) by rw [chk_two hs0 hy2]; simp only [List.append_assoc]) rfl)
        refine C.skip <| X.next <| C.block <| C.seq <| C.region <| E.mv rfl rfl <| E.mv rfl rfl <| E.mv rfl rfl <| E.mv rfl rfl <| ?_
        refine E.addN rfl rfl (by omega) rfl ?_
        refine E.mv rfl rfl <| E.mv rfl rfl <| ?_
        refine E.call rfl rfl (sym_ok _ p D (isort wi (ys.take s)) (isort wi ((ys.drop s).take s)) (chk wi s (ys.drop (2 * s))) D.length (D.length + s) (D.length + 2 * s) P _ (hM.pick [0, 1] (by decide)).sep rfl (by omega) (by omega) (by omega) (by omega) (isort_srt _ _ rfl) (isort_srt _ _ rfl) (mem_app (mem_app (mem_app hDP (mem_isort (mem_tk hyP _))) (mem_isort (mem_tk (mem_dr hyP _) _))) (mem_chk hs0 (mem_dr hyP _))) (by simp only [List.length_append]; omega) (Nat.lt_succ_self _)) ?_
        rintro _ w3 m3
        have hM := hM.calls [0, 1] (by decide) rfl (by simp) m3
        rw [mrg_two_chk] at hM
        try dsimp only [List.nil_append, List.cons_append, List.set_cons_zero, List.set_cons_succ, repl] at hM
        refine E.nil <| X.next <| C.seq <| C.region <| E.mv rfl rfl <| E.asg rfl rfl <| E.nil <| X.next <| C.region <| E.mv rfl rfl <| E.mv rfl rfl <| ?_
        refine E.mulN (a := 2) (b := s) rfl rfl (by omega) rfl ?_
        refine E.addN (a := D.length + 2 * s) (b := 2 * s) rfl rfl (by omega) rfl ?_

        refine E.asg rfl rfl <| E.nil <| X.outN <| X.again2 (D ++ isort wi (ys.take (2 * s))) (ys.drop (2 * s)) (Sub.cons (look_val rfl (by rw [List.length_append]; omega)) <| Sub.cons (look_val rfl (by rw [List.length_append]; omega)) <| Sub.nil _) rfl ⟨hM, by rw [List.append_assoc, ← chk_step (by omega) hy2, hD], by rw [List.length_append, List.length_drop]; omega, mem_app hDP (mem_isort (mem_tk hyP _)), mem_dr hyP _⟩ (by rw [List.length_drop]; omega)
      ·
        refine C.exit <| X.exitT <| X.exitT <| X.outE <| X.next <| ?_

        refine C.cut0 [(0, _), (1, _), (2, _), (6, _)] rfl [] (fun w' => M w (fpU [Rg.sl ip 112 p xs, Rg.pool P P]) w' [Rg.sl ip 112 p (chk wi (2 * s) xs), Rg.pool P P]) ?_ ?_
        ·
          refine C.seq <| C.region <| E.mv rfl rfl <| E.mv rfl rfl <| ?_
          refine E.addN rfl rfl (by omega) rfl ?_
          refine E.asg rfl rfl <| E.nil <| X.next <| C.seq <| C.region <| E.mv rfl rfl <| E.mv rfl rfl <| E.bin rfl rfl rfl rfl <| E.nil <| X.next <| ?_
          refine C.cond' rfl (fun hC3 => ?_) (fun hC3 => ?_)
          ·
            have i1 := isort_len wi (ys.take s)
            have i2 := isort_len wi (ys.drop s)
            have l1 : (ys.take s).length = s := by rw [List.length_take]; omega
            have l2 : (ys.drop s).length = ys.length - s := by rw [List.length_drop]
            have hM := hM.to (Sym.two (show _ = Rg.sl ip 112 p (D ++ isort wi (ys.take s) ++ isort wi (ys.drop s) ++ []) by rw [chk_last hs0 (by omega) (by omega)]; simp only [List.append_assoc, List.append_nil]) rfl)
            refine C.region <| E.mv rfl rfl <| E.mv rfl rfl <| E.mv rfl rfl <| E.mv rfl rfl <| E.mv rfl rfl <| ?_
            refine E.call rfl rfl (sym_ok _ p D (isort wi (ys.take s)) (isort wi (ys.drop s)) [] D.length (D.length + s) xs.length P _ (hM.pick [0, 1] (by decide)).sep rfl (by omega) (by omega) (by omega) (by omega) (isort_srt _ _ rfl) (isort_srt _ _ rfl) (mem_app (mem_app (mem_app hDP (mem_isort (mem_tk hyP _))) (mem_isort (mem_dr hyP _))) (fun _ h => by cases h)) (by simp only [List.length_append, List.length_nil]; omega) (Nat.lt_succ_self _)) ?_
            rintro _ w4 m4
            have hM := hM.calls [0, 1] (by decide) rfl (by simp) m4
            rw [mrg_last, ← chk_small (show ys.length ≤ 2 * s by omega), hD] at hM
            simp only [List.append_nil] at hM
            try dsimp only [List.nil_append, List.cons_append, List.set_cons_zero, List.set_cons_succ, repl] at hM

            refine E.nil <| X.join0  (Sub.nil _) rfl hM
          ·
            rw [chk_small (show ys.length ≤ s by omega), ← chk_small (show ys.length ≤ 2 * s by omega), hD] at hM

            refine C.skip <| X.join0  (Sub.nil _) rfl hM
        rintro  w7 hM
        refine C.region <| E.mv rfl rfl <| ?_
        refine E.mulN (a := s) (b := 2) rfl rfl (by omega) rfl ?_

        refine E.asg rfl rfl <| E.nil <| X.outN <| X.again1 (2 * s) (Sub.cons (look_val rfl (by omega)) <| Sub.nil _) rfl ⟨hM, by omega, by omega⟩ (by omega)
    ·
      rw [chk_small (show xs.length ≤ s by omega)] at hM
      refine C.exit <| X.exitT <| X.exitT <| X.outE <| end0 rfl ?_
      exact hM

theorem sort_ret (p : Value) (xs : List It) (P : List It) (w : World) (hs : Sep w [Rg.sl ip 112 p xs, Rg.pool P P]) (hx : ∀ x ∈ xs, x ∈ P) (hlen : xs.length ≤ 100000) :
    Ret Tryd.prog 70 #[p, fnv 71 []] w fun v w' => M w (fpU [Rg.sl ip 112 p xs, Rg.pool P P]) w' [Rg.sl ip 112 p (isort wi xs), Rg.pool P P] := by
  have hM := M.startS hs
  refine enter Tryd.func70 rfl (by kernel_rfl) Tryd.ntmps70 rfl ?_
  refine C.region <| E.mv rfl rfl <| E.mv rfl rfl <| ?_
  refine E.lenv rfl (Rd.shape (hM.sl 0 rfl)) Tryd.underlying111 rfl ?_
  refine E.mv rfl rfl <| ?_
  refine E.call rfl rfl (stable_ret p xs P _ (hM.pick [0, 1] (by decide)).sep hx hlen) ?_
  rintro _ w2 m
  have hM := hM.calls [0, 1] (by decide) rfl (by simp) m
  try dsimp only [List.nil_append, List.cons_append, List.set_cons_zero, List.set_cons_succ, repl] at hM
  refine E.nil <| end0 rfl ?_
  exact hM

end Go.Proofs.YtcmgbjmcklfkcaaDoor
