/- Texts of the claim, laid together: Pf25, Pf13, Pf26, Pf30, Pf31. -/
import Derived.Test.YtajklleiifhipaaGreatDoorY0
import Derived.Test.YtajklleiifhipaaGreatDoorY5
import Derived.Test.YtajklleiifhipaaGreatDoorY7
import Derived.Test.YtajklleiifhipaaGreatDoorY8
set_option linter.unusedSimpArgs false
set_option linter.unusedVariables false
namespace Go.Proofs.YtajklleiifhipaaGreatDoor
open Go.RowKit Sym
theorem srt_at {α : Type} (g : α → Nat) {D ys : List α} {a b k : Nat} (ha : a = D.length) (hb : b = D.length + k) : srt g (D ++ ys) a b = D ++ isort g (ys.take k) ++ ys.drop k := by
 subst ha hb
 unfold srt; rw [List.take_left' rfl, List.drop_left' rfl, Nat.add_sub_cancel_left, List.drop_append, List.drop_of_length_le (show D.length ≤ D.length + k by omega), Nat.add_sub_cancel_left, List.nil_append]
theorem chk_two {α : Type} {g : α → Nat} {s : Nat} {ys : List α} (hs : 0 < s) (h : 2 * s ≤ ys.length) : chk g s ys = isort g (ys.take s) ++ isort g ((ys.drop s).take s) ++ chk g s (ys.drop (2 * s)) := by
 rw [chk_step hs (by omega), chk_step hs (show s ≤ (ys.drop s).length by rw [List.length_drop]; omega), List.drop_drop, List.append_assoc, show s + s = 2 * s by omega]
theorem mrg_two_chk {α : Type} {g : α → Nat} {s : Nat} {ys : List α} : mrg g (isort g (ys.take s)) (isort g ((ys.drop s).take s)) = isort g (ys.take (2 * s)) := by
 rw [← isort_app _ _ _ rfl, show 2 * s = s + s by omega, List.take_add]
theorem chk_last {α : Type} {g : α → Nat} {s : Nat} {ys : List α} (hs : 0 < s) (h : s ≤ ys.length) (h2 : ys.length ≤ 2 * s) : chk g s ys = isort g (ys.take s) ++ isort g (ys.drop s) := by
 rw [chk_step hs h, chk_small (show (ys.drop s).length ≤ s by rw [List.length_drop]; omega)]
theorem mrg_last {α : Type} {g : α → Nat} {s : Nat} {ys : List α} : mrg g (isort g (ys.take s)) (isort g (ys.drop s)) = isort g ys := by
 rw [← isort_app _ _ _ rfl, List.take_append_drop]
theorem mem_chk {s : Nat} (hs : 0 < s) {xs P : List It} (h : ∀ z ∈ xs, z ∈ P) : ∀ z ∈ chk wi s xs, z ∈ P := fun z hz => h z (chk_mem hs z _ xs (Nat.le_refl _) hz)
theorem mem_isort {xs P : List It} (h : ∀ z ∈ xs, z ∈ P) : ∀ z ∈ isort wi xs, z ∈ P := fun z hz => h z ((isort_mem _ _ _).1 hz)
theorem mem_app {xs ys P : List It} (h : ∀ z ∈ xs, z ∈ P) (h' : ∀ z ∈ ys, z ∈ P) : ∀ z ∈ xs ++ ys, z ∈ P := fun z hz => (List.mem_append.1 hz).elim (h z) (h' z)
theorem mem_tk {xs P : List It} (h : ∀ z ∈ xs, z ∈ P) (k : Nat) : ∀ z ∈ xs.take k, z ∈ P := fun z hz => h z (List.mem_of_mem_take hz)
theorem mem_dr {xs P : List It} (h : ∀ z ∈ xs, z ∈ P) (k : Nat) : ∀ z ∈ xs.drop k, z ∈ P := fun z hz => h z (List.mem_of_mem_drop hz)
set_option maxHeartbeats 2000000 in
theorem stable_ret (p : Value) (xs : List It) (P : List It) (w : World) (hs : Sep w [Rg.sl ip 155 p xs, Rg.pool P P]) (hx : ∀ x ∈ xs, x ∈ P) (hlen : xs.length ≤ 100000) :
  Ret Tryz.prog 156 #[p, i64 (xs.length : Int), fnv 133 []] w fun v w' => M w (fpU [Rg.sl ip 155 p xs, Rg.pool P P]) w' [Rg.sl ip 155 p (isort wi xs), Rg.pool P P] := by
 have hM := M.startS hs
 refine enter Tryz.func156 rfl (by kernel_rfl) Tryz.ntmps156 rfl $ Kb $ Kd rfl $ Km rfl $ Kn rfl $ Kc rfl $ C.seq $ C.block $ C.loop2 [(0, _), (1, _), (2, _), (6, _)] rfl (fun (D : (List It)) (ys : (List It)) => [(7, i64 (D.length : Int)), (8, i64 ((D.length + 20 : Nat) : Int))]) (fun (D : (List It)) (ys : (List It)) w' => M w (fpU [Rg.sl ip 155 p xs, Rg.pool P P]) w' [Rg.sl ip 155 p (D ++ ys), Rg.pool P P] ∧ D ++ chk wi 20 ys = chk wi 20 xs ∧ D.length + ys.length = xs.length ∧ (∀ z ∈ D, z ∈ P) ∧ (∀ z ∈ ys, z ∈ P)) (fun (D : (List It)) (ys : (List It)) => ys.length) [] xs ?_ ?_ ?_
 · exact Sub.cons rfl $ S1 rfl
 · exact ⟨hM, rfl, by simp, (fun _ h => by cases h), hx⟩
 rintro D ys w0 ⟨hM, hD, hDl, hDP, hyP⟩
 refine C.seq $ Kb $ Kf rfl $ Kp rfl $ Ka $ C.cond' rfl (fun hC0 => ?_) (fun hC0 => ?_)
 ·
  have hy20 : 20 ≤ ys.length := by omega
  have hl2 := isort_len wi (ys.take 20)
  have hl3 : (ys.take 20).length = 20 := by rw [List.length_take]; omega
  refine Kk $ C.block $ Kb $ Kf rfl $ Kf rfl $ E.call rfl rfl (isort_ret p (D ++ ys) D.length (D.length + 20) P _ (hM.pick [0, 1] (by decide)).sep (mem_app hDP hyP) (by omega) (by rw [List.length_append]; omega) (by rw [List.length_append]; omega)) ?_
  rintro _ w2 m
  have hM := hM.calls [0, 1] (by decide) rfl (by simp) m
  rw [srt_at wi rfl rfl] at hM
  refine Ke $ Km rfl $ Kc rfl $ C.region $ Kf rfl $ E.addN (a := D.length + 20) (b := 20) rfl rfl (by omega) rfl $ Kn rfl $ E.nil $ X.outN $ X.again2 (D ++ isort wi (ys.take 20)) (ys.drop 20) (Sub.cons (look_val rfl (by rw [List.length_append]; omega)) $ Sub.cons (look_val rfl (by rw [List.length_append]; omega)) $ Sub.nil _) rfl ⟨hM, by rw [List.append_assoc, ← chk_step (by decide) hy20, hD], by rw [List.length_append, List.length_drop]; omega, mem_app hDP (mem_isort (mem_tk hyP _)), mem_dr hyP _⟩ (by rw [List.length_drop]; omega)
 refine Kx $ Kb $ Kf rfl $ Kf rfl $ E.call rfl rfl (isort_ret p (D ++ ys) D.length xs.length P _ (hM.pick [0, 1] (by decide)).sep (mem_app hDP hyP) (by omega) (by rw [List.length_append]; omega) (by rw [List.length_append]; omega)) ?_
 rintro _ w2 m
 have hM := hM.calls [0, 1] (by decide) rfl (by simp) m
 rw [srt_at wi rfl hDl.symm, List.take_length, List.drop_length, List.append_nil, ← chk_small (show ys.length ≤ 20 by omega), hD] at hM
 refine Ka $ C.block $ C.loop1 [(0, _), (1, _), (2, _)] rfl (fun (s : Nat) => [(6, i64 (s : Int))]) (fun (s : Nat) w' => M w (fpU [Rg.sl ip 155 p xs, Rg.pool P P]) w' [Rg.sl ip 155 p (chk wi s xs), Rg.pool P P] ∧ 0 < s ∧ s ≤ 200000) (fun (s : Nat) => xs.length - s) 20 ?_ ?_ ?_
 · exact S1 rfl
 · exact ⟨hM, by decide, by decide⟩
 rintro s w3 ⟨hM, hs0, hs1⟩
 refine C.seq $ Kb $ Kf rfl $ Kp rfl $ Ka $ C.cond' rfl (fun hC1 => ?_) (fun hC1 => ?_)
 ·
  refine Kk $ C.block $ Kb $ Km rfl $ E.mulN (a := 2) (b := s) rfl rfl (by omega) rfl $ Kn rfl $ Kc rfl $ C.seq $ C.block $ C.loop2 [(0, _), (1, _), (2, _), (6, _)] rfl (fun (D : (List It)) (ys : (List It)) => [(7, i64 (D.length : Int)), (8, i64 ((D.length + 2 * s : Nat) : Int))]) (fun (D : (List It)) (ys : (List It)) w' => M w (fpU [Rg.sl ip 155 p xs, Rg.pool P P]) w' [Rg.sl ip 155 p (D ++ chk wi s ys), Rg.pool P P] ∧ D ++ chk wi (2 * s) ys = chk wi (2 * s) xs ∧ D.length + ys.length = xs.length ∧ (∀ z ∈ D, z ∈ P) ∧ (∀ z ∈ ys, z ∈ P)) (fun (D : (List It)) (ys : (List It)) => ys.length) [] xs ?_ ?_ ?_
  · exact Sub.cons rfl $ Sub.cons (look_val rfl (by simp)) $ Sub.nil _
  · exact ⟨hM, rfl, by simp, (fun _ h => by cases h), hx⟩
  rintro D ys w4 ⟨hM, hD, hDl, hDP, hyP⟩
  refine C.seq $ Kb $ Kf rfl $ Kp rfl $ Ka $ C.cond' rfl (fun hC2 => ?_) (fun hC2 => ?_)
  ·
   have hy2 : 2 * s ≤ ys.length := by omega
   have i1 := isort_len wi (ys.take s)
   have i2 := isort_len wi ((ys.drop s).take s)
   have l1 : (ys.take s).length = s := by rw [List.length_take]; omega
   have l2 : ((ys.drop s).take s).length = s := by rw [List.length_take, List.length_drop]; omega
   have l3 := chk_len (g := wi) hs0 _ (ys.drop (2 * s)) (Nat.le_refl _)
   rw [List.length_drop] at l3
   have i4 := isort_len wi (ys.take (2 * s))
   have l4 : (ys.take (2 * s)).length = 2 * s := by rw [List.length_take]; omega
   have hM := hM.to (Sym.two (show _ = Rg.sl ip 155 p (D ++ isort wi (ys.take s) ++ isort wi ((ys.drop s).take s) ++ chk wi s (ys.drop (2 * s))) by rw [chk_two hs0 hy2]; simp only [List.append_assoc]) rfl)
   refine Kk $ C.block $ Kb $ Kf rfl $ Kf rfl $ E.addN rfl rfl (by omega) rfl $ Kf rfl $ E.call rfl rfl (sym_ok _ p D (isort wi (ys.take s)) (isort wi ((ys.drop s).take s)) (chk wi s (ys.drop (2 * s))) D.length (D.length + s) (D.length + 2 * s) P _ (hM.pick [0, 1] (by decide)).sep rfl (by omega) (by omega) (by omega) (by omega) (isort_srt _ _ rfl) (isort_srt _ _ rfl) (mem_app (mem_app (mem_app hDP (mem_isort (mem_tk hyP _))) (mem_isort (mem_tk (mem_dr hyP _) _))) (mem_chk hs0 (mem_dr hyP _))) (by simp only [List.length_append]; omega) (Nat.lt_succ_self _)) ?_
   rintro _ w3 m3
   have hM := hM.calls [0, 1] (by decide) rfl (by simp) m3
   rw [mrg_two_chk] at hM
   refine Ke $ Km rfl $ Kc rfl $ C.region $ Kf rfl $ E.mulN (a := 2) (b := s) rfl rfl (by omega) rfl $ E.addN (a := D.length + 2 * s) (b := 2 * s) rfl rfl (by omega) rfl $ Kn rfl $ E.nil $ X.outN $ X.again2 (D ++ isort wi (ys.take (2 * s))) (ys.drop (2 * s)) (Sub.cons (look_val rfl (by rw [List.length_append]; omega)) $ Sub.cons (look_val rfl (by rw [List.length_append]; omega)) $ Sub.nil _) rfl ⟨hM, by rw [List.append_assoc, ← chk_step (by omega) hy2, hD], by rw [List.length_append, List.length_drop]; omega, mem_app hDP (mem_isort (mem_tk hyP _)), mem_dr hyP _⟩ (by rw [List.length_drop]; omega)
  refine Kx $ C.cut0 [(0, _), (1, _), (2, _), (6, _)] rfl [] (fun w' => M w (fpU [Rg.sl ip 155 p xs, Rg.pool P P]) w' [Rg.sl ip 155 p (chk wi (2 * s) xs), Rg.pool P P]) ?_ ?_
  ·
   refine Kb $ Kf rfl $ E.addN rfl rfl (by omega) rfl $ Kd rfl $ Kf rfl $ Kp rfl $ Ka $ C.cond' rfl (fun hC3 => ?_) (fun hC3 => ?_)
   ·
    have i1 := isort_len wi (ys.take s)
    have i2 := isort_len wi (ys.drop s)
    have l1 : (ys.take s).length = s := by rw [List.length_take]; omega
    have l2 : (ys.drop s).length = ys.length - s := by rw [List.length_drop]
    have hM := hM.to (Sym.two (show _ = Rg.sl ip 155 p (D ++ isort wi (ys.take s) ++ isort wi (ys.drop s) ++ []) by rw [chk_last hs0 (by omega) (by omega)]; simp only [List.append_assoc, List.append_nil]) rfl)
    refine C.region $ Kf rfl $ Kf rfl $ Km rfl $ E.call rfl rfl (sym_ok _ p D (isort wi (ys.take s)) (isort wi (ys.drop s)) [] D.length (D.length + s) xs.length P _ (hM.pick [0, 1] (by decide)).sep rfl (by omega) (by omega) (by omega) (by omega) (isort_srt _ _ rfl) (isort_srt _ _ rfl) (mem_app (mem_app (mem_app hDP (mem_isort (mem_tk hyP _))) (mem_isort (mem_dr hyP _))) (fun _ h => by cases h)) (by simp only [List.length_append, List.length_nil]; omega) (Nat.lt_succ_self _)) ?_
    rintro _ w4 m4
    have hM := hM.calls [0, 1] (by decide) rfl (by simp) m4
    rw [mrg_last, ← chk_small (show ys.length ≤ 2 * s by omega), hD] at hM
    simp only [List.append_nil] at hM
    refine E.nil $ X.join0  (Sub.nil _) rfl hM
   rw [chk_small (show ys.length ≤ s by omega), ← chk_small (show ys.length ≤ 2 * s by omega), hD] at hM
   refine C.skip $ X.join0  (Sub.nil _) rfl hM
  rintro  w7 hM
  refine C.region $ Km rfl $ E.mulN (a := s) (b := 2) rfl rfl (by omega) rfl $ Kn rfl $ E.nil $ X.outN $ X.again1 (2 * s) (Sub.cons (look_val rfl (by omega)) $ Sub.nil _) rfl ⟨hM, by omega, by omega⟩ (by omega)
 rw [chk_small (show xs.length ≤ s by omega)] at hM
 refine C.exit $ X.exitT $ X.exitT $ X.outE $ end0 rfl ?_
 exact hM
theorem sort_ret (p : Value) (xs : List It) (P : List It) (w : World) (hs : Sep w [Rg.sl ip 155 p xs, Rg.pool P P]) (hx : ∀ x ∈ xs, x ∈ P) (hlen : xs.length ≤ 100000) :
  Ret Tryz.prog 132 #[p, fnv 133 []] w fun v w' => M w (fpU [Rg.sl ip 155 p xs, Rg.pool P P]) w' [Rg.sl ip 155 p (isort wi xs), Rg.pool P P] := by
 have hM := M.startS hs
 refine enter Tryz.func132 rfl (by kernel_rfl) Tryz.ntmps132 rfl $ C.region $ Kf rfl $ E.lenv rfl (Rd.shape (hM.sl 0 rfl)) U154 rfl $ Km rfl $ E.call rfl rfl (stable_ret p xs P _ (hM.pick [0, 1] (by decide)).sep hx hlen) ?_
 rintro _ w2 m
 have hM := hM.calls [0, 1] (by decide) rfl (by simp) m
 refine E.nil $ end0 rfl ?_
 exact hM
end Go.Proofs.YtajklleiifhipaaGreatDoor
namespace Go.Proofs.YtajklleiifhipaaGreatDoor
open Go.RowKit Sym
theorem lnv_bad {zs : List Int} {most : Int} (h : ¬ (if 4096 < zs.length then (4 : Int) else if okr zs 1099511627776 = true then 0 else 3) = 0) : lnv zs most = ([], if 4096 < zs.length then 4 else if okr zs 1099511627776 = true then 0 else 3) := by
 unfold lnv
 by_cases h1 : 4096 < zs.length
 · rw [if_pos h1, if_pos h1]
 rw [if_neg h1, if_neg h1]
 rw [if_neg h1] at h
 by_cases h2 : okr zs 1099511627776 = true
 · rw [if_pos h2] at h; exact (h rfl).elim
 rw [if_pos h2, if_neg h2]
theorem lnv_rng {zs : List Int} {most : Int} (h1 : zs.length ≤ 4096) (h2 : okr zs 1099511627776 = true) (h : most < 1 ∨ 30 < most) : lnv zs most = ([], 3) := by
 unfold lnv; rw [if_neg (by omega), if_neg (fun h => h h2), if_pos h]
theorem lnv_cap {zs : List Int} {mo : Nat} (h1 : zs.length ≤ 4096) (h2 : okr zs 1099511627776 = true) (h : 1 ≤ mo ∧ mo ≤ 30) (hc : 2 ^ mo < (Sg zs).length) : lnv zs mo = ([], 16) := by
 unfold lnv; rw [if_neg (by omega), if_neg (fun h => h h2), if_neg (by omega), Int.toNat_natCast, if_pos hc]
theorem lnv_ok {zs : List Int} {mo : Nat} (h1 : zs.length ≤ 4096) (h2 : okr zs 1099511627776 = true) (h : 1 ≤ mo ∧ mo ≤ 30) (hc : ¬ 2 ^ mo < (Sg zs).length) : lnv zs mo = (lens (Sg zs) zs.length mo, 0) := by
 unfold lnv; rw [if_neg (by omega), if_neg (fun h => h h2), if_neg (by omega), Int.toNat_natCast, if_neg hc]
theorem ini_one {b f s n : Nat} (hs : s < n) : (zeros n).set s 1 = ini (isort Tr.wt [Tr.leaf f s]) n := by
 have e : isort Tr.wt [Tr.leaf f s] = [Tr.leaf f s] := rfl
 rw [e, ini, if_pos (show [Tr.leaf f s].length = 1 from rfl)]
 show _ = (zeros n).set s ((zeros n).getD s 0 + 1)
 rw [zeros, List.getD_eq_getElem?_getD, List.getElem?_replicate, if_pos hs]; rfl
theorem sgl_gd {fs : List Nat} {B : Nat} (hB : ∀ f ∈ fs, f ≤ B) : ∀ t ∈ isort Tr.wt (sgl fs), Gd fs.length t ∧ t.wt ≤ B := fun t ht => by
 obtain ⟨f, s, rfl, h1, h2, h3⟩ := sgl_spec hB t ((isort_mem _ _ _).1 ht)
 exact ⟨⟨h1, h3⟩, h2⟩
theorem lvl_wt {S : List Tr} {k : Nat} (hS : ∀ t ∈ S, t.wt ≤ 1099511627776) (hl : S.length ≤ 4096) (hk : k ≤ 29) : tw (lvl S k) ≤ 135107988821114880 := by
 have h1 := lvl_tw S k
 have h2 := tw_le hS
 have h3 : tw S ≤ 4503599627370496 := by omega
 have h4 := Nat.mul_le_mul (show k + 1 ≤ 30 by omega) h3
 omega
theorem lrd {w0 w : World} {S : Nat → Prop} {r1 r2 r3 rx : Rg} {v7 v11 : Value} {ys zs : List It} (hM : M w0 S w [Rg.sl ip 155 v7 ys, r1, r2, r3, rx]) (h : (v11 = v7 ∧ zs = ys) ∨ rx = Rg.sl ip 155 v11 zs) : RdL ip w v11 zs := by
 rcases h with ⟨rfl, rfl⟩ | rfl
 · exact hM.sl 0 rfl
 exact hM.sl 4 rfl
theorem lrd_take {w : World} {v : Value} {zs : List It} {n : Nat} (h : RdL ip w v zs) (hn : n ≤ zs.length) : RdL ip w (partV v 0 n) (zs.take n) := by
 have := h.partV (a := 0) (b := n) (Nat.zero_le _) hn
 rw [show cutL 0 n zs = zs.take n by simp [cutL]] at this; exact this
theorem flat_snoc {l : List Tr} {j : Nat} (h : j < l.length) : (l.take (j + 1)).flatMap Tr.sy = (l.take j).flatMap Tr.sy ++ l[j].sy := by
 rw [← List.take_append_getElem h, List.flatMap_append]; simp
end Go.Proofs.YtajklleiifhipaaGreatDoor
namespace Go.Proofs.YtajklleiifhipaaGreatDoor
open Go.RowKit Sym
set_option maxHeartbeats 4000000 in
set_option maxRecDepth 4000 in
theorem Lengths_ret (p : Value) (zs : List Int) (most : Int) (w : World) (hr : RdL i64 w p zs) :
  Ret Tryz.prog 95 #[p, i64 most] w fun v w' => ∃ vo, v = .tuple #[vo, i64 (lnv zs most).2] ∧ M w Nn w' [Rg.sl i64 3 vo (lnv zs most).1] := by
 have hM := M.start w
 refine enter Tryz.func95 rfl (by kernel_rfl) Tryz.ntmps95 rfl $ Kb $ Kn rfl $ Kc rfl $ C.seq $ Kb $ Km rfl $ E.call rfl rfl (within_ret p zs 1099511627776 _ (hM.arg0 hr)) ?_
 rintro _ w1 ⟨rfl, x1⟩
 have hM := hM.ext x1
 refine Kd rfl $ Km rfl $ Kp rfl $ Ka $ C.cond' rfl (fun hC0 => ?_) (fun hC0 => ?_)
 ·
  refine Kb $ Km rfl $ Kn rfl $ Kc rfl $ C.ret $ X.retT $ ret2 rfl rfl rfl ?_
  exact ⟨_, by rw [lnv_bad hC0], by rw [lnv_bad hC0]; exact hM.nil i64 3⟩
 obtain ⟨hl4, hok⟩ := wt_ok (Decidable.byContradiction hC0)
 refine Kk $ C.seq $ C.chainE [(0, _), (1, _)] rfl [(24, .bool (decide (most < 1 ∨ 30 < most)))] ?_ ?_
 ·
  refine C.region $ Km rfl $ Kp rfl $ Km rfl $ E.split 21 rfl (fun g21 => ?_) (fun g21 => ?_)
  ·
   try simp only [Ya, Yb, Yc, Yd, Ye, Yf] at g21
   refine Kq rfl $ Kq rfl $ Kr rfl $ E.nil $ X.join0 (Sub.cons (by exact leaf_t (by omega)) $ Sub.nil _) rfl rfl
  try simp only [Ya, Yb, Yc, Yd, Ye, Yf] at g21
  refine Ko rfl $ Km rfl $ Ko rfl $ Kp rfl $ Kr rfl $ E.nil $ X.join0 (Sub.cons (by exact leaf_d (by omega)) $ Sub.nil _) rfl rfl
 refine C.cond' rfl (fun hC1 => ?_) (fun hC1 => ?_)
 ·
  refine Kb $ Kn rfl $ Kc rfl $ C.ret $ X.retT $ ret2 rfl rfl rfl ?_
  exact ⟨_, by rw [lnv_rng hl4 hok hC1], by rw [lnv_rng hl4 hok hC1]; exact hM.nil i64 3⟩
 obtain ⟨mo, rfl⟩ : ∃ mo : Nat, most = (mo : Int) := ⟨most.toNat, by omega⟩
 have hmo : 1 ≤ mo ∧ mo ≤ 30 := by omega
 obtain ⟨hz, hbB⟩ := toN_nz (m := 1099511627776) hok
 have hlz := toN_len zs
 obtain ⟨fs, hfs⟩ : ∃ fs, fs = toN zs := ⟨_, rfl⟩
 have hSg : Sg zs = (isort Tr.wt (sgl fs)) := by rw [hfs]
 rw [← hfs] at hz hbB hlz
 have hr' : RdL i64 w p (nz fs) := by rw [← hz]; exact hr
 have hnl := nz_len fs
 have hSl := sgl_len fs
 have hSi := isort_len Tr.wt (sgl fs)
 refine Kk $ Kb $ Kc rfl $ C.seq $ Kb $ Km rfl $ E.lenv rfl (Rd.shape (hM.arg0 hr')) U76 rfl ?_
 rw [nz_len]
 refine Km rfl $ Ka $ C.block $ ?_
 have hM := (hM.nil ip 155).poolNil []
 refine C.loop3 [(0, _), (1, _), (25, _), (26, _)] rfl (fun (i : Nat) (xs : (List It)) (v7 : Value) => [(7, v7), (27, i64 i)]) (fun (i : Nat) (xs : (List It)) (v7 : Value) w' => M w (Nn) w' [Rg.sl ip 155 v7 xs, Rg.pool xs xs] ∧ i ≤ fs.length ∧ xs.map Prod.snd = sgl (fs.take i) ∧ xs.length ≤ i) (fun (i : Nat) (xs : (List It)) (v7 : Value) => fs.length - i) 0 [] nilI ?_ ?_ ?_
 · exact Sub.cons rfl $ S1 rfl
 · exact ⟨hM, Nat.zero_le _, rfl, Nat.le_refl _⟩
 rintro i xs v7 w1 ⟨hM, hi, hxs, hxl⟩
 refine Kb $ Kp rfl $ Ka $ C.seq $ C.cond' rfl (fun hC2 => ?_) (fun hC2 => ?_)
 ·
  have hi' : i < fs.length := by omega
  have hsn := sgl_snoc hi'
  refine Kk $ C.cut2 [(0, _), (1, _), (25, _), (26, _), (27, _)] rfl (fun (xs : (List It)) (v7 : Value) => [(7, v7)]) (fun (xs : (List It)) (v7 : Value) w' => M w (Nn) w' [Rg.sl ip 155 v7 xs, Rg.pool xs xs] ∧ xs.map Prod.snd = sgl (fs.take (i + 1)) ∧ xs.length ≤ i + 1) ?_ ?_
  ·
   refine C.block $ Kb $ Km rfl $ E.get (k := i) rfl rfl (hM.arg0 hr') rfl (by omega) U76 (by kernel_rfl) U3 rfl rfl rfl ?_
   rw [nz_get hi']
   refine Kn rfl $ Kd rfl $ Km rfl $ Kp rfl $ Ka $ C.cond' rfl (fun hC3 => ?_) (fun hC3 => ?_)
   ·
    refine C.region $ Kf rfl $ Km rfl $ E.buildC (cs := [_, _, _, _]) [.int .i64 0, .int .i64 0, .pointer none, .pointer none] [0, 1] rfl rfl (by kernel_rfl) rfl $ E.boxM hM rfl rfl rfl ?_
    intro b38 w2 hM
    refine E.pushM (enc := ip) 0 (b38, Tr.leaf fs[i] i) hM rfl rfl rfl U154 elem_Tp_prefix_item_int rfl (by omega) (by omega) (by simp) rfl rfl ?_
    intro v40 u40 w3 hM
    have hM := hM.poolAdd (t := Tr.leaf fs[i] i) 1 2 (by decide) rfl rfl rfl
    have hM := hM.poolSub 1 rfl (P' := xs ++ [(b38, Tr.leaf fs[i] i)]) (fun x h => List.mem_append_left _ h)
    refine Kn rfl $ E.nil $ X.outN $ X.join2 (xs ++ [(b38, Tr.leaf fs[i] i)]) v40 (S1 rfl) rfl ⟨hM.pick [0, 1] (by decide), by rw [hsn, if_pos (by omega), List.map_append, hxs]; rfl, by simp; omega⟩
   refine C.skip $ X.outN $ X.join2 xs v7 (S1 rfl) rfl ⟨hM, by rw [hsn, if_neg (by omega), List.append_nil, hxs], by omega⟩
  rintro xs v7 w4 ⟨hM, hxs, hxl⟩
  refine C.region $ E.add rfl rfl (by omega) rfl $ Km rfl $ E.nil $ X.again3 (i + 1) xs v7 (Sub.cons rfl $ S1 rfl) rfl ⟨hM, by omega, hxs, by omega⟩ (by omega)
 obtain rfl : i = fs.length := by omega
 rw [List.take_length] at hxs
 have hn : (isort Tr.wt (sgl fs)).length = xs.length := by rw [isort_len, ← hxs, List.length_map]
 have hgd := sgl_gd hbB
 have hmp : (isort wi xs).map Prod.snd = (isort Tr.wt (sgl fs)) := by rw [← hxs]; exact isort_map wi Tr.wt Prod.snd (fun _ => rfl) xs
 have hp30 : 2 ^ mo ≤ 2 ^ 30 := Nat.pow_le_pow_right (by decide) hmo.2
 refine Kx $ C.seq $ Kb $ Km rfl $ E.lenv rfl (Rd.shape (hM.sl 0 rfl)) U154 rfl $ Km rfl $ E.shl rfl rfl (by omega) (shl_nat (a := 1) (k := mo) (c := 2 ^ mo) (by omega) (Nat.one_mul _) (by omega)) rfl $ Kp rfl $ Ka $ C.cond' rfl (fun hC4 => ?_) (fun hC4 => ?_)
 ·
  have hlv := lnv_cap hl4 hok hmo (by rw [hSg, hn]; exact Int.ofNat_lt.1 hC4)
  refine Kb $ Kn rfl $ Kc rfl $ C.ret $ X.retT $ ret2 rfl rfl rfl ?_
  exact ⟨_, by rw [hlv], by rw [hlv]; exact (hM.nil i64 3).pick [2] (by decide)⟩
 have hcap : ¬ 2 ^ mo < xs.length := fun h => hC4 (Int.ofNat_lt.2 h)
 have hlv := lnv_ok hl4 hok hmo (by rw [hSg, hn]; exact hcap)
 rw [hSg, ← hlz] at hlv
 refine Kk $ Kb $ Km rfl $ E.lenv rfl (Rd.shape (hM.arg0 hr')) U76 rfl ?_
 rw [nz_len]
 refine E.makeM (by_ := 8) (enc := i64) 0 hM rfl U76 (by kernel_rfl) rfl (by omega) (by omega) rfl ?_
 intro v49 w5 hM
 refine E.varM (z := .slice none 0 0) hM (by kernel_rfl) rfl rfl (fun _ => rfl) (by kernel_rfl) (by exact (hM.sl 2 rfl).one) ?_
 intro b10 w6 hM
 refine Ka $ C.cut0 [(1, _), (7, _), (10, _)] rfl [] (fun w' => M w (Nn) w' [Rg.sl ip 155 v7 xs, Rg.pool xs xs, Rg.sl i64 3 v49 (ini (isort Tr.wt (sgl fs)) fs.length), Rg.blk b10 76 [v49]]) ?_ ?_
 ·
  refine Kb $ Km rfl $ E.lenv rfl (Rd.shape (hM.sl 0 rfl)) U154 rfl $ Kp rfl $ Ka $ C.cond' rfl (fun hC5 => ?_) (fun hC5 => ?_)
  ·
   obtain ⟨x0, hx0⟩ : ∃ x0, xs = [x0] := by
    match xs, hC5 with
    | [x0], _ => exact ⟨x0, rfl⟩
    | [], h => simp at h
    | _ :: _ :: _, h => simp at h; omega
   subst hx0
   obtain ⟨b0, t0⟩ := x0
   obtain ⟨f0, s0, rfl, hf1, hf2, hs0⟩ := sgl_spec hbB t0 (by rw [← hxs]; simp)
   refine C.drawnT 8 (by kernel_rfl) (by kernel_rfl) fun wh7 hwh7 => ?_
   have hM := hM.ext hwh7
   refine S.load rfl U76 rfl (hM.bcell 3 rfl rfl) rfl $ S.mv rfl rfl $ S.idx1 (k := 0) rfl rfl (hM.sl 0 rfl) rfl (by simp) U154 (by kernel_rfl) rfl $ S.load rfl U155 rfl ((hM.sl 0 rfl).cell (by simp)) rfl $ S.nilc rfl rfl $ S.fld (o := 1) (sz := 0) rfl U157 rfl rfl (by kernel_rfl) rfl $ S.load rfl U3 rfl ((hM.pool 1 rfl).leaf (f := f0) (s := s0) (by simp)).1 rfl $ S.idx1 (k := s0) rfl rfl (hM.sl 2 rfl) rfl (by simp; exact hs0) U76 (by kernel_rfl) rfl $ S.nil $ E.storeL (j := s0) 2 1 hM rfl rfl rfl (by kernel_rfl) rfl rfl (by simp; exact hs0) ?_
   intro w8 hM
   refine E.nil $ X.join0  (Sub.nil _) rfl (hM.to (by rw [← hxs]; exact congrArg (fun L => [_, _, Rg.sl i64 3 v49 L, _]) (ini_one (b := b0) (f := f0) hs0)))
  refine C.skip $ X.join0  (Sub.nil _) rfl (hM.to (by rw [ini, if_neg (by omega)]; rfl))
 rintro  w9 hM
 refine C.seq $ Kb $ Km rfl $ E.lenv rfl (Rd.shape (hM.sl 0 rfl)) U154 rfl $ Kp rfl $ Ka $ C.cond' rfl (fun hC6 => ?_) (fun hC6 => ?_)
 ·
  refine Kb $ E.load rfl U76 rfl (hM.bcell 3 rfl rfl) rfl $ Kn rfl $ Kc rfl $ C.ret $ X.retT $ ret2 rfl rfl rfl ?_
  exact ⟨_, by rw [hlv], by rw [hlv, lens, if_pos (by omega)]; exact hM.pick [2] (by decide)⟩
 rw [ini, if_neg (by omega)] at hM
 refine Kk $ Kb $ Km rfl $ E.call rfl rfl (sort_ret v7 xs xs _ (hM.pick [0, 1] (by decide)).sep (fun x h => h) (by omega)) ?_
 rintro _ w10 m
 have hM := hM.calls [0, 1] (by decide) rfl (by simp) m
 refine Ke $ Km rfl $ Kc rfl $ C.seq $ Kb $ Km rfl $ E.subN (a := mo) (b := 1) rfl rfl (by omega) rfl $ Km rfl $ Ka $ C.block $ ?_
 have hM := hM.new (Ext.refl _) (r := Rg.emp) trivial (fun _ h => h.elim)
 have hyl := isort_len wi xs
 have hS1 : ∀ t ∈ (isort Tr.wt (sgl fs)), t.wt ≤ 1099511627776 := fun t h => (hgd t h).2
 have hS2 : ∀ t ∈ (isort Tr.wt (sgl fs)), Gd fs.length t := fun t h => (hgd t h).1
 refine C.loop5 [(7, _), (10, _), (69, _)] rfl (fun (k : Nat) (P : (List It)) (zs1 : (List It)) (v11 : Value) (rx : Rg) => [(11, v11), (70, i64 k)]) (fun (k : Nat) (P : (List It)) (zs1 : (List It)) (v11 : Value) (rx : Rg) w' => M w (Nn) w' [Rg.sl ip 155 v7 (isort wi xs), Rg.pool P P, Rg.sl i64 3 v49 (zeros fs.length), Rg.blk b10 76 [v49], rx] ∧ k ≤ mo - 1 ∧ zs1.map Prod.snd = lvl (isort Tr.wt (sgl fs)) k ∧ (∀ x ∈ (isort wi xs), x ∈ P) ∧ (∀ x ∈ zs1, x ∈ P) ∧ ((v11 = v7 ∧ zs1 = (isort wi xs)) ∨ rx = Rg.sl ip 155 v11 zs1)) (fun (k : Nat) (P : (List It)) (zs1 : (List It)) (v11 : Value) (rx : Rg) => mo - 1 - k) 0 xs (isort wi xs) v7 Rg.emp ?_ ?_ ?_
 · exact Sub.cons rfl $ S1 rfl
 · exact ⟨hM, Nat.zero_le _, hmp, fun x h => (isort_mem _ _ _).1 h, fun x h => (isort_mem _ _ _).1 h, .inl ⟨rfl, rfl⟩⟩
 rintro k P zs1 v11 rx w11 ⟨hM, hk, hzs, hyP, hzP, hdj⟩
 refine Kb $ Kp rfl $ Ka $ C.seq $ C.cond' rfl (fun hC7 => ?_) (fun hC7 => ?_)
 ·
  have hll := (lvl_len (S := (isort Tr.wt (sgl fs))) (by omega) k).1
  have hzl : zs1.length = (lvl (isort Tr.wt (sgl fs)) k).length := by rw [← hzs, List.length_map]
  have htw := lvl_wt (k := k) hS1 (by omega) (by omega)
  have hwz : ∀ x ∈ zs1, wi x ≤ 2305843009213693952 := fun x hx => by
   have := tw_mem (l := lvl (isort Tr.wt (sgl fs)) k) (t := x.2) (by rw [← hzs]; exact List.mem_map_of_mem hx)
   show x.2.wt ≤ _; omega
  refine Kk $ C.seq $ C.block $ C.region $ Kf rfl $ E.call rfl rfl (packages_ret v11 zs1 P P _ (hM.pool 1 rfl) (lrd hM hdj) hzP (by omega) hwz) ?_
  rintro v74 w12 ⟨ps, hps, m⟩
  have hM := hM.call m
  have hM := hM.poolJoin 1 6 (by decide) rfl rfl (fun x h => h)
  have hM := hM.poolSub 1 rfl (P' := P ++ ps) (fun x h => List.mem_append_left _ h)
  have hpl : ps.length = (lvl (isort Tr.wt (sgl fs)) k).length / 2 := by rw [← List.length_map (f := Prod.snd), hps, pkg_len, hzs]
  refine E.call rfl rfl (merge_ret v7 v74 (isort wi xs) ps (P ++ ps) (P ++ ps) _ (hM.pool 1 rfl) (hM.sl 0 rfl) (hM.sl 5 rfl) (fun x h => List.mem_append_left _ (hyP x h)) (fun x h => List.mem_append_right _ h) (by omega)) ?_
  rintro v75 w13 m
  have hM := hM.call m
  refine Kn rfl $ E.nil $ X.outN $ X.next $ C.region $ E.add rfl rfl (by omega) rfl $ Km rfl $ E.nil $ X.again5 (k + 1) (P ++ ps) (mrg wi (isort wi xs) ps) v75 (Rg.sl ip 155 v75 (mrg wi (isort wi xs) ps)) (Sub.cons rfl $ S1 rfl) rfl ⟨hM.pick [0, 1, 2, 3, 7] (by decide), by omega, by rw [mrg_map wi Tr.wt Prod.snd (fun _ => rfl), hmp, hps, hzs]; rfl, fun x h => List.mem_append_left _ (hyP x h), fun x h => ((mrg_mem _ _ _ _).1 h).elim (fun h => List.mem_append_left _ (hyP x h)) (fun h => List.mem_append_right _ h), .inr rfl⟩ (by omega)
 obtain rfl : k = mo - 1 := by omega
 have hlong := lvl_long (S := (isort Tr.wt (sgl fs))) (m := mo) (by omega) hmo.1 (by rw [hn]; omega)
 have hzl : zs1.length = (lvl (isort Tr.wt (sgl fs)) (mo - 1)).length := by rw [← hzs, List.length_map]
 have htw := lvl_wt (k := mo - 1) hS1 (by omega) (by omega)
 have hLL : (zs1.take (2 * xs.length - 2)).map Prod.snd = ((lvl (isort Tr.wt (sgl fs)) (mo - 1)).take (2 * xs.length - 2)) := by rw [List.map_take, hzs]
 have hgL : ∀ t ∈ ((lvl (isort Tr.wt (sgl fs)) (mo - 1)).take (2 * xs.length - 2)), Gd fs.length t := fun t ht => lvl_gd hS2 _ t (List.mem_of_mem_take ht)
 have hLl : ((lvl (isort Tr.wt (sgl fs)) (mo - 1)).take (2 * xs.length - 2)).length = 2 * xs.length - 2 := by rw [List.length_take]; omega
 have hzt : (zs1.take (2 * xs.length - 2)).length = 2 * xs.length - 2 := by rw [List.length_take]; omega
 refine Kx $ C.seq $ Kb $ Kf rfl $ E.lenv rfl (Rd.shape (hM.sl 0 rfl)) U154 rfl ?_
 rw [hyl]
 refine E.mulN (a := 2) (b := xs.length) rfl rfl (by omega) rfl $ E.subN (a := 2 * xs.length) (b := 2) rfl rfl (by omega) rfl $ E.slcP (k := .i64) 0 (2 * xs.length - 2) rfl (.inr ⟨rfl, rfl⟩) (.inl rfl) (lrd hM hdj) U154 (by kernel_rfl) (by omega) (by omega) rfl $ E.lenv rfl (Rd.shape (lrd_take (lrd hM hdj) (n := 2 * xs.length - 2) (by omega))) U154 rfl ?_
 rw [hzt]
 refine Km rfl $ Ka $ C.block $ C.loop1 [(10, _), (82, _), (83, _)] rfl (fun (j : Nat) => [(84, i64 j)]) (fun (j : Nat) w' => M w (Nn) w' [Rg.sl ip 155 v7 (isort wi xs), Rg.pool P P, Rg.sl i64 3 v49 (bump (zeros fs.length) ((((lvl (isort Tr.wt (sgl fs)) (mo - 1)).take (2 * xs.length - 2)).take j).flatMap Tr.sy)), Rg.blk b10 76 [v49], rx] ∧ j ≤ 2 * xs.length - 2) (fun (j : Nat) => 2 * xs.length - 2 - j) 0 ?_ ?_ ?_
 · exact S1 rfl
 · exact ⟨hM, Nat.zero_le _⟩
 rintro j w14 ⟨hM, hj⟩
 refine Kb $ Kp rfl $ Ka $ C.seq $ C.cond' rfl (fun hC8 => ?_) (fun hC8 => ?_)
 ·
  have hj' : j < ((lvl (isort Tr.wt (sgl fs)) (mo - 1)).take (2 * xs.length - 2)).length := by omega
  have hjz : j < (zs1.take (2 * xs.length - 2)).length := by omega
  have hft := flat_len (l := ((lvl (isort Tr.wt (sgl fs)) (mo - 1)).take (2 * xs.length - 2)).take j) (n := fs.length) (fun t ht => hgL t (List.mem_of_mem_take ht))
  have ht1 := tw_take ((lvl (isort Tr.wt (sgl fs)) (mo - 1)).take (2 * xs.length - 2)) j
  have ht2 := tw_take (lvl (isort Tr.wt (sgl fs)) (mo - 1)) (2 * xs.length - 2)
  have hg1 := (hgL _ (List.getElem_mem hj')).sy
  have hw1 := tw_mem (List.getElem_mem hj')
  have hel : (zs1.take (2 * xs.length - 2))[j].2 = ((lvl (isort Tr.wt (sgl fs)) (mo - 1)).take (2 * xs.length - 2))[j] := by
   have h1 : ((zs1.take (2 * xs.length - 2)).map Prod.snd)[j]? = ((lvl (isort Tr.wt (sgl fs)) (mo - 1)).take (2 * xs.length - 2))[j]? := by rw [hLL]
   rw [List.getElem?_map, List.getElem?_eq_getElem hjz, List.getElem?_eq_getElem hj'] at h1
   exact Option.some.inj h1
  have hzm := hzP _ (List.mem_of_mem_take (List.getElem_mem hjz))
  refine Kk $ C.seq $ C.block $ Kb $ E.get (k := j) rfl rfl (lrd_take (lrd hM hdj) (n := 2 * xs.length - 2) (by omega)) rfl hjz U154 (by kernel_rfl) U155 rfl rfl rfl $ Kc rfl $ C.region $ Km rfl $ E.mkfn rfl rfl $ E.call rfl rfl (each_ok ((lvl (isort Tr.wt (sgl fs)) (mo - 1)).take (2 * xs.length - 2))[j] (zs1.take (2 * xs.length - 2))[j].1 b10 v49 _ P _ (hM.pick [3, 2, 1] (by decide)).sep (by rw [← hel]; exact hzm) (fun s hs => by rw [bump_len, zeros, List.length_replicate]; exact hg1.1 s hs) (fun z hz => by have := bump_bd (m := 135107988821114880) _ _ (fun y hy => by rw [zeros] at hy; have := List.eq_of_mem_replicate hy; subst this; constructor; omega; omega) z hz; omega)) ?_
  rintro _ w15 m
  have hM := hM.calls [3, 2, 1] (by decide) rfl (by simp) m
  rw [← bump_app, ← flat_snoc hj'] at hM
  refine E.nil $ X.outN $ X.next $ C.region $ E.add rfl rfl (by omega) rfl $ Km rfl $ E.nil $ X.again1 (j + 1) (S1 rfl) rfl ⟨hM, by omega⟩ (by omega)
 obtain rfl : j = 2 * xs.length - 2 := by omega
 rw [List.take_of_length_le (by omega)] at hM
 refine Kx $ Kb $ E.load rfl U76 rfl (hM.bcell 3 rfl rfl) rfl $ Kn rfl $ Kc rfl $ C.ret $ ret2 rfl rfl rfl ?_
 exact ⟨_, by rw [hlv], by rw [hlv, lens, if_neg (by omega), hn]; exact hM.pick [2] (by decide)⟩
end Go.Proofs.YtajklleiifhipaaGreatDoor
namespace Go.Proofs.YtajklleiifhipaaGreatDoor
open Go.RowKit Sym
theorem perm_sum {l l' : List Nat} (h : l.Perm l') : l.sum = l'.sum := by
 induction h with
 | nil => rfl
 | cons x _ ih => rw [List.sum_cons, List.sum_cons, ih]
 | swap x y l => simp only [List.sum_cons]; omega
 | trans _ _ h1 h2 => exact h1.trans h2
theorem tw_app (a b : List Tr) : tw (a ++ b) = tw a + tw b := by simp only [tw, List.map_append, List.sum_append]
theorem tw_cons (x : Tr) (l : List Tr) : tw (x :: l) = x.wt + tw l := by simp only [tw, List.map_cons, List.sum_cons]
theorem tw_mono (l : List Tr) {i j : Nat} (h : i ≤ j) : tw (l.take i) ≤ tw (l.take j) := by
 have := tw_take (l.take j) i
 rwa [List.take_take, Nat.min_eq_left h] at this
theorem tw_step {l : List Tr} {i : Nat} (h : i < l.length) : tw (l.take (i + 1)) = tw (l.take i) + l[i].wt := by
 rw [← List.take_append_getElem h, tw_app, tw_cons]; rfl
theorem srt_head {x : Tr} {l : List Tr} (h : Srt Tr.wt (x :: l)) {i : Nat} (hi : i < (x :: l).length) : x.wt ≤ (x :: l)[i].wt := by
 cases i with
 | zero => exact Nat.le_refl _
 | succ i => exact (List.pairwise_cons.1 h).1 _ (List.getElem_mem _)
theorem srt_tail {x : Tr} {l : List Tr} (h : Srt Tr.wt (x :: l)) : Srt Tr.wt l := (List.pairwise_cons.1 h).2
theorem mrg_opt : ∀ (X Y : List Tr) (j a b : Nat), Srt Tr.wt X → Srt Tr.wt Y → j ≤ a + b → a ≤ X.length → b ≤ Y.length → tw ((mrg Tr.wt X Y).take j) ≤ tw (X.take a) + tw (Y.take b)
  | X, Y, 0, a, b, _, _, _, _, _ => by simp [tw]
  | [], Y, j + 1, a, b, _, _, h, ha, _ => by
    rw [mrg]
    have := tw_mono Y (show j + 1 ≤ b by simp at ha; omega)
    omega
  | x :: xs, [], j + 1, a, b, _, _, h, _, hb => by
    rw [mrg_nil]
    have := tw_mono (x :: xs) (show j + 1 ≤ a by simp at hb; omega)
    omega
  | x :: xs, y :: ys, j + 1, a, b, hX, hY, h, ha, hb => by
    by_cases c : Tr.wt x ≤ Tr.wt y
    · rw [mrg_le c, List.take_succ_cons, tw_cons]
      cases a with
      | zero =>
        obtain ⟨b, rfl⟩ : ∃ b', b = b' + 1 := ⟨b - 1, by omega⟩
        have ih := mrg_opt xs (y :: ys) j 0 b (srt_tail hX) hY (by omega) (Nat.zero_le _) (by omega)
        have h1 := tw_step (l := y :: ys) (i := b) (by omega)
        have h2 := srt_head hY (i := b) (by omega)
        have h3 : tw (xs.take 0) = 0 := rfl
        omega
      | succ a =>
        have ih := mrg_opt xs (y :: ys) j a b (srt_tail hX) hY (by omega) (by simpa using ha) hb
        rw [List.take_succ_cons, tw_cons]; omega
    rw [mrg_gt c, List.take_succ_cons, tw_cons]
    cases b with
    | zero =>
      obtain ⟨a, rfl⟩ : ∃ a', a = a' + 1 := ⟨a - 1, by omega⟩
      have ih := mrg_opt (x :: xs) ys j a 0 hX (srt_tail hY) (by omega) (by omega) (Nat.zero_le _)
      have h1 := tw_step (l := x :: xs) (i := a) (by omega)
      have h2 := srt_head hX (i := a) (by omega)
      have h3 : tw (ys.take 0) = 0 := rfl
      omega
    | succ b =>
      have ih := mrg_opt (x :: xs) ys j a b hX (srt_tail hY) (by omega) ha (by simpa using hb)
      rw [List.take_succ_cons, tw_cons]; omega
termination_by X Y => X.length + Y.length
theorem mrg_take : ∀ (X Y : List Tr) (j : Nat), Srt Tr.wt X → j ≤ X.length + Y.length → ∃ a b, a + b = j ∧ a ≤ X.length ∧ b ≤ Y.length ∧ ((mrg Tr.wt X Y).take j).Perm (X.take a ++ Y.take b) ∧ (∀ p, p < X.length → 0 < b → (X.map Tr.wt).getD p 0 ≤ (Y.map Tr.wt).getD (b - 1) 0 → p < a)
  | X, Y, 0, _, _ => ⟨0, 0, rfl, Nat.zero_le _, Nat.zero_le _, by simp, fun p _ h => absurd h (Nat.lt_irrefl _)⟩
  | [], Y, j + 1, _, h => ⟨0, j + 1, by omega, Nat.zero_le _, by simpa using h, by rw [mrg]; simp, fun p hp => by simp at hp⟩
  | x :: xs, [], j + 1, _, h => ⟨j + 1, 0, by omega, by simpa using h, Nat.zero_le _, by rw [mrg_nil]; simp, fun p _ h => absurd h (Nat.lt_irrefl _)⟩
  | x :: xs, y :: ys, j + 1, hX, h => by
    by_cases c : Tr.wt x ≤ Tr.wt y
    · obtain ⟨a, b, h1, h2, h3, h4, h5⟩ := mrg_take xs (y :: ys) j (srt_tail hX) (by simp at h ⊢; omega)
      refine ⟨a + 1, b, by omega, by simpa using h2, h3, ?_, fun p hp hb hw => ?_⟩
      · rw [mrg_le c, List.take_succ_cons, List.take_succ_cons]; exact h4.cons x
      cases p with
      | zero => omega
      | succ p => have := h5 p (by simpa using hp) hb (by simpa using hw); omega
    obtain ⟨a, b, h1, h2, h3, h4, h5⟩ := mrg_take (x :: xs) ys j hX (by simp at h ⊢; omega)
    refine ⟨a, b + 1, by omega, h2, by simpa using h3, ?_, fun p hp _ hw => ?_⟩
    · rw [mrg_gt c, List.take_succ_cons, List.take_succ_cons]
      exact (h4.cons y).trans List.perm_middle.symm
    cases b with
    | zero =>
      exfalso
      have hw : ((x :: xs).map Tr.wt).getD p 0 ≤ y.wt := by simpa using hw
      rw [List.getD_eq_getElem?_getD, List.getElem?_map, List.getElem?_eq_getElem hp] at hw
      have := srt_head hX hp
      simp only [Option.map_some, Option.getD_some] at hw
      omega
    | succ b => exact h5 p hp (by omega) (by simpa using hw)
termination_by X Y => X.length + Y.length
theorem mrg_srt : ∀ (X Y : List Tr), Srt Tr.wt X → Srt Tr.wt Y → Srt Tr.wt (mrg Tr.wt X Y)
  | [], Y, _, h => by rw [mrg]; exact h
  | x :: xs, [], h, _ => by rw [mrg_nil]; exact h
  | x :: xs, y :: ys, hX, hY => by
    by_cases c : Tr.wt x ≤ Tr.wt y
    · rw [mrg_le c]
      refine List.pairwise_cons.2 ⟨fun z hz => ?_, mrg_srt xs (y :: ys) (srt_tail hX) hY⟩
      rcases (mrg_mem _ _ _ _).1 hz with h | h
      · exact (List.pairwise_cons.1 hX).1 z h
      rcases List.mem_cons.1 h with rfl | h
      · exact c
      have := (List.pairwise_cons.1 hY).1 z h; omega
    rw [mrg_gt c]
    refine List.pairwise_cons.2 ⟨fun z hz => ?_, mrg_srt (x :: xs) ys hX (srt_tail hY)⟩
    rcases (mrg_mem _ _ _ _).1 hz with h | h
    · rcases List.mem_cons.1 h with rfl | h
      · omega
      have := (List.pairwise_cons.1 hX).1 z h; omega
    exact (List.pairwise_cons.1 hY).1 z h
termination_by X Y => X.length + Y.length
theorem pkg_srt : ∀ {l : List Tr}, Srt Tr.wt l → Srt Tr.wt (pkg l)
 | [], _ => List.Pairwise.nil
 | [_], _ => List.Pairwise.nil
 | a :: b :: l, h => by
  rw [pkg]
  have hb := srt_tail h
  refine List.pairwise_cons.2 ⟨fun z hz => ?_, pkg_srt (srt_tail hb)⟩
  have key : ∀ (m : List Tr) (w : Nat), (∀ x ∈ m, w ≤ x.wt) → ∀ z ∈ pkg m, w + w ≤ z.wt := by
   intro m w
   induction m using pkg.induct with
   | case1 c d m ih =>
    intro hm z hz
    rw [pkg, List.mem_cons] at hz
    rcases hz with rfl | hz
    · have h1 := hm c (by simp); have h2 := hm d (by simp); simp only [Tr.wt]; omega
    exact ih (fun x hx => hm x (by simp [hx])) z hz
   | case2 m hm' =>
    intro _ z hz
    match m, hm', hz with
    | [], _, hz => simp [pkg] at hz
    | [_], _, hz => simp [pkg] at hz
    | c :: d :: m, hm', _ => exact (hm' c d m rfl).elim
  have h1 := key l b.wt (fun x hx => (List.pairwise_cons.1 hb).1 x hx) z hz
  have h2 := (List.pairwise_cons.1 h).1 b (by simp)
  show a.wt + b.wt ≤ z.wt
  omega
theorem pkg_tk : ∀ (l : List Tr) (b : Nat), 2 * b ≤ l.length → (pkg l).take b = pkg (l.take (2 * b))
 | l, 0, _ => by simp [pkg]
 | a :: c :: l, b + 1, h => by
  rw [show 2 * (b + 1) = 2 * b + 1 + 1 by omega, List.take_succ_cons, List.take_succ_cons, pkg, pkg, List.take_succ_cons, pkg_tk l b (by simp at h; omega)]
 | [_], b + 1, h => by simp at h; omega
 | [], b + 1, h => by simp at h
theorem pkg_even : ∀ (k : Nat) (l : List Tr), l.length = 2 * k → tw (pkg l) = tw l ∧ (pkg l).flatMap Tr.sy = l.flatMap Tr.sy
 | 0, [], _ => ⟨rfl, rfl⟩
 | 0, _ :: _, h => by simp at h
 | k + 1, [], h => by simp at h
 | k + 1, [_], h => by simp at h; omega
 | k + 1, a :: b :: l, h => by
  obtain ⟨h1, h2⟩ := pkg_even k l (by simp at h; omega)
  rw [pkg]
  refine ⟨by rw [tw_cons, tw_cons, tw_cons, h1]; simp only [Tr.wt]; omega, ?_⟩
  rw [List.flatMap_cons, List.flatMap_cons, List.flatMap_cons, h2, Tr.sy, List.append_assoc]
theorem lvl_srt {S : List Tr} (h : Srt Tr.wt S) : ∀ k, Srt Tr.wt (lvl S k)
 | 0 => h
 | k + 1 => mrg_srt _ _ h (pkg_srt (lvl_srt h k))
def vl : Nat → (Nat → Nat) → Nat
 | 0, _ => 0
 | m + 1, c => c 0 * 2 ^ m + vl m (fun d => c (d + 1))
def sm : Nat → (Nat → Nat) → Nat
 | 0, _ => 0
 | m + 1, c => c 0 + sm m (fun d => c (d + 1))
theorem vl_half {j c k V : Nat} (h : j * 2 ^ (k + 1) ≤ c * 2 ^ (k + 1) + V) : 2 * (j - c) * 2 ^ k ≤ V := by
 rw [Nat.mul_comm 2, Nat.mul_assoc, Nat.mul_comm 2, ← Nat.pow_succ, Nat.sub_mul]
 show j * 2 ^ (k + 1) - c * 2 ^ (k + 1) ≤ V
 omega
theorem lvl_big {S : List Tr} : ∀ (k : Nat) (c : Nat → Nat), (∀ d, d ≤ k → c d ≤ S.length) → ∀ j, j * 2 ^ k ≤ vl (k + 1) c → j ≤ (lvl S k).length
 | 0, c, h, j, hj => by have := h 0 (Nat.le_refl _); simp [vl] at hj; simp only [lvl]; omega
 | k + 1, c, h, j, hj => by
  rw [vl] at hj
  have ih := lvl_big (S := S) k (fun d => c (d + 1)) (fun d hd => h (d + 1) (by omega)) _ (vl_half hj)
  have := h 0 (Nat.zero_le _)
  rw [lvl, mrg_len, pkg_len]; omega
theorem lvl_opt {S : List Tr} (hS : Srt Tr.wt S) : ∀ (k : Nat) (A : Nat → List Tr), (∀ d, d ≤ k → (A d).length ≤ S.length ∧ tw (S.take (A d).length) ≤ tw (A d)) → ∀ j, j * 2 ^ k ≤ vl (k + 1) (fun d => (A d).length) → tw ((lvl S k).take j) ≤ sm (k + 1) (fun d => tw (A d))
 | 0, A, h, j, hj => by
  have h0 := h 0 (Nat.le_refl _)
  simp [vl] at hj
  have := tw_mono S hj
  simp only [sm, lvl]; omega
 | k + 1, A, h, j, hj => by
  rw [vl] at hj
  have h0 := h 0 (Nat.zero_le _)
  have hh := vl_half hj
  have hb := lvl_big (S := S) k (fun d => (A (d + 1)).length) (fun d hd => (h (d + 1) (by omega)).1) _ hh
  have ih := lvl_opt hS k (fun d => A (d + 1)) (fun d hd => h (d + 1) (by omega)) _ hh
  have hp := pkg_len (lvl S k)
  have hm := mrg_opt S (pkg (lvl S k)) j (A 0).length (j - (A 0).length) hS (pkg_srt (lvl_srt hS k)) (by omega) h0.1 (by omega)
  rw [pkg_tk _ _ hb, (pkg_even (j - (A 0).length) _ (by rw [List.length_take]; omega)).1] at hm
  rw [lvl, sm]; omega
theorem pkg_at : ∀ (b : Nat) (l : List Tr) (h : 0 < b) (hb : 2 * b ≤ l.length), ((pkg l).map Tr.wt).getD (b - 1) 0 = (l[2 * b - 2]'(by omega)).wt + (l[2 * b - 1]'(by omega)).wt
 | 1, a :: c :: l, _, _ => by simp [pkg, Tr.wt]
 | b + 2, a :: c :: l, _, hb => by
  have := pkg_at (b + 1) l (by omega) (by simp at hb; omega)
  have e1 : 2 * (b + 2) - 2 = 2 * (b + 1) - 2 + 1 + 1 := by omega
  have e2 : 2 * (b + 2) - 1 = 2 * (b + 1) - 1 + 1 + 1 := by omega
  simp only [e1, e2, List.getElem_cons_succ, pkg, List.map_cons]
  rw [← this]; rfl
 | 1, [_], _, h => by simp at h
 | 1, [], _, h => by simp at h
 | b + 2, [_], _, h => by simp at h; omega
 | b + 2, [], _, h => by simp at h
theorem lvl_str {S : List Tr} (hS : Srt Tr.wt S) : ∀ (k j : Nat), j ≤ (lvl S k).length → ∃ a : Nat → Nat, (∀ d, d ≤ k → a d ≤ S.length) ∧ (∀ d, d + 1 ≤ k → a (d + 1) ≤ a d) ∧ vl (k + 1) a = j * 2 ^ k ∧ (∀ s, (((lvl S k).take j).flatMap Tr.sy).count s = sm (k + 1) (fun d => ((S.take (a d)).flatMap Tr.sy).count s)) ∧ (∀ t ∈ S.take (a 0), t ∈ (lvl S k).take j) ∧ tw ((lvl S k).take j) = sm (k + 1) (fun d => tw (S.take (a d)))
  | 0, j, hj => ⟨fun _ => j, fun _ _ => hj, fun _ h => absurd h (by omega), by simp [vl], fun s => by simp [sm, lvl], fun t ht => ht, by simp [sm, lvl]⟩
  | k + 1, j, hj => by
    rw [lvl, mrg_len] at hj
    obtain ⟨a0, b, h1, h2, h3, h4, h5⟩ := mrg_take S (pkg (lvl S k)) j hS hj
    rw [pkg_len] at h3
    obtain ⟨a, g1, g2, g3, g4, g5, g6⟩ := lvl_str hS k (2 * b) (by omega)
    have hpt := pkg_tk (lvl S k) b (by omega)
    obtain ⟨hpw, hpe⟩ := pkg_even b ((lvl S k).take (2 * b)) (by rw [List.length_take]; omega)
    refine ⟨fun d => match d with | 0 => a0 | d + 1 => a d, fun d hd => ?_, fun d hd => ?_, ?_, fun s => ?_, fun t ht => ?_, ?_⟩
    · cases d with
      | zero => exact h2
      | succ d => exact g1 d (by omega)
    · cases d with
      | zero =>
        show a 0 ≤ a0
        rcases Nat.eq_zero_or_pos (a 0) with e | e
        · omega
        have ha := g1 0 (Nat.zero_le _)
        have hp : a 0 - 1 < S.length := by omega
        have hm := g5 S[a 0 - 1] (List.mem_take_iff_getElem.2 ⟨a 0 - 1, by omega, rfl⟩)
        obtain ⟨q, hq, he⟩ := List.mem_take_iff_getElem.1 hm
        have hb0 : 0 < b := by omega
        have hl1 : 2 * b - 1 < (lvl S k).length := by omega
        have hl2 : 2 * b - 2 < (lvl S k).length := by omega
        have hle : S[a 0 - 1].wt ≤ (lvl S k)[2 * b - 1].wt := by
          rw [← he]
          by_cases e2 : q = 2 * b - 1
          · subst e2; exact Nat.le_refl _
          exact List.pairwise_iff_getElem.1 (lvl_srt hS k) q (2 * b - 1) (by omega) hl1 (by omega)
        have hpk : ((pkg (lvl S k)).map Tr.wt).getD (b - 1) 0 = (lvl S k)[2 * b - 2].wt + (lvl S k)[2 * b - 1].wt := pkg_at _ _ (by omega) (by omega)
        have hsp : (S.map Tr.wt).getD (a 0 - 1) 0 = S[a 0 - 1].wt := by rw [List.getD_eq_getElem?_getD, List.getElem?_map, List.getElem?_eq_getElem hp]; rfl
        have := h5 (a 0 - 1) hp hb0 (by rw [hpk, hsp]; omega)
        omega
      | succ d => exact g2 d (by omega)
    · show a0 * 2 ^ (k + 1) + vl (k + 1) a = _
      rw [g3, ← h1, Nat.add_mul, Nat.pow_succ, Nat.mul_comm 2 b, Nat.mul_assoc b 2, Nat.mul_comm 2 (2 ^ k)]
    · show _ = ((S.take a0).flatMap Tr.sy).count s + sm (k + 1) (fun d => ((S.take (a d)).flatMap Tr.sy).count s)
      rw [← g4 s, ← hpe, ← hpt, lvl, ← List.count_append, ← List.flatMap_append]
      exact (h4.flatMap_right Tr.sy).count_eq s
    · rw [lvl]; exact h4.mem_iff.2 (List.mem_append_left _ ht)
    show _ = tw (S.take a0) + sm (k + 1) (fun d => tw (S.take (a d)))
    rw [← g6, ← hpw, ← hpt, lvl, ← tw_app]
    exact perm_sum (h4.map Tr.wt)
end Go.Proofs.YtajklleiifhipaaGreatDoor
namespace Go.Proofs.YtajklleiifhipaaGreatDoor
open Go.RowKit Sym
theorem vl_congr : ∀ (m : Nat) {f g : Nat → Nat}, (∀ d, d < m → f d = g d) → vl m f = vl m g
 | 0, _, _, _ => rfl
 | m + 1, f, g, h => by rw [vl, vl, h 0 (by omega), vl_congr m fun d hd => h (d + 1) (by omega)]
theorem sm_congr : ∀ (m : Nat) {f g : Nat → Nat}, (∀ d, d < m → f d = g d) → sm m f = sm m g
 | 0, _, _, _ => rfl
 | m + 1, f, g, h => by rw [sm, sm, h 0 (by omega), sm_congr m fun d hd => h (d + 1) (by omega)]
theorem vl_add : ∀ (m : Nat) (f g : Nat → Nat), vl m (fun d => f d + g d) = vl m f + vl m g
 | 0, _, _ => rfl
 | m + 1, f, g => by rw [vl, vl, vl, vl_add m, Nat.add_mul]; omega
theorem sm_add : ∀ (m : Nat) (f g : Nat → Nat), sm m (fun d => f d + g d) = sm m f + sm m g
 | 0, _, _ => rfl
 | m + 1, f, g => by rw [sm, sm, sm, sm_add m]; omega
theorem vl_zero : ∀ (m : Nat), vl m (fun _ => 0) = 0
 | 0 => rfl
 | m + 1 => by rw [vl, vl_zero m, Nat.zero_mul]
theorem sm_zero : ∀ (m : Nat), sm m (fun _ => 0) = 0
 | 0 => rfl
 | m + 1 => by rw [sm, sm_zero m]
theorem vl_one : ∀ (m c : Nat), c ≤ m → vl m (fun d => if d < c then 1 else 0) + 2 ^ (m - c) = 2 ^ m
 | 0, c, h => by simp [vl]
 | m + 1, 0, h => by
  have : vl (m + 1) (fun d => if d < 0 then 1 else 0) = vl (m + 1) fun _ => 0 := vl_congr _ fun d _ => by simp
  rw [this, vl_zero]; simp
 | m + 1, c + 1, h => by
  have ih := vl_one m c (by omega)
  have e : vl m (fun d => if d + 1 < c + 1 then 1 else 0) = vl m (fun d => if d < c then 1 else 0) := vl_congr _ fun d _ => by simp
  rw [vl, e, Nat.add_sub_add_right, if_pos (by omega), Nat.pow_succ]; omega
theorem sm_one : ∀ (m c w : Nat), c ≤ m → sm m (fun d => if d < c then w else 0) = w * c
  | 0, c, w, h => by obtain rfl : c = 0 := by omega
                     simp [sm]
  | m + 1, 0, w, h => by
    have : sm (m + 1) (fun d => if d < 0 then w else 0) = sm (m + 1) fun _ => 0 := sm_congr _ fun d _ => by simp
    rw [this, sm_zero]; simp
  | m + 1, c + 1, w, h => by
    have ih := sm_one m c w (by omega)
    have e : sm m (fun d => if d + 1 < c + 1 then w else 0) = sm m (fun d => if d < c then w else 0) := sm_congr _ fun d _ => by simp
    rw [sm, e, if_pos (by omega), ih, Nat.mul_succ]; omega
theorem kv {c : Tr → Nat} {m : Nat} : ∀ (S : List Tr), (∀ t ∈ S, c t ≤ m) → vl m (fun d => (S.filter fun t => decide (d < c t)).length) + (S.map fun t => 2 ^ (m - c t)).sum = S.length * 2 ^ m
 | [], _ => by simp [vl_zero]
 | t :: S, h => by
  have ih := kv S fun x hx => h x (by simp [hx])
  have h1 := vl_one m (c t) (h t (by simp))
  have e : vl m (fun d => ((t :: S).filter fun t => decide (d < c t)).length) = vl m (fun d => (S.filter fun t => decide (d < c t)).length) + vl m (fun d => if d < c t then 1 else 0) := by
   rw [← vl_add]
   exact vl_congr _ fun d _ => by
    rw [List.filter_cons]
    by_cases q : d < c t
    · simp [q]
    simp [q]
  rw [e, List.map_cons, List.sum_cons, List.length_cons, Nat.succ_mul]; omega
theorem kw {c : Tr → Nat} {m : Nat} : ∀ (S : List Tr), (∀ t ∈ S, c t ≤ m) → sm m (fun d => tw (S.filter fun t => decide (d < c t))) = (S.map fun t => t.wt * c t).sum
 | [], _ => by simp [tw, sm_zero]
 | t :: S, h => by
  have ih := kw S fun x hx => h x (by simp [hx])
  have h1 := sm_one m (c t) t.wt (h t (by simp))
  have e : sm m (fun d => tw ((t :: S).filter fun t => decide (d < c t))) = sm m (fun d => tw (S.filter fun t => decide (d < c t))) + sm m (fun d => if d < c t then t.wt else 0) := by
   rw [← sm_add]
   exact sm_congr _ fun d _ => by
    rw [List.filter_cons]
    by_cases q : d < c t
    · simp [q, tw_cons]; omega
    simp [q]
  rw [e, List.map_cons, List.sum_cons]; omega
theorem filter_take {q : Tr → Bool} : ∀ (S : List Tr) (a : Nat), (∀ p (h : p < S.length), q S[p] = true ↔ p < a) → S.filter q = S.take a
 | [], a, _ => by simp
 | x :: S, 0, h => by
  have h0 := h 0 (by simp)
  have := filter_take S 0 fun p hp => by have := h (p + 1) (by simpa using hp); simpa using this
  rw [List.filter_cons, if_neg (by simpa using h0), this]; simp
 | x :: S, a + 1, h => by
  have h0 := h 0 (by simp)
  have := filter_take S a fun p hp => by have := h (p + 1) (by simpa using hp); simpa using this
  rw [List.filter_cons, if_pos (by simpa using h0), this]; simp
theorem sub_tw : ∀ {A S : List Tr}, A.Sublist S → Srt Tr.wt S → tw (S.take A.length) ≤ tw A
 | _, _, .slnil, _ => Nat.le_refl _
 | _, _, .cons (l₁ := A) (l₂ := S) x h, hs => by
  have ih := sub_tw h (srt_tail hs)
  have hl := h.length_le
  cases hA : A.length with
  | zero => simp [tw]
  | succ n =>
   rw [hA] at ih hl
   have h1 := tw_step (l := S) (i := n) (by omega)
   have h2 := (List.pairwise_cons.1 hs).1 S[n] (List.getElem_mem _)
   rw [List.take_succ_cons, tw_cons]; omega
 | _, _, .cons_cons (l₁ := A) (l₂ := S) x h, hs => by
  have ih := sub_tw h (srt_tail hs)
  rw [List.length_cons, List.take_succ_cons, tw_cons, tw_cons]; omega
theorem nest : ∀ (m : Nat) (a : Nat → Nat) (p : Nat), (∀ d, d + 1 < m → a (d + 1) ≤ a d) → sm m (fun d => if p < a d then 1 else 0) ≤ m ∧ ∀ d, d < m → (d < sm m (fun d => if p < a d then 1 else 0) ↔ p < a d)
  | 0, a, p, _ => ⟨by simp [sm], fun d h => absurd h (Nat.not_lt_zero _)⟩
  | m + 1, a, p, h => by
    obtain ⟨h1, h2⟩ := nest m (fun d => a (d + 1)) p fun d hd => h (d + 1) (by omega)
    rw [sm]
    by_cases c : p < a 0
    · rw [if_pos c]
      refine ⟨by omega, fun d hd => ?_⟩
      cases d with
      | zero => exact ⟨fun _ => c, fun _ => by omega⟩
      | succ d =>
        have := h2 d (by omega)
        constructor
        · intro h'; exact this.1 (by omega)
        intro h'; have := this.2 h'; omega
    rw [if_neg c]
    have hz : sm m (fun d => if p < a (d + 1) then 1 else 0) = 0 := by
      refine Eq.trans (sm_congr m (g := fun _ => 0) fun d hd => if_neg fun hp => ?_) (sm_zero m)
      have key : ∀ e, e ≤ m → a e ≤ a 0 := by
        intro e
        induction e with
        | zero => exact fun _ => Nat.le_refl _
        | succ e ih => intro he; have := ih (by omega); have := h e (by omega); omega
      have := key (d + 1) (by omega); omega
    rw [hz]
    refine ⟨by omega, fun d hd => ⟨fun h' => by omega, fun h' => ?_⟩⟩
    exfalso
    have key : ∀ e, e ≤ m → a e ≤ a 0 := by
      intro e
      induction e with
      | zero => exact fun _ => Nat.le_refl _
      | succ e ih => intro he; have := ih (by omega); have := h e (by omega); omega
    have := key d (by omega); omega
def sx : Tr → Nat
 | .leaf _ s => s
 | .node _ _ => 0
def Lf (fs : List Nat) (t : Tr) : Prop := ∃ s, s < fs.length ∧ 0 < fs.getD s 0 ∧ t = Tr.leaf (fs.getD s 0) s
theorem sgl_lf {fs : List Nat} : ∀ t ∈ sgl fs, Lf fs t := fun t ht => by
 unfold sgl at ht
 obtain ⟨i, hi, h⟩ := List.mem_filterMap.1 ht
 have hi := List.mem_range.1 hi
 by_cases c : 0 < fs.getD i 0
 · rw [if_pos c] at h; exact ⟨i, hi, c, (Option.some.inj h).symm⟩
 rw [if_neg c] at h; cases h
theorem sgl_sx (fs : List Nat) : (sgl fs).map sx = (List.range fs.length).filter fun s => decide (0 < fs.getD s 0) := by
 unfold sgl
 induction List.range fs.length with
 | nil => rfl
 | cons i l ih =>
  rw [List.filterMap_cons, List.filter_cons]
  by_cases c : 0 < fs.getD i 0
  · rw [if_pos c, if_pos (by simpa using c), ← ih]; rfl
  rw [if_neg c, if_neg (by simpa using c), ← ih]
theorem leaf_flat {fs : List Nat} {l : List Tr} (h : ∀ t ∈ l, Lf fs t) : l.flatMap Tr.sy = l.map sx := by
 induction l with
 | nil => rfl
 | cons a l ih =>
  obtain ⟨s, _, _, rfl⟩ := h a (by simp)
  rw [List.flatMap_cons, List.map_cons, ih fun t ht => h t (by simp [ht])]; rfl
theorem count_take {l : List Nat} (hn : l.Nodup) {p a : Nat} (hp : p < l.length) : (l.take a).count l[p] = if p < a then 1 else 0 := by
  by_cases c : p < a
  · rw [if_pos c]
    have h1 : l[p] ∈ l.take a := List.mem_take_iff_getElem.2 ⟨p, by omega, rfl⟩
    have h2 : (l.take a).count l[p] ≤ 1 := List.nodup_iff_count.1 (hn.sublist (List.take_sublist _ _)) _
    have h3 := List.count_pos_iff.2 h1
    omega
  rw [if_neg c, List.count_eq_zero]
  intro h
  obtain ⟨q, hq, he⟩ := List.mem_take_iff_getElem.1 h
  have hq' : q < l.length := by omega
  have := List.pairwise_iff_getElem.1 hn q p hq' hp (by omega)
  exact this he
theorem sum_filter {q : Nat → Bool} {h : Nat → Nat} : ∀ (l : List Nat), (∀ s ∈ l, q s = false → h s = 0) → (l.map h).sum = ((l.filter q).map h).sum
 | [], _ => rfl
 | s :: l, hz => by
  have ih := sum_filter l fun x hx => hz x (by simp [hx])
  rw [List.map_cons, List.sum_cons, ih, List.filter_cons]
  cases c : q s with
  | true => simp
  | false => rw [hz s (by simp) c]; simp
theorem sum_sgl (fs : List Nat) {h : Nat → Nat} (hz : ∀ s, s < fs.length → fs.getD s 0 = 0 → h s = 0) : ((List.range fs.length).map h).sum = ((isort Tr.wt (sgl fs)).map fun t => h (sx t)).sum := by
 rw [sum_filter (q := fun s => decide (0 < fs.getD s 0)) _ (fun s hs c => hz s (List.mem_range.1 hs) (by simpa using c)), ← sgl_sx, List.map_map]
 exact perm_sum ((isort_perm Tr.wt _ (sgl fs) rfl).symm.map _)
theorem isort_lf {fs : List Nat} : ∀ t ∈ isort Tr.wt (sgl fs), Lf fs t := fun t ht => sgl_lf t ((isort_mem _ _ _).1 ht)
theorem isort_nd (fs : List Nat) : ((isort Tr.wt (sgl fs)).map sx).Nodup := by
 have h : ((isort Tr.wt (sgl fs)).map sx).Perm ((sgl fs).map sx) := (isort_perm Tr.wt _ (sgl fs) rfl).map _
 rw [sgl_sx] at h
 exact h.nodup_iff.2 (List.nodup_range.sublist (List.filter_sublist))
theorem lf_sx {fs : List Nat} {t : Tr} (h : Lf fs t) : sx t < fs.length ∧ 0 < fs.getD (sx t) 0 ∧ t.wt = fs.getD (sx t) 0 := by
 obtain ⟨s, h1, h2, rfl⟩ := h; exact ⟨h1, h2, rfl⟩
theorem bump_get : ∀ (ss : List Nat) (L : List Int) (s : Nat), s < L.length → (bump L ss)[s]? = some (L.getD s 0 + (ss.count s : Int))
 | [], L, s, h => by simp [bump, List.getElem?_eq_getElem h]
 | x :: ss, L, s, h => by
  show (bump (L.set x (L.getD x 0 + 1)) ss)[s]? = _
  rw [bump_get ss _ s (by rw [List.length_set]; exact h), List.count_cons]
  congr 1
  rw [List.getD_eq_getElem?_getD, List.getD_eq_getElem?_getD, List.getElem?_set]
  by_cases e : x = s
  · subst e; simp [h, List.getElem?_eq_getElem h]; omega
  simp [e]
abbrev Fk (S : List Tr) (m : Nat) : List Nat := ((lvl S (m - 1)).take (2 * S.length - 2)).flatMap Tr.sy
theorem pm_two {fs : List Nat} {m : Nat} (hm : 1 ≤ m) (S : List Tr) (hS : S = isort Tr.wt (sgl fs)) (h2 : 2 ≤ S.length) (hc : S.length ≤ 2 ^ m) :
    (∀ t ∈ S, 1 ≤ (Fk S m).count (sx t) ∧ (Fk S m).count (sx t) ≤ m) ∧ (S.map fun t => 2 ^ (m - (Fk S m).count (sx t))).sum = 2 ^ m ∧ (S.map fun t => t.wt * (Fk S m).count (sx t)).sum = tw ((lvl S (m - 1)).take (2 * S.length - 2)) ∧ (∀ s, s ∉ S.map sx → (Fk S m).count s = 0) ∧
    (∀ c : Tr → Nat, (∀ t ∈ S, c t ≤ m) → (S.map fun t => 2 ^ (m - c t)).sum ≤ 2 ^ m → (S.map fun t => t.wt * (Fk S m).count (sx t)).sum ≤ (S.map fun t => t.wt * c t).sum) := by
  have hsrt : Srt Tr.wt S := by rw [hS]; exact isort_srt _ _ rfl
  have hlf : ∀ t ∈ S, Lf fs t := by rw [hS]; exact isort_lf
  have hnd : (S.map sx).Nodup := by rw [hS]; exact isort_nd fs
  have hlong := lvl_long (S := S) (m := m) (by omega) hm hc
  obtain ⟨k, rfl⟩ : ∃ k, m = k + 1 := ⟨m - 1, by omega⟩
  rw [Nat.add_sub_cancel] at hlong
  obtain ⟨a, g1, g2, g3, g4, g5, g6⟩ := lvl_str hsrt k (2 * S.length - 2) hlong
  have hcnt : ∀ s, (Fk S (k + 1)).count s = sm (k + 1) (fun d => ((S.map sx).take (a d)).count s) := fun s => by
    rw [Fk, Nat.add_sub_cancel, g4 s]
    exact sm_congr _ fun d _ => by rw [leaf_flat (fun t ht => hlf t (List.mem_of_mem_take ht)), List.map_take]
  have hp : ∀ p (h : p < S.length), (Fk S (k + 1)).count (sx S[p]) = sm (k + 1) (fun d => if p < a d then 1 else 0) := fun p h => by
    rw [hcnt]
    refine sm_congr _ fun d _ => ?_
    have := count_take hnd (p := p) (a := a d) (by rw [List.length_map]; exact h)
    rw [List.getElem_map] at this; exact this
  have hne : ∀ p, _ := fun p => nest (k + 1) a p (fun d hd => g2 d (by omega))
  have hfil : ∀ d, d < k + 1 → (S.filter fun t => decide (d < (Fk S (k + 1)).count (sx t))) = S.take (a d) := fun d hd => filter_take S (a d) fun p h => by
    rw [decide_eq_true_eq, hp p h]; exact (hne p).2 d hd
  have hle : ∀ t ∈ S, (Fk S (k + 1)).count (sx t) ≤ k + 1 := fun t ht => by
    obtain ⟨p, h, rfl⟩ := List.getElem_of_mem ht
    rw [hp p h]; exact (hne p).1
  have hkv := kv (c := fun t => (Fk S (k + 1)).count (sx t)) S hle
  have hkw := kw (c := fun t => (Fk S (k + 1)).count (sx t)) S hle
  rw [vl_congr (k + 1) (g := a) (fun d hd => by rw [hfil d hd, List.length_take]; have := g1 d (by omega); omega), g3] at hkv
  rw [sm_congr (k + 1) (g := fun d => tw (S.take (a d))) (fun d hd => by rw [hfil d hd]), ← g6] at hkw
  have e2 : (2 * S.length - 2) * 2 ^ k = (S.length - 1) * 2 ^ (k + 1) := by
    rw [show 2 * S.length - 2 = (S.length - 1) * 2 by omega, Nat.mul_assoc, Nat.mul_comm 2, ← Nat.pow_succ]
  have e3 : S.length * 2 ^ (k + 1) = (S.length - 1) * 2 ^ (k + 1) + 2 ^ (k + 1) := by
    rw [← Nat.succ_mul]; congr 1; omega
  have hsum : (S.map fun t => 2 ^ (k + 1 - (Fk S (k + 1)).count (sx t))).sum = 2 ^ (k + 1) := by omega
  have hpos : 0 < 2 ^ (k + 1) := Nat.pow_pos (by decide)
  refine ⟨fun t ht => ⟨?_, hle t ht⟩, hsum, by rw [← hkw]; rfl, fun s hs => ?_, fun c hc' hk => ?_⟩
  · rcases Nat.eq_zero_or_pos ((Fk S (k + 1)).count (sx t)) with e | e
    · exfalso
      obtain ⟨l1, l2, hl⟩ := List.append_of_mem ht
      have hx : ∀ l : List Tr, l ≠ [] → 0 < (l.map fun t => 2 ^ (k + 1 - (Fk S (k + 1)).count (sx t))).sum := fun l hl => by
        cases l with
        | nil => exact (hl rfl).elim
        | cons y l => rw [List.map_cons, List.sum_cons]; have : 0 < 2 ^ (k + 1 - (Fk S (k + 1)).count (sx y)) := Nat.pow_pos (by decide); omega
      have h3 : (S.map fun t => 2 ^ (k + 1 - (Fk S (k + 1)).count (sx t))).sum = (l1.map fun t => 2 ^ (k + 1 - (Fk S (k + 1)).count (sx t))).sum + (2 ^ (k + 1 - (Fk S (k + 1)).count (sx t)) + (l2.map fun t => 2 ^ (k + 1 - (Fk S (k + 1)).count (sx t))).sum) := by
        conv => lhs; rw [show S.map (fun t => 2 ^ (k + 1 - (Fk S (k + 1)).count (sx t))) = (l1 ++ t :: l2).map (fun t => 2 ^ (k + 1 - (Fk S (k + 1)).count (sx t))) from congrArg _ hl]
        rw [List.map_append, List.sum_append, List.map_cons, List.sum_cons]
      rw [e, Nat.sub_zero] at h3
      have hlen : S.length = l1.length + (l2.length + 1) := by rw [hl]; simp
      by_cases q : l1 = []
      · have q2 : l2 ≠ [] := fun h => by rw [q, h] at hlen; simp at hlen; omega
        have := hx l2 q2; omega
      have := hx l1 q; omega
    exact e
  · rw [hcnt, ← sm_zero (k + 1)]
    exact sm_congr _ fun d _ => List.count_eq_zero.2 fun h => hs (List.mem_of_mem_take h)
  rw [hkw.symm]
  have hv := kv (c := c) S hc'
  have ho := lvl_opt hsrt k (fun d => S.filter fun t => decide (d < c t)) (fun d _ => ⟨List.length_filter_le _ _, sub_tw List.filter_sublist hsrt⟩) (2 * S.length - 2) (by rw [e2]; omega)
  rw [kw (c := c) S hc'] at ho
  exact ho
end Go.Proofs.YtajklleiifhipaaGreatDoor
