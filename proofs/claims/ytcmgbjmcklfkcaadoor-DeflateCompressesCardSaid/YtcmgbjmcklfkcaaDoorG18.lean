/- Texts of the claim, laid together: Pf10. -/
import Derived.Test.YtcmgbjmcklfkcaaDoorG17
/- prefix: merge, packages. -/
namespace Go.Proofs.YtcmgbjmcklfkcaaDoor
set_option linter.unusedSimpArgs false
set_option linter.unusedVariables false
open Go.RowKit Sym

theorem cons_of {α : Type} {l : List α} (h : 0 < l.length) : ∃ x t, l = x :: t := by cases l with
  | nil => simp at h
  | cons x t => exact ⟨x, t, rfl⟩
/-- the packages of neighbours -/
def pkg : List Tr → List Tr
  | a :: b :: l => .node a b :: pkg l
  | _ => []
theorem pkg_snoc : ∀ (k : Nat) (l : List Tr) (h : 2 * k + 1 < l.length), pkg (l.take (2 * (k + 1))) = pkg (l.take (2 * k)) ++ [.node l[2 * k] l[2 * k + 1]]
  | 0, a :: b :: l, _ => by simp [pkg]
  | k + 1, a :: b :: l, h => by
    have hl : 2 * k + 1 < l.length := by simp at h; omega
    have ih := pkg_snoc k l hl
    have e1 : (a :: b :: l).take (2 * (k + 1 + 1)) = a :: b :: l.take (2 * (k + 1)) := by rw [show 2 * (k + 1 + 1) = 2 * (k + 1) + 1 + 1 by omega]; rfl
    have e2 : (a :: b :: l).take (2 * (k + 1)) = a :: b :: l.take (2 * k) := by rw [show 2 * (k + 1) = 2 * k + 1 + 1 by omega]; rfl
    have g1 : ∀ (m : Nat) (hm : m < (a :: b :: l).length), m = 2 * k + 1 + 1 → (a :: b :: l)[m] = l[2 * k] := by rintro m hm rfl; rfl
    have g2 : ∀ (m : Nat) (hm : m < (a :: b :: l).length), m = 2 * k + 1 + 1 + 1 → (a :: b :: l)[m] = l[2 * k + 1] := by rintro m hm rfl; rfl
    rw [e1, e2, pkg, pkg, ih, g1 _ _ (by omega), g2 _ _ (by omega)]; rfl
  | 0, [_], h => by simp at h
  | 0, [], h => by simp at h
  | k + 1, [_], h => by simp at h
  | k + 1, [], h => by simp at h
theorem pkg_end : ∀ (k : Nat) (l : List Tr), ¬ 2 * k + 1 < l.length → pkg (l.take (2 * k)) = pkg l
  | 0, [], _ => rfl
  | 0, [_], _ => rfl
  | 0, _ :: _ :: _, h => by simp at h
  | k + 1, [], _ => by simp
  | k + 1, [_], _ => by rw [show 2 * (k + 1) = (2 * k + 1) + 1 by omega, List.take_succ_cons]; simp
  | k + 1, a :: b :: l, h => by
    have := pkg_end k l (by simp at h; omega)
    rw [show 2 * (k + 1) = 2 * k + 2 by omega, List.take_succ_cons, List.take_succ_cons, pkg, this, pkg]
theorem pkg_len : ∀ l : List Tr, (pkg l).length = l.length / 2
  | [] => rfl
  | [_] => by simp [pkg]
  | a :: b :: l => by rw [pkg, List.length_cons, pkg_len l]; simp; omega
set_option maxHeartbeats 1000000 in
theorem merge_ret (p q : Value) (xs ys : List It) (N P : List It) (w : World) (hp : Pool w N P) (hx : RdL ip w p xs) (hy : RdL ip w q ys) (hxn : ∀ x ∈ xs, x ∈ N) (hyn : ∀ y ∈ ys, y ∈ N) (hlen : xs.length + ys.length ≤ 1000000) :
    Ret Tryd.prog 73 #[p, q] w fun v w' => M w Nn w' [Rg.sl ip 112 v (mrg wi xs ys)] := by
  have hM := M.start w
  refine enter Tryd.func73 rfl (by kernel_rfl) Tryd.ntmps73 rfl ?_
  refine C.seq <| C.region <| E.asg rfl rfl <| E.nil <| X.next <| C.seq <| C.region <| E.mv rfl rfl <| ?_
  refine E.lenv rfl (Rd.shape (hM.arg0 hx)) Tryd.underlying111 rfl ?_
  refine E.mv rfl rfl <| ?_
  refine E.lenv rfl (Rd.shape (hM.arg0 hy)) Tryd.underlying111 rfl ?_
  refine E.addN rfl rfl (by omega) rfl ?_
  refine E.make0M (by_ := 8) (enc := fun _ : Unit => Value.pointer none) () hM rfl rfl Tryd.underlying111 (by kernel_rfl) rfl (by omega) (by omega) rfl ?_
  intro v11 w0 hM
  try dsimp only [List.nil_append, List.cons_append, List.set_cons_zero, List.set_cons_succ, repl] at hM
  refine E.asg rfl rfl <| E.nil <| X.next <| C.seq <| C.block <| ?_
  have hM : M w Nn _ [Rg.sl ip 112 v11 []] := hM

  refine C.loop6 [] rfl (fun (xs1 : (List It)) (ys1 : (List It)) (acc : (List It)) (vl : Value) (vo : Value) (vr : Value) => [(0, vl), (1, vo), (5, vr)]) (fun (xs1 : (List It)) (ys1 : (List It)) (acc : (List It)) (vl : Value) (vo : Value) (vr : Value) w' => M w (Nn) w' [Rg.sl ip 112 vr acc] ∧ RdL ip w vl xs1 ∧ RdL ip w vo ys1 ∧ (∀ x ∈ xs1, x ∈ N) ∧ (∀ y ∈ ys1, y ∈ N) ∧ acc.length + (xs1.length + ys1.length) ≤ 1000000 ∧ mrg wi xs ys = acc ++ mrg wi xs1 ys1) (fun (xs1 : (List It)) (ys1 : (List It)) (acc : (List It)) (vl : Value) (vo : Value) (vr : Value) => xs1.length + ys1.length) xs ys [] p q v11 ?_ ?_ ?_
  · exact Sub.cons rfl <| Sub.cons rfl <| Sub.cons rfl <| Sub.nil _
  · exact ⟨hM, hx, hy, hxn, hyn, by simpa using hlen, rfl⟩
  rintro xs1 ys1 acc vl vo vr w1 ⟨hM, hx1, hy1, hxn1, hyn1, hl1, he⟩
  refine C.seq <| ?_

  refine C.chainE [(0, _), (1, _), (5, _)] rfl [(19, .bool (decide (0 < xs1.length ∧ 0 < ys1.length)))] ?_ ?_
  ·
    refine C.region <| E.mv rfl rfl <| ?_
    refine E.lenv rfl (Rd.shape (hM.arg0 hx1)) Tryd.underlying111 rfl ?_
    refine E.bin rfl rfl rfl rfl <| E.mv rfl rfl <| ?_
    refine E.split 15 rfl (fun g15 => ?_) (fun g15 => ?_)
    ·
      try simp only [decide_eq_true_eq, decide_eq_false_iff_not, ne_eq, Decidable.not_not, Bool.not_eq_true', Bool.not_eq_false'] at g15
      refine E.on rfl rfl (E.mv rfl rfl ?_)
      refine E.on rfl rfl (E.lenv rfl (Rd.shape (hM.arg0 hy1)) Tryd.underlying111 rfl ?_)
      refine E.on rfl rfl (E.bin rfl rfl rfl rfl ?_)
      refine E.pick rfl rfl rfl <| E.nil <| X.join0 (Sub.cons (by (first | exact leaf_f (by omega) | exact leaf_t (by omega) | exact leaf_d (by omega) | exact leaf_f (by first | (simp [*] <;> fail) | omega) | exact leaf_t (by first | (simp [*] <;> fail) | omega) | exact leaf_d (by first | (simp [*] <;> fail) | omega) | exact leaf_f (by (first | omega | ((try simp only [decide_eq_true_eq, decide_eq_false_iff_not, Bool.not_eq_true', Bool.not_eq_false'] at *); first | omega | (simp_all <;> fail) | (simp_all; omega)))) | exact leaf_t (by (first | omega | ((try simp only [decide_eq_true_eq, decide_eq_false_iff_not, Bool.not_eq_true', Bool.not_eq_false'] at *); first | omega | (simp_all <;> fail) | (simp_all; omega)))) | exact leaf_d (by (first | omega | ((try simp only [decide_eq_true_eq, decide_eq_false_iff_not, Bool.not_eq_true', Bool.not_eq_false'] at *); first | omega | (simp_all <;> fail) | (simp_all; omega)))))) <| Sub.nil _) rfl rfl
    ·
      try simp only [decide_eq_true_eq, decide_eq_false_iff_not, ne_eq, Decidable.not_not, Bool.not_eq_true', Bool.not_eq_false'] at g15
      refine E.off rfl rfl rfl rfl <| E.off rfl rfl rfl rfl <| E.off rfl rfl rfl rfl <| E.pick rfl rfl rfl <| E.nil <| X.join0 (Sub.cons (by (first | exact leaf_f (by omega) | exact leaf_t (by omega) | exact leaf_d (by omega) | exact leaf_f (by first | (simp [*] <;> fail) | omega) | exact leaf_t (by first | (simp [*] <;> fail) | omega) | exact leaf_d (by first | (simp [*] <;> fail) | omega) | exact leaf_f (by (first | omega | ((try simp only [decide_eq_true_eq, decide_eq_false_iff_not, Bool.not_eq_true', Bool.not_eq_false'] at *); first | omega | (simp_all <;> fail) | (simp_all; omega)))) | exact leaf_t (by (first | omega | ((try simp only [decide_eq_true_eq, decide_eq_false_iff_not, Bool.not_eq_true', Bool.not_eq_false'] at *); first | omega | (simp_all <;> fail) | (simp_all; omega)))) | exact leaf_d (by (first | omega | ((try simp only [decide_eq_true_eq, decide_eq_false_iff_not, Bool.not_eq_true', Bool.not_eq_false'] at *); first | omega | (simp_all <;> fail) | (simp_all; omega)))))) <| Sub.nil _) rfl rfl
  refine C.cond' rfl (fun hC0 => ?_) (fun hC0 => ?_)
  ·
    obtain ⟨x, xs2, rfl⟩ := cons_of hC0.1
    obtain ⟨y, ys2, rfl⟩ := cons_of hC0.2
    have hxm := hxn1 x (by simp)
    have hym := hyn1 y (by simp)
    refine C.skip <| X.next <| C.block <| C.seq <| C.drawn (by kernel_rfl) (by kernel_rfl) <| Q.mv rfl rfl <| ?_
    refine Q.idx1 (k := 0) rfl rfl (hM.arg0 hx1) rfl (by simp) Tryd.underlying111 (by kernel_rfl) rfl ?_
    refine Q.load rfl Tryd.underlying112 rfl ((hM.arg0 hx1).cell (by simp)) rfl ?_
    refine Q.nilc rfl rfl <| ?_
    refine Q.fld (o := 0) (sz := 0) rfl Tryd.underlying114 rfl rfl (by kernel_rfl) rfl ?_
    refine Q.load rfl Tryd.underlying3 rfl ((hp.ext hM.toExt).wt hxm) rfl ?_
    refine Q.mv rfl rfl <| ?_
    refine Q.idx1 (k := 0) rfl rfl (hM.arg0 hy1) rfl (by simp) Tryd.underlying111 (by kernel_rfl) rfl ?_
    refine Q.load rfl Tryd.underlying112 rfl ((hM.arg0 hy1).cell (by simp)) rfl ?_
    refine Q.nilc rfl rfl <| ?_
    refine Q.fld (o := 0) (sz := 0) rfl Tryd.underlying114 rfl rfl (by kernel_rfl) rfl ?_
    refine Q.load rfl Tryd.underlying3 rfl ((hp.ext hM.toExt).wt hym) rfl ?_
    refine Q.bin rfl rfl rfl rfl <| Q.nil <| fun w2 hx2 => ?_
    have hM := hM.ext hx2
    refine X.next <| ?_
    refine C.cond' rfl (fun hC1 => ?_) (fun hC1 => ?_)
    ·
      have hxy : wi x ≤ wi y := Int.ofNat_le.1 hC1
      refine C.heldM hM [] (by decide) (by kernel_rfl) fun wh3 hM hS => ?_
      refine H.take 0 rfl rfl (by kernel_rfl) (by kernel_rfl) (by kernel_rfl) hS (fun w' hM => Y.mv rfl) rfl ?_
      refine H.take 1 rfl rfl (by kernel_rfl) (by kernel_rfl) (by kernel_rfl) hS (fun w' hM => Y.mv rfl) rfl ?_
      refine H.takeV 2 rfl rfl (by kernel_rfl) (by kernel_rfl) (by kernel_rfl) hS (Y.idx1 (k := 0) rfl rfl (hM.arg0 hx1) rfl (by simp) Tryd.underlying111 (by kernel_rfl)) (fun w' hM => Y.idx1 (k := 0) rfl rfl (hM.arg0 hx1) rfl (by simp) Tryd.underlying111 (by kernel_rfl)) rfl ?_
      refine H.take 6 rfl rfl (by kernel_rfl) (by kernel_rfl) (by kernel_rfl) hS (fun w' hM => Y.mv rfl) rfl ?_
      refine H.takeV 7 rfl rfl (by kernel_rfl) (by kernel_rfl) (by kernel_rfl) hS (Y.slcP (k' := .i64) 1 _ rfl (.inl rfl) (.inr ⟨rfl, rfl⟩) (hM.arg0 hx1) Tryd.underlying111 (by kernel_rfl) (by simp) (Nat.le_refl _)) (fun w' hM => Y.slcP (k' := .i64) 1 _ rfl (.inl rfl) (.inr ⟨rfl, rfl⟩) (hM.arg0 hx1) Tryd.underlying111 (by kernel_rfl) (by simp) (Nat.le_refl _)) rfl ?_
      refine H.only 3 rfl (by kernel_rfl) ?_
      refine E.load rfl Tryd.underlying112 rfl ((hM.arg0 hx1).cell (by simp)) rfl ?_
      have hS := hM.pick [] (by decide)
      refine H.back hS ?_
      refine H.only 4 rfl (by kernel_rfl) ?_
      refine E.mk1M (enc := ip) x hM rfl Tryd.underlying111 elem_Tp_prefix_item_int rfl rfl ?_
      intro v37 w4 hM
      try dsimp only [List.nil_append, List.cons_append, List.set_cons_zero, List.set_cons_succ, repl] at hM
      have hS := hM.pick [] (by decide)
      refine H.back hS ?_
      refine H.only 5 rfl (by kernel_rfl) ?_
      refine E.appendM 0 hM rfl rfl rfl Tryd.underlying111 elem_Tp_prefix_item_int (hM.sl 1 rfl) (fun _ => rfl) (by simp only [List.length_cons, List.length_nil] at *; omega) (by simp only [List.length_cons, List.length_nil] at *; omega) rfl ?_
      intro v38 w5 hM
      try dsimp only [List.nil_append, List.cons_append, List.set_cons_zero, List.set_cons_succ, repl] at hM
      have hS := hM.pick [] (by decide)
      refine H.back hS ?_
      refine H.take 8 rfl rfl (by kernel_rfl) (by kernel_rfl) (by kernel_rfl) hS (fun w' hM => Y.asg rfl) rfl ?_
      refine H.take 9 rfl rfl (by kernel_rfl) (by kernel_rfl) (by kernel_rfl) hS (fun w' hM => Y.asg rfl) rfl ?_
      refine H.done (by kernel_rfl) ?_

      refine X.outN <| X.again6 xs2 (y :: ys2) (acc ++ [x]) _ _ v38 (Sub.cons rfl <| Sub.cons rfl <| Sub.cons rfl <| Sub.nil _) rfl ⟨hM.pick [0] (by decide), tail_part hx1, hy1, fun z hz => hxn1 z (by simp [hz]), hyn1, by simp at hl1 ⊢; omega, by rw [he, mrg_le hxy]; simp⟩ (by simp)
    ·
      have hxy : ¬ wi x ≤ wi y := fun h => hC1 (Int.ofNat_le.2 h)
      refine C.heldM hM [] (by decide) (by kernel_rfl) fun wh6 hM hS => ?_
      refine H.take 0 rfl rfl (by kernel_rfl) (by kernel_rfl) (by kernel_rfl) hS (fun w' hM => Y.mv rfl) rfl ?_
      refine H.take 1 rfl rfl (by kernel_rfl) (by kernel_rfl) (by kernel_rfl) hS (fun w' hM => Y.mv rfl) rfl ?_
      refine H.takeV 2 rfl rfl (by kernel_rfl) (by kernel_rfl) (by kernel_rfl) hS (Y.idx1 (k := 0) rfl rfl (hM.arg0 hy1) rfl (by simp) Tryd.underlying111 (by kernel_rfl)) (fun w' hM => Y.idx1 (k := 0) rfl rfl (hM.arg0 hy1) rfl (by simp) Tryd.underlying111 (by kernel_rfl)) rfl ?_
      refine H.take 6 rfl rfl (by kernel_rfl) (by kernel_rfl) (by kernel_rfl) hS (fun w' hM => Y.mv rfl) rfl ?_
      refine H.takeV 7 rfl rfl (by kernel_rfl) (by kernel_rfl) (by kernel_rfl) hS (Y.slcP (k' := .i64) 1 _ rfl (.inl rfl) (.inr ⟨rfl, rfl⟩) (hM.arg0 hy1) Tryd.underlying111 (by kernel_rfl) (by simp) (Nat.le_refl _)) (fun w' hM => Y.slcP (k' := .i64) 1 _ rfl (.inl rfl) (.inr ⟨rfl, rfl⟩) (hM.arg0 hy1) Tryd.underlying111 (by kernel_rfl) (by simp) (Nat.le_refl _)) rfl ?_
      refine H.only 3 rfl (by kernel_rfl) ?_
      refine E.load rfl Tryd.underlying112 rfl ((hM.arg0 hy1).cell (by simp)) rfl ?_
      have hS := hM.pick [] (by decide)
      refine H.back hS ?_
      refine H.only 4 rfl (by kernel_rfl) ?_
      refine E.mk1M (enc := ip) y hM rfl Tryd.underlying111 elem_Tp_prefix_item_int rfl rfl ?_
      intro v45 w7 hM
      try dsimp only [List.nil_append, List.cons_append, List.set_cons_zero, List.set_cons_succ, repl] at hM
      have hS := hM.pick [] (by decide)
      refine H.back hS ?_
      refine H.only 5 rfl (by kernel_rfl) ?_
      refine E.appendM 0 hM rfl rfl rfl Tryd.underlying111 elem_Tp_prefix_item_int (hM.sl 1 rfl) (fun _ => rfl) (by simp only [List.length_cons, List.length_nil] at *; omega) (by simp only [List.length_cons, List.length_nil] at *; omega) rfl ?_
      intro v46 w8 hM
      try dsimp only [List.nil_append, List.cons_append, List.set_cons_zero, List.set_cons_succ, repl] at hM
      have hS := hM.pick [] (by decide)
      refine H.back hS ?_
      refine H.take 8 rfl rfl (by kernel_rfl) (by kernel_rfl) (by kernel_rfl) hS (fun w' hM => Y.asg rfl) rfl ?_
      refine H.take 9 rfl rfl (by kernel_rfl) (by kernel_rfl) (by kernel_rfl) hS (fun w' hM => Y.asg rfl) rfl ?_
      refine H.done (by kernel_rfl) ?_

      refine X.outN <| X.again6 (x :: xs2) ys2 (acc ++ [y]) _ _ v46 (Sub.cons rfl <| Sub.cons rfl <| Sub.cons rfl <| Sub.nil _) rfl ⟨hM.pick [0] (by decide), hx1, tail_part hy1, hxn1, fun z hz => hyn1 z (by simp [hz]), by simp at hl1 ⊢; omega, by rw [he, mrg_gt hxy]; simp⟩ (by simp)
  ·
    have hend : mrg wi xs1 ys1 = xs1 ++ ys1 := by
      cases xs1 with
      | nil => rw [mrg]; rfl
      | cons x t =>
        cases ys1 with
        | nil => rw [mrg_nil, List.append_nil]
        | cons y u => exact (hC0 ⟨by simp, by simp⟩).elim
    refine C.exit <| X.exitT <| X.exitT <| X.outE <| X.next <| C.seq <| C.region <| E.mv rfl rfl <| E.mv rfl rfl <| ?_
    refine E.appendM 0 hM rfl rfl rfl Tryd.underlying111 elem_Tp_prefix_item_int (hM.arg0 hx1) (fun _ => rfl) (by omega) (by omega) rfl ?_
    intro v51 w9 hM
    try dsimp only [List.nil_append, List.cons_append, List.set_cons_zero, List.set_cons_succ, repl] at hM
    refine E.mv rfl rfl <| ?_
    refine E.appendM 0 hM rfl rfl rfl Tryd.underlying111 elem_Tp_prefix_item_int (hM.arg0 hy1) (fun _ => rfl) (by simp only [List.length_append]; omega) (by simp only [List.length_append]; omega) rfl ?_
    intro v53 w10 hM
    try dsimp only [List.nil_append, List.cons_append, List.set_cons_zero, List.set_cons_succ, repl] at hM
    refine E.asg rfl rfl <| E.nil <| X.next <| C.ret <| ret1 rfl rfl ?_
    exact hM.to (by rw [he, hend, List.append_assoc])

set_option maxHeartbeats 1000000 in
theorem packages_ret (p : Value) (xs : List It) (N P : List It) (w : World) (hp : Pool w N P) (hx : RdL ip w p xs) (hxn : ∀ x ∈ xs, x ∈ N) (hlen : xs.length ≤ 1000000) (hwt : ∀ x ∈ xs, wi x ≤ 2305843009213693952) :
    Ret Tryd.prog 74 #[p] w fun v w' => ∃ zs : List It, zs.map Prod.snd = pkg (xs.map Prod.snd) ∧ M w Nn w' [Rg.sl ip 112 v zs, Rg.pool zs N] := by
  have hM := M.start w
  refine enter Tryd.func74 rfl (by kernel_rfl) Tryd.ntmps74 rfl ?_
  refine C.seq <| C.region <| E.asg rfl rfl <| E.nil <| X.next <| C.seq <| C.region <| E.asg rfl rfl <| E.nil <| X.next <| C.seq <| C.seq <| C.region <| E.asg rfl rfl <| E.nil <| X.next <| C.block <| ?_
  have hM := (hM.nil ip 112).poolNil N
  try dsimp only [List.nil_append, List.cons_append, List.set_cons_zero, List.set_cons_succ, repl] at hM

  refine C.loop3 [(0, _)] rfl (fun (k : Nat) (zs : (List It)) (vr : Value) => [(3, vr), (4, i64 ((2 * k : Nat) : Int))]) (fun (k : Nat) (zs : (List It)) (vr : Value) w' => M w (Nn) w' [Rg.sl ip 112 vr zs, Rg.pool zs N] ∧ 2 * k ≤ xs.length + 1 ∧ zs.length = k ∧ zs.map Prod.snd = pkg ((xs.map Prod.snd).take (2 * k))) (fun (k : Nat) (zs : (List It)) (vr : Value) => xs.length + 2 - 2 * k) 0 [] nilI ?_ ?_ ?_
  · exact Sub.cons rfl <| Sub.cons rfl <| Sub.nil _
  · exact ⟨hM, by omega, rfl, rfl⟩
  rintro k zs vr w0 ⟨hM, hk, hzl, hz⟩
  refine C.seq <| C.seq <| C.region <| E.mv rfl rfl <| ?_
  refine E.addN (b := 1) rfl rfl (by omega) rfl ?_
  refine E.mv rfl rfl <| ?_
  refine E.lenv rfl (Rd.shape (hM.arg0 hx)) Tryd.underlying111 rfl ?_
  refine E.bin rfl rfl rfl rfl <| E.nil <| X.next <| ?_
  refine C.cond' rfl (fun hC0 => ?_) (fun hC0 => ?_)
  ·
    have hk0 : 2 * k < xs.length := by omega
    have hk1 : 2 * k + 1 < xs.length := by omega
    have hm0 := hxn xs[2 * k] (List.getElem_mem hk0)
    have hm1 := hxn xs[2 * k + 1] (List.getElem_mem hk1)
    have hw0 := hwt xs[2 * k] (List.getElem_mem hk0)
    have hw1 := hwt xs[2 * k + 1] (List.getElem_mem hk1)
    refine C.skip <| X.next <| C.seq <| C.block <| C.heldM hM [] (by decide) (by kernel_rfl) fun wh1 hM hS => ?_
    refine H.take 0 rfl rfl (by kernel_rfl) (by kernel_rfl) (by kernel_rfl) hS (fun w' hM => Y.mv rfl) rfl ?_
    refine H.take 1 rfl rfl (by kernel_rfl) (by kernel_rfl) (by kernel_rfl) hS (fun w' hM => Y.mv rfl) rfl ?_
    refine H.take 2 rfl rfl (by kernel_rfl) (by kernel_rfl) (by kernel_rfl) hS (fun w' hM => Y.mv rfl) rfl ?_
    refine H.takeV 3 rfl rfl (by kernel_rfl) (by kernel_rfl) (by kernel_rfl) hS (Y.idx1 (k := (2 * k)) rfl rfl (hM.arg0 hx) rfl hk0 Tryd.underlying111 (by kernel_rfl)) (fun w' hM => Y.idx1 (k := (2 * k)) rfl rfl (hM.arg0 hx) rfl hk0 Tryd.underlying111 (by kernel_rfl)) rfl ?_
    refine H.take 8 rfl rfl (by kernel_rfl) (by kernel_rfl) (by kernel_rfl) hS (fun w' hM => Y.mv rfl) rfl ?_
    refine H.take 9 rfl rfl (by kernel_rfl) (by kernel_rfl) (by kernel_rfl) hS (fun w' hM => Y.mv rfl) rfl ?_
    refine H.take 10 rfl rfl (by kernel_rfl) (by kernel_rfl) (by kernel_rfl) hS (fun w' hM => Y.add rfl rfl (by omega)) rfl ?_
    refine H.takeV 11 rfl rfl (by kernel_rfl) (by kernel_rfl) (by kernel_rfl) hS (Y.idx1 (k := (2 * k + 1)) rfl rfl (hM.arg0 hx) rfl hk1 Tryd.underlying111 (by kernel_rfl)) (fun w' hM => Y.idx1 (k := (2 * k + 1)) rfl rfl (hM.arg0 hx) rfl hk1 Tryd.underlying111 (by kernel_rfl)) rfl ?_
    refine H.take 17 rfl rfl (by kernel_rfl) (by kernel_rfl) (by kernel_rfl) hS (fun w' hM => Y.mv rfl) rfl ?_
    refine H.take 18 rfl rfl (by kernel_rfl) (by kernel_rfl) (by kernel_rfl) hS (fun w' hM => Y.mv rfl) rfl ?_
    refine H.takeV 19 rfl rfl (by kernel_rfl) (by kernel_rfl) (by kernel_rfl) hS (Y.idx1 (k := (2 * k)) rfl rfl (hM.arg0 hx) rfl hk0 Tryd.underlying111 (by kernel_rfl)) (fun w' hM => Y.idx1 (k := (2 * k)) rfl rfl (hM.arg0 hx) rfl hk0 Tryd.underlying111 (by kernel_rfl)) rfl ?_
    refine H.take 21 rfl rfl (by kernel_rfl) (by kernel_rfl) (by kernel_rfl) hS (fun w' hM => Y.mv rfl) rfl ?_
    refine H.take 22 rfl rfl (by kernel_rfl) (by kernel_rfl) (by kernel_rfl) hS (fun w' hM => Y.mv rfl) rfl ?_
    refine H.take 23 rfl rfl (by kernel_rfl) (by kernel_rfl) (by kernel_rfl) hS (fun w' hM => Y.add rfl rfl (by omega)) rfl ?_
    refine H.takeV 24 rfl rfl (by kernel_rfl) (by kernel_rfl) (by kernel_rfl) hS (Y.idx1 (k := (2 * k + 1)) rfl rfl (hM.arg0 hx) rfl hk1 Tryd.underlying111 (by kernel_rfl)) (fun w' hM => Y.idx1 (k := (2 * k + 1)) rfl rfl (hM.arg0 hx) rfl hk1 Tryd.underlying111 (by kernel_rfl)) rfl ?_
    refine H.takeV 4 rfl rfl (by kernel_rfl) (by kernel_rfl) (by kernel_rfl) hS (Y.load rfl Tryd.underlying112 rfl ((hM.arg0 hx).cell hk0)) (fun w' hM => Y.load rfl Tryd.underlying112 rfl ((hM.arg0 hx).cell hk0)) rfl ?_
    refine H.take 5 rfl rfl (by kernel_rfl) (by kernel_rfl) (by kernel_rfl) hS (fun w' hM => Y.nilc rfl) rfl ?_
    refine H.takeV 6 rfl rfl (by kernel_rfl) (by kernel_rfl) (by kernel_rfl) hS (Y.fld (o := 0) (sz := 0) rfl Tryd.underlying114 rfl rfl (by kernel_rfl)) (fun w' hM => Y.fld (o := 0) (sz := 0) rfl Tryd.underlying114 rfl rfl (by kernel_rfl)) rfl ?_
    refine H.takeV 7 rfl rfl (by kernel_rfl) (by kernel_rfl) (by kernel_rfl) hS (Y.load rfl Tryd.underlying3 rfl ((hp.ext hM.toExt).wt hm0)) (fun w' hM => Y.load rfl Tryd.underlying3 rfl ((hp.ext hM.toExt).wt hm0)) rfl ?_
    refine H.takeV 12 rfl rfl (by kernel_rfl) (by kernel_rfl) (by kernel_rfl) hS (Y.load rfl Tryd.underlying112 rfl ((hM.arg0 hx).cell hk1)) (fun w' hM => Y.load rfl Tryd.underlying112 rfl ((hM.arg0 hx).cell hk1)) rfl ?_
    refine H.take 13 rfl rfl (by kernel_rfl) (by kernel_rfl) (by kernel_rfl) hS (fun w' hM => Y.nilc rfl) rfl ?_
    refine H.takeV 14 rfl rfl (by kernel_rfl) (by kernel_rfl) (by kernel_rfl) hS (Y.fld (o := 0) (sz := 0) rfl Tryd.underlying114 rfl rfl (by kernel_rfl)) (fun w' hM => Y.fld (o := 0) (sz := 0) rfl Tryd.underlying114 rfl rfl (by kernel_rfl)) rfl ?_
    refine H.takeV 15 rfl rfl (by kernel_rfl) (by kernel_rfl) (by kernel_rfl) hS (Y.load rfl Tryd.underlying3 rfl ((hp.ext hM.toExt).wt hm1)) (fun w' hM => Y.load rfl Tryd.underlying3 rfl ((hp.ext hM.toExt).wt hm1)) rfl ?_
    refine H.take 16 rfl rfl (by kernel_rfl) (by kernel_rfl) (by kernel_rfl) hS (fun w' hM => Y.add rfl rfl (by omega)) rfl ?_
    refine H.takeV 20 rfl rfl (by kernel_rfl) (by kernel_rfl) (by kernel_rfl) hS (Y.load rfl Tryd.underlying112 rfl ((hM.arg0 hx).cell hk0)) (fun w' hM => Y.load rfl Tryd.underlying112 rfl ((hM.arg0 hx).cell hk0)) rfl ?_
    refine H.only 25 rfl (by kernel_rfl) ?_
    refine E.load rfl Tryd.underlying112 rfl ((hM.arg0 hx).cell hk1) rfl ?_
    have hS := hM.pick [] (by decide)
    refine H.back hS ?_
    refine H.take 26 rfl rfl (by kernel_rfl) (by kernel_rfl) (by kernel_rfl) hS (fun w' hM => Y.buildC (cs := [_, _, _, _]) [.int .i64 0, .int .i64 0, .pointer none, .pointer none] [0, 2, 3] rfl rfl (by kernel_rfl)) rfl ?_
    refine H.only 27 rfl (by kernel_rfl) ?_
    refine E.boxM hM rfl rfl rfl ?_
    intro b39 w2 hM
    try dsimp only [List.nil_append, List.cons_append, List.set_cons_zero, List.set_cons_succ, repl] at hM
    have hS := hM.pick [] (by decide)
    refine H.back hS ?_
    refine H.only 28 rfl (by kernel_rfl) ?_
    refine E.mk1M (enc := ip) (b39, Tr.node xs[2 * k].2 xs[2 * k + 1].2) hM rfl Tryd.underlying111 elem_Tp_prefix_item_int rfl rfl ?_
    intro v40 w3 hM
    try dsimp only [List.nil_append, List.cons_append, List.set_cons_zero, List.set_cons_succ, repl] at hM
    have hS := hM.pick [] (by decide)
    refine H.back hS ?_
    refine H.only 29 rfl (by kernel_rfl) ?_
    refine E.appendM 0 hM rfl rfl rfl Tryd.underlying111 elem_Tp_prefix_item_int (hM.sl 3 rfl) (fun _ => rfl) (by simp only [List.length_cons, List.length_nil]; omega) (by simp only [List.length_cons, List.length_nil]; omega) rfl ?_
    intro v41 w4 hM
    try dsimp only [List.nil_append, List.cons_append, List.set_cons_zero, List.set_cons_succ, repl] at hM
    have hM := hM.poolAdd (t := Tr.node xs[2 * k].2 xs[2 * k + 1].2) 1 2 (by decide) rfl rfl ⟨xs[2 * k].1, xs[2 * k + 1].1, hm0, hm1, rfl⟩
    try dsimp only [List.nil_append, List.cons_append, List.set_cons_zero, List.set_cons_succ, repl] at hM
    have hS := hM.pick [] (by decide)
    refine H.back hS ?_
    refine H.take 30 rfl rfl (by kernel_rfl) (by kernel_rfl) (by kernel_rfl) hS (fun w' hM => Y.asg rfl) rfl ?_
    refine H.done (by kernel_rfl) ?_
    refine X.outN <| X.next <| C.region <| E.mv rfl rfl <| ?_
    refine E.addN (b := 2) rfl rfl (by omega) rfl ?_

    refine E.asg rfl rfl <| E.nil <| X.again3 (k + 1) (zs ++ [(b39, Tr.node xs[2 * k].2 xs[2 * k + 1].2)]) v41 (Sub.cons rfl <| Sub.cons rfl <| Sub.nil _) rfl ⟨hM.pick [0, 1] (by decide), by omega, by simp [hzl], by rw [pkg_snoc k _ (by simpa using hk1), List.map_append, hz]; simp⟩ (by omega)
  ·
    rw [pkg_end k _ (by rw [List.length_map]; omega)] at hz
    refine C.exit <| X.exitT <| X.exitT <| X.outE <| X.next <| C.seq <| C.region <| E.mv rfl rfl <| E.asg rfl rfl <| E.nil <| X.next <| C.ret <| ret1 rfl rfl ?_
    exact ⟨zs, hz, hM⟩

end Go.Proofs.YtcmgbjmcklfkcaaDoor
