/- Texts of the claim, laid together: Pf10, Pf11, Pf12, Pf19. -/
import Derived.Test.YtajklleiifhipaaGreatDoorY0
import Derived.Test.YtajklleiifhipaaGreatDoorY3
import Derived.Test.YtajklleiifhipaaGreatDoorY5
import Derived.Test.YtajklleiifhipaaGreatDoorY6
set_option linter.unusedSimpArgs false
set_option linter.unusedVariables false
namespace Go.Proofs.YtajklleiifhipaaGreatDoor
open Go.RowKit Sym
theorem cons_of {α : Type} {l : List α} (h : 0 < l.length) : ∃ x t, l = x :: t := by cases l with
 | nil => simp at h
 | cons x t => exact ⟨x, t, rfl⟩
def pkg : List Tr → List Tr
 | a :: b :: l => .node a b :: pkg l
 | _ => []
theorem pkg_snoc : ∀ (k : Nat) (l : List Tr) (h : 2 * k + 1 < l.length), pkg (l.take (2 * (k + 1))) = pkg (l.take (2 * k)) ++ [.node l[2 * k] l[2 * k + 1]]
 | 0, a :: b :: l, _ => by simp [pkg]
 | k + 1, a :: b :: l, h => by
  have hl : 2 * k + 1 < l.length := by simp at h; omega
  have ih := pkg_snoc k l hl
  have e1 : (a :: b :: l).take (2 * (k + 1 + 1)) = a :: b :: l.take (2 * (k + 1)) := by rw [show 2 * (k + 1 + 1) = 2 * (k + 1) + 1 + 1 by omega]; rfl
  have e2 : (a :: b :: l).take (2 * (k + 1)) = a :: b :: l.take (2 * k) := by rw [show 2 * (k + 1) = 2 * k + 1 + 1 by omega]; rfl
  have g1 : ∀ (m : Nat) (hm : m < (a :: b :: l).length), m = 2 * k + 1 + 1 → (a :: b :: l)[m] = l[2 * k] := by rintro m hm rfl; rfl
  have g2 : ∀ (m : Nat) (hm : m < (a :: b :: l).length), m = 2 * k + 1 + 1 + 1 → (a :: b :: l)[m] = l[2 * k + 1] := by rintro m hm rfl; rfl
  rw [e1, e2, pkg, pkg, ih, g1 _ _ (by omega), g2 _ _ (by omega)]; rfl
 | 0, [_], h => by simp at h
 | 0, [], h => by simp at h
 | k + 1, [_], h => by simp at h
 | k + 1, [], h => by simp at h
theorem pkg_end : ∀ (k : Nat) (l : List Tr), ¬ 2 * k + 1 < l.length → pkg (l.take (2 * k)) = pkg l
 | 0, [], _ => rfl
 | 0, [_], _ => rfl
 | 0, _ :: _ :: _, h => by simp at h
 | k + 1, [], _ => by simp
 | k + 1, [_], _ => by rw [show 2 * (k + 1) = (2 * k + 1) + 1 by omega, List.take_succ_cons]; simp
 | k + 1, a :: b :: l, h => by
  have := pkg_end k l (by simp at h; omega)
  rw [show 2 * (k + 1) = 2 * k + 2 by omega, List.take_succ_cons, List.take_succ_cons, pkg, this, pkg]
theorem pkg_len : ∀ l : List Tr, (pkg l).length = l.length / 2
 | [] => rfl
 | [_] => by simp [pkg]
 | a :: b :: l => by rw [pkg, List.length_cons, pkg_len l]; simp; omega
set_option maxHeartbeats 1000000 in
theorem merge_ret (p q : Value) (xs ys : List It) (N P : List It) (w : World) (hp : Pool w N P) (hx : RdL ip w p xs) (hy : RdL ip w q ys) (hxn : ∀ x ∈ xs, x ∈ N) (hyn : ∀ y ∈ ys, y ∈ N) (hlen : xs.length + ys.length ≤ 1000000) :
  Ret Tryz.prog 135 #[p, q] w fun v w' => M w Nn w' [Rg.sl ip 155 v (mrg wi xs ys)] := by
 have hM := M.start w
 refine enter Tryz.func135 rfl (by kernel_rfl) Tryz.ntmps135 rfl ?_
 refine C.seq <| C.region <| E.asg rfl rfl <| E.nil <| X.next <| C.seq <| C.region <| E.mv rfl rfl <| ?_
 refine E.lenv rfl (Rd.shape (hM.arg0 hx)) U154 rfl ?_
 refine E.mv rfl rfl <| ?_
 refine E.lenv rfl (Rd.shape (hM.arg0 hy)) U154 rfl ?_
 refine E.addN rfl rfl (by omega) rfl ?_
 refine E.make0M (by_ := 8) (enc := fun _ : Unit => Value.pointer none) () hM rfl rfl U154 (by kernel_rfl) rfl (by omega) (by omega) rfl ?_
 intro v11 w0 hM
 try dsimp only [Za, Zb, Zc, Zd, repl] at hM
 refine E.asg rfl rfl <| E.nil <| X.next <| C.seq <| C.block <| ?_
 have hM : M w Nn _ [Rg.sl ip 155 v11 []] := hM
 refine C.loop6 [] rfl (fun (xs1 : (List It)) (ys1 : (List It)) (acc : (List It)) (vl : Value) (vo : Value) (vr : Value) => [(0, vl), (1, vo), (5, vr)]) (fun (xs1 : (List It)) (ys1 : (List It)) (acc : (List It)) (vl : Value) (vo : Value) (vr : Value) w' => M w (Nn) w' [Rg.sl ip 155 vr acc] ∧ RdL ip w vl xs1 ∧ RdL ip w vo ys1 ∧ (∀ x ∈ xs1, x ∈ N) ∧ (∀ y ∈ ys1, y ∈ N) ∧ acc.length + (xs1.length + ys1.length) ≤ 1000000 ∧ mrg wi xs ys = acc ++ mrg wi xs1 ys1) (fun (xs1 : (List It)) (ys1 : (List It)) (acc : (List It)) (vl : Value) (vo : Value) (vr : Value) => xs1.length + ys1.length) xs ys [] p q v11 ?_ ?_ ?_
 · exact Sub.cons rfl <| Sub.cons rfl <| Sub.cons rfl <| Sub.nil _
 · exact ⟨hM, hx, hy, hxn, hyn, by simpa using hlen, rfl⟩
 rintro xs1 ys1 acc vl vo vr w1 ⟨hM, hx1, hy1, hxn1, hyn1, hl1, he⟩
 refine C.seq <| ?_
 refine C.chainE [(0, _), (1, _), (5, _)] rfl [(19, .bool (decide (0 < xs1.length ∧ 0 < ys1.length)))] ?_ ?_
 ·
  refine C.region <| E.mv rfl rfl <| ?_
  refine E.lenv rfl (Rd.shape (hM.arg0 hx1)) U154 rfl ?_
  refine E.bin rfl rfl rfl rfl <| E.mv rfl rfl <| ?_
  refine E.split 15 rfl (fun g15 => ?_) (fun g15 => ?_)
  ·
   try simp only [Ya, Yb, Yc, Yd, Ye, Yf] at g15
   refine E.on rfl rfl (E.mv rfl rfl ?_)
   refine E.on rfl rfl (E.lenv rfl (Rd.shape (hM.arg0 hy1)) U154 rfl ?_)
   refine E.on rfl rfl (E.bin rfl rfl rfl rfl ?_)
   refine E.pick rfl rfl rfl <| E.nil <| X.join0 (Sub.cons (by exact leaf_d (by omega)) <| Sub.nil _) rfl rfl
  try simp only [Ya, Yb, Yc, Yd, Ye, Yf] at g15
  refine E.off rfl rfl rfl rfl <| E.off rfl rfl rfl rfl <| E.off rfl rfl rfl rfl <| E.pick rfl rfl rfl <| E.nil <| X.join0 (Sub.cons (by exact leaf_f (by omega)) <| Sub.nil _) rfl rfl
 refine C.cond' rfl (fun hC0 => ?_) (fun hC0 => ?_)
 ·
  obtain ⟨x, xs2, rfl⟩ := cons_of hC0.1
  obtain ⟨y, ys2, rfl⟩ := cons_of hC0.2
  have hxm := hxn1 x (by simp)
  have hym := hyn1 y (by simp)
  refine C.skip <| X.next <| C.block <| C.seq <| C.drawn (by kernel_rfl) (by kernel_rfl) <| Q.mv rfl rfl <| ?_
  refine Q.idx1 (k := 0) rfl rfl (hM.arg0 hx1) rfl (by simp) U154 (by kernel_rfl) rfl ?_
  refine Q.load rfl U155 rfl ((hM.arg0 hx1).cell (by simp)) rfl ?_
  refine Q.nilc rfl rfl <| ?_
  refine Q.fld (o := 0) (sz := 0) rfl U157 rfl rfl (by kernel_rfl) rfl ?_
  refine Q.load rfl U3 rfl ((hp.ext hM.toExt).wt hxm) rfl ?_
  refine Q.mv rfl rfl <| ?_
  refine Q.idx1 (k := 0) rfl rfl (hM.arg0 hy1) rfl (by simp) U154 (by kernel_rfl) rfl ?_
  refine Q.load rfl U155 rfl ((hM.arg0 hy1).cell (by simp)) rfl ?_
  refine Q.nilc rfl rfl <| ?_
  refine Q.fld (o := 0) (sz := 0) rfl U157 rfl rfl (by kernel_rfl) rfl ?_
  refine Q.load rfl U3 rfl ((hp.ext hM.toExt).wt hym) rfl ?_
  refine Q.bin rfl rfl rfl rfl <| Q.nil <| fun w2 hx2 => ?_
  have hM := hM.ext hx2
  refine X.next <| ?_
  refine C.cond' rfl (fun hC1 => ?_) (fun hC1 => ?_)
  ·
   have hxy : wi x ≤ wi y := Int.ofNat_le.1 hC1
   refine C.heldM hM [] (by decide) (by kernel_rfl) fun wh3 hM hS => ?_
   refine H.take 0 rfl rfl (by kernel_rfl) (by kernel_rfl) (by kernel_rfl) hS (fun w' hM => Y.mv rfl) rfl ?_
   refine H.take 1 rfl rfl (by kernel_rfl) (by kernel_rfl) (by kernel_rfl) hS (fun w' hM => Y.mv rfl) rfl ?_
   refine H.takeV 2 rfl rfl (by kernel_rfl) (by kernel_rfl) (by kernel_rfl) hS (Y.idx1 (k := 0) rfl rfl (hM.arg0 hx1) rfl (by simp) U154 (by kernel_rfl)) (fun w' hM => Y.idx1 (k := 0) rfl rfl (hM.arg0 hx1) rfl (by simp) U154 (by kernel_rfl)) rfl ?_
   refine H.take 6 rfl rfl (by kernel_rfl) (by kernel_rfl) (by kernel_rfl) hS (fun w' hM => Y.mv rfl) rfl ?_
   refine H.takeV 7 rfl rfl (by kernel_rfl) (by kernel_rfl) (by kernel_rfl) hS (Y.slcP (k' := .i64) 1 _ rfl (.inl rfl) (.inr ⟨rfl, rfl⟩) (hM.arg0 hx1) U154 (by kernel_rfl) (by simp) (Nat.le_refl _)) (fun w' hM => Y.slcP (k' := .i64) 1 _ rfl (.inl rfl) (.inr ⟨rfl, rfl⟩) (hM.arg0 hx1) U154 (by kernel_rfl) (by simp) (Nat.le_refl _)) rfl ?_
   refine H.only 3 rfl (by kernel_rfl) ?_
   refine E.load rfl U155 rfl ((hM.arg0 hx1).cell (by simp)) rfl ?_
   have hS := hM.pick [] (by decide)
   refine H.back hS ?_
   refine H.only 4 rfl (by kernel_rfl) ?_
   refine E.mk1M (enc := ip) x hM rfl U154 elem_Tp_prefix_item_int rfl rfl ?_
   intro v37 w4 hM
   try dsimp only [Za, Zb, Zc, Zd, repl] at hM
   have hS := hM.pick [] (by decide)
   refine H.back hS ?_
   refine H.only 5 rfl (by kernel_rfl) ?_
   refine E.appendM 0 hM rfl rfl rfl U154 elem_Tp_prefix_item_int (hM.sl 1 rfl) (fun _ => rfl) (by simp only [List.length_cons, List.length_nil] at *; omega) (by simp only [List.length_cons, List.length_nil] at *; omega) rfl ?_
   intro v38 w5 hM
   try dsimp only [Za, Zb, Zc, Zd, repl] at hM
   have hS := hM.pick [] (by decide)
   refine H.back hS ?_
   refine H.take 8 rfl rfl (by kernel_rfl) (by kernel_rfl) (by kernel_rfl) hS (fun w' hM => Y.asg rfl) rfl ?_
   refine H.take 9 rfl rfl (by kernel_rfl) (by kernel_rfl) (by kernel_rfl) hS (fun w' hM => Y.asg rfl) rfl ?_
   refine H.done (by kernel_rfl) ?_
   refine X.outN <| X.again6 xs2 (y :: ys2) (acc ++ [x]) _ _ v38 (Sub.cons rfl <| Sub.cons rfl <| Sub.cons rfl <| Sub.nil _) rfl ⟨hM.pick [0] (by decide), tail_part hx1, hy1, fun z hz => hxn1 z (by simp [hz]), hyn1, by simp at hl1 ⊢; omega, by rw [he, mrg_le hxy]; simp⟩ (by simp)
  have hxy : ¬ wi x ≤ wi y := fun h => hC1 (Int.ofNat_le.2 h)
  refine C.heldM hM [] (by decide) (by kernel_rfl) fun wh6 hM hS => ?_
  refine H.take 0 rfl rfl (by kernel_rfl) (by kernel_rfl) (by kernel_rfl) hS (fun w' hM => Y.mv rfl) rfl ?_
  refine H.take 1 rfl rfl (by kernel_rfl) (by kernel_rfl) (by kernel_rfl) hS (fun w' hM => Y.mv rfl) rfl ?_
  refine H.takeV 2 rfl rfl (by kernel_rfl) (by kernel_rfl) (by kernel_rfl) hS (Y.idx1 (k := 0) rfl rfl (hM.arg0 hy1) rfl (by simp) U154 (by kernel_rfl)) (fun w' hM => Y.idx1 (k := 0) rfl rfl (hM.arg0 hy1) rfl (by simp) U154 (by kernel_rfl)) rfl ?_
  refine H.take 6 rfl rfl (by kernel_rfl) (by kernel_rfl) (by kernel_rfl) hS (fun w' hM => Y.mv rfl) rfl ?_
  refine H.takeV 7 rfl rfl (by kernel_rfl) (by kernel_rfl) (by kernel_rfl) hS (Y.slcP (k' := .i64) 1 _ rfl (.inl rfl) (.inr ⟨rfl, rfl⟩) (hM.arg0 hy1) U154 (by kernel_rfl) (by simp) (Nat.le_refl _)) (fun w' hM => Y.slcP (k' := .i64) 1 _ rfl (.inl rfl) (.inr ⟨rfl, rfl⟩) (hM.arg0 hy1) U154 (by kernel_rfl) (by simp) (Nat.le_refl _)) rfl ?_
  refine H.only 3 rfl (by kernel_rfl) ?_
  refine E.load rfl U155 rfl ((hM.arg0 hy1).cell (by simp)) rfl ?_
  have hS := hM.pick [] (by decide)
  refine H.back hS ?_
  refine H.only 4 rfl (by kernel_rfl) ?_
  refine E.mk1M (enc := ip) y hM rfl U154 elem_Tp_prefix_item_int rfl rfl ?_
  intro v45 w7 hM
  try dsimp only [Za, Zb, Zc, Zd, repl] at hM
  have hS := hM.pick [] (by decide)
  refine H.back hS ?_
  refine H.only 5 rfl (by kernel_rfl) ?_
  refine E.appendM 0 hM rfl rfl rfl U154 elem_Tp_prefix_item_int (hM.sl 1 rfl) (fun _ => rfl) (by simp only [List.length_cons, List.length_nil] at *; omega) (by simp only [List.length_cons, List.length_nil] at *; omega) rfl ?_
  intro v46 w8 hM
  try dsimp only [Za, Zb, Zc, Zd, repl] at hM
  have hS := hM.pick [] (by decide)
  refine H.back hS ?_
  refine H.take 8 rfl rfl (by kernel_rfl) (by kernel_rfl) (by kernel_rfl) hS (fun w' hM => Y.asg rfl) rfl ?_
  refine H.take 9 rfl rfl (by kernel_rfl) (by kernel_rfl) (by kernel_rfl) hS (fun w' hM => Y.asg rfl) rfl ?_
  refine H.done (by kernel_rfl) ?_
  refine X.outN <| X.again6 (x :: xs2) ys2 (acc ++ [y]) _ _ v46 (Sub.cons rfl <| Sub.cons rfl <| Sub.cons rfl <| Sub.nil _) rfl ⟨hM.pick [0] (by decide), hx1, tail_part hy1, hxn1, fun z hz => hyn1 z (by simp [hz]), by simp at hl1 ⊢; omega, by rw [he, mrg_gt hxy]; simp⟩ (by simp)
 have hend : mrg wi xs1 ys1 = xs1 ++ ys1 := by
  cases xs1 with
  | nil => rw [mrg]; rfl
  | cons x t =>
   cases ys1 with
   | nil => rw [mrg_nil, List.append_nil]
   | cons y u => exact (hC0 ⟨by simp, by simp⟩).elim
 refine C.exit <| X.exitT <| X.exitT <| X.outE <| X.next <| C.seq <| C.region <| E.mv rfl rfl <| E.mv rfl rfl <| ?_
 refine E.appendM 0 hM rfl rfl rfl U154 elem_Tp_prefix_item_int (hM.arg0 hx1) (fun _ => rfl) (by omega) (by omega) rfl ?_
 intro v51 w9 hM
 try dsimp only [Za, Zb, Zc, Zd, repl] at hM
 refine E.mv rfl rfl <| ?_
 refine E.appendM 0 hM rfl rfl rfl U154 elem_Tp_prefix_item_int (hM.arg0 hy1) (fun _ => rfl) (by simp only [List.length_append]; omega) (by simp only [List.length_append]; omega) rfl ?_
 intro v53 w10 hM
 try dsimp only [Za, Zb, Zc, Zd, repl] at hM
 refine E.asg rfl rfl <| E.nil <| X.next <| C.ret <| ret1 rfl rfl ?_
 exact hM.to (by rw [he, hend, List.append_assoc])
set_option maxHeartbeats 1000000 in
theorem packages_ret (p : Value) (xs : List It) (N P : List It) (w : World) (hp : Pool w N P) (hx : RdL ip w p xs) (hxn : ∀ x ∈ xs, x ∈ N) (hlen : xs.length ≤ 1000000) (hwt : ∀ x ∈ xs, wi x ≤ 2305843009213693952) :
  Ret Tryz.prog 136 #[p] w fun v w' => ∃ zs : List It, zs.map Prod.snd = pkg (xs.map Prod.snd) ∧ M w Nn w' [Rg.sl ip 155 v zs, Rg.pool zs N] := by
 have hM := M.start w
 refine enter Tryz.func136 rfl (by kernel_rfl) Tryz.ntmps136 rfl ?_
 refine C.seq <| C.region <| E.asg rfl rfl <| E.nil <| X.next <| C.seq <| C.region <| E.asg rfl rfl <| E.nil <| X.next <| C.seq <| C.seq <| C.region <| E.asg rfl rfl <| E.nil <| X.next <| C.block <| ?_
 have hM := (hM.nil ip 155).poolNil N
 try dsimp only [Za, Zb, Zc, Zd, repl] at hM
 refine C.loop3 [(0, _)] rfl (fun (k : Nat) (zs : (List It)) (vr : Value) => [(3, vr), (4, i64 ((2 * k : Nat) : Int))]) (fun (k : Nat) (zs : (List It)) (vr : Value) w' => M w (Nn) w' [Rg.sl ip 155 vr zs, Rg.pool zs N] ∧ 2 * k ≤ xs.length + 1 ∧ zs.length = k ∧ zs.map Prod.snd = pkg ((xs.map Prod.snd).take (2 * k))) (fun (k : Nat) (zs : (List It)) (vr : Value) => xs.length + 2 - 2 * k) 0 [] nilI ?_ ?_ ?_
 · exact Sub.cons rfl <| Sub.cons rfl <| Sub.nil _
 · exact ⟨hM, by omega, rfl, rfl⟩
 rintro k zs vr w0 ⟨hM, hk, hzl, hz⟩
 refine C.seq <| C.seq <| C.region <| E.mv rfl rfl <| ?_
 refine E.addN (b := 1) rfl rfl (by omega) rfl ?_
 refine E.mv rfl rfl <| ?_
 refine E.lenv rfl (Rd.shape (hM.arg0 hx)) U154 rfl ?_
 refine E.bin rfl rfl rfl rfl <| E.nil <| X.next <| ?_
 refine C.cond' rfl (fun hC0 => ?_) (fun hC0 => ?_)
 ·
  have hk0 : 2 * k < xs.length := by omega
  have hk1 : 2 * k + 1 < xs.length := by omega
  have hm0 := hxn xs[2 * k] (List.getElem_mem hk0)
  have hm1 := hxn xs[2 * k + 1] (List.getElem_mem hk1)
  have hw0 := hwt xs[2 * k] (List.getElem_mem hk0)
  have hw1 := hwt xs[2 * k + 1] (List.getElem_mem hk1)
  refine C.skip <| X.next <| C.seq <| C.block <| C.heldM hM [] (by decide) (by kernel_rfl) fun wh1 hM hS => ?_
  refine H.take 0 rfl rfl (by kernel_rfl) (by kernel_rfl) (by kernel_rfl) hS (fun w' hM => Y.mv rfl) rfl ?_
  refine H.take 1 rfl rfl (by kernel_rfl) (by kernel_rfl) (by kernel_rfl) hS (fun w' hM => Y.mv rfl) rfl ?_
  refine H.take 2 rfl rfl (by kernel_rfl) (by kernel_rfl) (by kernel_rfl) hS (fun w' hM => Y.mv rfl) rfl ?_
  refine H.takeV 3 rfl rfl (by kernel_rfl) (by kernel_rfl) (by kernel_rfl) hS (Y.idx1 (k := (2 * k)) rfl rfl (hM.arg0 hx) rfl hk0 U154 (by kernel_rfl)) (fun w' hM => Y.idx1 (k := (2 * k)) rfl rfl (hM.arg0 hx) rfl hk0 U154 (by kernel_rfl)) rfl ?_
  refine H.take 8 rfl rfl (by kernel_rfl) (by kernel_rfl) (by kernel_rfl) hS (fun w' hM => Y.mv rfl) rfl ?_
  refine H.take 9 rfl rfl (by kernel_rfl) (by kernel_rfl) (by kernel_rfl) hS (fun w' hM => Y.mv rfl) rfl ?_
  refine H.take 10 rfl rfl (by kernel_rfl) (by kernel_rfl) (by kernel_rfl) hS (fun w' hM => Y.add rfl rfl (by omega)) rfl ?_
  refine H.takeV 11 rfl rfl (by kernel_rfl) (by kernel_rfl) (by kernel_rfl) hS (Y.idx1 (k := (2 * k + 1)) rfl rfl (hM.arg0 hx) rfl hk1 U154 (by kernel_rfl)) (fun w' hM => Y.idx1 (k := (2 * k + 1)) rfl rfl (hM.arg0 hx) rfl hk1 U154 (by kernel_rfl)) rfl ?_
  refine H.take 17 rfl rfl (by kernel_rfl) (by kernel_rfl) (by kernel_rfl) hS (fun w' hM => Y.mv rfl) rfl ?_
  refine H.take 18 rfl rfl (by kernel_rfl) (by kernel_rfl) (by kernel_rfl) hS (fun w' hM => Y.mv rfl) rfl ?_
  refine H.takeV 19 rfl rfl (by kernel_rfl) (by kernel_rfl) (by kernel_rfl) hS (Y.idx1 (k := (2 * k)) rfl rfl (hM.arg0 hx) rfl hk0 U154 (by kernel_rfl)) (fun w' hM => Y.idx1 (k := (2 * k)) rfl rfl (hM.arg0 hx) rfl hk0 U154 (by kernel_rfl)) rfl ?_
  refine H.take 21 rfl rfl (by kernel_rfl) (by kernel_rfl) (by kernel_rfl) hS (fun w' hM => Y.mv rfl) rfl ?_
  refine H.take 22 rfl rfl (by kernel_rfl) (by kernel_rfl) (by kernel_rfl) hS (fun w' hM => Y.mv rfl) rfl ?_
  refine H.take 23 rfl rfl (by kernel_rfl) (by kernel_rfl) (by kernel_rfl) hS (fun w' hM => Y.add rfl rfl (by omega)) rfl ?_
  refine H.takeV 24 rfl rfl (by kernel_rfl) (by kernel_rfl) (by kernel_rfl) hS (Y.idx1 (k := (2 * k + 1)) rfl rfl (hM.arg0 hx) rfl hk1 U154 (by kernel_rfl)) (fun w' hM => Y.idx1 (k := (2 * k + 1)) rfl rfl (hM.arg0 hx) rfl hk1 U154 (by kernel_rfl)) rfl ?_
  refine H.takeV 4 rfl rfl (by kernel_rfl) (by kernel_rfl) (by kernel_rfl) hS (Y.load rfl U155 rfl ((hM.arg0 hx).cell hk0)) (fun w' hM => Y.load rfl U155 rfl ((hM.arg0 hx).cell hk0)) rfl ?_
  refine H.take 5 rfl rfl (by kernel_rfl) (by kernel_rfl) (by kernel_rfl) hS (fun w' hM => Y.nilc rfl) rfl ?_
  refine H.takeV 6 rfl rfl (by kernel_rfl) (by kernel_rfl) (by kernel_rfl) hS (Y.fld (o := 0) (sz := 0) rfl U157 rfl rfl (by kernel_rfl)) (fun w' hM => Y.fld (o := 0) (sz := 0) rfl U157 rfl rfl (by kernel_rfl)) rfl ?_
  refine H.takeV 7 rfl rfl (by kernel_rfl) (by kernel_rfl) (by kernel_rfl) hS (Y.load rfl U3 rfl ((hp.ext hM.toExt).wt hm0)) (fun w' hM => Y.load rfl U3 rfl ((hp.ext hM.toExt).wt hm0)) rfl ?_
  refine H.takeV 12 rfl rfl (by kernel_rfl) (by kernel_rfl) (by kernel_rfl) hS (Y.load rfl U155 rfl ((hM.arg0 hx).cell hk1)) (fun w' hM => Y.load rfl U155 rfl ((hM.arg0 hx).cell hk1)) rfl ?_
  refine H.take 13 rfl rfl (by kernel_rfl) (by kernel_rfl) (by kernel_rfl) hS (fun w' hM => Y.nilc rfl) rfl ?_
  refine H.takeV 14 rfl rfl (by kernel_rfl) (by kernel_rfl) (by kernel_rfl) hS (Y.fld (o := 0) (sz := 0) rfl U157 rfl rfl (by kernel_rfl)) (fun w' hM => Y.fld (o := 0) (sz := 0) rfl U157 rfl rfl (by kernel_rfl)) rfl ?_
  refine H.takeV 15 rfl rfl (by kernel_rfl) (by kernel_rfl) (by kernel_rfl) hS (Y.load rfl U3 rfl ((hp.ext hM.toExt).wt hm1)) (fun w' hM => Y.load rfl U3 rfl ((hp.ext hM.toExt).wt hm1)) rfl ?_
  refine H.take 16 rfl rfl (by kernel_rfl) (by kernel_rfl) (by kernel_rfl) hS (fun w' hM => Y.add rfl rfl (by omega)) rfl ?_
  refine H.takeV 20 rfl rfl (by kernel_rfl) (by kernel_rfl) (by kernel_rfl) hS (Y.load rfl U155 rfl ((hM.arg0 hx).cell hk0)) (fun w' hM => Y.load rfl U155 rfl ((hM.arg0 hx).cell hk0)) rfl ?_
  refine H.only 25 rfl (by kernel_rfl) ?_
  refine E.load rfl U155 rfl ((hM.arg0 hx).cell hk1) rfl ?_
  have hS := hM.pick [] (by decide)
  refine H.back hS ?_
  refine H.take 26 rfl rfl (by kernel_rfl) (by kernel_rfl) (by kernel_rfl) hS (fun w' hM => Y.buildC (cs := [_, _, _, _]) [.int .i64 0, .int .i64 0, .pointer none, .pointer none] [0, 2, 3] rfl rfl (by kernel_rfl)) rfl ?_
  refine H.only 27 rfl (by kernel_rfl) ?_
  refine E.boxM hM rfl rfl rfl ?_
  intro b39 w2 hM
  try dsimp only [Za, Zb, Zc, Zd, repl] at hM
  have hS := hM.pick [] (by decide)
  refine H.back hS ?_
  refine H.only 28 rfl (by kernel_rfl) ?_
  refine E.mk1M (enc := ip) (b39, Tr.node xs[2 * k].2 xs[2 * k + 1].2) hM rfl U154 elem_Tp_prefix_item_int rfl rfl ?_
  intro v40 w3 hM
  try dsimp only [Za, Zb, Zc, Zd, repl] at hM
  have hS := hM.pick [] (by decide)
  refine H.back hS ?_
  refine H.only 29 rfl (by kernel_rfl) ?_
  refine E.appendM 0 hM rfl rfl rfl U154 elem_Tp_prefix_item_int (hM.sl 3 rfl) (fun _ => rfl) (by simp only [List.length_cons, List.length_nil]; omega) (by simp only [List.length_cons, List.length_nil]; omega) rfl ?_
  intro v41 w4 hM
  try dsimp only [Za, Zb, Zc, Zd, repl] at hM
  have hM := hM.poolAdd (t := Tr.node xs[2 * k].2 xs[2 * k + 1].2) 1 2 (by decide) rfl rfl ⟨xs[2 * k].1, xs[2 * k + 1].1, hm0, hm1, rfl⟩
  try dsimp only [Za, Zb, Zc, Zd, repl] at hM
  have hS := hM.pick [] (by decide)
  refine H.back hS ?_
  refine H.take 30 rfl rfl (by kernel_rfl) (by kernel_rfl) (by kernel_rfl) hS (fun w' hM => Y.asg rfl) rfl ?_
  refine H.done (by kernel_rfl) ?_
  refine X.outN <| X.next <| C.region <| E.mv rfl rfl <| ?_
  refine E.addN (b := 2) rfl rfl (by omega) rfl ?_
  refine E.asg rfl rfl <| E.nil <| X.again3 (k + 1) (zs ++ [(b39, Tr.node xs[2 * k].2 xs[2 * k + 1].2)]) v41 (Sub.cons rfl <| Sub.cons rfl <| Sub.nil _) rfl ⟨hM.pick [0, 1] (by decide), by omega, by simp [hzl], by rw [pkg_snoc k _ (by simpa using hk1), List.map_append, hz]; simp⟩ (by omega)
 rw [pkg_end k _ (by rw [List.length_map]; omega)] at hz
 refine C.exit <| X.exitT <| X.exitT <| X.outE <| X.next <| C.seq <| C.region <| E.mv rfl rfl <| E.asg rfl rfl <| E.nil <| X.next <| C.ret <| ret1 rfl rfl ?_
 exact ⟨zs, hz, hM⟩
end Go.Proofs.YtajklleiifhipaaGreatDoor
namespace Go.Proofs.YtajklleiifhipaaGreatDoor
open Go.RowKit Sym
theorem Sym.Y.idxW {P : Program} {ops : Array Oper} {s : St} {env : Env} {w : World} {d : Nat} {ty : TypeId} {pos : String} {aft : Array Edge} (w1 : World) {α : Type} {enc : α → Value} {l : List α} {t e : TypeId} {x ix : Operand} {kd : IntKind} {i : Int} {v : Value} (k : Nat) (hx : ev env x = some v) (hi : ev env ix = some (.int kd i)) (hR : RdL enc w1 v l) (hk : i = (k : Int)) (h1 : k < l.length)
  (ht : P.underlying t = some (.slice e)) (hs : (P.info? e).map (·.size) = some 1) : Yld P ops s env w ⟨some d, .indexAddr t x ix, ty, pos, aft, none⟩ (.pointer (some (el v k))) := by
 subst hk
 obtain ⟨a, cap, rfl, hc1, hc2, hl, ha0, hat⟩ := hR
 obtain ⟨b, off, rfl⟩ := ha0 (by rw [List.length_map]; omega)
 refine Yld.of fun a' ha => ?_
 cases hq : P.info? e with
 | none => simp [hq] at hs
 | some inf =>
  have hs' : inf.size = 1 := by simpa [hq] using hs
  simp [execOp, ha.ev hx, ha.ev hi, Instr.indexAt, asIntOf, run_underlying ht, sizeOf, typeInfo, hq, hs', h1, addr_add, el, bs]
def pos (w : Nat) (ws : List Nat) : Nat → Nat
 | 0 => 0
 | k + 1 => if w < ws.getD k 0 then pos w ws k else k + 1
def ins {α : Type} (g : α → Nat) (x : α) (S : List α) : List α := S.take (pos (g x) (S.map g) S.length) ++ x :: S.drop (pos (g x) (S.map g) S.length)
def isort {α : Type} (g : α → Nat) (xs : List α) : List α := xs.foldl (fun S x => ins g x S) []
theorem isort_snoc {α : Type} (g : α → Nat) (xs : List α) (x : α) : isort g (xs ++ [x]) = ins g x (isort g xs) := by unfold isort; rw [List.foldl_append]; rfl
theorem ins_perm {α : Type} (g : α → Nat) (x : α) (S : List α) : (ins g x S).Perm (x :: S) := by
 have h := List.perm_middle (a := x) (l₁ := S.take (pos (g x) (S.map g) S.length)) (l₂ := S.drop (pos (g x) (S.map g) S.length))
 rw [List.take_append_drop] at h; exact h
theorem isort_perm {α : Type} (g : α → Nat) : ∀ (n : Nat) (xs : List α), xs.length = n → (isort g xs).Perm xs
 | 0, [], _ => List.Perm.refl _
 | n + 1, xs, h => by
  obtain ⟨ys, x, rfl⟩ : ∃ ys x, xs = ys ++ [x] := ⟨xs.dropLast, xs.getLast (by intro e; subst e; simp at h), (List.dropLast_concat_getLast _).symm⟩
  rw [isort_snoc]
  refine (ins_perm g x _).trans $ ((isort_perm g n ys (by simp at h; exact h)).cons x).trans ?_
  exact (List.perm_append_singleton x ys).symm
theorem isort_len {α : Type} (g : α → Nat) (xs : List α) : (isort g xs).length = xs.length := (isort_perm g _ xs rfl).length_eq
theorem isort_mem {α : Type} (g : α → Nat) (xs : List α) (z : α) : z ∈ isort g xs ↔ z ∈ xs := (isort_perm g _ xs rfl).mem_iff
def srt {α : Type} (g : α → Nat) (xs : List α) (a i : Nat) : List α := xs.take a ++ isort g ((xs.drop a).take (i - a)) ++ xs.drop i
theorem srt_zero {α : Type} (g : α → Nat) (xs : List α) (a : Nat) : srt g xs a a = xs := by
 unfold srt; rw [Nat.sub_self, List.take_zero]; show xs.take a ++ [] ++ xs.drop a = xs; rw [List.append_nil, List.take_append_drop]
theorem srt_one {α : Type} (g : α → Nat) (xs : List α) {a : Nat} (h : a < xs.length) : srt g xs a (a + 1) = xs := by
 unfold srt
 have e : (xs.drop a).take (a + 1 - a) = [xs[a]] := by rw [Nat.add_sub_cancel_left, List.drop_eq_getElem_cons h]; rfl
 rw [e]
 show xs.take a ++ [xs[a]] ++ xs.drop (a + 1) = xs
 rw [List.take_append_getElem h, List.take_append_drop]
def dat {α : Type} (T S : List α) (x : α) (U : List α) (k : Nat) : List α := T ++ S.take k ++ x :: S.drop k ++ U
theorem dat_len {α : Type} (T S : List α) (x : α) (U : List α) {k : Nat} (h : k ≤ S.length) : (dat T S x U k).length = T.length + S.length + 1 + U.length := by unfold dat; simp; omega
theorem dat_succ {α : Type} (T S : List α) (x : α) (U : List α) {m : Nat} (h : m < S.length) : dat T S x U (m + 1) = (T ++ S.take m) ++ S[m] :: x :: (S.drop (m + 1) ++ U) := by
 unfold dat; rw [← List.take_append_getElem h]; simp only [List.append_assoc, List.cons_append, List.nil_append]
theorem dat_here {α : Type} (T S : List α) (x : α) (U : List α) {m : Nat} (h : m < S.length) : dat T S x U m = (T ++ S.take m) ++ x :: S[m] :: (S.drop (m + 1) ++ U) := by
 unfold dat; rw [List.drop_eq_getElem_cons h]; simp only [List.append_assoc, List.cons_append, List.nil_append]
theorem dat_x {α : Type} (T S : List α) (x : α) (U : List α) {m j : Nat} (h : m < S.length) (e : j = T.length + m + 1) (hj : j < (dat T S x U (m + 1)).length) : (dat T S x U (m + 1))[j] = x := by
 have : (dat T S x U (m + 1))[j]? = some x := by
  rw [dat_succ T S x U h, List.getElem?_append_right (by simp; omega)]
  have : j - (T ++ S.take m).length = 1 := by simp; omega
  rw [this]; rfl
 rw [List.getElem?_eq_getElem hj, Option.some.injEq] at this; exact this
theorem dat_y {α : Type} (T S : List α) (x : α) (U : List α) {m j : Nat} (h : m < S.length) (e : j = T.length + m) (hj : j < (dat T S x U (m + 1)).length) : (dat T S x U (m + 1))[j] = S[m] := by
 have : (dat T S x U (m + 1))[j]? = some S[m] := by
  rw [dat_succ T S x U h, List.getElem?_append_right (by simp; omega)]
  have : j - (T ++ S.take m).length = 0 := by simp; omega
  rw [this]; rfl
 rw [List.getElem?_eq_getElem hj, Option.some.injEq] at this; exact this
theorem swap_set {α : Type} (A B : List α) (x y : α) {j i : Nat} (h1 : j = A.length + 1) (h2 : i = A.length) : ((A ++ y :: x :: B).set j y).set i x = A ++ x :: y :: B := by
 subst h1 h2
 rw [List.set_append_right _ _ (by omega), List.set_append_right _ _ (by omega), Nat.add_sub_cancel_left, Nat.sub_self]; rfl
theorem dat_swap {α : Type} (T S : List α) (x : α) (U : List α) {m j i : Nat} (h : m < S.length) (h1 : j = T.length + m + 1) (h2 : i = T.length + m) : ((dat T S x U (m + 1)).set j S[m]).set i x = dat T S x U m := by
 rw [dat_succ T S x U h, dat_here T S x U h]
 exact swap_set _ _ _ _ (by simp; omega) (by simp; omega)
theorem srt_dat {α : Type} (g : α → Nat) (xs : List α) {a i : Nat} (hi : i < xs.length) (ha : a ≤ i) : srt g xs a i = dat (xs.take a) (isort g ((xs.drop a).take (i - a))) xs[i] (xs.drop (i + 1)) (i - a) := by
 unfold srt dat
 have hl : (isort g ((xs.drop a).take (i - a))).length = i - a := by rw [isort_len]; simp; omega
 obtain ⟨S, hS⟩ : ∃ S, S = isort g ((xs.drop a).take (i - a)) := ⟨_, rfl⟩
 rw [← hS] at hl ⊢
 rw [List.take_of_length_le (show S.length ≤ i - a by omega), List.drop_of_length_le (show S.length ≤ i - a by omega), List.drop_eq_getElem_cons hi]
 simp only [List.append_assoc, List.cons_append, List.nil_append]
theorem srt_next {α : Type} (g : α → Nat) (xs : List α) {a i k : Nat} (hi : i < xs.length) (ha : a ≤ i) (hk : pos (g xs[i]) ((isort g ((xs.drop a).take (i - a))).map g) (i - a) = k) : dat (xs.take a) (isort g ((xs.drop a).take (i - a))) xs[i] (xs.drop (i + 1)) k = srt g xs a (i + 1) := by
 unfold srt dat
 have hl : (isort g ((xs.drop a).take (i - a))).length = i - a := by rw [isort_len]; simp; omega
 have e : (xs.drop a).take (i + 1 - a) = (xs.drop a).take (i - a) ++ [xs[i]] := by
  rw [show i + 1 - a = (i - a) + 1 by omega, ← List.take_append_getElem (show i - a < (xs.drop a).length by simp; omega), List.getElem_drop]
  congr 3; omega
 rw [e, isort_snoc, ins, hl, hk]; simp
theorem cmv_lt (a b : Nat) : cmv (a : Int) (b : Int) < 0 ↔ a < b := by
 unfold cmv
 split
 · constructor <;> intro <;> omega
 split
 · constructor <;> intro h <;> omega
 constructor <;> intro h <;> omega
theorem wget {S : List It} {m : Nat} (h : m < S.length) : (S.map wi).getD m 0 = wi S[m] := by rw [List.getD_eq_getElem?_getD, List.getElem?_map, List.getElem?_eq_getElem h]; rfl
set_option maxHeartbeats 2000000 in
theorem isort_ret (p : Value) (xs : List It) (a b : Nat) (P : List It) (w : World) (hs : Sep w [Rg.sl ip 155 p xs, Rg.pool P P]) (hx : ∀ x ∈ xs, x ∈ P) (ha : a ≤ b) (hb : b ≤ xs.length) (hlen : xs.length ≤ 1000000) :
  Ret Tryz.prog 162 #[p, i64 a, i64 b, fnv 133 []] w fun v w' => M w (fpU [Rg.sl ip 155 p xs, Rg.pool P P]) w' [Rg.sl ip 155 p (srt wi xs a b), Rg.pool P P] := by
 have hM := M.startS hs
 refine enter Tryz.func162 rfl (by kernel_rfl) Tryz.ntmps162 rfl $ Kb $ Km rfl $ E.addN (b := 1) rfl rfl (by omega) rfl $ Kc rfl $ C.block $ C.loop1 [(0, _), (1, _), (2, _), (3, _)] rfl (fun (i : Nat) => [(8, i64 i)]) (fun (i : Nat) w' => M w (fpU [Rg.sl ip 155 p xs, Rg.pool P P]) w' [Rg.sl ip 155 p (srt wi xs a (min i b)), Rg.pool P P] ∧ a + 1 ≤ i ∧ i ≤ max b (a + 1)) (fun (i : Nat) => b - i) (a + 1) ?_ ?_ ?_
 · exact S1 rfl
 · exact ⟨hM.to (Sym.two (by by_cases e : a < b; rw [Nat.min_eq_left (by omega), srt_one wi xs (by omega)]; rw [show min (a + 1) b = a by omega, srt_zero]) rfl), by omega, by omega⟩
 rintro i w0 ⟨hM, hi1, hi2⟩
 refine C.seq $ Kb $ Kf rfl $ Kp rfl $ Ka $ C.cond' rfl (fun hC0 => ?_) (fun hC0 => ?_)
 ·
  have hi' : i < xs.length := by omega
  have hai : a ≤ i := by omega
  rw [Nat.min_eq_left (by omega), srt_dat wi xs hi' hai] at hM
  have hTl : (xs.take a).length = a := by rw [List.length_take]; omega
  have hSl : (isort wi ((xs.drop a).take (i - a))).length = i - a := by rw [isort_len]; simp; omega
  have hUl : (xs.drop (i + 1)).length = xs.length - (i + 1) := by simp
  have hxi := hx xs[i] (List.getElem_mem hi')
  have hSx : ∀ z ∈ (isort wi ((xs.drop a).take (i - a))), z ∈ P := fun z hz => hx z (List.mem_of_mem_drop (List.mem_of_mem_take ((isort_mem _ _ _).1 hz)))
  refine Kk $ C.seq $ C.block $ Kb $ Km rfl $ Kc rfl $ C.block $ C.loop1 [(0, _), (1, _), (2, _), (3, _), (8, _)] rfl (fun (k : Nat) => [(9, i64 ((a + k : Nat) : Int))]) (fun (k : Nat) w' => M w (fpU [Rg.sl ip 155 p xs, Rg.pool P P]) w' [Rg.sl ip 155 p (dat (xs.take a) (isort wi ((xs.drop a).take (i - a))) xs[i] (xs.drop (i + 1)) k), Rg.pool P P] ∧ k ≤ i - a ∧ pos (wi xs[i]) ((isort wi ((xs.drop a).take (i - a))).map wi) (i - a) = pos (wi xs[i]) ((isort wi ((xs.drop a).take (i - a))).map wi) k) (fun (k : Nat) => k) (i - a) ?_ ?_ ?_
  · exact Sub.cons (look_val rfl (by omega)) $ Sub.nil _
  · exact ⟨hM, Nat.le_refl _, rfl⟩
  rintro k w1 ⟨hM, hk, hpos⟩
  refine C.seq $ C.cut0 [(0, _), (1, _), (2, _), (3, _), (8, _), (9, _)] rfl [(34, .bool (decide (0 < k ∧ wi xs[i] < ((isort wi ((xs.drop a).take (i - a))).map wi).getD (k - 1) 0)))] (fun w' => M w (fpU [Rg.sl ip 155 p xs, Rg.pool P P]) w' [Rg.sl ip 155 p (dat (xs.take a) (isort wi ((xs.drop a).take (i - a))) xs[i] (xs.drop (i + 1)) k), Rg.pool P P]) ?_ ?_
  ·
   refine C.drawnT 14 (by kernel_rfl) (by kernel_rfl) fun wh2 hwh2 => ?_
   have hM := hM.ext hwh2
   refine S.mv rfl rfl $ S.mv rfl rfl $ S.bin rfl rfl rfl rfl $ S.mv rfl rfl $ S.split 21 rfl (fun g21 => ?_) (fun g21 => ?_)
   ·
    try simp only [Ya, Yb, Yc, Yd, Ye, Yf] at g21
    obtain ⟨m, rfl⟩ : ∃ m, k = m + 1 := ⟨k - 1, by omega⟩
    have hm : m < (isort wi ((xs.drop a).take (i - a))).length := by omega
    refine S.on rfl rfl (S.mv rfl rfl ?_)
    refine S.on rfl rfl (S.mv rfl rfl ?_)
    refine S.on rfl rfl (S.mv rfl rfl ?_)
    refine S.on rfl rfl (S.idx1 (k := (a + (m + 1))) rfl rfl (hM.sl 0 rfl) rfl (by rw [dat_len _ _ _ _ (by omega)]; omega) U153 (by kernel_rfl) rfl ?_)
    refine S.on rfl rfl (S.load rfl U155 rfl ((hM.sl 0 rfl).cell (by rw [dat_len _ _ _ _ (by omega)]; omega)) rfl ?_)
    rw [dat_x _ _ _ _ hm (by omega)]
    refine S.on rfl rfl (S.mv rfl rfl ?_)
    refine S.on rfl rfl (S.mv rfl rfl ?_)
    refine S.on rfl rfl (S.subN (b := 1) rfl rfl (by omega) rfl ?_)
    refine S.on rfl rfl (S.idx1 (k := (a + (m + 1)) - 1) rfl rfl (hM.sl 0 rfl) rfl (by rw [dat_len _ _ _ _ (by omega)]; omega) U153 (by kernel_rfl) rfl ?_)
    refine S.on rfl rfl (S.load rfl U155 rfl ((hM.sl 0 rfl).cell (by rw [dat_len _ _ _ _ (by omega)]; omega)) rfl ?_)
    rw [dat_y _ _ _ _ hm (by omega)]
    refine S.nil $ Ko rfl $ E.callv rfl rfl rfl (cmpw_ret xs[i] (isort wi ((xs.drop a).take (i - a)))[m] P P _ (hM.pool 1 rfl) hxi (hSx _ (List.getElem_mem hm))) ?_
    rintro _ w3 ⟨rfl, x3⟩
    have hM := hM.ext x3
    have hcl := cmv_lt (wi xs[i]) (wi (isort wi ((xs.drop a).take (i - a)))[m])
    refine Ko rfl $ Kp rfl $ Kr rfl $ E.nil $ X.join0  (Sub.cons (look_eq rfl (by congr 1; apply decide_eq_decide.2; rw [hcl, Nat.add_sub_cancel, wget hm]; exact ⟨fun h => ⟨by omega, h⟩, fun h => h.2⟩)) $ Sub.nil _) rfl hM
   try simp only [Ya, Yb, Yc, Yd, Ye, Yf] at g21
   refine S.off rfl rfl rfl rfl $ S.off rfl rfl rfl rfl $ S.off rfl rfl rfl rfl $ S.off rfl rfl rfl rfl $ S.off rfl rfl rfl rfl $ S.off rfl rfl rfl rfl $ S.off rfl rfl rfl rfl $ S.off rfl rfl rfl rfl $ S.off rfl rfl rfl rfl $ S.off rfl rfl rfl rfl $ S.nil $ Kq rfl $ Kq rfl $ Kr rfl $ E.nil $ X.join0  (Sub.cons (look_eq rfl (by congr 1; symm; apply decide_eq_false; intro h; omega)) $ Sub.nil _) rfl hM
  rintro  w4 hM
  refine C.cond' rfl (fun hC1 => ?_) (fun hC1 => ?_)
  ·
   obtain ⟨m, rfl⟩ : ∃ m, k = m + 1 := ⟨k - 1, by omega⟩
   have hm : m < (isort wi ((xs.drop a).take (i - a))).length := by omega
   obtain ⟨_, hlt⟩ := hC1
   rw [Nat.add_sub_cancel, wget hm] at hlt
   refine Kk $ C.seq $ C.block $ C.heldM hM [] (by decide) (by kernel_rfl) fun wh5 hM hS => ?_
   have hR := hM.sl 0 rfl
   refine Kt 0 rfl (by kernel_rfl) hS (fun w' hM => Y.mv rfl) rfl $ Kt 1 rfl (by kernel_rfl) hS (fun w' hM => Y.mv rfl) rfl $ Kt 2 rfl (by kernel_rfl) hS (fun w' hM => Y.mv rfl) rfl $ Kt 3 rfl (by kernel_rfl) hS (fun w' hM => Y.mv rfl) rfl $ Kt 4 rfl (by kernel_rfl) hS (fun w' hM => Y.subN (b := 1) rfl rfl (by omega)) rfl $ Kt 5 rfl (by kernel_rfl) hS (fun w' hM => Y.mv rfl) rfl $ Kt 6 rfl (by kernel_rfl) hS (fun w' hM => Y.mv rfl) rfl $ Kt 7 rfl (by kernel_rfl) hS (fun w' hM => Y.subN (b := 1) rfl rfl (by omega)) rfl $ Ku 8 rfl (by kernel_rfl) hS (Y.idxW _ ((a + (m + 1)) - 1) rfl rfl hR rfl (by rw [dat_len _ _ _ _ (by omega)]; omega) U153 (by kernel_rfl)) (fun w' hM => Y.idxW _ ((a + (m + 1)) - 1) rfl rfl hR rfl (by rw [dat_len _ _ _ _ (by omega)]; omega) U153 (by kernel_rfl)) rfl $ Kt 10 rfl (by kernel_rfl) hS (fun w' hM => Y.mv rfl) rfl $ Kt 11 rfl (by kernel_rfl) hS (fun w' hM => Y.mv rfl) rfl $ Ku 12 rfl (by kernel_rfl) hS (Y.idxW _ ((a + (m + 1))) rfl rfl hR rfl (by rw [dat_len _ _ _ _ (by omega)]; omega) U153 (by kernel_rfl)) (fun w' hM => Y.idxW _ ((a + (m + 1))) rfl rfl hR rfl (by rw [dat_len _ _ _ _ (by omega)]; omega) U153 (by kernel_rfl)) rfl ?_
   refine H.two 9 13 rfl rfl (by kernel_rfl) ?_ ?_
   ·
    refine E.load rfl U155 rfl ((hM.sl 0 rfl).cell (by rw [dat_len _ _ _ _ (by omega)]; omega)) rfl ?_
    rw [dat_y _ _ _ _ hm (by omega)]
    have hS := hM.pick [] (by decide)
    refine H.back hS $ H.only 13 rfl (by kernel_rfl) $ E.load rfl U155 rfl ((hM.sl 0 rfl).cell (by rw [dat_len _ _ _ _ (by omega)]; omega)) rfl ?_
    rw [dat_x _ _ _ _ hm (by omega)]
    have hS := hM.pick [] (by decide)
    refine H.back hS $ Ku 14 rfl (by kernel_rfl) hS (Y.idxW _ ((a + (m + 1))) rfl rfl hR rfl (by rw [dat_len _ _ _ _ (by omega)]; omega) U153 (by kernel_rfl)) (fun w' hM => Y.idxW _ ((a + (m + 1))) rfl rfl hR rfl (by rw [dat_len _ _ _ _ (by omega)]; omega) U153 (by kernel_rfl)) rfl $ H.only 15 rfl (by kernel_rfl) $ E.storeL (j := (a + (m + 1))) 0 (isort wi ((xs.drop a).take (i - a)))[m] hM rfl rfl rfl (by kernel_rfl) rfl rfl (by rw [dat_len _ _ _ _ (by omega)]; omega) ?_
    intro w6 hM
    have hS := hM.pick [] (by decide)
    refine H.back hS $ Ku 16 rfl (by kernel_rfl) hS (Y.idxW _ ((a + (m + 1)) - 1) rfl rfl hR rfl (by rw [dat_len _ _ _ _ (by omega)]; omega) U153 (by kernel_rfl)) (fun w' hM => Y.idxW _ ((a + (m + 1)) - 1) rfl rfl hR rfl (by rw [dat_len _ _ _ _ (by omega)]; omega) U153 (by kernel_rfl)) rfl $ H.only 17 rfl (by kernel_rfl) $ E.storeL (j := (a + (m + 1)) - 1) 0 xs[i] hM rfl rfl rfl (by kernel_rfl) rfl rfl (by rw [List.length_set]; rw [dat_len _ _ _ _ (by omega)]; omega) ?_
    intro w7 hM
    rw [dat_swap _ _ _ _ hm (by omega) (by omega)] at hM
    have hS := hM.pick [] (by decide)
    refine H.back hS $ H.done (by kernel_rfl) $ X.outN $ X.next $ C.region $ Km rfl $ E.subN (b := 1) rfl rfl (by omega) rfl $ Kn rfl $ E.nil $ X.again1 m (Sub.cons (look_val rfl (by omega)) $ Sub.nil _) rfl ⟨hM, by omega, by rw [hpos, pos, if_pos (by rw [wget hm]; exact hlt)]⟩ (by omega)
   refine E.load rfl U155 rfl ((hM.sl 0 rfl).cell (by rw [dat_len _ _ _ _ (by omega)]; omega)) rfl ?_
   rw [dat_x _ _ _ _ hm (by omega)]
   have hS := hM.pick [] (by decide)
   refine H.back hS $ H.only 9 rfl (by kernel_rfl) $ E.load rfl U155 rfl ((hM.sl 0 rfl).cell (by rw [dat_len _ _ _ _ (by omega)]; omega)) rfl ?_
   rw [dat_y _ _ _ _ hm (by omega)]
   have hS := hM.pick [] (by decide)
   refine H.back hS $ Ku 14 rfl (by kernel_rfl) hS (Y.idxW _ ((a + (m + 1))) rfl rfl hR rfl (by rw [dat_len _ _ _ _ (by omega)]; omega) U153 (by kernel_rfl)) (fun w' hM => Y.idxW _ ((a + (m + 1))) rfl rfl hR rfl (by rw [dat_len _ _ _ _ (by omega)]; omega) U153 (by kernel_rfl)) rfl $ H.only 15 rfl (by kernel_rfl) $ E.storeL (j := (a + (m + 1))) 0 (isort wi ((xs.drop a).take (i - a)))[m] hM rfl rfl rfl (by kernel_rfl) rfl rfl (by rw [dat_len _ _ _ _ (by omega)]; omega) ?_
   intro w8 hM
   have hS := hM.pick [] (by decide)
   refine H.back hS $ Ku 16 rfl (by kernel_rfl) hS (Y.idxW _ ((a + (m + 1)) - 1) rfl rfl hR rfl (by rw [dat_len _ _ _ _ (by omega)]; omega) U153 (by kernel_rfl)) (fun w' hM => Y.idxW _ ((a + (m + 1)) - 1) rfl rfl hR rfl (by rw [dat_len _ _ _ _ (by omega)]; omega) U153 (by kernel_rfl)) rfl $ H.only 17 rfl (by kernel_rfl) $ E.storeL (j := (a + (m + 1)) - 1) 0 xs[i] hM rfl rfl rfl (by kernel_rfl) rfl rfl (by rw [List.length_set]; rw [dat_len _ _ _ _ (by omega)]; omega) ?_
   intro w9 hM
   rw [dat_swap _ _ _ _ hm (by omega) (by omega)] at hM
   have hS := hM.pick [] (by decide)
   refine H.back hS $ H.done (by kernel_rfl) $ X.outN $ X.next $ C.region $ Km rfl $ E.subN (b := 1) rfl rfl (by omega) rfl $ Kn rfl $ E.nil $ X.again1 m (Sub.cons (look_val rfl (by omega)) $ Sub.nil _) rfl ⟨hM, by omega, by rw [hpos, pos, if_pos (by rw [wget hm]; exact hlt)]⟩ (by omega)
  have hpk : pos (wi xs[i]) ((isort wi ((xs.drop a).take (i - a))).map wi) k = k := by
   cases k with
   | zero => rfl
   | succ m => rw [pos, if_neg]; exact fun h => hC1 ⟨by omega, h⟩
  rw [srt_next wi xs hi' hai (hpos.trans hpk)] at hM
  refine C.exit $ X.exitT $ X.exitT $ X.outE $ X.outN $ X.next $ C.region $ Km rfl $ E.addN (b := 1) rfl rfl (by omega) rfl $ Kn rfl $ E.nil $ X.again1 (i + 1) (S1 rfl) rfl ⟨hM.to (Sym.two (by rw [Nat.min_eq_left (by omega)]) rfl), by omega, by omega⟩ (by omega)
 refine C.exit $ X.exitT $ X.exitT $ X.outE $ end0 rfl ?_
 exact hM.to (Sym.two (by by_cases e : a < b; rw [Nat.min_eq_right (by omega)]; rw [show min i b = a by omega, show b = a by omega]) rfl)
end Go.Proofs.YtajklleiifhipaaGreatDoor
namespace Go.Proofs.YtajklleiifhipaaGreatDoor
open Go.RowKit Sym
theorem pos_map {α β : Type} (g : α → Nat) (g' : β → Nat) (m : α → β) (hg : ∀ a, g' (m a) = g a) (S : List α) : (S.map m).map g' = S.map g := by
 rw [List.map_map]; exact List.map_congr_left fun a _ => hg a
theorem ins_map {α β : Type} (g : α → Nat) (g' : β → Nat) (m : α → β) (hg : ∀ a, g' (m a) = g a) (x : α) (S : List α) : (ins g x S).map m = ins g' (m x) (S.map m) := by
 unfold ins
 rw [pos_map g g' m hg, hg, List.length_map, List.map_append, List.map_take, List.map_cons, List.map_drop]
theorem isort_map {α β : Type} (g : α → Nat) (g' : β → Nat) (m : α → β) (hg : ∀ a, g' (m a) = g a) (xs : List α) : (isort g xs).map m = isort g' (xs.map m) := by
 unfold isort
 have key : ∀ (xs S : List α), (xs.foldl (fun S x => ins g x S) S).map m = (xs.map m).foldl (fun S x => ins g' x S) (S.map m) := by
  intro xs
  induction xs with
  | nil => intro S; rfl
  | cons x xs ih => intro S; rw [List.foldl_cons, ih, List.map_cons, List.foldl_cons, ins_map g g' m hg]
 exact key xs []
theorem fmap_congr {α β : Type} {f g : α → Option β} : ∀ {l : List α}, (∀ x ∈ l, f x = g x) → l.filterMap f = l.filterMap g
 | [], _ => rfl
 | a :: l, h => by rw [List.filterMap_cons, List.filterMap_cons, h a (by simp), fmap_congr fun x hx => h x (by simp [hx])]
def sgl (fs : List Nat) : List Tr := (List.range fs.length).filterMap fun i => if 0 < fs.getD i 0 then some (Tr.leaf (fs.getD i 0) i) else none
theorem sgl_snoc {fs : List Nat} {i : Nat} (hi : i < fs.length) : sgl (fs.take (i + 1)) = sgl (fs.take i) ++ (if 0 < fs[i] then [Tr.leaf fs[i] i] else []) := by
  unfold sgl
  rw [List.length_take, List.length_take, Nat.min_eq_left (by omega), Nat.min_eq_left (by omega), List.range_succ, List.filterMap_append]
  congr 1
  · refine fmap_congr fun j hj => ?_
    have hj := List.mem_range.1 hj
    have e : (fs.take (i + 1)).getD j 0 = (fs.take i).getD j 0 := by rw [List.getD_eq_getElem?_getD, List.getD_eq_getElem?_getD, List.getElem?_take, List.getElem?_take, if_pos hj, if_pos (by omega)]
    rw [e]
  have e : (fs.take (i + 1)).getD i 0 = fs[i] := by rw [List.getD_eq_getElem?_getD, List.getElem?_take, if_pos (by omega), List.getElem?_eq_getElem hi]; rfl
  by_cases h : 0 < fs[i]
  · rw [if_pos h]; simp only [List.filterMap, e, if_pos h]
  rw [if_neg h]; simp only [List.filterMap, e, if_neg h]
def Gd (n : Nat) : Tr → Prop
 | .leaf f s => 1 ≤ f ∧ s < n
 | .node a b => Gd n a ∧ Gd n b
theorem Gd.sy {n : Nat} : ∀ {t : Tr}, Gd n t → (∀ s ∈ t.sy, s < n) ∧ t.sy.length ≤ t.wt
 | .leaf f s, h => ⟨fun y hy => by simp [Tr.sy] at hy; subst hy; exact h.2, by simp [Tr.sy, Tr.wt]; exact h.1⟩
 | .node a b, h => by
  have ha := Gd.sy h.1
  have hb := Gd.sy h.2
  refine ⟨fun y hy => ?_, by simp only [Tr.sy, Tr.wt, List.length_append]; omega⟩
  rcases List.mem_append.1 hy with h1 | h1
  · exact ha.1 y h1
  exact hb.1 y h1
theorem sgl_spec {fs : List Nat} {B : Nat} (hB : ∀ f ∈ fs, f ≤ B) : ∀ t ∈ sgl fs, ∃ f s, t = Tr.leaf f s ∧ 1 ≤ f ∧ f ≤ B ∧ s < fs.length := by
 intro t ht
 unfold sgl at ht
 obtain ⟨i, hi, h⟩ := List.mem_filterMap.1 ht
 have hi := List.mem_range.1 hi
 have e : fs.getD i 0 = fs[i] := by rw [List.getD_eq_getElem?_getD, List.getElem?_eq_getElem hi]; rfl
 split at h
 · cases h; exact ⟨_, _, rfl, by omega, by rw [e]; exact hB _ (List.getElem_mem hi), hi⟩
 cases h
theorem sgl_len (fs : List Nat) : (sgl fs).length ≤ fs.length := by
 unfold sgl
 have := List.length_filterMap_le (fun i => if 0 < fs.getD i 0 then some (Tr.leaf (fs.getD i 0) i) else none) (List.range fs.length)
 simpa using this
def lvl (S : List Tr) : Nat → List Tr
 | 0 => S
 | k + 1 => mrg Tr.wt S (pkg (lvl S k))
abbrev tw (l : List Tr) : Nat := (l.map Tr.wt).sum
theorem mrg_tw : ∀ (xs ys : List Tr), tw (mrg Tr.wt xs ys) = tw xs + tw ys
  | [], ys => by rw [mrg]; simp [tw]
  | x :: xs, [] => by rw [mrg_nil]; simp [tw]
  | x :: xs, y :: ys => by
    by_cases h : Tr.wt x ≤ Tr.wt y
    · have := mrg_tw xs (y :: ys)
      rw [mrg_le h]; simp only [tw, List.map_cons, List.sum_cons] at *; omega
    have := mrg_tw (x :: xs) ys
    rw [mrg_gt h]; simp only [tw, List.map_cons, List.sum_cons] at *; omega
termination_by xs ys => xs.length + ys.length
theorem pkg_tw : ∀ l : List Tr, tw (pkg l) ≤ tw l
 | [] => Nat.le_refl _
 | [_] => by simp [pkg, tw]
 | a :: b :: l => by have := pkg_tw l; simp only [pkg, tw, List.map_cons, List.sum_cons, Tr.wt] at *; omega
theorem pkg_gd {n : Nat} : ∀ {l : List Tr}, (∀ t ∈ l, Gd n t) → ∀ t ∈ pkg l, Gd n t
 | [], _, t, ht => by simp [pkg] at ht
 | [_], _, t, ht => by simp [pkg] at ht
 | a :: b :: l, h, t, ht => by
  rw [pkg, List.mem_cons] at ht
  rcases ht with rfl | ht
  · exact ⟨h a (by simp), h b (by simp)⟩
  exact pkg_gd (fun x hx => h x (by simp [hx])) t ht
theorem lvl_tw (S : List Tr) : ∀ k, tw (lvl S k) ≤ (k + 1) * tw S
 | 0 => by simp [lvl]
 | k + 1 => by
  have h1 := lvl_tw S k
  have h2 := pkg_tw (lvl S k)
  rw [lvl, mrg_tw, Nat.succ_mul]; omega
theorem lvl_gd {n : Nat} {S : List Tr} (h : ∀ t ∈ S, Gd n t) : ∀ k, ∀ t ∈ lvl S k, Gd n t
 | 0, t, ht => h t ht
 | k + 1, t, ht => by
  rw [lvl, mrg_mem] at ht
  rcases ht with ht | ht
  · exact h t ht
  exact pkg_gd (lvl_gd h k) t ht
theorem lvl_len {S : List Tr} (h : 0 < S.length) : ∀ k, (lvl S k).length < 2 * S.length ∧ (2 * S.length - (lvl S k).length - 1) * 2 ^ k < S.length
 | 0 => by simp [lvl]; omega
 | k + 1 => by
  have ⟨h1, h2⟩ := lvl_len h k
  rw [lvl, mrg_len, pkg_len]
  refine ⟨by omega, ?_⟩
  have e : 2 * (2 * S.length - (S.length + (lvl S k).length / 2) - 1) ≤ 2 * S.length - (lvl S k).length - 1 := by omega
  have := Nat.mul_le_mul_right (2 ^ k) e
  rw [Nat.pow_succ, Nat.mul_comm (2 ^ k) 2, ← Nat.mul_assoc, Nat.mul_comm _ 2]; omega
theorem lvl_long {S : List Tr} {m : Nat} (h : 0 < S.length) (hm : 1 ≤ m) (hc : S.length ≤ 2 ^ m) : 2 * S.length - 2 ≤ (lvl S (m - 1)).length := by
 have ⟨h1, h2⟩ := lvl_len h (m - 1)
 have e : 2 ^ m = 2 * 2 ^ (m - 1) := by rw [← Nat.pow_succ']; congr 1; omega
 have hlt : (2 * S.length - (lvl S (m - 1)).length - 1) * 2 ^ (m - 1) < 2 * 2 ^ (m - 1) := by omega
 have := Nat.lt_of_mul_lt_mul_right hlt
 omega
theorem flat_len {n : Nat} : ∀ {l : List Tr}, (∀ t ∈ l, Gd n t) → (l.flatMap Tr.sy).length ≤ tw l
 | [], _ => Nat.le_refl _
 | a :: l, h => by
  have h1 := (h a (by simp)).sy.2
  have h2 := flat_len (fun t ht => h t (by simp [ht]) : ∀ t ∈ l, Gd n t)
  simp only [List.flatMap_cons, List.length_append, tw, List.map_cons, List.sum_cons] at *; omega
theorem tw_take (l : List Tr) (k : Nat) : tw (l.take k) ≤ tw l := by
 have : tw (l.take k ++ l.drop k) = tw (l.take k) + tw (l.drop k) := by simp only [tw, List.map_append, List.sum_append]
 rw [List.take_append_drop] at this; omega
theorem tw_le {l : List Tr} {B : Nat} (h : ∀ t ∈ l, t.wt ≤ B) : tw l ≤ B * l.length := by
 induction l with
 | nil => simp [tw]
 | cons a l ih =>
  have h1 := h a (by simp)
  have h2 := ih fun t ht => h t (by simp [ht])
  simp only [tw, List.map_cons, List.sum_cons, List.length_cons, Nat.mul_succ] at *; omega
theorem tw_mem {l : List Tr} {t : Tr} (h : t ∈ l) : t.wt ≤ tw l := by
 induction l with
 | nil => cases h
 | cons a l ih =>
  rcases List.mem_cons.1 h with rfl | h
  · simp [tw]
  have := ih h; simp only [tw, List.map_cons, List.sum_cons] at *; omega
def zeros (n : Nat) : List Int := List.replicate n 0
def ini (S : List Tr) (n : Nat) : List Int := if S.length = 1 then bump (zeros n) (S.flatMap Tr.sy) else zeros n
def lens (S : List Tr) (n m : Nat) : List Int := if S.length < 2 then ini S n else bump (zeros n) (((lvl S (m - 1)).take (2 * S.length - 2)).flatMap Tr.sy)
abbrev Sg (zs : List Int) : List Tr := isort Tr.wt (sgl (toN zs))
def lnv (zs : List Int) (most : Int) : List Int × Int :=
 if 4096 < zs.length then ([], 4) else if ¬ okr zs 1099511627776 = true then ([], 3) else if most < 1 ∨ 30 < most then ([], 3) else if 2 ^ most.toNat < (Sg zs).length then ([], 16) else (lens (Sg zs) zs.length most.toNat, 0)
end Go.Proofs.YtajklleiifhipaaGreatDoor
namespace Go.Proofs.YtajklleiifhipaaGreatDoor
open Go.RowKit Sym
section
variable {α : Type} {g : α → Nat}
theorem mrg_split : ∀ (X1 Y1 X2 Y2 : List α), (∀ x ∈ X1, ∀ y ∈ Y2, g x ≤ g y) → (∀ y ∈ Y1, ∀ x ∈ X2, g y < g x) → mrg g (X1 ++ X2) (Y1 ++ Y2) = mrg g X1 Y1 ++ mrg g X2 Y2
  | [], [], X2, Y2, _, _ => by rw [mrg]; rfl
  | [], y :: Y1, X2, Y2, h1, h2 => by
    have ih := mrg_split [] Y1 X2 Y2 (fun x hx => by cases hx) (fun y hy => h2 y (by simp [hy]))
    rw [mrg] at ih ⊢
    cases X2 with
    | nil => simp only [List.nil_append, mrg]
    | cons x X2 =>
      have := h2 y (by simp) x (by simp)
      simp only [List.nil_append, List.cons_append] at ih ⊢
      rw [mrg_gt (by omega), ih]
  | x :: X1, [], X2, Y2, h1, h2 => by
    have ih := mrg_split X1 [] X2 Y2 (fun x hx => h1 x (by simp [hx])) (fun y hy => by cases hy)
    rw [mrg_nil] at ih ⊢
    cases Y2 with
    | nil => simp only [List.append_nil, mrg_nil]
    | cons y Y2 =>
      have := h1 x (by simp) y (by simp)
      simp only [List.nil_append, List.cons_append] at ih ⊢
      rw [mrg_le this, ih]
  | x :: X1, y :: Y1, X2, Y2, h1, h2 => by
    simp only [List.cons_append]
    by_cases h : g x ≤ g y
    · have ih := mrg_split X1 (y :: Y1) X2 Y2 (fun x hx => h1 x (by simp [hx])) h2
      simp only [List.cons_append] at ih
      rw [mrg_le h, mrg_le h, ih]; rfl
    have ih := mrg_split (x :: X1) Y1 X2 Y2 h1 (fun y hy => h2 y (by simp [hy]))
    simp only [List.cons_append] at ih
    rw [mrg_gt h, mrg_gt h, ih]; rfl
termination_by X1 Y1 => X1.length + Y1.length
def Srt (g : α → Nat) (l : List α) : Prop := l.Pairwise fun a b => g a ≤ g b
theorem pos_split {w : Nat} : ∀ (L2 : List Nat) (L1 : List Nat), (∀ z ∈ L1, z ≤ w) → (∀ z ∈ L2, w < z) → pos w (L1 ++ L2) (L1.length + L2.length) = L1.length := by
 intro L2 L1 h1 h2
 have key : ∀ k, k ≤ L2.length → pos w (L1 ++ L2) (L1.length + k) = L1.length := by
  intro k
  induction k with
  | zero =>
   intro _
   rw [Nat.add_zero]
   rcases Nat.eq_zero_or_pos L1.length with h | h
   · rw [h]; rfl
   obtain ⟨m, hm⟩ : ∃ m, L1.length = m + 1 := ⟨L1.length - 1, by omega⟩
   have hg : (L1 ++ L2).getD m 0 = L1[m] := by rw [List.getD_eq_getElem?_getD, List.getElem?_append_left (by omega), List.getElem?_eq_getElem (by omega)]; rfl
   have := h1 L1[m] (List.getElem_mem _)
   rw [hm, pos, hg, if_neg (by omega)]
  | succ k ih =>
   intro hk
   have hg : (L1 ++ L2).getD (L1.length + k) 0 = L2[k] := by rw [List.getD_eq_getElem?_getD, List.getElem?_append_right (by omega), Nat.add_sub_cancel_left, List.getElem?_eq_getElem (by omega)]; rfl
   have := h2 L2[k] (List.getElem_mem _)
   rw [← Nat.add_assoc, pos, hg, if_pos this, ih (by omega)]
 exact key _ (Nat.le_refl _)
theorem ins_split {y : α} {L1 L2 : List α} (h1 : ∀ z ∈ L1, g z ≤ g y) (h2 : ∀ z ∈ L2, g y < g z) : ins g y (L1 ++ L2) = L1 ++ y :: L2 := by
 unfold ins
 have hp := pos_split (w := g y) (L2.map g) (L1.map g) (fun z hz => by obtain ⟨a, ha, rfl⟩ := List.mem_map.1 hz; exact h1 a ha) (fun z hz => by obtain ⟨a, ha, rfl⟩ := List.mem_map.1 hz; exact h2 a ha)
 rw [List.length_map, List.length_map] at hp
 rw [List.map_append, List.length_append, hp, List.take_left, List.drop_left]
theorem srt_cut {l : List α} (h : Srt g l) (w : Nat) : ∃ l1 l2, l = l1 ++ l2 ∧ (∀ z ∈ l1, g z ≤ w) ∧ ∀ z ∈ l2, w < g z := by
  induction l with
  | nil => exact ⟨[], [], rfl, by simp, by simp⟩
  | cons a l ih =>
    have h' := List.pairwise_cons.1 h
    by_cases ha : g a ≤ w
    · obtain ⟨l1, l2, e, h1, h2⟩ := ih h'.2
      refine ⟨a :: l1, l2, by rw [e]; rfl, fun z hz => ?_, h2⟩
      rcases List.mem_cons.1 hz with rfl | hz
      · exact ha
      exact h1 z hz
    refine ⟨[], a :: l, rfl, by simp, fun z hz => ?_⟩
    rcases List.mem_cons.1 hz with rfl | hz
    · omega
    have := h'.1 z hz; omega
theorem ins_srt {y : α} {l : List α} (h : Srt g l) : Srt g (ins g y l) := by
 obtain ⟨l1, l2, rfl, h1, h2⟩ := srt_cut h (g y)
 rw [ins_split h1 h2]
 have hp := List.pairwise_append.1 h
 refine List.pairwise_append.2 ⟨hp.1, List.pairwise_cons.2 ⟨fun z hz => Nat.le_of_lt (h2 z hz), hp.2.1⟩, fun a ha b hb => ?_⟩
 rcases List.mem_cons.1 hb with rfl | hb
 · exact h1 a ha
 exact hp.2.2 a ha b hb
theorem isort_srt : ∀ (n : Nat) (xs : List α), xs.length = n → Srt g (isort g xs)
 | 0, [], _ => List.Pairwise.nil
 | n + 1, xs, h => by
  obtain ⟨ys, x, rfl⟩ : ∃ ys x, xs = ys ++ [x] := ⟨xs.dropLast, xs.getLast (by intro e; subst e; simp at h), (List.dropLast_concat_getLast _).symm⟩
  rw [isort_snoc]
  exact ins_srt (isort_srt n ys (by simp at h; exact h))
theorem ins_mrg {X Y : List α} (hX : Srt g X) (hY : Srt g Y) (y : α) : ins g y (mrg g X Y) = mrg g X (ins g y Y) := by
  obtain ⟨X1, X2, rfl, a1, a2⟩ := srt_cut hX (g y)
  obtain ⟨Y1, Y2, rfl, b1, b2⟩ := srt_cut hY (g y)
  have c1 : ∀ x ∈ X1, ∀ z ∈ Y2, g x ≤ g z := fun x hx z hz => by have := a1 x hx; have := b2 z hz; omega
  have c2 : ∀ z ∈ Y1, ∀ x ∈ X2, g z < g x := fun z hz x hx => by have := b1 z hz; have := a2 x hx; omega
  rw [mrg_split X1 Y1 X2 Y2 c1 c2, ins_split b1 b2, ins_split]
  · have e : Y1 ++ y :: Y2 = (Y1 ++ [y]) ++ Y2 := by simp
    rw [e, mrg_split X1 (Y1 ++ [y]) X2 Y2 c1 (fun z hz x hx => by
      rcases List.mem_append.1 hz with h | h
      · exact c2 z h x hx
      rw [List.mem_singleton] at h; subst h; exact a2 x hx)]
    have := mrg_split X1 Y1 [] [y] (fun x hx z hz => by rw [List.mem_singleton] at hz; subst hz; exact a1 x hx) (fun z hz x hx => by cases hx)
    rw [List.append_nil, mrg] at this
    rw [this]; simp
  · intro z hz
    rcases (mrg_mem _ _ _ _).1 hz with h | h
    · exact a1 z h
    exact b1 z h
  intro z hz
  rcases (mrg_mem _ _ _ _).1 hz with h | h
  · exact a2 z h
  exact b2 z h
theorem isort_app (xs : List α) : ∀ (n : Nat) (ys : List α), ys.length = n → isort g (xs ++ ys) = mrg g (isort g xs) (isort g ys)
 | 0, [], _ => by rw [List.append_nil]; exact (mrg_nil g _).symm
 | n + 1, ys, h => by
  obtain ⟨zs, y, rfl⟩ : ∃ zs y, ys = zs ++ [y] := ⟨ys.dropLast, ys.getLast (by intro e; subst e; simp at h), (List.dropLast_concat_getLast _).symm⟩
  rw [← List.append_assoc, isort_snoc, isort_snoc, isort_app xs n zs (by simp at h; exact h)]
  exact ins_mrg (isort_srt _ _ rfl) (isort_srt _ _ rfl) y
def chkF (g : α → Nat) (s : Nat) : Nat → List α → List α
 | 0, xs => isort g xs
 | f + 1, xs => if xs.length ≤ s then isort g xs else isort g (xs.take s) ++ chkF g s f (xs.drop s)
def chk (g : α → Nat) (s : Nat) (xs : List α) : List α := chkF g s xs.length xs
theorem chkF_fuel {s : Nat} (hs : 0 < s) : ∀ (f f' : Nat) (xs : List α), xs.length ≤ f → xs.length ≤ f' → chkF g s f xs = chkF g s f' xs
 | 0, 0, xs, _, _ => rfl
 | 0, f' + 1, xs, h, _ => by
  have : xs.length = 0 := by omega
  rw [chkF, chkF, if_pos (by omega)]
 | f + 1, 0, xs, _, h => by
  have : xs.length = 0 := by omega
  rw [chkF, chkF, if_pos (by omega)]
 | f + 1, f' + 1, xs, h, h' => by
  rw [chkF, chkF]
  by_cases c : xs.length ≤ s
  · rw [if_pos c, if_pos c]
  rw [if_neg c, if_neg c, chkF_fuel hs f f' (xs.drop s) (by simp; omega) (by simp; omega)]
theorem chk_small {s : Nat} {xs : List α} (h : xs.length ≤ s) : chk g s xs = isort g xs := by
 unfold chk
 cases hl : xs.length with
 | zero => rw [chkF]
 | succ n => rw [chkF, if_pos h]
theorem chk_step {s : Nat} {xs : List α} (hs : 0 < s) (h : s ≤ xs.length) : chk g s xs = isort g (xs.take s) ++ chk g s (xs.drop s) := by
  by_cases e : xs.length = s
  · rw [chk_small (by omega), List.take_of_length_le (by omega), List.drop_of_length_le (by omega)]
    show _ = _ ++ isort g []
    exact (List.append_nil _).symm
  unfold chk
  obtain ⟨n, hn⟩ : ∃ n, xs.length = n + 1 := ⟨xs.length - 1, by omega⟩
  rw [hn, chkF, if_neg (by omega)]
  congr 1
  exact chkF_fuel hs _ _ _ (by simp; omega) (Nat.le_refl _)
theorem chk_len {s : Nat} (hs : 0 < s) : ∀ (n : Nat) (xs : List α), xs.length ≤ n → (chk g s xs).length = xs.length
 | 0, xs, h => by rw [chk_small (by omega), isort_len]
 | n + 1, xs, h => by
  by_cases c : xs.length ≤ s
  · rw [chk_small c, isort_len]
  rw [chk_step hs (by omega), List.length_append, isort_len, chk_len hs n (xs.drop s) (by simp; omega)]; simp; omega
theorem chk_mem {s : Nat} (hs : 0 < s) (z : α) : ∀ (n : Nat) (xs : List α), xs.length ≤ n → (z ∈ chk g s xs → z ∈ xs)
 | 0, xs, h => fun hz => by rw [chk_small (by omega)] at hz; exact (isort_mem _ _ _).1 hz
 | n + 1, xs, h => fun hz => by
  by_cases c : xs.length ≤ s
  · rw [chk_small c] at hz; exact (isort_mem _ _ _).1 hz
  rw [chk_step hs (by omega)] at hz
  rcases List.mem_append.1 hz with h1 | h1
  · exact List.mem_of_mem_take ((isort_mem _ _ _).1 h1)
  exact List.mem_of_mem_drop (chk_mem hs z n (xs.drop s) (by simp; omega) h1)
end
end Go.Proofs.YtajklleiifhipaaGreatDoor
