/- Texts of the claim, laid together: Pg6, Pg7. -/
import Derived.Test.YtajklleiifhipaaGreatDoorV0
import Derived.Test.YtajklleiifhipaaGreatDoorV3
import Derived.Test.YtajklleiifhipaaGreatDoorV5
import Derived.Test.YtajklleiifhipaaGreatDoorV13
import Derived.Test.YtajklleiifhipaaGreatDoorV18
import Derived.Test.YtajklleiifhipaaGreatDoorV19
import Derived.Test.YtajklleiifhipaaGreatDoorV20
import Derived.Test.YtajklleiifhipaaGreatDoorV21
set_option linter.unusedSimpArgs false
set_option linter.unusedVariables false
namespace Go.Proofs.YtajklleiifhipaaGreatDoor
open Go.RowKit Sym
open Pg
theorem Sym.E.mkFM {α : Type} {enc : α → List Value} {sz : Nat} {P : Program} {ops : Array Oper} {Q : Exit → Act → World → Prop} {s : St} {env : Env} {w0 w : World} {S : Nat → Prop} {rs : List Rg} {rest : List Oper} {d : Nat} {ty : TypeId} {pos : String} {aft : Array Edge} {t e : TypeId} {n : Nat} {xs : List (Nat × Operand)} {vs : List (Nat × Value)} (l : List α) (hM : M w0 S w rs) (hx : evp env xs = some vs) (hb : ∀ w, (Instr.buildSlice t n vs.toArray).run P w = .ok (.slice (some ⟨w.heap.size, 0, none⟩) n n) (w.alloc (.cells (l.flatMap enc).toArray e))) (hn : l.length = n) (hs : n ≤ 1000000) (hsz : ∀ a ∈ l, (enc a).length = sz)
  (hd : Nat.blt d s.n = true) (h : ∀ v w', M w0 S w' (rs ++ [Rg.slF enc sz e v l]) → wpE P ops Q s rest ((d, v) :: env) w') : wpE P ops Q s (⟨some d, .buildSlice t n xs.toArray, ty, pos, aft, none⟩ :: rest) env w := by
 subst hn
 have hfl : (l.flatMap enc).length = l.length * sz := by
  clear hb h hs
  induction l with
  | nil => simp
  | cons a l ih => rw [List.flatMap_cons, List.length_append, hsz a (by simp), ih (fun b hb => hsz b (by simp [hb])), List.length_cons, Nat.add_mul, Nat.one_mul, Nat.add_comm]
 refine E.buildS hx hb hd (h _ _ (hM.new (Ext.new w _) (r := Rg.slF enc sz e _ l) ⟨hsz, hfl, .inr ⟨w.heap.size, l.length, (l.flatMap enc).toArray, rfl, Nat.zero_le _, heap_alloc_new w _, Nat.le_refl _, by unfold maxLen; omega, by simpa using hfl, by simp [List.take_of_length_le, hfl]⟩⟩ (fun k hk => by cases hk; exact Nat.le_refl _)))
theorem dep_8 {pix : List UInt8} {i : Nat} (hi : i < pix.length) (h : (pix[i]).toNat ≠ 0 ∧ (pix[i]).toNat ≠ 255) : dep pix = 8 := by
 unfold dep
 rw [if_neg]
 intro k
 rcases k _ (List.getElem_mem hi) with e | e
 · exact h.1 (by rw [e]; rfl)
 exact h.2 (by rw [e]; rfl)
theorem dep_1 {pix : List UInt8} (h : ∀ x ∈ pix, x = 0 ∨ x = 255) : dep pix = 1 := by unfold dep; rw [if_pos h]
theorem pix_ok {x : UInt8} (h : ¬ (x.toNat ≠ 0 ∧ x.toNat ≠ 255)) : x = 0 ∨ x = 255 := by
 by_cases e : x.toNat = 0
 · exact .inl (UInt8.toNat_inj.1 e)
 exact .inr (UInt8.toNat_inj.1 (Decidable.byContradiction fun k => h ⟨e, k⟩))
theorem bag3 {w : World} {x y z : Hd} {a b c : List UInt8} (h1 : RdL u8 w (slv x) a) (h2 : RdL u8 w (slv y) b) (h3 : RdL u8 w (slv z) c) : Bag w [x, y, z] [a, b, c] := ⟨rfl, fun i h l hh hl => by
 match i with
 | 0 => simp at hh hl; subst hh hl; exact h1
 | 1 => simp at hh hl; subst hh hl; exact h2
 | 2 => simp at hh hl; subst hh hl; exact h3
 | i + 3 => simp at hh⟩
theorem Wrap2_ret (p : Value) (l : List UInt8) (w : World) (hp : RdL u8 w p l) (hl : l.length ≤ 32768) (hO : Ord w) :
  Ret Tryz.prog 18 #[p, i64 2] w fun v w' => ∃ vo, v = .tuple #[vo, i64 0] ∧ M w Nn w' [Rg.sl u8 5 vo (Df.wrv l 2)] :=
 (Wrap_ret p l 2 w hp hl hO).mono fun v w' ⟨vo, h, m⟩ => ⟨vo, by rw [h, if_neg (by omega)], m⟩
theorem rdl_nil {w : World} : RdL u8 w (slv (none, 0, 0)) [] := by
 exact (OwnL.nil u8 w 0 0).rd
set_option maxHeartbeats 4000000 in
set_option maxRecDepth 4000 in
theorem Write_ret (W H : Int) (vp : Value) (pix : List UInt8) (w : World) (hp : RdL u8 w vp pix) (hsm : pix.length ≤ 3000) (hO : Ord w) :
  Ret Tryz.prog 6 #[imv W H vp] w fun v w' => ∃ (vo : Value) (out : List UInt8) (e : Int), v = .tuple #[vo, i64 e] ∧ M w Nn w' [Rg.sl u8 5 vo out] ∧ ((vld W H pix.length ∧ e = 0 ∧ out = wri W.toNat H.toNat pix) ∨ (¬ vld W H pix.length ∧ e = 1 ∧ out = [])) := by
 have hM := M.start w
 refine enter Tryz.func6 rfl (by kernel_rfl) Tryz.ntmps6 rfl $ Kb $ E.boxM hM rfl rfl rfl ?_
 intro b1 w0 hM
 refine Kn rfl $ Kc rfl $ C.seq $ Kb $ E.loadA (cs := [i64 W, i64 H, vp]) rfl U24 rfl (by kernel_rfl) (hM.bat 0 rfl) rfl $ E.call rfl rfl (CheckImage_ret W H vp pix _ (hM.arg0 hp)) ?_
 rintro _ w1 ⟨rfl, x1⟩
 have hM := hM.ext x1
 refine Kd rfl $ Km rfl $ Kp rfl $ Ka $ C.cond' rfl (fun hC0 => ?_) (fun hC0 => ?_)
 ·
  have hnv : ¬ vld W H pix.length := fun h => hC0 (by rw [if_pos h])
  refine Kb $ Km rfl $ Kn rfl $ Kc rfl $ C.ret $ X.retT $ ret2 rfl rfl rfl ?_
  exact ⟨nilS, [], 1, by rw [if_neg hnv], (hM.pick [] (by decide)).nil u8 5, .inr ⟨hnv, rfl, rfl⟩⟩
 have hv : vld W H pix.length := Decidable.byContradiction fun h => hC0 (by rw [if_neg h]; decide)
 obtain ⟨v1, v2, v3, v4, v5, v6⟩ := id hv
 obtain ⟨wd, rfl⟩ : ∃ n : Nat, W = (n : Int) := ⟨W.toNat, by omega⟩
 obtain ⟨ht, rfl⟩ : ∃ n : Nat, H = (n : Int) := ⟨H.toNat, by omega⟩
 have hn : pix.length = wd * ht := Int.ofNat.inj (v6.trans (Int.natCast_mul wd ht).symm)
 have hd : dep pix = 8 ∨ dep pix = 1 := (dep_cases pix).imp id (fun h => h.1)
 obtain ⟨s1, s2, s3, s4⟩ := dta_small hn (by omega) hsm (by omega)
 have hdl := dta_len (d := dep pix) hn hd
 refine Kk $ Kb $ Kc rfl $ C.cut0 [(1, _)] rfl [(5, i64 (dep pix : Int))] (fun w' => M w (Nn) w' [Rg.blk b1 24 [i64 (wd : Int), i64 (ht : Int), vp]]) ?_ ?_
 ·
  refine Kb $ E.fld (o := 2) (sz := 0) rfl U24 rfl rfl (by kernel_rfl) rfl $ E.load rfl U22 rfl (hM.bcell 0 rfl rfl) rfl $ E.lenv rfl (Rd.shape (hM.arg0 hp)) U22 rfl $ Km rfl $ Ka $ C.block $ C.loop1 [(1, _), (20, _), (21, _)] rfl (fun (i : Nat) => [(5, i64 1), (22, i64 i)]) (fun (i : Nat) w' => M w (Nn) w' [Rg.blk b1 24 [i64 (wd : Int), i64 (ht : Int), vp]] ∧ i ≤ pix.length ∧ ∀ x ∈ pix.take i, x = 0 ∨ x = 255) (fun (i : Nat) => pix.length - i) 0 ?_ ?_ ?_
  · exact Sub.cons rfl $ S1 rfl
  · exact ⟨hM, Nat.zero_le _, fun x hx => by simp at hx⟩
  rintro i w2 ⟨hM, hi, hall⟩
  refine Kb $ Kp rfl $ Ka $ C.seq $ C.cond' rfl (fun hC1 => ?_) (fun hC1 => ?_)
  ·
   have hi' : i < pix.length := by omega
   refine Kk $ C.seq $ C.block $ Kb $ E.get (k := i) rfl rfl (hM.arg0 hp) rfl (by omega) U22 (by kernel_rfl) U5 rfl rfl rfl ?_
   rw [u8c]
   refine Kc rfl $ C.chainE [(1, _), (5, _), (20, _), (21, _), (22, _)] rfl [(31, .bool (decide ((pix[i]).toNat ≠ 0 ∧ (pix[i]).toNat ≠ 255)))] ?_ ?_
   ·
    refine C.region $ Km rfl $ Kp rfl $ Km rfl $ E.split 28 rfl (fun g28 => ?_) (fun g28 => ?_)
    ·
     try simp only [Ya, Yb, Yc, Yd, Ye, Yf] at g28
     refine Ko rfl $ Km rfl $ Ko rfl $ Kp rfl $ Kr rfl $ E.nil $ X.join0 (Sub.cons (look_eq rfl (congrArg Value.bool (by exact decide_eq_decide.2 ⟨fun h => by omega, fun h => by omega⟩))) $ Sub.nil _) rfl rfl
    try simp only [Ya, Yb, Yc, Yd, Ye, Yf] at g28
    refine Kq rfl $ Kq rfl $ Kr rfl $ E.nil $ X.join0 (Sub.cons (look_eq rfl (congrArg Value.bool (by exact (decide_eq_false (p := (pix[i]).toNat ≠ 0 ∧ (pix[i]).toNat ≠ 255) (by omega)).symm))) $ Sub.nil _) rfl rfl
   refine C.cond' rfl (fun hC2 => ?_) (fun hC2 => ?_)
   ·
    refine Kb $ Kc rfl $ C.exit $ X.outNe rfl $ X.exitT $ X.exitT $ X.outE $ X.join0  (Sub.cons (look_val rfl (by rw [dep_8 hi' hC2]; rfl)) $ Sub.nil _) rfl hM
   refine C.skip $ X.outN $ X.next $ C.region $ E.add rfl rfl (by omega) rfl $ Km rfl $ E.nil $ X.again1 (i + 1) (Sub.cons rfl $ S1 rfl) rfl ⟨hM, by omega, all_takeN hi' hall (pix_ok hC2)⟩ (by omega)
  obtain rfl : i = pix.length := by omega
  rw [List.take_length] at hall
  refine C.exit $ X.exitT $ X.exitT $ X.outE $ X.join0  (Sub.cons (look_val rfl (by rw [dep_1 hall]; rfl)) $ Sub.nil _) rfl hM
 rintro  w3 hM
 refine Kb $ Kn rfl $ Kc rfl $ C.seq $ Kb $ E.fld (o := 1) (sz := 0) rfl U24 rfl rfl (by kernel_rfl) rfl $ E.load rfl U3 rfl (hM.bcell 0 rfl rfl) rfl $ Km rfl $ Ka $ C.block $ ?_
 have hM := (hM.nil u8 5).nil u8 5
 try dsimp only [List.nil_append, List.cons_append] at hM
 refine C.loop3 [(1, _), (5, _), (34, _)] rfl (fun (y : Nat) (vd : Value) (vq : Value) => [(8, vd), (9, vq), (35, i64 y)]) (fun (y : Nat) (vd : Value) (vq : Value) w' => M w (Nn) w' [Rg.blk b1 24 [i64 (wd : Int), i64 (ht : Int), vp], Rg.sl u8 5 vd (dta pix wd (dep pix) y), Rg.sl u8 5 vq (pri pix wd (dep pix) y)] ∧ y ≤ ht) (fun (y : Nat) (vd : Value) (vq : Value) => ht - y) 0 nilS nilS ?_ ?_ ?_
 · exact Sub.cons rfl $ Sub.cons rfl $ S1 rfl
 · exact ⟨hM, Nat.zero_le _⟩
 rintro y vd vq w4 ⟨hM, hy⟩
 refine Kb $ Kp rfl $ Ka $ C.seq $ C.cond' rfl (fun hC3 => ?_) (fun hC3 => ?_)
 ·
  have hy' : y < ht := by omega
  have hm1 := mul_le (w := wd) (y := y) (h := ht) (by omega)
  have hm2 : (y + 1) * wd = y * wd + wd := by rw [Nat.add_mul, Nat.one_mul]
  have hcl := cutw_len hn hy'
  have hpl := prow_len hn hy' hd
  have hpp : pri pix wd (dep pix) y = [] ∨ (pri pix wd (dep pix) y).length = (prow pix wd (dep pix) y).length := by
   cases y with
   | zero => exact .inl rfl
   | succ y => exact .inr (by rw [hpl]; exact prow_len hn (by omega) hd)
  have hdy := hdl y (by omega)
  have hdm : y * wid wd (dep pix) ≤ ht * wid wd (dep pix) := Nat.mul_le_mul_right _ hy
  refine Kk $ C.seq $ C.block $ Kb $ Km rfl $ Kd rfl $ E.fld (o := 2) (sz := 0) rfl U24 rfl rfl (by kernel_rfl) rfl $ E.load rfl U22 rfl (hM.bcell 0 rfl rfl) rfl $ Km rfl $ E.fld (o := 0) (sz := 0) rfl U24 rfl rfl (by kernel_rfl) rfl $ E.load rfl U3 rfl (hM.bcell 0 rfl rfl) rfl $ E.mulN (a := y) (b := wd) rfl rfl (by omega) rfl $ Km rfl $ E.addN (a := y) (b := 1) rfl rfl (by omega) rfl $ E.fld (o := 0) (sz := 0) rfl U24 rfl rfl (by kernel_rfl) rfl $ E.load rfl U3 rfl (hM.bcell 0 rfl rfl) rfl $ E.mulN (a := y + 1) (b := wd) rfl rfl (by omega) rfl $ E.slcP (y * wd) ((y + 1) * wd) rfl (.inl rfl) (.inl rfl) (hM.arg0 hp) U22 (by kernel_rfl) (by omega) (by omega) rfl $ Km rfl $ E.call rfl rfl (pack_ret _ (cutL (y * wd) ((y + 1) * wd) pix) (dep pix) _ ((hM.arg0 hp).partV (by omega) (by omega)) (by omega) (by omega)) ?_
  rintro v51 w5 m
  have hM := hM.call m
  refine Kd rfl $ Kf rfl $ Km rfl $ E.call rfl rfl (appendBest_ret vd v51 vq (dta pix wd (dep pix) y) (prow pix wd (dep pix) y) (pri pix wd (dep pix) y) _ (hM.sep1 1 rfl) (hM.sl 3 rfl) (hM.sl 2 rfl) (hM.offSl 3 1 (by decide) rfl rfl) (hM.offSl 2 1 (by decide) rfl rfl) hpp (by rw [hpl]; rcases hd with e | e <;> rw [e] <;> omega) (by omega)) ?_
  rintro v55 w6 m
  have hM := hM.call1 1 rfl (by simp) m
  refine Kc rfl $ C.region $ Km rfl $ Kn rfl $ E.nil $ X.outN $ X.next $ C.region $ E.add rfl rfl (by omega) rfl $ Km rfl $ E.nil $ X.again3 (y + 1) _ _ (Sub.cons rfl $ Sub.cons rfl $ S1 rfl) rfl ⟨hM.pick [0, 1, 3] (by decide), by omega⟩ (by omega)
 obtain rfl : y = ht := by omega
 refine Kx $ Kb $ Km rfl $ E.call rfl rfl (Wrap2_ret vd (dta pix wd (dep pix) y) _ (hM.sl 1 rfl) (by omega) (hM.ord0 hO)) ?_
 rintro _ w7 ⟨v60, rfl, m⟩
 have hM := hM.call m
 obtain ⟨x60, rfl⟩ := own_head (hM.own 3 rfl)
 refine Km rfl $ E.ext rfl rfl rfl $ E.ext rfl rfl rfl $ Kn rfl $ Kc rfl $ C.seq $ Kb $ Km rfl $ Kp rfl $ Ka $ C.cond' rfl (fun hC4 => ?_) (fun hC4 => ?_)
 ·
  exact absurd rfl hC4
 refine Kk $ C.seq $ C.heldE (by kernel_rfl) fun wh8 hwh8 _ => ?_
 have hS := hwh8
 have hM0 := hM
 have hM := M.ofExt hwh8
 refine Ku 0 rfl (by kernel_rfl) hS (Y.fld (o := 0) (sz := 0) rfl U24 rfl rfl (by kernel_rfl)) (fun w' hS => by have hM := hM0.ext hS; exact Y.fld (o := 0) (sz := 0) rfl U24 rfl rfl (by kernel_rfl)) rfl $ Ku 3 rfl (by kernel_rfl) hS (Y.fld (o := 1) (sz := 0) rfl U24 rfl rfl (by kernel_rfl)) (fun w' hS => by have hM := hM0.ext hS; exact Y.fld (o := 1) (sz := 0) rfl U24 rfl rfl (by kernel_rfl)) rfl $ Ku 1 rfl (by kernel_rfl) hS (Y.load rfl U3 rfl (by exact (hM0.ext hS).bcell 0 rfl rfl)) (fun w' hS => by have hM := hM0.ext hS; exact Y.load rfl U3 rfl (by exact hM.bcell 0 rfl rfl)) rfl $ Ku 4 rfl (by kernel_rfl) hS (Y.load rfl U3 rfl (by exact (hM0.ext hS).bcell 0 rfl rfl)) (fun w' hS => by have hM := hM0.ext hS; exact Y.load rfl U3 rfl (by exact hM.bcell 0 rfl rfl)) rfl $ H.only 2 rfl (by kernel_rfl) ?_
 have hM := hM.nil u8 5
 try dsimp only [List.nil_append, List.cons_append] at hM
 refine E.call rfl rfl (gappend_ret nilS [] wd _ (hM.sep1 0 rfl) (by omega) (by simp)) ?_
 rintro v68 w9 m
 have hM := hM.call1 0 rfl (by simp) m
 have hS := hM.toExt
 refine H.back hS $ H.only 5 rfl (by kernel_rfl) $ E.call rfl rfl (gappend_ret v68 ([] ++ Jn.enc4 wd) y _ (hM.sep1 0 rfl) (by omega) (by simp [Jn.enc4_len])) ?_
 rintro v71 w10 m
 have hM := hM.call1 0 rfl (by simp) m
 have hS := hM.toExt
 refine H.back hS $ Kt 6 rfl (by kernel_rfl) hS (fun w' hS => by have hM := hM0.ext hS; exact Y.asg rfl) rfl $ H.done (by kernel_rfl) ?_
 have hM := hM0.call hM
 refine X.next $ Kb $ Kf rfl $ E.conv rfl U3 U5 (c := ((UInt8.ofNat (dep pix)).toNat : Int)) (wrap8 _) rfl $ E.mkM (enc := u8) (e := 5) [UInt8.ofNat (dep pix), 0, 0, 0, 0] hM rfl (fun _ => by kernel_rfl) rfl rfl rfl ?_
 intro v75 w11 hM
 refine E.appendM 4 hM rfl rfl rfl U22 elem_Tuint8 (hM.sl 5 rfl) (fun _ => rfl) (by simp [Jn.enc4_len]) (by simp [Jn.enc4_len]) rfl ?_
 intro v76 w12 hM
 obtain ⟨x76, rfl⟩ := own_head (hM.own 4 rfl)
 refine Kd rfl $ Km rfl $ E.buildC (cs := [_, _]) [.string .empty, .slice none 0 0] [0, 1] rfl rfl (by kernel_rfl) rfl $ Km rfl $ E.buildC (cs := [_, _]) [.string .empty, .slice none 0 0] [0, 1] rfl rfl (by kernel_rfl) rfl $ E.buildC (cs := [_, _]) [.string .empty, .slice none 0 0] [0] rfl rfl (by kernel_rfl) rfl $ E.mkFM (enc := cke) (sz := 2) (e := 39) (zc (wck wd y pix) [x76, x60, (none, 0, 0)]) hM rfl (fun _ => by kernel_rfl) rfl (by decide) (fun a ha => rfl) rfl ?_
 intro v82 w82 hM
 have hwl := wrv_len (pix := pix) (w := wd) (h := y) (by omega)
 have hbb : ∀ c ∈ wck wd y pix, c.1.length ≤ 1000000 ∧ c.2.length ≤ 4194304 := fun c hc => by
  have : c = (tH, hdr wd y (dep pix)) ∨ c = (tD, Df.wrv (dta pix wd (dep pix) y) 2) ∨ c = (tE, []) := by simpa [wck] using hc
  rcases this with rfl | rfl | rfl
  · exact ⟨by simp [tH], by rw [hdr_len]; decide⟩
  · exact ⟨by simp [tD], by show (Df.wrv (dta pix wd (dep pix) y) 2).length ≤ _; omega⟩
  exact ⟨by decide, by decide⟩
 refine E.call rfl rfl (Join_ret _ [x76, x60, (none, 0, 0)] (wck wd y pix) _ ⟨hM.slF 6 rfl, bag3 (hM.sl 4 rfl) (hM.sl 3 rfl) rdl_nil⟩ hbb) ?_
 rintro _ w12 ⟨v83, out, e, rfl, m, hj⟩
 have hM := hM.call m
 rw [wck_jn (by omega)] at hj
 obtain ⟨rfl, rfl⟩ : 0 = e ∧ wri wd y pix = out := by
  rcases hj with ⟨h1, h2⟩ | ⟨_, h2, _⟩
  · cases h2; exact ⟨h1.symm, rfl⟩
  cases h2
 refine E.ext rfl rfl rfl $ E.ext rfl rfl rfl $ Kn rfl $ Kc rfl $ C.ret $ ret2 rfl rfl rfl ?_
 exact ⟨v83, _, 0, rfl, hM.pick [7] (by decide), .inl ⟨hv, rfl, by rw [Int.toNat_natCast, Int.toNat_natCast]⟩⟩
end Go.Proofs.YtajklleiifhipaaGreatDoor
namespace Go.Proofs.YtajklleiifhipaaGreatDoor
open Go.RowKit Sym
open Pg
namespace Sym
section
variable {P : Program} {ops : Array Oper} {Q : Exit → Act → World → Prop} {s : St} {env : Env} {w0 w : World} {S : Nat → Prop} {rs : List Rg} {rest : List Oper} {d : Nat} {ty : TypeId} {pos : String} {aft : Array Edge}
theorem flat_drop {α : Type} {enc : α → List Value} {sz : Nat} : ∀ (l : List α) (a : Nat), (∀ x ∈ l, (enc x).length = sz) → (l.flatMap enc).drop (a * sz) = (l.drop a).flatMap enc
 | l, 0, _ => by simp
 | [], a + 1, _ => by simp
 | x :: l, a + 1, h => by
  rw [List.flatMap_cons, List.drop_succ_cons, ← flat_drop l a (fun y hy => h y (by simp [hy])), Nat.add_mul, Nat.one_mul, Nat.add_comm, ← List.drop_drop]
  congr 1
  rw [← h x (by simp), List.drop_left]
theorem RdF.partF {α : Type} {enc : α → List Value} {sz : Nat} {v v' : Value} {l : List α} {a : Nat} (h : RdF enc sz w v l) (p : Part sz v v' a l.length) : RdF enc sz w v' (l.drop a) := by
 refine ⟨fun x hx => h.1 x (List.mem_of_mem_drop hx), ?_⟩
 have h2 := Rd.ofPart h.2 p
 have hl : (l.drop a).length = l.length - a := List.length_drop
 rw [flat_drop l a h.1, List.take_of_length_le] at h2
 · rw [hl]; exact h2
 have : ∀ m : List α, (∀ x ∈ m, (enc x).length = sz) → (m.flatMap enc).length = m.length * sz := fun m => by
  induction m with
  | nil => intro _; simp
  | cons y m ih => intro hm; rw [List.flatMap_cons, List.length_append, hm y (by simp), ih (fun z hz => hm z (by simp [hz])), List.length_cons, Nat.add_mul, Nat.one_mul, Nat.add_comm]
 rw [this _ (fun x hx => h.1 x (List.mem_of_mem_drop hx)), hl]; exact Nat.le_refl _
theorem E.slcF {α : Type} {enc : α → List Value} {sz : Nat} {l : List α} {t e : TypeId} {x : Operand} {lo hi : Option Operand} {v : Value} {k k' : IntKind} (a b : Nat) (hx : ev env x = some v)
    (hlo : lo.map (ev env) = some (some (.int k (a : Int))) ∨ (lo = none ∧ a = 0)) (hhi : hi.map (ev env) = some (some (.int k' (b : Int))) ∨ (hi = none ∧ b = l.length)) (hR : RdF enc sz w v l)
    (ht : P.underlying t = some (.slice e)) (hs : (P.info? e).map (·.size) = some sz) (hl : a ≤ b) (hh : b ≤ l.length) (hd : Nat.blt d s.n = true)
    (hK : ∀ v', Part sz v v' a b → wpE P ops Q s rest ((d, v') :: env) w) : wpE P ops Q s (⟨some d, .slice t x lo hi none, ty, pos, aft, none⟩ :: rest) env w := by
  obtain ⟨c, cap, hv, hc, _⟩ := hR.2
  subst hv
  have hp : Part sz (.slice c l.length cap) (.slice (if cap = a then c else c.map (·.add (a * sz))) (b - a) (cap - a)) a b := ⟨c, l.length, cap, rfl, hl, hh, rfl⟩
  refine E.op (fun a' ha => ?_) hd (hK _ hp)
  have h1 : lo.map a'.eval = some (.int k (a : Int)) ∨ (lo.map a'.eval = none ∧ a = 0) := by
    rcases hlo with hlo | ⟨rfl, h0⟩
    · cases lo with
      | none => simp at hlo
      | some y => simp at hlo; left; simp [ha.ev hlo]
    right; exact ⟨rfl, h0⟩
  have h2 : hi.map a'.eval = some (.int k' (b : Int)) ∨ (hi.map a'.eval = none ∧ b = l.length) := by
    rcases hhi with hhi | ⟨rfl, h0⟩
    · cases hi with
      | none => simp at hhi
      | some y => simp at hhi; left; simp [ha.ev hhi]
    right; exact ⟨rfl, h0⟩
  have := run_slice (P := P) (w := w) (a := c) ht hs h1 h2 hl hh hc
  simp [execOp, ha.ev hx, this]
theorem ret4 {fn : Func} {n t u r q : Nat} {v1 v2 v3 v4 : Value} {Φ : Value → World → Prop} (hres : fn.results = #[.tmp t, .tmp u, .tmp r, .tmp q]) (h1 : look env t = some v1) (h2 : look env u = some v2) (h3 : look env r = some v3) (h4 : look env q = some v4) (h : Φ (.tuple #[v1, v2, v3, v4]) w) : wpX .ret (bodyPost P fn (RetPost Φ)) ⟨n, []⟩ env w :=
 retG (fun a ha => by simp [results, hres, ha.get t v1 h1, ha.get u v2 h2, ha.get r v3 h3, ha.get q v4 h4]) h
end
end Sym
theorem Cks.tail {w : World} {p v' : Value} {h0 : Hd} {hr : List Hd} {c : Ck} {r : List Ck} (h : Cks w p (h0 :: hr) (c :: r)) (q : Part 2 p v' 1 (zc (c :: r) (h0 :: hr)).length) : Cks w v' hr r := by
 refine ⟨h.row.partF q, ?_⟩
 have := h.bag
 refine ⟨by have := this.1; simp at this ⊢; exact this, fun i x l hx hl => this.2 (i + 1) x l (by simpa using hx) (by simpa using hl)⟩
namespace Pg
theorem dat_app (a b : List Ck) : dtc (a ++ b) = dtc a ++ dtc b := by
 induction a with
 | nil => rfl
 | cons c a ih => rw [List.cons_append, dtc, dtc, ih]; split <;> simp
theorem any_app (a b : List Ck) : anyD (a ++ b) = (anyD a || anyD b) := by
 induction a with
 | nil => rfl
 | cons c a ih => rw [List.cons_append, anyD, anyD, ih]; split <;> simp
theorem dat_t {r : List Ck} {k : Nat} (h : k < r.length) (hc : (r[k]).1 = tD) : dtc (r.take (k + 1)) = dtc (r.take k) ++ (r[k]).2 := by
 rw [← List.take_append_getElem h, dat_app, dtc, if_pos hc]; simp [dtc]
theorem dat_f {r : List Ck} {k : Nat} (h : k < r.length) (hc : (r[k]).1 ≠ tD) : dtc (r.take (k + 1)) = dtc (r.take k) := by
 rw [← List.take_append_getElem h, dat_app, dtc, if_neg hc]; simp [dtc]
theorem any_t {r : List Ck} {k : Nat} (h : k < r.length) (hc : (r[k]).1 = tD) : anyD (r.take (k + 1)) = true := by
 rw [← List.take_append_getElem h, any_app, anyD, if_pos hc]; simp
theorem any_f {r : List Ck} {k : Nat} (h : k < r.length) (hc : (r[k]).1 ≠ tD) : anyD (r.take (k + 1)) = anyD (r.take k) := by
 rw [← List.take_append_getElem h, any_app, anyD, if_neg hc]; simp [anyD]
def Fst (r : List Ck) (k st : Nat) (la : Int) : Prop := fmd 0 r = fmd st (r.drop k) ∧ -1 ≤ la ∧ la ≤ k ∧ ((st = 0 ∧ anyD (r.take k) = false) ∨ (st = 1 ∧ anyD (r.take k) = true ∧ la = (k : Int) - 1) ∨ (st = 2 ∧ anyD (r.take k) = true ∧ la < (k : Int) - 1))
theorem Fst.zero (r : List Ck) : Fst r 0 0 0 := ⟨rfl, by omega, by omega, .inl ⟨rfl, rfl⟩⟩
theorem Fst.head {r : List Ck} {k st : Nat} {la : Int} (h : Fst r k st la) (hk : k < r.length) (hc : (r[k]).1 = tH) : fmd 0 r = false := by
 rw [h.1, List.drop_eq_getElem_cons hk, fmd, if_pos hc]
theorem Fst.bad {r : List Ck} {k st : Nat} {la : Int} (h : Fst r k st la) (hk : k < r.length) (hc : (r[k]).1 = tD) (h2 : anyD (r.take k) = true ∧ la ≠ (k : Int) - 1) : fmd 0 r = false := by
 have hne : (r[k]).1 ≠ tH := fun e => by rw [e] at hc; revert hc; decide
 rcases h.2.2.2 with ⟨_, h0⟩ | ⟨_, _, h0⟩ | ⟨h0, _⟩
 · rw [h0] at h2; cases h2.1
 · exact (h2.2 h0).elim
 rw [h.1, List.drop_eq_getElem_cons hk, fmd, if_neg hne, if_pos hc, if_pos h0]
theorem Fst.data {r : List Ck} {k st : Nat} {la : Int} (h : Fst r k st la) (hk : k < r.length) (hc : (r[k]).1 = tD) (h2 : ¬ (anyD (r.take k) = true ∧ la ≠ (k : Int) - 1)) : Fst r (k + 1) 1 k := by
 have hne : (r[k]).1 ≠ tH := fun e => by rw [e] at hc; revert hc; decide
 have h3 : st ≠ 2 := fun e => by
  rcases h.2.2.2 with ⟨h0, _⟩ | ⟨h0, _⟩ | ⟨_, h0, h1⟩
  · omega
  · omega
  exact h2 ⟨h0, by omega⟩
 refine ⟨?_, by omega, by omega, .inr (.inl ⟨rfl, any_t hk hc, by omega⟩)⟩
 rw [h.1, List.drop_eq_getElem_cons hk, fmd, if_neg hne, if_pos hc, if_neg h3]
theorem Fst.cr {r : List Ck} {k st : Nat} {la : Int} (h : Fst r k st la) (hk : k < r.length) (h1 : (r[k]).1 ≠ tH) (h2 : (r[k]).1 ≠ tD) (hc : (r[k]).1 ≠ tE ∧ crit (r[k]).1) : fmd 0 r = false := by
 rw [h.1, List.drop_eq_getElem_cons hk, fmd, if_neg h1, if_neg h2, if_pos hc]
theorem Fst.more {r : List Ck} {k st : Nat} {la : Int} (h : Fst r k st la) (hk : k < r.length) (h1 : (r[k]).1 ≠ tH) (h2 : (r[k]).1 ≠ tD) (hc : ¬ ((r[k]).1 ≠ tE ∧ crit (r[k]).1)) : Fst r (k + 1) (if st = 0 then 0 else 2) la := by
 refine ⟨?_, h.2.1, by have := h.2.2.1; omega, ?_⟩
 · rw [h.1, List.drop_eq_getElem_cons hk, fmd, if_neg h1, if_neg h2, if_neg hc]
 rw [any_f hk h2]
 rcases h.2.2.2 with ⟨h0, h3⟩ | ⟨h0, h3, h4⟩ | ⟨h0, h3, h4⟩
 · exact .inl ⟨by rw [if_pos h0], h3⟩
 · exact .inr (.inr ⟨by rw [if_neg (by omega)], h3, by omega⟩)
 exact .inr (.inr ⟨by rw [if_neg (by omega)], h3, by omega⟩)
theorem Fst.all {r : List Ck} {st : Nat} {la : Int} (h : Fst r r.length st la) : fmd 0 r = true := by
 rw [h.1, List.drop_length]; cases st <;> rfl
end Pg
def ArrV (w w' : World) (v : Value) (h0 : Hd) (c : Ck) (r : List Ck) : Prop :=
 ((c.1 = tH ∧ c.2.length = 13 ∧ fmd 0 r = true) ∧ ∃ vd, v = .tuple #[slv h0, vd, .bool (anyD r), i64 0] ∧ M w Nn w' [Rg.sl u8 5 vd (dtc r)]) ∨ ((c.1 ≠ tH ∨ c.2.length ≠ 13 ∨ fmd 0 r = false) ∧ v = .tuple #[nilS, nilS, .bool false, i64 9] ∧ Ext w w')
set_option maxHeartbeats 2000000 in
theorem arranged_ret (p : Value) (h0 : Hd) (hr : List Hd) (c : Ck) (r : List Ck) (w : World) (hc : Cks w p (h0 :: hr) (c :: r)) (h4 : ∀ x ∈ r, x.1.length = 4) (hb : (dtc r).length ≤ 100000000) (hrl : r.length ≤ 100000) :
  Ret Tryz.prog 27 #[p] w fun v w' => ArrV w w' v h0 c r := by
 have hM := M.start w
 refine enter Tryz.func27 rfl (by kernel_rfl) Tryz.ntmps27 rfl $ Kb $ Kn rfl $ Kn rfl $ Kn rfl $ Kc rfl $ C.seq $ C.chainE [(0, _), (3, _), (4, _)] rfl [(21, .bool (decide (c.1 ≠ tH ∨ c.2.length ≠ 13)))] ?_ ?_
 ·
  refine C.region $ Km rfl $ E.idxF (k := 0) rfl rfl (hc.row.ext hM.toExt) rfl (by rw [zc_len hc.len]; simp) (by decide) U35 (by kernel_rfl) rfl $ E.fld (o := 0) (sz := 0) rfl U39 rfl rfl (by kernel_rfl) rfl $ E.load rfl U9 rfl ((hc.ext hM.toExt).at (i := 0) (by simp) 0 _ rfl) rfl $ E.nestr (l := c.1) (m := tH) rfl rfl rfl $ Km rfl $ E.split 14 rfl (fun g14 => ?_) (fun g14 => ?_)
  ·
   try simp only [Ya, Yb, Yc, Yd, Ye, Yf] at g14
   refine Kq rfl $ Kq rfl $ Kq rfl $ Kq rfl $ Kq rfl $ Kq rfl $ Kr rfl $ E.nil $ X.join0 (Sub.cons (look_eq rfl (congrArg Value.bool (by exact (decide_eq_true (p := c.1 ≠ tH ∨ c.2.length ≠ 13) (.inl (by simpa using g14))).symm))) $ Sub.nil _) rfl rfl
  try simp only [Ya, Yb, Yc, Yd, Ye, Yf] at g14
  refine Ko rfl $ Km rfl $ Ko rfl $ E.idxF (k := 0) rfl rfl (hc.row.ext hM.toExt) rfl (by rw [zc_len hc.len]; simp) (by decide) U35 (by kernel_rfl) rfl $ Ko rfl $ E.fld (o := 1) (sz := 0) rfl U39 rfl rfl (by kernel_rfl) rfl $ Ko rfl $ E.load rfl U22 rfl ((hc.ext hM.toExt).at (i := 0) (by simp) 1 _ rfl) rfl $ Ko rfl $ E.lenv rfl (Rd.shape (hc.data (i := 0) (by simp))) U22 rfl $ Ko rfl $ Kp rfl $ Kr rfl $ E.nil $ X.join0 (Sub.cons (look_eq rfl (congrArg Value.bool (by exact decide_eq_decide.2 ⟨fun h => .inr (fun e => h (by show ((c.2.length : Nat) : Int) = 13; omega)), fun h e => by rcases h with h | h; exact h (by simpa using g14); (have e' : ((c.2.length : Nat) : Int) = 13 := e; omega)⟩))) $ Sub.nil _) rfl rfl
 refine C.cond' rfl (fun hC0 => ?_) (fun hC0 => ?_)
 ·
  refine Kb $ Kn rfl $ Kn rfl $ Kn rfl $ Kc rfl $ C.ret $ X.retT $ ret4 rfl rfl rfl rfl rfl ?_
  exact .inr ⟨by rcases hC0 with h | h; exact .inl h; exact .inr (.inl h), rfl, hM.toExt⟩
 have hcH : c.1 = tH := Decidable.byContradiction fun h => hC0 (.inl h)
 have hc13 : c.2.length = 13 := Decidable.byContradiction fun h => hC0 (.inr h)
 refine Kk $ Kb $ Kc rfl $ C.seq $ Kb $ Km rfl $ E.slcF (k' := .i64) 1 (zc (c :: r) (h0 :: hr)).length rfl (.inl rfl) (.inr ⟨rfl, rfl⟩) (hc.row.ext hM.toExt) U35 (by kernel_rfl) (by rw [zc_len hc.len]; simp) (Nat.le_refl _) rfl ?_
 intro v23 q23
 have hc1 := hc.tail q23
 refine E.lenv rfl hc1.shape U35 rfl $ Km rfl $ Ka $ C.block $ ?_
 have hM := hM.nil u8 5
 try dsimp only [List.nil_append, List.cons_append] at hM
 refine C.loop4 [(0, _), (23, _), (24, _)] rfl (fun (k : Nat) (vd : Value) (st : Nat) (la : Int) => [(3, vd), (4, .bool (anyD (r.take k))), (6, i64 la), (25, i64 k)]) (fun (k : Nat) (vd : Value) (st : Nat) (la : Int) w' => M w (Nn) w' [Rg.sl u8 5 vd (dtc (r.take k))] ∧ k ≤ r.length ∧ Fst r k st la) (fun (k : Nat) (vd : Value) (st : Nat) (la : Int) => r.length - k) 0 nilS 0 0 ?_ ?_ ?_
 · exact Sub.cons rfl $ Sub.cons rfl $ Sub.cons rfl $ S1 rfl
 · exact ⟨hM, Nat.zero_le _, Fst.zero r⟩
 rintro k vd st la w0 ⟨hM, hk, hF⟩
 refine Kb $ Kp rfl $ Ka $ C.seq $ C.cond' rfl (fun hC1 => ?_) (fun hC1 => ?_)
 ·
  have hk' : k < r.length := by omega
  have h4k := h4 r[k] (List.getElem_mem hk')
  have hdl : (dtc (r.take k)).length + (dtc (r.drop k)).length = (dtc r).length := by rw [← List.length_append, ← dat_app, List.take_append_drop]
  refine Kk $ C.cut3 [(0, _), (23, _), (24, _), (25, _)] rfl (fun (vd2 : Value) (st2 : Nat) (la2 : Int) => [(3, vd2), (4, .bool (anyD (r.take (k + 1)))), (6, i64 la2)]) (fun (vd2 : Value) (st2 : Nat) (la2 : Int) w' => M w (Nn) w' [Rg.sl u8 5 vd2 (dtc (r.take (k + 1)))] ∧ Fst r (k + 1) st2 la2) ?_ ?_
  ·
   refine C.block $ Kb $ Km rfl $ E.idxF (k := k) rfl rfl (hc1.row.ext hM.toExt) rfl (by rw [zc_len hc1.len]; exact hk') (by decide) U35 (by kernel_rfl) rfl $ E.loadA (cs := [str (r[k]).1, slv (hr[k]'(by rw [hc1.len]; exact hk'))]) rfl U39 rfl (by kernel_rfl) ((hc1.ext hM.toExt).at hk') rfl $ E.allocM (z := .agg #[.string .empty, .slice none 0 0]) (cs := [.string .empty, .slice none 0 0]) hM (by kernel_rfl) rfl rfl ?_
   intro b8 w1 hM
   refine Kn rfl $ E.storeAM 1 hM rfl rfl rfl (by kernel_rfl) rfl (ones rfl $ ones rfl $ ones_nil) ?_
   intro w2 hM
   refine Ka $ C.block $ Kb $ E.fld (o := 0) (sz := 0) rfl U39 rfl rfl (by kernel_rfl) rfl $ E.load rfl U9 rfl (hM.bcell 1 rfl rfl) rfl $ E.eqstr (l := (r[k]).1) (m := tH) rfl rfl rfl $ Kc rfl $ C.cond' rfl (fun hC2 => ?_) (fun hC2 => ?_)
   ·
    refine Kb $ Kn rfl $ Kn rfl $ Kn rfl $ Kc rfl $ C.ret $ X.retB $ X.retB $ X.retT $ X.retT $ X.retB $ X.retT $ ret4 rfl rfl rfl rfl rfl ?_
    exact .inr ⟨.inr (.inr (hF.head hk' hC2)), rfl, hM.toExt⟩
   refine Kb $ E.fld (o := 0) (sz := 0) rfl U39 rfl rfl (by kernel_rfl) rfl $ E.load rfl U9 rfl (hM.bcell 1 rfl rfl) rfl $ E.eqstr (l := (r[k]).1) (m := tD) rfl rfl rfl $ Kc rfl $ C.cond' rfl (fun hC3 => ?_) (fun hC3 => ?_)
   ·
    refine C.seq $ C.chainE [(0, _), (3, _), (7, _), (8, _), (23, _), (24, _), (25, _)] rfl [(44, .bool (decide (anyD (r.take k) = true ∧ la ≠ (k : Int) - 1)))] ?_ ?_
    ·
     refine C.region $ Kf rfl $ E.split 39 rfl (fun g39 => ?_) (fun g39 => ?_)
     ·
      try simp only [Ya, Yb, Yc, Yd, Ye, Yf] at g39
      refine Ko rfl $ Km rfl $ Ko rfl $ Km rfl $ Ko rfl $ E.sub' rfl rfl (by have := hF.2.2.1; omega) rfl $ Ko rfl $ Kp rfl $ Kr rfl $ E.nil $ X.join0 (Sub.cons (look_eq rfl (congrArg Value.bool (by exact decide_eq_decide.2 ⟨fun h => ⟨g39, h⟩, fun h => h.2⟩))) $ Sub.nil _) rfl rfl
     try simp only [Ya, Yb, Yc, Yd, Ye, Yf] at g39
     refine Kq rfl $ Kq rfl $ Kq rfl $ Kq rfl $ Kr rfl $ E.nil $ X.join0 (Sub.cons (look_eq rfl (congrArg Value.bool (by exact (decide_eq_false (p := anyD (r.take k) = true ∧ la ≠ (k : Int) - 1) (fun h => by rw [h.1] at g39; cases g39)).symm))) $ Sub.nil _) rfl rfl
    refine C.cond' rfl (fun hC4 => ?_) (fun hC4 => ?_)
    ·
     refine Kb $ Kn rfl $ Kn rfl $ Kn rfl $ Kc rfl $ C.ret $ X.retT $ X.retB $ X.retB $ X.retT $ X.retT $ X.retB $ X.retT $ ret4 rfl rfl rfl rfl rfl ?_
     exact .inr ⟨.inr (.inr (hF.bad hk' hC3 hC4)), rfl, hM.toExt⟩
    refine Kk $ Kb $ Km rfl $ Kn rfl $ Kc rfl $ C.region $ Km rfl $ E.fld (o := 1) (sz := 0) rfl U39 rfl rfl (by kernel_rfl) rfl $ E.load rfl U22 rfl (hM.bcell 1 rfl rfl) rfl ?_
    have hdk := dat_t hk' hC3
    have hdc : (r[k]).2.length ≤ (dtc (r.drop k)).length := by rw [List.drop_eq_getElem_cons hk', dtc, if_pos hC3, List.length_append]; omega
    refine E.appendM 0 hM rfl rfl rfl U22 elem_Tuint8 ((hc1.data hk').ext hM.toExt) (fun _ => rfl) (by omega) (by omega) rfl ?_
    intro v49 w3 hM
    refine Kn rfl $ E.nil $ X.outN $ X.outN $ ?_
    rw [← hdk] at hM
    refine X.join3 _ 1 (k : Int) (Sub.cons rfl $ Sub.cons (look_eq rfl (congrArg Value.bool (any_t hk' hC3).symm)) $ S1 rfl) rfl ⟨hM.pick [0] (by decide), hF.data hk' hC3 hC4⟩
   refine C.cut0 [(0, _), (3, _), (4, _), (6, _), (23, _), (24, _), (25, _)] rfl [(50, .bool (decide ((r[k]).1 ≠ tE ∧ crit (r[k]).1)))] (fun w' => M w (Nn) w' [Rg.sl u8 5 vd (dtc (r.take k))]) ?_ ?_
   ·
    refine C.region $ E.fld (o := 0) (sz := 0) rfl U39 rfl rfl (by kernel_rfl) rfl $ E.load rfl U9 rfl (hM.bcell 1 rfl rfl) rfl $ E.nestr (l := (r[k]).1) (m := tE) rfl rfl rfl $ Km rfl $ E.split 54 rfl (fun g54 => ?_) (fun g54 => ?_)
    ·
     try simp only [Ya, Yb, Yc, Yd, Ye, Yf] at g54
     refine Ko rfl $ E.fld (o := 0) (sz := 0) rfl U39 rfl rfl (by kernel_rfl) rfl $ Ko rfl $ E.load rfl U9 rfl (hM.bcell 1 rfl rfl) rfl $ Ko rfl $ E.call rfl rfl (critical_ret (r[k]).1 _ (by omega)) ?_
     rintro _ w4 ⟨rfl, x4⟩
     have hM := hM.ext x4
     have hcr : (65 ≤ ((r[k]).1[0]'(by omega)).toNat ∧ ((r[k]).1[0]'(by omega)).toNat ≤ 90) ↔ crit (r[k]).1 := by
      have := at_get (l := (r[k]).1) (i := 0) (by omega)
      unfold crit; omega
     refine Kr rfl $ Kn rfl $ E.nil $ X.join0  (Sub.cons (look_eq rfl (congrArg Value.bool (decide_eq_decide.2 ⟨fun h => ⟨by simpa using g54, hcr.1 h⟩, fun h => hcr.2 h.2⟩))) $ Sub.nil _) rfl (hM.pick [0] (by decide))
    try simp only [Ya, Yb, Yc, Yd, Ye, Yf] at g54
    refine Kq rfl $ Kq rfl $ Kq rfl $ Kr rfl $ Kn rfl $ E.nil $ X.join0  (Sub.cons (look_eq rfl (congrArg Value.bool (decide_eq_false (p := (r[k]).1 ≠ tE ∧ crit (r[k]).1) (fun h => h.1 (by simpa using g54))).symm)) $ Sub.nil _) rfl (hM.pick [0] (by decide))
   rintro  w5 hM
   refine C.cond' rfl (fun hC5 => ?_) (fun hC5 => ?_)
   ·
    refine Kb $ Kn rfl $ Kn rfl $ Kn rfl $ Kc rfl $ C.ret $ X.retB $ X.retB $ X.retT $ X.retT $ X.retB $ X.retT $ ret4 rfl rfl rfl rfl rfl ?_
    exact .inr ⟨.inr (.inr (hF.cr hk' hC2 hC3 hC5)), rfl, hM.toExt⟩
   refine C.skip $ X.outN $ X.outN $ X.join3 vd (if st = 0 then 0 else 2) la (Sub.cons rfl $ Sub.cons (look_eq rfl (congrArg Value.bool (any_f hk' hC3).symm)) $ S1 rfl) rfl ⟨by rw [dat_f hk' hC3]; exact hM, hF.more hk' hC2 hC3 hC5⟩
  rintro vd2 st2 la2 w6 ⟨hM, hF2⟩
  refine C.region $ E.add rfl rfl (by omega) rfl $ Km rfl $ E.nil $ X.again4 (k + 1) vd2 st2 la2 (Sub.cons rfl $ Sub.cons rfl $ Sub.cons rfl $ S1 rfl) rfl ⟨hM, by omega, hF2⟩ (by omega)
 obtain rfl : k = r.length := by omega
 rw [List.take_length] at hM ⊢
 refine Kx $ Kb $ Km rfl $ E.idxF (k := 0) rfl rfl (hc.row.ext hM.toExt) rfl (by rw [zc_len hc.len]; simp) (by decide) U35 (by kernel_rfl) rfl $ E.fld (o := 1) (sz := 0) rfl U39 rfl rfl (by kernel_rfl) rfl $ E.load rfl U22 rfl ((hc.ext hM.toExt).at (i := 0) (by simp) 1 _ rfl) rfl $ Kf rfl $ Kn rfl $ Kn rfl $ Kn rfl $ Kc rfl $ C.ret $ ret4 rfl rfl rfl rfl rfl ?_
 exact .inl ⟨⟨hcH, hc13, hF.all⟩, _, rfl, hM⟩
end Go.Proofs.YtajklleiifhipaaGreatDoor
