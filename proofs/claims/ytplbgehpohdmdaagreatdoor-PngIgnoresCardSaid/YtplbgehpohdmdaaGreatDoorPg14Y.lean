/- chapter 35: PngIgnores. -/
import Derived.Laws.Concat
import Derived.Test.YtplbgehpohdmdaaGreatDoorY0
import Derived.Test.YtplbgehpohdmdaaGreatDoorPg10Y
import Derived.Test.YtplbgehpohdmdaaGreatDoorPg13Y
set_option linter.unusedSimpArgs false
set_option linter.unusedVariables false
namespace Go.Proofs.YtplbgehpohdmdaaGreatDoor
open Go.RowKit Sym
open Pg
namespace Sym
theorem run_addstr {P : Program} {w : World} {t : TypeId} {x y : Operand} {l m : List UInt8} (h : l.length ≤ 8388608 ∧ m.length ≤ 8388608) : (do eqGuard .add t x y (str l) (str m); binOp .add t (str l) (str m) : Sem Value).run P w = .ok (str (l ++ m)) w := by
 have := run_string_add_lists (P := P) w l m (by omega) (by omega)
 simp only [eqGuard, binOp_string_add, Sem.run_bind]
 exact this
theorem Y.addstr {P : Program} {ops : Array Oper} {s : St} {env : Env} {w : World} {d : Nat} {ty : TypeId} {pos : String} {aft : Array Edge} {t t2 : TypeId} {x y : Operand} {l m : List UInt8} (hx : ev env x = some (str l)) (hy : ev env y = some (str m)) (h : l.length ≤ 8388608 ∧ m.length ≤ 8388608) : Yld P ops s env w ⟨some d, .binOp .add t x y t2, ty, pos, aft, none⟩ (str (l ++ m)) :=
 Yld.of (fun a ha => by
  have := run_addstr (P := P) (w := w) (t := t) (x := x) (y := y) h
  simp only [execOp, ha.ev hx, ha.ev hy]
  rw [Sem.run_bind, this]; rfl)
end Sym
theorem u16_quo {a b : Nat} (h : a ≤ 65535) (hb : 0 < b) : IntKind.u16.wrap ((a : Int).tdiv (b : Int)) = ((a / b : Nat) : Int) := by
 have h1 : a / b ≤ a := Nat.div_le_self _ _
 rw [Int.tdiv_eq_ediv_of_nonneg (by omega), ← Int.natCast_ediv]
 generalize a / b = c at h1
 rw [IntWalk.u16_in _ (by omega)]
theorem bag4 {w : World} {x y z u : Hd} {a b c d : List UInt8} (h1 : RdL u8 w (slv x) a) (h2 : RdL u8 w (slv y) b) (h3 : RdL u8 w (slv z) c) (h4 : RdL u8 w (slv u) d) : Bag w [x, y, z, u] [a, b, c, d] := ⟨rfl, fun i h l hh hl => by
 match i with
 | 0 => simp at hh hl; subst hh hl; exact h1
 | 1 => simp at hh hl; subst hh hl; exact h2
 | 2 => simp at hh hl; subst hh hl; exact h3
 | 3 => simp at hh hl; subst hh hl; exact h4
 | i + 4 => simp at hh⟩
theorem small_let {a b : UInt8} (ha : 97 ≤ a.toNat ∧ a.toNat ≤ 122) (hb : 65 ≤ b.toNat ∧ b.toNat ≤ 90) : let4 ([a, b] ++ [a, b]) ∧ ¬ crit ([a, b] ++ [a, b]) := by
  refine ⟨⟨rfl, fun c hc => ?_⟩, fun h => ?_⟩
  · have : c = a ∨ c = b ∨ c = a ∨ c = b := by simpa using hc
    rcases this with rfl | rfl | rfl | rfl
    · exact decide_eq_true (.inr ha)
    · exact decide_eq_true (.inl hb)
    · exact decide_eq_true (.inr ha)
    · exact decide_eq_true (.inl hb)
  · have := h.2
    show False
    have e : at_ ([a, b] ++ [a, b]) 0 = a.toNat := rfl
    omega
theorem hd3 {hs : List Hd} (h : hs.length = 3) : ∃ a b c, hs = [a, b, c] := by
 match hs, h with
 | [a, b, c], _ => exact ⟨a, b, c, rfl⟩
set_option maxHeartbeats 4000000 in
theorem PngIgnores_ret (W H : Int) (vp : Value) (pix : List UInt8) (x : Int) (q : Value) (dq : List UInt8) (w : World) (hp : RdL u8 w vp pix) (hx : 0 ≤ x ∧ x ≤ 65535) (hq : RdL u8 w q dq) (hO : Ord w) :
  Ret Tryz.prog 11 #[imv W H vp, .int .u16 x, q] w fun v w' => v = .bool true ∧ Ext w w' := by
 have hM := M.start w
 refine enter Tryz.func11 rfl (by kernel_rfl) Tryz.ntmps11 rfl ?_
 refine C.seq <| C.region <| ?_
 refine E.boxM hM rfl rfl rfl ?_
 intro b3 w0 hM
 try dsimp only [Za, Zb, Zc, Zd, repl] at hM
 refine E.asg rfl rfl <| E.nil <| X.next <| C.seq <| ?_

 refine C.cut0 [(1, _), (2, _), (3, _)] rfl [(29, .bool (decide (¬ (pix.length ≤ 600 ∧ vld W H pix.length ∧ dq.length ≤ 300))))] (fun w' => M w (Nn) w' [Rg.blk b3 36 [i64 W, i64 H, vp]]) ?_ ?_
 ·
  refine C.region <| ?_
  refine E.fld (o := 2) (sz := 0) rfl Tryz.underlying36 rfl rfl (by kernel_rfl) rfl ?_
  refine E.load rfl Tryz.underlying22 rfl (hM.bcell 0 rfl rfl) rfl ?_
  refine E.lenv rfl (Rd.shape (hM.arg0 hp)) Tryz.underlying22 rfl ?_
  refine E.bin rfl rfl rfl rfl <| E.mv rfl rfl <| ?_
  refine E.split 20 rfl (fun g20 => ?_) (fun g20 => ?_)
  ·
   try simp only [Ya, Yb, Yc, Yd, Ye, Yf] at g20

   refine E.off rfl rfl rfl rfl <| E.off rfl rfl rfl rfl <| E.off rfl rfl rfl rfl <| E.pick rfl rfl rfl <| E.mv rfl rfl <| E.off rfl rfl rfl rfl <| E.off rfl rfl rfl rfl <| E.off rfl rfl rfl rfl <| E.pick rfl rfl rfl <| E.nil <| X.join0  (Sub.cons (look_eq rfl (congrArg Value.bool (decide_eq_true (p := ¬ (pix.length ≤ 600 ∧ vld W H pix.length ∧ dq.length ≤ 300)) (fun h => by have := h.1; omega)).symm)) <| Sub.nil _) rfl hM
  ·
   try simp only [Ya, Yb, Yc, Yd, Ye, Yf] at g20
   refine E.on rfl rfl (E.loadA (cs := [i64 W, i64 H, vp]) rfl Tryz.underlying36 rfl (by kernel_rfl) (hM.bat 0 rfl) rfl ?_)
   refine E.on rfl rfl (E.call rfl rfl (rCheckImage_ret W H vp pix _ (hM.arg0 hp)) ?_)
   rintro _ w1 ⟨rfl, x1⟩
   have hM := hM.ext x1
   try dsimp only [Za, Zb, Zc, Zd, repl] at hM
   refine E.on rfl rfl (E.bin rfl rfl rfl rfl ?_)
   refine E.pick rfl rfl rfl <| E.mv rfl rfl <| ?_
   refine E.split 25 rfl (fun g25 => ?_) (fun g25 => ?_)
   ·
    try simp only [Ya, Yb, Yc, Yd, Ye, Yf] at g25
    have g25' : ¬ vld W H pix.length := fun k => g25 (by rw [if_pos k])

    refine E.off rfl rfl rfl rfl <| E.off rfl rfl rfl rfl <| E.off rfl rfl rfl rfl <| E.pick rfl rfl rfl <| E.nil <| X.join0  (Sub.cons (look_eq rfl (congrArg Value.bool (decide_eq_true (p := ¬ (pix.length ≤ 600 ∧ vld W H pix.length ∧ dq.length ≤ 300)) (fun h => g25' h.2.1)).symm)) <| Sub.nil _) rfl hM
   ·
    try simp only [Ya, Yb, Yc, Yd, Ye, Yf] at g25
    have g25' : vld W H pix.length := Decidable.byContradiction fun k => by rw [if_neg k] at g25; cases g25
    refine E.on rfl rfl (E.mv rfl rfl ?_)
    refine E.on rfl rfl (E.lenv rfl (Rd.shape (hM.arg0 hq)) Tryz.underlying22 rfl ?_)
    refine E.on rfl rfl (E.bin rfl rfl rfl rfl ?_)

    refine E.pick rfl rfl rfl <| E.nil <| X.join0  (Sub.cons (look_eq rfl (congrArg Value.bool (decide_eq_decide.2 ⟨fun h k => by have := k.2.2; omega, fun h => Int.not_le.1 fun k => h ⟨by omega, g25', by omega⟩⟩))) <| Sub.nil _) rfl hM
 rintro  w2 hM
 refine C.cond' rfl (fun hC0 => ?_) (fun hC0 => ?_)
 ·
  refine C.seq <| C.region <| ?_
  refine E.call rfl rfl (example_ret _ (hM.ord0 hO)) ?_
  rintro _ wz ⟨rfl, xz⟩
  have hM := hM.ext xz
  try dsimp only [Za, Zb, Zc, Zd, repl] at hM
  refine E.asg rfl rfl <| E.nil <| X.next <| C.ret <| X.retT <| ret1 rfl rfl ?_
  exact ⟨rfl, hM.toExt⟩
 ·
  obtain ⟨hsm, hv, hdq⟩ := Decidable.not_not.1 hC0
  obtain ⟨v1, v2, v3, v4, v5, v6⟩ := id hv
  obtain ⟨wd, rfl⟩ : ∃ n : Nat, W = (n : Int) := ⟨W.toNat, by omega⟩
  obtain ⟨ht, rfl⟩ : ∃ n : Nat, H = (n : Int) := ⟨H.toNat, by omega⟩
  have hn : pix.length = wd * ht := Int.ofNat.inj (v6.trans (Int.natCast_mul wd ht).symm)
  obtain ⟨s1, s2, s3, s4⟩ := dta_small hn (by omega) (by omega) (by omega)
  obtain ⟨xn, rfl⟩ : ∃ n : Nat, x = (n : Int) := ⟨x.toNat, by omega⟩
  obtain ⟨a, ha⟩ : ∃ a, a = UInt8.ofNat (97 + xn % 26) := ⟨_, rfl⟩
  obtain ⟨b, hb⟩ : ∃ b, b = UInt8.ofNat (65 + xn / 26 % 26) := ⟨_, rfl⟩
  have ha2 : a.toNat = 97 + xn % 26 := by rw [ha]; simp; omega
  have hb2 : b.toNat = 65 + xn / 26 % 26 := by rw [hb]; simp; omega
  obtain ⟨hl4, hcr⟩ := small_let (a := a) (b := b) (by omega) (by omega)
  obtain ⟨F, hF1, hF2⟩ := rdi_more (x := (([a, b] ++ [a, b] : List UInt8), dq)) hn (by omega) (by omega) (by omega) hl4 hcr (by show dq.length ≤ 3000; omega)
  have hrj := rdf_jn (wck_jn (pix := pix) (w := wd) (h := ht) (by omega))
  have hwl := wrv_len (pix := pix) (w := wd) (h := ht) (by omega)
  obtain ⟨hd13, hh13⟩ : ∃ d, d = hdr wd ht (dep pix) := ⟨_, rfl⟩
  have hhl : hd13.length = 13 := by rw [hh13]; rfl
  obtain ⟨Z, hZ⟩ : ∃ Z, Z = Df.wrv (dta pix wd (dep pix) ht) 2 := ⟨_, rfl⟩
  have hwk : wck wd ht pix = [(tH, hd13), (tD, Z), (tE, [])] := by rw [wck, ← hh13, ← hZ]
  rw [hwk] at hrj
  rw [← hZ] at hwl hF1
  rw [← hh13] at hF1
  obtain ⟨xq, rfl⟩ : ∃ x : Hd, q = slv x := by obtain ⟨a, cap, hv, _⟩ := hq; exact ⟨(a, _, cap), hv⟩
  refine C.skip <| X.next <| C.seq <| C.region <| ?_
  refine E.loadA (cs := [i64 (wd : Int), i64 (ht : Int), vp]) rfl Tryz.underlying36 rfl (by kernel_rfl) (hM.bat 0 rfl) rfl ?_
  refine E.call rfl rfl (Write_ret (wd : Int) (ht : Int) vp pix _ (hM.arg0 hp) (by omega) (hM.ord0 hO)) ?_
  rintro _ wq1 ⟨vw, outw, ew, rfl, mw, hw⟩
  have hM := hM.call mw
  obtain ⟨rfl, rfl⟩ : 0 = ew ∧ wri wd ht pix = outw := by
   rcases hw with ⟨_, h1, h2⟩ | ⟨h1, _⟩
   · exact ⟨h1.symm, by rw [h2, Int.toNat_natCast, Int.toNat_natCast]⟩
   · exact (h1 hv).elim
  skip
  try dsimp only [Za, Zb, Zc, Zd, repl] at hM
  refine E.mv rfl rfl <| E.ext rfl rfl rfl <| E.ext rfl rfl rfl <| E.asg rfl rfl <| E.asg rfl rfl <| E.nil <| X.next <| C.seq <| C.region <| E.mv rfl rfl <| ?_
  refine E.call rfl rfl (Chunks_ret vw (wri wd ht pix) _ (hM.sl 1 rfl)) ?_
  rintro _ wc2 ⟨vc2, hs2, cs2, e2, rfl, m2, hv2⟩
  have hM := hM.call m2
  obtain ⟨rfl, rfl⟩ : 0 = e2 ∧ [(tH, hd13), (tD, Z), (tE, [])] = cs2 := by
   rw [hrj] at hv2
   rcases hv2 with ⟨h1, h2⟩ | ⟨_, h2, _⟩
   · cases h2; exact ⟨h1.symm, rfl⟩
   · cases h2
  obtain ⟨h0, h1, h2, rfl⟩ := hd3 (hM.cks 2 3 rfl rfl).len
  try dsimp only [Za, Zb, Zc, Zd, repl] at hM
  refine E.mv rfl rfl <| E.ext rfl rfl rfl <| E.ext rfl rfl rfl <| E.asg rfl rfl <| E.asg rfl rfl <| E.nil <| X.next <| C.seq <| ?_

  refine C.chainE [(1, _), (2, _), (3, _), (9, _)] rfl [(51, .bool (decide False))] ?_ ?_
  ·
   refine C.region <| E.mv rfl rfl <| E.bin rfl rfl rfl rfl <| E.mv rfl rfl <| ?_
   refine E.split 43 rfl (fun g43 => ?_) (fun g43 => ?_)
   ·
    try simp only [Ya, Yb, Yc, Yd, Ye, Yf] at g43
    simp at g43
   ·
    try simp only [Ya, Yb, Yc, Yd, Ye, Yf] at g43
    refine E.on rfl rfl (E.mv rfl rfl ?_)
    refine E.on rfl rfl (E.bin rfl rfl rfl rfl ?_)
    refine E.pick rfl rfl rfl <| E.mv rfl rfl <| ?_
    refine E.split 47 rfl (fun g47 => ?_) (fun g47 => ?_)
    ·
     try simp only [Ya, Yb, Yc, Yd, Ye, Yf] at g47
     simp at g47
    ·
     try simp only [Ya, Yb, Yc, Yd, Ye, Yf] at g47
     refine E.on rfl rfl (E.mv rfl rfl ?_)
     refine E.on rfl rfl (E.lenv rfl (hM.cks 2 3 rfl rfl).shape Tryz.underlying24 rfl ?_)
     refine E.on rfl rfl (E.bin rfl rfl rfl rfl ?_)
     refine E.pick rfl rfl rfl <| E.nil <| X.join0 (Sub.cons (look_eq rfl (congrArg Value.bool (by simp))) <| Sub.nil _) rfl rfl
  refine C.cond' rfl (fun hC1 => ?_) (fun hC1 => ?_)
  ·
   exact hC1.elim
  ·
   refine C.skip <| X.next <| C.seq <| C.region <| E.mv rfl rfl <| ?_
   refine E.rem rfl rfl (by omega) (remN (a := xn) (b := 26)) rfl ?_
   refine E.binw rfl rfl rfl (congrArg _ (IntWalk.u16_in (97 + ((xn % 26 : Nat) : Int)) (by omega))) rfl ?_
   refine E.conv rfl Tryz.underlying44 Tryz.underlying5 (c := (a.toNat : Int)) (by rw [show (97 : Int) + ((xn % 26 : Nat) : Int) = ((97 + xn % 26 : Nat) : Int) by omega, ha]; exact wrap8 _) rfl ?_
   refine E.mv rfl rfl <| ?_
   refine E.quo rfl rfl (by omega) (u16_quo (a := xn) (b := 26) (by omega) (by decide)) rfl ?_
   refine E.rem rfl rfl (by omega) (remN (a := xn / 26) (b := 26)) rfl ?_
   refine E.binw rfl rfl rfl (congrArg _ (IntWalk.u16_in (65 + ((xn / 26 % 26 : Nat) : Int)) (by omega))) rfl ?_
   refine E.conv rfl Tryz.underlying44 Tryz.underlying5 (c := (b.toNat : Int)) (by rw [show (65 : Int) + ((xn / 26 % 26 : Nat) : Int) = ((65 + xn / 26 % 26 : Nat) : Int) by omega, hb]; exact wrap8 _) rfl ?_
   refine E.mkM (enc := u8) (e := 5) [a, b] hM rfl (fun _ => by kernel_rfl) rfl rfl rfl ?_
   intro v61 w6 hM
   try dsimp only [Za, Zb, Zc, Zd, repl] at hM
   refine E.bstr rfl (hM.sl 4 rfl) Tryz.underlying22 Tryz.underlying5 Tryz.underlying9 rfl ?_
   refine E.asg rfl rfl <| E.nil <| X.next <| C.seq <| C.heldE (by kernel_rfl) fun wh7 hwh7 _ => ?_
   have hS := hwh7
   have hM0 := hM
   have hM := M.ofExt hwh7
   refine H.take 0 rfl rfl (by kernel_rfl) (by kernel_rfl) (by kernel_rfl) hS (fun w' hS => by have hM := hM0.ext hS; exact Y.mv rfl) rfl ?_
   refine H.takeV 1 rfl rfl (by kernel_rfl) (by kernel_rfl) (by kernel_rfl) hS (Y.idxF (k := 0) rfl rfl ((hM0.ext hS).cks 2 3 rfl rfl).row rfl (by rw [zc_len ((hM0.ext hS).cks 2 3 rfl rfl).len]; simp) (by decide) Tryz.underlying24 (by kernel_rfl)) (fun w' hS => by have hM := hM0.ext hS; exact Y.idxF (k := 0) rfl rfl (hM.cks 2 3 rfl rfl).row rfl (by rw [zc_len (hM.cks 2 3 rfl rfl).len]; simp) (by decide) Tryz.underlying24 (by kernel_rfl)) rfl ?_
   refine H.take 3 rfl rfl (by kernel_rfl) (by kernel_rfl) (by kernel_rfl) hS (fun w' hS => by have hM := hM0.ext hS; exact Y.mv rfl) rfl ?_
   refine H.take 4 rfl rfl (by kernel_rfl) (by kernel_rfl) (by kernel_rfl) hS (fun w' hS => by have hM := hM0.ext hS; exact Y.mv rfl) rfl ?_
   refine H.take 5 rfl rfl (by kernel_rfl) (by kernel_rfl) (by kernel_rfl) hS (fun w' hS => by have hM := hM0.ext hS; exact Y.addstr (l := [a, b]) (m := [a, b]) rfl rfl ⟨by simp, by simp⟩) rfl ?_
   refine H.take 6 rfl rfl (by kernel_rfl) (by kernel_rfl) (by kernel_rfl) hS (fun w' hS => by have hM := hM0.ext hS; exact Y.mv rfl) rfl ?_
   refine H.take 7 rfl rfl (by kernel_rfl) (by kernel_rfl) (by kernel_rfl) hS (fun w' hS => by have hM := hM0.ext hS; exact Y.buildC (cs := [str ([a, b] ++ [a, b]), slv xq]) [.string .empty, .slice none 0 0] [0, 1] rfl rfl (by kernel_rfl)) rfl ?_
   refine H.take 8 rfl rfl (by kernel_rfl) (by kernel_rfl) (by kernel_rfl) hS (fun w' hS => by have hM := hM0.ext hS; exact Y.mv rfl) rfl ?_
   refine H.takeV 9 rfl rfl (by kernel_rfl) (by kernel_rfl) (by kernel_rfl) hS (Y.idxF (k := 1) rfl rfl ((hM0.ext hS).cks 2 3 rfl rfl).row rfl (by rw [zc_len ((hM0.ext hS).cks 2 3 rfl rfl).len]; simp) (by decide) Tryz.underlying24 (by kernel_rfl)) (fun w' hS => by have hM := hM0.ext hS; exact Y.idxF (k := 1) rfl rfl (hM.cks 2 3 rfl rfl).row rfl (by rw [zc_len (hM.cks 2 3 rfl rfl).len]; simp) (by decide) Tryz.underlying24 (by kernel_rfl)) rfl ?_
   refine H.take 11 rfl rfl (by kernel_rfl) (by kernel_rfl) (by kernel_rfl) hS (fun w' hS => by have hM := hM0.ext hS; exact Y.mv rfl) rfl ?_
   refine H.takeV 12 rfl rfl (by kernel_rfl) (by kernel_rfl) (by kernel_rfl) hS (Y.idxF (k := 2) rfl rfl ((hM0.ext hS).cks 2 3 rfl rfl).row rfl (by rw [zc_len ((hM0.ext hS).cks 2 3 rfl rfl).len]; simp) (by decide) Tryz.underlying24 (by kernel_rfl)) (fun w' hS => by have hM := hM0.ext hS; exact Y.idxF (k := 2) rfl rfl (hM.cks 2 3 rfl rfl).row rfl (by rw [zc_len (hM.cks 2 3 rfl rfl).len]; simp) (by decide) Tryz.underlying24 (by kernel_rfl)) rfl ?_
   refine H.takeV 2 rfl rfl (by kernel_rfl) (by kernel_rfl) (by kernel_rfl) hS (Y.loadA (cs := [str tH, slv h0]) rfl Tryz.underlying46 rfl (by kernel_rfl) (((hM0.ext hS).cks 2 3 rfl rfl).at (i := 0) (by simp))) (fun w' hS => by have hM := hM0.ext hS; exact Y.loadA (cs := [str tH, slv h0]) rfl Tryz.underlying46 rfl (by kernel_rfl) ((hM.cks 2 3 rfl rfl).at (i := 0) (by simp))) rfl ?_
   refine H.takeV 10 rfl rfl (by kernel_rfl) (by kernel_rfl) (by kernel_rfl) hS (Y.loadA (cs := [str tD, slv h1]) rfl Tryz.underlying46 rfl (by kernel_rfl) (((hM0.ext hS).cks 2 3 rfl rfl).at (i := 1) (by simp))) (fun w' hS => by have hM := hM0.ext hS; exact Y.loadA (cs := [str tD, slv h1]) rfl Tryz.underlying46 rfl (by kernel_rfl) ((hM.cks 2 3 rfl rfl).at (i := 1) (by simp))) rfl ?_
   refine H.only 13 rfl (by kernel_rfl) ?_
   refine E.loadA (cs := [str tE, slv h2]) rfl Tryz.underlying46 rfl (by kernel_rfl) (((hM0.ext hM.toExt).cks 2 3 rfl rfl).at (i := 2) (by simp)) rfl ?_
   have hS := hM.toExt
   refine H.back hS ?_
   refine H.only 14 rfl (by kernel_rfl) ?_
   refine E.mkFM (enc := cke) (sz := 2) (e := 46) (zc [(tH, hd13), (([a, b] ++ [a, b]), dq), (tD, Z), (tE, [])] [h0, xq, h1, h2]) hM rfl (fun _ => by kernel_rfl) rfl (by decide) (fun a ha => rfl) rfl ?_
   intro v78 w78 hM
   try dsimp only [Za, Zb, Zc, Zd, repl] at hM
   have hS := hM.toExt
   refine H.back hS ?_
   refine H.only 15 rfl (by kernel_rfl) ?_
   have hck0 := ((hM0.ext hM.toExt).cks 2 3 rfl rfl)
   have hbb : ∀ c ∈ [(tH, hd13), (([a, b] ++ [a, b]), dq), (tD, Z), (tE, ([] : List UInt8))], c.1.length ≤ 1000000 ∧ c.2.length ≤ 4194304 := fun c hc => by
    have : c = (tH, hd13) ∨ c = (([a, b] ++ [a, b]), dq) ∨ c = (tD, Z) ∨ c = (tE, []) := by simpa using hc
    rcases this with rfl | rfl | rfl | rfl
    · exact ⟨by simp [tH], by rw [hhl]; decide⟩
    · exact ⟨by simp, by show dq.length ≤ _; omega⟩
    · exact ⟨by simp [tD], by show Z.length ≤ _; omega⟩
    · exact ⟨by simp [tE], by simp⟩
   refine E.call rfl rfl (Join_ret v78 [h0, xq, h1, h2] [(tH, hd13), (([a, b] ++ [a, b]), dq), (tD, Z), (tE, [])] _ ⟨hM.slF 0 rfl, bag4 (hck0.data (i := 0) (by simp)) ((hM0.ext hM.toExt).arg0 hq) (hck0.data (i := 1) (by simp)) (hck0.data (i := 2) (by simp))⟩ hbb) ?_
   rintro _ wj3 ⟨vj3, out3, f3, rfl, n3, hj3⟩
   have hM := hM.call n3
   obtain ⟨rfl, rfl⟩ : 0 = f3 ∧ F = out3 := by
    rw [hF1] at hj3
    rcases hj3 with ⟨k1, k2⟩ | ⟨_, k2, _⟩
    · cases k2; exact ⟨k1.symm, rfl⟩
    · cases k2
   try dsimp only [Za, Zb, Zc, Zd, repl] at hM
   have hS := hM.toExt
   refine H.back hS ?_
   refine H.take 16 rfl rfl (by kernel_rfl) (by kernel_rfl) (by kernel_rfl) hS (fun w' hS => by have hM := hM0.ext hS; exact Y.mv rfl) rfl ?_
   refine H.take 17 rfl rfl (by kernel_rfl) (by kernel_rfl) (by kernel_rfl) hS (fun w' hS => by have hM := hM0.ext hS; exact Y.ext rfl rfl) rfl ?_
   refine H.take 18 rfl rfl (by kernel_rfl) (by kernel_rfl) (by kernel_rfl) hS (fun w' hS => by have hM := hM0.ext hS; exact Y.ext rfl rfl) rfl ?_
   refine H.take 19 rfl rfl (by kernel_rfl) (by kernel_rfl) (by kernel_rfl) hS (fun w' hS => by have hM := hM0.ext hS; exact Y.asg rfl) rfl ?_
   refine H.take 20 rfl rfl (by kernel_rfl) (by kernel_rfl) (by kernel_rfl) hS (fun w' hS => by have hM := hM0.ext hS; exact Y.asg rfl) rfl ?_
   refine H.done (by kernel_rfl) ?_
   have hM := hM0.call hM
   refine X.next <| C.seq <| C.region <| E.mv rfl rfl <| ?_
   refine E.call rfl rfl (Read_ret vj3 (F) _ (hM.sl 6 rfl) (hM.ord0 hO)) ?_
   rintro _ wr4 ⟨Wr, Hr, vr, pr_, er, rfl, mr, hvr⟩
   have hM := hM.call mr
   obtain ⟨rfl, rfl, rfl, rfl⟩ : 0 = er ∧ (wd : Int) = Wr ∧ (ht : Int) = Hr ∧ pix = pr_ := by
    rw [hF2] at hvr
    rcases hvr with ⟨a, b, h1, h2, h3, h4⟩ | ⟨_, h2, _⟩
    · cases h4; exact ⟨h1.symm, h2.symm, h3.symm, rfl⟩
    · cases h2
   try dsimp only [Za, Zb, Zc, Zd, repl] at hM
   refine E.mv rfl rfl <| E.ext rfl rfl rfl <| E.ext rfl rfl rfl <| ?_
   refine E.allocM (z := .agg #[.int .i64 0, .int .i64 0, .slice none 0 0]) (cs := [.int .i64 0, .int .i64 0, .slice none 0 0]) hM (by kernel_rfl) rfl rfl ?_
   intro b14 w10 hM
   try dsimp only [Za, Zb, Zc, Zd, repl] at hM
   refine E.storeAM 8 (cs := [i64 (wd : Int), i64 (ht : Int), vr]) hM rfl rfl rfl (by kernel_rfl) rfl (ones rfl <| ones rfl <| ones (hM.sl 7 rfl).one <| ones_nil) ?_
   intro w11 hM
   try dsimp only [Za, Zb, Zc, Zd, repl] at hM
   refine E.asg rfl rfl <| E.nil <| X.next <| ?_

   refine C.cut0 [] rfl [(6, .bool true)] (fun w' => M w (Nn) w' []) ?_ ?_
   ·
    refine C.region <| E.mv rfl rfl <| E.bin rfl rfl rfl rfl <| E.mv rfl rfl <| ?_
    refine E.split 89 rfl (fun g89 => ?_) (fun g89 => ?_)
    ·
     try simp only [Ya, Yb, Yc, Yd, Ye, Yf] at g89
     refine E.on rfl rfl (E.mv rfl rfl ?_)
     refine E.on rfl rfl (E.bin rfl rfl rfl rfl ?_)
     refine E.pick rfl rfl rfl <| E.mv rfl rfl <| ?_
     refine E.split 93 rfl (fun g93 => ?_) (fun g93 => ?_)
     ·
      try simp only [Ya, Yb, Yc, Yd, Ye, Yf] at g93
      refine E.on rfl rfl (E.loadA (cs := [i64 (wd : Int), i64 (ht : Int), vr]) rfl Tryz.underlying36 rfl (by kernel_rfl) (hM.bat 8 rfl) rfl ?_)
      refine E.on rfl rfl (E.loadA (cs := [i64 (wd : Int), i64 (ht : Int), vp]) rfl Tryz.underlying36 rfl (by kernel_rfl) (hM.bat 0 rfl) rfl ?_)
      refine E.on rfl rfl (E.call rfl rfl (EqualImage_ret (wd : Int) (ht : Int) vr pix (wd : Int) (ht : Int) vp pix _ (hM.sl 7 rfl) (hM.arg0 hp)) ?_)
      rintro _ w8 ⟨rfl, x8⟩
      have hM := hM.ext x8
      try dsimp only [Za, Zb, Zc, Zd, repl] at hM
      refine E.pick rfl rfl rfl <| E.mv rfl rfl <| ?_
      refine E.split 98 rfl (fun g98 => ?_) (fun g98 => ?_)
      ·
       try simp only [Ya, Yb, Yc, Yd, Ye, Yf] at g98
       refine E.on rfl rfl (E.call rfl rfl (example_ret _ (hM.ord0 hO)) ?_)
       rintro _ wz ⟨rfl, xz⟩
       have hM := hM.ext xz
       try dsimp only [Za, Zb, Zc, Zd, repl] at hM

       refine E.pick rfl rfl rfl <| E.asg rfl rfl <| E.nil <| X.join0  (Sub.cons rfl <| Sub.nil _) rfl (hM.pick [] (by decide))
      ·
       try simp only [Ya, Yb, Yc, Yd, Ye, Yf] at g98
       simp at g98
     ·
      try simp only [Ya, Yb, Yc, Yd, Ye, Yf] at g93
      simp at g93
    ·
     try simp only [Ya, Yb, Yc, Yd, Ye, Yf] at g89
     simp at g89
   rintro  w14 hM
   refine C.ret <| ret1 rfl rfl ?_
   exact ⟨rfl, hM.toExt⟩
end Go.Proofs.YtplbgehpohdmdaaGreatDoor
