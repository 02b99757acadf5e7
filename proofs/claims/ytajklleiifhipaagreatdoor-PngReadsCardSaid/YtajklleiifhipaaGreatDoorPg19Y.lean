/- chapter 35: the reference's Chunks. -/
import Derived.Test.YtajklleiifhipaaGreatDoorY0
import Derived.Test.YtajklleiifhipaaGreatDoorY5
import Derived.Test.YtajklleiifhipaaGreatDoorPg18Y
set_option linter.unusedSimpArgs false
set_option linter.unusedVariables false
namespace Go.Proofs.YtajklleiifhipaaGreatDoor
open Go.RowKit Sym
open Pg
set_option maxHeartbeats 2000000 in
theorem Chunks35_ret (p : Value) (l : List UInt8) (w : World) (hl : RdL u8 w p l) :
  Ret Tryz.prog 31 #[p] w fun v w' => ∃ (vo : Value) (hs : List Hd) (cs : List Ck) (e : Int), v = .tuple #[vo, i64 e] ∧ M w Nn w' (ChR vo hs cs) ∧ ChsV (rdf l) cs e := by
 have hM := M.start w
 refine enter Tryz.func31 rfl (by kernel_rfl) Tryz.ntmps31 rfl $ Kb $ Kn rfl $ Kc rfl $ C.seq $ Kb $ Km rfl $ E.lenv rfl (Rd.shape (hM.arg0 hl)) U22 rfl $ Kp rfl $ Ka $ C.cond' rfl (fun hC0 => ?_) (fun hC0 => ?_)
 ·
  refine Kb $ Kn rfl $ Kc rfl $ C.ret $ X.retT $ ret2 rfl rfl rfl ?_
  exact ⟨nilS, [], [], 4, rfl, ((hM.pick [] (by decide)).nilF cke 2 39).bagNil, .inr ⟨by decide, by rw [rdf, if_pos (by omega)], rfl⟩⟩
 refine Kk $ C.seq $ C.chainE [(0, _)] rfl [(20, .bool (decide (l.take 8 ≠ sig)))] ?_ ?_
 ·
  refine C.region $ Km rfl $ E.lenv rfl (Rd.shape (hM.arg0 hl)) U22 rfl $ Kp rfl $ Km rfl $ E.split 15 rfl (fun g15 => ?_) (fun g15 => ?_)
  ·
   try simp only [Ya, Yb, Yc, Yd, Ye, Yf] at g15
   refine Kq rfl $ Kq rfl $ Kq rfl $ Kq rfl $ Kr rfl $ E.nil $ X.join0 (Sub.cons (look_eq rfl (congrArg Value.bool (by exact (decide_eq_true (p := l.take 8 ≠ sig) (fun h => by have := congrArg List.length h; rw [List.length_take, show sig.length = 8 from rfl] at this; omega)).symm))) $ Sub.nil _) rfl rfl
  try simp only [Ya, Yb, Yc, Yd, Ye, Yf] at g15
  refine Ko rfl $ Km rfl $ Ko rfl $ E.slcP (k := .i64) 0 8 rfl (.inr ⟨rfl, rfl⟩) (.inl rfl) (hM.arg0 hl) U22 (by kernel_rfl) (by omega) (by omega) rfl $ Ko rfl $ E.bstr rfl (by have := (hM.arg0 hl).partV (a := 0) (b := 8) (by omega) (by omega); rw [cut_tk] at this; exact this) U22 U5 U9 rfl $ Ko rfl $ E.nestr (l := l.take 8) (m := sig) rfl rfl rfl $ Kr rfl $ E.nil $ X.join0 (Sub.cons (look_eq rfl (congrArg Value.bool (by rfl))) $ Sub.nil _) rfl rfl
 refine C.cond' rfl (fun hC1 => ?_) (fun hC1 => ?_)
 ·
  refine Kb $ Kn rfl $ Kc rfl $ C.ret $ X.retT $ ret2 rfl rfl rfl ?_
  exact ⟨nilS, [], [], 25, rfl, ((hM.pick [] (by decide)).nilF cke 2 39).bagNil, .inr ⟨by decide, by rw [rdf, if_neg (by omega), if_pos hC1], rfl⟩⟩
 have h8 : 8 ≤ l.length := by
  have := congrArg List.length (Decidable.not_not.1 hC1)
  rw [List.length_take, show sig.length = 8 from rfl] at this; omega
 have hrd : rdf l = chs 1024 (l.drop 8) := by rw [rdf, if_neg (by omega), if_neg hC1]
 refine Kk $ Kb $ Kd rfl $ Kc rfl $ C.block $ ?_
 have hM := (hM.nilF cke 2 39).bagNil
 try dsimp only [List.nil_append, List.cons_append] at hM
 refine C.loop4 [(0, _)] rfl (fun (v4 : Value) (hs : (List Hd)) (done : (List Ck)) (a : Nat) => [(4, v4), (5, i64 a)]) (fun (v4 : Value) (hs : (List Hd)) (done : (List Ck)) (a : Nat) w' => M w (Nn) w' (ChR v4 hs done) ∧ a ≤ l.length ∧ done.length ≤ 1024 ∧ rdf l = pre done (chs (1024 - done.length) (l.drop a))) (fun (v4 : Value) (hs : (List Hd)) (done : (List Ck)) (a : Nat) => 1024 - done.length) nilS [] [] 8 ?_ ?_ ?_
 · exact Sub.cons rfl $ S1 rfl
 · exact ⟨hM, h8, by simp, by rw [pre_nil]; exact hrd⟩
 rintro v4 hs done a w0 ⟨hM, ha, hdl, hI⟩
 have hbl : hs.length = done.length := by have := (hM.bag 1 rfl).1; rw [List.length_map] at this; exact this
 refine C.block $ C.seq $ Kb $ Km rfl $ E.lenv rfl (RdF.shape (hM.slF 0 rfl)) U35 rfl ?_
 rw [zc_len hbl]
 refine Kp rfl $ Ka $ C.cond' rfl (fun hC2 => ?_) (fun hC2 => ?_)
 ·
  refine Kb $ Kn rfl $ Kc rfl $ C.ret $ X.retT $ X.retB $ X.retT $ X.retB $ ret2 rfl rfl rfl ?_
  exact ⟨nilS, [], [], 4, rfl, ((hM.pick [] (by decide)).nilF cke 2 39).bagNil, .inr ⟨by decide, by rw [hI, show 1024 - done.length = 0 by omega]; rfl, rfl⟩⟩
 obtain ⟨n, hn⟩ : ∃ n, 1024 - done.length = n + 1 := ⟨1024 - done.length - 1, by omega⟩
 rw [hn] at hI
 have hrl : (l.drop a).length = l.length - a := List.length_drop
 refine Kk $ C.seq $ Kb $ Km rfl $ E.lenv rfl (Rd.shape (hM.arg0 hl)) U22 rfl $ Km rfl $ E.sub' rfl rfl (by omega) rfl $ Kp rfl $ Ka $ C.cond' rfl (fun hC3 => ?_) (fun hC3 => ?_)
 ·
  refine Kb $ Kn rfl $ Kc rfl $ C.ret $ X.retT $ X.retB $ X.retT $ X.retB $ ret2 rfl rfl rfl ?_
  exact ⟨nilS, [], [], 10, rfl, ((hM.pick [] (by decide)).nilF cke 2 39).bagNil, .inr ⟨by decide, by rw [hI, chs_e (by rw [hd, if_pos (by omega)])]; rfl, rfl⟩⟩
 have hd4 := Jn.dec4_lt (l.drop a)
 have r31 := hl.partV (a := a) (b := l.length) (by omega) (by omega)
 rw [cut_all] at r31
 have r38 := hl.partV (a := a + 4) (b := a + 8) (by omega) (by omega)
 rw [show cutL (a + 4) (a + 8) l = (((l.drop a).drop 4).take 4) from cut_off a 4 8 l] at r38
 refine Kk $ C.seq $ C.drawn (by kernel_rfl) (by kernel_rfl) $ Q.mv rfl rfl $ Q.mv rfl rfl $ Q.slcP (k' := .i64) (a) l.length rfl (.inl rfl) (.inr ⟨rfl, rfl⟩) (hM.arg0 hl) U22 (by kernel_rfl) (by omega) (by omega) rfl $ Q.call (v := i64 ((Jn.dec4 (l.drop a)) : Int)) rfl rfl (fun w' hw' => n35_ret _ _ w' ((hM.arg0 r31).ext hw') (by omega)) $ Q.mv rfl rfl $ Q.mv rfl rfl $ Q.addN (a := a) (b := 4) rfl rfl (by omega) rfl $ Q.mv rfl rfl $ Q.addN (a := a) (b := 8) rfl rfl (by omega) rfl $ Q.slcP (a + 4) (a + 8) rfl (.inl rfl) (.inl rfl) (hM.arg0 hl) U22 (by kernel_rfl) (by omega) (by omega) rfl $ Q.bstr rfl (hM.arg0 r38) U22 U5 U9 rfl $ Q.asg rfl rfl $ Q.asg rfl rfl $ Q.nil $ fun w1 hx1 => ?_
 have hM := hM.ext hx1
 refine X.next $ C.seq $ Kb $ Km rfl $ E.call rfl rfl (let35_ret (((l.drop a).drop 4).take 4) _ (by rw [List.length_take]; omega)) ?_
 rintro _ w3 ⟨rfl, x3⟩
 have hM := hM.ext x3
 try dsimp only [Za, Zb, Zc, Zd, repl] at hM
 refine E.not rfl rfl $ Ka $ C.cond rfl (fun hC4 => ?_) (fun hC4 => ?_)
 ·
  have hk4 : ¬ let4 (((l.drop a).drop 4).take 4) := by simpa using hC4
  refine Kb $ Kn rfl $ Kc rfl $ C.ret $ X.retT $ X.retB $ X.retT $ X.retB $ ret2 rfl rfl rfl ?_
  exact ⟨nilS, [], [], 9, rfl, ((hM.pick [] (by decide)).nilF cke 2 39).bagNil, .inr ⟨by decide, by rw [hI, chs_e (by rw [hd, if_neg (by omega), if_pos hk4])]; rfl, rfl⟩⟩
 have hk4 : let4 (((l.drop a).drop 4).take 4) := by simpa using hC4
 refine Kk $ C.seq $ Kb $ Kf rfl $ E.lenv rfl (Rd.shape (hM.arg0 hl)) U22 rfl $ Km rfl $ E.sub' rfl rfl (by omega) rfl $ E.sub' rfl rfl (by omega) rfl $ Kp rfl $ Ka $ C.cond' rfl (fun hC5 => ?_) (fun hC5 => ?_)
 ·
  refine Kb $ Kn rfl $ Kc rfl $ C.ret $ X.retT $ X.retB $ X.retT $ X.retB $ ret2 rfl rfl rfl ?_
  exact ⟨nilS, [], [], 10, rfl, ((hM.pick [] (by decide)).nilF cke 2 39).bagNil, .inr ⟨by decide, by rw [hI, chs_e (by rw [hd, if_neg (by omega), if_neg (Decidable.not_not.2 hk4), if_pos (by omega)])]; rfl, rfl⟩⟩
 have r57 := hl.partV (a := a + 4) (b := a + 8 + (Jn.dec4 (l.drop a))) (by omega) (by omega)
 rw [show cutL (a + 4) (a + 8 + (Jn.dec4 (l.drop a))) l = (((l.drop a).drop 4).take ((Jn.dec4 (l.drop a)) + 4)) from by rw [Nat.add_assoc a 8, cut_off, show 8 + (Jn.dec4 (l.drop a)) - 4 = (Jn.dec4 (l.drop a)) + 4 by omega]] at r57
 have r64 := hl.partV (a := a + 8 + (Jn.dec4 (l.drop a))) (b := l.length) (by omega) (by omega)
 rw [cut_all, show l.drop (a + 8 + (Jn.dec4 (l.drop a))) = (l.drop a).drop (8 + (Jn.dec4 (l.drop a))) from by rw [List.drop_drop, Nat.add_assoc]] at r64
 have r76 := hl.partV (a := a + 8) (b := a + 8 + (Jn.dec4 (l.drop a))) (by omega) (by omega)
 rw [show cutL (a + 8) (a + 8 + (Jn.dec4 (l.drop a))) l = ((l.drop a).drop 8).take (Jn.dec4 (l.drop a)) from by rw [Nat.add_assoc a 8, cut_off, show 8 + (Jn.dec4 (l.drop a)) - 8 = (Jn.dec4 (l.drop a)) by omega]] at r76
 have hcr := Jn.crcN_lt (((l.drop a).drop 4).take ((Jn.dec4 (l.drop a)) + 4))
 have hdr := Jn.dec4_lt ((l.drop a).drop (8 + (Jn.dec4 (l.drop a))))
 refine Kk $ C.seq $ C.seq $ C.drawn (by kernel_rfl) (by kernel_rfl) $ Q.mv rfl rfl $ Q.mv rfl rfl $ Q.addN (a := a) (b := 4) rfl rfl (by omega) rfl $ Q.mv rfl rfl $ Q.addN (a := a) (b := 8) rfl rfl (by omega) rfl $ Q.mv rfl rfl $ Q.addN (a := a + 8) (b := (Jn.dec4 (l.drop a))) rfl rfl (by omega) rfl $ Q.slcP (a + 4) (a + 8 + (Jn.dec4 (l.drop a))) rfl (.inl rfl) (.inl rfl) (hM.arg0 hl) U22 (by kernel_rfl) (by omega) (by omega) rfl $ Q.call (v := u32 (Crc.crc (((l.drop a).drop 4).take ((Jn.dec4 (l.drop a)) + 4)))) rfl rfl (fun w' hw' => q35CRC32_ret _ _ w' ((hM.arg0 r57).ext hw')) ?_
 rw [crc_u32]
 refine Q.mv rfl rfl $ Q.mv rfl rfl $ Q.addN (a := a) (b := 8) rfl rfl (by omega) rfl $ Q.mv rfl rfl $ Q.addN (a := a + 8) (b := (Jn.dec4 (l.drop a))) rfl rfl (by omega) rfl $ Q.slcP (k' := .i64) (a + 8 + (Jn.dec4 (l.drop a))) l.length rfl (.inl rfl) (.inr ⟨rfl, rfl⟩) (hM.arg0 hl) U22 (by kernel_rfl) (by omega) (by omega) rfl $ Q.call (v := i64 (Jn.dec4 ((l.drop a).drop (8 + (Jn.dec4 (l.drop a)))) : Int)) rfl rfl (fun w' hw' => n35_ret _ _ w' ((hM.arg0 r64).ext hw') (by rw [List.length_drop]; omega)) $ Q.conv rfl U3 U58 (IntWalk.u32_in _ (by omega)) rfl $ Q.bin rfl rfl rfl rfl $ Q.nil $ fun w3 hx3 => ?_
 have hM := hM.ext hx3
 refine X.next $ C.cond' rfl (fun hC6 => ?_) (fun hC6 => ?_)
 ·
  refine Kb $ Kn rfl $ Kc rfl $ C.ret $ X.retT $ X.retB $ X.retT $ X.retB $ ret2 rfl rfl rfl ?_
  exact ⟨nilS, [], [], 26, rfl, ((hM.pick [] (by decide)).nilF cke 2 39).bagNil, .inr ⟨by decide, by rw [hI, chs_e (by rw [hd, if_neg (by omega), if_neg (Decidable.not_not.2 hk4), if_neg (by omega), if_pos (by omega)])]; rfl, rfl⟩⟩
 obtain ⟨c, hh, hc1, hc2⟩ : ∃ c : Ck, hd (l.drop a) = .ok c ∧ c.1 = (((l.drop a).drop 4).take 4) ∧ c.2 = ((l.drop a).drop 8).take (Jn.dec4 (l.drop a)) := ⟨(_, _), by rw [hd, if_neg (by omega), if_neg (Decidable.not_not.2 hk4), if_neg (by omega), if_neg (by omega)], rfl, rfl⟩
 obtain ⟨_, _, hc3, hc4⟩ := hd_len hh
 have hzl := zc_len hbl
 rw [← hc1]
 rw [← hc2] at r76
 have hdd : (l.drop a).drop (12 + c.2.length) = l.drop (a + 12 + (Jn.dec4 (l.drop a))) := by rw [List.drop_drop, hc3, Nat.add_assoc]
 have hde : (l.drop (a + 12 + (Jn.dec4 (l.drop a)))).length = l.length - (a + 12 + (Jn.dec4 (l.drop a))) := List.length_drop
 have hM := hM.nil u8 5
 try dsimp only [List.nil_append, List.cons_append] at hM
 refine Kk $ Kb $ Kd rfl $ Kf rfl $ Km rfl $ E.addN (a := a) (b := 8) rfl rfl (by omega) rfl $ Km rfl $ E.addN (a := a) (b := 8) rfl rfl (by omega) rfl $ Km rfl $ E.addN (a := a + 8) (b := (Jn.dec4 (l.drop a))) rfl rfl (by omega) rfl $ E.slcP (a + 8) (a + 8 + (Jn.dec4 (l.drop a))) rfl (.inl rfl) (.inl rfl) (hM.arg0 hl) U22 (by kernel_rfl) (by omega) (by omega) rfl $ E.appendM 2 hM rfl rfl rfl U22 elem_Tuint8 (hM.arg0 r76) (fun _ => rfl) (by rw [List.length_nil]; omega) (by rw [List.length_nil]; omega) rfl ?_
 intro v77 w4 hM
 try dsimp only [Za, Zb, Zc, Zd, repl] at hM
 obtain ⟨x77, rfl⟩ := own_head (hM.own 2 rfl)
 refine Kd rfl $ Kf rfl $ Km rfl $ E.buildC (cs := [_, _]) [.string .empty, .slice none 0 0] [0, 1] rfl rfl (by kernel_rfl) rfl $ E.pushFM 0 (c.1, x77) hM rfl rfl rfl U35 elem_Tapi_Chunk rfl (by decide) (ones rfl $ ones rfl $ ones_nil) (by omega) (by omega) (by simp) rfl rfl ?_
 intro v83 u83 w5 hM
 try dsimp only [Za, Zb, Zc, Zd, repl] at hM
 rw [zc_push hbl] at hM
 have hM := hM.bagPush 1 2 (by decide) rfl rfl
 try dsimp only [List.set_cons_zero, List.set_cons_succ] at hM
 rw [show done.map (·.2) ++ [c.2] = (done ++ [c]).map (·.2) from by simp] at hM
 refine Kd rfl $ Km rfl $ E.addN (a := a) (b := 12) rfl rfl (by omega) rfl $ Km rfl $ E.addN (a := a + 12) (b := (Jn.dec4 (l.drop a))) rfl rfl (by omega) rfl $ Kd rfl $ Km rfl $ E.eqstr (l := c.1) (m := tE) rfl rfl rfl $ Ka $ C.cond' rfl (fun hC7 => ?_) (fun hC7 => ?_)
 ·
  refine C.seq $ Kb $ Km rfl $ Kp rfl $ Ka $ C.cond' rfl (fun hC8 => ?_) (fun hC8 => ?_)
  ·
   refine Kb $ Kn rfl $ Kc rfl $ C.ret $ X.retT $ X.retB $ X.retT $ X.retB $ ret2 rfl rfl rfl ?_
   exact ⟨nilS, [], [], 9, rfl, ((hM.pick [] (by decide)).nilF cke 2 39).bagNil, .inr ⟨by decide, by rw [hI, chs_end1 hh hC7 (ne_len (by omega))]; rfl, rfl⟩⟩
  refine Kk $ C.seq $ Kb $ Kf rfl $ E.lenv rfl (Rd.shape (hM.arg0 hl)) U22 rfl $ Kp rfl $ Ka $ C.cond' rfl (fun hC9 => ?_) (fun hC9 => ?_)
  ·
   refine Kb $ Kn rfl $ Kc rfl $ C.ret $ X.retT $ X.retB $ X.retT $ X.retB $ ret2 rfl rfl rfl ?_
   exact ⟨nilS, [], [], 11, rfl, ((hM.pick [] (by decide)).nilF cke 2 39).bagNil, .inr ⟨by decide, by rw [hI, chs_end2 hh hC7 (eq_len (by omega)) (ne_len (by rw [hdd]; omega))]; rfl, rfl⟩⟩
  refine Kk $ Kb $ Km rfl $ Kn rfl $ Kc rfl $ C.ret $ X.retB $ X.retT $ X.retB $ ret2 rfl rfl rfl ?_
  exact ⟨_, hs ++ [x77], done ++ [c], 0, rfl, hM.pick [0, 1] (by decide), .inl ⟨rfl, by rw [hI, chs_end3 hh hC7 (eq_len (by omega)) (eq_len (by rw [hdd]; omega))]; rfl⟩⟩
 refine C.skip $ X.outN $ X.again4 _ (hs ++ [x77]) (done ++ [c]) (a + 12 + (Jn.dec4 (l.drop a))) (Sub.cons rfl $ S1 rfl) rfl ⟨hM.pick [0, 1] (by decide), by omega, by rw [List.length_append, List.length_singleton]; omega, by rw [hI, chs_go hh hC7, List.length_append, List.length_singleton, show 1024 - (done.length + 1) = n by omega, hdd]⟩ (by rw [List.length_append, List.length_singleton]; omega)
end Go.Proofs.YtajklleiifhipaaGreatDoor
