/- the reference's Unwrap. -/
import Derived.Test.YtajklleiifhipaaGreatDoorY0
import Derived.Test.YtajklleiifhipaaGreatDoorY3
import Derived.Test.YtajklleiifhipaaGreatDoorY5
import Derived.Test.YtajklleiifhipaaGreatDoorY19
import Derived.Test.YtajklleiifhipaaGreatDoorPg23Y
import Derived.Test.YtajklleiifhipaaGreatDoorPg34Y
set_option linter.unusedSimpArgs false
set_option linter.unusedVariables false
namespace Go.Proofs.YtajklleiifhipaaGreatDoor
open Go.RowKit Sym
theorem bit5 : ∀ a, a < 256 → (a / 32 % 2 = 1 ↔ a &&& 32 ≠ 0) := by decide +kernel
theorem cut_tk9 {α : Type} (n : Nat) (l : List α) : cutL 0 n l = l.take n := rfl
set_option maxHeartbeats 8000000 in
set_option maxRecDepth 8000 in
theorem Unwrap34_ret (p : Value) (l : List UInt8) (x : Int) (w : World) (hp : RdL u8 w p l) :
  Ret Tryz.prog 34 #[p, i64 x] w fun v w' => ∃ (vo : Value) (out : List UInt8) (e : Int), v = .tuple #[vo, i64 e] ∧ M w Nn w' [Rg.sl u8 5 vo out] ∧ UnwV (Df.unw l x) out e := by
 have hM := M.start w
 refine enter Tryz.func34 rfl (by kernel_rfl) Tryz.ntmps34 rfl $ Kb $ Kn rfl $ Kc rfl $ C.seq $ C.chainE [(0, _), (1, _)] rfl [(15, .bool (decide (x < 0 ∨ 16777216 < x)))] ?_ ?_
 ·
  refine C.region $ Km rfl $ Kp rfl $ Km rfl $ E.split 12 rfl (fun g12 => ?_) (fun g12 => ?_)
  ·
   try simp only [Ya, Yb, Yc, Yd, Ye, Yf] at g12
   refine Kq rfl $ Kq rfl $ Kr rfl $ E.nil $ X.join0 (Sub.cons (by exact leaf_t (by omega)) $ Sub.nil _) rfl rfl
  try simp only [Ya, Yb, Yc, Yd, Ye, Yf] at g12
  refine Ko rfl $ Km rfl $ Ko rfl $ Kp rfl $ Kr rfl $ E.nil $ X.join0 (Sub.cons (by exact leaf_d (by omega)) $ Sub.nil _) rfl rfl
 refine C.cond' rfl (fun hC0 => ?_) (fun hC0 => ?_)
 ·
  refine Kb $ Kn rfl $ Kc rfl $ C.ret $ X.retT $ ret2 rfl rfl rfl ?_
  exact ⟨_, [], 3, rfl, (hM.pick [] (by decide)).nil u8 5, .inr ⟨by decide, by unfold Df.unw; rw [if_pos hC0], rfl⟩⟩
 refine Kk $ C.seq $ Kb $ Km rfl $ E.lenv rfl (Rd.shape (hM.arg0 hp)) U22 rfl $ Kp rfl $ Ka $ C.cond' rfl (fun hC1 => ?_) (fun hC1 => ?_)
 ·
  refine Kb $ Kn rfl $ Kc rfl $ C.ret $ X.retT $ ret2 rfl rfl rfl ?_
  exact ⟨_, [], 4, rfl, (hM.pick [] (by decide)).nil u8 5, .inr ⟨by decide, by unfold Df.unw; rw [if_neg hC0, if_pos (by omega)], rfl⟩⟩
 refine Kk $ C.seq $ Kb $ Km rfl $ E.lenv rfl (Rd.shape (hM.arg0 hp)) U22 rfl $ Kp rfl $ Ka $ C.cond' rfl (fun hC2 => ?_) (fun hC2 => ?_)
 ·
  refine Kb $ Kn rfl $ Kc rfl $ C.ret $ X.retT $ ret2 rfl rfl rfl ?_
  exact ⟨_, [], 10, rfl, (hM.pick [] (by decide)).nil u8 5, .inr ⟨by decide, by unfold Df.unw; rw [if_neg hC0, if_neg (by omega), if_pos (by omega)], rfl⟩⟩
 have h2 : 2 ≤ l.length := by omega
 have h4m : l.length ≤ 4194304 := by omega
 obtain ⟨q0, hq0⟩ : ∃ q, q = (l[0]'(by omega)).toNat := ⟨_, rfl⟩
 obtain ⟨q1, hq1⟩ : ∃ q, q = (l[1]'(by omega)).toNat := ⟨_, rfl⟩
 have hb0 : q0 < 256 := by rw [hq0]; exact UInt8.toNat_lt _
 have hb1 : q1 < 256 := by rw [hq1]; exact UInt8.toNat_lt _
 have hg0 : (l.getD 0 0).toNat = q0 := by rw [hq0, gdU (show 0 < l.length by omega)]
 have hg1 : (l.getD 1 0).toNat = q1 := by rw [hq1, gdU (show 1 < l.length by omega)]
 have hu0 : u8 (l[0]'(by omega)) = .int .u8 (q0 : Int) := by unfold u8; rw [hq0]
 have hu1 : u8 (l[1]'(by omega)) = .int .u8 (q1 : Int) := by unfold u8; rw [hq1]
 have h5 := bit5 q1 hb1
 refine Kk $ C.seq $ C.chainQ [(0, _), (1, _)] rfl [(47, .bool (decide (q0 % 16 ≠ 8 ∨ 7 < q0 / 16 ∨ (256 * q0 + q1) % 31 ≠ 0)))] ?_ ?_
 ·
  refine C.drawn (by kernel_rfl) (by kernel_rfl) $ Q.mv rfl rfl $ Q.idx1 (k := 0) rfl rfl (hM.arg0 hp) rfl (by omega) U22 (by kernel_rfl) rfl $ Q.load rfl U5 rfl ((hM.arg0 hp).cellA rfl (by omega)) rfl ?_
  rw [hu0]
  refine Q.rem rfl rfl (by omega) (remN (a := q0) (b := 16)) rfl $ Q.bin rfl rfl rfl rfl $ Q.mv rfl rfl $ Q.split 27 rfl (fun g27 => ?_) (fun g27 => ?_)
  ·
   try simp only [Ya, Yb, Yc, Yd, Ye, Yf] at g27
   refine Q.off rfl rfl rfl rfl $ Q.off rfl rfl rfl rfl $ Q.off rfl rfl rfl rfl $ Q.off rfl rfl rfl rfl $ Q.off rfl rfl rfl rfl $ Q.pick rfl rfl rfl $ Q.mv rfl rfl $ Q.off rfl rfl rfl rfl $ Q.off rfl rfl rfl rfl $ Q.off rfl rfl rfl rfl $ Q.off rfl rfl rfl rfl $ Q.off rfl rfl rfl rfl $ Q.off rfl rfl rfl rfl $ Q.off rfl rfl rfl rfl $ Q.off rfl rfl rfl rfl $ Q.off rfl rfl rfl rfl $ Q.off rfl rfl rfl rfl $ Q.off rfl rfl rfl rfl $ Q.off rfl rfl rfl rfl $ Q.pick rfl rfl rfl $ Q.nil $ fun w0 hx0 => X.join0 (Sub.cons (by exact leaf_t (by omega)) $ Sub.nil _) rfl hx0
  try simp only [Ya, Yb, Yc, Yd, Ye, Yf] at g27
  refine Q.on rfl rfl (Q.mv rfl rfl ?_)
  refine Q.on rfl rfl (Q.idx1 (k := 0) rfl rfl (hM.arg0 hp) rfl (by omega) U22 (by kernel_rfl) rfl ?_)
  refine Q.on rfl rfl (Q.load rfl U5 rfl ((hM.arg0 hp).cellA rfl (by omega)) rfl ?_)
  rw [hu0]
  refine Q.on rfl rfl (Q.quo (c := ((q0 / 16 : Nat) : Int)) rfl rfl (by omega) (by rw [Int.tdiv_eq_ediv_of_nonneg (by omega)]; exact (IntWalk.u8_in _ (by omega)).trans (by omega)) rfl ?_)
  refine Q.on rfl rfl (Q.bin rfl rfl rfl rfl ?_)
  refine Q.pick rfl rfl rfl $ Q.mv rfl rfl $ Q.split 34 rfl (fun g34 => ?_) (fun g34 => ?_)
  ·
   try simp only [Ya, Yb, Yc, Yd, Ye, Yf] at g34
   refine Q.off rfl rfl rfl rfl $ Q.off rfl rfl rfl rfl $ Q.off rfl rfl rfl rfl $ Q.off rfl rfl rfl rfl $ Q.off rfl rfl rfl rfl $ Q.off rfl rfl rfl rfl $ Q.off rfl rfl rfl rfl $ Q.off rfl rfl rfl rfl $ Q.off rfl rfl rfl rfl $ Q.off rfl rfl rfl rfl $ Q.off rfl rfl rfl rfl $ Q.off rfl rfl rfl rfl $ Q.pick rfl rfl rfl $ Q.nil $ fun w1 hx1 => X.join0 (Sub.cons (by exact leaf_t (by omega)) $ Sub.nil _) rfl hx1
  try simp only [Ya, Yb, Yc, Yd, Ye, Yf] at g34
  refine Q.on rfl rfl (Q.mv rfl rfl ?_)
  refine Q.on rfl rfl (Q.idx1 (k := 0) rfl rfl (hM.arg0 hp) rfl (by omega) U22 (by kernel_rfl) rfl ?_)
  refine Q.on rfl rfl (Q.load rfl U5 rfl ((hM.arg0 hp).cellA rfl (by omega)) rfl ?_)
  rw [hu0]
  refine Q.on rfl rfl (Q.conv rfl U5 U3 (IntWalk.i64_in _ (by omega)) rfl ?_)
  refine Q.on rfl rfl (Q.mulN (a := 256) (b := q0) rfl rfl (by omega) rfl ?_)
  refine Q.on rfl rfl (Q.mv rfl rfl ?_)
  refine Q.on rfl rfl (Q.idx1 (k := 1) rfl rfl (hM.arg0 hp) rfl (by omega) U22 (by kernel_rfl) rfl ?_)
  refine Q.on rfl rfl (Q.load rfl U5 rfl ((hM.arg0 hp).cellA rfl (by omega)) rfl ?_)
  rw [hu1]
  refine Q.on rfl rfl (Q.conv rfl U5 U3 (IntWalk.i64_in _ (by omega)) rfl ?_)
  refine Q.on rfl rfl (Q.addN (a := 256 * q0) (b := q1) rfl rfl (by omega) rfl ?_)
  refine Q.on rfl rfl (Q.rem rfl rfl (by omega) (remN (a := 256 * q0 + q1) (b := 31)) rfl ?_)
  refine Q.on rfl rfl (Q.bin rfl rfl rfl rfl ?_)
  refine Q.pick rfl rfl rfl $ Q.nil $ fun w2 hx2 => X.join0 (Sub.cons (by exact leaf_d (by omega)) $ Sub.nil _) rfl hx2
 intro w3 hx3
 have hM := hM.ext hx3
 refine C.cond' rfl (fun hC3 => ?_) (fun hC3 => ?_)
 ·
  refine Kb $ Kn rfl $ Kc rfl $ C.ret $ X.retT $ ret2 rfl rfl rfl ?_
  exact ⟨_, [], 25, rfl, (hM.pick [] (by decide)).nil u8 5, .inr ⟨by decide, by unfold Df.unw; rw [if_neg hC0, if_neg (by omega), if_neg (by omega), hg0, hg1, if_pos hC3], rfl⟩⟩
 refine Kk $ C.seq $ Kb $ Km rfl $ E.get (k := 1) rfl rfl (hM.arg0 hp) rfl (by omega) U22 (by kernel_rfl) U5 rfl rfl rfl ?_
 rw [hu1]
 refine E.quo (c := ((q1 / 32 : Nat) : Int)) rfl rfl (by omega) (by rw [Int.tdiv_eq_ediv_of_nonneg (by omega)]; exact (IntWalk.u8_in _ (by omega)).trans (by omega)) rfl $ E.rem rfl rfl (by omega) (remN (a := q1 / 32) (b := 2)) rfl $ Kp rfl $ Ka $ C.cond' rfl (fun hC4 => ?_) (fun hC4 => ?_)
 ·
  refine Kb $ Kn rfl $ Kc rfl $ C.ret $ X.retT $ ret2 rfl rfl rfl ?_
  exact ⟨_, [], 9, rfl, (hM.pick [] (by decide)).nil u8 5, .inr ⟨by decide, by unfold Df.unw; rw [if_neg hC0, if_neg (by omega), if_neg (by omega), hg0, hg1, if_neg hC3, if_pos (h5.1 (by omega))], rfl⟩⟩
 have hun : Df.unw l x = match Df.inf (l.drop 2) x with
   | .error e => .error e
   | .ok (out, a) => if (l.drop (2 + (a + 7) / 8)).length < 4 then .error 10 else if Df.ad4 out ≠ (l.drop (2 + (a + 7) / 8)).take 4 then .error 26 else if 4 < (l.drop (2 + (a + 7) / 8)).length then .error 11 else .ok out := by
  unfold Df.unw
  rw [if_neg hC0, if_neg (by omega), if_neg (by omega), hg0, hg1, if_neg hC3, if_neg (fun q => by have := h5.2 q; omega)]; rfl
 have hdl : (l.drop 2).length = l.length - 2 := List.length_drop
 refine Kk $ Kb $ Km rfl $ E.slcP (k' := .i64) 2 l.length rfl (.inl rfl) (.inr ⟨rfl, rfl⟩) (hM.arg0 hp) U22 (by kernel_rfl) (by omega) (by omega) rfl $ Km rfl $ E.call rfl rfl (Inflate34_ret (partV p 2 l.length) (l.drop 2) x _ (by have := (hM.arg0 hp).partV (a := 2) (b := l.length) (by omega) (by omega); rw [cut_drop] at this; exact this)) ?_
 rintro _ w2 ⟨v57, out, n, e, rfl, m, hv⟩
 have hM := hM.call m
 try dsimp only [Za, Zb, Zc, Zd, repl] at hM
 try dsimp only [Za, Zb, Zc, Zd, repl] at hM
 refine Km rfl $ E.ext rfl rfl rfl $ E.ext rfl rfl rfl $ E.ext rfl rfl rfl $ Kn rfl $ Kn rfl $ Kc rfl $ C.seq $ Kb $ Km rfl $ Kp rfl $ Ka $ C.cond' rfl (fun hC5 => ?_) (fun hC5 => ?_)
 ·
  obtain ⟨_, hv, _⟩ := hv.resolve_left (fun h => hC5 h.1)
  refine Kb $ Km rfl $ Kn rfl $ Kc rfl $ C.ret $ X.retT $ ret2 rfl rfl rfl ?_
  exact ⟨_, [], e, rfl, (hM.pick [] (by decide)).nil u8 5, .inr ⟨hC5, by rw [hun, hv], rfl⟩⟩
 obtain ⟨_, a, hv, hn, ha⟩ := hv.resolve_right (fun h => hC5 h.1)
 rw [hv] at hun
 simp only at hun
 rw [← hn] at hun
 have hn2 : 2 + n ≤ l.length := by omega
 have hrl : (l.drop (2 + n)).length = l.length - (2 + n) := List.length_drop
 refine Kk $ Kb $ Kf rfl $ E.addN (a := 2) (b := n) rfl rfl (by omega) rfl $ E.slcP (k' := .i64) (2 + n) l.length rfl (.inl rfl) (.inr ⟨rfl, rfl⟩) (hM.arg0 hp) U22 (by kernel_rfl) (by omega) (by omega) rfl ?_
 have hcr := (hM.arg0 hp).partV (a := 2 + n) (b := l.length) (by omega) (by omega)
 rw [cut_drop] at hcr
 refine Kc rfl $ C.seq $ Kb $ Km rfl $ E.lenv rfl (Rd.shape hcr) U22 rfl ?_
 rw [hrl]
 refine Kp rfl $ Ka $ C.cond' rfl (fun hC6 => ?_) (fun hC6 => ?_)
 ·
  refine Kb $ Kn rfl $ Kc rfl $ C.ret $ X.retT $ ret2 rfl rfl rfl ?_
  exact ⟨_, [], 10, rfl, (hM.pick [] (by decide)).nil u8 5, .inr ⟨by decide, by rw [hun, if_pos (by omega)], rfl⟩⟩
 rw [if_neg (by omega)] at hun
 obtain ⟨r4, hr4⟩ : ∃ r, r = (l.drop (2 + n)).take 4 := ⟨_, rfl⟩
 have hr4l : r4.length = 4 := by rw [hr4, List.length_take, hrl]; omega
 rw [← hr4] at hun
 have h4r := hcr.partV (a := 0) (b := 4) (by omega) (by omega)
 rw [cut_tk9, ← hr4] at h4r
 refine Kk $ C.seq $ C.seq $ C.heldE (by kernel_rfl) fun wh5 hwh5 _ => ?_
 have hS := hwh5
 have hM0 := hM
 have hM := M.ofExt hwh5
 refine Kt 0 rfl (by kernel_rfl) hS (fun w' hS => by have hM := hM0.ext hS; exact Y.mv rfl) rfl $ Ku 1 rfl (by kernel_rfl) hS (Y.slcP (k := .i64) 0 4 rfl (.inr ⟨rfl, rfl⟩) (.inl rfl) (hcr.ext hS) U22 (by kernel_rfl) (by omega) (by omega)) (fun w' hS => by have hM := hM0.ext hS; exact Y.slcP (k := .i64) 0 4 rfl (.inr ⟨rfl, rfl⟩) (.inl rfl) (hcr.ext hS) U22 (by kernel_rfl) (by omega) (by omega)) rfl $ Kt 3 rfl (by kernel_rfl) hS (fun w' hS => by have hM := hM0.ext hS; exact Y.mv rfl) rfl $ Ku 2 rfl (by kernel_rfl) hS (Y.bstr rfl (h4r.ext hS) U22 U5 U9) (fun w' hS => by have hM := hM0.ext hS; exact Y.bstr rfl (h4r.ext hS) U22 U5 U9) rfl $ H.only 4 rfl (by kernel_rfl) $ E.call rfl rfl (q35Adler_ret v57 out _ ((hM0.ext hS).sl 0 rfl)) ?_
 rintro _ w6 ⟨rfl, x6⟩
 have hM := hM.ext x6
 try dsimp only [Za, Zb, Zc, Zd, repl] at hM
 have hS := hM.toExt
 refine H.back hS $ H.only 5 rfl (by kernel_rfl) $ E.call rfl rfl (four34_ret (Adler.sum out) _ (adl_lt out)) ?_
 rintro v77 w7 m7
 have hM := hM.call m7
 try dsimp only [Za, Zb, Zc, Zd, repl] at hM
 try dsimp only [Za, Zb, Zc, Zd, repl] at hM
 have hS := hM.toExt
 refine H.back hS $ H.only 6 rfl (by kernel_rfl) $ E.bstr rfl (hM.sl 0 rfl) U22 U5 U9 rfl ?_
 have hS := hM.toExt
 refine H.back hS $ Kt 7 rfl (by kernel_rfl) hS (fun w' hS => by have hM := hM0.ext hS; exact Y.nestr rfl rfl) rfl $ H.done (by kernel_rfl) ?_
 have hM := hM0.call hM
 refine X.next $ C.cond' rfl (fun hC7 => ?_) (fun hC7 => ?_)
 ·
  refine Kb $ Kn rfl $ Kc rfl $ C.ret $ X.retT $ ret2 rfl rfl rfl ?_
  exact ⟨_, [], 26, rfl, (hM.pick [] (by decide)).nil u8 5, .inr ⟨by decide, by rw [hun, if_pos (fun q => hC7 q.symm)], rfl⟩⟩
 have he : Df.ad4 out = r4 := (Decidable.not_not.1 hC7).symm
 refine Kk $ C.seq $ Kb $ Km rfl $ E.lenv rfl (Rd.shape hcr) U22 rfl ?_
 rw [hrl]
 refine Kp rfl $ Ka $ C.cond' rfl (fun hC8 => ?_) (fun hC8 => ?_)
 ·
  refine Kb $ Kn rfl $ Kc rfl $ C.ret $ X.retT $ ret2 rfl rfl rfl ?_
  exact ⟨_, [], 11, rfl, (hM.pick [] (by decide)).nil u8 5, .inr ⟨by decide, by rw [hun, if_neg (fun q => q he), if_pos (by omega)], rfl⟩⟩
 refine Kk $ Kb $ Km rfl $ Kn rfl $ Kc rfl $ C.ret $ ret2 rfl rfl rfl ?_
 exact ⟨v57, out, 0, rfl, hM.pick [0] (by decide), .inl ⟨rfl, by rw [hun, if_neg (fun q => q he), if_neg (by omega)]⟩⟩
end Go.Proofs.YtajklleiifhipaaGreatDoor
