/- Texts of the claim, laid together: Df26, PgI, PgL. -/
import Derived.Laws.Cover3
import Derived.Stop.BytesEq
import Derived.Test.YtajklleiifhipaaGreatDoorY0
import Derived.Test.YtajklleiifhipaaGreatDoorY3
import Derived.Test.YtajklleiifhipaaGreatDoorY5
import Derived.Test.YtajklleiifhipaaGreatDoorY11
import Derived.Test.YtajklleiifhipaaGreatDoorY13
import Derived.Test.YtajklleiifhipaaGreatDoorY18
set_option linter.unusedSimpArgs false
set_option linter.unusedVariables false
namespace Go.Proofs.YtajklleiifhipaaGreatDoor
open Go.RowKit Sym
namespace Sym
section
variable {P : Program} {ops : Array Oper} {Q : Exit → Act → World → Prop} {s : St} {env : Env} {w w0 : World} {S : Nat → Prop} {rs : List Rg} {rest : List Oper} {d : Nat} {ty : TypeId} {pos : String} {aft : Array Edge}
theorem E.arrAt {t e : TypeId} {n m : Nat} {x : Operand} {v : Value} {ad : Addr} (hx : ev env x = some v) (hv : ∃ cap, v = .slice (some ad) m cap) (ht : P.underlying t = some (.array n e)) (hn : n ≤ m) (hd : Nat.blt d s.n = true)
  (h : wpE P ops Q s rest ((d, .pointer (some ad)) :: env) w) : wpE P ops Q s (⟨some d, .sliceToArrayPointer t x, ty, pos, aft, none⟩ :: rest) env w := by
 obtain ⟨cap, rfl⟩ := hv
 refine E.op (fun a ha => ?_) hd h
 have := run_arrayAt (P := P) (w := w) t e n (some ad) m cap ht hn
 simp [execOp, ha.ev hx, this]
theorem Y.neB {t t2 e : TypeId} {n : Nat} {x y : Operand} (xs ys : List UInt8) (hx : ev env x = some (.agg (xs.map u8).toArray)) (hy : ev env y = some (.agg (ys.map u8).toArray)) (ht : P.underlying t = some (.array n e)) (he : P.underlying e = some (.int .u8)) (hsz : (P.info? e).map (·.size) = some 1) (hg : P.eqGuardType P.depth t = false) (h1 : xs.length = n) (h2 : ys.length = n) : Yld P ops s env w ⟨some d, .binOp .neq t x y t2, ty, pos, aft, none⟩ (.bool (decide (xs ≠ ys))) := by
 have hs' : ∀ w, (sizeOf e).run P w = .ok 1 w := fun w => by
  obtain ⟨i, hi, hs'⟩ := Option.map_eq_some_iff.1 hsz
  simp [sizeOf, typeInfo, hi, hs']
 have h3 := run_equalIn_bytes (P := P) w 9998 t e n ht he hs' xs ys h1 h2
 have h4 : (Op.equalIn 10000 t (.agg (xs.map u8).toArray) (.agg (ys.map u8).toArray)).run P w = .ok (xs == ys) w := h3
 have e1 : (!(xs == ys)) = decide (xs ≠ ys) := by by_cases h : xs = ys <;> simp [h]
 refine Yld.of (fun a ha => ?_)
 have : (do eqGuard .neq t x y (.agg (xs.map u8).toArray) (.agg (ys.map u8).toArray); binOp .neq t (.agg (xs.map u8).toArray) (.agg (ys.map u8).toArray) : Sem Value).run P w = .ok (.bool (decide (xs ≠ ys))) w := by
  rw [Sem.run_bind, run_eqGuard_agg w .neq t x y _ _ hg]
  simp only [Result.andThen_ok]
  rw [run_neq_struct, h4, ← e1]; rfl
 simp only [execOp, ha.ev hx, ha.ev hy]
 rw [Sem.run_bind, this]; rfl
end
theorem RdL.atd {α : Type} {enc : α → Value} {w : World} {v : Value} {l : List α} (h : RdL enc w v l) (k m : Nat) : At w (bs v).1 ((bs v).2 + k) (((l.drop k).take m).map enc) := fun j u hu => by
  rw [List.getElem?_map] at hu
  obtain ⟨z, hz, rfl⟩ := Option.map_eq_some_iff.1 hu
  rw [List.getElem?_take] at hz
  split at hz
  · rw [List.getElem?_drop] at hz
    obtain ⟨hj, rfl⟩ := List.getElem?_eq_some_iff.1 hz
    have := RdL.cell h hj
    unfold el at this
    rw [Nat.add_assoc]; exact this
  cases hz
end Sym
theorem cut_drop {α : Type} (a : Nat) (l : List α) : cutL a l.length l = l.drop a := by
 unfold cutL
 rw [List.take_of_length_le]
 rw [List.length_drop]; exact Nat.le_refl _
theorem and15u8 (a : Nat) (h : a < 256) : bits .and .u8 (a : Int) 15 = ((a % 16 : Nat) : Int) := by
 have h1 := u8_and_nat a 15 h (by decide)
 have h2 : a &&& 15 = a % 16 := Nat.and_two_pow_sub_one_eq_mod a 4
 rw [h2] at h1; exact h1
theorem and32u8 (a : Nat) (h : a < 256) : bits .and .u8 (a : Int) 32 = ((a &&& 32 : Nat) : Int) := u8_and_nat a 32 h (by decide)
namespace Df
noncomputable def unw (l : List UInt8) (x : Int) : Except Int (List UInt8) :=
 if x < 0 ∨ 16777216 < x then .error 3 else if 4194304 < l.length then .error 4 else if l.length < 2 then .error 10
 else if (l.getD 0 0).toNat % 16 ≠ 8 ∨ 7 < (l.getD 0 0).toNat / 16 ∨ (256 * (l.getD 0 0).toNat + (l.getD 1 0).toNat) % 31 ≠ 0 then .error 25
 else if (l.getD 1 0).toNat &&& 32 ≠ 0 then .error 9
 else match inf (l.drop 2) x with
  | .error e => .error e
  | .ok (out, a) => if (l.drop (2 + (a + 7) / 8)).length < 4 then .error 10 else if ad4 out ≠ (l.drop (2 + (a + 7) / 8)).take 4 then .error 26 else if 4 < (l.drop (2 + (a + 7) / 8)).length then .error 11 else .ok out
end Df
def UnwV (r : Except Int (List UInt8)) (out : List UInt8) (e : Int) : Prop := (e = 0 ∧ r = .ok out) ∨ (e ≠ 0 ∧ r = .error e ∧ out = [])
set_option maxHeartbeats 4000000 in
set_option maxRecDepth 4000 in
theorem Unwrap_ret (p : Value) (l : List UInt8) (x : Int) (w : World) (hp : RdL u8 w p l) (hO : Ord w) :
  Ret Tryz.prog 29 #[p, i64 x] w fun v w' => ∃ (vo : Value) (out : List UInt8) (e : Int), v = .tuple #[vo, i64 e] ∧ M w Nn w' [Rg.sl u8 5 vo out] ∧ UnwV (Df.unw l x) out e := by
 have hM := M.start w
 refine enter Tryz.func29 rfl (by kernel_rfl) Tryz.ntmps29 rfl $ Kb $ Kn rfl $ Kc rfl $ C.seq $ C.chainE [(0, _), (1, _)] rfl [(15, .bool (decide (x < 0 ∨ 16777216 < x)))] ?_ ?_
 ·
  refine C.region $ Km rfl $ Kp rfl $ Km rfl $ E.split 12 rfl (fun g12 => ?_) (fun g12 => ?_)
  ·
   try simp only [Ya, Yb, Yc, Yd, Ye, Yf] at g12
   refine Kq rfl $ Kq rfl $ Kr rfl $ E.nil $ X.join0 (Sub.cons (by exact leaf_t (by omega)) $ Sub.nil _) rfl rfl
  try simp only [Ya, Yb, Yc, Yd, Ye, Yf] at g12
  refine Ko rfl $ Km rfl $ Ko rfl $ Kp rfl $ Kr rfl $ E.nil $ X.join0 (Sub.cons (by exact leaf_d (by omega)) $ Sub.nil _) rfl rfl
 refine C.cond' rfl (fun hC0 => ?_) (fun hC0 => ?_)
 ·
  refine Kb $ Kn rfl $ Kc rfl $ C.ret $ X.retT $ ret2 rfl rfl rfl ?_
  exact ⟨_, [], 3, rfl, (hM.pick [] (by decide)).nil u8 5, .inr ⟨by decide, by unfold Df.unw; rw [if_pos hC0], rfl⟩⟩
 refine Kk $ C.seq $ Kb $ Km rfl $ E.lenv rfl (Rd.shape (hM.arg0 hp)) U22 rfl $ Kp rfl $ Ka $ C.cond' rfl (fun hC1 => ?_) (fun hC1 => ?_)
 ·
  refine Kb $ Kn rfl $ Kc rfl $ C.ret $ X.retT $ ret2 rfl rfl rfl ?_
  exact ⟨_, [], 4, rfl, (hM.pick [] (by decide)).nil u8 5, .inr ⟨by decide, by unfold Df.unw; rw [if_neg hC0, if_pos (by omega)], rfl⟩⟩
 refine Kk $ C.seq $ Kb $ Km rfl $ E.lenv rfl (Rd.shape (hM.arg0 hp)) U22 rfl $ Kp rfl $ Ka $ C.cond' rfl (fun hC2 => ?_) (fun hC2 => ?_)
 ·
  refine Kb $ Kn rfl $ Kc rfl $ C.ret $ X.retT $ ret2 rfl rfl rfl ?_
  exact ⟨_, [], 10, rfl, (hM.pick [] (by decide)).nil u8 5, .inr ⟨by decide, by unfold Df.unw; rw [if_neg hC0, if_neg (by omega), if_pos (by omega)], rfl⟩⟩
 have h2 : 2 ≤ l.length := by omega
 have h4m : l.length ≤ 4194304 := by omega
 obtain ⟨q0, hq0⟩ : ∃ q, q = (l[0]'(by omega)).toNat := ⟨_, rfl⟩
 obtain ⟨q1, hq1⟩ : ∃ q, q = (l[1]'(by omega)).toNat := ⟨_, rfl⟩
 have hb0 : q0 < 256 := by rw [hq0]; exact UInt8.toNat_lt _
 have hb1 : q1 < 256 := by rw [hq1]; exact UInt8.toNat_lt _
 have hg0 : (l.getD 0 0).toNat = q0 := by rw [hq0, gdU (show 0 < l.length by omega)]
 have hg1 : (l.getD 1 0).toNat = q1 := by rw [hq1, gdU (show 1 < l.length by omega)]
 have hu0 : u8 (l[0]'(by omega)) = .int .u8 (q0 : Int) := by unfold u8; rw [hq0]
 have hu1 : u8 (l[1]'(by omega)) = .int .u8 (q1 : Int) := by unfold u8; rw [hq1]
 refine Kk $ C.seq $ C.chainQ [(0, _), (1, _)] rfl [(47, .bool (decide (q0 % 16 ≠ 8 ∨ 7 < q0 / 16 ∨ (256 * q0 + q1) % 31 ≠ 0)))] ?_ ?_
 ·
  refine C.drawn (by kernel_rfl) (by kernel_rfl) $ Q.mv rfl rfl $ Q.idx1 (k := 0) rfl rfl (hM.arg0 hp) rfl (by omega) U22 (by kernel_rfl) rfl $ Q.load rfl U5 rfl ((hM.arg0 hp).cellA rfl (by omega)) rfl ?_
  rw [hu0]
  refine Q.binw rfl rfl rfl (congrArg _ (and15u8 q0 hb0)) rfl $ Q.bin rfl rfl rfl rfl $ Q.mv rfl rfl $ Q.split 27 rfl (fun g27 => ?_) (fun g27 => ?_)
  ·
   try simp only [Ya, Yb, Yc, Yd, Ye, Yf] at g27
   refine Q.off rfl rfl rfl rfl $ Q.off rfl rfl rfl rfl $ Q.off rfl rfl rfl rfl $ Q.off rfl rfl rfl rfl $ Q.off rfl rfl rfl rfl $ Q.pick rfl rfl rfl $ Q.mv rfl rfl $ Q.off rfl rfl rfl rfl $ Q.off rfl rfl rfl rfl $ Q.off rfl rfl rfl rfl $ Q.off rfl rfl rfl rfl $ Q.off rfl rfl rfl rfl $ Q.off rfl rfl rfl rfl $ Q.off rfl rfl rfl rfl $ Q.off rfl rfl rfl rfl $ Q.off rfl rfl rfl rfl $ Q.off rfl rfl rfl rfl $ Q.off rfl rfl rfl rfl $ Q.off rfl rfl rfl rfl $ Q.pick rfl rfl rfl $ Q.nil $ fun w0 hx0 => X.join0 (Sub.cons (by exact leaf_t (by omega)) $ Sub.nil _) rfl hx0
  try simp only [Ya, Yb, Yc, Yd, Ye, Yf] at g27
  refine Q.on rfl rfl (Q.mv rfl rfl ?_)
  refine Q.on rfl rfl (Q.idx1 (k := 0) rfl rfl (hM.arg0 hp) rfl (by omega) U22 (by kernel_rfl) rfl ?_)
  refine Q.on rfl rfl (Q.load rfl U5 rfl ((hM.arg0 hp).cellA rfl (by omega)) rfl ?_)
  rw [hu0]
  refine Q.on rfl rfl (Q.shr rfl rfl (by decide) (shr_u8 (c := q0) (k := 4) (by decide)) rfl ?_)
  refine Q.on rfl rfl (Q.bin rfl rfl rfl rfl ?_)
  refine Q.pick rfl rfl rfl $ Q.mv rfl rfl $ Q.split 34 rfl (fun g34 => ?_) (fun g34 => ?_)
  ·
   try simp only [Ya, Yb, Yc, Yd, Ye, Yf] at g34
   refine Q.off rfl rfl rfl rfl $ Q.off rfl rfl rfl rfl $ Q.off rfl rfl rfl rfl $ Q.off rfl rfl rfl rfl $ Q.off rfl rfl rfl rfl $ Q.off rfl rfl rfl rfl $ Q.off rfl rfl rfl rfl $ Q.off rfl rfl rfl rfl $ Q.off rfl rfl rfl rfl $ Q.off rfl rfl rfl rfl $ Q.off rfl rfl rfl rfl $ Q.off rfl rfl rfl rfl $ Q.pick rfl rfl rfl $ Q.nil $ fun w1 hx1 => X.join0 (Sub.cons (by exact leaf_t (by omega)) $ Sub.nil _) rfl hx1
  try simp only [Ya, Yb, Yc, Yd, Ye, Yf] at g34
  refine Q.on rfl rfl (Q.mv rfl rfl ?_)
  refine Q.on rfl rfl (Q.idx1 (k := 0) rfl rfl (hM.arg0 hp) rfl (by omega) U22 (by kernel_rfl) rfl ?_)
  refine Q.on rfl rfl (Q.load rfl U5 rfl ((hM.arg0 hp).cellA rfl (by omega)) rfl ?_)
  rw [hu0]
  refine Q.on rfl rfl (Q.conv rfl U5 U3 (IntWalk.i64_in _ (by omega)) rfl ?_)
  refine Q.on rfl rfl (Q.mulN (a := 256) (b := q0) rfl rfl (by omega) rfl ?_)
  refine Q.on rfl rfl (Q.mv rfl rfl ?_)
  refine Q.on rfl rfl (Q.idx1 (k := 1) rfl rfl (hM.arg0 hp) rfl (by omega) U22 (by kernel_rfl) rfl ?_)
  refine Q.on rfl rfl (Q.load rfl U5 rfl ((hM.arg0 hp).cellA rfl (by omega)) rfl ?_)
  rw [hu1]
  refine Q.on rfl rfl (Q.conv rfl U5 U3 (IntWalk.i64_in _ (by omega)) rfl ?_)
  refine Q.on rfl rfl (Q.addN (a := 256 * q0) (b := q1) rfl rfl (by omega) rfl ?_)
  refine Q.on rfl rfl (Q.rem rfl rfl (by omega) (remN (a := 256 * q0 + q1) (b := 31)) rfl ?_)
  refine Q.on rfl rfl (Q.bin rfl rfl rfl rfl ?_)
  refine Q.pick rfl rfl rfl $ Q.nil $ fun w2 hx2 => X.join0 (Sub.cons (by exact leaf_d (by omega)) $ Sub.nil _) rfl hx2
 intro w3 hx3
 have hM := hM.ext hx3
 refine C.cond' rfl (fun hC3 => ?_) (fun hC3 => ?_)
 ·
  refine Kb $ Kn rfl $ Kc rfl $ C.ret $ X.retT $ ret2 rfl rfl rfl ?_
  exact ⟨_, [], 25, rfl, (hM.pick [] (by decide)).nil u8 5, .inr ⟨by decide, by unfold Df.unw; rw [if_neg hC0, if_neg (by omega), if_neg (by omega), hg0, hg1, if_pos hC3], rfl⟩⟩
 refine Kk $ C.seq $ Kb $ Km rfl $ E.get (k := 1) rfl rfl (hM.arg0 hp) rfl (by omega) U22 (by kernel_rfl) U5 rfl rfl rfl ?_
 rw [hu1]
 refine E.binw rfl rfl rfl (congrArg _ (and32u8 q1 hb1)) rfl $ Kp rfl $ Ka $ C.cond' rfl (fun hC4 => ?_) (fun hC4 => ?_)
 ·
  refine Kb $ Kn rfl $ Kc rfl $ C.ret $ X.retT $ ret2 rfl rfl rfl ?_
  exact ⟨_, [], 9, rfl, (hM.pick [] (by decide)).nil u8 5, .inr ⟨by decide, by unfold Df.unw; rw [if_neg hC0, if_neg (by omega), if_neg (by omega), hg0, hg1, if_neg hC3, if_pos (by omega)], rfl⟩⟩
 have hun : Df.unw l x = match Df.inf (l.drop 2) x with
   | .error e => .error e
   | .ok (out, a) => if (l.drop (2 + (a + 7) / 8)).length < 4 then .error 10 else if Df.ad4 out ≠ (l.drop (2 + (a + 7) / 8)).take 4 then .error 26 else if 4 < (l.drop (2 + (a + 7) / 8)).length then .error 11 else .ok out := by
  unfold Df.unw
  rw [if_neg hC0, if_neg (by omega), if_neg (by omega), hg0, hg1, if_neg hC3, if_neg (by omega)]
 have hdl : (l.drop 2).length = l.length - 2 := List.length_drop
 refine Kk $ Kb $ Km rfl $ E.slcP (k' := .i64) 2 l.length rfl (.inl rfl) (.inr ⟨rfl, rfl⟩) (hM.arg0 hp) U22 (by kernel_rfl) (by omega) (by omega) rfl $ Km rfl $ E.call rfl rfl (Inflate_ret (partV p 2 l.length) (l.drop 2) x _ (by have := (hM.arg0 hp).partV (a := 2) (b := l.length) (by omega) (by omega); rw [cut_drop] at this; exact this) (hM.ord0 hO)) ?_
 rintro _ w2 ⟨v57, out, n, e, rfl, m, hv⟩
 have hM := hM.call m
 refine Km rfl $ E.ext rfl rfl rfl $ E.ext rfl rfl rfl $ E.ext rfl rfl rfl $ Kn rfl $ Kn rfl $ Kc rfl $ C.seq $ Kb $ Km rfl $ Kp rfl $ Ka $ C.cond' rfl (fun hC5 => ?_) (fun hC5 => ?_)
 ·
  obtain ⟨_, hv, _⟩ := hv.resolve_left (fun h => hC5 h.1)
  refine Kb $ Km rfl $ Kn rfl $ Kc rfl $ C.ret $ X.retT $ ret2 rfl rfl rfl ?_
  exact ⟨_, [], e, rfl, (hM.pick [] (by decide)).nil u8 5, .inr ⟨hC5, by rw [hun, hv], rfl⟩⟩
 obtain ⟨_, a, hv, hn, ha⟩ := hv.resolve_right (fun h => hC5 h.1)
 rw [hv] at hun
 simp only at hun
 rw [← hn] at hun
 have hn2 : 2 + n ≤ l.length := by omega
 have hrl : (l.drop (2 + n)).length = l.length - (2 + n) := List.length_drop
 refine Kk $ Kb $ Kf rfl $ E.addN (a := 2) (b := n) rfl rfl (by omega) rfl $ E.slcP (k' := .i64) (2 + n) l.length rfl (.inl rfl) (.inr ⟨rfl, rfl⟩) (hM.arg0 hp) U22 (by kernel_rfl) (by omega) (by omega) rfl ?_
 have hcr := (hM.arg0 hp).partV (a := 2 + n) (b := l.length) (by omega) (by omega)
 rw [cut_drop] at hcr
 refine Kc rfl $ C.seq $ Kb $ Km rfl $ E.lenv rfl (Rd.shape hcr) U22 rfl ?_
 rw [hrl]
 refine Kp rfl $ Ka $ C.cond' rfl (fun hC6 => ?_) (fun hC6 => ?_)
 ·
  refine Kb $ Kn rfl $ Kc rfl $ C.ret $ X.retT $ ret2 rfl rfl rfl ?_
  exact ⟨_, [], 10, rfl, (hM.pick [] (by decide)).nil u8 5, .inr ⟨by decide, by rw [hun, if_pos (by omega)], rfl⟩⟩
 rw [if_neg (by omega)] at hun
 obtain ⟨r4, hr4⟩ : ∃ r, r = (l.drop (2 + n)).take 4 := ⟨_, rfl⟩
 have hr4l : r4.length = 4 := by rw [hr4, List.length_take, hrl]; omega
 rw [← hr4] at hun
 refine Kk $ C.seq $ C.cut0 [(6, _), (9, _)] rfl [(76, .bool (decide (Df.ad4 out ≠ r4)))] (fun w' => M w (Nn) w' [Rg.sl u8 5 v57 out]) ?_ ?_
 ·
  refine C.heldM hM [0] (by decide) (by kernel_rfl) fun wh5 hM hS => Kt 0 rfl (by kernel_rfl) hS (fun w' hM => Y.mv rfl) rfl $ Kt 2 rfl (by kernel_rfl) hS (fun w' hM => Y.mv rfl) rfl $ H.two 1 3 rfl rfl (by kernel_rfl) ?_ ?_
  ·
   refine E.call rfl rfl (sumOf_ret v57 out _ (hM.sl 0 rfl)) ?_
   rintro _ w6 ⟨rfl, x6⟩
   have hM := hM.ext x6
   have hS := hM.pick [0] (by decide)
   refine H.back hS $ H.only 3 rfl (by kernel_rfl) $ E.arrAt rfl (partV_hd (hM.arg0 hp) (k := 2 + n) (by omega)) Tryz.underlying62 (by omega) rfl ?_
   have hS := hM.pick [0] (by decide)
   refine H.back hS $ H.only 4 rfl (by kernel_rfl) $ E.loadA (cs := r4.map u8) rfl Tryz.underlying62 rfl (by rw [List.length_map, hr4l]; kernel_rfl) (by rw [hr4]; exact (hM.arg0 hp).atd (2 + n) 4) rfl ?_
   have hS := hM.pick [0] (by decide)
   refine H.back hS $ Ku 5 rfl (by kernel_rfl) hS (Y.neB (Df.ad4 out) r4 rfl rfl Tryz.underlying62 U5 (by kernel_rfl) (by kernel_rfl) rfl hr4l) (fun w' hM => Y.neB (Df.ad4 out) r4 rfl rfl Tryz.underlying62 U5 (by kernel_rfl) (by kernel_rfl) rfl hr4l) rfl $ H.done (by kernel_rfl) $ X.join0  (S1 rfl) rfl hM
  refine E.arrAt rfl (partV_hd (hM.arg0 hp) (k := 2 + n) (by omega)) Tryz.underlying62 (by omega) rfl ?_
  have hS := hM.pick [0] (by decide)
  refine H.back hS $ Ku 4 rfl (by kernel_rfl) hS (Y.loadA (cs := r4.map u8) rfl Tryz.underlying62 rfl (by rw [List.length_map, hr4l]; kernel_rfl) (by rw [hr4]; exact (hM.arg0 hp).atd (2 + n) 4)) (fun w' hM => Y.loadA (cs := r4.map u8) rfl Tryz.underlying62 rfl (by rw [List.length_map, hr4l]; kernel_rfl) (by rw [hr4]; exact (hM.arg0 hp).atd (2 + n) 4)) rfl $ H.only 1 rfl (by kernel_rfl) $ E.call rfl rfl (sumOf_ret v57 out _ (hM.sl 0 rfl)) ?_
  rintro _ w6 ⟨rfl, x6⟩
  have hM := hM.ext x6
  have hS := hM.pick [0] (by decide)
  refine H.back hS $ Ku 5 rfl (by kernel_rfl) hS (Y.neB (Df.ad4 out) r4 rfl rfl Tryz.underlying62 U5 (by kernel_rfl) (by kernel_rfl) rfl hr4l) (fun w' hM => Y.neB (Df.ad4 out) r4 rfl rfl Tryz.underlying62 U5 (by kernel_rfl) (by kernel_rfl) rfl hr4l) rfl $ H.done (by kernel_rfl) $ X.join0  (S1 rfl) rfl hM
 rintro  w8 hM
 refine C.cond' rfl (fun hC7 => ?_) (fun hC7 => ?_)
 ·
  refine Kb $ Kn rfl $ Kc rfl $ C.ret $ X.retT $ ret2 rfl rfl rfl ?_
  exact ⟨_, [], 26, rfl, (hM.pick [] (by decide)).nil u8 5, .inr ⟨by decide, by rw [hun, if_pos hC7], rfl⟩⟩
 refine Kk $ C.seq $ Kb $ Km rfl $ E.lenv rfl (Rd.shape ((by have := (hM.arg0 hp).partV (a := 2 + n) (b := l.length) (by omega) (by omega); rw [cut_drop] at this; exact this : RdL u8 _ (partV p (2 + n) l.length) (l.drop (2 + n))))) U22 rfl ?_
 rw [hrl]
 refine Kp rfl $ Ka $ C.cond' rfl (fun hC8 => ?_) (fun hC8 => ?_)
 ·
  refine Kb $ Kn rfl $ Kc rfl $ C.ret $ X.retT $ ret2 rfl rfl rfl ?_
  exact ⟨_, [], 11, rfl, (hM.pick [] (by decide)).nil u8 5, .inr ⟨by decide, by rw [hun, if_neg hC7, if_pos (by omega)], rfl⟩⟩
 refine Kk $ Kb $ Km rfl $ Kn rfl $ Kc rfl $ C.ret $ ret2 rfl rfl rfl ?_
 exact ⟨v57, out, 0, rfl, hM, .inl ⟨rfl, by rw [hun, if_neg hC7, if_neg (by omega)]⟩⟩
namespace Df
theorem inf_cm2 {l m : List UInt8} {lv lim : Nat} (hlv : lv ≤ 2) (hl : l.length ≤ 32768) (hlim : lim ≤ 16777216) (hm : m.length ≤ 1000) : inf (cmp l lv ++ m) (lim : Int) = if l.length ≤ lim then .ok (l, if lv = 0 then 8 * (sto l).length else (cbits lv (toks l 0)).length) else .error 4 := by
 have h1 := cmp_len hl hlv
 have h2 := inf_cmp (m := m) (lim := lim) hlv hl
 rw [inf, if_neg (by omega), if_neg (by rw [List.length_append]; omega), Int.toNat_natCast, h2]
theorem b1_ok (x : Int) : (b1 x).toNat % 31 = 1 ∧ (b1 x).toNat &&& 32 = 0 := by
 unfold b1
 split
 · decide
 split <;> decide
theorem unw_head {l m : List UInt8} {lv lim : Nat} (hlv : lv ≤ 2) (hl : l.length ≤ 32768) (hlim : lim ≤ 16777216) (hll : l.length ≤ lim) (hm : m.length ≤ 1000) : unw ([120, b1 lv] ++ cmp l lv ++ m) (lim : Int) = if m.length < 4 then .error 10 else if ad4 l ≠ m.take 4 then .error 26 else if 4 < m.length then .error 11 else .ok l := by
 have h1 := cmp_len hl hlv
 have h2 := inf_cm2 (l := l) (m := m) hlv hl hlim hm
 rw [if_pos hll] at h2
 have h3 := cmp_bytes l lv
 have e : [120, b1 lv] ++ cmp l lv ++ m = 120 :: b1 lv :: (cmp l lv ++ m) := rfl
 obtain ⟨hb, hc⟩ := b1_ok lv
 rw [e, unw, if_neg (by omega), if_neg (by simp only [List.length_cons, List.length_append]; omega), if_neg (by simp only [List.length_cons]; omega)]
 have g0 : ((120 :: b1 lv :: (cmp l lv ++ m)).getD 0 0).toNat = 120 := rfl
 have g1 : ((120 :: b1 lv :: (cmp l lv ++ m)).getD 1 0).toNat = (b1 lv).toNat := rfl
 have d2 : (120 :: b1 lv :: (cmp l lv ++ m)).drop 2 = cmp l lv ++ m := rfl
 rw [g0, g1, if_neg (by omega), if_neg (by rw [hc]; simp), d2, h2]
 simp only
 rw [h3]
 have d3 : (120 :: b1 lv :: (cmp l lv ++ m)).drop (2 + (cmp l lv).length) = m := by
  rw [Nat.add_comm]
  show (cmp l lv ++ m).drop (cmp l lv).length = m
  exact List.drop_left
 rw [d3]
end Df
end Go.Proofs.YtajklleiifhipaaGreatDoor
namespace Go.Proofs.YtajklleiifhipaaGreatDoor
open Sym
namespace Pg
open Jn
def pb (row : List UInt8) (i : Nat) : Nat → Nat
 | 0 => 0
 | k + 1 => pb row i k + (if at_ row (8 * i + k) ≠ 0 then 128 / 2 ^ k else 0)
def pkx (row : List UInt8) (x : Nat) : List UInt8 := tab ((row.length + 7) / 8) fun i => UInt8.ofNat (pb row i (min 8 (x - 8 * i)))
def pck (row : List UInt8) (d : Nat) : List UInt8 := if d = 8 then row else pkx row row.length
def wgt (l : List UInt8) : Nat := (l.map fun x => min x.toNat (256 - x.toNat)).sum
theorem wgt_le (l : List UInt8) : wgt l ≤ 128 * l.length := by
 unfold wgt
 induction l with
 | nil => simp
 | cons a l ih => simp only [List.map_cons, List.sum_cons, List.length_cons]; omega
def bsk (row prior : List UInt8) : Nat → Nat
 | 0 => 0
 | k + 1 => if wgt (fil (k + 1) row prior) < wgt (fil (bsk row prior k) row prior) then k + 1 else bsk row prior k
theorem bsk_le (row prior : List UInt8) : ∀ k, bsk row prior k ≤ k
 | 0 => Nat.le_refl _
 | k + 1 => by
  have := bsk_le row prior k
  rw [bsk]; split <;> omega
def bst (row prior : List UInt8) : List UInt8 := UInt8.ofNat (bsk row prior 4) :: fil (bsk row prior 4) row prior
def dep (pix : List UInt8) : Nat := if ∀ x ∈ pix, x = 0 ∨ x = 255 then 1 else 8
def prow (pix : List UInt8) (w d y : Nat) : List UInt8 := pck (cutL (y * w) ((y + 1) * w) pix) d
def pri (pix : List UInt8) (w d : Nat) : Nat → List UInt8
 | 0 => []
 | y + 1 => prow pix w d y
def dta (pix : List UInt8) (w d : Nat) : Nat → List UInt8
 | 0 => []
 | y + 1 => dta pix w d y ++ bst (prow pix w d y) (pri pix w d y)
def hdr (w h d : Nat) : List UInt8 := enc4 w ++ enc4 h ++ [UInt8.ofNat d, 0, 0, 0, 0]
def vld (w h : Int) (n : Nat) : Prop := 1 ≤ w ∧ w ≤ 4096 ∧ 1 ≤ h ∧ h ≤ 4096 ∧ w * h ≤ 4194304 ∧ (n : Int) = w * h
instance (w h : Int) (n : Nat) : Decidable (vld w h n) := inferInstanceAs (Decidable (_ ∧ _))
noncomputable def wck (w h : Nat) (pix : List UInt8) : List Ck := [(tH, hdr w h (dep pix)), (tD, Df.wrv (dta pix w (dep pix) h) 2), (tE, [])]
noncomputable def wri (w h : Nat) (pix : List UInt8) : List UInt8 := sig ++ cks (wck w h pix)
def vls (row : List UInt8) (w d : Nat) : List UInt8 := tab w fun x => UInt8.ofNat (255 * (at_ row (x * d / 8) / 2 ^ (8 - d - x * d % 8) % 2 ^ d) / (2 ^ d - 1))
def crit (t : List UInt8) : Prop := 65 ≤ at_ t 0 ∧ at_ t 0 ≤ 90
instance (t : List UInt8) : Decidable (crit t) := inferInstanceAs (Decidable (_ ∧ _))
def fmd : Nat → List Ck → Bool
 | _, [] => true
 | s, c :: r => if c.1 = tH then false else if c.1 = tD then (if s = 2 then false else fmd 1 r) else if c.1 ≠ tE ∧ crit c.1 then false else fmd (if s = 0 then 0 else 2) r
def dtc : List Ck → List UInt8
 | [] => []
 | c :: r => if c.1 = tD then c.2 ++ dtc r else dtc r
def anyD : List Ck → Bool
 | [] => false
 | c :: r => if c.1 = tD then true else anyD r
def rwk (data : List UInt8) (sz w d : Nat) : Nat → Except Int (List UInt8 × List UInt8)
 | 0 => .ok ([], [])
 | y + 1 => match rwk data sz w d y with
  | .error e => .error e
  | .ok (prior, pix) => if 4 < at_ data (y * sz) then .error 37
   else .ok (unf (at_ data (y * sz)) (cutL (y * sz + 1) ((y + 1) * sz) data) prior, pix ++ vls (unf (at_ data (y * sz)) (cutL (y * sz + 1) ((y + 1) * sz) data) prior) w d)
theorem rwk_err {data : List UInt8} {sz w d y : Nat} {e : Int} (h : rwk data sz w d y = .error e) : ∀ n, y ≤ n → rwk data sz w d n = .error e
  | 0, hn => by obtain rfl : y = 0 := by omega
                exact h
  | n + 1, hn => by
    by_cases c : y = n + 1
    · rw [← c]; exact h
    rw [rwk, rwk_err h n (by omega)]
def wid (w d : Nat) : Nat := 1 + (w * d + 7) / 8
noncomputable def img (h z : List UInt8) (any : Bool) : Except Int (Nat × Nat × List UInt8) :=
 if dec4 h < 1 ∨ 4096 < dec4 h ∨ dec4 (h.drop 4) < 1 ∨ 4096 < dec4 (h.drop 4) ∨ 4194304 < dec4 h * dec4 (h.drop 4) then .error 23
 else if (at_ h 8 ≠ 1 ∧ at_ h 8 ≠ 2 ∧ at_ h 8 ≠ 4 ∧ at_ h 8 ≠ 8) ∨ at_ h 9 ≠ 0 then .error 9
 else if at_ h 10 ≠ 0 ∨ at_ h 11 ≠ 0 ∨ at_ h 12 ≠ 0 then .error 37
 else if any = false then .error 33
 else match Df.unw z ((dec4 (h.drop 4) * wid (dec4 h) (at_ h 8) : Nat) : Int) with
  | .error e => .error e
  | .ok data => if data.length < dec4 (h.drop 4) * wid (dec4 h) (at_ h 8) then .error 10
   else match rwk data (wid (dec4 h) (at_ h 8)) (dec4 h) (at_ h 8) (dec4 (h.drop 4)) with
    | .error e => .error e
    | .ok (_, pix) => .ok (dec4 h, dec4 (h.drop 4), pix)
noncomputable def rdi (p : List UInt8) : Except Int (Nat × Nat × List UInt8) :=
 match rdf p with
 | .error e => .error e
 | .ok [] => .error 9
 | .ok (c :: r) => if c.1 ≠ tH ∨ c.2.length ≠ 13 ∨ fmd 0 r = false then .error 9 else img c.2 (dtc r) (anyD r)
end Pg
end Go.Proofs.YtajklleiifhipaaGreatDoor
namespace Go.Proofs.YtajklleiifhipaaGreatDoor
open Sym
namespace Pg
open Jn
def bitR (row : List UInt8) (i j : Nat) : Nat := if at_ row (8 * i + j) ≠ 0 then 1 else 0
def vb (row : List UInt8) (i : Nat) : Nat → Nat
 | 0 => 0
 | k + 1 => 2 * vb row i k + bitR row i k
theorem bitR_le (row : List UInt8) (i j : Nat) : bitR row i j ≤ 1 := by unfold bitR; split <;> omega
theorem vb_lt (row : List UInt8) (i : Nat) : ∀ k, vb row i k < 2 ^ k
 | 0 => by simp [vb]
 | k + 1 => by
  have := vb_lt row i k
  have := bitR_le row i k
  rw [vb, Nat.pow_succ]; omega
theorem pb_vb (row : List UInt8) (i : Nat) : ∀ k, k ≤ 8 → pb row i k = vb row i k * 2 ^ (8 - k)
 | 0, _ => by simp [pb, vb]
 | k + 1, h => by
  have ih := pb_vb row i k (by omega)
  have e1 : 2 ^ (8 - k) = 2 * 2 ^ (8 - (k + 1)) := by rw [show 8 - k = (8 - (k + 1)) + 1 by omega, Nat.pow_succ, Nat.mul_comm]
  have e2 : 128 / 2 ^ k = 2 ^ (8 - (k + 1)) := by
   rw [show (128 : Nat) = 2 ^ 7 from rfl, Nat.pow_div (by omega) (by decide)]; congr 1; omega
  rw [pb, ih, vb, e1, e2]
  unfold bitR
  split
  · rw [Nat.add_mul, Nat.one_mul, Nat.mul_assoc, Nat.mul_left_comm]
  simp only [Nat.add_zero]
  rw [Nat.mul_comm 2 (vb row i k), Nat.mul_assoc]
theorem vb_bit (row : List UInt8) (i j : Nat) : ∀ k, j < k → vb row i k / 2 ^ (k - 1 - j) % 2 = bitR row i j
  | k + 1, h => by
    have hb := bitR_le row i k
    by_cases c : j = k
    · subst c
      rw [vb, show j + 1 - 1 - j = 0 by omega, Nat.pow_zero, Nat.div_one]; omega
    have ih := vb_bit row i j k (by omega)
    rw [vb, show k + 1 - 1 - j = (k - 1 - j) + 1 by omega, Nat.pow_succ, Nat.mul_comm (2 ^ _), ← Nat.div_div_eq_div_mul, show (2 * vb row i k + bitR row i k) / 2 = vb row i k by omega]
    exact ih
theorem pb_lt (row : List UInt8) (i k : Nat) (h : k ≤ 8) : pb row i k < 256 := by
 rw [pb_vb row i k h]
 have h1 := vb_lt row i k
 have h2 : 2 ^ k * 2 ^ (8 - k) = 256 := by rw [← Nat.pow_add, show k + (8 - k) = 8 by omega]
 have h3 : 0 < 2 ^ (8 - k) := Nat.pow_pos (by decide)
 calc vb row i k * 2 ^ (8 - k) < 2 ^ k * 2 ^ (8 - k) := Nat.mul_lt_mul_of_pos_right h1 h3
  _ = 256 := h2
theorem pb_bit {row : List UInt8} {i j k : Nat} (hj : j < k) (hk : k ≤ 8) : pb row i k / 2 ^ (7 - j) % 2 = bitR row i j := by
 rw [pb_vb row i k hk, show 7 - j = (8 - k) + (k - 1 - j) by omega, Nat.pow_add, Nat.mul_comm, Nat.mul_div_mul_left _ _ (Nat.pow_pos (by decide))]
 exact vb_bit row i j k hj
theorem at_tab {n i : Nat} {f : Nat → UInt8} (h : i < n) : at_ (tab n f) i = (f i).toNat := by
 unfold at_
 rw [List.getD_eq_getElem?_getD, tab_get h]; rfl
theorem vls_len (row : List UInt8) (w d : Nat) : (vls row w d).length = w := tab_len _ _
theorem pkx_len (row : List UInt8) (x : Nat) : (pkx row x).length = (row.length + 7) / 8 := tab_len _ _
theorem vls_pck {row : List UInt8} {w d : Nat} (hw : row.length = w) (hd : d = 8 ∨ d = 1 ∧ ∀ x ∈ row, x = 0 ∨ x = 255) : vls (pck row d) w d = row := by
  refine List.ext_getElem (by rw [vls_len, hw]) fun x h1 h2 => ?_
  rw [vls_len] at h1
  have e0 : (vls (pck row d) w d)[x]'(by rw [vls_len]; exact h1) = UInt8.ofNat (255 * (at_ (pck row d) (x * d / 8) / 2 ^ (8 - d - x * d % 8) % 2 ^ d) / (2 ^ d - 1)) := by
    have := tab_get (f := fun x => UInt8.ofNat (255 * (at_ (pck row d) (x * d / 8) / 2 ^ (8 - d - x * d % 8) % 2 ^ d) / (2 ^ d - 1))) h1
    unfold vls
    rw [List.getElem?_eq_getElem (by rw [tab_len]; exact h1)] at this
    exact Option.some.inj this
  rw [e0]
  rcases hd with rfl | ⟨rfl, hv⟩
  · have ha : at_ (pck row 8) (x * 8 / 8) = at_ row x := by
      rw [pck, if_pos rfl, Nat.mul_div_cancel _ (by decide)]
    have hl := at_le row x
    rw [ha, show 8 - 8 - x * 8 % 8 = 0 by omega, Nat.pow_zero, Nat.div_one, ← ofNat_at h2]
    congr 1
    omega
  have h8 : x / 8 < (row.length + 7) / 8 := by omega
  have ha : at_ (pck row 1) (x * 1 / 8) = pb row (x / 8) (min 8 (row.length - 8 * (x / 8))) := by
    rw [pck, if_neg (by decide), Nat.mul_one, pkx, at_tab h8]
    have := pb_lt row (x / 8) (min 8 (row.length - 8 * (x / 8))) (by omega)
    simp; omega
  rw [ha, Nat.mul_one, show 8 - 1 - x % 8 = 7 - x % 8 by omega, Nat.pow_one, pb_bit (j := x % 8) (by omega) (by omega)]
  have hx := hv row[x] (List.getElem_mem h2)
  have hax : at_ row (8 * (x / 8) + x % 8) = row[x].toNat := by
    rw [show 8 * (x / 8) + x % 8 = x by omega]
    unfold at_
    rw [List.getD_eq_getElem?_getD, List.getElem?_eq_getElem h2]; rfl
  unfold bitR
  rw [hax]
  rcases hx with hx | hx <;> rw [hx] <;> rfl
theorem cut_len2 {α : Type} {a b : Nat} {l : List α} (h : b ≤ l.length) : (cutL a b l).length = b - a := by unfold cutL; rw [List.length_take, List.length_drop]; omega
theorem mul_le {w h y : Nat} (hy : y + 1 ≤ h) : (y + 1) * w ≤ w * h := by rw [Nat.mul_comm w h]; exact Nat.mul_le_mul_right w hy
theorem succ_sub_mul (y w : Nat) : (y + 1) * w - y * w = w := by rw [Nat.add_mul, Nat.one_mul]; omega
theorem dep_cases (pix : List UInt8) : dep pix = 8 ∨ dep pix = 1 ∧ ∀ x ∈ pix, x = 0 ∨ x = 255 := by
 unfold dep
 split
 · next h => exact .inr ⟨rfl, h⟩
 exact .inl rfl
theorem mem_cut {α : Type} {a b : Nat} {l : List α} {x : α} (h : x ∈ cutL a b l) : x ∈ l := List.mem_of_mem_drop (List.mem_of_mem_take h)
section
variable {pix : List UInt8} {w h d : Nat}
theorem cutw_len {y : Nat} (hn : pix.length = w * h) (hy : y < h) : (cutL (y * w) ((y + 1) * w) pix).length = w := by
 rw [cut_len2 (by rw [hn]; exact mul_le hy), succ_sub_mul]
theorem prow_len {y : Nat} (hn : pix.length = w * h) (hy : y < h) (hd : d = 8 ∨ d = 1) : (prow pix w d y).length = (w * d + 7) / 8 := by
 unfold prow pck
 have := cutw_len hn hy
 rcases hd with rfl | rfl
 · rw [if_pos rfl, this]; omega
 rw [if_neg (by decide), pkx_len, this, Nat.mul_one]
theorem bst_len (row prior : List UInt8) : (bst row prior).length = row.length + 1 := by rw [bst, List.length_cons, fil_len]
theorem dta_len (hn : pix.length = w * h) (hd : d = 8 ∨ d = 1) : ∀ y, y ≤ h → (dta pix w d y).length = y * wid w d
 | 0, _ => by simp [dta]
 | y + 1, hy => by
  rw [dta, List.length_append, dta_len hn hd y (by omega), bst_len, prow_len hn (by omega) hd, Nat.add_mul, Nat.one_mul]
  unfold wid; omega
theorem dta_pre : ∀ n y, y ≤ n → ∃ r, dta pix w d n = dta pix w d y ++ r
  | 0, y, hy => ⟨[], by obtain rfl : y = 0 := by omega
                        simp [dta]⟩
  | n + 1, y, hy => by
    by_cases c : y = n + 1
    · exact ⟨[], by rw [c]; simp⟩
    obtain ⟨r, hr⟩ := dta_pre n y (by omega)
    exact ⟨r ++ bst (prow pix w d n) (pri pix w d n), by rw [dta, hr, List.append_assoc]⟩
theorem dta_row (hn : pix.length = w * h) (hd : d = 8 ∨ d = 1) {y : Nat} (hy : y < h) : at_ (dta pix w d h) (y * wid w d) = bsk (prow pix w d y) (pri pix w d y) 4 ∧ cutL (y * wid w d + 1) ((y + 1) * wid w d) (dta pix w d h) = fil (bsk (prow pix w d y) (pri pix w d y) 4) (prow pix w d y) (pri pix w d y) := by
  obtain ⟨r, hr⟩ := dta_pre (pix := pix) (w := w) (d := d) h (y + 1) (by omega)
  have hl := dta_len hn hd y (by omega)
  have hb := bsk_le (prow pix w d y) (pri pix w d y) 4
  have hp := prow_len hn hy hd
  rw [hr, dta, bst, List.append_assoc]
  constructor
  · unfold at_
    rw [List.getD_eq_getElem?_getD, List.getElem?_append_right (by rw [hl]; exact Nat.le_refl _), hl, Nat.sub_self]
    simp; omega
  unfold cutL
  rw [← List.drop_drop, ← hl, List.drop_left, List.cons_append, List.drop_succ_cons, List.drop_zero, hl]
  have : (y + 1) * wid w d - (y * wid w d + 1) = (fil (bsk (prow pix w d y) (pri pix w d y) 4) (prow pix w d y) (pri pix w d y)).length := by
    rw [fil_len, hp, Nat.add_mul, Nat.one_mul]; unfold wid; omega
  rw [this, List.take_left]
theorem rwk_dta (hn : pix.length = w * h) (hd : d = 8 ∨ d = 1 ∧ ∀ x ∈ pix, x = 0 ∨ x = 255) : ∀ y, y ≤ h → rwk (dta pix w d h) (wid w d) w d y = .ok (pri pix w d y, pix.take (y * w))
 | 0, _ => by simp [rwk, pri]
 | y + 1, hy => by
  have hd' : d = 8 ∨ d = 1 := hd.imp id (fun h => h.1)
  obtain ⟨e1, e2⟩ := dta_row hn hd' (show y < h by omega)
  have hb := bsk_le (prow pix w d y) (pri pix w d y) 4
  rw [rwk, rwk_dta hn hd y (by omega)]
  simp only
  rw [e1, e2, if_neg (by omega), unf_fil]
  have e3 : vls (prow pix w d y) w d = cutL (y * w) ((y + 1) * w) pix := vls_pck (cutw_len hn (by omega)) (hd.imp id (fun h => ⟨h.1, fun x hx => h.2 x (mem_cut hx)⟩))
  rw [e3, pri]
  unfold cutL
  rw [succ_sub_mul, ← List.take_add, Nat.add_mul, Nat.one_mul]
end
theorem hdr_len (w h d : Nat) : (hdr w h d).length = 13 := rfl
theorem img_hdr {w h d : Nat} {z data : List UInt8} (hw : 1 ≤ w ∧ w ≤ 4096) (hh : 1 ≤ h ∧ h ≤ 4096) (hwh : w * h ≤ 4194304) (hd : d = 8 ∨ d = 1) (hu : Df.unw z ((h * wid w d : Nat) : Int) = .ok data) (hl : data.length = h * wid w d) {q : List UInt8 × List UInt8} (hr : rwk data (wid w d) w d h = .ok q) : img (hdr w h d) z true = .ok (w, h, q.2) := by
 have e1 : dec4 (hdr w h d) = w := by rw [hdr, List.append_assoc]; exact dec_enc (by omega) _
 have e2 : dec4 ((hdr w h d).drop 4) = h := by
  have : (hdr w h d).drop 4 = enc4 h ++ [UInt8.ofNat d, 0, 0, 0, 0] := rfl
  rw [this]; exact dec_enc (by omega) _
 have e8 : at_ (hdr w h d) 8 = d := by
  show (UInt8.ofNat d).toNat = d
  rcases hd with rfl | rfl <;> rfl
 have e9 : at_ (hdr w h d) 9 = 0 := rfl
 have e10 : at_ (hdr w h d) 10 = 0 := rfl
 have e11 : at_ (hdr w h d) 11 = 0 := rfl
 have e12 : at_ (hdr w h d) 12 = 0 := rfl
 unfold img
 rw [e1, e2, e8, e9, e10, e11, e12, if_neg (by omega), if_neg (by omega), if_neg (by omega), if_neg (by decide), hu]
 simp only
 rw [if_neg (by omega), hr]
theorem unw_wrv {l : List UInt8} {lim : Nat} (hl : l.length ≤ 32768) (hlim : lim ≤ 16777216) (h : l.length ≤ lim) : Df.unw (Df.wrv l 2) (lim : Int) = .ok l := by
 have := Df.unw_head (l := l) (m := Df.ad4 l) (lv := 2) (lim := lim) (by decide) hl hlim h (by simp [Df.ad4])
 rw [if_neg (by simp [Df.ad4]), if_neg (by rw [List.take_of_length_le (by simp [Df.ad4])]; simp), if_neg (by simp [Df.ad4])] at this
 have e : Df.wrv l 2 = [120, Df.b1 2] ++ Df.cmp l 2 ++ Df.ad4 l := by rw [Df.wrv, if_neg (by omega)]; rfl
 rw [e]; exact this
theorem let4_H : let4 tH := by decide
theorem let4_D : let4 tD := by decide
theorem let4_E : let4 tE := by decide
section
variable {pix : List UInt8} {w h : Nat}
theorem dta_small (hn : pix.length = w * h) (hw : 1 ≤ w) (hs : pix.length ≤ 3000) (hh : 1 ≤ h) : (dta pix w (dep pix) h).length = h * wid w (dep pix) ∧ h * wid w (dep pix) ≤ 6000 ∧ w ≤ 3000 ∧ h ≤ 3000 := by
  have hd : dep pix = 8 ∨ dep pix = 1 := (dep_cases pix).imp id (fun h => h.1)
  refine ⟨dta_len hn hd h (Nat.le_refl _), ?_, ?_, ?_⟩
  · have h1 : wid w (dep pix) ≤ 2 * w := by unfold wid; rcases hd with e | e <;> rw [e] <;> omega
    have h2 := Nat.mul_le_mul_left h h1
    have h3 : h * (2 * w) = 2 * (w * h) := by rw [Nat.mul_left_comm, Nat.mul_comm h w]
    omega
  · have := Nat.mul_le_mul_left w hh; omega
  have := Nat.mul_le_mul_right h hw; omega
theorem wrv_len (hl : (dta pix w (dep pix) h).length ≤ 32768) : (Df.wrv (dta pix w (dep pix) h) 2).length ≤ 1000006 := by
 have := Df.cmp_len hl (lv := 2) (by decide)
 have e : Df.wrv (dta pix w (dep pix) h) 2 = [120, Df.b1 2] ++ Df.cmp (dta pix w (dep pix) h) 2 ++ Df.ad4 (dta pix w (dep pix) h) := by rw [Df.wrv, if_neg (by omega)]; rfl
 rw [e]
 simp only [List.length_append, List.length_cons, List.length_nil, Df.ad4]; omega
theorem wck_gd (w h : Nat) (pix : List UInt8) : gd (wck w h pix) := ⟨let4_H, by show tH ≠ tE; decide, let4_D, by show tD ≠ tE; decide, let4_E, rfl, rfl⟩
theorem wck_jn (hl : (dta pix w (dep pix) h).length ≤ 32768) : jn (wck w h pix) = .ok (wri w h pix) := by
 have h1 := wrv_len hl
 have hs : csz (wck w h pix) = 49 + (Df.wrv (dta pix w (dep pix) h) 2).length := by
  unfold wck
  rw [csz_cons, csz_cons, csz_cons, csz_nil]
  simp only [hdr_len, List.length_nil]; omega
 unfold jn
 rw [if_neg (by show ¬ 1024 < 3; omega), if_neg (Classical.not_not.2 (wck_gd w h pix)), if_neg (by omega)]; rfl
theorem img_wri (hn : pix.length = w * h) (hw : 1 ≤ w) (hh : 1 ≤ h) (hs : pix.length ≤ 3000) : img (hdr w h (dep pix)) (Df.wrv (dta pix w (dep pix) h) 2) true = .ok (w, h, pix) := by
 obtain ⟨a, b, c, d⟩ := dta_small hn hw hs hh
 have hd : dep pix = 8 ∨ dep pix = 1 := (dep_cases pix).imp id (fun h => h.1)
 have hr := rwk_dta hn (dep_cases pix) h (Nat.le_refl _)
 have := img_hdr (z := Df.wrv (dta pix w (dep pix) h) 2) ⟨hw, by omega⟩ ⟨hh, by omega⟩ (by omega) hd (unw_wrv (by omega) (by omega) (by omega)) a hr
 rw [this, Nat.mul_comm h w, ← hn, List.take_length]
theorem rdi_wri (hn : pix.length = w * h) (hw : 1 ≤ w) (hh : 1 ≤ h) (hs : pix.length ≤ 3000) : rdi (wri w h pix) = .ok (w, h, pix) := by
 obtain ⟨a, b, c, d⟩ := dta_small hn hw hs hh
 have h1 := rdf_jn (wck_jn (pix := pix) (w := w) (h := h) (by omega))
 unfold rdi
 rw [h1]
 unfold wck
 simp only
 have hf : fmd 0 [(tD, Df.wrv (dta pix w (dep pix) h) 2), (tE, [])] = true := by
  simp [fmd, tD, tE, tH]
 have hdt : dtc [(tD, Df.wrv (dta pix w (dep pix) h) 2), (tE, [])] = Df.wrv (dta pix w (dep pix) h) 2 := by
  simp [dtc, tD, tE]
 have ha : anyD [(tD, Df.wrv (dta pix w (dep pix) h) 2), (tE, ([] : List UInt8))] = true := by simp [anyD]
 rw [if_neg (by rw [hf, hdr_len]; simp), hdt, ha]
 exact img_wri hn hw hh hs
end
end Pg
end Go.Proofs.YtajklleiifhipaaGreatDoor
