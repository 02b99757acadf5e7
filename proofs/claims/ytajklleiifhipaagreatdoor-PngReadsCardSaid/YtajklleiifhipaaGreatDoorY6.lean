/- Texts of the claim, laid together: Pf6, Df1, Df2, Pf9. -/
import Derived.Test.YtajklleiifhipaaGreatDoorProg
import Derived.Test.YtajklleiifhipaaGreatDoorY0
import Derived.Test.YtajklleiifhipaaGreatDoorY3
import Derived.Test.YtajklleiifhipaaGreatDoorY4
import Derived.Test.YtajklleiifhipaaGreatDoorY5
set_option linter.unusedSimpArgs false
set_option linter.unusedVariables false
namespace Go.Proofs.YtajklleiifhipaaGreatDoor
open Go.RowKit Sym
theorem cdl_get {l : List Nat} {i : Nat} (h : i < (Pf.cdl l).length) : (Pf.cdl l)[i] = (Pf.code l i : Int) := by simp [Pf.cdl, tab]
theorem cdl_len (l : List Nat) : (Pf.cdl l).length = l.length := tab_len _ _
theorem shr_nat {c k : Nat} (hk : k ≤ 62) : (c : Int) / 2 ^ min ((k : Int)).toNat IntKind.i64.bits = ((c / 2 ^ k : Nat) : Int) := by
 have e1 : min ((k : Int)).toNat IntKind.i64.bits = k := by rw [Int.toNat_natCast]; simp [IntKind.bits]; omega
 rw [e1]; simp
theorem band1 (m : Nat) (h : m ≤ 9223372036854775807) : bits .and .i64 (m : Int) 1 = ((m % 2 : Nat) : Int) := by
 have h1 := i64_and_nat m 1 (by omega) (by omega)
 rw [Nat.and_one_is_mod] at h1
 exact h1
def bt (c n a : Nat) : Bool := decide (c / 2 ^ (n - 1 - a) % 2 = 1)
def btv (c n : Nat) : List Bool := tab n (bt c n)
theorem btv_len (c n : Nat) : (btv c n).length = n := tab_len _ _
theorem code_big {l : List Nat} (h : ∀ n ∈ l, n ≤ 30) (hk : Pf.kr l ≤ 1073741824) (i : Nat) : Pf.code l i ≤ 1073741824 := by
 by_cases hi : i ∈ Pf.od l
 · exact Nat.le_of_lt (Pf.code_le h hk hi)
 unfold Pf.code
 split
 · omega
 exact Nat.le_trans (Nat.div_le_self _ _) (Pf.Kp_le h hk (by rw [List.idxOf_eq_length hi]; exact Nat.le_refl _))
def bvl (bs : List Bool) : Nat := bs.foldl (fun v x => 2 * v + (if x then 1 else 0)) 0
def tkv (b : List Bool) (at_ n : Nat) : Nat := bvl ((b.drop at_).take n)
theorem tkv_zero (b : List Bool) (a : Nat) : tkv b a 0 = 0 := by simp [tkv, bvl]
theorem tkv_succ {b : List Bool} {a n : Nat} (h : a + n < b.length) : tkv b a (n + 1) = 2 * tkv b a n + (if b[a + n] then 1 else 0) := by
 unfold tkv bvl
 rw [← List.take_append_getElem (show n < (b.drop a).length by rw [List.length_drop]; omega), List.foldl_append, List.getElem_drop]; rfl
theorem tkv_lt {b : List Bool} {a : Nat} : ∀ {n : Nat}, a + n ≤ b.length → tkv b a n < 2 ^ n := by
 intro n
 induction n with
 | zero => intro _; rw [tkv_zero]; decide
 | succ n ih =>
  intro h
  have := ih (by omega)
  rw [tkv_succ (by omega), Nat.pow_succ]
  split <;> omega
theorem tkv_40 {b : List Bool} {a n : Nat} (hn : n ≤ 40) (h : a + n ≤ b.length) : tkv b a n < 1099511627776 := by
 have h1 := tkv_lt h
 have h2 : 2 ^ n ≤ 2 ^ 40 := Nat.pow_le_pow_right (by decide) hn
 omega
end Go.Proofs.YtajklleiifhipaaGreatDoor
namespace Go.Proofs.YtajklleiifhipaaGreatDoor
open Go.RowKit Sym
theorem elem_Tuint8 : Elem Tryz.prog 5 1 1 := elem_of (z := .int .u8 0) (by kernel_rfl) rfl (by decide)
theorem shl_u8 {a k c : Nat} (hk : k ≤ 7) (e : a * 2 ^ k = c) (hc : c ≤ 255) : IntKind.u8.wrap ((a : Int) * 2 ^ min ((k : Int)).toNat IntKind.u8.bits) = (c : Int) := by
 have e1 : min ((k : Int)).toNat IntKind.u8.bits = k := by rw [Int.toNat_natCast]; simp [IntKind.bits]; omega
 have e2 : (a : Int) * 2 ^ k = (c : Int) := by rw [← e]; simp
 rw [e1, e2]; exact IntWalk.u8_in _ (by omega)
theorem or_u8 {a x k : Nat} (hk : k ≤ 7) (ha : a < 2 ^ k) (hx : x ≤ 1) : bits .or .u8 (a : Int) ((x * 2 ^ k : Nat) : Int) = ((a + x * 2 ^ k : Nat) : Int) := by
 have h1 : 2 ^ k ≤ 2 ^ 7 := Nat.pow_le_pow_right (by decide) hk
 have h2 : x * 2 ^ k ≤ 1 * 2 ^ k := Nat.mul_le_mul_right _ hx
 rw [u8_or_nat _ _ (by omega) (by omega), Nat.or_comm, Nat.mul_comm, ← Nat.two_pow_add_eq_or_of_lt ha, Nat.add_comm]
def fr (B : List Bool) : Int := (((8 - B.length % 8) % 8 : Nat) : Int)
theorem fr_snoc {B : List Bool} {x : Bool} : (((8 - B.length % 8) - 1 : Nat) : Int) = fr (B ++ [x]) := by
 unfold fr; rw [List.length_append, List.length_singleton]; omega
theorem ofNat_u8 {n : Nat} (h : n ≤ 255) : u8 (UInt8.ofNat n) = .int .u8 (n : Int) := by
 have : (UInt8.ofNat n).toNat = n := by simp; omega
 unfold u8; rw [this]
theorem bit_mul (c i r : Nat) : c / 2 ^ i % 2 * 2 ^ r = if Df.bit c i then 2 ^ r else 0 := by
 unfold Df.bit
 by_cases h : c / 2 ^ i % 2 = 1
 · rw [if_pos (decide_eq_true h), h, Nat.one_mul]
 have : c / 2 ^ i % 2 = 0 := by omega
 rw [if_neg (by rw [decide_eq_true_eq]; exact h), this, Nat.zero_mul]
set_option maxHeartbeats 1000000 in
set_option maxRecDepth 4000 in
theorem bits_ret (b : Nat) (vo : Value) (B : List Bool) (c n : Nat) (w : World) (hs : Sep w [Rg.blk b 81 [vo, i64 (fr B)], Rg.sl u8 5 vo (Df.pk B)]) (hc : c ≤ 9223372036854775807) (hn : n ≤ 62) (hl : B.length + n ≤ 1099511627776) :
  Ret Tryz.prog 62 #[pv b, i64 c, i64 n] w fun v w' => ∃ vn, M w (fpU [Rg.blk b 81 [vo, i64 (fr B)], Rg.sl u8 5 vo (Df.pk B)]) w' [Rg.blk b 81 [vn, i64 (fr (B ++ Df.low c n))], Rg.sl u8 5 vn (Df.pk (B ++ Df.low c n))] := by
 have hM := M.startS hs
 refine enter Tryz.func62 rfl (by kernel_rfl) Tryz.ntmps62 rfl $ Kb $ Kf rfl $ Ka $ C.block $ C.loop2 [(0, _), (1, _), (7, _)] rfl (fun (i : Nat) (vs : Value) => [(8, i64 i)]) (fun (i : Nat) (vs : Value) w' => M w (fpU [Rg.blk b 81 [vo, i64 (fr B)], Rg.sl u8 5 vo (Df.pk B)]) w' [Rg.blk b 81 [vs, i64 (fr (B ++ Df.low c i))], Rg.sl u8 5 vs (Df.pk (B ++ Df.low c i))] ∧ i ≤ n) (fun (i : Nat) (vs : Value) => n - i) 0 vo ?_ ?_ ?_
 · exact S1 rfl
 · exact ⟨hM.to (by rw [show Df.low c 0 = [] from rfl, List.append_nil]), Nat.zero_le _⟩
 rintro i vs w0 ⟨hM, hi⟩
 refine Kb $ Kp rfl $ Ka $ C.seq $ C.cond' rfl (fun hC0 => ?_) (fun hC0 => ?_)
 ·
  obtain ⟨Bi, hBi⟩ : ∃ X, X = B ++ Df.low c i := ⟨_, rfl⟩
  rw [← hBi] at hM
  have hBl : Bi.length = B.length + i := by rw [hBi, List.length_append, Df.low_len]
  have hsn : B ++ Df.low c (i + 1) = Bi ++ [Df.bit c i] := by rw [hBi, Df.low_succ, List.append_assoc]
  have hdv : c / 2 ^ i ≤ c := Nat.div_le_self _ _
  refine Kk $ C.seq $ C.block $ Kb $ Km rfl $ Kc rfl $ C.cut1 [(0, _), (1, _), (6, _), (7, _), (8, _)] rfl (fun (vk : Value) => []) (fun (vk : Value) w' => M w (fpU [Rg.blk b 81 [vo, i64 (fr B)], Rg.sl u8 5 vo (Df.pk B)]) w' [Rg.blk b 81 [vk, i64 ((8 - Bi.length % 8 : Nat) : Int)], Rg.sl u8 5 vk (Df.pkx Bi)]) ?_ ?_
  ·
   refine Kb $ Km rfl $ E.nilc rfl rfl $ E.fld (o := 1) (sz := 0) rfl Tryz.underlying81 rfl rfl (by kernel_rfl) rfl $ E.load rfl U3 rfl (hM.bcell 0 rfl rfl) rfl $ Kp rfl $ Ka $ C.cond' rfl (fun hC1 => ?_) (fun hC1 => ?_)
   ·
    have h0 : Bi.length % 8 = 0 := by unfold fr at hC1; omega
    have hpl := Df.pk_len Bi
    refine Kb $ Kf rfl $ E.nilc rfl rfl $ E.fld (o := 0) (sz := 0) rfl Tryz.underlying81 rfl rfl (by kernel_rfl) rfl $ E.load rfl U22 rfl (hM.bcell 0 rfl rfl) rfl $ E.pushM (enc := u8) 1 0 hM rfl rfl rfl U22 elem_Tuint8 rfl (by omega) (by omega) (by simp) rfl rfl ?_
    intro v22 u22 w1 hM
    try dsimp only [Za, Zb, Zc, Zd, repl] at hM
    refine E.nilc rfl rfl $ E.fld (o := 0) (sz := 0) rfl Tryz.underlying81 rfl rfl (by kernel_rfl) rfl $ E.storeM 0 hM rfl rfl rfl (by kernel_rfl) (hM.sl 1 rfl).one rfl ?_
    intro w2 hM
    try dsimp only [Za, Zb, Zc, Zd, repl] at hM
    refine Ka $ C.region $ Km rfl $ E.nilc rfl rfl $ E.fld (o := 1) (sz := 0) rfl Tryz.underlying81 rfl rfl (by kernel_rfl) rfl $ E.storeM 0 hM rfl rfl rfl (by kernel_rfl) rfl rfl ?_
    intro w3 hM
    try dsimp only [Za, Zb, Zc, Zd, repl] at hM
    refine E.nil $ X.join1 v22 (Sub.nil _) rfl (hM.to (by rw [Df.pkx_new h0, h0]; rfl))
   have h0 : ¬ Bi.length % 8 = 0 := by unfold fr at hC1; omega
   refine C.skip $ X.join1 vs (Sub.nil _) rfl (hM.to (by rw [Df.pkx_old h0]; unfold fr; rw [show (8 - Bi.length % 8) % 8 = 8 - Bi.length % 8 by omega]))
  rintro vk w4 hM
  have hxl := Df.pkx_len Bi
  have hpr := Df.pb_r Bi
  have hpg : u8 ((Df.pkx Bi)[Bi.length / 8]'(by omega)) = .int .u8 (Df.pb Bi (Bi.length / 8) : Int) := by unfold u8; rw [Df.pkx_get (B := Bi) (by omega)]
  refine C.seq $ C.drawnT 25 (by kernel_rfl) (by kernel_rfl) fun wh5 hwh5 => ?_
  have hM := hM.ext hwh5
  refine S.mv rfl rfl $ S.nilc rfl rfl $ S.fld (o := 0) (sz := 0) rfl Tryz.underlying81 rfl rfl (by kernel_rfl) rfl $ S.load rfl U22 rfl (hM.bcell 0 rfl rfl) rfl $ S.mv rfl rfl $ S.nilc rfl rfl $ S.fld (o := 0) (sz := 0) rfl Tryz.underlying81 rfl rfl (by kernel_rfl) rfl $ S.load rfl U22 rfl (hM.bcell 0 rfl rfl) rfl $ S.lenv rfl (Rd.shape (hM.sl 1 rfl)) U22 rfl ?_
  rw [hxl]
  refine S.subN (a := Bi.length / 8 + 1) (b := 1) rfl rfl (by omega) rfl $ S.idx1 (k := Bi.length / 8) rfl rfl (hM.sl 1 rfl) rfl (by omega) U22 (by kernel_rfl) rfl $ S.load rfl U5 rfl ((hM.sl 1 rfl).cellA rfl (by omega)) rfl ?_
  rw [hpg]
  refine S.mv rfl rfl $ S.mv rfl rfl $ S.shr rfl rfl (by omega) (shr_nat (by omega)) rfl $ S.binw rfl rfl rfl (congrArg _ (band1 _ (by omega))) rfl $ S.conv rfl U3 U5 (IntWalk.u8_in _ (by omega)) rfl $ S.mv rfl rfl $ S.nilc rfl rfl $ S.fld (o := 1) (sz := 0) rfl Tryz.underlying81 rfl rfl (by kernel_rfl) rfl $ S.load rfl U3 rfl (hM.bcell 0 rfl rfl) rfl $ S.subN (a := 8) (b := 8 - Bi.length % 8) rfl rfl (by omega) rfl ?_
  rw [show 8 - (8 - Bi.length % 8) = Bi.length % 8 by omega]
  have hb1 : c / 2 ^ i % 2 ≤ 1 := by omega
  have hp7 : 2 ^ (Bi.length % 8) ≤ 2 ^ 7 := Nat.pow_le_pow_right (by decide) (by omega)
  have hm7 := Nat.mul_le_mul_right (2 ^ (Bi.length % 8)) hb1
  refine S.shl rfl rfl (by omega) (shl_u8 (by omega) rfl (by omega)) rfl $ S.binw rfl rfl rfl (congrArg _ (or_u8 (by omega) hpr hb1)) rfl $ S.idx1 (k := Bi.length / 8) rfl rfl (hM.sl 1 rfl) rfl (by omega) U22 (by kernel_rfl) rfl $ S.nil $ E.storeL (enc := u8) 1 (UInt8.ofNat (Df.pb Bi (Bi.length / 8) + if Df.bit c i then 2 ^ (Bi.length % 8) else 0)) hM rfl rfl (look_eq rfl (by rw [← bit_mul, ofNat_u8 (by omega)])) (by kernel_rfl) rfl rfl (by omega) ?_
  intro w6 hM
  try dsimp only [Za, Zb, Zc, Zd, repl] at hM
  rw [Df.pkx_put] at hM
  refine Ka $ C.region $ Km rfl $ E.nilc rfl rfl $ E.fld (o := 1) (sz := 0) rfl Tryz.underlying81 rfl rfl (by kernel_rfl) rfl $ E.load rfl U3 rfl (hM.bcell 0 rfl rfl) rfl $ E.subN (a := 8 - Bi.length % 8) (b := 1) rfl rfl (by omega) rfl $ E.nilc rfl rfl $ E.fld (o := 1) (sz := 0) rfl Tryz.underlying81 rfl rfl (by kernel_rfl) rfl $ E.storeM 0 hM rfl rfl rfl (by kernel_rfl) rfl rfl ?_
  intro w7 hM
  try dsimp only [Za, Zb, Zc, Zd, repl] at hM
  refine E.nil $ X.outN $ X.next $ C.region $ E.add rfl rfl (by omega) rfl $ Km rfl $ E.nil $ X.again2 (i + 1) vk (S1 rfl) rfl ⟨hM.to (by rw [hsn, ← fr_snoc]), by omega⟩ (by omega)
 obtain rfl : i = n := by omega
 refine C.exit $ X.exitT $ X.exitT $ X.outE $ end0 rfl ?_
 exact ⟨vs, hM⟩
end Go.Proofs.YtajklleiifhipaaGreatDoor
namespace Go.Proofs.YtajklleiifhipaaGreatDoor
open Go.RowKit Sym
theorem quoN {a b : Nat} (hb : 1 ≤ b) (ha : a ≤ 9223372036854775807) : IntKind.i64.wrap ((a : Int).tdiv (b : Int)) = ((a / b : Nat) : Int) := by
 rw [IntWalk.i64_quo _ _ (by omega)]; simp
theorem remN {a b : Nat} : (a : Int).tmod (b : Int) = ((a % b : Nat) : Int) := by rw [Int.tmod_eq_emod_of_nonneg (by omega)]; simp
theorem low_bt (c n j : Nat) : Df.low (c / 2 ^ (n - 1 - j)) 1 = [bt c n j] := by
 show [Df.bit (c / 2 ^ (n - 1 - j)) 0] = _
 unfold Df.bit bt; rw [Nat.pow_zero, Nat.div_one]
theorem low16 (t : Nat) (h : t ≤ 9223372036854775807) : bits .and .i64 (t : Int) 65535 = ((t % 65536 : Nat) : Int) := by
 have h1 := i64_and_nat t 65535 (by omega) (by omega)
 have h2 : t &&& 65535 = t % 65536 := Nat.and_two_pow_sub_one_eq_mod t 16
 rw [h2] at h1; exact h1
theorem shr16 (t : Nat) : (t : Int) / 2 ^ min (16 : Int).toNat IntKind.i64.bits = ((t / 65536 : Nat) : Int) := by
 have := shr_nat (c := t) (k := 16) (by decide)
 exact this
namespace Df
def fxl (s : Nat) : Nat := if s < 144 then 8 else if s < 256 then 9 else if s < 280 then 7 else 8
def fixL : List Nat := tab 288 fxl
def fixD : List Nat := tab 32 fun _ => 5
theorem nz_tab (n : Nat) (g : Nat → Nat) : nz (tab n g) = tab n fun i => (g i : Int) := by unfold nz tab; rw [List.map_map]; rfl
noncomputable def tb (L D : List Nat) (t : Nat) : List Bool :=
 if t ≤ 255 then btv (Pf.code L t) (L.getD t 0)
 else btv (Pf.code L (lsy (t / 65536))) (L.getD (lsy (t / 65536)) 0) ++ low (t / 65536 - lls (lsy (t / 65536))) (lxt (lsy (t / 65536)))
  ++ btv (Pf.code D (dsy (t % 65536))) (D.getD (dsy (t % 65536)) 0) ++ low (t % 65536 - dls (dsy (t % 65536))) (dxt (dsy (t % 65536)))
noncomputable def tbs (L D : List Nat) (ts : List Nat) : List Bool := ts.flatMap (tb L D)
theorem tbs_snoc {L D : List Nat} {ts : List Nat} {i : Nat} (h : i < ts.length) : tbs L D (ts.take (i + 1)) = tbs L D (ts.take i) ++ tb L D ts[i] := by
 unfold tbs; rw [← List.take_append_getElem h, List.flatMap_append]; simp
def Tok (t : Nat) : Prop := t ≤ 255 ∨ (3 ≤ t / 65536 ∧ t / 65536 ≤ 258 ∧ 1 ≤ t % 65536 ∧ t % 65536 ≤ 32768)
theorem gd30 {l : List Nat} (h : ∀ n ∈ l, n ≤ 30) (s : Nat) : l.getD s 0 ≤ 30 := by
 by_cases hs : s < l.length
 · rw [Pf.getD_eq hs]; exact h _ (List.getElem_mem hs)
 rw [List.getD_eq_getElem?_getD, List.getElem?_eq_none (by omega)]; exact Nat.zero_le _
theorem tb_len {L D : List Nat} {t : Nat} (ht : Tok t) (hL : ∀ n ∈ L, n ≤ 30) (hD : ∀ n ∈ D, n ≤ 30) : (tb L D t).length ≤ 100 := by
 have g1 := gd30 hL t; have g2 := gd30 hL (lsy (t / 65536)); have g3 := gd30 hD (dsy (t % 65536))
 unfold tb
 split
 · rw [btv_len]; omega
 rcases ht with ht | ⟨h1, h2, h3, h4⟩
 · omega
 have k1 := lx_bd (lsy (t / 65536)) (by have := lsy_spec h1 h2; omega)
 have k2 := dx_bd (dsy (t % 65536)) (by have := dsy_spec h3 h4; omega)
 simp only [List.length_append, btv_len, low_len]; omega
theorem tbs_len {L D : List Nat} (hL : ∀ n ∈ L, n ≤ 30) (hD : ∀ n ∈ D, n ≤ 30) : ∀ {ts : List Nat}, (∀ t ∈ ts, Tok t) → (tbs L D ts).length ≤ 100 * ts.length
 | [], _ => by simp [tbs]
 | t :: ts, h => by
  have h1 := tb_len (h t (by simp)) hL hD
  have h2 := tbs_len hL hD (ts := ts) fun x hx => h x (by simp [hx])
  unfold tbs at h2 ⊢
  rw [List.flatMap_cons, List.length_append, List.length_cons]; omega
end Df
theorem newCode_ret (p : Value) (zs : List Int) (w : World) (hr : RdL i64 w p zs) :
  Ret Tryz.prog 67 #[p] w fun v w' => ∃ vc, v = .agg #[p, vc] ∧ M w Nn w' [Rg.sl i64 3 vc (cdv zs)] := by
 have hM := M.start w
 refine enter Tryz.func67 rfl (by kernel_rfl) Tryz.ntmps67 rfl $ Kb $ E.allocM (z := .agg #[.slice none 0 0, .slice none 0 0]) (cs := [.slice none 0 0, .slice none 0 0]) hM (by kernel_rfl) rfl rfl ?_
 intro b2 w0 hM
 refine Ke $ Km rfl $ E.call rfl rfl (Codes_ret p zs _ (hM.arg0 hr)) ?_
 rintro _ w1 ⟨v7, rfl, m⟩
 have hM := hM.call m
 obtain ⟨pa, pc, rfl⟩ := Rd.shape hr
 obtain ⟨qa, qc, rfl⟩ := Rd.shape (hM.sl 1 rfl)
 refine Km rfl $ E.ext rfl rfl rfl $ E.ext rfl rfl rfl $ Kn rfl $ Kd rfl $ Kf rfl $ E.buildC (cs := [_, _]) [.slice none 0 0, .slice none 0 0] [0, 1] rfl rfl (by kernel_rfl) rfl $ E.storeAM 0 hM rfl rfl rfl (by kernel_rfl) rfl (ones rfl $ ones rfl $ ones_nil) ?_
 intro w2 hM
 refine Ka $ C.ret $ retA rfl rfl Tryz.underlying89 rfl (by exact hM.blk 0 rfl) (by kernel_rfl) ?_
 exact ⟨_, rfl, hM.pick [1] (by decide)⟩
set_option maxHeartbeats 1000000 in
set_option maxRecDepth 4000 in
theorem symbol_ret (b : Nat) (vo vl vc : Value) (B : List Bool) (l : List Nat) (s : Nat) (w : World) (hs : Sep w [Rg.blk b 81 [vo, i64 (fr B)], Rg.sl u8 5 vo (Df.pk B), Rg.sl i64 3 vl (nz l), Rg.sl i64 3 vc (Pf.cdl l)]) (hsl : s < l.length) (hb : ∀ n ∈ l, n ≤ 30) (hkr : Pf.kr l ≤ 1073741824) (hl : B.length ≤ 549755813888) :
  Ret Tryz.prog 98 #[pv b, .agg #[vl, vc], i64 s] w fun v w' => ∃ vn, M w (fpU [Rg.blk b 81 [vo, i64 (fr B)], Rg.sl u8 5 vo (Df.pk B), Rg.sl i64 3 vl (nz l), Rg.sl i64 3 vc (Pf.cdl l)]) w' [Rg.blk b 81 [vn, i64 (fr (B ++ btv (Pf.code l s) (l.getD s 0)))], Rg.sl u8 5 vn (Df.pk (B ++ btv (Pf.code l s) (l.getD s 0))), Rg.sl i64 3 vl (nz l), Rg.sl i64 3 vc (Pf.cdl l)] := by
 have hM := M.startS hs
 refine enter Tryz.func98 rfl (by kernel_rfl) Tryz.ntmps98 rfl $ Kb $ ?_
 have hnl := nz_len l
 have hcl := cdl_len l
 have hbs := hb l[s] (List.getElem_mem hsl)
 have hcb := code_big hb hkr s
 have hgd := Pf.getD_eq hsl
 refine E.boxM hM rfl rfl rfl ?_
 intro b4 w0 hM
 try dsimp only [Za, Zb, Zc, Zd, repl] at hM
 refine Ke $ E.fld (o := 0) (sz := 0) rfl Tryz.underlying89 rfl rfl (by kernel_rfl) rfl $ E.load rfl U76 rfl (hM.bcell 4 rfl rfl) rfl $ Km rfl $ E.get (k := s) rfl rfl (hM.sl 2 rfl) rfl (by omega) U76 (by kernel_rfl) U3 rfl rfl rfl ?_
 rw [nz_get hsl]
 refine E.sub' rfl rfl (by omega) rfl $ Kc rfl $ C.block $ C.loop2 [(0, _), (2, _), (4, _)] rfl (fun (j : Nat) (vs : Value) => [(6, i64 ((l[s] : Int) - 1 - j))]) (fun (j : Nat) (vs : Value) w' => M w (fpU [Rg.blk b 81 [vo, i64 (fr B)], Rg.sl u8 5 vo (Df.pk B), Rg.sl i64 3 vl (nz l), Rg.sl i64 3 vc (Pf.cdl l)]) w' [Rg.blk b 81 [vs, i64 (fr (B ++ tab j (bt (Pf.code l s) l[s])))], Rg.sl u8 5 vs (Df.pk (B ++ tab j (bt (Pf.code l s) l[s]))), Rg.sl i64 3 vl (nz l), Rg.sl i64 3 vc (Pf.cdl l), Rg.blk b4 89 [vl, vc]] ∧ j ≤ l[s]) (fun (j : Nat) (vs : Value) => l[s] - j) 0 vo ?_ ?_ ?_
 · exact Sub.cons (look_val rfl (by omega)) $ Sub.nil _
 · exact ⟨hM.to (by rw [tab_zero, List.append_nil]), Nat.zero_le _⟩
 rintro j vs w1 ⟨hM, hj⟩
 refine C.seq $ Kb $ Km rfl $ Kp rfl $ Ka $ C.cond' rfl (fun hC0 => ?_) (fun hC0 => ?_)
 ·
  have hjn : j < l[s] := by omega
  have e9 : (l[s] : Int) - 1 - j = ((l[s] - 1 - j : Nat) : Int) := by omega
  rw [e9]
  have hdv : Pf.code l s / 2 ^ (l[s] - 1 - j) ≤ Pf.code l s := Nat.div_le_self _ _
  refine Kk $ C.seq $ C.block $ C.region $ Km rfl $ E.fld (o := 1) (sz := 0) rfl Tryz.underlying89 rfl rfl (by kernel_rfl) rfl $ E.load rfl U76 rfl (hM.bcell 4 rfl rfl) rfl $ Km rfl $ E.get (k := s) rfl rfl (hM.sl 3 rfl) rfl (by omega) U76 (by kernel_rfl) U3 rfl rfl rfl ?_
  rw [cdl_get]
  refine Km rfl $ E.shr rfl rfl (by omega) (shr_nat (by omega)) rfl $ E.call rfl rfl (bits_ret b vs (B ++ tab j (bt (Pf.code l s) l[s])) (Pf.code l s / 2 ^ (l[s] - 1 - j)) 1 _ (hM.pick [0, 1] (by decide)).sep (by omega) (by decide) (by rw [List.length_append, tab_len]; omega)) ?_
  rintro _ w1 ⟨vn, m⟩
  have hM := hM.calls [0, 1] (by decide) rfl (by simp) m
  try dsimp only [Za, Zb, Zc, Zd, repl] at hM
  rw [low_bt, List.append_assoc, ← tab_succ] at hM
  try dsimp only [Za, Zb, Zc, Zd, repl] at hM
  refine E.nil $ X.outN $ X.next $ C.region $ Km rfl $ E.sub' rfl rfl (by omega) rfl $ Kn rfl $ E.nil $ X.again2 (j + 1) vn (Sub.cons (look_val rfl (by omega)) $ Sub.nil _) rfl ⟨hM, by omega⟩ (by omega)
 obtain rfl : j = l[s] := by omega
 refine C.exit $ X.exitT $ X.exitT $ X.outE $ end0 rfl ?_
 exact ⟨vs, by rw [hgd]; exact hM.pick [0, 1, 2, 3] (by decide)⟩
theorem lengthOf_ret (s : Nat) (w : World) (h1 : 257 ≤ s) (h2 : s ≤ 285) :
  Ret Tryz.prog 99 #[i64 s] w fun v w' => v = .tuple #[i64 (Df.lxt s : Int), i64 (Df.lls s : Int)] ∧ Ext w w' := by
 have hM := M.start w
 refine enter Tryz.func99 rfl (by kernel_rfl) Tryz.ntmps99 rfl $ Kb $ Kn rfl $ Kc rfl $ C.seq $ C.block $ Kb $ Km rfl $ Kp rfl $ Kc rfl $ C.cond' rfl (fun hC0 => ?_) (fun hC0 => ?_)
 ·
  refine Kb $ Kn rfl $ Kc rfl $ C.ret $ X.retB $ X.retT $ ret2 rfl rfl rfl ?_
  exact ⟨by (have e : s = 285 := (by omega)); subst e; rfl, hM.toExt⟩
 refine Kb $ Km rfl $ Kp rfl $ Kc rfl $ C.cond' rfl (fun hC1 => ?_) (fun hC1 => ?_)
 ·
  refine Kb $ Km rfl $ E.subN (a := s) (b := 257) rfl rfl (by omega) rfl $ E.addN (b := 3) rfl rfl (by omega) rfl $ Kn rfl $ Kc rfl $ C.ret $ X.retB $ X.retT $ ret2 rfl rfl rfl ?_
  exact ⟨by rw [Df.lxt, if_neg (by omega), if_pos (by omega), Df.lls, if_neg (by omega), if_pos (by omega), show s - 257 + 3 = s - 254 by omega]; rfl, hM.toExt⟩
 refine C.skip $ X.outN $ X.next $ Kb $ Km rfl $ E.subN (a := s) (b := 261) rfl rfl (by omega) rfl $ E.quo rfl rfl (by omega) (quoN (b := 4) (by omega) (by omega)) rfl $ Kc rfl $ C.seq $ C.drawn (by kernel_rfl) (by kernel_rfl) $ Q.mv rfl rfl $ Q.mv rfl rfl $ Q.subN (a := s) (b := 261) rfl rfl (by omega) rfl $ Q.rem rfl rfl (by omega) (remN (b := 4)) rfl $ Q.addN (a := 4) (b := (s - 261) % 4) rfl rfl (by omega) rfl $ Q.mv rfl rfl $ ?_
 have hp : 2 ^ ((s - 261) / 4) ≤ 2 ^ 6 := Nat.pow_le_pow_right (by decide) (by omega)
 have hp2 := Nat.mul_le_mul (show 4 + (s - 261) % 4 ≤ 7 by omega) hp
 refine Q.shl rfl rfl (by omega) (shl_nat (a := 4 + (s - 261) % 4) (k := (s - 261) / 4) (by omega) rfl (by omega)) rfl $ Q.addN (a := 3) (b := (4 + (s - 261) % 4) * 2 ^ ((s - 261) / 4)) rfl rfl (by omega) rfl $ Q.asg rfl rfl $ Q.asg rfl rfl $ Q.nil $ fun w0 hx0 => ?_
 have hM := hM.ext hx0
 refine X.next $ C.ret $ ret2 rfl rfl rfl ?_
 exact ⟨by rw [Df.lxt, Df.lls, if_neg (by omega), if_neg (by omega), if_neg (by omega), if_neg (by omega)], hM.toExt⟩
theorem distanceOf_ret (s : Nat) (w : World) (h2 : s ≤ 29) :
  Ret Tryz.prog 100 #[i64 s] w fun v w' => v = .tuple #[i64 (Df.dxt s : Int), i64 (Df.dls s : Int)] ∧ Ext w w' := by
 have hM := M.start w
 refine enter Tryz.func100 rfl (by kernel_rfl) Tryz.ntmps100 rfl $ Kb $ Kn rfl $ Kc rfl $ C.seq $ Kb $ Km rfl $ Kp rfl $ Ka $ C.cond' rfl (fun hC0 => ?_) (fun hC0 => ?_)
 ·
  refine Kb $ Km rfl $ E.addN (b := 1) rfl rfl (by omega) rfl $ Kn rfl $ Kc rfl $ C.ret $ X.retT $ ret2 rfl rfl rfl ?_
  exact ⟨by rw [Df.dxt, Df.dls, if_pos (by omega), if_pos (by omega)]; rfl, hM.toExt⟩
 refine Kk $ Kb $ Km rfl $ E.quo rfl rfl (by omega) (quoN (b := 2) (by omega) (by omega)) rfl $ E.subN (a := s / 2) (b := 1) rfl rfl (by omega) rfl $ Kc rfl $ C.seq $ C.drawn (by kernel_rfl) (by kernel_rfl) $ Q.mv rfl rfl $ Q.mv rfl rfl $ Q.rem rfl rfl (by omega) (remN (b := 2)) rfl $ Q.addN (a := 2) (b := s % 2) rfl rfl (by omega) rfl $ Q.mv rfl rfl $ ?_
 have hp : 2 ^ (s / 2 - 1) ≤ 2 ^ 13 := Nat.pow_le_pow_right (by decide) (by omega)
 have hp2 := Nat.mul_le_mul (show 2 + s % 2 ≤ 3 by omega) hp
 refine Q.shl rfl rfl (by omega) (shl_nat (a := 2 + s % 2) (k := s / 2 - 1) (by omega) rfl (by omega)) rfl $ Q.addN (a := 1) (b := (2 + s % 2) * 2 ^ (s / 2 - 1)) rfl rfl (by omega) rfl $ Q.asg rfl rfl $ Q.asg rfl rfl $ Q.nil $ fun w0 hx0 => ?_
 have hM := hM.ext hx0
 refine X.next $ C.ret $ ret2 rfl rfl rfl ?_
 exact ⟨by rw [Df.dxt, Df.dls, if_neg (by omega), if_neg (by omega)], hM.toExt⟩
theorem lengthSymbol_ret (n : Nat) (w : World) (h1 : 3 ≤ n) (h2 : n ≤ 258) :
  Ret Tryz.prog 93 #[i64 n] w fun v w' => v = i64 (Df.lsy n : Int) ∧ Ext w w' := by
 have hM := M.start w
 refine enter Tryz.func93 rfl (by kernel_rfl) Tryz.ntmps93 rfl $ Kb $ Kd rfl $ Kc rfl $ C.block $ C.loop1 [(0, _)] rfl (fun (s : Nat) => [(3, i64 s)]) (fun (s : Nat) w' => M w (Nn) w' [] ∧ 257 ≤ s ∧ s ≤ 285 ∧ Df.sgo Df.lls n s = Df.lsy n) (fun (s : Nat) => s) 285 ?_ ?_ ?_
 · exact S1 rfl
 · exact ⟨hM, by omega, by omega, rfl⟩
 rintro s w0 ⟨hM, hs1, hs2, hsg⟩
 refine C.seq $ C.block $ Kb $ Km rfl $ E.call rfl rfl (lengthOf_ret s _ hs1 hs2) ?_
 rintro _ w1 ⟨rfl, x1⟩
 have hM := hM.ext x1
 refine Km rfl $ E.ext rfl rfl rfl $ E.ext rfl rfl rfl $ Kn rfl $ Kd rfl $ Kf rfl $ Kp rfl $ Ka $ C.cond' rfl (fun hC0 => ?_) (fun hC0 => ?_)
 ·
  have hfin : Df.lsy n = s := by
   obtain ⟨q, rfl⟩ : ∃ q, s = q + 1 := ⟨s - 1, by omega⟩
   rw [← hsg, Df.sgo, if_pos (by omega)]
  refine Kb $ Km rfl $ Kc rfl $ C.ret $ X.retB $ X.retT $ X.retT $ X.retB $ ret1 rfl rfl ?_
  exact ⟨by rw [hfin], hM.toExt⟩
 have hne : s ≠ 257 := by rintro rfl; exact hC0 (by (have : Df.lls 257 = 3 := (by decide)); omega)
 have hsg' : Df.sgo Df.lls n (s - 1) = Df.lsy n := by
  obtain ⟨q, rfl⟩ : ∃ q, s = q + 1 := ⟨s - 1, by omega⟩
  rw [← hsg, Df.sgo, if_neg (by omega)]; rfl
 refine C.skip $ X.outN $ X.next $ C.region $ Km rfl $ E.subN (a := s) (b := 1) rfl rfl (by omega) rfl $ Kn rfl $ E.nil $ X.again1 (s - 1) (S1 rfl) rfl ⟨hM, by omega, by omega, hsg'⟩ (by omega)
theorem distanceSymbol_ret (n : Nat) (w : World) (h1 : 1 ≤ n) :
  Ret Tryz.prog 94 #[i64 n] w fun v w' => v = i64 (Df.dsy n : Int) ∧ Ext w w' := by
 have hM := M.start w
 refine enter Tryz.func94 rfl (by kernel_rfl) Tryz.ntmps94 rfl $ Kb $ Kd rfl $ Kc rfl $ C.block $ C.loop1 [(0, _)] rfl (fun (s : Nat) => [(3, i64 s)]) (fun (s : Nat) w' => M w (Nn) w' [] ∧ s ≤ 29 ∧ Df.sgo Df.dls n s = Df.dsy n) (fun (s : Nat) => s) 29 ?_ ?_ ?_
 · exact S1 rfl
 · exact ⟨hM, by omega, rfl⟩
 rintro s w0 ⟨hM, hs2, hsg⟩
 refine C.seq $ C.block $ Kb $ Km rfl $ E.call rfl rfl (distanceOf_ret s _ hs2) ?_
 rintro _ w1 ⟨rfl, x1⟩
 have hM := hM.ext x1
 refine Km rfl $ E.ext rfl rfl rfl $ E.ext rfl rfl rfl $ Kn rfl $ Kd rfl $ Kf rfl $ Kp rfl $ Ka $ C.cond' rfl (fun hC0 => ?_) (fun hC0 => ?_)
 ·
  have hfin : Df.dsy n = s := by
   cases s with
   | zero => rw [← hsg]; rfl
   | succ q => rw [← hsg, Df.sgo, if_pos (by omega)]
  refine Kb $ Km rfl $ Kc rfl $ C.ret $ X.retB $ X.retT $ X.retT $ X.retB $ ret1 rfl rfl ?_
  exact ⟨by rw [hfin], hM.toExt⟩
 have hne : s ≠ 0 := by rintro rfl; exact hC0 (by (have : Df.dls 0 = 1 := (by decide)); omega)
 have hsg' : Df.sgo Df.dls n (s - 1) = Df.dsy n := by
  obtain ⟨q, rfl⟩ : ∃ q, s = q + 1 := ⟨s - 1, by omega⟩
  rw [← hsg, Df.sgo, if_neg (by omega)]; rfl
 refine C.skip $ X.outN $ X.next $ C.region $ Km rfl $ E.subN (a := s) (b := 1) rfl rfl (by omega) rfl $ Kn rfl $ E.nil $ X.again1 (s - 1) (S1 rfl) rfl ⟨hM, by omega, hsg'⟩ (by omega)
set_option maxHeartbeats 1000000 in
theorem fixedLengths_ret (w : World) :
  Ret Tryz.prog 63 #[] w fun v w' => ∃ v4 v5, v = .tuple #[v4, v5] ∧ M w Nn w' [Rg.sl i64 3 v4 (nz Df.fixL), Rg.sl i64 3 v5 (nz Df.fixD)] := by
 have hM := M.start w
 refine enter Tryz.func63 rfl (by kernel_rfl) Tryz.ntmps63 rfl $ Kb $ Kn rfl $ Kc rfl $ C.cut2 [] rfl (fun (v4 : Value) (v5 : Value) => [(0, v4), (1, v5)]) (fun (v4 : Value) (v5 : Value) w' => M w (Nn) w' [Rg.sl i64 3 v4 (List.replicate 288 0), Rg.sl i64 3 v5 (List.replicate 32 0)]) ?_ ?_
 ·
  refine C.heldE (by kernel_rfl) fun wh0 hwh0 _ => ?_
  have hS := hwh0
  have hM0 := hM
  have hM := M.ofExt hwh0
  refine H.two 0 1 rfl rfl (by kernel_rfl) ?_ ?_
  ·
   refine E.makeM (by_ := 8) (enc := i64) 0 hM rfl U76 (by kernel_rfl) rfl (by (simp only [List.length_replicate, List.length_append, List.length_set, List.length_cons, List.length_nil, List.length_map, List.length_range, List.length_take, List.length_drop, List.length_zipWith] at *; omega)) (by (simp only [List.length_replicate, List.length_append, List.length_set, List.length_cons, List.length_nil, List.length_map, List.length_range, List.length_take, List.length_drop, List.length_zipWith] at *; omega)) rfl ?_
   intro v4 w1 hM
   try dsimp only [Za, Zb, Zc, Zd, repl] at hM
   have hS := hM.toExt
   refine H.back hS $ Kt 2 rfl (by kernel_rfl) hS (fun w' hS => by have hM := hM0.ext hS; exact Y.asg rfl) rfl $ H.only 1 rfl (by kernel_rfl) $ E.makeM (by_ := 8) (enc := i64) 0 hM rfl U76 (by kernel_rfl) rfl (by (simp only [List.length_replicate, List.length_append, List.length_set, List.length_cons, List.length_nil, List.length_map, List.length_range, List.length_take, List.length_drop, List.length_zipWith] at *; omega)) (by (simp only [List.length_replicate, List.length_append, List.length_set, List.length_cons, List.length_nil, List.length_map, List.length_range, List.length_take, List.length_drop, List.length_zipWith] at *; omega)) rfl ?_
   intro v5 w2 hM
   try dsimp only [Za, Zb, Zc, Zd, repl] at hM
   have hS := hM.toExt
   refine H.back hS $ Kt 3 rfl (by kernel_rfl) hS (fun w' hS => by have hM := hM0.ext hS; exact Y.asg rfl) rfl $ H.done (by kernel_rfl) ?_
   have hM := hM0.call hM
   refine X.join2 v4 v5 (Sub.cons rfl $ S1 rfl) rfl hM
  refine E.makeM (by_ := 8) (enc := i64) 0 hM rfl U76 (by kernel_rfl) rfl (by (simp only [List.length_replicate, List.length_append, List.length_set, List.length_cons, List.length_nil, List.length_map, List.length_range, List.length_take, List.length_drop, List.length_zipWith] at *; omega)) (by (simp only [List.length_replicate, List.length_append, List.length_set, List.length_cons, List.length_nil, List.length_map, List.length_range, List.length_take, List.length_drop, List.length_zipWith] at *; omega)) rfl ?_
  intro v5 w3 hM
  try dsimp only [Za, Zb, Zc, Zd, repl] at hM
  have hS := hM.toExt
  refine H.back hS $ H.only 0 rfl (by kernel_rfl) $ E.makeM (by_ := 8) (enc := i64) 0 hM rfl U76 (by kernel_rfl) rfl (by (simp only [List.length_replicate, List.length_append, List.length_set, List.length_cons, List.length_nil, List.length_map, List.length_range, List.length_take, List.length_drop, List.length_zipWith] at *; omega)) (by (simp only [List.length_replicate, List.length_append, List.length_set, List.length_cons, List.length_nil, List.length_map, List.length_range, List.length_take, List.length_drop, List.length_zipWith] at *; omega)) rfl ?_
  intro v4 w4 hM
  try dsimp only [Za, Zb, Zc, Zd, repl] at hM
  have hS := hM.toExt
  refine H.back hS $ Kt 2 rfl (by kernel_rfl) hS (fun w' hS => by have hM := hM0.ext hS; exact Y.asg rfl) rfl $ Kt 3 rfl (by kernel_rfl) hS (fun w' hS => by have hM := hM0.ext hS; exact Y.asg rfl) rfl $ H.done (by kernel_rfl) ?_
  have hM := hM0.call hM
  refine X.join2 v4 v5 (Sub.cons rfl $ S1 rfl) rfl (hM.pick [1, 0] (by decide))
 rintro v4 v5 w5 hM
 refine C.seq $ Kb $ Km rfl $ E.lenv rfl (Rd.shape (hM.sl 0 rfl)) U76 rfl ?_
 rw [List.length_replicate]
 refine Km rfl $ Ka $ C.block $ C.loop1 [(0, _), (1, _), (7, _)] rfl (fun (k : Nat) => [(8, i64 k)]) (fun (k : Nat) w' => M w (Nn) w' [Rg.sl i64 3 v4 (tab k (fun i => (Df.fxl i : Int)) ++ List.replicate (288 - k) 0), Rg.sl i64 3 v5 (List.replicate 32 0)] ∧ k ≤ 288) (fun (k : Nat) => 288 - k) 0 ?_ ?_ ?_
 · exact S1 rfl
 · exact ⟨hM, by omega⟩
 rintro k w6 ⟨hM, hk⟩
 refine Kb $ Kp rfl $ Ka $ C.seq $ C.cond' rfl (fun hC0 => ?_) (fun hC0 => ?_)
 ·
  have hk' : k < 288 := by omega
  have htl : (tab k (fun i => (Df.fxl i : Int)) ++ List.replicate (288 - k) (0 : Int)).length = 288 := by rw [List.length_append, tab_len, List.length_replicate]; omega
  refine Kk $ C.cut0 [(0, _), (1, _), (7, _), (8, _)] rfl [] (fun w' => M w (Nn) w' [Rg.sl i64 3 v4 (tab (k + 1) (fun i => (Df.fxl i : Int)) ++ List.replicate (288 - (k + 1)) 0), Rg.sl i64 3 v5 (List.replicate 32 0)]) ?_ ?_
  ·
   refine C.block $ Kb $ Km rfl $ Kc rfl $ C.block $ Kb $ Km rfl $ Kp rfl $ Kc rfl $ C.cond' rfl (fun hC1 => ?_) (fun hC1 => ?_)
   ·
    refine C.region $ Kf rfl $ E.idx1 (k := k) rfl rfl (hM.sl 0 rfl) rfl (by rw [htl]; omega) U76 (by kernel_rfl) rfl $ E.storeL (enc := i64) 0 8 hM rfl rfl rfl (by kernel_rfl) rfl rfl (by rw [htl]; omega) ?_
    intro w7 hM
    try dsimp only [Za, Zb, Zc, Zd, repl] at hM
    refine E.nil $ X.outN $ X.outN $ X.join0  (Sub.nil _) rfl (hM.to (by rw [← tab_set hk', show ((Df.fxl k : Nat) : Int) = 8 by unfold Df.fxl; split <;> (try split) <;> (try split) <;> omega]))
   refine Kb $ Km rfl $ Kp rfl $ Kc rfl $ C.cond' rfl (fun hC2 => ?_) (fun hC2 => ?_)
   ·
    refine C.region $ Kf rfl $ E.idx1 (k := k) rfl rfl (hM.sl 0 rfl) rfl (by rw [htl]; omega) U76 (by kernel_rfl) rfl $ E.storeL (enc := i64) 0 9 hM rfl rfl rfl (by kernel_rfl) rfl rfl (by rw [htl]; omega) ?_
    intro w8 hM
    try dsimp only [Za, Zb, Zc, Zd, repl] at hM
    refine E.nil $ X.outN $ X.outN $ X.join0  (Sub.nil _) rfl (hM.to (by rw [← tab_set hk', show ((Df.fxl k : Nat) : Int) = 9 by unfold Df.fxl; split <;> (try split) <;> (try split) <;> omega]))
   refine Kb $ Km rfl $ Kp rfl $ Kc rfl $ C.cond' rfl (fun hC3 => ?_) (fun hC3 => ?_)
   ·
    refine C.region $ Kf rfl $ E.idx1 (k := k) rfl rfl (hM.sl 0 rfl) rfl (by rw [htl]; omega) U76 (by kernel_rfl) rfl $ E.storeL (enc := i64) 0 7 hM rfl rfl rfl (by kernel_rfl) rfl rfl (by rw [htl]; omega) ?_
    intro w9 hM
    try dsimp only [Za, Zb, Zc, Zd, repl] at hM
    refine E.nil $ X.outN $ X.outN $ X.join0  (Sub.nil _) rfl (hM.to (by rw [← tab_set hk', show ((Df.fxl k : Nat) : Int) = 7 by unfold Df.fxl; split <;> (try split) <;> (try split) <;> omega]))
   refine C.region $ Kf rfl $ E.idx1 (k := k) rfl rfl (hM.sl 0 rfl) rfl (by rw [htl]; omega) U76 (by kernel_rfl) rfl $ E.storeL (enc := i64) 0 8 hM rfl rfl rfl (by kernel_rfl) rfl rfl (by rw [htl]; omega) ?_
   intro w10 hM
   try dsimp only [Za, Zb, Zc, Zd, repl] at hM
   refine E.nil $ X.outN $ X.outN $ X.join0  (Sub.nil _) rfl (hM.to (by rw [← tab_set hk', show ((Df.fxl k : Nat) : Int) = 8 by unfold Df.fxl; split <;> (try split) <;> (try split) <;> omega]))
  rintro  w11 hM
  refine C.region $ E.add rfl rfl (by omega) rfl $ Km rfl $ E.nil $ X.again1 (k + 1) (S1 rfl) rfl ⟨hM, by omega⟩ (by omega)
 obtain rfl : k = 288 := by omega
 rw [show List.replicate (288 - 288) (0 : Int) = [] from rfl, List.append_nil, ← Df.nz_tab] at hM
 have hM := hM.to (show _ = [Rg.sl i64 3 v4 (nz Df.fixL), Rg.sl i64 3 v5 (List.replicate 32 0)] from rfl)
 refine Kx $ C.seq $ Kb $ Km rfl $ E.lenv rfl (Rd.shape (hM.sl 1 rfl)) U76 rfl ?_
 rw [List.length_replicate]
 refine Km rfl $ Ka $ C.block $ C.loop1 [(0, _), (1, _), (34, _)] rfl (fun (k : Nat) => [(35, i64 k)]) (fun (k : Nat) w' => M w (Nn) w' [Rg.sl i64 3 v4 (nz Df.fixL), Rg.sl i64 3 v5 (tab k (fun _ => (5 : Int)) ++ List.replicate (32 - k) 0)] ∧ k ≤ 32) (fun (k : Nat) => 32 - k) 0 ?_ ?_ ?_
 · exact S1 rfl
 · exact ⟨hM, by omega⟩
 rintro k w12 ⟨hM, hk⟩
 refine Kb $ Kp rfl $ Ka $ C.seq $ C.cond' rfl (fun hC4 => ?_) (fun hC4 => ?_)
 ·
  have hk' : k < 32 := by omega
  have htl : (tab k (fun _ => (5 : Int)) ++ List.replicate (32 - k) (0 : Int)).length = 32 := by rw [List.length_append, tab_len, List.length_replicate]; omega
  refine Kk $ C.seq $ C.block $ Kb $ Km rfl $ Kc rfl $ C.region $ Kf rfl $ E.idx1 (k := k) rfl rfl (hM.sl 1 rfl) rfl (by rw [htl]; omega) U76 (by kernel_rfl) rfl $ E.storeL (enc := i64) 1 5 hM rfl rfl rfl (by kernel_rfl) rfl rfl (by rw [htl]; omega) ?_
  intro w13 hM
  try dsimp only [Za, Zb, Zc, Zd, repl] at hM
  refine E.nil $ X.outN $ X.next $ C.region $ E.add rfl rfl (by omega) rfl $ Km rfl $ E.nil $ X.again1 (k + 1) (S1 rfl) rfl ⟨hM.to (by rw [← tab_set hk']), by omega⟩ (by omega)
 obtain rfl : k = 32 := by omega
 rw [show List.replicate (32 - 32) (0 : Int) = [] from rfl, List.append_nil] at hM
 refine Kx $ Kb $ Kf rfl $ Kn rfl $ Kc rfl $ C.ret $ ret2 rfl rfl rfl ?_
 exact ⟨v4, v5, rfl, hM.to (by rw [show nz Df.fixD = tab 32 (fun _ => (5 : Int)) from Df.nz_tab 32 _])⟩
end Go.Proofs.YtajklleiifhipaaGreatDoor
namespace Go.Proofs.YtajklleiifhipaaGreatDoor
open Go.RowKit Sym
theorem elem_Tp_prefix_item_int : Elem Tryz.prog 155 1 8 := elem_of (z := .pointer none) (by kernel_rfl) rfl (by decide)
inductive Tr where
 | leaf (f s : Nat)
 | node (a b : Tr)
def Tr.wt : Tr → Nat
 | .leaf f _ => f
 | .node a b => a.wt + b.wt
def Tr.sy : Tr → List Nat
 | .leaf _ s => [s]
 | .node a b => a.sy ++ b.sy
abbrev It := Nat × Tr
abbrev ip (x : It) : Value := pv x.1
abbrev wi (x : It) : Nat := x.2.wt
def Cel (P : List It) : Tr → List Value → Prop
 | .leaf f s, cs => cs = [i64 f, i64 s, .pointer none, .pointer none]
 | .node a b, cs => ∃ p q, (p, a) ∈ P ∧ (q, b) ∈ P ∧ cs = [i64 ((a.wt + b.wt : Nat) : Int), i64 0, pv p, pv q]
theorem Cel.mono {P P' : List It} (h : ∀ x ∈ P, x ∈ P') {t : Tr} {cs : List Value} (hc : Cel P t cs) : Cel P' t cs := by
 cases t with
 | leaf f s => exact hc
 | node a b => obtain ⟨p, q, h1, h2, h3⟩ := hc; exact ⟨p, q, h _ h1, h _ h2, h3⟩
def Pool (w : World) (N P : List It) : Prop := ∀ x ∈ N, ∃ cs, Cel P x.2 cs ∧ Blk w x.1 157 cs.toArray
theorem Pool.ext {w w' : World} {N P : List It} (h : Pool w N P) (x : Ext w w') : Pool w' N P := fun y hy => by
 obtain ⟨cs, h1, h2⟩ := h y hy; exact ⟨cs, h1, h2.ext x⟩
theorem Pool.wt {w : World} {N P : List It} (h : Pool w N P) {x : It} (hx : x ∈ N) : w.cell? ⟨x.1, 0, none⟩ = some (i64 (wi x : Int)) := by
 obtain ⟨cs, h1, h2⟩ := h x hx
 obtain ⟨b, t⟩ := x
 rw [h2.cell]
 cases t with
 | leaf f s => rw [show cs = _ from h1]; rfl
 | node a b => obtain ⟨p, q, _, _, h3⟩ := h1; rw [h3]; rfl
theorem Pool.leaf {w : World} {N P : List It} (h : Pool w N P) {b f s : Nat} (hx : (b, Tr.leaf f s) ∈ N) : w.cell? ⟨b, 1, none⟩ = some (i64 (s : Int)) ∧ w.cell? ⟨b, 2, none⟩ = some (.pointer none) := by
 obtain ⟨cs, h1, h2⟩ := h _ hx
 have h1 : cs = _ := h1
 exact ⟨by rw [h2.cell, h1]; rfl, by rw [h2.cell, h1]; rfl⟩
theorem Pool.node {w : World} {N P : List It} (h : Pool w N P) {b : Nat} {l r : Tr} (hx : (b, Tr.node l r) ∈ N) : ∃ p q, (p, l) ∈ P ∧ (q, r) ∈ P ∧ w.cell? ⟨b, 2, none⟩ = some (pv p) ∧ w.cell? ⟨b, 3, none⟩ = some (pv q) := by
 obtain ⟨cs, ⟨p, q, k1, k2, k3⟩, h2⟩ := h _ hx
 exact ⟨p, q, k1, k2, by rw [h2.cell, k3]; rfl, by rw [h2.cell, k3]; rfl⟩
def Sym.Rg.pool (N P : List It) : Rg where
 fp k := ∃ t, (k, t) ∈ N
 ok w := Pool w N P
 keep {w w'} hk h := fun x hx => by
  obtain ⟨cs, h1, h2⟩ := h x hx
  exact ⟨cs, h1, by show w'.heap[x.1]? = _; rw [hk x.1 ⟨x.2, hx⟩]; exact h2⟩
 live {w} h k hk := by
  obtain ⟨t, ht⟩ := hk
  obtain ⟨cs, _, h2⟩ := h _ ht
  exact h2.lt
theorem Sym.M.pool {w0 w : World} {S : Nat → Prop} {rs : List Rg} {N P : List It} (h : M w0 S w rs) (i : Nat) (hi : rs[i]? = some (Rg.pool N P)) : Pool w N P := h.ok hi
theorem Sym.M.poolAdd {w0 w : World} {S : Nat → Prop} {rs : List Rg} {N P : List It} {b : Nat} {t : Tr} {cs : List Value} (h : M w0 S w rs) (i j : Nat) (hne : i ≠ j) (hi : rs[i]? = some (Rg.pool N P)) (hj : rs[j]? = some (Rg.blk b 157 cs)) (hc : Cel P t cs) : M w0 S w ((rs.set j Rg.emp).set i (Rg.pool (N ++ [(b, t)]) P)) :=
 h.join i j hne hi hj (p := Rg.pool (N ++ [(b, t)]) P) (fun x hx => by
  rcases List.mem_append.1 hx with hx | hx
  · exact h.pool i hi x hx
  · rw [List.mem_singleton] at hx; subst hx; exact ⟨cs, hc, h.blk j hj⟩) fun k ⟨t', ht⟩ => by
  rcases List.mem_append.1 ht with hx | hx
  · exact .inl ⟨t', hx⟩
  rw [List.mem_singleton] at hx; exact .inr (by cases hx; rfl)
theorem Sym.M.poolSub {w0 w : World} {S : Nat → Prop} {rs : List Rg} {N P P' : List It} (h : M w0 S w rs) (i : Nat) (hi : rs[i]? = some (Rg.pool N P)) (hs : ∀ x ∈ P, x ∈ P') : M w0 S w (rs.set i (Rg.pool N P')) :=
 h.weak i hi (fun x hx => by obtain ⟨cs, h1, h2⟩ := h.pool i hi x hx; exact ⟨cs, h1.mono hs, h2⟩) fun k hk => hk
theorem Sym.M.poolJoin {w0 w : World} {S : Nat → Prop} {rs : List Rg} {N N' P P' : List It} (h : M w0 S w rs) (i j : Nat) (hne : i ≠ j) (hi : rs[i]? = some (Rg.pool N P)) (hj : rs[j]? = some (Rg.pool N' P')) (hs : ∀ x ∈ P', x ∈ P) : M w0 S w ((rs.set j Rg.emp).set i (Rg.pool (N ++ N') P)) :=
 h.join i j hne hi hj (p := Rg.pool (N ++ N') P) (fun x hx => by
  rcases List.mem_append.1 hx with hx | hx
  · exact h.pool i hi x hx
  · obtain ⟨cs, h1, h2⟩ := h.pool j hj x hx; exact ⟨cs, h1.mono hs, h2⟩) fun k ⟨t', ht⟩ => by
  rcases List.mem_append.1 ht with hx | hx
  · exact .inl ⟨t', hx⟩
  exact .inr ⟨t', hx⟩
theorem Sym.M.poolNil {w0 w : World} {S : Nat → Prop} {rs : List Rg} (h : M w0 S w rs) (P : List It) : M w0 S w (rs ++ [Rg.pool [] P]) := h.new (Ext.refl w) (r := Rg.pool [] P) (fun x hx => by cases hx) (fun k ⟨t, ht⟩ => by cases ht)
def mrg {α : Type} (g : α → Nat) : List α → List α → List α
 | [], ys => ys
 | x :: xs, [] => x :: xs
 | x :: xs, y :: ys => if g x ≤ g y then x :: mrg g xs (y :: ys) else y :: mrg g (x :: xs) ys
termination_by xs ys => xs.length + ys.length
theorem mrg_nil {α : Type} (g : α → Nat) (xs : List α) : mrg g xs [] = xs := by cases xs <;> rw [mrg]
theorem mrg_le {α : Type} {g : α → Nat} {xs ys : List α} {x y : α} (h : g x ≤ g y) : mrg g (x :: xs) (y :: ys) = x :: mrg g xs (y :: ys) := by rw [mrg, if_pos h]
theorem mrg_gt {α : Type} {g : α → Nat} {xs ys : List α} {x y : α} (h : ¬ g x ≤ g y) : mrg g (x :: xs) (y :: ys) = y :: mrg g (x :: xs) ys := by rw [mrg, if_neg h]
theorem mrg_len {α : Type} (g : α → Nat) : ∀ (xs ys : List α), (mrg g xs ys).length = xs.length + ys.length
 | [], ys => by rw [mrg]; simp
 | x :: xs, [] => by rw [mrg_nil]; simp
 | x :: xs, y :: ys => by
  by_cases h : g x ≤ g y
  · rw [mrg_le h, List.length_cons, mrg_len g xs (y :: ys)]; simp; omega
  rw [mrg_gt h, List.length_cons, mrg_len g (x :: xs) ys]; simp; omega
termination_by xs ys => xs.length + ys.length
theorem mrg_mem {α : Type} (g : α → Nat) : ∀ (xs ys : List α) (z : α), z ∈ mrg g xs ys ↔ z ∈ xs ∨ z ∈ ys
  | [], ys, z => by rw [mrg]; simp
  | x :: xs, [], z => by rw [mrg_nil]; simp
  | x :: xs, y :: ys, z => by
    by_cases h : g x ≤ g y
    · rw [mrg_le h, List.mem_cons, mrg_mem g xs (y :: ys)]; simp only [List.mem_cons]; exact or_assoc.symm
    rw [mrg_gt h, List.mem_cons, mrg_mem g (x :: xs) ys]; simp only [List.mem_cons]; constructor
    · rintro (h | h | h)
      · exact .inr (.inl h)
      · exact .inl h
      exact .inr (.inr h)
    rintro (h | h | h)
    · exact .inr (.inl h)
    · exact .inl h
    exact .inr (.inr h)
termination_by xs ys => xs.length + ys.length
theorem mrg_map {α β : Type} (g : α → Nat) (g' : β → Nat) (m : α → β) (hg : ∀ a, g' (m a) = g a) : ∀ (xs ys : List α), (mrg g xs ys).map m = mrg g' (xs.map m) (ys.map m)
 | [], ys => by rw [mrg, List.map_nil, mrg]
 | x :: xs, [] => by rw [mrg_nil, List.map_nil, mrg_nil]
 | x :: xs, y :: ys => by
  simp only [List.map_cons]
  by_cases h : g x ≤ g y
  · rw [mrg_le h, mrg_le (by rw [hg, hg]; exact h), List.map_cons, mrg_map g g' m hg xs (y :: ys)]; rfl
  rw [mrg_gt h, mrg_gt (by rw [hg, hg]; exact h), List.map_cons, mrg_map g g' m hg (x :: xs) ys]; rfl
termination_by xs ys => xs.length + ys.length
theorem tail_part {α : Type} {enc : α → Value} {w : World} {v : Value} {x : α} {l : List α} (h : RdL enc w v (x :: l)) : RdL enc w (partV v 1 (x :: l).length) l := by
 have h1 := h.partV (a := 1) (b := (x :: l).length) (by simp) (Nat.le_refl _)
 have e : cutL 1 (x :: l).length (x :: l) = l := by simp [cutL]
 rw [e] at h1; exact h1
theorem isNaN_ret (z : Int) (w : World) :
  Ret Tryz.prog 157 #[i64 z] w fun v w' => v = .bool false ∧ Ext w w' := by
 have hM := M.start w
 refine enter Tryz.func157 rfl (by kernel_rfl) Tryz.ntmps157 rfl $ Kb $ Kd rfl $ Kf rfl $ Kp rfl $ Kc rfl $ C.ret $ ret1 rfl rfl ?_
 exact ⟨by simp, hM.toExt⟩
def cmv (a b : Int) : Int := if a < b then -1 else if b < a then 1 else 0
theorem Compare_ret (a b : Int) (w : World) :
  Ret Tryz.prog 134 #[i64 a, i64 b] w fun v w' => v = i64 (cmv a b) ∧ Ext w w' := by
 have hM := M.start w
 refine enter Tryz.func134 rfl (by kernel_rfl) Tryz.ntmps134 rfl $ Kb $ Kd rfl $ Km rfl $ E.call rfl rfl (isNaN_ret _ _) ?_
 rintro _ w1 ⟨rfl, x1⟩
 have hM := hM.ext x1
 refine Kd rfl $ Km rfl $ E.call rfl rfl (isNaN_ret _ _) ?_
 rintro _ w2 ⟨rfl, x2⟩
 have hM := hM.ext x2
 refine Kc rfl $ C.seq $ Kb $ Km rfl $ Ka $ C.cond rfl (fun hC0 => ?_) (fun hC0 => ?_)
 ·
  cases hC0
 refine Kk $ C.seq $ Kb $ Km rfl $ Ka $ C.cond rfl (fun hC1 => ?_) (fun hC1 => ?_)
 ·
  cases hC1
 refine Kk $ C.seq $ Kb $ Kf rfl $ Kp rfl $ Ka $ C.cond' rfl (fun hC2 => ?_) (fun hC2 => ?_)
 ·
  refine Kb $ Kc rfl $ C.ret $ X.retT $ ret1 rfl rfl ?_
  exact ⟨by rw [cmv, if_pos (by omega)], hM.toExt⟩
 refine Kk $ C.seq $ Kb $ Kf rfl $ Kp rfl $ Ka $ C.cond' rfl (fun hC3 => ?_) (fun hC3 => ?_)
 ·
  refine Kb $ Kc rfl $ C.ret $ X.retT $ ret1 rfl rfl ?_
  exact ⟨by rw [cmv, if_neg (by omega), if_pos (by omega)], hM.toExt⟩
 refine Kk $ Kb $ Kc rfl $ C.ret $ ret1 rfl rfl ?_
 exact ⟨by rw [cmv, if_neg (by omega), if_neg (by omega)], hM.toExt⟩
theorem cmpw_ret (x y : It) (N P : List It) (w : World) (hp : Pool w N P) (hx : x ∈ N) (hy : y ∈ N) :
  Ret Tryz.prog 133 #[ip x, ip y] w fun v w' => v = i64 (cmv (wi x : Int) (wi y : Int)) ∧ Ext w w' := by
 have hM := M.start w
 refine enter Tryz.func133 rfl (by kernel_rfl) Tryz.ntmps133 rfl $ Kb $ Kc rfl $ C.seq $ C.drawn (by kernel_rfl) (by kernel_rfl) $ Q.mv rfl rfl $ Q.nilc rfl rfl $ Q.fld (o := 0) (sz := 0) rfl U157 rfl rfl (by kernel_rfl) rfl $ Q.load rfl U3 rfl ((hp.ext hM.toExt).wt hx) rfl $ Q.mv rfl rfl $ Q.nilc rfl rfl $ Q.fld (o := 0) (sz := 0) rfl U157 rfl rfl (by kernel_rfl) rfl $ Q.load rfl U3 rfl ((hp.ext hM.toExt).wt hy) rfl $ Q.call (v := i64 (cmv (wi x : Int) (wi y : Int))) rfl rfl (fun w' hw' => Compare_ret _ _ w') $ Q.asg rfl rfl $ Q.nil $ fun w0 hx0 => ?_
 have hM := hM.ext hx0
 refine X.next $ C.ret $ ret1 rfl rfl ?_
 exact ⟨rfl, hM.toExt⟩
def bump (L : List Int) (ss : List Nat) : List Int := ss.foldl (fun L s => L.set s (L.getD s 0 + 1)) L
theorem bump_len (ss : List Nat) : ∀ L : List Int, (bump L ss).length = L.length := by
 induction ss with
 | nil => intro L; rfl
 | cons s ss ih => intro L; show (bump (L.set s (L.getD s 0 + 1)) ss).length = _; rw [ih, List.length_set]
theorem bump_app (L : List Int) (a b : List Nat) : bump L (a ++ b) = bump (bump L a) b := List.foldl_append ..
theorem bump_bd {m : Int} : ∀ (ss : List Nat) (L : List Int), (∀ z ∈ L, 0 ≤ z ∧ z + ss.length ≤ m) → ∀ z ∈ bump L ss, 0 ≤ z ∧ z ≤ m := by
  intro ss
  induction ss with
  | nil => intro L h z hz; have := h z hz; simp at this; exact this
  | cons s ss ih =>
    intro L h z hz
    refine ih (L.set s (L.getD s 0 + 1)) (fun y hy => ?_) z hz
    rcases List.mem_or_eq_of_mem_set hy with h1 | h1
    · have := h y h1; simp only [List.length_cons] at this; omega
    by_cases hs : s < L.length
    · have h2 := h L[s] (List.getElem_mem hs)
      have e : L.getD s 0 = L[s] := by rw [List.getD_eq_getElem?_getD, List.getElem?_eq_getElem hs]; rfl
      rw [e] at h1; simp only [List.length_cons] at h2; omega
    rw [List.set_eq_of_length_le (by omega)] at hy
    have := h y hy; simp only [List.length_cons] at this; omega
theorem inc_ret (s b : Nat) (vL : Value) (L : List Int) (w : World) (hs : Sep w [Rg.blk b 76 [vL], Rg.sl i64 3 vL L]) (hl : s < L.length) (hb : 0 ≤ L[s] ∧ L[s] ≤ 4611686018427387904) :
  Ret Tryz.prog 138 #[i64 s, pv b] w fun v w' => M w (fpU [Rg.blk b 76 [vL], Rg.sl i64 3 vL L]) w' [Rg.blk b 76 [vL], Rg.sl i64 3 vL (bump L [s])] := by
 have hM := M.startS hs
 refine enter Tryz.func138 rfl (by kernel_rfl) Tryz.ntmps138 rfl $ C.region $ E.load rfl U76 rfl (hM.bcell 0 rfl rfl) rfl $ Km rfl $ E.get (k := s) rfl rfl (hM.sl 1 rfl) rfl hl U76 (by kernel_rfl) U3 rfl rfl rfl $ E.add rfl rfl (by omega) rfl $ E.idx1 (k := s) rfl rfl (hM.sl 1 rfl) rfl hl U76 (by kernel_rfl) rfl $ E.storeL 1 (L[s] + 1) hM rfl rfl rfl (by kernel_rfl) rfl rfl hl ?_
 intro w0 hM
 try dsimp only [Za, Zb, Zc, Zd, repl] at hM
 refine E.nil $ end0 rfl ?_
 exact hM.to (by rw [show bump L [s] = L.set s (L[s] + 1) by show L.set s (L.getD s 0 + 1) = _; rw [List.getD_eq_getElem?_getD, List.getElem?_eq_getElem hl]; rfl])
def EachOk (t : Tr) : Prop := ∀ (x b : Nat) (vL : Value) (L : List Int) (P : List It) (w : World), Sep w [Rg.blk b 76 [vL], Rg.sl i64 3 vL L, Rg.pool P P] → (x, t) ∈ P → (∀ s ∈ t.sy, s < L.length) → (∀ z ∈ L, 0 ≤ z ∧ z + t.sy.length ≤ 4611686018427387904) →
 Ret Tryz.prog 137 #[pv x, fnv 138 [pv b]] w fun v w' => M w (fpU [Rg.blk b 76 [vL], Rg.sl i64 3 vL L, Rg.pool P P]) w' [Rg.blk b 76 [vL], Rg.sl i64 3 vL (bump L t.sy), Rg.pool P P]
theorem each_leaf (f s : Nat) (x b : Nat) (vL : Value) (L : List Int) (P : List It) (w : World) (hs : Sep w [Rg.blk b 76 [vL], Rg.sl i64 3 vL L, Rg.pool P P]) (hx : (x, Tr.leaf f s) ∈ P) (hl : ∀ y ∈ (Tr.leaf f s).sy, y < L.length) (hb : ∀ z ∈ L, 0 ≤ z ∧ z + ((Tr.leaf f s).sy.length : Int) ≤ 4611686018427387904) :
  Ret Tryz.prog 137 #[pv x, fnv 138 [pv b]] w fun v w' => M w (fpU [Rg.blk b 76 [vL], Rg.sl i64 3 vL L, Rg.pool P P]) w' [Rg.blk b 76 [vL], Rg.sl i64 3 vL (bump L (Tr.leaf f s).sy), Rg.pool P P] := by
 have hM := M.startS hs
 refine enter Tryz.func137 rfl (by kernel_rfl) Tryz.ntmps137 rfl $ C.seq $ Kb $ Km rfl $ E.nilc rfl rfl $ E.fld (o := 2) (sz := 0) rfl U157 rfl rfl (by kernel_rfl) rfl $ E.load rfl U155 rfl ((hM.pool 2 rfl).leaf hx).2 rfl $ E.eqnil rfl rfl U155 rfl $ Ka $ C.cond rfl (fun hC0 => ?_) (fun hC0 => ?_)
 ·
  refine Kb $ Kf rfl $ E.nilc rfl rfl $ E.fld (o := 1) (sz := 0) rfl U157 rfl rfl (by kernel_rfl) rfl $ E.load rfl U3 rfl ((hM.pool 2 rfl).leaf hx).1 rfl $ E.callv rfl rfl rfl (inc_ret s b vL L _ (hM.pick [0, 1] (by decide)).sep (hl s (by simp [Tr.sy])) (by have := hb _ (List.getElem_mem (hl s (by simp [Tr.sy]))); simp [Tr.sy] at this; omega)) ?_
  rintro _ w1 m1
  have hM := hM.calls [0, 1] (by decide) rfl (by simp) m1
  refine Ka $ C.ret $ X.retT $ ret0 rfl ?_
  exact hM
 cases hC0
theorem each_node (c d : Tr) (hc : EachOk c) (hd : EachOk d) (x b : Nat) (vL : Value) (L : List Int) (P : List It) (w : World) (hs : Sep w [Rg.blk b 76 [vL], Rg.sl i64 3 vL L, Rg.pool P P]) (hx : (x, Tr.node c d) ∈ P) (hl : ∀ y ∈ (Tr.node c d).sy, y < L.length) (hb : ∀ z ∈ L, 0 ≤ z ∧ z + ((Tr.node c d).sy.length : Int) ≤ 4611686018427387904) :
  Ret Tryz.prog 137 #[pv x, fnv 138 [pv b]] w fun v w' => M w (fpU [Rg.blk b 76 [vL], Rg.sl i64 3 vL L, Rg.pool P P]) w' [Rg.blk b 76 [vL], Rg.sl i64 3 vL (bump L (Tr.node c d).sy), Rg.pool P P] := by
 have hM := M.startS hs
 refine enter Tryz.func137 rfl (by kernel_rfl) Tryz.ntmps137 rfl $ C.seq $ Kb $ Km rfl $ E.nilc rfl rfl $ E.fld (o := 2) (sz := 0) rfl U157 rfl rfl (by kernel_rfl) rfl ?_
 obtain ⟨p1, q1, hp1, hq1, hl1, hr1⟩ := (hM.pool 2 rfl).node hx
 have hsl : (Tr.node c d).sy.length = c.sy.length + d.sy.length := by simp [Tr.sy]
 refine E.load rfl U155 rfl hl1 rfl $ E.eqnil rfl rfl U155 rfl $ Ka $ C.cond rfl (fun hC0 => ?_) (fun hC0 => ?_)
 ·
  cases hC0
 refine Kk $ Kb $ Km rfl $ E.nilc rfl rfl $ E.fld (o := 2) (sz := 0) rfl U157 rfl rfl (by kernel_rfl) rfl $ E.load rfl U155 rfl hl1 rfl $ Km rfl $ E.call rfl rfl (hc p1 b vL L P _ (hM.pick [0, 1, 2] (by decide)).sep hp1 (fun s h => hl s (by simp [Tr.sy, h])) (fun z hz => by have := hb z hz; omega)) ?_
 rintro _ w1 m1
 have hM := hM.calls [0, 1, 2] (by decide) rfl (by simp) m1
 obtain ⟨p2, q2, hp2, hq2, hl2, hr2⟩ := (hM.pool 2 rfl).node hx
 refine Ka $ C.region $ Km rfl $ E.nilc rfl rfl $ E.fld (o := 3) (sz := 0) rfl U157 rfl rfl (by kernel_rfl) rfl $ E.load rfl U155 rfl hr2 rfl $ Km rfl $ E.call rfl rfl (hd q2 b vL (bump L c.sy) P _ (hM.pick [0, 1, 2] (by decide)).sep hq2 (fun s h => by rw [bump_len]; exact hl s (by simp [Tr.sy, h])) (fun z hz => by have := bump_bd (m := 4611686018427387904 - d.sy.length) c.sy L (fun y hy => by have := hb y hy; omega) z hz; omega)) ?_
 rintro _ w2 m2
 have hM := hM.calls [0, 1, 2] (by decide) rfl (by simp) m2
 refine E.nil $ end0 rfl ?_
 exact by rw [Tr.sy, bump_app]; exact hM
theorem each_ok : ∀ t, EachOk t
 | .leaf f s => fun x b vL L P w hs hx hl hb => each_leaf f s x b vL L P w hs hx hl hb
 | .node c d => fun x b vL L P w hs hx hl hb => each_node c d (each_ok c) (each_ok d) x b vL L P w hs hx hl hb
end Go.Proofs.YtajklleiifhipaaGreatDoor
