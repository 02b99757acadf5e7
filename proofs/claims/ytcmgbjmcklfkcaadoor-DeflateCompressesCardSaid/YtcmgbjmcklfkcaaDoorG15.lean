/- Texts of the claim, laid together: Df1. -/
import Derived.Test.YtcmgbjmcklfkcaaDoorProg
import Derived.Test.YtcmgbjmcklfkcaaDoorG10
import Derived.Test.YtcmgbjmcklfkcaaDoorG11
import Derived.Test.YtcmgbjmcklfkcaaDoorG14
/- deflate: bits are written. -/
namespace Go.Proofs.YtcmgbjmcklfkcaaDoor
set_option linter.unusedSimpArgs false
set_option linter.unusedVariables false
open Go.RowKit Sym

theorem elem_Tuint8 : Elem Tryd.prog 5 1 1 := elem_of (z := .int .u8 0) (by kernel_rfl) rfl (by decide)
theorem shl_u8 {a k c : Nat} (hk : k ≤ 7) (e : a * 2 ^ k = c) (hc : c ≤ 255) : IntKind.u8.wrap ((a : Int) * 2 ^ min ((k : Int)).toNat IntKind.u8.bits) = (c : Int) := by
  have e1 : min ((k : Int)).toNat IntKind.u8.bits = k := by rw [Int.toNat_natCast]; simp [IntKind.bits]; omega
  have e2 : (a : Int) * 2 ^ k = (c : Int) := by rw [← e]; simp
  rw [e1, e2]; exact IntWalk.u8_in _ (by omega)
theorem or_u8 {a x k : Nat} (hk : k ≤ 7) (ha : a < 2 ^ k) (hx : x ≤ 1) : bits .or .u8 (a : Int) ((x * 2 ^ k : Nat) : Int) = ((a + x * 2 ^ k : Nat) : Int) := by
  have h1 : 2 ^ k ≤ 2 ^ 7 := Nat.pow_le_pow_right (by decide) hk
  have h2 : x * 2 ^ k ≤ 1 * 2 ^ k := Nat.mul_le_mul_right _ hx
  rw [u8_or_nat _ _ (by omega) (by omega), Nat.or_comm, Nat.mul_comm, ← Nat.two_pow_add_eq_or_of_lt ha, Nat.add_comm]
/-- the free bits of the last byte -/
def fr (B : List Bool) : Int := (((8 - B.length % 8) % 8 : Nat) : Int)
theorem fr_snoc {B : List Bool} {x : Bool} : (((8 - B.length % 8) - 1 : Nat) : Int) = fr (B ++ [x]) := by
  unfold fr; rw [List.length_append, List.length_singleton]; omega
theorem ofNat_u8 {n : Nat} (h : n ≤ 255) : u8 (UInt8.ofNat n) = .int .u8 (n : Int) := by
  have : (UInt8.ofNat n).toNat = n := by simp; omega
  unfold u8; rw [this]
theorem bit_mul (c i r : Nat) : c / 2 ^ i % 2 * 2 ^ r = if Df.bit c i then 2 ^ r else 0 := by
  unfold Df.bit
  by_cases h : c / 2 ^ i % 2 = 1
  · rw [if_pos (decide_eq_true h), h, Nat.one_mul]
  · have : c / 2 ^ i % 2 = 0 := by omega
    rw [if_neg (by rw [decide_eq_true_eq]; exact h), this, Nat.zero_mul]
set_option maxHeartbeats 1000000 in
set_option maxRecDepth 4000 in
theorem bits_ret (b : Nat) (vo : Value) (B : List Bool) (c n : Nat) (w : World) (hs : Sep w [Rg.blk b 44 [vo, i64 (fr B)], Rg.sl u8 5 vo (Df.pk B)]) (hc : c ≤ 9223372036854775807) (hn : n ≤ 62) (hl : B.length + n ≤ 1099511627776) :
    Ret Tryd.prog 22 #[pv b, i64 c, i64 n] w fun v w' => ∃ vn, M w (fpU [Rg.blk b 44 [vo, i64 (fr B)], Rg.sl u8 5 vo (Df.pk B)]) w' [Rg.blk b 44 [vn, i64 (fr (B ++ Df.low c n))], Rg.sl u8 5 vn (Df.pk (B ++ Df.low c n))] := by
  have hM := M.startS hs
  refine enter Tryd.func22 rfl (by kernel_rfl) Tryd.ntmps22 rfl ?_
  refine C.seq <| C.region <| E.mv rfl rfl <| E.mv rfl rfl <| E.nil <| X.next <| C.block <| ?_

  refine C.loop2 [(0, _), (1, _), (7, _)] rfl (fun (i : Nat) (vs : Value) => [(8, i64 i)]) (fun (i : Nat) (vs : Value) w' => M w (fpU [Rg.blk b 44 [vo, i64 (fr B)], Rg.sl u8 5 vo (Df.pk B)]) w' [Rg.blk b 44 [vs, i64 (fr (B ++ Df.low c i))], Rg.sl u8 5 vs (Df.pk (B ++ Df.low c i))] ∧ i ≤ n) (fun (i : Nat) (vs : Value) => n - i) 0 vo ?_ ?_ ?_
  · exact Sub.cons rfl <| Sub.nil _
  · exact ⟨hM.to (by rw [show Df.low c 0 = [] from rfl, List.append_nil]), Nat.zero_le _⟩
  rintro i vs w0 ⟨hM, hi⟩
  refine C.seq <| C.region <| E.bin rfl rfl rfl rfl <| E.nil <| X.next <| C.seq <| ?_
  refine C.cond' rfl (fun hC0 => ?_) (fun hC0 => ?_)
  ·
    obtain ⟨Bi, hBi⟩ : ∃ X, X = B ++ Df.low c i := ⟨_, rfl⟩
    rw [← hBi] at hM
    have hBl : Bi.length = B.length + i := by rw [hBi, List.length_append, Df.low_len]
    have hsn : B ++ Df.low c (i + 1) = Bi ++ [Df.bit c i] := by rw [hBi, Df.low_succ, List.append_assoc]
    have hdv : c / 2 ^ i ≤ c := Nat.div_le_self _ _
    refine C.skip <| X.next <| C.seq <| C.block <| C.seq <| C.region <| E.mv rfl rfl <| E.asg rfl rfl <| E.nil <| X.next <| ?_

    refine C.cut1 [(0, _), (1, _), (6, _), (7, _), (8, _)] rfl (fun (vk : Value) => []) (fun (vk : Value) w' => M w (fpU [Rg.blk b 44 [vo, i64 (fr B)], Rg.sl u8 5 vo (Df.pk B)]) w' [Rg.blk b 44 [vk, i64 ((8 - Bi.length % 8 : Nat) : Int)], Rg.sl u8 5 vk (Df.pkx Bi)]) ?_ ?_
    ·
      refine C.seq <| C.region <| E.mv rfl rfl <| E.nilc rfl rfl <| ?_
      refine E.fld (o := 1) (sz := 0) rfl Tryd.underlying44 rfl rfl (by kernel_rfl) rfl ?_
      refine E.load rfl Tryd.underlying3 rfl (hM.bcell 0 rfl rfl) rfl ?_
      refine E.bin rfl rfl rfl rfl <| E.nil <| X.next <| ?_
      refine C.cond' rfl (fun hC1 => ?_) (fun hC1 => ?_)
      ·
        have h0 : Bi.length % 8 = 0 := by unfold fr at hC1; omega
        have hpl := Df.pk_len Bi
        refine C.seq <| C.region <| E.mv rfl rfl <| E.mv rfl rfl <| E.nilc rfl rfl <| ?_
        refine E.fld (o := 0) (sz := 0) rfl Tryd.underlying44 rfl rfl (by kernel_rfl) rfl ?_
        refine E.load rfl Tryd.underlying22 rfl (hM.bcell 0 rfl rfl) rfl ?_
        refine E.pushM (enc := u8) 1 0 hM rfl rfl rfl Tryd.underlying22 elem_Tuint8 rfl (by omega) (by omega) (by simp) rfl rfl ?_
        intro v22 u22 w1 hM
        try dsimp only [List.nil_append, List.cons_append, List.set_cons_zero, List.set_cons_succ, repl] at hM
        refine E.nilc rfl rfl <| ?_
        refine E.fld (o := 0) (sz := 0) rfl Tryd.underlying44 rfl rfl (by kernel_rfl) rfl ?_
        refine E.storeM 0 hM rfl rfl rfl (by kernel_rfl) (hM.sl 1 rfl).one rfl ?_
        intro w2 hM
        try dsimp only [List.nil_append, List.cons_append, List.set_cons_zero, List.set_cons_succ, repl] at hM
        refine E.nil <| X.next <| C.region <| E.mv rfl rfl <| E.nilc rfl rfl <| ?_
        refine E.fld (o := 1) (sz := 0) rfl Tryd.underlying44 rfl rfl (by kernel_rfl) rfl ?_
        refine E.storeM 0 hM rfl rfl rfl (by kernel_rfl) rfl rfl ?_
        intro w3 hM
        try dsimp only [List.nil_append, List.cons_append, List.set_cons_zero, List.set_cons_succ, repl] at hM

        refine E.nil <| X.join1 v22 (Sub.nil _) rfl (hM.to (by rw [Df.pkx_new h0, h0]; rfl))
      ·
        have h0 : ¬ Bi.length % 8 = 0 := by unfold fr at hC1; omega

        refine C.skip <| X.join1 vs (Sub.nil _) rfl (hM.to (by rw [Df.pkx_old h0]; unfold fr; rw [show (8 - Bi.length % 8) % 8 = 8 - Bi.length % 8 by omega]))
    rintro vk w4 hM
    have hxl := Df.pkx_len Bi
    have hpr := Df.pb_r Bi
    have hpg : u8 ((Df.pkx Bi)[Bi.length / 8]'(by omega)) = .int .u8 (Df.pb Bi (Bi.length / 8) : Int) := by unfold u8; rw [Df.pkx_get (B := Bi) (by omega)]
    refine C.seq <| C.drawnT 25 (by kernel_rfl) (by kernel_rfl) fun wh5 hwh5 => ?_
    have hM := hM.ext hwh5
    refine S.mv rfl rfl <| S.nilc rfl rfl <| ?_
    refine S.fld (o := 0) (sz := 0) rfl Tryd.underlying44 rfl rfl (by kernel_rfl) rfl ?_
    refine S.load rfl Tryd.underlying22 rfl (hM.bcell 0 rfl rfl) rfl ?_
    refine S.mv rfl rfl <| S.nilc rfl rfl <| ?_
    refine S.fld (o := 0) (sz := 0) rfl Tryd.underlying44 rfl rfl (by kernel_rfl) rfl ?_
    refine S.load rfl Tryd.underlying22 rfl (hM.bcell 0 rfl rfl) rfl ?_
    refine S.lenv rfl (Rd.shape (hM.sl 1 rfl)) Tryd.underlying22 rfl ?_
    rw [hxl]
    refine S.subN (a := Bi.length / 8 + 1) (b := 1) rfl rfl (by omega) rfl ?_
    refine S.idx1 (k := Bi.length / 8) rfl rfl (hM.sl 1 rfl) rfl (by omega) Tryd.underlying22 (by kernel_rfl) rfl ?_
    refine S.load rfl Tryd.underlying5 rfl ((hM.sl 1 rfl).cellA rfl (by omega)) rfl ?_
    rw [hpg]
    refine S.mv rfl rfl <| S.mv rfl rfl <| ?_
    refine S.shr rfl rfl (by omega) (shr_nat (by omega)) rfl ?_
    refine S.binw rfl rfl rfl (congrArg _ (band1 _ (by omega))) rfl ?_
    refine S.conv rfl Tryd.underlying3 Tryd.underlying5 (IntWalk.u8_in _ (by omega)) rfl ?_
    refine S.mv rfl rfl <| S.nilc rfl rfl <| ?_
    refine S.fld (o := 1) (sz := 0) rfl Tryd.underlying44 rfl rfl (by kernel_rfl) rfl ?_
    refine S.load rfl Tryd.underlying3 rfl (hM.bcell 0 rfl rfl) rfl ?_
    refine S.subN (a := 8) (b := 8 - Bi.length % 8) rfl rfl (by omega) rfl ?_
    rw [show 8 - (8 - Bi.length % 8) = Bi.length % 8 by omega]
    have hb1 : c / 2 ^ i % 2 ≤ 1 := by omega
    have hp7 : 2 ^ (Bi.length % 8) ≤ 2 ^ 7 := Nat.pow_le_pow_right (by decide) (by omega)
    have hm7 := Nat.mul_le_mul_right (2 ^ (Bi.length % 8)) hb1
    refine S.shl rfl rfl (by omega) (shl_u8 (by omega) rfl (by omega)) rfl ?_
    refine S.binw rfl rfl rfl (congrArg _ (or_u8 (by omega) hpr hb1)) rfl ?_
    refine S.idx1 (k := Bi.length / 8) rfl rfl (hM.sl 1 rfl) rfl (by omega) Tryd.underlying22 (by kernel_rfl) rfl ?_
    refine S.nil ?_
    refine E.storeL (enc := u8) 1 (UInt8.ofNat (Df.pb Bi (Bi.length / 8) + if Df.bit c i then 2 ^ (Bi.length % 8) else 0)) hM rfl rfl (look_eq rfl (by rw [← bit_mul, ofNat_u8 (by omega)])) (by kernel_rfl) rfl rfl (by omega) ?_
    intro w6 hM
    try dsimp only [List.nil_append, List.cons_append, List.set_cons_zero, List.set_cons_succ, repl] at hM
    rw [Df.pkx_put] at hM
    refine E.nil <| X.next <| C.region <| E.mv rfl rfl <| E.nilc rfl rfl <| ?_
    refine E.fld (o := 1) (sz := 0) rfl Tryd.underlying44 rfl rfl (by kernel_rfl) rfl ?_
    refine E.load rfl Tryd.underlying3 rfl (hM.bcell 0 rfl rfl) rfl ?_
    refine E.subN (a := 8 - Bi.length % 8) (b := 1) rfl rfl (by omega) rfl ?_
    refine E.nilc rfl rfl <| ?_
    refine E.fld (o := 1) (sz := 0) rfl Tryd.underlying44 rfl rfl (by kernel_rfl) rfl ?_
    refine E.storeM 0 hM rfl rfl rfl (by kernel_rfl) rfl rfl ?_
    intro w7 hM
    try dsimp only [List.nil_append, List.cons_append, List.set_cons_zero, List.set_cons_succ, repl] at hM
    refine E.nil <| X.outN <| X.next <| C.region <| ?_
    refine E.add rfl rfl (by omega) rfl ?_

    refine E.mv rfl rfl <| E.nil <| X.again2 (i + 1) vk (Sub.cons rfl <| Sub.nil _) rfl ⟨hM.to (by rw [hsn, ← fr_snoc]), by omega⟩ (by omega)
  ·
    obtain rfl : i = n := by omega
    refine C.exit <| X.exitT <| X.exitT <| X.outE <| end0 rfl ?_
    exact ⟨vs, hM⟩

end Go.Proofs.YtcmgbjmcklfkcaaDoor
