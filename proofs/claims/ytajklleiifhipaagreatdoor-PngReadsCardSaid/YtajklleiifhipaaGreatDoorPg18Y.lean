/- chapter 35: the reference's numbers, letters. -/
import Derived.Test.YtajklleiifhipaaGreatDoorY0
import Derived.Test.YtajklleiifhipaaGreatDoorY5
import Derived.Test.YtajklleiifhipaaGreatDoorY13
import Derived.Test.YtajklleiifhipaaGreatDoorCrcBY
set_option linter.unusedSimpArgs false
set_option linter.unusedVariables false
namespace Go.Proofs.YtajklleiifhipaaGreatDoor
open Go.RowKit Sym
open Pg
theorem cut_off {α : Type} (a x y : Nat) (l : List α) : cutL (a + x) (a + y) l = ((l.drop a).drop x).take (y - x) := by
 unfold cutL
 rw [List.drop_drop, Nat.add_sub_add_left]
theorem q35CRC32_ret (p : Value) (l : List UInt8) (w : World) (hp : RdL u8 w p l) :
  Ret Tryz.prog 53 #[p] w fun v w' => v = u32 (Crc.crc l) ∧ Ext w w' := (rCRC32_ret p l w hp).mono fun v w' ⟨h, e⟩ => ⟨h, e ▸ Ext.refl w⟩
theorem n35_ret (p : Value) (l : List UInt8) (w : World) (hl : RdL u8 w p l) (h4 : 4 ≤ l.length) :
  Ret Tryz.prog 56 #[p] w fun v w' => v = i64 (Jn.dec4 l : Int) ∧ Ext w w' := by
 have hu0 := (l.getD 0 0).toNat_lt
 have hu1 := (l.getD 1 0).toNat_lt
 have hu2 := (l.getD 2 0).toNat_lt
 have hu3 := (l.getD 3 0).toNat_lt
 have hg0 := getD_u8 (l := l) (k := 0) (by omega)
 have hg1 := getD_u8 (l := l) (k := 1) (by omega)
 have hg2 := getD_u8 (l := l) (k := 2) (by omega)
 have hg3 := getD_u8 (l := l) (k := 3) (by omega)
 have hM := M.start w
 refine enter Tryz.func56 rfl (by kernel_rfl) Tryz.ntmps56 rfl $ Kb $ Kc rfl $ C.seq $ C.drawn (by kernel_rfl) (by kernel_rfl) $ Q.mv rfl rfl $ Q.idx1 (k := 0) rfl rfl (hM.arg0 hl) rfl (by omega) U22 (by kernel_rfl) rfl $ Q.load rfl U5 rfl ((hM.arg0 hl).cellA rfl (by omega)) rfl ?_
 rw [hg0]
 refine Q.conv rfl U5 U3 (IntWalk.i64_in _ (by omega)) rfl $ Q.shl (c := _ * 16777216) rfl rfl (by omega) (IntWalk.i64_in ((((l.getD 0 0).toNat : Int)) * 16777216) (by omega)) rfl $ Q.mv rfl rfl $ Q.idx1 (k := 1) rfl rfl (hM.arg0 hl) rfl (by omega) U22 (by kernel_rfl) rfl $ Q.load rfl U5 rfl ((hM.arg0 hl).cellA rfl (by omega)) rfl ?_
 rw [hg1]
 refine Q.conv rfl U5 U3 (IntWalk.i64_in _ (by omega)) rfl $ Q.shl (c := _ * 65536) rfl rfl (by omega) (IntWalk.i64_in ((((l.getD 1 0).toNat : Int)) * 65536) (by omega)) rfl $ Q.add rfl rfl (by omega) rfl $ Q.mv rfl rfl $ Q.idx1 (k := 2) rfl rfl (hM.arg0 hl) rfl (by omega) U22 (by kernel_rfl) rfl $ Q.load rfl U5 rfl ((hM.arg0 hl).cellA rfl (by omega)) rfl ?_
 rw [hg2]
 refine Q.conv rfl U5 U3 (IntWalk.i64_in _ (by omega)) rfl $ Q.shl (c := _ * 256) rfl rfl (by omega) (IntWalk.i64_in ((((l.getD 2 0).toNat : Int)) * 256) (by omega)) rfl $ Q.add rfl rfl (by omega) rfl $ Q.mv rfl rfl $ Q.idx1 (k := 3) rfl rfl (hM.arg0 hl) rfl (by omega) U22 (by kernel_rfl) rfl $ Q.load rfl U5 rfl ((hM.arg0 hl).cellA rfl (by omega)) rfl ?_
 rw [hg3]
 refine Q.conv rfl U5 U3 (IntWalk.i64_in _ (by omega)) rfl $ Q.add rfl rfl (by omega) rfl $ Q.asg rfl rfl $ Q.nil $ fun w0 hx0 => ?_
 have hM := hM.ext hx0
 refine X.next $ C.ret $ ret1 rfl rfl ?_
 exact ⟨congrArg _ (by rw [Jn.dec4_eq]; omega), hM.toExt⟩
theorem let35_ret (t : List UInt8) (w : World) (ht : t.length ≤ 1000000000) :
  Ret Tryz.prog 52 #[str t] w fun v w' => v = .bool (decide (let4 t)) ∧ Ext w w' := by
 have hsz := str_size t
 have hM := M.start w
 refine enter Tryz.func52 rfl (by kernel_rfl) Tryz.ntmps52 rfl $ Kb $ Kc rfl $ C.seq $ Kb $ Kc rfl $ C.block $ C.loop1 [(0, _)] rfl (fun (k : Nat) => [(3, i64 k)]) (fun (k : Nat) w' => M w (Nn) w' [] ∧ k ≤ t.length ∧ ∀ c ∈ t.take k, isL c = true) (fun (k : Nat) => t.length - k) 0 ?_ ?_ ?_
 · exact S1 rfl
 · exact ⟨hM, Nat.zero_le _, fun c hc => by simp at hc⟩
 rintro k w0 ⟨hM, hk, hall⟩
 refine C.seq $ Kb $ Kf rfl $ E.lenS rfl U9 rfl $ Kp rfl $ Ka $ C.cond' rfl (fun hC0 => ?_) (fun hC0 => ?_)
 ·
  have hk' : k < t.length := by omega
  refine Kk $ C.seq $ C.block $ C.chainE [(0, _), (3, _)] rfl [(32, .bool (decide (¬ ((65 ≤ t[k].toNat ∧ t[k].toNat ≤ 90) ∨ (97 ≤ t[k].toNat ∧ t[k].toNat ≤ 122)))))] ?_ ?_
  ·
   refine C.region $ Kf rfl $ E.idxS k t[k] rfl rfl rfl (str_get hk') U9 rfl ?_
   rw [show u8 t[k] = .int .u8 ((t[k].toNat : Nat) : Int) from rfl]
   refine Kp rfl $ Km rfl $ E.split 14 rfl (fun g14 => ?_) (fun g14 => ?_)
   ·
    try simp only [Ya, Yb, Yc, Yd, Ye, Yf] at g14
    refine Ko rfl $ Km rfl $ Ko rfl $ Km rfl $ Ko rfl $ E.idxS k t[k] rfl rfl rfl (str_get hk') U9 rfl ?_
    rw [show u8 t[k] = .int .u8 ((t[k].toNat : Nat) : Int) from rfl]
    refine Ko rfl $ Kp rfl $ Kr rfl $ Km rfl $ E.split 20 rfl (fun g20 => ?_) (fun g20 => ?_)
    ·
     try simp only [Ya, Yb, Yc, Yd, Ye, Yf] at g20
     refine Kq rfl $ Kq rfl $ Kq rfl $ Kq rfl $ Kq rfl $ E.offu rfl rfl rfl $ E.offu rfl rfl rfl $ E.offu rfl rfl rfl $ E.offu rfl rfl rfl $ Kq rfl $ Kr rfl $ E.not rfl rfl $ E.nil $ X.join0 (Sub.cons (look_eq rfl (congrArg Value.bool (by exact (decide_eq_false (p := ¬ ((65 ≤ t[k].toNat ∧ t[k].toNat ≤ 90) ∨ (97 ≤ t[k].toNat ∧ t[k].toNat ≤ 122))) (by omega)).symm))) $ Sub.nil _) rfl rfl
    try simp only [Ya, Yb, Yc, Yd, Ye, Yf] at g20
    refine Ko rfl $ Km rfl $ Ko rfl $ Km rfl $ Ko rfl $ E.idxS k t[k] rfl rfl rfl (str_get hk') U9 rfl ?_
    rw [show u8 t[k] = .int .u8 ((t[k].toNat : Nat) : Int) from rfl]
    refine Ko rfl $ Kp rfl $ Ko rfl $ Km rfl $ E.split 25 rfl (fun g25 => ?_) (fun g25 => ?_)
    ·
     try simp only [Ya, Yb, Yc, Yd, Ye, Yf] at g25
     refine Ko rfl $ Km rfl $ Ko rfl $ Km rfl $ Ko rfl $ E.idxS k t[k] rfl rfl rfl (str_get hk') U9 rfl ?_
     rw [show u8 t[k] = .int .u8 ((t[k].toNat : Nat) : Int) from rfl]
     refine Ko rfl $ Kp rfl $ Ko rfl $ Kr rfl $ Kr rfl $ E.not rfl rfl $ E.nil $ X.join0 (Sub.cons (look_eq rfl (congrArg Value.bool (by exact (decide_not).symm.trans (decide_eq_decide.2 ⟨fun h => by omega, fun h => by omega⟩)))) $ Sub.nil _) rfl rfl
    try simp only [Ya, Yb, Yc, Yd, Ye, Yf] at g25
    refine Kq rfl $ Kq rfl $ Kq rfl $ Kq rfl $ Ko rfl $ Kr rfl $ Kr rfl $ E.not rfl rfl $ E.nil $ X.join0 (Sub.cons (look_eq rfl (congrArg Value.bool (by exact (decide_eq_true (p := ¬ ((65 ≤ t[k].toNat ∧ t[k].toNat ≤ 90) ∨ (97 ≤ t[k].toNat ∧ t[k].toNat ≤ 122))) (by omega)).symm))) $ Sub.nil _) rfl rfl
   try simp only [Ya, Yb, Yc, Yd, Ye, Yf] at g14
   refine Kq rfl $ Kq rfl $ Kq rfl $ Kq rfl $ Kr rfl $ Km rfl $ Ko rfl $ Km rfl $ Ko rfl $ Km rfl $ Ko rfl $ E.idxS k t[k] rfl rfl rfl (str_get hk') U9 rfl ?_
   rw [show u8 t[k] = .int .u8 ((t[k].toNat : Nat) : Int) from rfl]
   refine Ko rfl $ Kp rfl $ Ko rfl $ Km rfl $ E.split 25 rfl (fun g25 => ?_) (fun g25 => ?_)
   ·
    try simp only [Ya, Yb, Yc, Yd, Ye, Yf] at g25
    refine Ko rfl $ Km rfl $ Ko rfl $ Km rfl $ Ko rfl $ E.idxS k t[k] rfl rfl rfl (str_get hk') U9 rfl ?_
    rw [show u8 t[k] = .int .u8 ((t[k].toNat : Nat) : Int) from rfl]
    refine Ko rfl $ Kp rfl $ Ko rfl $ Kr rfl $ Kr rfl $ E.not rfl rfl $ E.nil $ X.join0 (Sub.cons (look_eq rfl (congrArg Value.bool (by exact (decide_not).symm.trans (decide_eq_decide.2 ⟨fun h => by omega, fun h => by omega⟩)))) $ Sub.nil _) rfl rfl
   try simp only [Ya, Yb, Yc, Yd, Ye, Yf] at g25
   refine Kq rfl $ Kq rfl $ Kq rfl $ Kq rfl $ Ko rfl $ Kr rfl $ Kr rfl $ E.not rfl rfl $ E.nil $ X.join0 (Sub.cons (look_eq rfl (congrArg Value.bool (by exact (decide_eq_true (p := ¬ ((65 ≤ t[k].toNat ∧ t[k].toNat ≤ 90) ∨ (97 ≤ t[k].toNat ∧ t[k].toNat ≤ 122))) (by omega)).symm))) $ Sub.nil _) rfl rfl
  refine C.cond' rfl (fun hC1 => ?_) (fun hC1 => ?_)
  ·
   refine Kb $ Kc rfl $ C.ret $ X.retB $ X.retT $ X.retT $ X.retB $ X.retT $ ret1 rfl rfl ?_
   exact ⟨congrArg _ (decide_eq_false fun h => by have := h.2 t[k] (List.getElem_mem hk'); exact hC1 (of_decide_eq_true this)).symm, hM.toExt⟩
  refine C.skip $ X.outN $ X.next $ C.region $ Km rfl $ E.add rfl rfl (by omega) rfl $ Kn rfl $ E.nil $ X.again1 (k + 1) (S1 rfl) rfl ⟨hM, by omega, all_takeN hk' hall (decide_eq_true (Decidable.not_not.1 hC1))⟩ (by omega)
 obtain rfl : k = t.length := by omega
 rw [List.take_length] at hall
 refine Kx $ Kb $ Km rfl $ E.lenS rfl U9 rfl $ Kp rfl $ Kc rfl $ C.ret $ ret1 rfl rfl ?_
 exact ⟨congrArg _ (decide_eq_decide.2 ⟨fun h => ⟨by omega, hall⟩, fun h => by have := h.1; omega⟩), hM.toExt⟩
end Go.Proofs.YtajklleiifhipaaGreatDoor
