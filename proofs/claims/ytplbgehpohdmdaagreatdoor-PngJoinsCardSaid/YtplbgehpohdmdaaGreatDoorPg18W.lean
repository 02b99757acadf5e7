/- chapter 35: the reference's numbers, letters. -/
import Derived.Test.YtplbgehpohdmdaaGreatDoorW0
import Derived.Test.YtplbgehpohdmdaaGreatDoorW15
import Derived.Test.YtplbgehpohdmdaaGreatDoorCrcBW
set_option linter.unusedSimpArgs false
set_option linter.unusedVariables false
namespace Go.Proofs.YtplbgehpohdmdaaGreatDoor
open Go.RowKit Sym
open Pg
theorem cut_off {α : Type} (a x y : Nat) (l : List α) : cutL (a + x) (a + y) l = ((l.drop a).drop x).take (y - x) := by
 unfold cutL
 rw [List.drop_drop, Nat.add_sub_add_left]
theorem q35CRC32_ret (p : Value) (l : List UInt8) (w : World) (hp : RdL u8 w p l) :
  Ret Tryz.prog 32 #[p] w fun v w' => v = u32 (Crc.crc l) ∧ Ext w w' := (rCRC32_ret p l w hp).mono fun v w' ⟨h, e⟩ => ⟨h, e ▸ Ext.refl w⟩
theorem n35_ret (p : Value) (l : List UInt8) (w : World) (hl : RdL u8 w p l) (h4 : 4 ≤ l.length) :
  Ret Tryz.prog 30 #[p] w fun v w' => v = i64 (Jn.dec4 l : Int) ∧ Ext w w' := by
 have hu0 := (l.getD 0 0).toNat_lt
 have hu1 := (l.getD 1 0).toNat_lt
 have hu2 := (l.getD 2 0).toNat_lt
 have hu3 := (l.getD 3 0).toNat_lt
 have hg0 := getD_u8 (l := l) (k := 0) (by omega)
 have hg1 := getD_u8 (l := l) (k := 1) (by omega)
 have hg2 := getD_u8 (l := l) (k := 2) (by omega)
 have hg3 := getD_u8 (l := l) (k := 3) (by omega)
 have hM := M.start w
 refine enter Tryz.func30 rfl (by kernel_rfl) Tryz.ntmps30 rfl ?_
 refine C.seq <| C.region <| E.asg rfl rfl <| E.nil <| X.next <| C.seq <| C.drawn (by kernel_rfl) (by kernel_rfl) <| Q.mv rfl rfl <| ?_
 refine Q.idx1 (k := 0) rfl rfl (hM.arg0 hl) rfl (by omega) Tryz.underlying22 (by kernel_rfl) rfl ?_
 refine Q.load rfl Tryz.underlying5 rfl ((hM.arg0 hl).cellA rfl (by omega)) rfl ?_
 rw [hg0]
 refine Q.conv rfl Tryz.underlying5 Tryz.underlying3 (IntWalk.i64_in _ (by omega)) rfl ?_
 refine Q.shl (c := _ * 16777216) rfl rfl (by omega) (IntWalk.i64_in ((((l.getD 0 0).toNat : Int)) * 16777216) (by omega)) rfl ?_
 refine Q.mv rfl rfl <| ?_
 refine Q.idx1 (k := 1) rfl rfl (hM.arg0 hl) rfl (by omega) Tryz.underlying22 (by kernel_rfl) rfl ?_
 refine Q.load rfl Tryz.underlying5 rfl ((hM.arg0 hl).cellA rfl (by omega)) rfl ?_
 rw [hg1]
 refine Q.conv rfl Tryz.underlying5 Tryz.underlying3 (IntWalk.i64_in _ (by omega)) rfl ?_
 refine Q.shl (c := _ * 65536) rfl rfl (by omega) (IntWalk.i64_in ((((l.getD 1 0).toNat : Int)) * 65536) (by omega)) rfl ?_
 refine Q.add rfl rfl (by omega) rfl ?_
 refine Q.mv rfl rfl <| ?_
 refine Q.idx1 (k := 2) rfl rfl (hM.arg0 hl) rfl (by omega) Tryz.underlying22 (by kernel_rfl) rfl ?_
 refine Q.load rfl Tryz.underlying5 rfl ((hM.arg0 hl).cellA rfl (by omega)) rfl ?_
 rw [hg2]
 refine Q.conv rfl Tryz.underlying5 Tryz.underlying3 (IntWalk.i64_in _ (by omega)) rfl ?_
 refine Q.shl (c := _ * 256) rfl rfl (by omega) (IntWalk.i64_in ((((l.getD 2 0).toNat : Int)) * 256) (by omega)) rfl ?_
 refine Q.add rfl rfl (by omega) rfl ?_
 refine Q.mv rfl rfl <| ?_
 refine Q.idx1 (k := 3) rfl rfl (hM.arg0 hl) rfl (by omega) Tryz.underlying22 (by kernel_rfl) rfl ?_
 refine Q.load rfl Tryz.underlying5 rfl ((hM.arg0 hl).cellA rfl (by omega)) rfl ?_
 rw [hg3]
 refine Q.conv rfl Tryz.underlying5 Tryz.underlying3 (IntWalk.i64_in _ (by omega)) rfl ?_
 refine Q.add rfl rfl (by omega) rfl ?_
 refine Q.asg rfl rfl <| Q.nil <| fun w0 hx0 => ?_
 have hM := hM.ext hx0
 refine X.next <| C.ret <| ret1 rfl rfl ?_
 exact ⟨congrArg _ (by rw [Jn.dec4_eq]; omega), hM.toExt⟩
theorem four35_ret (n : Nat) (w : World) (hn : n < 4294967296) :
  Ret Tryz.prog 36 #[i64 (n : Int)] w fun v w' => M w Nn w' [Rg.sl u8 5 v (Jn.enc4 n)] := by
 have hM := M.start w
 refine enter Tryz.func36 rfl (by kernel_rfl) Tryz.ntmps36 rfl ?_
 refine C.seq <| C.region <| E.asg rfl rfl <| E.nil <| X.next <| C.seq <| C.region <| E.mv rfl rfl <| ?_
 refine E.shr rfl rfl (by decide) (c := _ / 16777216) rfl rfl ?_
 refine E.conv rfl Tryz.underlying3 Tryz.underlying5 (c := ((UInt8.ofNat (n / 16777216)).toNat : Int)) (wrap8 (n / 16777216)) rfl ?_
 refine E.mv rfl rfl <| ?_
 refine E.shr rfl rfl (by decide) (c := _ / 65536) rfl rfl ?_
 refine E.conv rfl Tryz.underlying3 Tryz.underlying5 (c := ((UInt8.ofNat (n / 65536)).toNat : Int)) (wrap8 (n / 65536)) rfl ?_
 refine E.mv rfl rfl <| ?_
 refine E.shr rfl rfl (by decide) (c := _ / 256) rfl rfl ?_
 refine E.conv rfl Tryz.underlying3 Tryz.underlying5 (c := ((UInt8.ofNat (n / 256)).toNat : Int)) (wrap8 (n / 256)) rfl ?_
 refine E.mv rfl rfl <| ?_
 refine E.conv rfl Tryz.underlying3 Tryz.underlying5 (c := ((UInt8.ofNat (n)).toNat : Int)) (wrap8 (n)) rfl ?_
 refine E.mkM (enc := u8) (e := 5) (Jn.enc4 n) hM rfl (fun _ => by kernel_rfl) rfl rfl rfl ?_
 intro v14 w0 hM
 try dsimp only [Za, Zb, Zc, Zd, repl] at hM
 refine E.asg rfl rfl <| E.nil <| X.next <| C.ret <| ret1 rfl rfl ?_
 exact hM
theorem let35_ret (t : List UInt8) (w : World) (ht : t.length ≤ 1000000000) :
  Ret Tryz.prog 31 #[str t] w fun v w' => v = .bool (decide (let4 t)) ∧ Ext w w' := by
 have hsz := str_size t
 have hM := M.start w
 refine enter Tryz.func31 rfl (by kernel_rfl) Tryz.ntmps31 rfl ?_
 refine C.seq <| C.region <| E.asg rfl rfl <| E.nil <| X.next <| C.seq <| C.seq <| C.region <| E.asg rfl rfl <| E.nil <| X.next <| C.block <| ?_

 refine C.loop1 [(0, _)] rfl (fun (k : Nat) => [(3, i64 k)]) (fun (k : Nat) w' => M w (Nn) w' [] ∧ k ≤ t.length ∧ ∀ c ∈ t.take k, isL c = true) (fun (k : Nat) => t.length - k) 0 ?_ ?_ ?_
 · exact Sub.cons rfl <| Sub.nil _
 · exact ⟨hM, Nat.zero_le _, fun c hc => by simp at hc⟩
 rintro k w0 ⟨hM, hk, hall⟩
 refine C.seq <| C.seq <| C.region <| E.mv rfl rfl <| E.mv rfl rfl <| E.lenS rfl Tryz.underlying9 rfl <| E.bin rfl rfl rfl rfl <| E.nil <| X.next <| ?_
 refine C.cond' rfl (fun hC0 => ?_) (fun hC0 => ?_)
 ·
  have hk' : k < t.length := by omega
  refine C.skip <| X.next <| C.seq <| C.block <| ?_

  refine C.chainE [(0, _), (3, _)] rfl [(32, .bool (decide (¬ ((65 ≤ t[k].toNat ∧ t[k].toNat ≤ 90) ∨ (97 ≤ t[k].toNat ∧ t[k].toNat ≤ 122)))))] ?_ ?_
  ·
   refine C.region <| E.mv rfl rfl <| E.mv rfl rfl <| ?_
   refine E.idxS k t[k] rfl rfl rfl (str_get hk') Tryz.underlying9 rfl ?_
   rw [show u8 t[k] = .int .u8 ((t[k].toNat : Nat) : Int) from rfl]
   refine E.bin rfl rfl rfl rfl <| E.mv rfl rfl <| ?_
   refine E.split 14 rfl (fun g14 => ?_) (fun g14 => ?_)
   ·
    try simp only [Ya, Yb, Yc, Yd, Ye, Yf] at g14
    refine E.on rfl rfl (E.mv rfl rfl ?_)
    refine E.on rfl rfl (E.mv rfl rfl ?_)
    refine E.on rfl rfl (E.idxS k t[k] rfl rfl rfl (str_get hk') Tryz.underlying9 rfl ?_)
    rw [show u8 t[k] = .int .u8 ((t[k].toNat : Nat) : Int) from rfl]
    refine E.on rfl rfl (E.bin rfl rfl rfl rfl ?_)
    refine E.pick rfl rfl rfl <| E.mv rfl rfl <| ?_
    refine E.split 20 rfl (fun g20 => ?_) (fun g20 => ?_)
    ·
     try simp only [Ya, Yb, Yc, Yd, Ye, Yf] at g20
     refine E.off rfl rfl rfl rfl <| E.off rfl rfl rfl rfl <| E.off rfl rfl rfl rfl <| E.off rfl rfl rfl rfl <| E.off rfl rfl rfl rfl <| E.offu rfl rfl rfl <| E.offu rfl rfl rfl <| E.offu rfl rfl rfl <| E.offu rfl rfl rfl <| E.off rfl rfl rfl rfl <| E.pick rfl rfl rfl <| E.not rfl rfl <| E.nil <| X.join0 (Sub.cons (look_eq rfl (congrArg Value.bool (by exact (decide_eq_false (p := ¬ ((65 ≤ t[k].toNat ∧ t[k].toNat ≤ 90) ∨ (97 ≤ t[k].toNat ∧ t[k].toNat ≤ 122))) (by omega)).symm))) <| Sub.nil _) rfl rfl
    ·
     try simp only [Ya, Yb, Yc, Yd, Ye, Yf] at g20
     refine E.on rfl rfl (E.mv rfl rfl ?_)
     refine E.on rfl rfl (E.mv rfl rfl ?_)
     refine E.on rfl rfl (E.idxS k t[k] rfl rfl rfl (str_get hk') Tryz.underlying9 rfl ?_)
     rw [show u8 t[k] = .int .u8 ((t[k].toNat : Nat) : Int) from rfl]
     refine E.on rfl rfl (E.bin rfl rfl rfl rfl ?_)
     refine E.on rfl rfl (E.mv rfl rfl ?_)
     refine E.split 25 rfl (fun g25 => ?_) (fun g25 => ?_)
     ·
      try simp only [Ya, Yb, Yc, Yd, Ye, Yf] at g25
      refine E.on rfl rfl (E.mv rfl rfl ?_)
      refine E.on rfl rfl (E.mv rfl rfl ?_)
      refine E.on rfl rfl (E.idxS k t[k] rfl rfl rfl (str_get hk') Tryz.underlying9 rfl ?_)
      rw [show u8 t[k] = .int .u8 ((t[k].toNat : Nat) : Int) from rfl]
      refine E.on rfl rfl (E.bin rfl rfl rfl rfl ?_)
      refine E.on rfl rfl (E.pick rfl rfl rfl ?_)
      refine E.pick rfl rfl rfl <| E.not rfl rfl <| E.nil <| X.join0 (Sub.cons (look_eq rfl (congrArg Value.bool (by exact (decide_not).symm.trans (decide_eq_decide.2 ⟨fun h => by omega, fun h => by omega⟩)))) <| Sub.nil _) rfl rfl
     ·
      try simp only [Ya, Yb, Yc, Yd, Ye, Yf] at g25
      refine E.off rfl rfl rfl rfl <| E.off rfl rfl rfl rfl <| E.off rfl rfl rfl rfl <| E.off rfl rfl rfl rfl <| ?_
      refine E.on rfl rfl (E.pick rfl rfl rfl ?_)
      refine E.pick rfl rfl rfl <| E.not rfl rfl <| E.nil <| X.join0 (Sub.cons (look_eq rfl (congrArg Value.bool (by exact (decide_eq_true (p := ¬ ((65 ≤ t[k].toNat ∧ t[k].toNat ≤ 90) ∨ (97 ≤ t[k].toNat ∧ t[k].toNat ≤ 122))) (by omega)).symm))) <| Sub.nil _) rfl rfl
   ·
    try simp only [Ya, Yb, Yc, Yd, Ye, Yf] at g14
    refine E.off rfl rfl rfl rfl <| E.off rfl rfl rfl rfl <| E.off rfl rfl rfl rfl <| E.off rfl rfl rfl rfl <| E.pick rfl rfl rfl <| E.mv rfl rfl <| ?_
    refine E.on rfl rfl (E.mv rfl rfl ?_)
    refine E.on rfl rfl (E.mv rfl rfl ?_)
    refine E.on rfl rfl (E.idxS k t[k] rfl rfl rfl (str_get hk') Tryz.underlying9 rfl ?_)
    rw [show u8 t[k] = .int .u8 ((t[k].toNat : Nat) : Int) from rfl]
    refine E.on rfl rfl (E.bin rfl rfl rfl rfl ?_)
    refine E.on rfl rfl (E.mv rfl rfl ?_)
    refine E.split 25 rfl (fun g25 => ?_) (fun g25 => ?_)
    ·
     try simp only [Ya, Yb, Yc, Yd, Ye, Yf] at g25
     refine E.on rfl rfl (E.mv rfl rfl ?_)
     refine E.on rfl rfl (E.mv rfl rfl ?_)
     refine E.on rfl rfl (E.idxS k t[k] rfl rfl rfl (str_get hk') Tryz.underlying9 rfl ?_)
     rw [show u8 t[k] = .int .u8 ((t[k].toNat : Nat) : Int) from rfl]
     refine E.on rfl rfl (E.bin rfl rfl rfl rfl ?_)
     refine E.on rfl rfl (E.pick rfl rfl rfl ?_)
     refine E.pick rfl rfl rfl <| E.not rfl rfl <| E.nil <| X.join0 (Sub.cons (look_eq rfl (congrArg Value.bool (by exact (decide_not).symm.trans (decide_eq_decide.2 ⟨fun h => by omega, fun h => by omega⟩)))) <| Sub.nil _) rfl rfl
    ·
     try simp only [Ya, Yb, Yc, Yd, Ye, Yf] at g25
     refine E.off rfl rfl rfl rfl <| E.off rfl rfl rfl rfl <| E.off rfl rfl rfl rfl <| E.off rfl rfl rfl rfl <| ?_
     refine E.on rfl rfl (E.pick rfl rfl rfl ?_)
     refine E.pick rfl rfl rfl <| E.not rfl rfl <| E.nil <| X.join0 (Sub.cons (look_eq rfl (congrArg Value.bool (by exact (decide_eq_true (p := ¬ ((65 ≤ t[k].toNat ∧ t[k].toNat ≤ 90) ∨ (97 ≤ t[k].toNat ∧ t[k].toNat ≤ 122))) (by omega)).symm))) <| Sub.nil _) rfl rfl
  refine C.cond' rfl (fun hC1 => ?_) (fun hC1 => ?_)
  ·
   refine C.seq <| C.region <| E.asg rfl rfl <| E.nil <| X.next <| C.ret <| X.retB <| X.retT <| X.retT <| X.retB <| X.retT <| ret1 rfl rfl ?_
   exact ⟨congrArg _ (decide_eq_false fun h => by have := h.2 t[k] (List.getElem_mem hk'); exact hC1 (of_decide_eq_true this)).symm, hM.toExt⟩
  ·
   refine C.skip <| X.outN <| X.next <| C.region <| E.mv rfl rfl <| ?_
   refine E.add rfl rfl (by omega) rfl ?_

   refine E.asg rfl rfl <| E.nil <| X.again1 (k + 1) (Sub.cons rfl <| Sub.nil _) rfl ⟨hM, by omega, all_takeN hk' hall (decide_eq_true (Decidable.not_not.1 hC1))⟩ (by omega)
 ·
  obtain rfl : k = t.length := by omega
  rw [List.take_length] at hall
  refine C.exit <| X.exitT <| X.exitT <| X.outE <| X.next <| C.seq <| C.region <| E.mv rfl rfl <| E.lenS rfl Tryz.underlying9 rfl <| E.bin rfl rfl rfl rfl <| E.asg rfl rfl <| E.nil <| X.next <| C.ret <| ret1 rfl rfl ?_
  exact ⟨congrArg _ (decide_eq_decide.2 ⟨fun h => ⟨by omega, hall⟩, fun h => by have := h.1; omega⟩), hM.toExt⟩
end Go.Proofs.YtplbgehpohdmdaaGreatDoor
