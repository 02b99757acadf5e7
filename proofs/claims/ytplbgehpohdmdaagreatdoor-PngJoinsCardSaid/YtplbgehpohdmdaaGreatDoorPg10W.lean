/- chapter 35: what the laws want. -/
import Derived.Test.YtplbgehpohdmdaaGreatDoorW0
import Derived.Test.YtplbgehpohdmdaaGreatDoorW27
set_option linter.unusedSimpArgs false
set_option linter.unusedVariables false
namespace Go.Proofs.YtplbgehpohdmdaaGreatDoor
open Go.RowKit Sym
open Pg
def Few (l : List Ck) : Prop := l.length ≤ 40 ∧ ∀ c ∈ l, c.1.length ≤ 10 ∧ c.2.length ≤ 300
instance (l : List Ck) : Decidable (Few l) := inferInstanceAs (Decidable (_ ∧ _))
theorem Few.bd {l : List Ck} (h : Few l) : ∀ c ∈ l, c.1.length ≤ 1000000 ∧ c.2.length ≤ 4194304 := fun c hc => by have := h.2 c hc; omega
theorem Cks.le {w : World} {p : Value} {hs : List Hd} {l : List Ck} (h : Cks w p hs l) : l.length ≤ 9223372036854775807 := by
 have := Rd.le h.row.2
 rw [zc_len h.len] at this; omega
theorem all_takeC {q : Ck → Prop} {l : List Ck} {k : Nat} (hk : k < l.length) (h : ∀ c ∈ l.take k, q c) (hc : q l[k]) : ∀ c ∈ l.take (k + 1), q c := fun c hc' => by
 rw [← List.take_append_getElem hk, List.mem_append, List.mem_singleton] at hc'
 rcases hc' with h' | rfl
 · exact h c h'
 · exact hc
theorem Ck.ext2 {a b : Ck} (h1 : a.1 = b.1) (h2 : a.2 = b.2) : a = b := Prod.ext h1 h2
set_option maxHeartbeats 1000000 in
theorem Same_ret (p : Value) (hp : List Hd) (a : List Ck) (q : Value) (hq : List Hd) (b : List Ck) (w : World) (ha : Cks w p hp a) (hb : Cks w q hq b) :
  Ret Tryz.prog 15 #[p, q] w fun v w' => v = .bool (decide (a = b)) ∧ Ext w w' := by
 have hM := M.start w
 refine enter Tryz.func15 rfl (by kernel_rfl) Tryz.ntmps15 rfl ?_
 refine C.seq <| C.region <| E.asg rfl rfl <| E.nil <| X.next <| C.seq <| C.seq <| C.region <| E.mv rfl rfl <| ?_
 refine E.lenv rfl ha.shape Tryz.underlying24 rfl ?_
 refine E.mv rfl rfl <| ?_
 refine E.lenv rfl hb.shape Tryz.underlying24 rfl ?_
 refine E.bin rfl rfl rfl rfl <| E.nil <| X.next <| ?_
 refine C.cond' rfl (fun hC0 => ?_) (fun hC0 => ?_)
 ·
  refine C.seq <| C.region <| E.asg rfl rfl <| E.nil <| X.next <| C.ret <| X.retT <| ret1 rfl rfl ?_
  exact ⟨congrArg _ (decide_eq_false (p := a = b) (fun h => by rw [h] at hC0; exact hC0 rfl)).symm, hM.toExt⟩
 ·
  have hll : a.length = b.length := by omega
  have hle := ha.le
  refine C.skip <| X.next <| C.seq <| C.seq <| C.region <| E.asg rfl rfl <| E.nil <| X.next <| C.block <| ?_

  refine C.loop1 [(0, _), (1, _)] rfl (fun (k : Nat) => [(5, i64 k)]) (fun (k : Nat) w' => M w (Nn) w' [] ∧ k ≤ a.length ∧ a.take k = b.take k) (fun (k : Nat) => a.length - k) 0 ?_ ?_ ?_
  · exact Sub.cons rfl <| Sub.nil _
  · exact ⟨hM, Nat.zero_le _, by simp⟩
  rintro k w0 ⟨hM, hk, ht⟩
  refine C.seq <| C.seq <| C.region <| E.mv rfl rfl <| E.mv rfl rfl <| ?_
  refine E.lenv rfl ha.shape Tryz.underlying24 rfl ?_
  refine E.bin rfl rfl rfl rfl <| E.nil <| X.next <| ?_
  refine C.cond' rfl (fun hC1 => ?_) (fun hC1 => ?_)
  ·
   have hk1 : k < a.length := by omega
   have hk2 : k < b.length := by omega
   refine C.skip <| X.next <| C.seq <| C.block <| ?_

   refine C.chainQ [(0, _), (1, _), (5, _)] rfl [(42, .bool (decide (a[k] ≠ b[k])))] ?_ ?_
   ·
    refine C.drawn (by kernel_rfl) (by kernel_rfl) <| Q.mv rfl rfl <| Q.mv rfl rfl <| ?_
    refine Q.idxF (k := k) rfl rfl (ha.row.ext hM.toExt) rfl (by rw [zc_len ha.len]; exact hk1) (by decide) Tryz.underlying24 (by kernel_rfl) rfl ?_
    refine Q.fld (o := 0) (sz := 0) rfl Tryz.underlying46 rfl rfl (by kernel_rfl) rfl ?_
    refine Q.load rfl Tryz.underlying9 rfl ((ha.ext hM.toExt).at hk1 0 _ rfl) rfl ?_
    refine Q.mv rfl rfl <| Q.mv rfl rfl <| ?_
    refine Q.idxF (k := k) rfl rfl (hb.row.ext hM.toExt) rfl (by rw [zc_len hb.len]; exact hk2) (by decide) Tryz.underlying24 (by kernel_rfl) rfl ?_
    refine Q.fld (o := 0) (sz := 0) rfl Tryz.underlying46 rfl rfl (by kernel_rfl) rfl ?_
    refine Q.load rfl Tryz.underlying9 rfl ((hb.ext hM.toExt).at hk2 0 _ rfl) rfl ?_
    refine Q.nestr (l := (a[k]).1) (m := (b[k]).1) rfl rfl rfl ?_
    refine Q.mv rfl rfl <| ?_
    refine Q.split 28 rfl (fun g28 => ?_) (fun g28 => ?_)
    ·
     try simp only [Ya, Yb, Yc, Yd, Ye, Yf] at g28
     have g28' : (a[k]).1 ≠ (b[k]).1 := by simpa using g28
     refine Q.off rfl rfl rfl rfl <| Q.off rfl rfl rfl rfl <| Q.off rfl rfl rfl rfl <| Q.off rfl rfl rfl rfl <| Q.off rfl rfl rfl rfl <| Q.off rfl rfl rfl rfl <| Q.off rfl rfl rfl rfl <| Q.off rfl rfl rfl rfl <| Q.off rfl rfl rfl rfl <| Q.off rfl rfl rfl rfl <| Q.off rfl rfl rfl rfl <| Q.off rfl rfl rfl rfl <| Q.off rfl rfl rfl rfl <| Q.pick rfl rfl rfl <| Q.nil <| fun w1 hx1 => ?_
     refine X.join0 (Sub.cons (look_eq rfl (congrArg Value.bool (by exact (decide_eq_true (p := a[k] ≠ b[k]) (fun h => g28' (by rw [h]))).symm))) <| Sub.nil _) rfl hx1
    ·
     try simp only [Ya, Yb, Yc, Yd, Ye, Yf] at g28
     have g28' : (a[k]).1 = (b[k]).1 := by simpa using g28
     refine Q.on rfl rfl (Q.mv rfl rfl ?_)
     refine Q.on rfl rfl (Q.mv rfl rfl ?_)
     refine Q.on rfl rfl (Q.idxF (k := k) rfl rfl (ha.row.ext hM.toExt) rfl (by rw [zc_len ha.len]; exact hk1) (by decide) Tryz.underlying24 (by kernel_rfl) rfl ?_)
     refine Q.on rfl rfl (Q.fld (o := 1) (sz := 0) rfl Tryz.underlying46 rfl rfl (by kernel_rfl) rfl ?_)
     refine Q.on rfl rfl (Q.load rfl Tryz.underlying22 rfl ((ha.ext hM.toExt).at hk1 1 _ rfl) rfl ?_)
     refine Q.on rfl rfl (Q.bstr rfl ((ha.data hk1).ext hM.toExt) Tryz.underlying22 Tryz.underlying5 Tryz.underlying9 rfl ?_)
     refine Q.on rfl rfl (Q.mv rfl rfl ?_)
     refine Q.on rfl rfl (Q.mv rfl rfl ?_)
     refine Q.on rfl rfl (Q.idxF (k := k) rfl rfl (hb.row.ext hM.toExt) rfl (by rw [zc_len hb.len]; exact hk2) (by decide) Tryz.underlying24 (by kernel_rfl) rfl ?_)
     refine Q.on rfl rfl (Q.fld (o := 1) (sz := 0) rfl Tryz.underlying46 rfl rfl (by kernel_rfl) rfl ?_)
     refine Q.on rfl rfl (Q.load rfl Tryz.underlying22 rfl ((hb.ext hM.toExt).at hk2 1 _ rfl) rfl ?_)
     refine Q.on rfl rfl (Q.bstr rfl ((hb.data hk2).ext hM.toExt) Tryz.underlying22 Tryz.underlying5 Tryz.underlying9 rfl ?_)
     refine Q.on rfl rfl (Q.nestr (l := (a[k]).2) (m := (b[k]).2) rfl rfl rfl ?_)
     refine Q.pick rfl rfl rfl <| Q.nil <| fun w2 hx2 => ?_
     refine X.join0 (Sub.cons (look_eq rfl (congrArg Value.bool (by exact decide_eq_decide.2 ⟨fun h e => h (by rw [e]), fun h e => h (Ck.ext2 g28' e)⟩))) <| Sub.nil _) rfl hx2
   intro w3 hx3
   have hM := hM.ext hx3
   refine C.cond' rfl (fun hC2 => ?_) (fun hC2 => ?_)
   ·
    refine C.seq <| C.region <| E.asg rfl rfl <| E.nil <| X.next <| C.ret <| X.retB <| X.retT <| X.retT <| X.retB <| X.retT <| ret1 rfl rfl ?_
    exact ⟨congrArg _ (decide_eq_false (p := a = b) (fun h => by subst h; exact hC2 rfl)).symm, hM.toExt⟩
   ·
    refine C.skip <| X.outN <| X.next <| C.region <| E.mv rfl rfl <| ?_
    refine E.add rfl rfl (by omega) rfl ?_

    refine E.asg rfl rfl <| E.nil <| X.again1 (k + 1) (Sub.cons rfl <| Sub.nil _) rfl ⟨hM, by omega, take_more hk1 hk2 ht (Decidable.not_not.1 hC2)⟩ (by omega)
  ·
   obtain rfl : k = a.length := by omega
   rw [List.take_length, hll, List.take_length] at ht
   refine C.exit <| X.exitT <| X.exitT <| X.outE <| X.next <| C.seq <| C.region <| E.asg rfl rfl <| E.nil <| X.next <| C.ret <| ret1 rfl rfl ?_
   exact ⟨congrArg _ (decide_eq_true (p := a = b) ht).symm, hM.toExt⟩
theorem few_ret (p : Value) (hs : List Hd) (l : List Ck) (w : World) (hc : Cks w p hs l) :
  Ret Tryz.prog 16 #[p] w fun v w' => v = .bool (decide (Few l)) ∧ Ext w w' := by
 have hM := M.start w
 refine enter Tryz.func16 rfl (by kernel_rfl) Tryz.ntmps16 rfl ?_
 refine C.seq <| C.region <| E.asg rfl rfl <| E.nil <| X.next <| C.seq <| C.seq <| C.region <| E.mv rfl rfl <| ?_
 refine E.lenv rfl hc.shape Tryz.underlying24 rfl ?_
 refine E.bin rfl rfl rfl rfl <| E.nil <| X.next <| ?_
 refine C.cond' rfl (fun hC0 => ?_) (fun hC0 => ?_)
 ·
  refine C.seq <| C.region <| E.asg rfl rfl <| E.nil <| X.next <| C.ret <| X.retT <| ret1 rfl rfl ?_
  exact ⟨congrArg _ (decide_eq_false (p := Few l) (fun h => by have := h.1; omega)).symm, hM.toExt⟩
 ·
  refine C.skip <| X.next <| C.seq <| C.seq <| C.region <| E.asg rfl rfl <| E.nil <| X.next <| C.block <| ?_

  refine C.loop1 [(0, _)] rfl (fun (k : Nat) => [(3, i64 k)]) (fun (k : Nat) w' => M w (Nn) w' [] ∧ k ≤ l.length ∧ ∀ c ∈ l.take k, c.1.length ≤ 10 ∧ c.2.length ≤ 300) (fun (k : Nat) => l.length - k) 0 ?_ ?_ ?_
  · exact Sub.cons rfl <| Sub.nil _
  · exact ⟨hM, Nat.zero_le _, fun c hc => by simp at hc⟩
  rintro k w0 ⟨hM, hk, hall⟩
  refine C.seq <| C.seq <| C.region <| E.mv rfl rfl <| E.mv rfl rfl <| ?_
  refine E.lenv rfl hc.shape Tryz.underlying24 rfl ?_
  refine E.bin rfl rfl rfl rfl <| E.nil <| X.next <| ?_
  refine C.cond' rfl (fun hC1 => ?_) (fun hC1 => ?_)
  ·
   have hk1 : k < l.length := by omega
   have hss := str_size (l[k]).1
   refine C.skip <| X.next <| C.seq <| C.block <| ?_

   refine C.chainE [(0, _), (3, _)] rfl [(28, .bool (decide (10 < (l[k]).1.length ∨ 300 < (l[k]).2.length)))] ?_ ?_
   ·
    refine C.region <| E.mv rfl rfl <| E.mv rfl rfl <| ?_
    refine E.idxF (k := k) rfl rfl (hc.row.ext hM.toExt) rfl (by rw [zc_len hc.len]; exact hk1) (by decide) Tryz.underlying24 (by kernel_rfl) rfl ?_
    refine E.fld (o := 0) (sz := 0) rfl Tryz.underlying46 rfl rfl (by kernel_rfl) rfl ?_
    refine E.load rfl Tryz.underlying9 rfl ((hc.ext hM.toExt).at hk1 0 _ rfl) rfl ?_
    refine E.lenS rfl Tryz.underlying9 rfl <| E.bin rfl rfl rfl rfl <| E.mv rfl rfl <| ?_
    refine E.split 20 rfl (fun g20 => ?_) (fun g20 => ?_)
    ·
     try simp only [Ya, Yb, Yc, Yd, Ye, Yf] at g20
     refine E.off rfl rfl rfl rfl <| E.off rfl rfl rfl rfl <| E.off rfl rfl rfl rfl <| E.off rfl rfl rfl rfl <| E.off rfl rfl rfl rfl <| E.off rfl rfl rfl rfl <| E.off rfl rfl rfl rfl <| E.pick rfl rfl rfl <| E.nil <| X.join0 (Sub.cons (look_eq rfl (congrArg Value.bool (by exact (decide_eq_true (p := 10 < (l[k]).1.length ∨ 300 < (l[k]).2.length) (by omega)).symm))) <| Sub.nil _) rfl rfl
    ·
     try simp only [Ya, Yb, Yc, Yd, Ye, Yf] at g20
     refine E.on rfl rfl (E.mv rfl rfl ?_)
     refine E.on rfl rfl (E.mv rfl rfl ?_)
     refine E.on rfl rfl (E.idxF (k := k) rfl rfl (hc.row.ext hM.toExt) rfl (by rw [zc_len hc.len]; exact hk1) (by decide) Tryz.underlying24 (by kernel_rfl) rfl ?_)
     refine E.on rfl rfl (E.fld (o := 1) (sz := 0) rfl Tryz.underlying46 rfl rfl (by kernel_rfl) rfl ?_)
     refine E.on rfl rfl (E.load rfl Tryz.underlying22 rfl ((hc.ext hM.toExt).at hk1 1 _ rfl) rfl ?_)
     refine E.on rfl rfl (E.lenv rfl (Rd.shape (hc.data hk1)) Tryz.underlying22 rfl ?_)
     refine E.on rfl rfl (E.bin rfl rfl rfl rfl ?_)
     refine E.pick rfl rfl rfl <| E.nil <| X.join0 (Sub.cons (look_eq rfl (congrArg Value.bool (by exact decide_eq_decide.2 ⟨fun h => by omega, fun h => by omega⟩))) <| Sub.nil _) rfl rfl
   refine C.cond' rfl (fun hC2 => ?_) (fun hC2 => ?_)
   ·
    refine C.seq <| C.region <| E.asg rfl rfl <| E.nil <| X.next <| C.ret <| X.retB <| X.retT <| X.retT <| X.retB <| X.retT <| ret1 rfl rfl ?_
    exact ⟨congrArg _ (decide_eq_false (p := Few l) (fun h => by have := h.2 _ (List.getElem_mem hk1); omega)).symm, hM.toExt⟩
   ·
    refine C.skip <| X.outN <| X.next <| C.region <| E.mv rfl rfl <| ?_
    refine E.add rfl rfl (by omega) rfl ?_

    refine E.asg rfl rfl <| E.nil <| X.again1 (k + 1) (Sub.cons rfl <| Sub.nil _) rfl ⟨hM, by omega, all_takeC hk1 hall (by omega)⟩ (by omega)
  ·
   obtain rfl : k = l.length := by omega
   rw [List.take_length] at hall
   refine C.exit <| X.exitT <| X.exitT <| X.outE <| X.next <| C.seq <| C.region <| E.asg rfl rfl <| E.nil <| X.next <| C.ret <| ret1 rfl rfl ?_
   exact ⟨congrArg _ (decide_eq_true (p := Few l) ⟨by omega, hall⟩).symm, hM.toExt⟩
end Go.Proofs.YtplbgehpohdmdaaGreatDoor
