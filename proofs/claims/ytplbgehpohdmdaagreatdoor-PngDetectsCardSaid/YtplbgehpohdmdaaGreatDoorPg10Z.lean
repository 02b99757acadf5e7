/- chapter 35: what the laws want. -/
import Derived.Test.YtplbgehpohdmdaaGreatDoorZ0
import Derived.Test.YtplbgehpohdmdaaGreatDoorZ27
set_option linter.unusedSimpArgs false
set_option linter.unusedVariables false
namespace Go.Proofs.YtplbgehpohdmdaaGreatDoor
open Go.RowKit Sym
open Pg
def Few (l : List Ck) : Prop := l.length ≤ 40 ∧ ∀ c ∈ l, c.1.length ≤ 10 ∧ c.2.length ≤ 300
instance (l : List Ck) : Decidable (Few l) := inferInstanceAs (Decidable (_ ∧ _))
theorem Few.bd {l : List Ck} (h : Few l) : ∀ c ∈ l, c.1.length ≤ 1000000 ∧ c.2.length ≤ 4194304 := fun c hc => by have := h.2 c hc; omega
theorem Cks.le {w : World} {p : Value} {hs : List Hd} {l : List Ck} (h : Cks w p hs l) : l.length ≤ 9223372036854775807 := by
 have := Rd.le h.row.2
 rw [zc_len h.len] at this; omega
theorem all_takeC {q : Ck → Prop} {l : List Ck} {k : Nat} (hk : k < l.length) (h : ∀ c ∈ l.take k, q c) (hc : q l[k]) : ∀ c ∈ l.take (k + 1), q c := fun c hc' => by
 rw [← List.take_append_getElem hk, List.mem_append, List.mem_singleton] at hc'
 rcases hc' with h' | rfl
 · exact h c h'
 · exact hc
theorem Ck.ext2 {a b : Ck} (h1 : a.1 = b.1) (h2 : a.2 = b.2) : a = b := Prod.ext h1 h2
theorem rd_bd {p : List UInt8} {l : List Ck} (h : rdf p = .ok l) : ∀ c ∈ l, c.1.length ≤ 1000000 ∧ c.2.length ≤ 4194304 := fun c hc => by
 obtain ⟨h1, h2, h3, h4⟩ := rdf_ok h
 have h5 := cks_len (fun c hc => (gd_let h1 c hc).1)
 have h6 := csz_ge hc
 have h7 := (gd_let h1 c hc).1
 have h8 := congrArg List.length h3
 rw [List.length_append, h5] at h8
 omega
set_option maxHeartbeats 1000000 in
theorem Same_ret (p : Value) (hp : List Hd) (a : List Ck) (q : Value) (hq : List Hd) (b : List Ck) (w : World) (ha : Cks w p hp a) (hb : Cks w q hq b) :
  Ret Tryz.prog 15 #[p, q] w fun v w' => v = .bool (decide (a = b)) ∧ Ext w w' := by
 have hM := M.start w
 refine enter Tryz.func15 rfl (by kernel_rfl) Tryz.ntmps15 rfl ?_
 refine C.seq <| C.region <| E.asg rfl rfl <| E.nil <| X.next <| C.seq <| C.seq <| C.region <| E.mv rfl rfl <| ?_
 refine E.lenv rfl ha.shape Tryz.underlying24 rfl ?_
 refine E.mv rfl rfl <| ?_
 refine E.lenv rfl hb.shape Tryz.underlying24 rfl ?_
 refine E.bin rfl rfl rfl rfl <| E.nil <| X.next <| ?_
 refine C.cond' rfl (fun hC0 => ?_) (fun hC0 => ?_)
 ·
  refine C.seq <| C.region <| E.asg rfl rfl <| E.nil <| X.next <| C.ret <| X.retT <| ret1 rfl rfl ?_
  exact ⟨congrArg _ (decide_eq_false (p := a = b) (fun h => by rw [h] at hC0; exact hC0 rfl)).symm, hM.toExt⟩
 ·
  have hll : a.length = b.length := by omega
  have hle := ha.le
  refine C.skip <| X.next <| C.seq <| C.seq <| C.region <| E.asg rfl rfl <| E.nil <| X.next <| C.block <| ?_

  refine C.loop1 [(0, _), (1, _)] rfl (fun (k : Nat) => [(5, i64 k)]) (fun (k : Nat) w' => M w (Nn) w' [] ∧ k ≤ a.length ∧ a.take k = b.take k) (fun (k : Nat) => a.length - k) 0 ?_ ?_ ?_
  · exact Sub.cons rfl <| Sub.nil _
  · exact ⟨hM, Nat.zero_le _, by simp⟩
  rintro k w0 ⟨hM, hk, ht⟩
  refine C.seq <| C.seq <| C.region <| E.mv rfl rfl <| E.mv rfl rfl <| ?_
  refine E.lenv rfl ha.shape Tryz.underlying24 rfl ?_
  refine E.bin rfl rfl rfl rfl <| E.nil <| X.next <| ?_
  refine C.cond' rfl (fun hC1 => ?_) (fun hC1 => ?_)
  ·
   have hk1 : k < a.length := by omega
   have hk2 : k < b.length := by omega
   refine C.skip <| X.next <| C.seq <| C.block <| ?_

   refine C.chainQ [(0, _), (1, _), (5, _)] rfl [(42, .bool (decide (a[k] ≠ b[k])))] ?_ ?_
   ·
    refine C.drawn (by kernel_rfl) (by kernel_rfl) <| Q.mv rfl rfl <| Q.mv rfl rfl <| ?_
    refine Q.idxF (k := k) rfl rfl (ha.row.ext hM.toExt) rfl (by rw [zc_len ha.len]; exact hk1) (by decide) Tryz.underlying24 (by kernel_rfl) rfl ?_
    refine Q.fld (o := 0) (sz := 0) rfl Tryz.underlying46 rfl rfl (by kernel_rfl) rfl ?_
    refine Q.load rfl Tryz.underlying9 rfl ((ha.ext hM.toExt).at hk1 0 _ rfl) rfl ?_
    refine Q.mv rfl rfl <| Q.mv rfl rfl <| ?_
    refine Q.idxF (k := k) rfl rfl (hb.row.ext hM.toExt) rfl (by rw [zc_len hb.len]; exact hk2) (by decide) Tryz.underlying24 (by kernel_rfl) rfl ?_
    refine Q.fld (o := 0) (sz := 0) rfl Tryz.underlying46 rfl rfl (by kernel_rfl) rfl ?_
    refine Q.load rfl Tryz.underlying9 rfl ((hb.ext hM.toExt).at hk2 0 _ rfl) rfl ?_
    refine Q.nestr (l := (a[k]).1) (m := (b[k]).1) rfl rfl rfl ?_
    refine Q.mv rfl rfl <| ?_
    refine Q.split 28 rfl (fun g28 => ?_) (fun g28 => ?_)
    ·
     try simp only [Ya, Yb, Yc, Yd, Ye, Yf] at g28
     have g28' : (a[k]).1 ≠ (b[k]).1 := by simpa using g28
     refine Q.off rfl rfl rfl rfl <| Q.off rfl rfl rfl rfl <| Q.off rfl rfl rfl rfl <| Q.off rfl rfl rfl rfl <| Q.off rfl rfl rfl rfl <| Q.off rfl rfl rfl rfl <| Q.off rfl rfl rfl rfl <| Q.off rfl rfl rfl rfl <| Q.off rfl rfl rfl rfl <| Q.off rfl rfl rfl rfl <| Q.off rfl rfl rfl rfl <| Q.off rfl rfl rfl rfl <| Q.off rfl rfl rfl rfl <| Q.pick rfl rfl rfl <| Q.nil <| fun w1 hx1 => ?_
     refine X.join0 (Sub.cons (look_eq rfl (congrArg Value.bool (by exact (decide_eq_true (p := a[k] ≠ b[k]) (fun h => g28' (by rw [h]))).symm))) <| Sub.nil _) rfl hx1
    ·
     try simp only [Ya, Yb, Yc, Yd, Ye, Yf] at g28
     have g28' : (a[k]).1 = (b[k]).1 := by simpa using g28
     refine Q.on rfl rfl (Q.mv rfl rfl ?_)
     refine Q.on rfl rfl (Q.mv rfl rfl ?_)
     refine Q.on rfl rfl (Q.idxF (k := k) rfl rfl (ha.row.ext hM.toExt) rfl (by rw [zc_len ha.len]; exact hk1) (by decide) Tryz.underlying24 (by kernel_rfl) rfl ?_)
     refine Q.on rfl rfl (Q.fld (o := 1) (sz := 0) rfl Tryz.underlying46 rfl rfl (by kernel_rfl) rfl ?_)
     refine Q.on rfl rfl (Q.load rfl Tryz.underlying22 rfl ((ha.ext hM.toExt).at hk1 1 _ rfl) rfl ?_)
     refine Q.on rfl rfl (Q.bstr rfl ((ha.data hk1).ext hM.toExt) Tryz.underlying22 Tryz.underlying5 Tryz.underlying9 rfl ?_)
     refine Q.on rfl rfl (Q.mv rfl rfl ?_)
     refine Q.on rfl rfl (Q.mv rfl rfl ?_)
     refine Q.on rfl rfl (Q.idxF (k := k) rfl rfl (hb.row.ext hM.toExt) rfl (by rw [zc_len hb.len]; exact hk2) (by decide) Tryz.underlying24 (by kernel_rfl) rfl ?_)
     refine Q.on rfl rfl (Q.fld (o := 1) (sz := 0) rfl Tryz.underlying46 rfl rfl (by kernel_rfl) rfl ?_)
     refine Q.on rfl rfl (Q.load rfl Tryz.underlying22 rfl ((hb.ext hM.toExt).at hk2 1 _ rfl) rfl ?_)
     refine Q.on rfl rfl (Q.bstr rfl ((hb.data hk2).ext hM.toExt) Tryz.underlying22 Tryz.underlying5 Tryz.underlying9 rfl ?_)
     refine Q.on rfl rfl (Q.nestr (l := (a[k]).2) (m := (b[k]).2) rfl rfl rfl ?_)
     refine Q.pick rfl rfl rfl <| Q.nil <| fun w2 hx2 => ?_
     refine X.join0 (Sub.cons (look_eq rfl (congrArg Value.bool (by exact decide_eq_decide.2 ⟨fun h e => h (by rw [e]), fun h e => h (Ck.ext2 g28' e)⟩))) <| Sub.nil _) rfl hx2
   intro w3 hx3
   have hM := hM.ext hx3
   refine C.cond' rfl (fun hC2 => ?_) (fun hC2 => ?_)
   ·
    refine C.seq <| C.region <| E.asg rfl rfl <| E.nil <| X.next <| C.ret <| X.retB <| X.retT <| X.retT <| X.retB <| X.retT <| ret1 rfl rfl ?_
    exact ⟨congrArg _ (decide_eq_false (p := a = b) (fun h => by subst h; exact hC2 rfl)).symm, hM.toExt⟩
   ·
    refine C.skip <| X.outN <| X.next <| C.region <| E.mv rfl rfl <| ?_
    refine E.add rfl rfl (by omega) rfl ?_

    refine E.asg rfl rfl <| E.nil <| X.again1 (k + 1) (Sub.cons rfl <| Sub.nil _) rfl ⟨hM, by omega, take_more hk1 hk2 ht (Decidable.not_not.1 hC2)⟩ (by omega)
  ·
   obtain rfl : k = a.length := by omega
   rw [List.take_length, hll, List.take_length] at ht
   refine C.exit <| X.exitT <| X.exitT <| X.outE <| X.next <| C.seq <| C.region <| E.asg rfl rfl <| E.nil <| X.next <| C.ret <| ret1 rfl rfl ?_
   exact ⟨congrArg _ (decide_eq_true (p := a = b) ht).symm, hM.toExt⟩
theorem few_ret (p : Value) (hs : List Hd) (l : List Ck) (w : World) (hc : Cks w p hs l) :
  Ret Tryz.prog 16 #[p] w fun v w' => v = .bool (decide (Few l)) ∧ Ext w w' := by
 have hM := M.start w
 refine enter Tryz.func16 rfl (by kernel_rfl) Tryz.ntmps16 rfl ?_
 refine C.seq <| C.region <| E.asg rfl rfl <| E.nil <| X.next <| C.seq <| C.seq <| C.region <| E.mv rfl rfl <| ?_
 refine E.lenv rfl hc.shape Tryz.underlying24 rfl ?_
 refine E.bin rfl rfl rfl rfl <| E.nil <| X.next <| ?_
 refine C.cond' rfl (fun hC0 => ?_) (fun hC0 => ?_)
 ·
  refine C.seq <| C.region <| E.asg rfl rfl <| E.nil <| X.next <| C.ret <| X.retT <| ret1 rfl rfl ?_
  exact ⟨congrArg _ (decide_eq_false (p := Few l) (fun h => by have := h.1; omega)).symm, hM.toExt⟩
 ·
  refine C.skip <| X.next <| C.seq <| C.seq <| C.region <| E.asg rfl rfl <| E.nil <| X.next <| C.block <| ?_

  refine C.loop1 [(0, _)] rfl (fun (k : Nat) => [(3, i64 k)]) (fun (k : Nat) w' => M w (Nn) w' [] ∧ k ≤ l.length ∧ ∀ c ∈ l.take k, c.1.length ≤ 10 ∧ c.2.length ≤ 300) (fun (k : Nat) => l.length - k) 0 ?_ ?_ ?_
  · exact Sub.cons rfl <| Sub.nil _
  · exact ⟨hM, Nat.zero_le _, fun c hc => by simp at hc⟩
  rintro k w0 ⟨hM, hk, hall⟩
  refine C.seq <| C.seq <| C.region <| E.mv rfl rfl <| E.mv rfl rfl <| ?_
  refine E.lenv rfl hc.shape Tryz.underlying24 rfl ?_
  refine E.bin rfl rfl rfl rfl <| E.nil <| X.next <| ?_
  refine C.cond' rfl (fun hC1 => ?_) (fun hC1 => ?_)
  ·
   have hk1 : k < l.length := by omega
   have hss := str_size (l[k]).1
   refine C.skip <| X.next <| C.seq <| C.block <| ?_

   refine C.chainE [(0, _), (3, _)] rfl [(28, .bool (decide (10 < (l[k]).1.length ∨ 300 < (l[k]).2.length)))] ?_ ?_
   ·
    refine C.region <| E.mv rfl rfl <| E.mv rfl rfl <| ?_
    refine E.idxF (k := k) rfl rfl (hc.row.ext hM.toExt) rfl (by rw [zc_len hc.len]; exact hk1) (by decide) Tryz.underlying24 (by kernel_rfl) rfl ?_
    refine E.fld (o := 0) (sz := 0) rfl Tryz.underlying46 rfl rfl (by kernel_rfl) rfl ?_
    refine E.load rfl Tryz.underlying9 rfl ((hc.ext hM.toExt).at hk1 0 _ rfl) rfl ?_
    refine E.lenS rfl Tryz.underlying9 rfl <| E.bin rfl rfl rfl rfl <| E.mv rfl rfl <| ?_
    refine E.split 20 rfl (fun g20 => ?_) (fun g20 => ?_)
    ·
     try simp only [Ya, Yb, Yc, Yd, Ye, Yf] at g20
     refine E.off rfl rfl rfl rfl <| E.off rfl rfl rfl rfl <| E.off rfl rfl rfl rfl <| E.off rfl rfl rfl rfl <| E.off rfl rfl rfl rfl <| E.off rfl rfl rfl rfl <| E.off rfl rfl rfl rfl <| E.pick rfl rfl rfl <| E.nil <| X.join0 (Sub.cons (look_eq rfl (congrArg Value.bool (by exact (decide_eq_true (p := 10 < (l[k]).1.length ∨ 300 < (l[k]).2.length) (by omega)).symm))) <| Sub.nil _) rfl rfl
    ·
     try simp only [Ya, Yb, Yc, Yd, Ye, Yf] at g20
     refine E.on rfl rfl (E.mv rfl rfl ?_)
     refine E.on rfl rfl (E.mv rfl rfl ?_)
     refine E.on rfl rfl (E.idxF (k := k) rfl rfl (hc.row.ext hM.toExt) rfl (by rw [zc_len hc.len]; exact hk1) (by decide) Tryz.underlying24 (by kernel_rfl) rfl ?_)
     refine E.on rfl rfl (E.fld (o := 1) (sz := 0) rfl Tryz.underlying46 rfl rfl (by kernel_rfl) rfl ?_)
     refine E.on rfl rfl (E.load rfl Tryz.underlying22 rfl ((hc.ext hM.toExt).at hk1 1 _ rfl) rfl ?_)
     refine E.on rfl rfl (E.lenv rfl (Rd.shape (hc.data hk1)) Tryz.underlying22 rfl ?_)
     refine E.on rfl rfl (E.bin rfl rfl rfl rfl ?_)
     refine E.pick rfl rfl rfl <| E.nil <| X.join0 (Sub.cons (look_eq rfl (congrArg Value.bool (by exact decide_eq_decide.2 ⟨fun h => by omega, fun h => by omega⟩))) <| Sub.nil _) rfl rfl
   refine C.cond' rfl (fun hC2 => ?_) (fun hC2 => ?_)
   ·
    refine C.seq <| C.region <| E.asg rfl rfl <| E.nil <| X.next <| C.ret <| X.retB <| X.retT <| X.retT <| X.retB <| X.retT <| ret1 rfl rfl ?_
    exact ⟨congrArg _ (decide_eq_false (p := Few l) (fun h => by have := h.2 _ (List.getElem_mem hk1); omega)).symm, hM.toExt⟩
   ·
    refine C.skip <| X.outN <| X.next <| C.region <| E.mv rfl rfl <| ?_
    refine E.add rfl rfl (by omega) rfl ?_

    refine E.asg rfl rfl <| E.nil <| X.again1 (k + 1) (Sub.cons rfl <| Sub.nil _) rfl ⟨hM, by omega, all_takeC hk1 hall (by omega)⟩ (by omega)
  ·
   obtain rfl : k = l.length := by omega
   rw [List.take_length] at hall
   refine C.exit <| X.exitT <| X.exitT <| X.outE <| X.next <| C.seq <| C.region <| E.asg rfl rfl <| E.nil <| X.next <| C.ret <| ret1 rfl rfl ?_
   exact ⟨congrArg _ (decide_eq_true (p := Few l) ⟨by omega, hall⟩).symm, hM.toExt⟩
set_option maxHeartbeats 1000000 in
theorem PngRestores_ret (p : Value) (hs : List Hd) (l : List Ck) (q : Value) (t : List UInt8) (w : World) (hc : Cks w p hs l) (hq : RdL u8 w q t) (hO : Ord w) :
  Ret Tryz.prog 9 #[p, q] w fun v w' => v = .bool true ∧ Ext w w' := by
 have hM := M.start w
 refine enter Tryz.func9 rfl (by kernel_rfl) Tryz.ntmps9 rfl ?_
 refine C.seq <| C.region <| E.asg rfl rfl <| E.nil <| X.next <| C.seq <| ?_

 refine C.cut0 [(0, _), (1, _)] rfl [(20, .bool (decide (¬ (Few l ∧ t.length ≤ 2000))))] (fun w' => M w (Nn) w' []) ?_ ?_
 ·
  refine C.region <| E.mv rfl rfl <| ?_
  refine E.call rfl rfl (few_ret p hs l _ (hc.ext hM.toExt)) ?_
  rintro _ w0 ⟨rfl, x0⟩
  have hM := hM.ext x0
  try dsimp only [Za, Zb, Zc, Zd, repl] at hM
  refine E.not rfl rfl <| E.mv rfl rfl <| ?_
  refine E.split 16 rfl (fun g16 => ?_) (fun g16 => ?_)
  ·
   try simp only [Ya, Yb, Yc, Yd, Ye, Yf] at g16
   have g16' : ¬ Few l := by simpa using g16

   refine E.off rfl rfl rfl rfl <| E.off rfl rfl rfl rfl <| E.off rfl rfl rfl rfl <| E.pick rfl rfl rfl <| E.nil <| X.join0  (Sub.cons (look_eq rfl (congrArg Value.bool (decide_eq_true (p := ¬ (Few l ∧ t.length ≤ 2000)) (fun h => g16' h.1)).symm)) <| Sub.nil _) rfl hM
  ·
   try simp only [Ya, Yb, Yc, Yd, Ye, Yf] at g16
   have g16' : Few l := by simpa using g16
   refine E.on rfl rfl (E.mv rfl rfl ?_)
   refine E.on rfl rfl (E.lenv rfl (Rd.shape (hM.arg0 hq)) Tryz.underlying22 rfl ?_)
   refine E.on rfl rfl (E.bin rfl rfl rfl rfl ?_)

   refine E.pick rfl rfl rfl <| E.nil <| X.join0  (Sub.cons (look_eq rfl (congrArg Value.bool (decide_eq_decide.2 ⟨fun h k => by have := k.2; omega, fun h => Int.not_le.1 fun k => h ⟨g16', by omega⟩⟩))) <| Sub.nil _) rfl hM
 rintro  w1 hM
 refine C.cond' rfl (fun hC0 => ?_) (fun hC0 => ?_)
 ·
  refine C.seq <| C.region <| ?_
  refine E.call rfl rfl (example_ret _ (hM.ord0 hO)) ?_
  rintro _ wz ⟨rfl, xz⟩
  have hM := hM.ext xz
  try dsimp only [Za, Zb, Zc, Zd, repl] at hM
  refine E.asg rfl rfl <| E.nil <| X.next <| C.ret <| X.retT <| ret1 rfl rfl ?_
  exact ⟨rfl, hM.toExt⟩
 ·
  obtain ⟨hf, htl⟩ := Decidable.not_not.1 hC0
  refine C.skip <| X.next <| C.seq <| C.region <| E.mv rfl rfl <| ?_
  refine E.call rfl rfl (Join_ret p hs l _ (hc.ext hM.toExt) hf.bd) ?_
  rintro _ wj1 ⟨vj1, out1, f1, rfl, n1, hj1⟩
  have hM := hM.call n1
  skip
  try dsimp only [Za, Zb, Zc, Zd, repl] at hM
  refine E.mv rfl rfl <| E.ext rfl rfl rfl <| E.ext rfl rfl rfl <| E.asg rfl rfl <| E.asg rfl rfl <| E.nil <| X.next <| ?_

  refine C.cut0 [(1, _)] rfl [] (fun w' => M w (Nn) w' []) ?_ ?_
  ·
   refine C.seq <| C.region <| E.mv rfl rfl <| E.bin rfl rfl rfl rfl <| E.nil <| X.next <| ?_
   refine C.cond' rfl (fun hC1 => ?_) (fun hC1 => ?_)
   ·
    obtain ⟨_, hj⟩ := hj1.resolve_right (fun h => h.1 hC1)
    have hrj := rdf_jn hj
    refine C.seq <| C.region <| E.mv rfl rfl <| ?_
    refine E.call rfl rfl (Chunks_ret vj1 out1 _ (hM.sl 0 rfl)) ?_
    rintro _ wc1 ⟨vc1, hs1, cs1, e1, rfl, m1, hv1⟩
    have hM := hM.call m1
    obtain ⟨rfl, rfl⟩ : 0 = e1 ∧ l = cs1 := by
     rw [hrj] at hv1
     rcases hv1 with ⟨h1, h2⟩ | ⟨_, h2, _⟩
     · cases h2; exact ⟨h1.symm, rfl⟩
     · cases h2
    try dsimp only [Za, Zb, Zc, Zd, repl] at hM
    refine E.mv rfl rfl <| E.ext rfl rfl rfl <| E.ext rfl rfl rfl <| E.asg rfl rfl <| E.asg rfl rfl <| E.nil <| X.next <| ?_

    refine C.cut0 [(1, _)] rfl [(41, .bool (decide False))] (fun w' => M w (Nn) w' []) ?_ ?_
    ·
     refine C.region <| E.mv rfl rfl <| E.bin rfl rfl rfl rfl <| E.mv rfl rfl <| ?_
     refine E.split 36 rfl (fun g36 => ?_) (fun g36 => ?_)
     ·
      try simp only [Ya, Yb, Yc, Yd, Ye, Yf] at g36
      simp at g36
     ·
      try simp only [Ya, Yb, Yc, Yd, Ye, Yf] at g36
      refine E.on rfl rfl (E.mv rfl rfl ?_)
      refine E.on rfl rfl (E.mv rfl rfl ?_)
      refine E.on rfl rfl (E.call rfl rfl (Same_ret vc1 hs1 l p hs l _ (hM.cks 1 2 rfl rfl) (hc.ext hM.toExt)) ?_)
      rintro _ w5 ⟨rfl, x5⟩
      have hM := hM.ext x5
      try dsimp only [Za, Zb, Zc, Zd, repl] at hM
      refine E.on rfl rfl (E.not rfl rfl ?_)

      refine E.pick rfl rfl rfl <| E.nil <| X.join0  (Sub.cons (look_eq rfl (congrArg Value.bool (by simp))) <| Sub.nil _) rfl (hM.pick [] (by decide))
    rintro  w6 hM
    refine C.cond' rfl (fun hC2 => ?_) (fun hC2 => ?_)
    ·
     exact hC2.elim
    ·

     refine C.skip <| X.join0  (Sub.nil _) rfl hM
   ·

    refine C.skip <| X.join0  (Sub.nil _) rfl (hM.pick [] (by decide))
  rintro  w7 hM
  refine C.seq <| C.region <| E.mv rfl rfl <| ?_
  refine E.call rfl rfl (Chunks_ret q t _ (hM.arg0 hq)) ?_
  rintro _ wc2 ⟨vc2, hs2, cs2, e2, rfl, m2, hv2⟩
  have hM := hM.call m2
  skip
  try dsimp only [Za, Zb, Zc, Zd, repl] at hM
  refine E.mv rfl rfl <| E.ext rfl rfl rfl <| E.ext rfl rfl rfl <| E.asg rfl rfl <| E.asg rfl rfl <| E.nil <| X.next <| ?_

  refine C.cut0 [] rfl [] (fun w' => M w (Nn) w' []) ?_ ?_
  ·
   refine C.seq <| C.region <| E.mv rfl rfl <| E.bin rfl rfl rfl rfl <| E.nil <| X.next <| ?_
   refine C.cond' rfl (fun hC3 => ?_) (fun hC3 => ?_)
   ·
    obtain ⟨_, hr⟩ := hv2.resolve_right (fun h => h.1 hC3)
    have hjr := jn_rdf hr
    refine C.seq <| C.region <| E.mv rfl rfl <| ?_
    refine E.call rfl rfl (Join_ret vc2 hs2 cs2 _ (hM.cks 0 1 rfl rfl) (rd_bd hr)) ?_
    rintro _ wj2 ⟨vj2, out2, f2, rfl, n2, hj2⟩
    have hM := hM.call n2
    obtain ⟨rfl, rfl⟩ : 0 = f2 ∧ t = out2 := by
     rw [hjr] at hj2
     rcases hj2 with ⟨h1, h2⟩ | ⟨_, h2, _⟩
     · cases h2; exact ⟨h1.symm, rfl⟩
     · cases h2
    try dsimp only [Za, Zb, Zc, Zd, repl] at hM
    refine E.mv rfl rfl <| E.ext rfl rfl rfl <| E.ext rfl rfl rfl <| E.asg rfl rfl <| E.asg rfl rfl <| E.nil <| X.next <| ?_

    refine C.chainE [] rfl [(62, .bool (decide False))] ?_ ?_
    ·
     refine C.region <| E.mv rfl rfl <| E.bin rfl rfl rfl rfl <| E.mv rfl rfl <| ?_
     refine E.split 56 rfl (fun g56 => ?_) (fun g56 => ?_)
     ·
      try simp only [Ya, Yb, Yc, Yd, Ye, Yf] at g56
      simp at g56
     ·
      try simp only [Ya, Yb, Yc, Yd, Ye, Yf] at g56
      refine E.on rfl rfl (E.mv rfl rfl ?_)
      refine E.on rfl rfl (E.bstr rfl (hM.sl 2 rfl) Tryz.underlying22 Tryz.underlying5 Tryz.underlying9 rfl ?_)
      refine E.on rfl rfl (E.mv rfl rfl ?_)
      refine E.on rfl rfl (E.bstr rfl (hM.arg0 hq) Tryz.underlying22 Tryz.underlying5 Tryz.underlying9 rfl ?_)
      refine E.on rfl rfl (E.nestr (l := t) (m := t) rfl rfl rfl ?_)
      refine E.pick rfl rfl rfl <| E.nil <| X.join0 (Sub.cons (look_eq rfl (congrArg Value.bool (by simp))) <| Sub.nil _) rfl rfl
    refine C.cond' rfl (fun hC4 => ?_) (fun hC4 => ?_)
    ·
     exact hC4.elim
    ·

     refine C.skip <| X.join0  (Sub.nil _) rfl (hM.pick [] (by decide))
   ·

    refine C.skip <| X.join0  (Sub.nil _) rfl (hM.pick [] (by decide))
  rintro  w10 hM
  refine C.seq <| C.region <| ?_
  refine E.call rfl rfl (example_ret _ (hM.ord0 hO)) ?_
  rintro _ wz ⟨rfl, xz⟩
  have hM := hM.ext xz
  try dsimp only [Za, Zb, Zc, Zd, repl] at hM
  refine E.asg rfl rfl <| E.nil <| X.next <| C.ret <| ret1 rfl rfl ?_
  exact ⟨rfl, hM.toExt⟩
end Go.Proofs.YtplbgehpohdmdaaGreatDoor
