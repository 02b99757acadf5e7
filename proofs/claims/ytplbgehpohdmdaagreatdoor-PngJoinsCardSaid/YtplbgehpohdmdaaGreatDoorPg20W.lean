/- chapter 35: the reference's Join. -/
import Derived.Test.YtplbgehpohdmdaaGreatDoorW0
import Derived.Test.YtplbgehpohdmdaaGreatDoorPg18W
import Derived.Test.YtplbgehpohdmdaaGreatDoorSymZW
set_option linter.unusedSimpArgs false
set_option linter.unusedVariables false
namespace Go.Proofs.YtplbgehpohdmdaaGreatDoor
open Go.RowKit Sym
open Pg
theorem neq_t {a b : Prop} [Decidable a] [Decidable b] (h : (decide a == decide b) = false) : ¬ (a ↔ b) := fun k => by
  by_cases hb : b
  · have ha := k.2 hb; simp [ha, hb] at h
  · have ha : ¬ a := fun x => hb (k.1 x)
    simp [ha, hb] at h
theorem neq_f {a b : Prop} [Decidable a] [Decidable b] (h : (decide a == decide b) = true) : a ↔ b := by
 by_cases ha : a <;> by_cases hb : b <;> simp [ha, hb] at h ⊢
def gde (l : List Ck) (i : Nat) : Prop := ∀ (j : Nat) (h : j < l.length), j < i → (l[j]).1 = tE → (l[j]).2 = []
theorem gd_iff2 (l : List Ck) : gd l ↔ l ≠ [] ∧ gdi l l.length ∧ gde l l.length := by
 rw [gd_iff]
 refine and_congr_right fun hn => and_congr_right fun hg => ?_
 have hl0 : l.length - 1 < l.length := by have := List.length_pos_iff.2 hn; omega
 rw [lastd_get hl0]
 refine ⟨fun h j hj _ he => ?_, fun h => h _ hl0 hl0 ((hg _ hl0 hl0).2.2 (by omega))⟩
 have := (hg j hj hj).2.1 he
 obtain rfl : j = l.length - 1 := by omega
 exact h
theorem gde_succ {l : List Ck} {i : Nat} (hi : i < l.length) (h : gde l i) (h2 : (l[i]).1 = tE → (l[i]).2 = []) : gde l (i + 1) := fun j hj hji => by
 by_cases e : j = i
 · subst e; exact h2
 · exact h j hj (by omega)
def CkOk (l : List Ck) (i : Nat) (hi : i < l.length) : Prop := (let4 (l[i]).1 ∧ ((l[i]).1 = tE ↔ i + 1 = l.length)) ∧ ((l[i]).1 = tE → (l[i]).2 = [])
instance (l : List Ck) (i : Nat) (hi : i < l.length) : Decidable (CkOk l i hi) := inferInstanceAs (Decidable (_ ∧ _))
set_option maxHeartbeats 4000000 in
theorem Join35_ret (p : Value) (hs : List Hd) (l : List Ck) (w : World) (hc : Cks w p hs l) (hb : ∀ c ∈ l, c.1.length ≤ 1000000 ∧ c.2.length ≤ 4194304) :
  Ret Tryz.prog 18 #[p] w fun v w' => ∃ (vo : Value) (out : List UInt8) (e : Int), v = .tuple #[vo, i64 e] ∧ Ext w w' ∧ RdL u8 w' vo out ∧ JnV (jn l) out e := by
 have hM := M.start w
 refine enter Tryz.func18 rfl (by kernel_rfl) Tryz.ntmps18 rfl ?_
 refine C.seq <| C.region <| E.asg rfl rfl <| E.asg rfl rfl <| E.nil <| X.next <| C.seq <| C.seq <| C.region <| E.mv rfl rfl <| ?_
 refine E.lenv rfl hc.shape Tryz.underlying24 rfl ?_
 refine E.bin rfl rfl rfl rfl <| E.nil <| X.next <| ?_
 refine C.cond' rfl (fun hC0 => ?_) (fun hC0 => ?_)
 ·
  refine C.seq <| C.region <| E.asg rfl rfl <| E.asg rfl rfl <| E.nil <| X.next <| C.ret <| X.retT <| ret2 rfl rfl rfl ?_
  exact ⟨nilS, [], 4, rfl, hM.toExt, RdL.nil u8 _, .inr ⟨by decide, by rw [jn, if_pos (by omega)], rfl⟩⟩
 ·
  refine C.skip <| X.next <| C.seq <| C.seq <| C.region <| E.asg rfl rfl <| E.nil <| X.next <| C.block <| ?_

  refine C.loop1 [(0, _)] rfl (fun (i : Nat) => [(4, i64 i)]) (fun (i : Nat) w' => M w (Nn) w' [] ∧ i ≤ l.length ∧ gdi l i ∧ gde l i) (fun (i : Nat) => l.length - i) 0 ?_ ?_ ?_
  · exact Sub.cons rfl <| Sub.nil _
  · exact ⟨hM, Nat.zero_le _, fun j _ h => by omega, fun j _ h => by omega⟩
  rintro i w0 ⟨hM, hi, hg, hge⟩
  refine C.seq <| C.seq <| C.region <| E.mv rfl rfl <| E.mv rfl rfl <| ?_
  refine E.lenv rfl hc.shape Tryz.underlying24 rfl ?_
  refine E.bin rfl rfl rfl rfl <| E.nil <| X.next <| ?_
  refine C.cond' rfl (fun hC1 => ?_) (fun hC1 => ?_)
  ·
   have hi' : i < l.length := by omega
   have hbi := hb l[i] (List.getElem_mem hi')
   refine C.skip <| X.next <| C.seq <| C.block <| ?_

   refine C.cut0 [(0, _), (4, _)] rfl [(54, .bool (decide (¬ CkOk l i hi')))] (fun w' => M w (Nn) w' []) ?_ ?_
   ·
    refine C.region <| E.mv rfl rfl <| E.mv rfl rfl <| ?_
    refine E.idxF (k := i) rfl rfl (hc.row.ext hM.toExt) rfl (by rw [zc_len hc.len]; omega) (by decide) Tryz.underlying24 (by kernel_rfl) rfl ?_
    refine E.fld (o := 0) (sz := 0) rfl Tryz.underlying46 rfl rfl (by kernel_rfl) rfl ?_
    refine E.load rfl Tryz.underlying9 rfl ((hc.ext hM.toExt).at hi' 0 _ rfl) rfl ?_
    refine E.call rfl rfl (let35_ret (l[i]).1 _ (by omega)) ?_
    rintro _ w3 ⟨rfl, x3⟩
    have hM := hM.ext x3
    try dsimp only [Za, Zb, Zc, Zd, repl] at hM
    refine E.not rfl rfl <| E.mv rfl rfl <| ?_
    refine E.split 24 rfl (fun g24 => ?_) (fun g24 => ?_)
    ·
     try simp only [Ya, Yb, Yc, Yd, Ye, Yf] at g24
     have hn4 : ¬ let4 (l[i]).1 := by simpa using g24

     refine E.off rfl rfl rfl rfl <| E.off rfl rfl rfl rfl <| E.off rfl rfl rfl rfl <| E.off rfl rfl rfl rfl <| E.off rfl rfl rfl rfl <| E.off rfl rfl rfl rfl <| E.off rfl rfl rfl rfl <| E.off rfl rfl rfl rfl <| E.off rfl rfl rfl rfl <| E.off rfl rfl rfl rfl <| E.off rfl rfl rfl rfl <| E.off rfl rfl rfl rfl <| E.pick rfl rfl rfl <| E.mv rfl rfl <| E.off rfl rfl rfl rfl <| E.off rfl rfl rfl rfl <| E.off rfl rfl rfl rfl <| E.off rfl rfl rfl rfl <| E.off rfl rfl rfl rfl <| E.off rfl rfl rfl rfl <| E.off rfl rfl rfl rfl <| E.offu rfl rfl rfl <| E.offu rfl rfl rfl <| E.offu rfl rfl rfl <| E.offu rfl rfl rfl <| E.offu rfl rfl rfl <| E.offu rfl rfl rfl <| E.offu rfl rfl rfl <| E.off rfl rfl rfl rfl <| E.pick rfl rfl rfl <| E.nil <| X.join0  (Sub.cons (look_eq rfl (congrArg Value.bool (decide_eq_true (p := ¬ CkOk l i hi') (fun h => hn4 h.1.1)).symm)) <| Sub.nil _) rfl hM
    ·
     try simp only [Ya, Yb, Yc, Yd, Ye, Yf] at g24
     have h4 : let4 (l[i]).1 := by simpa using g24
     refine E.on rfl rfl (E.mv rfl rfl ?_)
     refine E.on rfl rfl (E.mv rfl rfl ?_)
     refine E.on rfl rfl (E.idxF (k := i) rfl rfl (hc.row.ext hM.toExt) rfl (by rw [zc_len hc.len]; omega) (by decide) Tryz.underlying24 (by kernel_rfl) rfl ?_)
     refine E.on rfl rfl (E.fld (o := 0) (sz := 0) rfl Tryz.underlying46 rfl rfl (by kernel_rfl) rfl ?_)
     refine E.on rfl rfl (E.load rfl Tryz.underlying9 rfl ((hc.ext hM.toExt).at hi' 0 _ rfl) rfl ?_)
     refine E.on rfl rfl (E.eqstr (l := (l[i]).1) (m := tE) rfl rfl rfl ?_)
     refine E.on rfl rfl (E.mv rfl rfl ?_)
     refine E.on rfl rfl (E.mv rfl rfl ?_)
     refine E.on rfl rfl (E.lenv rfl hc.shape Tryz.underlying24 rfl ?_)
     refine E.on rfl rfl (E.sub' rfl rfl (by omega) rfl ?_)
     refine E.on rfl rfl (E.bin rfl rfl rfl rfl ?_)
     refine E.on rfl rfl (E.neb rfl rfl Tryz.underlying4 rfl ?_)
     refine E.pick rfl rfl rfl <| E.mv rfl rfl <| ?_
     refine E.split 38 rfl (fun g38 => ?_) (fun g38 => ?_)
     ·
      try simp only [Ya, Yb, Yc, Yd, Ye, Yf] at g38
      have g38' := neq_t g38

      refine E.off rfl rfl rfl rfl <| E.off rfl rfl rfl rfl <| E.off rfl rfl rfl rfl <| E.off rfl rfl rfl rfl <| E.off rfl rfl rfl rfl <| E.off rfl rfl rfl rfl <| E.off rfl rfl rfl rfl <| E.offu rfl rfl rfl <| E.offu rfl rfl rfl <| E.offu rfl rfl rfl <| E.offu rfl rfl rfl <| E.offu rfl rfl rfl <| E.offu rfl rfl rfl <| E.offu rfl rfl rfl <| E.off rfl rfl rfl rfl <| E.pick rfl rfl rfl <| E.nil <| X.join0  (Sub.cons (look_eq rfl (congrArg Value.bool (decide_eq_true (p := ¬ CkOk l i hi') (fun h => g38' ⟨fun e => by have := h.1.2.1 e; omega, fun e => h.1.2.2 (by omega)⟩)).symm)) <| Sub.nil _) rfl hM
     ·
      try simp only [Ya, Yb, Yc, Yd, Ye, Yf] at g38
      have g38' := neq_f g38
      have hff : (l[i]).1 = tE ↔ i + 1 = l.length := ⟨fun e => by have := g38'.1 e; omega, fun e => g38'.2 (by omega)⟩
      refine E.on rfl rfl (E.mv rfl rfl ?_)
      refine E.on rfl rfl (E.mv rfl rfl ?_)
      refine E.on rfl rfl (E.idxF (k := i) rfl rfl (hc.row.ext hM.toExt) rfl (by rw [zc_len hc.len]; omega) (by decide) Tryz.underlying24 (by kernel_rfl) rfl ?_)
      refine E.on rfl rfl (E.fld (o := 0) (sz := 0) rfl Tryz.underlying46 rfl rfl (by kernel_rfl) rfl ?_)
      refine E.on rfl rfl (E.load rfl Tryz.underlying9 rfl ((hc.ext hM.toExt).at hi' 0 _ rfl) rfl ?_)
      refine E.on rfl rfl (E.eqstr (l := (l[i]).1) (m := tE) rfl rfl rfl ?_)
      refine E.on rfl rfl (E.mv rfl rfl ?_)
      refine E.split 45 rfl (fun g45 => ?_) (fun g45 => ?_)
      ·
       try simp only [Ya, Yb, Yc, Yd, Ye, Yf] at g45
       refine E.on rfl rfl (E.mv rfl rfl ?_)
       refine E.on rfl rfl (E.mv rfl rfl ?_)
       refine E.on rfl rfl (E.idxF (k := i) rfl rfl (hc.row.ext hM.toExt) rfl (by rw [zc_len hc.len]; omega) (by decide) Tryz.underlying24 (by kernel_rfl) rfl ?_)
       refine E.on rfl rfl (E.fld (o := 1) (sz := 0) rfl Tryz.underlying46 rfl rfl (by kernel_rfl) rfl ?_)
       refine E.on rfl rfl (E.load rfl Tryz.underlying22 rfl ((hc.ext hM.toExt).at hi' 1 _ rfl) rfl ?_)
       refine E.on rfl rfl (E.lenv rfl (Rd.shape (hc.data hi')) Tryz.underlying22 rfl ?_)
       refine E.on rfl rfl (E.bin rfl rfl rfl rfl ?_)
       refine E.on rfl rfl (E.pick rfl rfl rfl ?_)

       refine E.pick rfl rfl rfl <| E.nil <| X.join0  (Sub.cons (look_eq rfl (congrArg Value.bool (decide_eq_decide.2 ⟨fun h k => ne_len (by omega) (k.2 g45), fun h => Int.not_le.1 fun k => h ⟨⟨h4, hff⟩, fun _ => List.length_eq_zero_iff.1 (by omega)⟩⟩))) <| Sub.nil _) rfl hM
      ·
       try simp only [Ya, Yb, Yc, Yd, Ye, Yf] at g45
       refine E.off rfl rfl rfl rfl <| E.off rfl rfl rfl rfl <| E.off rfl rfl rfl rfl <| E.off rfl rfl rfl rfl <| E.off rfl rfl rfl rfl <| E.off rfl rfl rfl rfl <| E.off rfl rfl rfl rfl <| ?_
       refine E.on rfl rfl (E.pick rfl rfl rfl ?_)

       refine E.pick rfl rfl rfl <| E.nil <| X.join0  (Sub.cons (look_eq rfl (congrArg Value.bool (decide_eq_false (p := ¬ CkOk l i hi') (fun h => h ⟨⟨h4, hff⟩, fun e => (g45 e).elim⟩)).symm)) <| Sub.nil _) rfl hM
   rintro  w2 hM
   refine C.cond' rfl (fun hC2 => ?_) (fun hC2 => ?_)
   ·
    refine C.seq <| C.region <| E.asg rfl rfl <| E.asg rfl rfl <| E.nil <| X.next <| C.ret <| X.retB <| X.retT <| X.retT <| X.retB <| X.retT <| ret2 rfl rfl rfl ?_
    exact ⟨nilS, [], 9, rfl, hM.toExt, RdL.nil u8 _, .inr ⟨by decide, by rw [jn, if_neg (by omega), if_pos (fun h => by obtain ⟨_, h1, h2⟩ := (gd_iff2 l).1 h; exact hC2 ⟨h1 i hi' hi', h2 i hi' hi'⟩)], rfl⟩⟩
   ·
    have hok := Decidable.not_not.1 hC2
    refine C.skip <| X.outN <| X.next <| C.region <| E.mv rfl rfl <| ?_
    refine E.add rfl rfl (by omega) rfl ?_

    refine E.asg rfl rfl <| E.nil <| X.again1 (i + 1) (Sub.cons rfl <| Sub.nil _) rfl ⟨hM, by omega, gdi_succ hi' hg hok.1, gde_succ hi' hge hok.2⟩ (by omega)
  ·
   obtain rfl : i = l.length := by omega
   refine C.exit <| X.exitT <| X.exitT <| X.outE <| X.next <| C.seq <| C.seq <| C.region <| E.mv rfl rfl <| ?_
   refine E.lenv rfl hc.shape Tryz.underlying24 rfl ?_
   refine E.bin rfl rfl rfl rfl <| E.nil <| X.next <| ?_
   refine C.cond' rfl (fun hC3 => ?_) (fun hC3 => ?_)
   ·
    refine C.seq <| C.region <| E.asg rfl rfl <| E.asg rfl rfl <| E.nil <| X.next <| C.ret <| X.retT <| ret2 rfl rfl rfl ?_
    exact ⟨nilS, [], 9, rfl, hM.toExt, RdL.nil u8 _, .inr ⟨by decide, by rw [jn, if_neg (by omega), if_pos (fun h => gd_ne h (List.length_eq_zero_iff.1 (by omega)))], rfl⟩⟩
   ·
    have hgd : gd l := (gd_iff2 l).2 ⟨ne_len (by omega), hg, hge⟩
    refine C.skip <| X.next <| C.seq <| C.region <| ?_
    refine E.litZ (l := sig) hM rfl (fun _ => by kernel_rfl) Tryz.underlying22 Tryz.underlying5 rfl (by decide) rfl rfl ?_
    intro v59 w3 hM
    try dsimp only [Za, Zb, Zc, Zd, repl] at hM
    refine E.asg rfl rfl <| E.nil <| X.next <| C.seq <| C.seq <| C.region <| E.asg rfl rfl <| E.nil <| X.next <| C.block <| ?_

    refine C.loop2 [(0, _)] rfl (fun (i : Nat) (vp : Value) => [(5, vp), (6, i64 i)]) (fun (i : Nat) (vp : Value) w' => M w (Nn) w' [Rg.sz 5 vp (sig ++ cks (l.take i))] ∧ i ≤ l.length ∧ 8 + csz (l.take i) ≤ 4194304) (fun (i : Nat) (vp : Value) => l.length - i) 0 v59 ?_ ?_ ?_
    · exact Sub.cons rfl <| Sub.cons rfl <| Sub.nil _
    · exact ⟨hM, Nat.zero_le _, by rw [List.take_zero, csz_nil]; omega⟩
    rintro i vp w4 ⟨hM, hi, hcs⟩
    refine C.seq <| C.seq <| C.region <| E.mv rfl rfl <| E.mv rfl rfl <| ?_
    refine E.lenv rfl hc.shape Tryz.underlying24 rfl ?_
    refine E.bin rfl rfl rfl rfl <| E.nil <| X.next <| ?_
    refine C.cond' rfl (fun hC4 => ?_) (fun hC4 => ?_)
    ·
     have hi' : i < l.length := by omega
     have hbi := hb l[i] (List.getElem_mem hi')
     have hsu := csz_succ hi'
     have hmo := csz_mono l (i + 1)
     have hl4 := gd_let hgd
     have hckl := cks_len (l := l.take i) (fun c hc' => (hl4 c (List.mem_of_mem_take hc')).1)
     have hL : (sig ++ cks (l.take i)).length = 8 + csz (l.take i) := by rw [List.length_append, hckl]; rfl
     have h4 : (l[i]).1.length = 4 := (hl4 _ (List.getElem_mem hi')).1
     have hB : ((l[i]).1 ++ (l[i]).2).length = 4 + (l[i]).2.length := by rw [List.length_append, h4]
     refine C.skip <| X.next <| C.seq <| C.block <| C.seq <| C.seq <| C.region <| E.mv rfl rfl <| E.mv rfl rfl <| ?_
     refine E.idxF (k := i) rfl rfl (hc.row.ext hM.toExt) rfl (by rw [zc_len hc.len]; omega) (by decide) Tryz.underlying24 (by kernel_rfl) rfl ?_
     refine E.fld (o := 1) (sz := 0) rfl Tryz.underlying46 rfl rfl (by kernel_rfl) rfl ?_
     refine E.load rfl Tryz.underlying22 rfl ((hc.ext hM.toExt).at hi' 1 _ rfl) rfl ?_
     refine E.lenv rfl (Rd.shape (hc.data hi')) Tryz.underlying22 rfl ?_
     refine E.mv rfl rfl <| ?_
     refine E.lenv rfl (Rd.shape (hM.sz 0 rfl)) Tryz.underlying22 rfl ?_
     rw [hL]
     refine E.sub' rfl rfl (by omega) rfl ?_
     refine E.bin rfl rfl rfl rfl <| E.nil <| X.next <| ?_
     refine C.cond' rfl (fun hC5 => ?_) (fun hC5 => ?_)
     ·
      refine C.seq <| C.region <| E.asg rfl rfl <| E.asg rfl rfl <| E.nil <| X.next <| C.ret <| X.retT <| X.retB <| X.retT <| X.retT <| X.retB <| X.retT <| ret2 rfl rfl rfl ?_
      exact ⟨nilS, [], 4, rfl, hM.toExt, RdL.nil u8 _, .inr ⟨by decide, by rw [jn, if_neg (by omega), if_neg (Classical.not_not.2 hgd), if_pos (by omega)], rfl⟩⟩
     ·
      refine C.skip <| X.next <| C.seq <| C.heldE (by kernel_rfl) fun wh5 hwh5 _ => ?_
      have hS := hwh5
      have hM0 := hM
      have hM := M.ofExt hwh5
      refine H.take 0 rfl rfl (by kernel_rfl) (by kernel_rfl) (by kernel_rfl) hS (fun w' hS => by have hM := hM0.ext hS; exact Y.mv rfl) rfl ?_
      refine H.take 1 rfl rfl (by kernel_rfl) (by kernel_rfl) (by kernel_rfl) hS (fun w' hS => by have hM := hM0.ext hS; exact Y.mv rfl) rfl ?_
      refine H.takeV 2 rfl rfl (by kernel_rfl) (by kernel_rfl) (by kernel_rfl) hS (Y.idxF (k := i) rfl rfl (hc.row.ext (hM0.ext hS).toExt) rfl (by rw [zc_len hc.len]; omega) (by decide) Tryz.underlying24 (by kernel_rfl)) (fun w' hS => by have hM := hM0.ext hS; exact Y.idxF (k := i) rfl rfl (hc.row.ext hM.toExt) rfl (by rw [zc_len hc.len]; omega) (by decide) Tryz.underlying24 (by kernel_rfl)) rfl ?_
      refine H.takeV 3 rfl rfl (by kernel_rfl) (by kernel_rfl) (by kernel_rfl) hS (Y.fld (o := 0) (sz := 0) rfl Tryz.underlying46 rfl rfl (by kernel_rfl)) (fun w' hS => by have hM := hM0.ext hS; exact Y.fld (o := 0) (sz := 0) rfl Tryz.underlying46 rfl rfl (by kernel_rfl)) rfl ?_
      refine H.take 6 rfl rfl (by kernel_rfl) (by kernel_rfl) (by kernel_rfl) hS (fun w' hS => by have hM := hM0.ext hS; exact Y.mv rfl) rfl ?_
      refine H.take 7 rfl rfl (by kernel_rfl) (by kernel_rfl) (by kernel_rfl) hS (fun w' hS => by have hM := hM0.ext hS; exact Y.mv rfl) rfl ?_
      refine H.takeV 8 rfl rfl (by kernel_rfl) (by kernel_rfl) (by kernel_rfl) hS (Y.idxF (k := i) rfl rfl (hc.row.ext (hM0.ext hS).toExt) rfl (by rw [zc_len hc.len]; omega) (by decide) Tryz.underlying24 (by kernel_rfl)) (fun w' hS => by have hM := hM0.ext hS; exact Y.idxF (k := i) rfl rfl (hc.row.ext hM.toExt) rfl (by rw [zc_len hc.len]; omega) (by decide) Tryz.underlying24 (by kernel_rfl)) rfl ?_
      refine H.takeV 9 rfl rfl (by kernel_rfl) (by kernel_rfl) (by kernel_rfl) hS (Y.fld (o := 1) (sz := 0) rfl Tryz.underlying46 rfl rfl (by kernel_rfl)) (fun w' hS => by have hM := hM0.ext hS; exact Y.fld (o := 1) (sz := 0) rfl Tryz.underlying46 rfl rfl (by kernel_rfl)) rfl ?_
      refine H.takeV 4 rfl rfl (by kernel_rfl) (by kernel_rfl) (by kernel_rfl) hS (Y.load rfl Tryz.underlying9 rfl ((hc.ext (hM0.ext hS).toExt).at hi' 0 _ rfl)) (fun w' hS => by have hM := hM0.ext hS; exact Y.load rfl Tryz.underlying9 rfl ((hc.ext hM.toExt).at hi' 0 _ rfl)) rfl ?_
      refine H.takeV 10 rfl rfl (by kernel_rfl) (by kernel_rfl) (by kernel_rfl) hS (Y.load rfl Tryz.underlying22 rfl ((hc.ext (hM0.ext hS).toExt).at hi' 1 _ rfl)) (fun w' hS => by have hM := hM0.ext hS; exact Y.load rfl Tryz.underlying22 rfl ((hc.ext hM.toExt).at hi' 1 _ rfl)) rfl ?_
      refine H.only 5 rfl (by kernel_rfl) ?_
      refine E.strbZ hM rfl Tryz.underlying9 Tryz.underlying22 Tryz.underlying5 (by omega) rfl ?_
      intro v81 w6 hM
      try dsimp only [Za, Zb, Zc, Zd, repl] at hM
      have hS := hM.toExt
      refine H.back hS ?_
      refine H.only 11 rfl (by kernel_rfl) ?_
      refine E.appendZ 0 hM rfl rfl rfl Tryz.underlying22 elem_Tuint8 ((hc.data hi').ext (hM0.ext hM.toExt).toExt) (by omega) (by omega) rfl ?_
      intro v87 w7 hM
      try dsimp only [Za, Zb, Zc, Zd, repl] at hM
      have hS := hM.toExt
      refine H.back hS ?_
      refine H.take 12 rfl rfl (by kernel_rfl) (by kernel_rfl) (by kernel_rfl) hS (fun w' hS => by have hM := hM0.ext hS; exact Y.asg rfl) rfl ?_
      refine H.done (by kernel_rfl) ?_
      have hM := hM0.call hM
      refine X.next <| C.seq <| C.region <| E.mv rfl rfl <| E.mv rfl rfl <| E.mv rfl rfl <| ?_
      refine E.idxF (k := i) rfl rfl (hc.row.ext hM.toExt) rfl (by rw [zc_len hc.len]; omega) (by decide) Tryz.underlying24 (by kernel_rfl) rfl ?_
      refine E.fld (o := 1) (sz := 0) rfl Tryz.underlying46 rfl rfl (by kernel_rfl) rfl ?_
      refine E.load rfl Tryz.underlying22 rfl ((hc.ext hM.toExt).at hi' 1 _ rfl) rfl ?_
      refine E.lenv rfl (Rd.shape (hc.data hi')) Tryz.underlying22 rfl ?_
      refine E.call rfl rfl (four35_ret (l[i]).2.length _ (by omega)) ?_
      rintro v95 w8 m1
      have hM := hM.call m1
      try dsimp only [Za, Zb, Zc, Zd, repl] at hM
      refine E.appendZ 0 hM rfl rfl rfl Tryz.underlying22 elem_Tuint8 (hM.sl 2 rfl) (by rw [Jn.enc4_len]; omega) (by rw [Jn.enc4_len]; omega) rfl ?_
      intro v96 w9 hM
      try dsimp only [Za, Zb, Zc, Zd, repl] at hM
      have hL1 : (sig ++ cks (l.take i) ++ Jn.enc4 (l[i]).2.length).length = 8 + csz (l.take i) + 4 := by rw [List.length_append, hL, Jn.enc4_len]
      refine E.asg rfl rfl <| E.nil <| X.next <| C.seq <| C.region <| E.mv rfl rfl <| E.mv rfl rfl <| ?_
      refine E.appendZ 0 hM rfl rfl rfl Tryz.underlying22 elem_Tuint8 (hM.sz 1 rfl) (by omega) (by omega) rfl ?_
      intro v99 w10 hM
      try dsimp only [Za, Zb, Zc, Zd, repl] at hM
      have hL2 : (sig ++ cks (l.take i) ++ Jn.enc4 (l[i]).2.length ++ ((l[i]).1 ++ (l[i]).2)).length = 8 + csz (l.take i) + 8 + (l[i]).2.length := by rw [List.length_append, hL1, hB]; omega
      refine E.asg rfl rfl <| E.nil <| X.next <| C.region <| E.mv rfl rfl <| E.mv rfl rfl <| ?_
      refine E.call rfl rfl (q35CRC32_ret _ _ _ (hM.sz 1 rfl)) ?_
      rintro _ w11 ⟨rfl, x11⟩
      have hM := hM.ext x11
      rw [crc_u32]
      have hcr := Jn.crcN_lt ((l[i]).1 ++ (l[i]).2)
      try dsimp only [Za, Zb, Zc, Zd, repl] at hM
      refine E.conv rfl Tryz.underlying53 Tryz.underlying3 (IntWalk.i64_in _ (by omega)) rfl ?_
      refine E.call rfl rfl (four35_ret (Jn.crcN ((l[i]).1 ++ (l[i]).2)) _ hcr) ?_
      rintro v104 w12 m2
      have hM := hM.call m2
      try dsimp only [Za, Zb, Zc, Zd, repl] at hM
      refine E.appendZ 0 hM rfl rfl rfl Tryz.underlying22 elem_Tuint8 (hM.sl 3 rfl) (by rw [Jn.enc4_len]; omega) (by rw [Jn.enc4_len]; omega) rfl ?_
      intro v105 w13 hM
      try dsimp only [Za, Zb, Zc, Zd, repl] at hM
      refine E.asg rfl rfl <| E.nil <| X.outN <| X.next <| C.region <| E.mv rfl rfl <| ?_
      refine E.add rfl rfl (by omega) rfl ?_
      refine E.asg rfl rfl <| E.nil <| ?_
      rw [show sig ++ cks (l.take i) ++ Jn.enc4 (l[i]).2.length ++ ((l[i]).1 ++ (l[i]).2) ++ Jn.enc4 (Jn.crcN ((l[i]).1 ++ (l[i]).2)) = sig ++ cks (l.take (i + 1)) from by rw [cks_succ hi']; simp only [List.append_assoc]] at hM

      refine X.again2 (i + 1) _ (Sub.cons rfl <| Sub.cons rfl <| Sub.nil _) rfl ⟨hM.pick [0] (by decide), by omega, by omega⟩ (by omega)
    ·
     obtain rfl : i = l.length := by omega
     rw [List.take_length] at hM hcs
     refine C.exit <| X.exitT <| X.exitT <| X.outE <| X.next <| C.seq <| C.region <| E.mv rfl rfl <| E.asg rfl rfl <| E.asg rfl rfl <| E.nil <| X.next <| C.ret <| ret2 rfl rfl rfl ?_
     exact ⟨_, _, 0, rfl, hM.toExt, hM.sz 0 rfl, .inl ⟨rfl, by rw [jn, if_neg (by omega), if_neg (Classical.not_not.2 hgd), if_neg (by omega)]⟩⟩
end Go.Proofs.YtplbgehpohdmdaaGreatDoor
