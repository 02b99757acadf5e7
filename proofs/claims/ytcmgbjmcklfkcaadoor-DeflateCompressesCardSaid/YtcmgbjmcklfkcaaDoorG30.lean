/- Texts of the claim, laid together: Df4, CrcMath, Crc. -/
import Derived.Test.YtcmgbjmcklfkcaaDoorProg
import Derived.Test.YtcmgbjmcklfkcaaDoorG1
import Derived.Test.YtcmgbjmcklfkcaaDoorG14
import Derived.Test.YtcmgbjmcklfkcaaDoorG16
/- deflate: the matches of data. -/
namespace Go.Proofs.YtcmgbjmcklfkcaaDoor
set_option linter.unusedSimpArgs false
set_option linter.unusedVariables false
open Go.RowKit Sym

theorem Sym.M.off0 {α : Type} {enc : α → Value} {w0 w : World} {rs : List Rg} {v : Value} {l : List α} (h : M w0 Nn w rs) (hR : RdL enc w0 v l) : Off (fpU rs) v l := by
  cases l with
  | nil => exact .inl rfl
  | cons a l =>
    refine .inr fun ⟨i, r, hi, hk⟩ => ?_
    have h1 := hR.lt (by simp)
    rcases h.mine i r hi _ hk with h2 | h2
    · exact h2
    · omega
theorem offB {α : Type} {b : Nat} {T : TypeId} {cs : List Value} {rs : List Rg} {v : Value} {l : List α} (ho : Off (fpU (Rg.blk b T cs :: rs)) v l) : Off (fpU [Rg.blk b T cs]) v l := by
  rcases ho with ho | ho
  · exact .inl ho
  · refine .inr fun ⟨i, r, hi, hk⟩ => ho ?_
    cases i with
    | zero => exact ⟨0, r, hi, hk⟩
    | succ i => simp at hi
theorem shl_u32 {a k c : Nat} (hk : k ≤ 31) (e : a * 2 ^ k = c) (hc : c ≤ 4294967295) : IntKind.u32.wrap ((a : Int) * 2 ^ min ((k : Int)).toNat IntKind.u32.bits) = (c : Int) := by
  have e1 : min ((k : Int)).toNat IntKind.u32.bits = k := by rw [Int.toNat_natCast]; simp [IntKind.bits]; omega
  have e2 : (a : Int) * 2 ^ k = (c : Int) := by rw [← e]; simp
  rw [e1, e2]; exact IntWalk.u32_in _ (by omega)
theorem or_u32 {a b : Nat} (k : Nat) (hb : b < 2 ^ k) (h : a * 2 ^ k + b < 4294967296) : bits .or .u32 ((a * 2 ^ k : Nat) : Int) (b : Int) = ((a * 2 ^ k + b : Nat) : Int) := by
  rw [u32_or_nat _ _ (by omega) (by omega), Nat.mul_comm a, ← Nat.two_pow_add_eq_or_of_lt hb]
theorem gdU {l : List UInt8} {i : Nat} (h : i < l.length) : l.getD i 0 = l[i] := by rw [List.getD_eq_getElem?_getD, List.getElem?_eq_getElem h]; rfl
theorem key_num {x y z : Nat} (hx : x < 256) (hy : y < 256) (hz : z < 256) : bits .or .u32 (bits .or .u32 ((x * 65536 : Nat) : Int) ((y * 256 : Nat) : Int)) (z : Int) = ((x * 65536 + y * 256 + z : Nat) : Int) := by
  have e1 := or_u32 (a := x) (b := y * 256) 16 (by omega) (by omega)
  have e2 := or_u32 (a := x * 256 + y) (b := z) 8 (by omega) (by omega)
  have h1 : x * 2 ^ 16 = x * 65536 := by rw [show (2 : Nat) ^ 16 = 65536 from rfl]
  have h2 : (x * 256 + y) * 2 ^ 8 = x * 65536 + y * 256 := by rw [show (2 : Nat) ^ 8 = 256 from rfl, Nat.add_mul, Nat.mul_assoc]
  rw [h1] at e1
  rw [h2] at e2
  rw [e1, e2]
theorem key_at {l : List UInt8} {j : Nat} (h : j + 3 ≤ l.length) : (l[j]'(by omega)).toNat * 65536 + (l[j + 1]'(by omega)).toNat * 256 + (l[j + 2]'(by omega)).toNat = Df.key l j := by
  unfold Df.key
  rw [gdU (show j < l.length by omega), gdU (show j + 1 < l.length by omega), gdU (show j + 2 < l.length by omega)]
/-- a finder that knows the places below a -/
structure Fs (l : List UInt8) (a : Nat) (m : List (Int × Int)) (bf : List Int) : Prop where
  len : bf.length = l.length
  last : ∀ k : Nat, aget m (k : Int) = if Df.pv l k a = -1 then none else some (Df.pv l k a)
  bef : ∀ j, j < a → j + 3 ≤ l.length → bf.getD j 0 = Df.pv l (Df.key l j) j
theorem Fs.zero (l : List UInt8) : Fs l 0 [] (List.replicate l.length 0) := ⟨List.length_replicate, fun k => rfl, fun j h => by omega⟩
theorem Fs.skip {l : List UInt8} {a : Nat} {m : List (Int × Int)} {bf : List Int} (h : Fs l a m bf) (hl : l.length < a + 3) : Fs l (a + 1) m bf := by
  refine ⟨h.len, fun k => ?_, fun j hj h3 => h.bef j (by omega) h3⟩
  rw [h.last k, show Df.pv l k (a + 1) = Df.pv l k a by rw [Df.pv, if_neg (fun c => by omega)]]
theorem Fs.link {l : List UInt8} {a : Nat} {m : List (Int × Int)} {bf : List Int} (h : Fs l a m bf) (hl : a + 3 ≤ l.length) : Fs l (a + 1) (aput m (Df.key l a : Int) (a : Int)) (bf.set a ((aget m (Df.key l a : Int)).getD (-1))) := by
  refine ⟨by rw [List.length_set]; exact h.len, fun k => ?_, fun j hj h3 => ?_⟩
  · rw [aget_aput, Df.pv]
    by_cases e : Df.key l a = k
    · rw [if_pos (by omega), if_pos (show a + 3 ≤ l.length ∧ Df.key l a = k from ⟨hl, e⟩), if_neg (by omega)]
    · rw [if_neg (by omega), if_neg (show ¬ (a + 3 ≤ l.length ∧ Df.key l a = k) from fun c => e c.2)]; exact h.last k
  · have hb := h.len
    by_cases e : j = a
    · subst e
      rw [List.getD_eq_getElem?_getD, List.getElem?_set_self (by omega), Option.getD_some, h.last]
      split
      · rename_i h1; rw [h1]; rfl
      · rfl
    · rw [List.getD_eq_getElem?_getD, List.getElem?_set_ne (by omega), ← List.getD_eq_getElem?_getD]
      exact h.bef j (by omega) h3
theorem key_ret (b j : Nat) (p : Value) (l : List UInt8) (w : World) (hc : w.cell? ⟨b, 0, none⟩ = some p) (hp : RdL u8 w p l) (hj : j + 3 ≤ l.length) :
    Ret Tryd.prog 59 #[pv b, i64 j] w fun v w' => v = .int .u32 (Df.key l j : Int) ∧ Ext w w' := by
  have hM := M.start w
  refine enter Tryd.func59 rfl (by kernel_rfl) Tryd.ntmps59 rfl ?_
  refine C.seq <| C.region <| E.asg rfl rfl <| E.nil <| X.next <| C.seq <| C.drawn (by kernel_rfl) (by kernel_rfl) <| Q.mv rfl rfl <| Q.nilc rfl rfl <| ?_
  refine Q.fld (o := 0) (sz := 0) rfl Tryd.underlying64 rfl rfl (by kernel_rfl) rfl ?_
  have h0 := (l[j]'(by omega)).toNat_lt
  have h1 := (l[j + 1]'(by omega)).toNat_lt
  have h2 := (l[j + 2]'(by omega)).toNat_lt
  refine Q.load rfl Tryd.underlying22 rfl hc rfl ?_
  refine Q.mv rfl rfl <| ?_
  refine Q.idx1 (k := j) rfl rfl hp rfl (by omega) Tryd.underlying22 (by kernel_rfl) rfl ?_
  refine Q.load rfl Tryd.underlying5 rfl (hp.cell (by omega)) rfl ?_
  refine Q.conv rfl Tryd.underlying5 Tryd.underlying98 (IntWalk.u32_in _ (by omega)) rfl ?_
  refine Q.shl rfl rfl (by decide) (shl_u32 (k := 16) (c := (l[j]'(by omega)).toNat * 65536) (by decide) (by omega) (by omega)) rfl ?_
  refine Q.mv rfl rfl <| Q.nilc rfl rfl <| ?_
  refine Q.fld (o := 0) (sz := 0) rfl Tryd.underlying64 rfl rfl (by kernel_rfl) rfl ?_
  refine Q.load rfl Tryd.underlying22 rfl hc rfl ?_
  refine Q.mv rfl rfl <| ?_
  refine Q.addN (a := j) (b := 1) rfl rfl (by have := Rd.le hp; omega) rfl ?_
  refine Q.idx1 (k := j + 1) rfl rfl hp rfl (by omega) Tryd.underlying22 (by kernel_rfl) rfl ?_
  refine Q.load rfl Tryd.underlying5 rfl (hp.cell (by omega)) rfl ?_
  refine Q.conv rfl Tryd.underlying5 Tryd.underlying98 (IntWalk.u32_in _ (by omega)) rfl ?_
  refine Q.shl rfl rfl (by decide) (shl_u32 (k := 8) (c := (l[j + 1]'(by omega)).toNat * 256) (by decide) (by omega) (by omega)) rfl ?_
  refine Q.bin rfl rfl rfl rfl <| Q.mv rfl rfl <| Q.nilc rfl rfl <| ?_
  refine Q.fld (o := 0) (sz := 0) rfl Tryd.underlying64 rfl rfl (by kernel_rfl) rfl ?_
  refine Q.load rfl Tryd.underlying22 rfl hc rfl ?_
  refine Q.mv rfl rfl <| ?_
  refine Q.addN (a := j) (b := 2) rfl rfl (by have := Rd.le hp; omega) rfl ?_
  refine Q.idx1 (k := j + 2) rfl rfl hp rfl (by omega) Tryd.underlying22 (by kernel_rfl) rfl ?_
  refine Q.load rfl Tryd.underlying5 rfl (hp.cell (by omega)) rfl ?_
  refine Q.conv rfl Tryd.underlying5 Tryd.underlying98 (IntWalk.u32_in _ (by omega)) rfl ?_
  refine Q.bin rfl rfl rfl rfl <| Q.asg rfl rfl <| Q.nil <| fun w0 hx0 => ?_
  have hM := hM.ext hx0
  refine X.next <| C.ret <| ret1 rfl rfl ?_
  exact ⟨by rw [key_num h0 h1 h2, key_at hj], hM.toExt⟩

set_option maxHeartbeats 1000000 in
theorem link_ret (b r a : Nat) (p vb : Value) (l : List UInt8) (m : List (Int × Int)) (bf : List Int) (w : World) (hs : Sep w [Rg.blk b 64 [p, .map (some r), vb], Rg.mp r .u32 i64 m, Rg.sl i64 3 vb bf]) (hp : RdL u8 w p l) (ho : Off (fpU [Rg.blk b 64 [p, .map (some r), vb], Rg.mp r .u32 i64 m, Rg.sl i64 3 vb bf]) p l) (ha : a + 3 ≤ l.length) (hbl : bf.length = l.length) :
    Ret Tryd.prog 61 #[pv b, i64 a] w fun v w' => M w (fpU [Rg.blk b 64 [p, .map (some r), vb], Rg.mp r .u32 i64 m, Rg.sl i64 3 vb bf]) w' [Rg.blk b 64 [p, .map (some r), vb], Rg.mp r .u32 i64 (aput m (Df.key l a : Int) (a : Int)), Rg.sl i64 3 vb (bf.set a ((aget m (Df.key l a : Int)).getD (-1)))] := by
  have hM := M.startS hs
  refine enter Tryd.func61 rfl (by kernel_rfl) Tryd.ntmps61 rfl ?_
  refine C.seq <| C.region <| E.mv rfl rfl <| E.nilc rfl rfl <| ?_
  refine E.fld (o := 2) (sz := 0) rfl Tryd.underlying64 rfl rfl (by kernel_rfl) rfl ?_
  refine E.load rfl Tryd.underlying29 rfl (hM.bcell 0 rfl rfl) rfl ?_
  refine E.mv rfl rfl <| ?_
  refine E.idx1 (k := a) rfl rfl (hM.sl 2 rfl) rfl (by omega) Tryd.underlying29 (by kernel_rfl) rfl ?_
  refine E.storeL (enc := i64) 2 (-1) hM rfl rfl rfl (by kernel_rfl) rfl rfl (by omega) ?_
  intro w0 hM
  try dsimp only [List.nil_append, List.cons_append, List.set_cons_zero, List.set_cons_succ, repl] at hM
  refine E.nil <| X.next <| ?_

  refine C.cut0 [(0, _), (1, _)] rfl [] (fun w' => M w (fpU [Rg.blk b 64 [p, .map (some r), vb], Rg.mp r .u32 i64 m, Rg.sl i64 3 vb bf]) w' [Rg.blk b 64 [p, .map (some r), vb], Rg.mp r .u32 i64 m, Rg.sl i64 3 vb (bf.set a ((aget m (Df.key l a : Int)).getD (-1)))]) ?_ ?_
  ·
    refine C.seq <| C.drawn (by kernel_rfl) (by kernel_rfl) <| Q.mv rfl rfl <| Q.nilc rfl rfl <| ?_
    refine Q.fld (o := 1) (sz := 0) rfl Tryd.underlying64 rfl rfl (by kernel_rfl) rfl ?_
    refine Q.load rfl Tryd.underlying62 rfl (hM.bcell 0 rfl rfl) rfl ?_
    refine Q.mv rfl rfl <| Q.mv rfl rfl <| ?_
    refine Q.call (v := .int .u32 (Df.key l a : Int)) rfl rfl (fun w' hw' => key_ret b a p l _ ((hM.ext hw').bcell 0 rfl rfl) ((hM.ext hw').arg hp ho) ha) ?_
    refine Q.lookup2 (z := .int .i64 0) rfl rfl Tryd.underlying62 Tryd.underlying98 (by kernel_rfl) (hM.mp 1 rfl) rfl ?_
    refine Q.mv rfl rfl <| Q.ext rfl rfl rfl <| Q.ext rfl rfl rfl <| Q.asg rfl rfl <| Q.asg rfl rfl <| Q.nil <| fun w1 hx1 => ?_
    have hM := hM.ext hx1
    refine X.next <| C.seq <| C.region <| E.mv rfl rfl <| E.nil <| X.next <| ?_
    refine C.cond rfl (fun hC0 => ?_) (fun hC0 => ?_)
    ·
      obtain ⟨z, hz⟩ := Option.isSome_iff_exists.1 hC0
      rw [hz]
      refine C.region <| E.mv rfl rfl <| E.nilc rfl rfl <| ?_
      refine E.fld (o := 2) (sz := 0) rfl Tryd.underlying64 rfl rfl (by kernel_rfl) rfl ?_
      refine E.load rfl Tryd.underlying29 rfl (hM.bcell 0 rfl rfl) rfl ?_
      refine E.mv rfl rfl <| E.mv rfl rfl <| ?_
      refine E.idx1 (k := a) rfl rfl (hM.sl 2 rfl) rfl (by rw [List.length_set]; omega) Tryd.underlying29 (by kernel_rfl) rfl ?_
      refine E.storeL (enc := i64) 2 z hM rfl rfl rfl (by kernel_rfl) rfl rfl (by rw [List.length_set]; omega) ?_
      intro w2 hM
      try dsimp only [List.nil_append, List.cons_append, List.set_cons_zero, List.set_cons_succ, repl] at hM

      refine E.nil <| X.join0  (Sub.nil _) rfl (hM.to (by rw [List.set_set]; rfl))
    ·
      have hz : aget m (Df.key l a : Int) = none := by simpa using hC0

      refine C.skip <| X.join0  (Sub.nil _) rfl (hM.to (by rw [hz]; rfl))
  rintro  w3 hM
  refine C.heldM hM [0] (by decide) (by kernel_rfl) fun wh4 hM hS => ?_
  refine H.take 0 rfl rfl (by kernel_rfl) (by kernel_rfl) (by kernel_rfl) hS (fun w' hM => Y.mv rfl) rfl ?_
  refine H.take 1 rfl rfl (by kernel_rfl) (by kernel_rfl) (by kernel_rfl) hS (fun w' hM => Y.nilc rfl) rfl ?_
  refine H.takeV 2 rfl rfl (by kernel_rfl) (by kernel_rfl) (by kernel_rfl) hS (Y.fld (o := 1) (sz := 0) rfl Tryd.underlying64 rfl rfl (by kernel_rfl)) (fun w' hM => Y.fld (o := 1) (sz := 0) rfl Tryd.underlying64 rfl rfl (by kernel_rfl)) rfl ?_
  refine H.take 4 rfl rfl (by kernel_rfl) (by kernel_rfl) (by kernel_rfl) hS (fun w' hM => Y.mv rfl) rfl ?_
  refine H.take 5 rfl rfl (by kernel_rfl) (by kernel_rfl) (by kernel_rfl) hS (fun w' hM => Y.mv rfl) rfl ?_
  refine H.take 7 rfl rfl (by kernel_rfl) (by kernel_rfl) (by kernel_rfl) hS (fun w' hM => Y.mv rfl) rfl ?_
  refine H.takeV 3 rfl rfl (by kernel_rfl) (by kernel_rfl) (by kernel_rfl) hS (Y.load rfl Tryd.underlying62 rfl (hM.bcell 0 rfl rfl)) (fun w' hM => Y.load rfl Tryd.underlying62 rfl (hM.bcell 0 rfl rfl)) rfl ?_
  refine H.only 6 rfl (by kernel_rfl) ?_
  refine E.call rfl rfl (key_ret b a p l _ (hM.bcell 0 rfl rfl) (hM.arg hp ho) ha) ?_
  rintro _ wk ⟨rfl, xk⟩
  have hM := hM.ext xk
  try dsimp only [List.nil_append, List.cons_append, List.set_cons_zero, List.set_cons_succ, repl] at hM
  have hS := hM.pick [0] (by decide)
  refine H.back hS ?_
  refine H.only 8 rfl (by kernel_rfl) ?_
  refine E.mputM 1 (a : Int) hM rfl rfl rfl rfl Tryd.underlying62 Tryd.underlying98 ?_
  intro w6 hM
  try dsimp only [List.nil_append, List.cons_append, List.set_cons_zero, List.set_cons_succ, repl] at hM
  have hS := hM.pick [0] (by decide)
  refine H.back hS ?_
  refine H.done (by kernel_rfl) ?_
  refine end0 rfl ?_
  exact hM

set_option maxHeartbeats 1000000 in
theorem add_ret (b r a : Nat) (p vb : Value) (l : List UInt8) (m : List (Int × Int)) (bf : List Int) (w : World) (hs : Sep w [Rg.blk b 64 [p, .map (some r), vb], Rg.mp r .u32 i64 m, Rg.sl i64 3 vb bf]) (hp : RdL u8 w p l) (ho : Off (fpU [Rg.blk b 64 [p, .map (some r), vb], Rg.mp r .u32 i64 m, Rg.sl i64 3 vb bf]) p l) (hF : Fs l a m bf) (ha : a < 65536) :
    Ret Tryd.prog 35 #[pv b, i64 a] w fun v w' => ∃ m' bf', M w (fpU [Rg.blk b 64 [p, .map (some r), vb], Rg.mp r .u32 i64 m, Rg.sl i64 3 vb bf]) w' [Rg.blk b 64 [p, .map (some r), vb], Rg.mp r .u32 i64 m', Rg.sl i64 3 vb bf'] ∧ Fs l (a + 1) m' bf' := by
  have hM := M.startS hs
  refine enter Tryd.func35 rfl (by kernel_rfl) Tryd.ntmps35 rfl ?_
  refine C.seq <| C.seq <| C.region <| E.mv rfl rfl <| ?_
  refine E.addN (a := a) (b := 3) rfl rfl (by omega) rfl ?_
  refine E.mv rfl rfl <| E.nilc rfl rfl <| ?_
  refine E.fld (o := 0) (sz := 0) rfl Tryd.underlying64 rfl rfl (by kernel_rfl) rfl ?_
  refine E.load rfl Tryd.underlying22 rfl (hM.bcell 0 rfl rfl) rfl ?_
  refine E.lenv rfl (Rd.shape (hM.arg hp ho)) Tryd.underlying22 rfl ?_
  refine E.bin rfl rfl rfl rfl <| E.nil <| X.next <| ?_
  refine C.cond' rfl (fun hC0 => ?_) (fun hC0 => ?_)
  ·
    refine C.ret <| X.retT <| ret0 rfl ?_
    exact ⟨m, bf, hM, hF.skip (by omega)⟩
  ·
    have h3 : a + 3 ≤ l.length := by omega
    refine C.skip <| X.next <| ?_

    refine C.cut0 [(0, _), (1, _)] rfl [] (fun w' => M w (fpU [Rg.blk b 64 [p, .map (some r), vb], Rg.mp r .u32 i64 m, Rg.sl i64 3 vb bf]) w' [Rg.blk b 64 [p, .map (some r), vb], Rg.mp r .u32 i64 m, Rg.sl i64 3 vb bf]) ?_ ?_
    ·

      refine C.chainE [(0, _), (1, _)] rfl [(19, .bool false)] ?_ ?_
      ·
        refine C.region <| E.mv rfl rfl <| E.bin rfl rfl rfl rfl <| E.mv rfl rfl <| ?_
        refine E.split 15 rfl (fun g15 => ?_) (fun g15 => ?_)
        ·
          try simp only [decide_eq_true_eq, decide_eq_false_iff_not, ne_eq, Decidable.not_not, Bool.not_eq_true', Bool.not_eq_false'] at g15
          refine E.on rfl rfl (E.mv rfl rfl ?_)
          refine E.on rfl rfl (E.rem rfl rfl (by omega) (remN (b := 65536)) rfl ?_)
          refine E.on rfl rfl (E.bin rfl rfl rfl rfl ?_)
          refine E.pick rfl rfl rfl <| E.nil <| X.join0 (Sub.cons (look_eq rfl (by first | rfl | (apply congrArg Value.bool; apply decide_eq_false; omega))) <| Sub.nil _) rfl rfl
        ·
          try simp only [decide_eq_true_eq, decide_eq_false_iff_not, ne_eq, Decidable.not_not, Bool.not_eq_true', Bool.not_eq_false'] at g15
          refine E.off rfl rfl rfl rfl <| E.off rfl rfl rfl rfl <| E.off rfl rfl rfl rfl <| E.pick rfl rfl rfl <| E.nil <| X.join0 (Sub.cons (look_eq rfl (by first | rfl | (apply congrArg Value.bool; apply decide_eq_false; omega))) <| Sub.nil _) rfl rfl
      refine C.cond rfl (fun hC1 => ?_) (fun hC1 => ?_)
      ·
        cases hC1
      ·

        refine C.skip <| X.join0  (Sub.nil _) rfl hM
    rintro  w0 hM
    refine C.region <| E.mv rfl rfl <| E.mv rfl rfl <| ?_
    refine E.call rfl rfl (link_ret b r a p vb l m bf _ (hM.pick [0, 1, 2] (by decide)).sep (hM.arg hp ho) ho h3 hF.len) ?_
    rintro _ w5 m5
    have hM := hM.calls [0, 1, 2] (by decide) rfl (by simp) m5
    try dsimp only [List.nil_append, List.cons_append, List.set_cons_zero, List.set_cons_succ, repl] at hM
    refine E.nil <| end0 rfl ?_
    exact ⟨_, _, hM, hF.link h3⟩

set_option maxHeartbeats 1000000 in
theorem equal_ret (b j a : Nat) (p vm vb : Value) (l : List UInt8) (w : World) (hs : Sep w [Rg.blk b 64 [p, vm, vb]]) (hp : RdL u8 w p l) (ho : Off (fpU [Rg.blk b 64 [p, vm, vb]]) p l) (hj : j < a) (hl : l.length ≤ 1000000) (ha : a ≤ l.length) :
    Ret Tryd.prog 60 #[pv b, i64 j, i64 a] w fun v w' => v = i64 (Df.eqn l j a : Int) ∧ M w (fpU [Rg.blk b 64 [p, vm, vb]]) w' [Rg.blk b 64 [p, vm, vb]] := by
  have hM := M.startS hs
  refine enter Tryd.func60 rfl (by kernel_rfl) Tryd.ntmps60 rfl ?_
  refine C.seq <| C.region <| E.asg rfl rfl <| E.nil <| X.next <| C.seq <| C.region <| E.asg rfl rfl <| E.nil <| X.next <| C.seq <| C.block <| ?_

  refine C.loop1 [(0, _), (1, _), (2, _)] rfl (fun (n : Nat) => [(7, i64 n)]) (fun (n : Nat) w' => M w (fpU [Rg.blk b 64 [p, vm, vb]]) w' [Rg.blk b 64 [p, vm, vb]] ∧ n ≤ 258 ∧ Df.ego l j a (258 - n) n = Df.eqn l j a) (fun (n : Nat) => 258 - n) 0 ?_ ?_ ?_
  · exact Sub.cons rfl <| Sub.nil _
  · exact ⟨hM, by omega, rfl⟩
  rintro n w0 ⟨hM, hn, he⟩
  refine C.seq <| ?_

  refine C.chainQ [(0, _), (1, _), (2, _), (7, _)] rfl [(41, .bool (decide (n < 258 ∧ a + n < l.length ∧ l.getD (j + n) 0 = l.getD (a + n) 0)))] ?_ ?_
  ·
    refine C.drawn (by kernel_rfl) (by kernel_rfl) <| Q.mv rfl rfl <| Q.bin rfl rfl rfl rfl <| Q.mv rfl rfl <| ?_
    refine Q.split 10 rfl (fun g10 => ?_) (fun g10 => ?_)
    ·
      try simp only [decide_eq_true_eq, decide_eq_false_iff_not, ne_eq, Decidable.not_not, Bool.not_eq_true', Bool.not_eq_false'] at g10
      refine Q.on rfl rfl (Q.mv rfl rfl ?_)
      refine Q.on rfl rfl (Q.mv rfl rfl ?_)
      refine Q.on rfl rfl (Q.addN (a := a) (b := n) rfl rfl (by omega) rfl ?_)
      refine Q.on rfl rfl (Q.mv rfl rfl ?_)
      refine Q.on rfl rfl (Q.nilc rfl rfl ?_)
      refine Q.on rfl rfl (Q.fld (o := 0) (sz := 0) rfl Tryd.underlying64 rfl rfl (by kernel_rfl) rfl ?_)
      refine Q.on rfl rfl (Q.load rfl Tryd.underlying22 rfl (hM.bcell 0 rfl rfl) rfl ?_)
      refine Q.on rfl rfl (Q.lenv rfl (Rd.shape (hM.arg hp ho)) Tryd.underlying22 rfl ?_)
      refine Q.on rfl rfl (Q.bin rfl rfl rfl rfl ?_)
      refine Q.pick rfl rfl rfl <| Q.mv rfl rfl <| ?_
      refine Q.split 21 rfl (fun g21 => ?_) (fun g21 => ?_)
      ·
        try simp only [decide_eq_true_eq, decide_eq_false_iff_not, ne_eq, Decidable.not_not, Bool.not_eq_true', Bool.not_eq_false'] at g21
        have g1 := gdU (l := l) (i := j + n) (by omega)
        have g2 := gdU (l := l) (i := a + n) (by omega)
        refine Q.on rfl rfl (Q.mv rfl rfl ?_)
        refine Q.on rfl rfl (Q.nilc rfl rfl ?_)
        refine Q.on rfl rfl (Q.fld (o := 0) (sz := 0) rfl Tryd.underlying64 rfl rfl (by kernel_rfl) rfl ?_)
        refine Q.on rfl rfl (Q.load rfl Tryd.underlying22 rfl (hM.bcell 0 rfl rfl) rfl ?_)
        refine Q.on rfl rfl (Q.mv rfl rfl ?_)
        refine Q.on rfl rfl (Q.mv rfl rfl ?_)
        refine Q.on rfl rfl (Q.addN (a := j) (b := n) rfl rfl (by omega) rfl ?_)
        refine Q.on rfl rfl (Q.idx1 (k := j + n) rfl rfl (hM.arg hp ho) rfl (by omega) Tryd.underlying22 (by kernel_rfl) rfl ?_)
        refine Q.on rfl rfl (Q.load rfl Tryd.underlying5 rfl ((hM.arg hp ho).cell (by omega)) rfl ?_)
        refine Q.on rfl rfl (Q.mv rfl rfl ?_)
        refine Q.on rfl rfl (Q.nilc rfl rfl ?_)
        refine Q.on rfl rfl (Q.fld (o := 0) (sz := 0) rfl Tryd.underlying64 rfl rfl (by kernel_rfl) rfl ?_)
        refine Q.on rfl rfl (Q.load rfl Tryd.underlying22 rfl (hM.bcell 0 rfl rfl) rfl ?_)
        refine Q.on rfl rfl (Q.mv rfl rfl ?_)
        refine Q.on rfl rfl (Q.mv rfl rfl ?_)
        refine Q.on rfl rfl (Q.addN (a := a) (b := n) rfl rfl (by omega) rfl ?_)
        refine Q.on rfl rfl (Q.idx1 (k := a + n) rfl rfl (hM.arg hp ho) rfl (by omega) Tryd.underlying22 (by kernel_rfl) rfl ?_)
        refine Q.on rfl rfl (Q.load rfl Tryd.underlying5 rfl ((hM.arg hp ho).cell (by omega)) rfl ?_)
        refine Q.on rfl rfl (Q.bin rfl rfl rfl rfl ?_)
        rw [show (decide (((l[j + n]'(by omega)).toNat : Int) = ((l[a + n]'(by omega)).toNat : Int))) = decide (l.getD (j + n) 0 = l.getD (a + n) 0) by rw [g1, g2]; exact decide_eq_decide.2 ⟨fun h => Df.u8_ext (by omega), fun h => by rw [h]⟩]
        refine Q.pick rfl rfl rfl <| Q.nil <| fun w1 hx1 => ?_
        refine X.join0 (Sub.cons (by first | exact leaf_f (by omega) | exact leaf_d ⟨fun h => ⟨by omega, by omega, h⟩, fun h => h.2.2⟩ | exact leaf_d (by omega)) <| Sub.nil _) rfl hx1
      ·
        try simp only [decide_eq_true_eq, decide_eq_false_iff_not, ne_eq, Decidable.not_not, Bool.not_eq_true', Bool.not_eq_false'] at g21
        refine Q.off rfl rfl rfl rfl <| Q.off rfl rfl rfl rfl <| Q.off rfl rfl rfl rfl <| Q.off rfl rfl rfl rfl <| Q.off rfl rfl rfl rfl <| Q.off rfl rfl rfl rfl <| Q.off rfl rfl rfl rfl <| Q.off rfl rfl rfl rfl <| Q.off rfl rfl rfl rfl <| Q.off rfl rfl rfl rfl <| Q.off rfl rfl rfl rfl <| Q.off rfl rfl rfl rfl <| Q.off rfl rfl rfl rfl <| Q.off rfl rfl rfl rfl <| Q.off rfl rfl rfl rfl <| Q.off rfl rfl rfl rfl <| Q.off rfl rfl rfl rfl <| Q.off rfl rfl rfl rfl <| Q.off rfl rfl rfl rfl <| Q.pick rfl rfl rfl <| Q.nil <| fun w2 hx2 => ?_
        refine X.join0 (Sub.cons (by first | exact leaf_f (by omega) | exact leaf_d ⟨fun h => ⟨by omega, by omega, h⟩, fun h => h.2.2⟩ | exact leaf_d (by omega)) <| Sub.nil _) rfl hx2
    ·
      try simp only [decide_eq_true_eq, decide_eq_false_iff_not, ne_eq, Decidable.not_not, Bool.not_eq_true', Bool.not_eq_false'] at g10
      refine Q.off rfl rfl rfl rfl <| Q.off rfl rfl rfl rfl <| Q.off rfl rfl rfl rfl <| Q.off rfl rfl rfl rfl <| Q.off rfl rfl rfl rfl <| Q.off rfl rfl rfl rfl <| Q.off rfl rfl rfl rfl <| Q.off rfl rfl rfl rfl <| Q.off rfl rfl rfl rfl <| Q.pick rfl rfl rfl <| Q.mv rfl rfl <| Q.off rfl rfl rfl rfl <| Q.off rfl rfl rfl rfl <| Q.off rfl rfl rfl rfl <| Q.off rfl rfl rfl rfl <| Q.off rfl rfl rfl rfl <| Q.off rfl rfl rfl rfl <| Q.off rfl rfl rfl rfl <| Q.off rfl rfl rfl rfl <| Q.off rfl rfl rfl rfl <| Q.off rfl rfl rfl rfl <| Q.off rfl rfl rfl rfl <| Q.off rfl rfl rfl rfl <| Q.off rfl rfl rfl rfl <| Q.off rfl rfl rfl rfl <| Q.off rfl rfl rfl rfl <| Q.off rfl rfl rfl rfl <| Q.off rfl rfl rfl rfl <| Q.off rfl rfl rfl rfl <| Q.off rfl rfl rfl rfl <| Q.pick rfl rfl rfl <| Q.nil <| fun w3 hx3 => ?_
      refine X.join0 (Sub.cons (by first | exact leaf_f (by omega) | exact leaf_d ⟨fun h => ⟨by omega, by omega, h⟩, fun h => h.2.2⟩ | exact leaf_d (by omega)) <| Sub.nil _) rfl hx3
  intro w4 hx4
  have hM := hM.ext hx4
  refine C.cond' rfl (fun hC0 => ?_) (fun hC0 => ?_)
  ·
    have he' : Df.ego l j a (258 - (n + 1)) (n + 1) = Df.eqn l j a := by
      rw [← he, show 258 - n = 258 - (n + 1) + 1 by omega, Df.ego, if_pos hC0.2]
    refine C.skip <| X.next <| C.block <| C.region <| E.mv rfl rfl <| ?_
    refine E.addN (a := n) (b := 1) rfl rfl (by omega) rfl ?_

    refine E.asg rfl rfl <| E.nil <| X.outN <| X.again1 (n + 1) (Sub.cons rfl <| Sub.nil _) rfl ⟨hM, by omega, he'⟩ (by omega)
  ·
    have hfin : Df.eqn l j a = n := by
      rw [← he]
      cases h : 258 - n with
      | zero => rfl
      | succ f => rw [Df.ego, if_neg (fun c => hC0 ⟨by omega, c⟩)]
    refine C.exit <| X.exitT <| X.exitT <| X.outE <| X.next <| C.seq <| C.region <| E.mv rfl rfl <| E.asg rfl rfl <| E.nil <| X.next <| C.ret <| ret1 rfl rfl ?_
    exact ⟨by rw [hfin], hM⟩

end Go.Proofs.YtcmgbjmcklfkcaaDoor

/- Plain facts on the CRC-32 register: a step is linear and one-to-one; eight steps of a byte; the product of polynomials by steps. No program in sight. -/
namespace Go.Proofs.YtcmgbjmcklfkcaaDoor.Crc
set_option linter.unusedSimpArgs false
set_option linter.unusedVariables false

/-- one step of the register -/
def step (x : BitVec 32) : BitVec 32 := if x.getLsbD 0 then (x >>> 1) ^^^ 0xedb88320#32 else x >>> 1

def steps : Nat → BitVec 32 → BitVec 32
  | 0, x => x
  | n + 1, x => steps n (step x)

theorem step_xor (x y : BitVec 32) : step (x ^^^ y) = step x ^^^ step y := by
  unfold step
  simp only [BitVec.getLsbD_xor]
  cases hx : x.getLsbD 0 <;> cases hy : y.getLsbD 0 <;>
    simp [BitVec.ushiftRight_xor_distrib] <;> (apply BitVec.eq_of_getLsbD_eq; intro i hi; simp; try cases (3988292384#32).getLsbD i <;> simp)
theorem step_zero : step 0#32 = 0#32 := by decide
theorem steps_zero (n : Nat) : steps n 0#32 = 0#32 := by
  induction n with
  | zero => rfl
  | succ n ih => simp [steps, step_zero, ih]
theorem steps_xor (n : Nat) (x y : BitVec 32) : steps n (x ^^^ y) = steps n x ^^^ steps n y := by
  induction n generalizing x y with
  | zero => rfl
  | succ n ih => simp [steps, step_xor, ih]
theorem steps_add (m n : Nat) (x : BitVec 32) : steps (m + n) x = steps n (steps m x) := by
  induction m generalizing x with
  | zero => simp [steps]
  | succ m ih => rw [Nat.succ_add]; simp [steps, ih]
theorem steps_succ (n : Nat) (x : BitVec 32) : steps (n + 1) x = step (steps n x) := by
  rw [steps_add n 1]; rfl

/-- the highest bit tells whether the polynomial was added: a step can be undone -/
theorem step_msb (x : BitVec 32) : (step x).getLsbD 31 = x.getLsbD 0 := by
  unfold step
  cases h : x.getLsbD 0
  · simp
  · rw [if_pos rfl, BitVec.getLsbD_xor]
    have : (0xedb88320#32).getLsbD 31 = true := by decide
    rw [this]; simp
theorem step_inj {x y : BitVec 32} (h : step x = step y) : x = y := by
  have h0 : x.getLsbD 0 = y.getLsbD 0 := by rw [← step_msb, ← step_msb, h]
  have h1 : x >>> 1 = y >>> 1 := by
    unfold step at h
    rw [h0] at h
    cases hy : y.getLsbD 0
    · rw [hy] at h; exact h
    · rw [hy, if_pos rfl, if_pos rfl] at h
      have := congrArg (· ^^^ 0xedb88320#32) h
      simpa [BitVec.xor_assoc] using this
  apply BitVec.eq_of_getLsbD_eq
  intro i hi
  cases i with
  | zero => exact h0
  | succ i =>
    have := congrArg (fun z => BitVec.getLsbD z i) h1
    simpa [BitVec.getLsbD_ushiftRight, Nat.add_comm 1 i] using this
theorem steps_inj (n : Nat) {x y : BitVec 32} (h : steps n x = steps n y) : x = y := by
  induction n generalizing x y with
  | zero => exact h
  | succ n ih => exact step_inj (ih h)

/-- while the bits that leave are 0, a step is a shift -/
theorem steps_low (k : Nat) (y : BitVec 32) (h : ∀ i, i < k → y.getLsbD i = false) : steps k y = y >>> k := by
  induction k generalizing y with
  | zero => simp [steps]
  | succ k ih =>
    have h0 : y.getLsbD 0 = false := h 0 (by omega)
    have hs : step y = y >>> 1 := by unfold step; rw [h0]; rfl
    rw [steps, hs, ih]
    · apply BitVec.eq_of_getLsbD_eq; intro i hi; simp [BitVec.getLsbD_ushiftRight]; congr 1; omega
    · intro i hi
      rw [BitVec.getLsbD_ushiftRight]
      exact h (1 + i) (by omega)
theorem steps8_split (x : BitVec 32) : steps 8 x = (x >>> 8) ^^^ steps 8 (x &&& 0xff#32) := by
  have hx : x = (x &&& 0xffffff00#32) ^^^ (x &&& 0xff#32) := by
    apply BitVec.eq_of_getLsbD_eq; intro i hi
    simp only [BitVec.getLsbD_xor, BitVec.getLsbD_and]
    have : ∀ i, i < 32 → (0xffffff00#32).getLsbD i = !(0xff#32).getLsbD i := by decide
    rw [this i hi]
    cases x.getLsbD i <;> cases (0xff#32).getLsbD i <;> rfl
  have h8 : steps 8 (x &&& 0xffffff00#32) = x >>> 8 := by
    rw [steps_low]
    · apply BitVec.eq_of_getLsbD_eq; intro i hi
      simp only [BitVec.getLsbD_ushiftRight, BitVec.getLsbD_and]
      have : ∀ i, i < 24 → (0xffffff00#32).getLsbD (8 + i) = true := by decide
      by_cases h : i < 24
      · rw [this i h]; simp
      · rw [BitVec.getLsbD_of_ge x _ (by omega)]; simp
    · intro i hi
      have : ∀ i, i < 8 → (0xffffff00#32).getLsbD i = false := by decide
      simp [this i hi]
  rw [← h8, ← steps_xor, ← hx]

/-- a byte in the register -/
def ext (c : UInt8) : BitVec 32 := BitVec.ofNat 32 c.toNat
/-- the register after bytes -/
def reg (x : BitVec 32) (l : List UInt8) : BitVec 32 := l.foldl (fun x c => steps 8 (x ^^^ ext c)) x
/-- the CRC-32 -/
def crc (l : List UInt8) : BitVec 32 := ~~~ reg 0xffffffff#32 l

theorem reg_append (x : BitVec 32) (l m : List UInt8) : reg x (l ++ m) = reg (reg x l) m := by simp [reg]
theorem reg_snoc (x : BitVec 32) (l : List UInt8) (c : UInt8) : reg x (l ++ [c]) = steps 8 (reg x l ^^^ ext c) := by simp [reg]
theorem reg_cons (x : BitVec 32) (c : UInt8) (l : List UInt8) : reg x (c :: l) = reg (steps 8 (x ^^^ ext c)) l := by simp [reg]
theorem reg_xor (x y : BitVec 32) (l : List UInt8) : reg (x ^^^ y) l = reg x l ^^^ steps (8 * l.length) y := by
  induction l generalizing x y with
  | nil => simp [reg, steps]
  | cons c l ih =>
    rw [reg_cons, reg_cons]
    have : steps 8 (x ^^^ y ^^^ ext c) = steps 8 (x ^^^ ext c) ^^^ steps 8 y := by
      rw [← steps_xor]; congr 1
      rw [BitVec.xor_assoc, BitVec.xor_comm y, ← BitVec.xor_assoc]
    rw [this, ih, ← steps_add]
    congr 2; simp; omega
theorem not_xor (a b : BitVec 32) : ~~~ (a ^^^ b) = b ^^^ ~~~ a := by
  apply BitVec.eq_of_getLsbD_eq; intro i hi
  simp only [BitVec.getLsbD_not, BitVec.getLsbD_xor, hi, decide_true, Bool.true_and]
  cases a.getLsbD i <;> cases b.getLsbD i <;> rfl
/-- the CRC-32 of two inputs, one after the other -/
theorem crc_append (l m : List UInt8) : crc (l ++ m) = steps (8 * m.length) (crc l) ^^^ crc m := by
  unfold crc
  rw [reg_append]
  have h1 : reg 0xffffffff#32 l = 0xffffffff#32 ^^^ ~~~ reg 0xffffffff#32 l := by
    apply BitVec.eq_of_getLsbD_eq; intro i hi
    have : ∀ i, i < 32 → (0xffffffff#32).getLsbD i = true := by decide
    rw [BitVec.getLsbD_xor, this i hi, BitVec.getLsbD_not]
    simp [hi]
  have h2 : reg (reg 0xffffffff#32 l) m = reg 0xffffffff#32 m ^^^ steps (8 * m.length) (~~~ reg 0xffffffff#32 l) := by
    rw [← reg_xor, ← h1]
  rw [h2]
  exact not_xor _ _

/-- the number 1 as a polynomial: the highest bit -/
def one : BitVec 32 := 0x80000000#32
theorem steps_one (i : Nat) (h : i < 32) : steps i one = one >>> i := by
  apply steps_low
  intro j hj
  have : ∀ j, j < 31 → one.getLsbD j = false := by decide
  exact this j (by omega)

/-- the sum of the bits of p from degree k on, times what q has become: k steps have been taken -/
def part (p q : BitVec 32) : Nat → BitVec 32
  | 0 => 0#32
  | k + 1 => part p q k ^^^ (if p.getLsbD (31 - k) then steps k q else 0#32)
/-- the product -/
def mul (p q : BitVec 32) : BitVec 32 := part p q 32

theorem part_steps (p q : BitVec 32) (n : Nat) (k : Nat) : part p (steps n q) k = steps n (part p q k) := by
  induction k with
  | zero => simp [part, steps_zero]
  | succ k ih =>
    simp only [part]
    rw [ih, steps_xor]
    congr 1
    split
    · rw [← steps_add, ← steps_add, Nat.add_comm]
    · rw [steps_zero]
theorem part_one (p : BitVec 32) (k : Nat) (hk : k ≤ 32) : ∀ i, i < 32 → (part p one k).getLsbD i = (decide (32 - k ≤ i) && p.getLsbD i) := by
  induction k with
  | zero => intro i hi; simp [part]; omega
  | succ k ih =>
    intro i hi
    rw [part, BitVec.getLsbD_xor, ih (by omega) i hi]
    have hb : (if p.getLsbD (31 - k) = true then steps k one else 0#32).getLsbD i = (decide (i = 31 - k) && p.getLsbD i) := by
      have h1 : ∀ i, i < 32 → ∀ k, k < 32 → (one >>> k).getLsbD i = decide (i = 31 - k) := by decide
      by_cases hp : p.getLsbD (31 - k) = true
      · rw [if_pos hp, steps_one k (by omega), h1 i hi k (by omega)]
        by_cases e : i = 31 - k
        · simp [e, hp]
        · simp [e]
      · rw [if_neg hp]
        by_cases e : i = 31 - k
        · simp [e]; simpa using hp
        · simp [e]
    rw [hb]
    by_cases e : i = 31 - k
    · have a : ¬ 32 - k ≤ 31 - k := by omega
      subst e; simp [a]
    · by_cases f : 32 - k ≤ i
      · simp [e, f]; intro; omega
      · simp [e, f]; intro; omega
theorem mul_one (p : BitVec 32) : mul p one = p := by
  apply BitVec.eq_of_getLsbD_eq; intro i hi
  unfold mul
  rw [part_one p 32 (Nat.le_refl _) i hi]; simp
/-- a product by a power of x is so many steps -/
theorem mul_steps (p : BitVec 32) (n : Nat) : mul p (steps n one) = steps n p := by
  unfold mul; rw [part_steps]; congr 1; exact mul_one p

end Go.Proofs.YtcmgbjmcklfkcaaDoor.Crc

/- What the functions of package checksum return. -/
namespace Go.Proofs.YtcmgbjmcklfkcaaDoor
set_option linter.unusedSimpArgs false
set_option linter.unusedVariables false
open Go.RowKit Sym

abbrev u32 (x : BitVec 32) : Value := .int .u32 (x.toNat : Int)

theorem stepA (x : BitVec 32) (h : x.getLsbD 0 = true) : bits .xor .u32 ((x.toNat : Int) / 2) 3988292384 = ((Crc.step x).toNat : Int) := by
  have e : (x.toNat : Int) / (2 : Int) = ((x >>> 1).toNat : Int) := by rw [shr32]; rfl
  rw [e]
  have := bits_xor32 (x >>> 1) 0xedb88320#32
  unfold Crc.step; rw [if_pos h]; exact this
theorem stepB (x : BitVec 32) (h : ¬ x.getLsbD 0 = true) : (x.toNat : Int) / 2 = ((Crc.step x).toNat : Int) := by
  have e : (x.toNat : Int) / (2 : Int) = ((x >>> 1).toNat : Int) := by rw [shr32]; rfl
  rw [e]; unfold Crc.step; rw [if_neg h]
theorem lsb_iff (x : BitVec 32) : bits .and .u32 (x.toNat : Int) 1 = 1 ↔ x.getLsbD 0 = true := by
  rw [← lsb32]; simp

/-- the table after k entries -/
def tabL (k : Nat) : List Value := (List.range 256).map fun i => if i < k then u32 (Crc.steps 8 (BitVec.ofNat 32 i)) else .int .u32 0
theorem tabL_len (k : Nat) : (tabL k).length = 256 := by simp [tabL]
theorem tabL_get (k i : Nat) (h : i < 256) : (tabL k)[i]? = some (if i < k then u32 (Crc.steps 8 (BitVec.ofNat 32 i)) else .int .u32 0) := by simp [tabL, h]
theorem tabL_succ (k : Nat) (h : k < 256) : (tabL k).toArray.setIfInBounds k (u32 (Crc.steps 8 (BitVec.ofNat 32 k))) = (tabL (k + 1)).toArray := by
  rw [List.setIfInBounds_toArray]
  congr 1
  apply List.ext_getElem?
  intro i
  by_cases hi : i < 256
  · rw [List.getElem?_set, tabL_get _ _ hi, tabL_get _ _ hi, tabL_len]
    by_cases e : k = i
    · subst e; simp [h]
    · have : (i < k + 1) = (i < k) := by simp; omega
      simp [e, this]
  · rw [List.getElem?_eq_none (by simp [tabL_len]; omega), List.getElem?_eq_none (by rw [tabL_len]; omega)]
theorem tabL_one (k : Nat) : ∀ u ∈ tabL k, u.oneCell' = true := by
  intro u hu
  simp only [tabL, List.mem_map] at hu
  obtain ⟨i, _, rfl⟩ := hu
  split <;> rfl

/-! the CRC-32 of bytes -/
def tix (x : BitVec 32) (c : UInt8) : Nat := x.toNat % 256 ^^^ c.toNat
theorem u8_lt (c : UInt8) : c.toNat < 256 := c.toNat_lt
theorem tix_lt (x : BitVec 32) (c : UInt8) : tix x c < 256 := Nat.xor_lt_two_pow (n := 8) (Nat.mod_lt _ (by decide)) (u8_lt c)
theorem tix_eq (x : BitVec 32) (c : UInt8) : bits .xor .u8 ((x.toNat : Int) % 256) (c.toNat : Int) = ((tix x c : Nat) : Int) := by
  have h : (x.toNat : Int) % 256 = ((x.toNat % 256 : Nat) : Int) := by simp
  rw [h, u8_xor_nat _ _ (Nat.mod_lt _ (by decide)) (u8_lt c)]; rfl
theorem ext_toNat (c : UInt8) : (Crc.ext c).toNat = c.toNat := by
  simp [Crc.ext]
theorem shr8_ext (x : BitVec 32) (c : UInt8) : (x ^^^ Crc.ext c) >>> 8 = x >>> 8 := by
  rw [BitVec.ushiftRight_xor_distrib]
  have : Crc.ext c >>> 8 = 0#32 := by
    apply BitVec.eq_of_toNat_eq
    have := u8_lt c
    rw [BitVec.toNat_ushiftRight, ext_toNat, Nat.shiftRight_eq_div_pow]; simp; omega
  rw [this]; simp
theorem low8_ext (x : BitVec 32) (c : UInt8) : (x ^^^ Crc.ext c) &&& 0xff#32 = BitVec.ofNat 32 (tix x c) := by
  apply BitVec.eq_of_toNat_eq
  have h1 := tix_lt x c
  have h2 := u8_lt c
  have hr : (BitVec.ofNat 32 (tix x c)).toNat = tix x c := by rw [BitVec.toNat_ofNat]; exact Nat.mod_eq_of_lt (Nat.lt_trans h1 (by decide))
  have : (0xff#32).toNat = 2 ^ 8 - 1 := by decide
  rw [BitVec.toNat_and, BitVec.toNat_xor, ext_toNat, hr, this, Nat.and_two_pow_sub_one_eq_mod, tix]
  have hm : ∀ a b : Nat, b < 256 → (a ^^^ b) % 2 ^ 8 = a % 256 ^^^ b := by
    intro a b hb
    rw [Nat.xor_mod_two_pow, Nat.mod_eq_of_lt (a := b) (by simpa using hb)]
  exact hm _ _ h2
theorem upd_eq (x : BitVec 32) (c : UInt8) : bits .xor .u32 ((x.toNat : Int) / 256) ((Crc.steps 8 (BitVec.ofNat 32 (tix x c))).toNat : Int) = ((Crc.steps 8 (x ^^^ Crc.ext c)).toNat : Int) := by
  have e : (x.toNat : Int) / (256 : Int) = ((x >>> 8).toNat : Int) := by rw [shr32]; rfl
  rw [e, bits_xor32, Crc.steps8_split (x ^^^ Crc.ext c), shr8_ext, low8_ext]
theorem reg_take (x : BitVec 32) (l : List UInt8) (k : Nat) (h : k < l.length) : Crc.reg x (l.take (k + 1)) = Crc.steps 8 (Crc.reg x (l.take k) ^^^ Crc.ext l[k]) := by
  rw [List.take_succ_eq_append_getElem h, Crc.reg_snoc]

theorem flip32 (x : BitVec 32) : bits .xor .u32 (if IntKind.u32.signed then -1 else IntKind.u32.max) (x.toNat : Int) = ((~~~ x).toNat : Int) := by
  have h : (if IntKind.u32.signed then -1 else IntKind.u32.max : Int) = ((0xffffffff#32).toNat : Int) := by decide
  rw [h, bits_xor32]
  have : 0xffffffff#32 ^^^ x = ~~~ x := by
    apply BitVec.eq_of_getLsbD_eq; intro i hi
    have : ∀ i, i < 32 → (0xffffffff#32).getLsbD i = true := by decide
    rw [BitVec.getLsbD_xor, this i hi, BitVec.getLsbD_not]; simp [hi]
  rw [this]

theorem odd_iff (x : BitVec 32) : (x.toNat : Int) % 2 = 1 ↔ x.getLsbD 0 = true := by
  have : x.getLsbD 0 = decide (x.toNat % 2 = 1) := by simp [BitVec.getLsbD, Nat.testBit_zero]
  rw [this]; simp; omega
theorem quo2 (x : BitVec 32) : IntKind.u32.wrap ((x.toNat : Int).tdiv 2) = (x.toNat : Int) / 2 := IntWalk.u32_quo _ _ (by have := lt32 x; omega)

end Go.Proofs.YtcmgbjmcklfkcaaDoor
