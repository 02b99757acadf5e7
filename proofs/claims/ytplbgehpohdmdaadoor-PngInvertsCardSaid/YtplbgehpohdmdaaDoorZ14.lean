/- Texts of the claim, laid together: Pg2, Pg3. -/
import Derived.Test.YtplbgehpohdmdaaDoorZ0
import Derived.Test.YtplbgehpohdmdaaDoorZ13
set_option linter.unusedSimpArgs false
set_option linter.unusedVariables false
namespace Go.Proofs.YtplbgehpohdmdaaDoor
open Go.RowKit Sym
theorem elem_Tapi_Chunk : Elem Tryd.prog 37 2 40 := elem_of (z := .agg #[.string .empty, .slice none 0 0]) (by kernel_rfl) rfl (by decide)
open Pg
theorem orN {a b : Nat} (k : Nat) (hb : b < 2 ^ k) (h : a * 2 ^ k + b < 4294967296) : bits .or .i64 ((a * 2 ^ k : Nat) : Int) (b : Int) = ((a * 2 ^ k + b : Nat) : Int) := by
 rw [i64_or_nat _ _ (by omega) (by omega)]
 congr 1
 rw [← Nat.shiftLeft_eq, ← Nat.shiftLeft_add_eq_or_of_lt hb]
theorem orN4 {a b c d : Nat} (ha : a < 256) (hb : b < 256) (hc : c < 256) (hd : d < 256) : bits .or .i64 (bits .or .i64 (bits .or .i64 ((a : Int) * 16777216) ((b : Int) * 65536)) ((c : Int) * 256)) (d : Int) = ((a * 16777216 + b * 65536 + c * 256 + d : Nat) : Int) := by
 have e1 := orN (a := a) (b := b * 65536) 24 (by omega) (by omega)
 have e2 := orN (a := a * 256 + b) (b := c * 256) 16 (by omega) (by omega)
 have e3 := orN (a := a * 65536 + b * 256 + c) (b := d) 8 (by omega) (by omega)
 rw [show ((a * 2 ^ 24 : Nat) : Int) = (a : Int) * 16777216 from by omega, show ((b * 65536 : Nat) : Int) = (b : Int) * 65536 from by omega] at e1
 rw [e1, show ((a * 2 ^ 24 + b * 65536 : Nat) : Int) = (((a * 256 + b) * 2 ^ 16 : Nat) : Int) from by omega, show (c : Int) * 256 = ((c * 256 : Nat) : Int) from by omega, e2,
  show (((a * 256 + b) * 2 ^ 16 + c * 256 : Nat) : Int) = (((a * 65536 + b * 256 + c) * 2 ^ 8 : Nat) : Int) from by omega, e3]
 omega
theorem str_size (t : List UInt8) : (ByteArray.mk t.toArray).size = t.length := rfl
theorem str_get {t : List UInt8} {k : Nat} (h : k < t.length) : (ByteArray.mk t.toArray)[k]? = some t[k] := by
 rw [getElem?_pos (ByteArray.mk t.toArray) k h]; rfl
def lw (n : Nat) : Nat := n &&& 223
theorem lw_bits : ∀ n, n < 256 → bits .andNot .u8 ((n : Nat) : Int) 32 = ((lw n : Nat) : Int) := by decide +kernel
theorem lw_isL : ∀ n, n < 256 → (((65 ≤ n ∧ n ≤ 90) ∨ (97 ≤ n ∧ n ≤ 122)) ↔ ¬ (lw n < 65 ∨ 90 < lw n)) := by decide +kernel
theorem isL_t {c : UInt8} (h : ¬ (lw c.toNat < 65 ∨ 90 < lw c.toNat)) : isL c = true := decide_eq_true ((lw_isL _ (UInt8.toNat_lt c)).2 h)
theorem isL_f {c : UInt8} (h : lw c.toNat < 65 ∨ 90 < lw c.toNat) : isL c = false := decide_eq_false fun k => (lw_isL _ (UInt8.toNat_lt c)).1 k h
theorem all_takeN {p : UInt8 → Prop} {t : List UInt8} {k : Nat} (hk : k < t.length) (h : ∀ c ∈ t.take k, p c) (hc : p t[k]) : ∀ c ∈ t.take (k + 1), p c := fun c hc' => by
 rw [← List.take_append_getElem hk, List.mem_append, List.mem_singleton] at hc'
 rcases hc' with h' | rfl
 · exact h c h'
 · exact hc
theorem cut_all {α : Type} (a : Nat) (l : List α) : cutL a l.length l = l.drop a := by rw [cutL]; exact List.take_of_length_le (by simp)
def HdV (r : Except Int Ck) (c : Ck) (e : Int) : Prop := (e = 0 ∧ r = .ok c) ∨ (e ≠ 0 ∧ r = .error e ∧ c = ([], []))
theorem gnumber_ret (p : Value) (l : List UInt8) (w : World) (hl : RdL u8 w p l) (h4 : 4 ≤ l.length) :
  Ret Tryd.prog 20 #[p] w fun v w' => v = i64 (Jn.dec4 l : Int) ∧ Ext w w' := by
 have hu0 := (l.getD 0 0).toNat_lt
 have hu1 := (l.getD 1 0).toNat_lt
 have hu2 := (l.getD 2 0).toNat_lt
 have hu3 := (l.getD 3 0).toNat_lt
 have hg0 := getD_u8 (l := l) (k := 0) (by omega)
 have hg1 := getD_u8 (l := l) (k := 1) (by omega)
 have hg2 := getD_u8 (l := l) (k := 2) (by omega)
 have hg3 := getD_u8 (l := l) (k := 3) (by omega)
 have hM := M.start w
 refine enter Tryd.func20 rfl (by kernel_rfl) Tryd.ntmps20 rfl ?_
 refine C.seq <| C.region <| E.asg rfl rfl <| E.nil <| X.next <| C.seq <| C.drawn (by kernel_rfl) (by kernel_rfl) <| Q.mv rfl rfl <| ?_
 refine Q.idx1 (k := 0) rfl rfl (hM.arg0 hl) rfl (by omega) Tryd.underlying22 (by kernel_rfl) rfl ?_
 refine Q.load rfl Tryd.underlying5 rfl ((hM.arg0 hl).cellA rfl (by omega)) rfl ?_
 rw [hg0]
 refine Q.conv rfl Tryd.underlying5 Tryd.underlying3 (IntWalk.i64_in _ (by omega)) rfl ?_
 refine Q.shl (c := _ * 16777216) rfl rfl (by omega) (IntWalk.i64_in ((((l.getD 0 0).toNat : Int)) * 16777216) (by omega)) rfl ?_
 refine Q.mv rfl rfl <| ?_
 refine Q.idx1 (k := 1) rfl rfl (hM.arg0 hl) rfl (by omega) Tryd.underlying22 (by kernel_rfl) rfl ?_
 refine Q.load rfl Tryd.underlying5 rfl ((hM.arg0 hl).cellA rfl (by omega)) rfl ?_
 rw [hg1]
 refine Q.conv rfl Tryd.underlying5 Tryd.underlying3 (IntWalk.i64_in _ (by omega)) rfl ?_
 refine Q.shl (c := _ * 65536) rfl rfl (by omega) (IntWalk.i64_in ((((l.getD 1 0).toNat : Int)) * 65536) (by omega)) rfl ?_
 refine Q.bin rfl rfl rfl rfl <| Q.mv rfl rfl <| ?_
 refine Q.idx1 (k := 2) rfl rfl (hM.arg0 hl) rfl (by omega) Tryd.underlying22 (by kernel_rfl) rfl ?_
 refine Q.load rfl Tryd.underlying5 rfl ((hM.arg0 hl).cellA rfl (by omega)) rfl ?_
 rw [hg2]
 refine Q.conv rfl Tryd.underlying5 Tryd.underlying3 (IntWalk.i64_in _ (by omega)) rfl ?_
 refine Q.shl (c := _ * 256) rfl rfl (by omega) (IntWalk.i64_in ((((l.getD 2 0).toNat : Int)) * 256) (by omega)) rfl ?_
 refine Q.bin rfl rfl rfl rfl <| Q.mv rfl rfl <| ?_
 refine Q.idx1 (k := 3) rfl rfl (hM.arg0 hl) rfl (by omega) Tryd.underlying22 (by kernel_rfl) rfl ?_
 refine Q.load rfl Tryd.underlying5 rfl ((hM.arg0 hl).cellA rfl (by omega)) rfl ?_
 rw [hg3]
 refine Q.conv rfl Tryd.underlying5 Tryd.underlying3 (IntWalk.i64_in _ (by omega)) rfl ?_
 refine Q.bin rfl rfl rfl rfl <| Q.asg rfl rfl <| Q.nil <| fun w0 hx0 => ?_
 have hM := hM.ext hx0
 refine X.next <| C.ret <| ret1 rfl rfl ?_
 exact ⟨congrArg _ (by rw [Jn.dec4_eq]; exact orN4 hu0 hu1 hu2 hu3), hM.toExt⟩
theorem gappend_ret (p : Value) (l : List UInt8) (n : Nat) (w : World) (hs : Sep w [Rg.sl u8 5 p l]) (hn : n < 4294967296) (hl : l.length ≤ 1000000000) :
  Ret Tryd.prog 17 #[p, i64 (n : Int)] w fun v w' => M w (fpU [Rg.sl u8 5 p l]) w' [Rg.sl u8 5 v (l ++ Jn.enc4 n)] := by
 have hM := M.startS hs
 refine enter Tryd.func17 rfl (by kernel_rfl) Tryd.ntmps17 rfl ?_
 refine C.seq <| C.region <| E.asg rfl rfl <| E.nil <| X.next <| C.seq <| C.region <| E.mv rfl rfl <| E.mv rfl rfl <| ?_
 refine E.shr rfl rfl (by decide) (c := _ / 16777216) rfl rfl ?_
 refine E.conv rfl Tryd.underlying3 Tryd.underlying5 (c := ((UInt8.ofNat (n / 16777216)).toNat : Int)) (wrap8 (n / 16777216)) rfl ?_
 refine E.mv rfl rfl <| ?_
 refine E.shr rfl rfl (by decide) (c := _ / 65536) rfl rfl ?_
 refine E.conv rfl Tryd.underlying3 Tryd.underlying5 (c := ((UInt8.ofNat (n / 65536)).toNat : Int)) (wrap8 (n / 65536)) rfl ?_
 refine E.mv rfl rfl <| ?_
 refine E.shr rfl rfl (by decide) (c := _ / 256) rfl rfl ?_
 refine E.conv rfl Tryd.underlying3 Tryd.underlying5 (c := ((UInt8.ofNat (n / 256)).toNat : Int)) (wrap8 (n / 256)) rfl ?_
 refine E.mv rfl rfl <| ?_
 refine E.conv rfl Tryd.underlying3 Tryd.underlying5 (c := ((UInt8.ofNat (n)).toNat : Int)) (wrap8 (n)) rfl ?_
 refine E.mkM (enc := u8) (e := 5) (Jn.enc4 n) hM rfl (fun _ => by kernel_rfl) rfl rfl rfl ?_
 intro v17 w0 hM
 try dsimp only [Za, Zb, Zc, Zd, repl] at hM
 refine E.appendM 0 hM rfl rfl rfl Tryd.underlying22 elem_Tuint8 (hM.sl 1 rfl) (fun _ => rfl) (by rw [Jn.enc4_len]; omega) (by rw [Jn.enc4_len]; omega) rfl ?_
 intro v18 w1 hM
 try dsimp only [Za, Zb, Zc, Zd, repl] at hM
 refine E.asg rfl rfl <| E.nil <| X.next <| C.ret <| ret1 rfl rfl ?_
 exact hM.pick [0] (by decide)
theorem lettered_ret (t : List UInt8) (w : World) (ht : t.length ≤ 1000000000) :
  Ret Tryd.prog 23 #[str t] w fun v w' => v = .bool (decide (let4 t)) ∧ Ext w w' := by
 have hsz := str_size t
 have hM := M.start w
 refine enter Tryd.func23 rfl (by kernel_rfl) Tryd.ntmps23 rfl ?_
 refine C.seq <| C.region <| E.asg rfl rfl <| E.nil <| X.next <| C.seq <| C.seq <| C.region <| E.mv rfl rfl <| E.lenS rfl Tryd.underlying9 rfl <| E.mv rfl rfl <| E.nil <| X.next <| C.block <| ?_

 refine C.loop1 [(0, _), (6, _)] rfl (fun (k : Nat) => [(7, i64 k)]) (fun (k : Nat) w' => M w (Nn) w' [] ∧ k ≤ t.length ∧ ∀ c ∈ t.take k, isL c = true) (fun (k : Nat) => t.length - k) 0 ?_ ?_ ?_
 · exact Sub.cons rfl <| Sub.nil _
 · exact ⟨hM, Nat.zero_le _, fun c hc => by simp at hc⟩
 rintro k w0 ⟨hM, hk, hall⟩
 refine C.seq <| C.region <| E.bin rfl rfl rfl rfl <| E.nil <| X.next <| C.seq <| ?_
 refine C.cond' rfl (fun hC0 => ?_) (fun hC0 => ?_)
 ·
  have hk' : k < t.length := by omega
  refine C.skip <| X.next <| C.seq <| C.block <| C.seq <| C.region <| E.mv rfl rfl <| E.asg rfl rfl <| E.nil <| X.next <| C.seq <| C.region <| E.mv rfl rfl <| E.mv rfl rfl <| ?_
  refine E.idxS k t[k] rfl rfl rfl (str_get hk') Tryd.underlying9 rfl ?_
  rw [show u8 t[k] = .int .u8 ((t[k].toNat : Nat) : Int) from rfl]
  refine E.binw rfl rfl rfl (congrArg _ (lw_bits _ (UInt8.toNat_lt t[k]))) rfl ?_
  refine E.asg rfl rfl <| E.nil <| X.next <| ?_

  refine C.chainE [(0, _), (6, _), (7, _)] rfl [(19, .bool (decide (lw t[k].toNat < 65 ∨ 90 < lw t[k].toNat)))] ?_ ?_
  ·
   refine C.region <| E.mv rfl rfl <| E.bin rfl rfl rfl rfl <| E.mv rfl rfl <| ?_
   refine E.split 16 rfl (fun g16 => ?_) (fun g16 => ?_)
   ·
    try simp only [Ya, Yb, Yc, Yd, Ye, Yf] at g16
    refine E.off rfl rfl rfl rfl <| E.off rfl rfl rfl rfl <| E.pick rfl rfl rfl <| E.nil <| X.join0 (Sub.cons (by exact leaf_t (by omega)) <| Sub.nil _) rfl rfl
   ·
    try simp only [Ya, Yb, Yc, Yd, Ye, Yf] at g16
    refine E.on rfl rfl (E.mv rfl rfl ?_)
    refine E.on rfl rfl (E.bin rfl rfl rfl rfl ?_)
    refine E.pick rfl rfl rfl <| E.nil <| X.join0 (Sub.cons (by exact leaf_d (by omega)) <| Sub.nil _) rfl rfl
  refine C.cond' rfl (fun hC1 => ?_) (fun hC1 => ?_)
  ·
   refine C.seq <| C.region <| E.asg rfl rfl <| E.nil <| X.next <| C.ret <| X.retB <| X.retT <| X.retT <| X.retB <| X.retT <| ret1 rfl rfl ?_
   exact ⟨congrArg _ (decide_eq_false fun h => by have := h.2 t[k] (List.getElem_mem hk'); rw [isL_f hC1] at this; cases this).symm, hM.toExt⟩
  ·
   refine C.skip <| X.outN <| X.next <| C.region <| ?_
   refine E.add rfl rfl (by omega) rfl ?_

   refine E.mv rfl rfl <| E.nil <| X.again1 (k + 1) (Sub.cons rfl <| Sub.nil _) rfl ⟨hM, by omega, all_takeN hk' hall (isL_t hC1)⟩ (by omega)
 ·
  obtain rfl : k = t.length := by omega
  rw [List.take_length] at hall
  refine C.exit <| X.exitT <| X.exitT <| X.outE <| X.next <| C.seq <| C.region <| E.mv rfl rfl <| E.lenS rfl Tryd.underlying9 rfl <| E.bin rfl rfl rfl rfl <| E.asg rfl rfl <| E.nil <| X.next <| C.ret <| ret1 rfl rfl ?_
  exact ⟨congrArg _ (decide_eq_decide.2 ⟨fun h => ⟨by omega, hall⟩, fun h => by have := h.1; omega⟩), hM.toExt⟩
theorem critical_ret (t : List UInt8) (w : World) (ht : 1 ≤ t.length) :
  Ret Tryd.prog 31 #[str t] w fun v w' => v = .bool (decide (65 ≤ (t[0]'(by omega)).toNat ∧ (t[0]'(by omega)).toNat ≤ 90)) ∧ Ext w w' := by
 have hM := M.start w
 refine enter Tryd.func31 rfl (by kernel_rfl) Tryd.ntmps31 rfl ?_
 refine C.seq <| C.region <| E.asg rfl rfl <| E.nil <| X.next <| ?_

 refine C.chainE [] rfl [(2, .bool (decide (65 ≤ (t[0]'(by omega)).toNat ∧ (t[0]'(by omega)).toNat ≤ 90)))] ?_ ?_
 ·
  refine C.region <| E.mv rfl rfl <| ?_
  refine E.idxS 0 (t[0]'(by omega)) rfl rfl rfl (str_get (by omega)) Tryd.underlying9 rfl ?_
  rw [show u8 (t[0]'(by omega)) = .int .u8 (((t[0]'(by omega)).toNat : Nat) : Int) from rfl]
  refine E.bin rfl rfl rfl rfl <| E.mv rfl rfl <| ?_
  refine E.split 6 rfl (fun g6 => ?_) (fun g6 => ?_)
  ·
   try simp only [Ya, Yb, Yc, Yd, Ye, Yf] at g6
   refine E.on rfl rfl (E.mv rfl rfl ?_)
   refine E.on rfl rfl (E.idxS 0 (t[0]'(by omega)) rfl rfl rfl (str_get (by omega)) Tryd.underlying9 rfl ?_)
   rw [show u8 (t[0]'(by omega)) = .int .u8 (((t[0]'(by omega)).toNat : Nat) : Int) from rfl]
   refine E.on rfl rfl (E.bin rfl rfl rfl rfl ?_)
   refine E.pick rfl rfl rfl <| E.asg rfl rfl <| E.nil <| X.join0 (Sub.cons (by exact leaf_d (by omega)) <| Sub.nil _) rfl rfl
  ·
   try simp only [Ya, Yb, Yc, Yd, Ye, Yf] at g6
   refine E.off rfl rfl rfl rfl <| E.off rfl rfl rfl rfl <| E.off rfl rfl rfl rfl <| E.pick rfl rfl rfl <| E.asg rfl rfl <| E.nil <| X.join0 (Sub.cons (by exact leaf_f (by omega)) <| Sub.nil _) rfl rfl
 refine C.ret <| ret1 rfl rfl ?_
 exact ⟨rfl, hM.toExt⟩
set_option maxHeartbeats 1000000 in
theorem chunk_ret (p : Value) (l : List UInt8) (w : World) (hl : RdL u8 w p l) (hb : l.length ≤ 1000000000) :
  Ret Tryd.prog 18 #[p] w fun v w' => ∃ (x : Hd) (c : Ck) (e : Int), v = .tuple #[.agg #[str c.1, slv x], i64 e] ∧ M w Nn w' [Rg.sl u8 5 (slv x) c.2] ∧ HdV (hd l) c e := by
 have hM := M.start w
 refine enter Tryd.func18 rfl (by kernel_rfl) Tryd.ntmps18 rfl ?_
 refine C.seq <| C.region <| ?_
 refine E.allocM (z := .agg #[.string .empty, .slice none 0 0]) (cs := [.string .empty, .slice none 0 0]) hM (by kernel_rfl) rfl rfl ?_
 intro b2 w0 hM
 try dsimp only [Za, Zb, Zc, Zd, repl] at hM
 refine E.asg rfl rfl <| E.nil <| X.next <| C.seq <| C.seq <| C.region <| E.mv rfl rfl <| ?_
 refine E.lenv rfl (Rd.shape (hM.arg0 hl)) Tryd.underlying22 rfl ?_
 refine E.bin rfl rfl rfl rfl <| E.nil <| X.next <| ?_
 refine C.cond' rfl (fun hC0 => ?_) (fun hC0 => ?_)
 ·
  refine C.seq <| C.region <| ?_
  refine E.buildC (cs := [_, _]) [.string .empty, .slice none 0 0] [] rfl rfl (by kernel_rfl) rfl ?_
  first
   | refine E.storeAM 0 hM rfl rfl rfl (by kernel_rfl) rfl ?_ ?_
   | refine E.storeAM 1 hM rfl rfl rfl (by kernel_rfl) rfl ?_ ?_
   | refine E.storeAM 2 hM rfl rfl rfl (by kernel_rfl) rfl ?_ ?_
   | refine E.storeAM 3 hM rfl rfl rfl (by kernel_rfl) rfl ?_ ?_
  · exact ones (by rfl) <| ones (by rfl) <| ones_nil
  intro w1 hM
  try dsimp only [Za, Zb, Zc, Zd, repl] at hM
  refine E.asg rfl rfl <| E.nil <| X.next <| C.ret <| X.retT <| retAT rfl rfl rfl Tryd.underlying37 rfl (by exact hM.blk 0 rfl) (by kernel_rfl) ?_
  exact ⟨(none, 0, 0), ([], []), 10, rfl, (hM.pick [] (by decide)).nil u8 5, .inr ⟨by decide, by rw [hd, if_pos (by omega)], rfl⟩⟩
 ·
  have hd4 := Jn.dec4_lt l
  have r4 := (hM.arg0 hl).partV (a := 4) (b := 8) (by omega) (by omega)
  refine C.skip <| X.next <| C.seq <| C.drawn (by kernel_rfl) (by kernel_rfl) <| Q.mv rfl rfl <| ?_
  refine Q.call (v := i64 (Jn.dec4 l : Int)) rfl rfl (fun w' hw' => gnumber_ret _ _ w' ((hM.arg0 hl).ext hw') (by omega)) ?_
  refine Q.mv rfl rfl <| ?_
  refine Q.slcP 4 8 rfl (.inl rfl) (.inl rfl) (hM.arg0 hl) Tryd.underlying22 (by kernel_rfl) (by omega) (by omega) rfl ?_
  refine Q.bstr rfl r4 Tryd.underlying22 Tryd.underlying5 Tryd.underlying9 rfl ?_
  rw [show cutL 4 8 l = ((l.drop 4).take 4) from rfl]
  refine Q.asg rfl rfl <| Q.asg rfl rfl <| Q.nil <| fun w2 hx2 => ?_
  have hM := hM.ext hx2
  refine X.next <| C.seq <| C.seq <| C.region <| E.mv rfl rfl <| ?_
  refine E.call rfl rfl (lettered_ret ((l.drop 4).take 4) _ (by rw [List.length_take]; omega)) ?_
  rintro _ w3 ⟨rfl, x3⟩
  have hM := hM.ext x3
  try dsimp only [Za, Zb, Zc, Zd, repl] at hM
  refine E.not rfl rfl <| E.nil <| X.next <| ?_
  refine C.cond rfl (fun hC1 => ?_) (fun hC1 => ?_)
  ·
   have hk4 : ¬ let4 ((l.drop 4).take 4) := by simpa using hC1
   refine C.seq <| C.region <| ?_
   refine E.buildC (cs := [_, _]) [.string .empty, .slice none 0 0] [] rfl rfl (by kernel_rfl) rfl ?_
   first
    | refine E.storeAM 0 hM rfl rfl rfl (by kernel_rfl) rfl ?_ ?_
    | refine E.storeAM 1 hM rfl rfl rfl (by kernel_rfl) rfl ?_ ?_
    | refine E.storeAM 2 hM rfl rfl rfl (by kernel_rfl) rfl ?_ ?_
    | refine E.storeAM 3 hM rfl rfl rfl (by kernel_rfl) rfl ?_ ?_
   · exact ones (by rfl) <| ones (by rfl) <| ones_nil
   intro w4 hM
   try dsimp only [Za, Zb, Zc, Zd, repl] at hM
   refine E.asg rfl rfl <| E.nil <| X.next <| C.ret <| X.retT <| retAT rfl rfl rfl Tryd.underlying37 rfl (by exact hM.blk 0 rfl) (by kernel_rfl) ?_
   exact ⟨(none, 0, 0), ([], []), 9, rfl, (hM.pick [] (by decide)).nil u8 5, .inr ⟨by decide, by rw [hd, if_neg (by omega), if_pos hk4], rfl⟩⟩
  ·
   have hk4 : let4 ((l.drop 4).take 4) := by simpa using hC1
   refine C.skip <| X.next <| C.seq <| C.seq <| C.region <| E.mv rfl rfl <| E.mv rfl rfl <| ?_
   refine E.lenv rfl (Rd.shape (hM.arg0 hl)) Tryd.underlying22 rfl ?_
   refine E.sub' rfl rfl (by omega) rfl ?_
   refine E.bin rfl rfl rfl rfl <| E.nil <| X.next <| ?_
   refine C.cond' rfl (fun hC2 => ?_) (fun hC2 => ?_)
   ·
    refine C.seq <| C.region <| ?_
    refine E.buildC (cs := [_, _]) [.string .empty, .slice none 0 0] [] rfl rfl (by kernel_rfl) rfl ?_
    first
     | refine E.storeAM 0 hM rfl rfl rfl (by kernel_rfl) rfl ?_ ?_
     | refine E.storeAM 1 hM rfl rfl rfl (by kernel_rfl) rfl ?_ ?_
     | refine E.storeAM 2 hM rfl rfl rfl (by kernel_rfl) rfl ?_ ?_
     | refine E.storeAM 3 hM rfl rfl rfl (by kernel_rfl) rfl ?_ ?_
    · exact ones (by rfl) <| ones (by rfl) <| ones_nil
    intro w5 hM
    try dsimp only [Za, Zb, Zc, Zd, repl] at hM
    refine E.asg rfl rfl <| E.nil <| X.next <| C.ret <| X.retT <| retAT rfl rfl rfl Tryd.underlying37 rfl (by exact hM.blk 0 rfl) (by kernel_rfl) ?_
    exact ⟨(none, 0, 0), ([], []), 10, rfl, (hM.pick [] (by decide)).nil u8 5, .inr ⟨by decide, by rw [hd, if_neg (by omega), if_neg (Decidable.not_not.2 hk4), if_pos (by omega)], rfl⟩⟩
   ·
    have r28 := (hM.arg0 hl).partV (a := 4) (b := 8 + Jn.dec4 l) (by omega) (by omega)
    have e28 : cutL 4 (8 + Jn.dec4 l) l = (l.drop 4).take (Jn.dec4 l + 4) := by rw [cutL, show 8 + Jn.dec4 l - 4 = Jn.dec4 l + 4 by omega]
    rw [e28] at r28
    have r34 := (hM.arg0 hl).partV (a := 8 + Jn.dec4 l) (b := l.length) (by omega) (by omega)
    rw [cut_all] at r34
    have r43 := (hM.arg0 hl).partV (a := 8) (b := 8 + Jn.dec4 l) (by omega) (by omega)
    rw [cutL, Nat.add_sub_cancel_left] at r43
    refine C.skip <| X.next <| C.seq <| C.seq <| C.drawn (by kernel_rfl) (by kernel_rfl) <| Q.mv rfl rfl <| Q.mv rfl rfl <| ?_
    refine Q.addN (a := 8) rfl rfl (by omega) rfl ?_
    refine Q.slcP 4 (8 + Jn.dec4 l) rfl (.inl rfl) (.inl rfl) (hM.arg0 hl) Tryd.underlying22 (by kernel_rfl) (by omega) (by omega) rfl ?_
    refine Q.call (v := u32 (Crc.crc ((l.drop 4).take (Jn.dec4 l + 4)))) rfl rfl (fun w' hw' => CRC32_ret _ _ w' (r28.ext hw')) ?_
    have hcr := Jn.crcN_lt ((l.drop 4).take (Jn.dec4 l + 4))
    have hdr := Jn.dec4_lt (l.drop (8 + Jn.dec4 l))
    rw [crc_u32]
    refine Q.conv rfl Tryd.underlying52 Tryd.underlying3 (IntWalk.i64_in _ (by omega)) rfl ?_
    refine Q.mv rfl rfl <| Q.mv rfl rfl <| ?_
    refine Q.addN (a := 8) rfl rfl (by omega) rfl ?_
    refine Q.slcP (k' := .i64) (8 + Jn.dec4 l) l.length rfl (.inl rfl) (.inr ⟨rfl, rfl⟩) (hM.arg0 hl) Tryd.underlying22 (by kernel_rfl) (by omega) (by omega) rfl ?_
    refine Q.call (v := i64 (Jn.dec4 (l.drop (8 + Jn.dec4 l)) : Int)) rfl rfl (fun w' hw' => gnumber_ret _ _ w' (r34.ext hw') (by rw [List.length_drop]; omega)) ?_
    refine Q.bin rfl rfl rfl rfl <| Q.nil <| fun w6 hx6 => ?_
    have hM := hM.ext hx6
    refine X.next <| ?_
    refine C.cond' rfl (fun hC3 => ?_) (fun hC3 => ?_)
    ·
     refine C.seq <| C.region <| ?_
     refine E.buildC (cs := [_, _]) [.string .empty, .slice none 0 0] [] rfl rfl (by kernel_rfl) rfl ?_
     first
      | refine E.storeAM 0 hM rfl rfl rfl (by kernel_rfl) rfl ?_ ?_
      | refine E.storeAM 1 hM rfl rfl rfl (by kernel_rfl) rfl ?_ ?_
      | refine E.storeAM 2 hM rfl rfl rfl (by kernel_rfl) rfl ?_ ?_
      | refine E.storeAM 3 hM rfl rfl rfl (by kernel_rfl) rfl ?_ ?_
     · exact ones (by rfl) <| ones (by rfl) <| ones_nil
     intro w7 hM
     try dsimp only [Za, Zb, Zc, Zd, repl] at hM
     refine E.asg rfl rfl <| E.nil <| X.next <| C.ret <| X.retT <| retAT rfl rfl rfl Tryd.underlying37 rfl (by exact hM.blk 0 rfl) (by kernel_rfl) ?_
     exact ⟨(none, 0, 0), ([], []), 26, rfl, (hM.pick [] (by decide)).nil u8 5, .inr ⟨by decide, by rw [hd, if_neg (by omega), if_neg (Decidable.not_not.2 hk4), if_neg (by omega), if_pos (by omega)], rfl⟩⟩
    ·
     refine C.skip <| X.next <| C.seq <| C.region <| E.mv rfl rfl <| ?_
     refine E.mkM (enc := u8) (e := 5) [] hM rfl (fun _ => by kernel_rfl) rfl rfl rfl ?_
     intro v39 w8 hM
     try dsimp only [Za, Zb, Zc, Zd, repl] at hM
     refine E.mv rfl rfl <| E.mv rfl rfl <| ?_
     refine E.addN (a := 8) rfl rfl (by omega) rfl ?_
     refine E.slcP 8 (8 + Jn.dec4 l) rfl (.inl rfl) (.inl rfl) (hM.arg0 hl) Tryd.underlying22 (by kernel_rfl) (by omega) (by omega) rfl ?_
     refine E.appendM 1 hM rfl rfl rfl Tryd.underlying22 elem_Tuint8 (by have := (hM.arg0 hl).partV (a := 8) (b := 8 + Jn.dec4 l) (by omega) (by omega); rw [cutL, Nat.add_sub_cancel_left] at this; exact this) (fun _ => rfl) (by rw [List.length_take, List.length_drop, List.length_nil]; omega) (by rw [List.length_take, List.length_drop, List.length_nil]; omega) rfl ?_
     intro v44 w9 hM
     try dsimp only [Za, Zb, Zc, Zd, repl] at hM
     obtain ⟨x44, rfl⟩ := own_head (hM.own 1 rfl)
     refine E.buildC (cs := [_, _]) [.string .empty, .slice none 0 0] [0, 1] rfl rfl (by kernel_rfl) rfl ?_
     refine E.storeAM 0 hM rfl rfl rfl (by kernel_rfl) rfl (ones rfl <| ones rfl <| ones_nil) ?_
     intro w10 hM
     try dsimp only [Za, Zb, Zc, Zd, repl] at hM
     refine E.asg rfl rfl <| E.nil <| X.next <| C.ret <| retAT rfl rfl rfl Tryd.underlying37 rfl (by exact hM.blk 0 rfl) (by kernel_rfl) ?_
     exact ⟨x44, (((l.drop 4).take 4), (l.drop 8).take (Jn.dec4 l)), 0, rfl, hM.pick [1] (by decide), .inl ⟨rfl, by rw [hd, if_neg (by omega), if_neg (Decidable.not_not.2 hk4), if_neg (by omega), if_neg (by omega)]⟩⟩
end Go.Proofs.YtplbgehpohdmdaaDoor
namespace Go.Proofs.YtplbgehpohdmdaaDoor
open Go.RowKit Sym
open Pg
theorem cut_tk {α : Type} (k : Nat) (l : List α) : cutL 0 k l = l.take k := by unfold cutL; rw [List.drop_zero, Nat.sub_zero]
def cke (x : List UInt8 × Hd) : List Value := [str x.1, slv x.2]
def zc (l : List Ck) (hs : List Hd) : List (List UInt8 × Hd) := List.zipWith (fun c h => (c.1, h)) l hs
theorem zc_len {l : List Ck} {hs : List Hd} (h : hs.length = l.length) : (zc l hs).length = l.length := by unfold zc; rw [List.length_zipWith, h, Nat.min_self]
theorem zc_push {l : List Ck} {hs : List Hd} (h : hs.length = l.length) (c : Ck) (x : Hd) : zc l hs ++ [(c.1, x)] = zc (l ++ [c]) (hs ++ [x]) := by unfold zc; rw [List.zipWith_append h.symm]; rfl
theorem zc_get {l : List Ck} {hs : List Hd} (h : hs.length = l.length) {i : Nat} (hi : i < l.length) : (zc l hs)[i]'(by rw [zc_len h]; exact hi) = ((l[i]).1, hs[i]'(by omega)) := by unfold zc; rw [List.getElem_zipWith]
abbrev ChR (v : Value) (hs : List Hd) (l : List Ck) : List Rg := [Rg.slF cke 2 37 v (zc l hs), Rg.bag hs (l.map (·.2))]
def ChsV (r : Except Int (List Ck)) (l : List Ck) (e : Int) : Prop := (e = 0 ∧ r = .ok l) ∨ (e ≠ 0 ∧ r = .error e ∧ l = [])
namespace Pg
def pre (l : List Ck) (r : Except Int (List Ck)) : Except Int (List Ck) := match r with
 | .error e => .error e
 | .ok q => .ok (l ++ q)
theorem pre_nil (r : Except Int (List Ck)) : pre [] r = r := by cases r <;> rfl
theorem chs_e {n : Nat} {l : List UInt8} {e : Int} (h : hd l = .error e) : chs (n + 1) l = .error e := by rw [chs, h]
theorem chs_go {n : Nat} {l : List UInt8} {c : Ck} {d : List Ck} (h : hd l = .ok c) (hc : c.1 ≠ tE) : pre d (chs (n + 1) l) = pre (d ++ [c]) (chs n (l.drop (12 + c.2.length))) := by
 rw [chs, h]
 simp only
 rw [if_neg hc]
 cases chs n (l.drop (12 + c.2.length)) with
 | error e => rfl
 | ok q => simp [pre]
theorem chs_end1 {n : Nat} {l : List UInt8} {c : Ck} (h : hd l = .ok c) (hc : c.1 = tE) (h2 : c.2 ≠ []) : chs (n + 1) l = .error 9 := by
 rw [chs, h]
 simp only
 rw [if_pos hc, if_pos h2]
theorem chs_end2 {n : Nat} {l : List UInt8} {c : Ck} (h : hd l = .ok c) (hc : c.1 = tE) (h2 : ¬ c.2 ≠ []) (h3 : l.drop (12 + c.2.length) ≠ []) : chs (n + 1) l = .error 11 := by
 rw [chs, h]
 simp only
 rw [if_pos hc, if_neg h2, if_pos h3]
theorem chs_end3 {n : Nat} {l : List UInt8} {c : Ck} (h : hd l = .ok c) (hc : c.1 = tE) (h2 : ¬ c.2 ≠ []) (h3 : ¬ l.drop (12 + c.2.length) ≠ []) : chs (n + 1) l = .ok [c] := by
 rw [chs, h]
 simp only
 rw [if_pos hc, if_neg h2, if_neg h3]
theorem ne_len {α : Type} {l : List α} (h : 0 < l.length) : l ≠ [] := fun e => by rw [e] at h; simp at h
theorem eq_len {α : Type} {l : List α} (h : ¬ 0 < l.length) : ¬ l ≠ [] := fun k => k (List.length_eq_zero_iff.1 (by omega))
end Pg
set_option maxHeartbeats 2000000 in
theorem Chunks_ret (p : Value) (l : List UInt8) (w : World) (hl : RdL u8 w p l) :
  Ret Tryd.prog 8 #[p] w fun v w' => ∃ (vo : Value) (hs : List Hd) (cs : List Ck) (e : Int), v = .tuple #[vo, i64 e] ∧ M w Nn w' (ChR vo hs cs) ∧ ChsV (rdf l) cs e := by
 have hM := M.start w
 refine enter Tryd.func8 rfl (by kernel_rfl) Tryd.ntmps8 rfl ?_
 refine C.seq <| C.region <| E.asg rfl rfl <| E.asg rfl rfl <| E.nil <| X.next <| C.seq <| C.seq <| C.region <| E.mv rfl rfl <| ?_
 refine E.lenv rfl (Rd.shape (hM.arg0 hl)) Tryd.underlying22 rfl ?_
 refine E.bin rfl rfl rfl rfl <| E.nil <| X.next <| ?_
 refine C.cond' rfl (fun hC0 => ?_) (fun hC0 => ?_)
 ·
  refine C.seq <| C.region <| E.asg rfl rfl <| E.asg rfl rfl <| E.nil <| X.next <| C.ret <| X.retT <| ret2 rfl rfl rfl ?_
  exact ⟨nilS, [], [], 4, rfl, ((hM.pick [] (by decide)).nilF cke 2 37).bagNil, .inr ⟨by decide, by rw [rdf, if_pos (by omega)], rfl⟩⟩
 ·
  refine C.skip <| X.next <| C.seq <| ?_

  refine C.chainE [(0, _)] rfl [(18, .bool (decide (l.take 8 ≠ sig)))] ?_ ?_
  ·
   refine C.region <| E.mv rfl rfl <| ?_
   refine E.lenv rfl (Rd.shape (hM.arg0 hl)) Tryd.underlying22 rfl ?_
   refine E.bin rfl rfl rfl rfl <| E.mv rfl rfl <| ?_
   refine E.split 13 rfl (fun g13 => ?_) (fun g13 => ?_)
   ·
    try simp only [Ya, Yb, Yc, Yd, Ye, Yf] at g13
    refine E.off rfl rfl rfl rfl <| E.off rfl rfl rfl rfl <| E.off rfl rfl rfl rfl <| E.off rfl rfl rfl rfl <| E.pick rfl rfl rfl <| E.nil <| X.join0 (Sub.cons (look_eq rfl (congrArg Value.bool (by exact (decide_eq_true (p := l.take 8 ≠ sig) (fun h => by have := congrArg List.length h; rw [List.length_take, show sig.length = 8 from rfl] at this; omega)).symm))) <| Sub.nil _) rfl rfl
   ·
    try simp only [Ya, Yb, Yc, Yd, Ye, Yf] at g13
    refine E.on rfl rfl (E.mv rfl rfl ?_)
    refine E.on rfl rfl (E.slcP (k := .i64) 0 8 rfl (.inr ⟨rfl, rfl⟩) (.inl rfl) (hM.arg0 hl) Tryd.underlying22 (by kernel_rfl) (by omega) (by omega) rfl ?_)
    refine E.on rfl rfl (E.bstr rfl (by have := (hM.arg0 hl).partV (a := 0) (b := 8) (by omega) (by omega); rw [cut_tk] at this; exact this) Tryd.underlying22 Tryd.underlying5 Tryd.underlying9 rfl ?_)
    refine E.on rfl rfl (E.nestr (l := l.take 8) (m := sig) rfl rfl rfl ?_)
    refine E.pick rfl rfl rfl <| E.nil <| X.join0 (Sub.cons (look_eq rfl (congrArg Value.bool (by rfl))) <| Sub.nil _) rfl rfl
  refine C.cond' rfl (fun hC1 => ?_) (fun hC1 => ?_)
  ·
   refine C.seq <| C.region <| E.asg rfl rfl <| E.asg rfl rfl <| E.nil <| X.next <| C.ret <| X.retT <| ret2 rfl rfl rfl ?_
   exact ⟨nilS, [], [], 25, rfl, ((hM.pick [] (by decide)).nilF cke 2 37).bagNil, .inr ⟨by decide, by rw [rdf, if_neg (by omega), if_pos hC1], rfl⟩⟩
  ·
   have h8 : 8 ≤ l.length := by
    have := congrArg List.length (Decidable.not_not.1 hC1)
    rw [List.length_take, show sig.length = 8 from rfl] at this; omega
   have hrd : rdf l = chs 1024 (l.drop 8) := by rw [rdf, if_neg (by omega), if_neg hC1]
   have r8 := hl.partV (a := 8) (b := l.length) (by omega) (by omega)
   rw [cut_all] at r8
   refine C.skip <| X.next <| C.seq <| C.region <| E.mv rfl rfl <| ?_
   refine E.slcP (k' := .i64) 8 l.length rfl (.inl rfl) (.inr ⟨rfl, rfl⟩) (hM.arg0 hl) Tryd.underlying22 (by kernel_rfl) (by omega) (by omega) rfl ?_
   refine E.asg rfl rfl <| E.nil <| X.next <| C.seq <| C.region <| E.asg rfl rfl <| E.nil <| X.next <| C.block <| ?_
   have hM := (hM.nilF cke 2 37).bagNil
   try dsimp only [List.nil_append, List.cons_append] at hM

   refine C.loop5 [] rfl (fun (v4 : Value) (hs : (List Hd)) (done : (List Ck)) (vp : Value) (rest : (List UInt8)) => [(0, vp), (4, v4)]) (fun (v4 : Value) (hs : (List Hd)) (done : (List Ck)) (vp : Value) (rest : (List UInt8)) w' => M w (Nn) w' (ChR v4 hs done) ∧ RdL u8 w vp rest ∧ rest.length ≤ l.length ∧ done.length ≤ 1024 ∧ rdf l = pre done (chs (1024 - done.length) rest)) (fun (v4 : Value) (hs : (List Hd)) (done : (List Ck)) (vp : Value) (rest : (List UInt8)) => 1024 - done.length) nilS [] [] (partV p 8 l.length) (l.drop 8) ?_ ?_ ?_
   · exact Sub.cons rfl <| Sub.cons rfl <| Sub.nil _
   · exact ⟨hM, r8, by rw [List.length_drop]; omega, by simp, by rw [pre_nil]; exact hrd⟩
   rintro v4 hs done vp rest w0 ⟨hM, hR, hrl, hdl, hI⟩
   have hbl : hs.length = done.length := by have := (hM.bag 1 rfl).1; rw [List.length_map] at this; exact this
   refine C.block <| C.seq <| C.seq <| C.region <| E.mv rfl rfl <| ?_
   refine E.lenv rfl (RdF.shape (hM.slF 0 rfl)) Tryd.underlying31 rfl ?_
   rw [zc_len hbl]
   refine E.bin rfl rfl rfl rfl <| E.nil <| X.next <| ?_
   refine C.cond' rfl (fun hC2 => ?_) (fun hC2 => ?_)
   ·
    refine C.seq <| C.region <| E.asg rfl rfl <| E.asg rfl rfl <| E.nil <| X.next <| C.ret <| X.retT <| X.retB <| X.retT <| X.retB <| ret2 rfl rfl rfl ?_
    exact ⟨nilS, [], [], 4, rfl, ((hM.pick [] (by decide)).nilF cke 2 37).bagNil, .inr ⟨by decide, by rw [hI, show 1024 - done.length = 0 by omega]; rfl, rfl⟩⟩
   ·
    obtain ⟨n, hn⟩ : ∃ n, 1024 - done.length = n + 1 := ⟨1024 - done.length - 1, by omega⟩
    rw [hn] at hI
    refine C.skip <| X.next <| C.seq <| C.region <| E.mv rfl rfl <| ?_
    refine E.call rfl rfl (chunk_ret vp rest _ (hM.arg0 hR) (by omega)) ?_
    rintro _ w1 ⟨x, c, e, rfl, m, hv⟩
    have hM := hM.call m
    have hsx := Rd.shape (hM.sl 2 rfl)
    try dsimp only [Za, Zb, Zc, Zd, repl] at hM
    refine E.mv rfl rfl <| E.ext rfl rfl rfl <| E.ext rfl rfl rfl <| ?_
    refine E.allocM (z := .agg #[.string .empty, .slice none 0 0]) (cs := [.string .empty, .slice none 0 0]) hM (by kernel_rfl) rfl rfl ?_
    intro b5 w2 hM
    try dsimp only [Za, Zb, Zc, Zd, repl] at hM
    refine E.storeAM 3 hM rfl rfl rfl (by kernel_rfl) rfl (ones rfl <| ones rfl <| ones_nil) ?_
    intro w3 hM
    try dsimp only [Za, Zb, Zc, Zd, repl] at hM
    refine E.asg rfl rfl <| E.nil <| X.next <| C.seq <| C.seq <| C.region <| E.mv rfl rfl <| E.bin rfl rfl rfl rfl <| E.nil <| X.next <| ?_
    refine C.cond' rfl (fun hC3 => ?_) (fun hC3 => ?_)
    ·
     obtain ⟨h1, h2, _⟩ := hv.resolve_left (fun h => hC3 h.1)
     refine C.seq <| C.region <| E.mv rfl rfl <| E.asg rfl rfl <| E.asg rfl rfl <| E.nil <| X.next <| C.ret <| X.retT <| X.retB <| X.retT <| X.retB <| ret2 rfl rfl rfl ?_
     exact ⟨nilS, [], [], e, rfl, ((hM.pick [] (by decide)).nilF cke 2 37).bagNil, .inr ⟨by omega, by rw [hI, chs_e h2]; rfl, rfl⟩⟩
    ·
     obtain ⟨_, hh⟩ := hv.resolve_right (fun h => hC3 h.1)
     obtain ⟨hc1, hc2, hc3, hc4⟩ := hd_len hh
     have hzl := zc_len hbl
     refine C.skip <| X.next <| C.seq <| C.region <| E.mv rfl rfl <| ?_
     refine E.loadA (cs := [str c.1, slv x]) rfl Tryd.underlying37 rfl (by kernel_rfl) (hM.bat 3 rfl) rfl ?_
     refine E.pushFM 0 (c.1, x) hM rfl rfl rfl Tryd.underlying31 elem_Tapi_Chunk rfl (by decide) (ones rfl <| ones rfl <| ones_nil) (by omega) (by omega) (by simp) rfl rfl ?_
     intro v35 u35 w4 hM
     try dsimp only [Za, Zb, Zc, Zd, repl] at hM
     rw [zc_push hbl] at hM
     have hM := hM.bagPush 1 2 (by decide) rfl rfl
     try dsimp only [List.set_cons_zero, List.set_cons_succ] at hM
     rw [show done.map (·.2) ++ [c.2] = (done ++ [c]).map (·.2) from by simp] at hM
     refine E.asg rfl rfl <| E.nil <| X.next <| C.seq <| C.region <| E.mv rfl rfl <| ?_
     refine E.fld (o := 1) (sz := 0) rfl Tryd.underlying37 rfl rfl (by kernel_rfl) rfl ?_
     refine E.load rfl Tryd.underlying22 rfl (hM.bcell 3 rfl rfl) rfl ?_
     refine E.lenv rfl hsx Tryd.underlying22 rfl ?_
     refine E.addN (a := 12) (b := c.2.length) rfl rfl (by omega) rfl ?_
     refine E.slcP (k' := .i64) (12 + c.2.length) rest.length rfl (.inl rfl) (.inr ⟨rfl, rfl⟩) (hM.arg0 hR) Tryd.underlying22 (by kernel_rfl) (by omega) (by omega) rfl ?_
     have hR2 := hR.partV (a := 12 + c.2.length) (b := rest.length) (by omega) (by omega)
     rw [cut_all] at hR2
     have hdl2 : (rest.drop (12 + c.2.length)).length = rest.length - (12 + c.2.length) := List.length_drop
     refine E.asg rfl rfl <| E.nil <| X.next <| C.seq <| C.seq <| C.region <| ?_
     refine E.fld (o := 0) (sz := 0) rfl Tryd.underlying37 rfl rfl (by kernel_rfl) rfl ?_
     refine E.load rfl Tryd.underlying9 rfl (hM.bcell 3 rfl rfl) rfl ?_
     refine E.nestr (l := c.1) (m := tE) rfl rfl rfl ?_
     refine E.nil <| X.next <| ?_
     refine C.cond' rfl (fun hC4 => ?_) (fun hC4 => ?_)
     ·

      refine C.exit <| X.exitT <| X.outE <| X.again5 _ (hs ++ [x]) (done ++ [c]) _ (rest.drop (12 + c.2.length)) (Sub.cons rfl <| Sub.cons rfl <| Sub.nil _) rfl ⟨hM.pick [0, 1] (by decide), hR2, by omega, by rw [List.length_append, List.length_singleton]; omega, by rw [hI, chs_go hh hC4, List.length_append, List.length_singleton, show 1024 - (done.length + 1) = n by omega]⟩ (by rw [List.length_append, List.length_singleton]; omega)
     ·
      have hce := Decidable.not_not.1 hC4
      refine C.skip <| X.next <| C.seq <| C.seq <| C.region <| ?_
      refine E.fld (o := 1) (sz := 0) rfl Tryd.underlying37 rfl rfl (by kernel_rfl) rfl ?_
      refine E.load rfl Tryd.underlying22 rfl (hM.bcell 3 rfl rfl) rfl ?_
      refine E.lenv rfl hsx Tryd.underlying22 rfl ?_
      refine E.bin rfl rfl rfl rfl <| E.nil <| X.next <| ?_
      refine C.cond' rfl (fun hC5 => ?_) (fun hC5 => ?_)
      ·
       refine C.seq <| C.region <| E.asg rfl rfl <| E.asg rfl rfl <| E.nil <| X.next <| C.ret <| X.retT <| X.retB <| X.retT <| X.retB <| ret2 rfl rfl rfl ?_
       exact ⟨nilS, [], [], 9, rfl, ((hM.pick [] (by decide)).nilF cke 2 37).bagNil, .inr ⟨by decide, by rw [hI, chs_end1 hh hce (ne_len (by omega))]; rfl, rfl⟩⟩
      ·
       refine C.skip <| X.next <| C.seq <| C.seq <| C.region <| E.mv rfl rfl <| ?_
       refine E.lenv rfl (Rd.shape (hM.arg0 hR2)) Tryd.underlying22 rfl ?_
       refine E.bin rfl rfl rfl rfl <| E.nil <| X.next <| ?_
       refine C.cond' rfl (fun hC6 => ?_) (fun hC6 => ?_)
       ·
        refine C.seq <| C.region <| E.asg rfl rfl <| E.asg rfl rfl <| E.nil <| X.next <| C.ret <| X.retT <| X.retB <| X.retT <| X.retB <| ret2 rfl rfl rfl ?_
        exact ⟨nilS, [], [], 11, rfl, ((hM.pick [] (by decide)).nilF cke 2 37).bagNil, .inr ⟨by decide, by rw [hI, chs_end2 hh hce (eq_len (by omega)) (ne_len (by omega))]; rfl, rfl⟩⟩
       ·
        refine C.skip <| X.next <| C.seq <| C.region <| E.mv rfl rfl <| E.asg rfl rfl <| E.asg rfl rfl <| E.nil <| X.next <| C.ret <| X.retB <| X.retT <| X.retB <| ret2 rfl rfl rfl ?_
        exact ⟨_, hs ++ [x], done ++ [c], 0, rfl, hM.pick [0, 1] (by decide), .inl ⟨rfl, by rw [hI, chs_end3 hh hce (eq_len (by omega)) (eq_len (by omega))]; rfl⟩⟩
end Go.Proofs.YtplbgehpohdmdaaDoor
