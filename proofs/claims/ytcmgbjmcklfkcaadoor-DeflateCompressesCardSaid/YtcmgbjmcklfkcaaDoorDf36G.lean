/- barscanref34: Compress; chapter 34: DeflateCompresses. -/
import Derived.Test.YtcmgbjmcklfkcaaDoorDf14G
import Derived.Test.YtcmgbjmcklfkcaaDoorDf35G
namespace Go.Proofs.YtcmgbjmcklfkcaaDoor
set_option linter.unusedSimpArgs false
set_option linter.unusedVariables false
open Go.RowKit Sym

namespace Df
theorem low_16 (c : Nat) : low c 16 = low c 8 ++ low (c / 256) 8 := by
  have h : ∀ j, bit c (8 + j) = bit (c / 256) j := fun j => by
    unfold bit; rw [Nat.pow_add, ← Nat.div_div_eq_div_mul]
  have e : low c 16 = low c 8 ++ [bit c (8 + 0), bit c (8 + 1), bit c (8 + 2), bit c (8 + 3), bit c (8 + 4), bit c (8 + 5), bit c (8 + 6), bit c (8 + 7)] := rfl
  rw [e]; simp only [h]; rfl
theorem ofNat_mod {a b : Nat} (h : a % 256 = b % 256) : UInt8.ofNat a = UInt8.ofNat b := by
  apply UInt8.toNat_inj.1
  simp; exact h
theorem pk_byte {B : List Bool} {c : Nat} (h : B.length % 8 = 0) : pk (B ++ low c 8) = pk B ++ [UInt8.ofNat c] := by
  unfold pk
  rw [List.length_append, low_len, show (B.length + 8 + 7) / 8 = (B.length + 7) / 8 + 1 by omega, tab_succ]
  have hq : (B.length + 7) / 8 = B.length / 8 := by omega
  rw [hq]
  congr 1
  · refine tab_congr fun k hk => ?_
    congr 1
    unfold pb
    refine bv_congr fun i hi => ?_
    rw [List.getD_eq_getElem?_getD, List.getElem?_append_left (by omega), ← List.getD_eq_getElem?_getD]
  · congr 1
    refine ofNat_mod ?_
    have : pb (B ++ low c 8) (B.length / 8) = bv (bit c) 8 := by
      unfold pb
      refine bv_congr fun i hi => ?_
      rw [List.getD_eq_getElem?_getD, List.getElem?_append_right (by omega), show 8 * (B.length / 8) + i - B.length = i by omega]
      unfold low
      rw [tab_get hi]; rfl
    rw [this, bv_bit]; omega
theorem pk_sto {n : Nat} (h : n ≤ 65535) : pk (low 1 8 ++ low n 16 ++ low (65535 - n) 16) = [1, UInt8.ofNat n, UInt8.ofNat (n / 256), UInt8.ofNat (255 - n % 256), UInt8.ofNat (255 - n / 256 % 256)] := by
  have e1 : pk (low 1 8) = [1] := by decide +kernel
  rw [low_16, low_16, ← List.append_assoc, ← List.append_assoc, pk_byte (by simp only [List.length_append, low_len]), pk_byte (by simp only [List.length_append, low_len]), pk_byte (by simp only [List.length_append, low_len]), pk_byte (by simp only [low_len]), e1, ofNat_mod (show (65535 - n) % 256 = (255 - n % 256) % 256 by omega), ofNat_mod (show ((65535 - n) / 256) % 256 = (255 - n / 256 % 256) % 256 by omega)]
  rfl
theorem pk_18 : pk (low 1 3) = pk (low 1 8) := by decide +kernel
end Df
theorem fr8 {B : List Bool} (h : B.length % 8 = 0) : (0 : Int) = fr B := by unfold fr; omega
set_option maxHeartbeats 2000000 in
set_option maxRecDepth 4000 in
theorem rwstored_ret (b : Nat) (vo p : Value) (l : List UInt8) (w : World) (hs : Sep w [Rg.blk b 56 [vo, i64 (fr [])], Rg.sl u8 5 vo (Df.pk [])]) (hp : RdL u8 w p l) (ho : Off (fpU [Rg.blk b 56 [vo, i64 (fr [])], Rg.sl u8 5 vo (Df.pk [])]) p l) (hl : l.length ≤ 65535) :
    Ret Tryd.prog 28 #[pv b, p] w fun v w' => ∃ vn, M w (fpU [Rg.blk b 56 [vo, i64 (fr [])], Rg.sl u8 5 vo (Df.pk [])]) w' [Rg.blk b 56 [vn, i64 0], Rg.sl u8 5 vn (Df.sto l)] := by
  have hM := M.startS hs
  refine enter Tryd.func28 rfl (by kernel_rfl) Tryd.ntmps28 rfl ?_
  refine C.block <| ?_

  refine C.loop1 [(0, _)] rfl (fun (z : Nat) => [(1, p)]) (fun (z : Nat) w' => M w (fpU [Rg.blk b 56 [vo, i64 (fr [])], Rg.sl u8 5 vo (Df.pk [])]) w' [Rg.blk b 56 [vo, i64 (fr [])], Rg.sl u8 5 vo (Df.pk [])]) (fun (z : Nat) => z) 0 ?_ ?_ ?_
  · exact Sub.cons rfl <| Sub.nil _
  · exact hM
  rintro z w0 hM
  refine C.block <| C.seq <| C.region <| E.mv rfl rfl <| ?_
  refine E.lenv rfl (Rd.shape (hM.arg hp ho)) Tryd.underlying22 rfl ?_
  refine E.min2 rfl rfl rfl ?_
  rw [show min (l.length : Int) 65535 = (l.length : Int) by omega]
  refine E.asg rfl rfl <| E.nil <| X.next <| C.seq <| C.region <| E.asg rfl rfl <| E.nil <| X.next <| ?_

  refine C.cut0 [(0, _), (1, _), (4, _)] rfl [(5, i64 ((1 : Nat) : Int))] (fun w' => M w (fpU [Rg.blk b 56 [vo, i64 (fr [])], Rg.sl u8 5 vo (Df.pk [])]) w' [Rg.blk b 56 [vo, i64 (fr [])], Rg.sl u8 5 vo (Df.pk [])]) ?_ ?_
  ·
    refine C.seq <| C.region <| E.mv rfl rfl <| E.mv rfl rfl <| ?_
    refine E.lenv rfl (Rd.shape (hM.arg hp ho)) Tryd.underlying22 rfl ?_
    refine E.bin rfl rfl rfl rfl <| E.nil <| X.next <| ?_
    refine C.cond' rfl (fun hC0 => ?_) (fun hC0 => ?_)
    ·

      refine C.region <| E.asg rfl rfl <| E.nil <| X.join0  (Sub.cons rfl <| Sub.nil _) rfl hM
    ·
      exact (hC0 rfl).elim
  rintro  w1 hM
  refine C.seq <| C.region <| E.mv rfl rfl <| E.mv rfl rfl <| ?_
  refine E.call rfl rfl (rbits_ret b vo [] 1 3 _ (hM.pick [0, 1] (by decide)).sep (by omega) (by decide) (by simp)) ?_
  rintro _ w2 ⟨vn2, m⟩
  have hM := hM.calls [0, 1] (by decide) rfl (by simp) m
  try dsimp only [List.nil_append, List.cons_append, List.set_cons_zero, List.set_cons_succ, repl] at hM
  try dsimp only [List.nil_append, List.cons_append, List.set_cons_zero, List.set_cons_succ, repl] at hM
  refine E.nil <| X.next <| C.seq <| C.region <| E.mv rfl rfl <| E.nilc rfl rfl <| ?_
  refine E.fld (o := 1) (sz := 0) rfl Tryd.underlying56 rfl rfl (by kernel_rfl) rfl ?_
  refine E.storeM 0 hM rfl rfl rfl (by kernel_rfl) rfl rfl ?_
  intro w3 hM
  try dsimp only [List.nil_append, List.cons_append, List.set_cons_zero, List.set_cons_succ, repl] at hM
  have hM : M w (fpU [Rg.blk b 56 [vo, i64 (fr [])], Rg.sl u8 5 vo (Df.pk [])]) _ [Rg.blk b 56 [vn2, i64 (fr (Df.low 1 8))], Rg.sl u8 5 vn2 (Df.pk (Df.low 1 8))] := hM.to (by rw [Df.pk_18, ← fr8 (B := Df.low 1 8) (by rw [Df.low_len])])
  refine E.nil <| X.next <| C.seq <| C.region <| E.mv rfl rfl <| E.mv rfl rfl <| ?_
  refine E.call rfl rfl (rbits_ret b vn2 _ l.length 16 _ (hM.pick [0, 1] (by decide)).sep (by omega) (by decide) (by rw [Df.low_len]; omega)) ?_
  rintro _ w3 ⟨vn3, m⟩
  have hM := hM.calls [0, 1] (by decide) rfl (by simp) m
  try dsimp only [List.nil_append, List.cons_append, List.set_cons_zero, List.set_cons_succ, repl] at hM
  try dsimp only [List.nil_append, List.cons_append, List.set_cons_zero, List.set_cons_succ, repl] at hM
  refine E.nil <| X.next <| C.seq <| C.region <| E.mv rfl rfl <| E.mv rfl rfl <| ?_
  refine E.subN (a := 65535) (b := l.length) rfl rfl (by omega) rfl ?_
  refine E.call rfl rfl (rbits_ret b vn3 _ (65535 - l.length) 16 _ (hM.pick [0, 1] (by decide)).sep (by omega) (by decide) (by simp only [List.length_append, Df.low_len]; omega)) ?_
  rintro _ w4 ⟨vn4, m⟩
  have hM := hM.calls [0, 1] (by decide) rfl (by simp) m
  try dsimp only [List.nil_append, List.cons_append, List.set_cons_zero, List.set_cons_succ, repl] at hM
  try dsimp only [List.nil_append, List.cons_append, List.set_cons_zero, List.set_cons_succ, repl] at hM
  refine E.nil <| X.next <| C.seq <| C.heldX (Sh := fun w' => ∃ (vx : Value), M w (fpU [Rg.blk b 56 [vo, i64 (fr [])], Rg.sl u8 5 vo (Df.pk [])]) w' [Rg.blk b 56 [vx, i64 (fr (Df.low 1 8 ++ Df.low l.length 16 ++ Df.low (65535 - l.length) 16))]]) hM (by kernel_rfl) fun wh6 hM => ?_
  have hS : ∃ (vx : Value), M w (fpU [Rg.blk b 56 [vo, i64 (fr [])], Rg.sl u8 5 vo (Df.pk [])]) wh6 [Rg.blk b 56 [vx, i64 (fr (Df.low 1 8 ++ Df.low l.length 16 ++ Df.low (65535 - l.length) 16))]] := ⟨_, hM.pick [0] (by decide)⟩
  refine H.take 0 rfl rfl (by kernel_rfl) (by kernel_rfl) (by kernel_rfl) hS (fun w' ⟨vx, hM⟩ => Y.mv rfl) rfl ?_
  refine H.take 1 rfl rfl (by kernel_rfl) (by kernel_rfl) (by kernel_rfl) hS (fun w' ⟨vx, hM⟩ => Y.mv rfl) rfl ?_
  refine H.take 2 rfl rfl (by kernel_rfl) (by kernel_rfl) (by kernel_rfl) hS (fun w' ⟨vx, hM⟩ => Y.nilc rfl) rfl ?_
  refine H.takeV 3 rfl rfl (by kernel_rfl) (by kernel_rfl) (by kernel_rfl) hS (Y.fld (o := 0) (sz := 0) rfl Tryd.underlying56 rfl rfl (by kernel_rfl)) (fun w' ⟨vx, hM⟩ => Y.fld (o := 0) (sz := 0) rfl Tryd.underlying56 rfl rfl (by kernel_rfl)) rfl ?_
  refine H.take 5 rfl rfl (by kernel_rfl) (by kernel_rfl) (by kernel_rfl) hS (fun w' ⟨vx, hM⟩ => Y.mv rfl) rfl ?_
  refine H.take 6 rfl rfl (by kernel_rfl) (by kernel_rfl) (by kernel_rfl) hS (fun w' ⟨vx, hM⟩ => Y.mv rfl) rfl ?_
  refine H.takeV 7 rfl rfl (by kernel_rfl) (by kernel_rfl) (by kernel_rfl) hS (Y.slcP (k := .i64) 0 l.length rfl (.inr ⟨rfl, rfl⟩) (.inl rfl) (hM.arg hp ho) Tryd.underlying22 (by kernel_rfl) (by omega) (by omega)) (fun w' ⟨vx, hM⟩ => Y.slcP (k := .i64) 0 l.length rfl (.inr ⟨rfl, rfl⟩) (.inl rfl) (hM.arg hp ho) Tryd.underlying22 (by kernel_rfl) (by omega) (by omega)) rfl ?_
  have hc := (hM.arg hp ho).partV (a := 0) (b := l.length) (by omega) (by omega)
  rw [show cutL 0 l.length l = l by unfold cutL; rw [List.drop_zero, Nat.sub_zero, List.take_length]] at hc
  have hpl := Df.pk_len (Df.low 1 8 ++ Df.low l.length 16 ++ Df.low (65535 - l.length) 16)
  simp only [List.length_append, Df.low_len] at hpl
  refine H.only 4 rfl (by kernel_rfl) ?_
  refine E.load rfl Tryd.underlying22 rfl (hM.bcell 0 rfl rfl) rfl ?_
  have hS : ∃ (vx : Value), M w (fpU [Rg.blk b 56 [vo, i64 (fr [])], Rg.sl u8 5 vo (Df.pk [])]) _ [Rg.blk b 56 [vx, i64 (fr (Df.low 1 8 ++ Df.low l.length 16 ++ Df.low (65535 - l.length) 16))]] := ⟨_, hM.pick [0] (by decide)⟩
  refine H.back hS ?_
  refine H.only 8 rfl (by kernel_rfl) ?_
  refine E.appendM 1 hM rfl rfl rfl Tryd.underlying22 elem_Tuint8 hc (fun _ => rfl) (by omega) (by omega) rfl ?_
  intro v34 w7 hM
  try dsimp only [List.nil_append, List.cons_append, List.set_cons_zero, List.set_cons_succ, repl] at hM
  have hS : ∃ (vx : Value), M w (fpU [Rg.blk b 56 [vo, i64 (fr [])], Rg.sl u8 5 vo (Df.pk [])]) _ [Rg.blk b 56 [vx, i64 (fr (Df.low 1 8 ++ Df.low l.length 16 ++ Df.low (65535 - l.length) 16))]] := ⟨_, hM.pick [0] (by decide)⟩
  refine H.back hS ?_
  refine H.take 9 rfl rfl (by kernel_rfl) (by kernel_rfl) (by kernel_rfl) hS (fun w' ⟨vx, hM⟩ => Y.nilc rfl) rfl ?_
  refine H.takeV 10 rfl rfl (by kernel_rfl) (by kernel_rfl) (by kernel_rfl) hS (Y.fld (o := 0) (sz := 0) rfl Tryd.underlying56 rfl rfl (by kernel_rfl)) (fun w' ⟨vx, hM⟩ => Y.fld (o := 0) (sz := 0) rfl Tryd.underlying56 rfl rfl (by kernel_rfl)) rfl ?_
  refine H.only 11 rfl (by kernel_rfl) ?_
  refine E.storeM 0 hM rfl rfl rfl (by kernel_rfl) (hM.sl 1 rfl).one rfl ?_
  intro w8 hM
  try dsimp only [List.nil_append, List.cons_append, List.set_cons_zero, List.set_cons_succ, repl] at hM
  have hS : ∃ (vx : Value), M w (fpU [Rg.blk b 56 [vo, i64 (fr [])], Rg.sl u8 5 vo (Df.pk [])]) _ [Rg.blk b 56 [vx, i64 (fr (Df.low 1 8 ++ Df.low l.length 16 ++ Df.low (65535 - l.length) 16))]] := ⟨_, hM.pick [0] (by decide)⟩
  refine H.back hS ?_
  refine H.done (by kernel_rfl) ?_
  refine X.next <| C.seq <| C.region <| E.mv rfl rfl <| E.nilc rfl rfl <| ?_
  refine E.fld (o := 1) (sz := 0) rfl Tryd.underlying56 rfl rfl (by kernel_rfl) rfl ?_
  refine E.storeM 0 hM rfl rfl rfl (by kernel_rfl) rfl rfl ?_
  intro w9 hM
  try dsimp only [List.nil_append, List.cons_append, List.set_cons_zero, List.set_cons_succ, repl] at hM
  refine E.nil <| X.next <| C.seq <| C.region <| E.mv rfl rfl <| E.mv rfl rfl <| ?_
  refine E.slcP (k' := .i64) l.length l.length rfl (.inl rfl) (.inr ⟨rfl, rfl⟩) (hM.arg hp ho) Tryd.underlying22 (by kernel_rfl) (by omega) (by omega) rfl ?_
  refine E.asg rfl rfl <| E.nil <| X.next <| C.seq <| C.region <| E.mv rfl rfl <| ?_
  refine E.lenv rfl (Rd.shape ((hM.arg hp ho).partV (a := l.length) (b := l.length) (by omega) (by omega))) Tryd.underlying22 rfl ?_
  rw [show (cutL l.length l.length l).length = 0 by unfold cutL; rw [Nat.sub_self, List.take_zero]; rfl]
  refine E.bin rfl rfl rfl rfl <| E.nil <| X.next <| ?_
  refine C.cond' rfl (fun hC1 => ?_) (fun hC1 => ?_)
  ·
    refine C.ret <| X.retB <| X.retT <| X.retB <| ret0 rfl ?_
    exact ⟨v34, hM.to (by rw [Df.pk_sto hl]; rfl)⟩
  ·
    exact (hC1 rfl).elim

set_option maxHeartbeats 2000000 in
set_option maxRecDepth 4000 in
theorem rCompress_ret (p : Value) (l : List UInt8) (x : Int) (w : World) (hp : RdL u8 w p l) (hl : l.length ≤ 32768) :
    Ret Tryd.prog 12 #[p, i64 x] w fun v w' => ∃ vo, v = .tuple #[vo, i64 (if x < 0 ∨ 2 < x then 3 else 0)] ∧ M w Nn w' [Rg.sl u8 5 vo (Df.cmv l x)] := by
  have hM := M.start w
  refine enter Tryd.func12 rfl (by kernel_rfl) Tryd.ntmps12 rfl ?_
  refine C.seq <| C.region <| E.asg rfl rfl <| E.asg rfl rfl <| E.nil <| X.next <| C.seq <| ?_

  refine C.chainE [(0, _), (1, _)] rfl [(14, .bool (decide (x < 0 ∨ 2 < x)))] ?_ ?_
  ·
    refine C.region <| E.mv rfl rfl <| E.bin rfl rfl rfl rfl <| E.mv rfl rfl <| ?_
    refine E.split 11 rfl (fun g11 => ?_) (fun g11 => ?_)
    ·
      try simp only [decide_eq_true_eq, decide_eq_false_iff_not, ne_eq, Decidable.not_not, Bool.not_eq_true', Bool.not_eq_false'] at g11
      refine E.off rfl rfl rfl rfl <| E.off rfl rfl rfl rfl <| E.pick rfl rfl rfl <| E.nil <| X.join0 (Sub.cons (by (first | exact leaf_f (by omega) | exact leaf_t (by omega) | exact leaf_d (by omega) | exact leaf_f (by first | (simp [*] <;> fail) | omega) | exact leaf_t (by first | (simp [*] <;> fail) | omega) | exact leaf_d (by first | (simp [*] <;> fail) | omega) | exact leaf_f (by (first | omega | ((try simp only [decide_eq_true_eq, decide_eq_false_iff_not, Bool.not_eq_true', Bool.not_eq_false'] at *); first | omega | (simp_all <;> fail) | (simp_all; omega)))) | exact leaf_t (by (first | omega | ((try simp only [decide_eq_true_eq, decide_eq_false_iff_not, Bool.not_eq_true', Bool.not_eq_false'] at *); first | omega | (simp_all <;> fail) | (simp_all; omega)))) | exact leaf_d (by (first | omega | ((try simp only [decide_eq_true_eq, decide_eq_false_iff_not, Bool.not_eq_true', Bool.not_eq_false'] at *); first | omega | (simp_all <;> fail) | (simp_all; omega)))))) <| Sub.nil _) rfl rfl
    ·
      try simp only [decide_eq_true_eq, decide_eq_false_iff_not, ne_eq, Decidable.not_not, Bool.not_eq_true', Bool.not_eq_false'] at g11
      refine E.on rfl rfl (E.mv rfl rfl ?_)
      refine E.on rfl rfl (E.bin rfl rfl rfl rfl ?_)
      refine E.pick rfl rfl rfl <| E.nil <| X.join0 (Sub.cons (by (first | exact leaf_f (by omega) | exact leaf_t (by omega) | exact leaf_d (by omega) | exact leaf_f (by first | (simp [*] <;> fail) | omega) | exact leaf_t (by first | (simp [*] <;> fail) | omega) | exact leaf_d (by first | (simp [*] <;> fail) | omega) | exact leaf_f (by (first | omega | ((try simp only [decide_eq_true_eq, decide_eq_false_iff_not, Bool.not_eq_true', Bool.not_eq_false'] at *); first | omega | (simp_all <;> fail) | (simp_all; omega)))) | exact leaf_t (by (first | omega | ((try simp only [decide_eq_true_eq, decide_eq_false_iff_not, Bool.not_eq_true', Bool.not_eq_false'] at *); first | omega | (simp_all <;> fail) | (simp_all; omega)))) | exact leaf_d (by (first | omega | ((try simp only [decide_eq_true_eq, decide_eq_false_iff_not, Bool.not_eq_true', Bool.not_eq_false'] at *); first | omega | (simp_all <;> fail) | (simp_all; omega)))))) <| Sub.nil _) rfl rfl
  refine C.cond' rfl (fun hC0 => ?_) (fun hC0 => ?_)
  ·
    refine C.seq <| C.region <| E.asg rfl rfl <| E.asg rfl rfl <| E.nil <| X.next <| C.ret <| X.retT <| ret2 rfl rfl rfl ?_
    exact ⟨_, by rw [if_pos hC0], by rw [Df.cmv, if_pos hC0]; exact hM.nil u8 5⟩
  ·
    refine C.skip <| X.next <| C.seq <| C.seq <| C.region <| E.mv rfl rfl <| ?_
    refine E.lenv rfl (Rd.shape (hM.arg0 hp)) Tryd.underlying22 rfl ?_
    refine E.bin rfl rfl rfl rfl <| E.nil <| X.next <| ?_
    refine C.cond' rfl (fun hC1 => ?_) (fun hC1 => ?_)
    ·
      omega
    ·
      rw [if_neg hC0]
      obtain ⟨lv, rfl⟩ : ∃ lv : Nat, x = (lv : Int) := ⟨x.toNat, by omega⟩
      have hlv : lv ≤ 2 := by omega
      rw [show Df.cmv l lv = Df.cmp l lv by rw [Df.cmv, if_neg hC0, Int.toNat_natCast]]
      have htk := Df.toks_tok hl
      have htl := Df.toks_len l 0
      refine C.skip <| X.next <| C.seq <| C.region <| ?_
      refine E.buildC (cs := [_, _]) [.slice none 0 0, .int .i64 0] [] rfl rfl (by kernel_rfl) rfl ?_
      refine E.boxM hM rfl rfl rfl ?_
      intro b19 w0 hM
      try dsimp only [List.nil_append, List.cons_append, List.set_cons_zero, List.set_cons_succ, repl] at hM
      have hM := hM.nil u8 5
      try dsimp only [List.nil_append, List.cons_append, List.set_cons_zero, List.set_cons_succ, repl] at hM
      have hM : M w Nn _ [Rg.blk b19 56 [(.slice none 0 0), i64 (fr [])], Rg.sl u8 5 (.slice none 0 0) (Df.pk [])] := hM
      refine E.asg rfl rfl <| E.nil <| X.next <| C.seq <| C.seq <| C.region <| E.mv rfl rfl <| E.bin rfl rfl rfl rfl <| E.nil <| X.next <| ?_
      refine C.cond' rfl (fun hC2 => ?_) (fun hC2 => ?_)
      ·
        obtain rfl : lv = 0 := by omega
        refine C.seq <| C.region <| E.mv rfl rfl <| E.mv rfl rfl <| ?_
        refine E.call rfl rfl (rwstored_ret b19 _ p l _ (hM.pick [0, 1] (by decide)).sep (hM.arg0 hp) ((hM.pick [0, 1] (by decide)).off0 hp) (by omega)) ?_
        rintro _ w2 ⟨vn2, m⟩
        have hM := hM.calls [0, 1] (by decide) rfl (by simp) m
        try dsimp only [List.nil_append, List.cons_append, List.set_cons_zero, List.set_cons_succ, repl] at hM
        try dsimp only [List.nil_append, List.cons_append, List.set_cons_zero, List.set_cons_succ, repl] at hM
        refine E.nil <| X.next <| C.seq <| C.region <| E.mv rfl rfl <| E.nilc rfl rfl <| ?_
        refine E.fld (o := 0) (sz := 0) rfl Tryd.underlying56 rfl rfl (by kernel_rfl) rfl ?_
        refine E.load rfl Tryd.underlying22 rfl (hM.bcell 0 rfl rfl) rfl ?_
        refine E.asg rfl rfl <| E.asg rfl rfl <| E.nil <| X.next <| C.ret <| X.retT <| ret2 rfl rfl rfl ?_
        exact ⟨_, rfl, by rw [Df.cmp, if_pos rfl]; exact hM.pick [1] (by decide)⟩
      ·
        refine C.skip <| X.next <| C.seq <| C.region <| E.mv rfl rfl <| ?_
        refine E.call rfl rfl (rMatches_ret p l _ (hM.arg0 hp) hl) ?_
        rintro _ w3 ⟨vt, rfl, m⟩
        have hM := hM.call m
        try dsimp only [List.nil_append, List.cons_append, List.set_cons_zero, List.set_cons_succ, repl] at hM
        try dsimp only [List.nil_append, List.cons_append, List.set_cons_zero, List.set_cons_succ, repl] at hM
        refine E.mv rfl rfl <| E.ext rfl rfl rfl <| E.ext rfl rfl rfl <| E.asg rfl rfl <| E.asg rfl rfl <| E.nil <| X.next <| C.seq <| C.seq <| C.region <| E.mv rfl rfl <| E.bin rfl rfl rfl rfl <| E.nil <| X.next <| ?_
        refine C.cond' rfl (fun hC3 => ?_) (fun hC3 => ?_)
        ·
          obtain rfl : lv = 1 := by omega
          refine C.seq <| C.region <| E.mv rfl rfl <| ?_
          refine E.call rfl rfl (rbits_ret b19 _ [] 3 3 _ (hM.pick [0, 1] (by decide)).sep (by omega) (by decide) (by simp)) ?_
          rintro _ w4 ⟨vn4, m⟩
          have hM := hM.calls [0, 1] (by decide) rfl (by simp) m
          try dsimp only [List.nil_append, List.cons_append, List.set_cons_zero, List.set_cons_succ, repl] at hM
          try dsimp only [List.nil_append, List.cons_append, List.set_cons_zero, List.set_cons_succ, repl] at hM
          refine E.nil <| X.next <| C.seq <| C.region <| E.mv rfl rfl <| E.mv rfl rfl <| ?_
          refine E.call rfl rfl (rfixL_ret _) ?_
          rintro v40 w5 m
          have hM := hM.call m
          try dsimp only [List.nil_append, List.cons_append, List.set_cons_zero, List.set_cons_succ, repl] at hM
          try dsimp only [List.nil_append, List.cons_append, List.set_cons_zero, List.set_cons_succ, repl] at hM
          refine E.call rfl rfl (rfixD_ret _) ?_
          rintro v41 w6 m
          have hM := hM.call m
          try dsimp only [List.nil_append, List.cons_append, List.set_cons_zero, List.set_cons_succ, repl] at hM
          try dsimp only [List.nil_append, List.cons_append, List.set_cons_zero, List.set_cons_succ, repl] at hM
          refine E.call rfl rfl (rtokens_ret b19 vn4 v40 v41 vt _ Df.fixL Df.fixD (Df.toks l 0) _ (hM.pick [0, 1, 3, 4, 2] (by decide)).sep htk (by rw [Df.fix_len.1]; decide) (by rw [Df.fix_len.2]; decide) (by rw [Df.fix_len.1]; decide) (by rw [Df.fix_len.2]; decide) (fun n hn => Nat.le_trans (Df.fix_le.1 n hn) (by decide)) (fun n hn => Nat.le_trans (Df.fix_le.2 n hn) (by decide)) (by rw [Df.fix_kr.1]; decide) (by rw [Df.fix_kr.2]; decide) (by simp only [List.nil_append, Df.low_len]; omega)) ?_
          rintro _ w7 ⟨vn7, m⟩
          have hM := hM.calls [0, 1, 3, 4, 2] (by decide) rfl (by simp) m
          try dsimp only [List.nil_append, List.cons_append, List.set_cons_zero, List.set_cons_succ, repl] at hM
          try dsimp only [List.nil_append, List.cons_append, List.set_cons_zero, List.set_cons_succ, repl] at hM
          refine E.nil <| X.next <| C.seq <| C.region <| E.mv rfl rfl <| E.nilc rfl rfl <| ?_
          refine E.fld (o := 0) (sz := 0) rfl Tryd.underlying56 rfl rfl (by kernel_rfl) rfl ?_
          refine E.load rfl Tryd.underlying22 rfl (hM.bcell 0 rfl rfl) rfl ?_
          refine E.asg rfl rfl <| E.asg rfl rfl <| E.nil <| X.next <| C.ret <| X.retT <| ret2 rfl rfl rfl ?_
          exact ⟨_, rfl, (hM.pick [1] (by decide)).to (by rw [Df.cmp, if_neg (by decide), Df.cbits, Df.hdv, if_pos rfl, Df.blL, if_pos rfl, Df.blD, if_pos rfl, List.append_nil]; rfl)⟩
        ·
          obtain rfl : lv = 2 := by omega
          refine C.skip <| X.next <| C.seq <| C.region <| E.mv rfl rfl <| E.mv rfl rfl <| ?_
          refine E.call rfl rfl (rwown_ret b19 _ vt [] (Df.toks l 0) _ (hM.pick [0, 1, 2] (by decide)).sep htk (by simp) (by omega)) ?_
          rintro _ w8 ⟨vn8, m⟩
          have hM := hM.calls [0, 1, 2] (by decide) rfl (by simp) m
          try dsimp only [List.nil_append, List.cons_append, List.set_cons_zero, List.set_cons_succ, repl] at hM
          try dsimp only [List.nil_append, List.cons_append, List.set_cons_zero, List.set_cons_succ, repl] at hM
          refine E.nil <| X.next <| C.seq <| C.region <| E.mv rfl rfl <| E.nilc rfl rfl <| ?_
          refine E.fld (o := 0) (sz := 0) rfl Tryd.underlying56 rfl rfl (by kernel_rfl) rfl ?_
          refine E.load rfl Tryd.underlying22 rfl (hM.bcell 0 rfl rfl) rfl ?_
          refine E.asg rfl rfl <| E.asg rfl rfl <| E.nil <| X.next <| C.ret <| ret2 rfl rfl rfl ?_
          exact ⟨_, rfl, (hM.pick [1] (by decide)).to (by rw [Df.cmp, if_neg (by decide), Df.cbits, Df.hdv, if_neg (by decide)]; rfl)⟩

set_option maxHeartbeats 2000000 in
set_option maxRecDepth 8000 in
theorem DeflateCompresses_ret (p : Value) (l : List UInt8) (x : Int) (w : World) (hp : RdL u8 w p l) (hO : Ord w) :
    Ret Tryd.prog 3 #[p, i64 x] w fun v w' => v = .bool true ∧ Ext w w' := by
  have hM := M.start w
  refine enter Tryd.func3 rfl (by kernel_rfl) Tryd.ntmps3 rfl ?_
  refine C.seq <| C.region <| E.asg rfl rfl <| E.nil <| X.next <| C.seq <| C.seq <| C.region <| E.mv rfl rfl <| ?_
  refine E.lenv rfl (Rd.shape (hM.arg0 hp)) Tryd.underlying22 rfl ?_
  refine E.bin rfl rfl rfl rfl <| E.nil <| X.next <| ?_
  refine C.cond' rfl (fun hC0 => ?_) (fun hC0 => ?_)
  ·
    refine C.seq <| C.region <| ?_
    refine E.call rfl rfl (examples_ret _ (hM.ord0 hO)) ?_
    rintro _ wz ⟨rfl, xz⟩
    have hM := hM.ext xz
    try dsimp only [List.nil_append, List.cons_append, List.set_cons_zero, List.set_cons_succ, repl] at hM
    refine E.asg rfl rfl <| E.nil <| X.next <| C.ret <| X.retT <| ret1 rfl rfl ?_
    exact ⟨rfl, hM.toExt⟩
  ·
    have hl32 : l.length ≤ 32768 := by omega
    refine C.skip <| X.next <| C.seq <| C.region <| E.mv rfl rfl <| E.mv rfl rfl <| ?_
    refine E.call rfl rfl (Compress_ret p l x _ (hM.arg0 hp) hl32 (hM.ord0 hO)) ?_
    rintro _ w1 ⟨v16, rfl, m⟩
    have hM := hM.call m
    try dsimp only [List.nil_append, List.cons_append, List.set_cons_zero, List.set_cons_succ, repl] at hM
    try dsimp only [List.nil_append, List.cons_append, List.set_cons_zero, List.set_cons_succ, repl] at hM
    refine E.mv rfl rfl <| E.ext rfl rfl rfl <| E.ext rfl rfl rfl <| E.asg rfl rfl <| E.asg rfl rfl <| E.nil <| X.next <| C.seq <| C.region <| E.mv rfl rfl <| E.mv rfl rfl <| ?_
    refine E.call rfl rfl (rCompress_ret p l x _ (hM.arg0 hp) hl32) ?_
    rintro _ w2 ⟨v22, rfl, m⟩
    have hM := hM.call m
    try dsimp only [List.nil_append, List.cons_append, List.set_cons_zero, List.set_cons_succ, repl] at hM
    try dsimp only [List.nil_append, List.cons_append, List.set_cons_zero, List.set_cons_succ, repl] at hM
    refine E.mv rfl rfl <| E.ext rfl rfl rfl <| E.ext rfl rfl rfl <| E.asg rfl rfl <| E.asg rfl rfl <| E.nil <| X.next <| ?_

    refine C.cut0 [] rfl [(4, .bool true)] (fun w' => M w (Nn) w' []) ?_ ?_
    ·
      refine C.region <| E.mv rfl rfl <| ?_
      refine E.bstr rfl (hM.sl 0 rfl) Tryd.underlying22 Tryd.underlying5 Tryd.underlying9 rfl ?_
      refine E.mv rfl rfl <| ?_
      refine E.bstr rfl (hM.sl 1 rfl) Tryd.underlying22 Tryd.underlying5 Tryd.underlying9 rfl ?_
      refine E.eqstr rfl rfl rfl ?_
      refine E.mv rfl rfl <| ?_
      refine E.split 30 rfl (fun g30 => ?_) (fun g30 => ?_)
      ·
        try simp only [decide_eq_true_eq, decide_eq_false_iff_not, ne_eq, Decidable.not_not, Bool.not_eq_true', Bool.not_eq_false'] at g30
        refine E.on rfl rfl (E.mv rfl rfl ?_)
        refine E.on rfl rfl (E.mv rfl rfl ?_)
        refine E.on rfl rfl (E.bin rfl rfl rfl rfl ?_)
        refine E.pick rfl rfl rfl <| E.mv rfl rfl <| ?_
        refine E.split 35 rfl (fun g35 => ?_) (fun g35 => ?_)
        ·
          try simp only [decide_eq_true_eq, decide_eq_false_iff_not, ne_eq, Decidable.not_not, Bool.not_eq_true', Bool.not_eq_false'] at g35
          refine E.on rfl rfl (E.call rfl rfl (examples_ret _ (hM.ord0 hO)) ?_)
          rintro _ wz ⟨rfl, xz⟩
          have hM := hM.ext xz
          try dsimp only [List.nil_append, List.cons_append, List.set_cons_zero, List.set_cons_succ, repl] at hM

          refine E.pick rfl rfl rfl <| E.asg rfl rfl <| E.nil <| X.join0  (Sub.cons rfl <| Sub.nil _) rfl (hM.pick [] (by decide))
        ·
          try simp only [decide_eq_true_eq, decide_eq_false_iff_not, ne_eq, Decidable.not_not, Bool.not_eq_true', Bool.not_eq_false'] at g35
          simp at g35
      ·
        try simp only [decide_eq_true_eq, decide_eq_false_iff_not, ne_eq, Decidable.not_not, Bool.not_eq_true', Bool.not_eq_false'] at g30
        simp at g30
    rintro  w4 hM
    refine C.ret <| ret1 rfl rfl ?_
    exact ⟨rfl, hM.toExt⟩

end Go.Proofs.YtcmgbjmcklfkcaaDoor
