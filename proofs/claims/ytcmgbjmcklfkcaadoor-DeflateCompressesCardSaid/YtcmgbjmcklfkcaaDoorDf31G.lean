/- barscanref34: bits, symbols and tokens are written. -/
import Derived.Test.YtcmgbjmcklfkcaaDoorDf29G
namespace Go.Proofs.YtcmgbjmcklfkcaaDoor
set_option linter.unusedSimpArgs false
set_option linter.unusedVariables false
open Go.RowKit Sym

theorem Sym.C.heldX {P : Program} {Q : Exit → Act → World → Prop} {s : St} {env : Env} {w0 w : World} {S : Nat → Prop} {rs : List Rg} {id : Nat} {l : List Oper} {Sh : World → Prop} (hM : M w0 S w rs) (hm : P.follows .mixedOrders = true) (h : ∀ w', M w0 S w' rs → wpH P l.toArray Q Sh s l.length (Array.replicate l.length false) env w') : wpC P (.region id l.toArray true) Q s env w :=
  C.held _ hm fun w' hx _ => h w' (hM.ext hx)
abbrev LU := List UInt8
theorem low1_mod (x : Nat) : Df.low (x % 2) 1 = Df.low x 1 := by
  rw [Df.low_succ, Df.low_succ, show Df.low (x % 2) 0 = [] from rfl, show Df.low x 0 = [] from rfl]
  unfold Df.bit
  simp
theorem div_pow_succ (c i : Nat) : c / 2 ^ i / 2 = c / 2 ^ (i + 1) := by rw [Nat.div_div_eq_div_mul, Nat.pow_succ]
set_option maxHeartbeats 1000000 in
set_option maxRecDepth 4000 in
theorem rbits_ret (b : Nat) (vo : Value) (B : List Bool) (c n : Nat) (w : World) (hs : Sep w [Rg.blk b 56 [vo, i64 (fr B)], Rg.sl u8 5 vo (Df.pk B)]) (hc : c ≤ 9223372036854775807) (hn : n ≤ 62) (hl : B.length + n ≤ 1099511627776) :
    Ret Tryd.prog 29 #[pv b, i64 c, i64 n] w fun v w' => ∃ vn, M w (fpU [Rg.blk b 56 [vo, i64 (fr B)], Rg.sl u8 5 vo (Df.pk B)]) w' [Rg.blk b 56 [vn, i64 (fr (B ++ Df.low c n))], Rg.sl u8 5 vn (Df.pk (B ++ Df.low c n))] := by
  have hM := M.startS hs
  refine enter Tryd.func29 rfl (by kernel_rfl) Tryd.ntmps29 rfl ?_
  refine C.seq <| C.region <| E.asg rfl rfl <| E.nil <| X.next <| C.block <| ?_

  refine C.loop2 [(0, _), (2, _)] rfl (fun (i : Nat) (vs : Value) => [(1, i64 ((c / 2 ^ i : Nat) : Int)), (6, i64 i)]) (fun (i : Nat) (vs : Value) w' => M w (fpU [Rg.blk b 56 [vo, i64 (fr B)], Rg.sl u8 5 vo (Df.pk B)]) w' [Rg.blk b 56 [vs, i64 (fr (B ++ Df.low c i))], Rg.sl u8 5 vs (Df.pk (B ++ Df.low c i))] ∧ i ≤ n) (fun (i : Nat) (vs : Value) => n - i) 0 vo ?_ ?_ ?_
  · exact Sub.cons (look_val rfl (by rw [Nat.pow_zero, Nat.div_one])) <| Sub.cons rfl <| Sub.nil _
  · exact ⟨hM.to (by rw [show Df.low c 0 = [] from rfl, List.append_nil]), Nat.zero_le _⟩
  rintro i vs w0 ⟨hM, hi⟩
  refine C.seq <| C.seq <| C.region <| E.mv rfl rfl <| E.mv rfl rfl <| E.bin rfl rfl rfl rfl <| E.nil <| X.next <| ?_
  refine C.cond' rfl (fun hC0 => ?_) (fun hC0 => ?_)
  ·
    obtain ⟨Bi, hBi⟩ : ∃ X, X = B ++ Df.low c i := ⟨_, rfl⟩
    rw [← hBi] at hM
    have hBl : Bi.length = B.length + i := by rw [hBi, List.length_append, Df.low_len]
    have hsn : B ++ Df.low c (i + 1) = Bi ++ [Df.bit c i] := by rw [hBi, Df.low_succ, List.append_assoc]
    have hdv : c / 2 ^ i ≤ c := Nat.div_le_self _ _
    refine C.skip <| X.next <| C.seq <| C.block <| ?_

    refine C.cut1 [(0, _), (1, _), (2, _), (6, _)] rfl (fun (vk : Value) => []) (fun (vk : Value) w' => M w (fpU [Rg.blk b 56 [vo, i64 (fr B)], Rg.sl u8 5 vo (Df.pk B)]) w' [Rg.blk b 56 [vk, i64 ((8 - Bi.length % 8 : Nat) : Int)], Rg.sl u8 5 vk (Df.pkx Bi)]) ?_ ?_
    ·
      refine C.seq <| C.region <| E.mv rfl rfl <| E.nilc rfl rfl <| ?_
      refine E.fld (o := 1) (sz := 0) rfl Tryd.underlying56 rfl rfl (by kernel_rfl) rfl ?_
      refine E.load rfl Tryd.underlying3 rfl (hM.bcell 0 rfl rfl) rfl ?_
      refine E.bin rfl rfl rfl rfl <| E.nil <| X.next <| ?_
      refine C.cond' rfl (fun hC1 => ?_) (fun hC1 => ?_)
      ·
        have h0 : Bi.length % 8 = 0 := by unfold fr at hC1; omega
        have hpl := Df.pk_len Bi
        refine C.seq <| C.region <| E.mv rfl rfl <| E.mv rfl rfl <| E.nilc rfl rfl <| ?_
        refine E.fld (o := 0) (sz := 0) rfl Tryd.underlying56 rfl rfl (by kernel_rfl) rfl ?_
        refine E.load rfl Tryd.underlying22 rfl (hM.bcell 0 rfl rfl) rfl ?_
        refine E.pushM (enc := u8) 1 0 hM rfl rfl rfl Tryd.underlying22 elem_Tuint8 rfl (by omega) (by omega) (by simp) rfl rfl ?_
        intro v24 u24 w1 hM
        try dsimp only [List.nil_append, List.cons_append, List.set_cons_zero, List.set_cons_succ, repl] at hM
        refine E.nilc rfl rfl <| ?_
        refine E.fld (o := 0) (sz := 0) rfl Tryd.underlying56 rfl rfl (by kernel_rfl) rfl ?_
        refine E.storeM 0 hM rfl rfl rfl (by kernel_rfl) (hM.sl 1 rfl).one rfl ?_
        intro w2 hM
        try dsimp only [List.nil_append, List.cons_append, List.set_cons_zero, List.set_cons_succ, repl] at hM
        refine E.nil <| X.next <| C.region <| E.mv rfl rfl <| E.nilc rfl rfl <| ?_
        refine E.fld (o := 1) (sz := 0) rfl Tryd.underlying56 rfl rfl (by kernel_rfl) rfl ?_
        refine E.storeM 0 hM rfl rfl rfl (by kernel_rfl) rfl rfl ?_
        intro w3 hM
        try dsimp only [List.nil_append, List.cons_append, List.set_cons_zero, List.set_cons_succ, repl] at hM

        refine E.nil <| X.join1 v24 (Sub.nil _) rfl (hM.to (by rw [Df.pkx_new h0, h0]; rfl))
      ·
        have h0 : ¬ Bi.length % 8 = 0 := by unfold fr at hC1; omega

        refine C.skip <| X.join1 vs (Sub.nil _) rfl (hM.to (by rw [Df.pkx_old h0]; unfold fr; rw [show (8 - Bi.length % 8) % 8 = 8 - Bi.length % 8 by omega]))
    rintro vk w4 hM
    have hX := Df.pkx_len Bi
    have hpr := Df.pb_r Bi
    have hpg : u8 ((Df.pkx Bi)[Bi.length / 8]'(by omega)) = .int .u8 (Df.pb Bi (Bi.length / 8) : Int) := by unfold u8; rw [Df.pkx_get (B := Bi) (by omega)]
    have hb1 : c / 2 ^ i % 2 ≤ 1 := by omega
    have hp7 : 2 ^ (Bi.length % 8) ≤ 2 ^ 7 := Nat.pow_le_pow_right (by decide) (by omega)
    have hm7 := Nat.mul_le_mul_right (2 ^ (Bi.length % 8)) hb1
    refine C.seq <| C.region <| E.mv rfl rfl <| E.nilc rfl rfl <| ?_
    refine E.fld (o := 0) (sz := 0) rfl Tryd.underlying56 rfl rfl (by kernel_rfl) rfl ?_
    refine E.load rfl Tryd.underlying22 rfl (hM.bcell 0 rfl rfl) rfl ?_
    refine E.lenv rfl (Rd.shape (hM.sl 1 rfl)) Tryd.underlying22 rfl ?_
    rw [hX]
    refine E.subN (a := Bi.length / 8 + 1) (b := 1) rfl rfl (by omega) rfl ?_
    rw [Nat.add_sub_cancel]
    refine E.asg rfl rfl <| E.nil <| X.next <| ?_

    refine C.cut0 [(0, _), (1, _), (2, _), (6, _)] rfl [] (fun w' => M w (fpU [Rg.blk b 56 [vo, i64 (fr B)], Rg.sl u8 5 vo (Df.pk B)]) w' [Rg.blk b 56 [vk, i64 ((8 - Bi.length % 8 : Nat) : Int)], Rg.sl u8 5 vk (Df.pk (Bi ++ [Df.bit c i]))]) ?_ ?_
    ·
      refine C.heldX (Sh := fun w' => ∃ (ls : LU), M w (fpU [Rg.blk b 56 [vo, i64 (fr B)], Rg.sl u8 5 vo (Df.pk B)]) w' [Rg.blk b 56 [vk, i64 ((8 - Bi.length % 8 : Nat) : Int)], Rg.sl u8 5 vk ls] ∧ ls.length = Bi.length / 8 + 1) hM (by kernel_rfl) fun wh5 hM => ?_
      have hS : ∃ (ls : LU), M w (fpU [Rg.blk b 56 [vo, i64 (fr B)], Rg.sl u8 5 vo (Df.pk B)]) wh5 [Rg.blk b 56 [vk, i64 ((8 - Bi.length % 8 : Nat) : Int)], Rg.sl u8 5 vk ls] ∧ ls.length = Bi.length / 8 + 1 := ⟨_, hM.pick [0, 1] (by decide), by simp only [Df.pkx_len, Df.pk_len, List.length_append, List.length_singleton] <;> omega⟩
      refine H.take 0 rfl rfl (by kernel_rfl) (by kernel_rfl) (by kernel_rfl) hS (fun w' ⟨ls, hM, hX⟩ => Y.mv rfl) rfl ?_
      refine H.take 1 rfl rfl (by kernel_rfl) (by kernel_rfl) (by kernel_rfl) hS (fun w' ⟨ls, hM, hX⟩ => Y.nilc rfl) rfl ?_
      refine H.takeV 2 rfl rfl (by kernel_rfl) (by kernel_rfl) (by kernel_rfl) hS (Y.fld (o := 0) (sz := 0) rfl Tryd.underlying56 rfl rfl (by kernel_rfl)) (fun w' ⟨ls, hM, hX⟩ => Y.fld (o := 0) (sz := 0) rfl Tryd.underlying56 rfl rfl (by kernel_rfl)) rfl ?_
      refine H.take 4 rfl rfl (by kernel_rfl) (by kernel_rfl) (by kernel_rfl) hS (fun w' ⟨ls, hM, hX⟩ => Y.mv rfl) rfl ?_
      refine H.take 5 rfl rfl (by kernel_rfl) (by kernel_rfl) (by kernel_rfl) hS (fun w' ⟨ls, hM, hX⟩ => Y.mv rfl) rfl ?_
      refine H.take 6 rfl rfl (by kernel_rfl) (by kernel_rfl) (by kernel_rfl) hS (fun w' ⟨ls, hM, hX⟩ => Y.nilc rfl) rfl ?_
      refine H.takeV 7 rfl rfl (by kernel_rfl) (by kernel_rfl) (by kernel_rfl) hS (Y.fld (o := 0) (sz := 0) rfl Tryd.underlying56 rfl rfl (by kernel_rfl)) (fun w' ⟨ls, hM, hX⟩ => Y.fld (o := 0) (sz := 0) rfl Tryd.underlying56 rfl rfl (by kernel_rfl)) rfl ?_
      refine H.take 9 rfl rfl (by kernel_rfl) (by kernel_rfl) (by kernel_rfl) hS (fun w' ⟨ls, hM, hX⟩ => Y.mv rfl) rfl ?_
      refine H.take 12 rfl rfl (by kernel_rfl) (by kernel_rfl) (by kernel_rfl) hS (fun w' ⟨ls, hM, hX⟩ => Y.mv rfl) rfl ?_
      refine H.take 13 rfl rfl (by kernel_rfl) (by kernel_rfl) (by kernel_rfl) hS (fun w' ⟨ls, hM, hX⟩ => Y.rem rfl rfl (by omega) (remN (a := c / 2 ^ i) (b := 2))) rfl ?_
      refine H.take 14 rfl rfl (by kernel_rfl) (by kernel_rfl) (by kernel_rfl) hS (fun w' ⟨ls, hM, hX⟩ => Y.mv rfl) rfl ?_
      refine H.take 15 rfl rfl (by kernel_rfl) (by kernel_rfl) (by kernel_rfl) hS (fun w' ⟨ls, hM, hX⟩ => Y.nilc rfl) rfl ?_
      refine H.takeV 16 rfl rfl (by kernel_rfl) (by kernel_rfl) (by kernel_rfl) hS (Y.fld (o := 1) (sz := 0) rfl Tryd.underlying56 rfl rfl (by kernel_rfl)) (fun w' ⟨ls, hM, hX⟩ => Y.fld (o := 1) (sz := 0) rfl Tryd.underlying56 rfl rfl (by kernel_rfl)) rfl ?_
      refine H.takeV 3 rfl rfl (by kernel_rfl) (by kernel_rfl) (by kernel_rfl) hS (Y.load rfl Tryd.underlying22 rfl (hM.bcell 0 rfl rfl)) (fun w' ⟨ls, hM, hX⟩ => Y.load rfl Tryd.underlying22 rfl (hM.bcell 0 rfl rfl)) rfl ?_
      refine H.takeV 8 rfl rfl (by kernel_rfl) (by kernel_rfl) (by kernel_rfl) hS (Y.load rfl Tryd.underlying22 rfl (hM.bcell 0 rfl rfl)) (fun w' ⟨ls, hM, hX⟩ => Y.load rfl Tryd.underlying22 rfl (hM.bcell 0 rfl rfl)) rfl ?_
      refine H.takeV 10 rfl rfl (by kernel_rfl) (by kernel_rfl) (by kernel_rfl) hS (Y.idx1 (k := Bi.length / 8) rfl rfl (hM.sl 1 rfl) rfl (by omega) Tryd.underlying22 (by kernel_rfl)) (fun w' ⟨ls, hM, hX⟩ => Y.idx1 (k := Bi.length / 8) rfl rfl (hM.sl 1 rfl) rfl (by omega) Tryd.underlying22 (by kernel_rfl)) rfl ?_
      refine H.takeV 17 rfl rfl (by kernel_rfl) (by kernel_rfl) (by kernel_rfl) hS (Y.load rfl Tryd.underlying3 rfl (hM.bcell 0 rfl rfl)) (fun w' ⟨ls, hM, hX⟩ => Y.load rfl Tryd.underlying3 rfl (hM.bcell 0 rfl rfl)) rfl ?_
      refine H.take 18 rfl rfl (by kernel_rfl) (by kernel_rfl) (by kernel_rfl) hS (fun w' ⟨ls, hM, hX⟩ => Y.subN (a := 8) (b := 8 - Bi.length % 8) rfl rfl (by omega)) rfl ?_
      rw [show 8 - (8 - Bi.length % 8) = Bi.length % 8 by omega]
      refine H.two 11 19 rfl rfl (by kernel_rfl) ?_ ?_
      ·
        refine E.load rfl Tryd.underlying5 rfl ((hM.sl 1 rfl).cellA rfl (by omega)) rfl ?_
        rw [hpg]
        have hS : ∃ (ls : LU), M w (fpU [Rg.blk b 56 [vo, i64 (fr B)], Rg.sl u8 5 vo (Df.pk B)]) _ [Rg.blk b 56 [vk, i64 ((8 - Bi.length % 8 : Nat) : Int)], Rg.sl u8 5 vk ls] ∧ ls.length = Bi.length / 8 + 1 := ⟨_, hM.pick [0, 1] (by decide), by simp only [Df.pkx_len, Df.pk_len, List.length_append, List.length_singleton] <;> omega⟩
        refine H.back hS ?_
        refine H.only 19 rfl (by kernel_rfl) ?_
        refine E.call rfl rfl (rpower_ret (Bi.length % 8) _ (by omega)) ?_
        rintro _ w4 ⟨rfl, x4⟩
        have hM := hM.ext x4
        try dsimp only [List.nil_append, List.cons_append, List.set_cons_zero, List.set_cons_succ, repl] at hM
        have hS : ∃ (ls : LU), M w (fpU [Rg.blk b 56 [vo, i64 (fr B)], Rg.sl u8 5 vo (Df.pk B)]) _ [Rg.blk b 56 [vk, i64 ((8 - Bi.length % 8 : Nat) : Int)], Rg.sl u8 5 vk ls] ∧ ls.length = Bi.length / 8 + 1 := ⟨_, hM.pick [0, 1] (by decide), by simp only [Df.pkx_len, Df.pk_len, List.length_append, List.length_singleton] <;> omega⟩
        refine H.back hS ?_
        refine H.take 20 rfl rfl (by kernel_rfl) (by kernel_rfl) (by kernel_rfl) hS (fun w' ⟨ls, hM, hX⟩ => Y.mulN (a := c / 2 ^ i % 2) (b := 2 ^ (Bi.length % 8)) rfl rfl (by omega)) rfl ?_
        refine H.takeV 21 rfl rfl (by kernel_rfl) (by kernel_rfl) (by kernel_rfl) hS (Y.conv rfl Tryd.underlying3 Tryd.underlying5 (IntWalk.u8_in _ (by omega))) (fun w' ⟨ls, hM, hX⟩ => Y.conv rfl Tryd.underlying3 Tryd.underlying5 (IntWalk.u8_in _ (by omega))) rfl ?_
        refine H.take 22 rfl rfl (by kernel_rfl) (by kernel_rfl) (by kernel_rfl) hS (fun w' ⟨ls, hM, hX⟩ => Y.binw (v' := .int .u8 ((Df.pb Bi (Bi.length / 8) + c / 2 ^ i % 2 * 2 ^ (Bi.length % 8) : Nat) : Int)) rfl rfl rfl (congrArg _ ((IntWalk.u8_in _ (by omega)).trans (by omega)))) rfl ?_
        refine H.takeV 23 rfl rfl (by kernel_rfl) (by kernel_rfl) (by kernel_rfl) hS (Y.idx1 (k := Bi.length / 8) rfl rfl (hM.sl 1 rfl) rfl (by omega) Tryd.underlying22 (by kernel_rfl)) (fun w' ⟨ls, hM, hX⟩ => Y.idx1 (k := Bi.length / 8) rfl rfl (hM.sl 1 rfl) rfl (by omega) Tryd.underlying22 (by kernel_rfl)) rfl ?_
        refine H.only 24 rfl (by kernel_rfl) ?_
        refine E.storeL (enc := u8) 1 (UInt8.ofNat (Df.pb Bi (Bi.length / 8) + if Df.bit c i then 2 ^ (Bi.length % 8) else 0)) hM rfl rfl (look_eq rfl (by rw [← bit_mul, ofNat_u8 (by omega)])) (by kernel_rfl) rfl rfl (by omega) ?_
        intro w7 hM
        try dsimp only [List.nil_append, List.cons_append, List.set_cons_zero, List.set_cons_succ, repl] at hM
        rw [Df.pkx_put] at hM
        have hS : ∃ (ls : LU), M w (fpU [Rg.blk b 56 [vo, i64 (fr B)], Rg.sl u8 5 vo (Df.pk B)]) _ [Rg.blk b 56 [vk, i64 ((8 - Bi.length % 8 : Nat) : Int)], Rg.sl u8 5 vk ls] ∧ ls.length = Bi.length / 8 + 1 := ⟨_, hM.pick [0, 1] (by decide), by simp only [Df.pkx_len, Df.pk_len, List.length_append, List.length_singleton] <;> omega⟩
        refine H.back hS ?_
        refine H.done (by kernel_rfl) ?_

        refine X.join0  (Sub.nil _) rfl hM
      ·
        refine E.call rfl rfl (rpower_ret (Bi.length % 8) _ (by omega)) ?_
        rintro _ w4 ⟨rfl, x4⟩
        have hM := hM.ext x4
        try dsimp only [List.nil_append, List.cons_append, List.set_cons_zero, List.set_cons_succ, repl] at hM
        have hS : ∃ (ls : LU), M w (fpU [Rg.blk b 56 [vo, i64 (fr B)], Rg.sl u8 5 vo (Df.pk B)]) _ [Rg.blk b 56 [vk, i64 ((8 - Bi.length % 8 : Nat) : Int)], Rg.sl u8 5 vk ls] ∧ ls.length = Bi.length / 8 + 1 := ⟨_, hM.pick [0, 1] (by decide), by simp only [Df.pkx_len, Df.pk_len, List.length_append, List.length_singleton] <;> omega⟩
        refine H.back hS ?_
        refine H.take 20 rfl rfl (by kernel_rfl) (by kernel_rfl) (by kernel_rfl) hS (fun w' ⟨ls, hM, hX⟩ => Y.mulN (a := c / 2 ^ i % 2) (b := 2 ^ (Bi.length % 8)) rfl rfl (by omega)) rfl ?_
        refine H.takeV 21 rfl rfl (by kernel_rfl) (by kernel_rfl) (by kernel_rfl) hS (Y.conv rfl Tryd.underlying3 Tryd.underlying5 (IntWalk.u8_in _ (by omega))) (fun w' ⟨ls, hM, hX⟩ => Y.conv rfl Tryd.underlying3 Tryd.underlying5 (IntWalk.u8_in _ (by omega))) rfl ?_
        refine H.only 11 rfl (by kernel_rfl) ?_
        refine E.load rfl Tryd.underlying5 rfl ((hM.sl 1 rfl).cellA rfl (by omega)) rfl ?_
        rw [hpg]
        have hS : ∃ (ls : LU), M w (fpU [Rg.blk b 56 [vo, i64 (fr B)], Rg.sl u8 5 vo (Df.pk B)]) _ [Rg.blk b 56 [vk, i64 ((8 - Bi.length % 8 : Nat) : Int)], Rg.sl u8 5 vk ls] ∧ ls.length = Bi.length / 8 + 1 := ⟨_, hM.pick [0, 1] (by decide), by simp only [Df.pkx_len, Df.pk_len, List.length_append, List.length_singleton] <;> omega⟩
        refine H.back hS ?_
        refine H.take 22 rfl rfl (by kernel_rfl) (by kernel_rfl) (by kernel_rfl) hS (fun w' ⟨ls, hM, hX⟩ => Y.binw (v' := .int .u8 ((Df.pb Bi (Bi.length / 8) + c / 2 ^ i % 2 * 2 ^ (Bi.length % 8) : Nat) : Int)) rfl rfl rfl (congrArg _ ((IntWalk.u8_in _ (by omega)).trans (by omega)))) rfl ?_
        refine H.takeV 23 rfl rfl (by kernel_rfl) (by kernel_rfl) (by kernel_rfl) hS (Y.idx1 (k := Bi.length / 8) rfl rfl (hM.sl 1 rfl) rfl (by omega) Tryd.underlying22 (by kernel_rfl)) (fun w' ⟨ls, hM, hX⟩ => Y.idx1 (k := Bi.length / 8) rfl rfl (hM.sl 1 rfl) rfl (by omega) Tryd.underlying22 (by kernel_rfl)) rfl ?_
        refine H.only 24 rfl (by kernel_rfl) ?_
        refine E.storeL (enc := u8) 1 (UInt8.ofNat (Df.pb Bi (Bi.length / 8) + if Df.bit c i then 2 ^ (Bi.length % 8) else 0)) hM rfl rfl (look_eq rfl (by rw [← bit_mul, ofNat_u8 (by omega)])) (by kernel_rfl) rfl rfl (by omega) ?_
        intro w9 hM
        try dsimp only [List.nil_append, List.cons_append, List.set_cons_zero, List.set_cons_succ, repl] at hM
        rw [Df.pkx_put] at hM
        have hS : ∃ (ls : LU), M w (fpU [Rg.blk b 56 [vo, i64 (fr B)], Rg.sl u8 5 vo (Df.pk B)]) _ [Rg.blk b 56 [vk, i64 ((8 - Bi.length % 8 : Nat) : Int)], Rg.sl u8 5 vk ls] ∧ ls.length = Bi.length / 8 + 1 := ⟨_, hM.pick [0, 1] (by decide), by simp only [Df.pkx_len, Df.pk_len, List.length_append, List.length_singleton] <;> omega⟩
        refine H.back hS ?_
        refine H.done (by kernel_rfl) ?_

        refine X.join0  (Sub.nil _) rfl hM
    rintro  w10 hM
    refine C.seq <| C.region <| E.mv rfl rfl <| E.mv rfl rfl <| E.nilc rfl rfl <| ?_
    refine E.fld (o := 1) (sz := 0) rfl Tryd.underlying56 rfl rfl (by kernel_rfl) rfl ?_
    refine E.load rfl Tryd.underlying3 rfl (hM.bcell 0 rfl rfl) rfl ?_
    refine E.subN (a := 8 - Bi.length % 8) (b := 1) rfl rfl (by omega) rfl ?_
    refine E.nilc rfl rfl <| ?_
    refine E.fld (o := 1) (sz := 0) rfl Tryd.underlying56 rfl rfl (by kernel_rfl) rfl ?_
    refine E.storeM 0 hM rfl rfl rfl (by kernel_rfl) rfl rfl ?_
    intro w11 hM
    try dsimp only [List.nil_append, List.cons_append, List.set_cons_zero, List.set_cons_succ, repl] at hM
    refine E.nil <| X.next <| C.region <| E.mv rfl rfl <| ?_
    refine E.quo rfl rfl (by omega) (quoN (a := c / 2 ^ i) (b := 2) (by omega) (by omega)) rfl ?_
    rw [div_pow_succ]
    refine E.asg rfl rfl <| E.nil <| X.outN <| X.next <| C.region <| E.mv rfl rfl <| ?_
    refine E.addN (a := i) (b := 1) rfl rfl (by omega) rfl ?_

    refine E.asg rfl rfl <| E.nil <| X.again2 (i + 1) vk (Sub.cons rfl <| Sub.cons rfl <| Sub.nil _) rfl ⟨hM.to (by rw [hsn, ← fr_snoc]), by omega⟩ (by omega)
  ·
    obtain rfl : i = n := by omega
    refine C.exit <| X.exitT <| X.exitT <| X.outE <| end0 rfl ?_
    exact ⟨vs, hM⟩

set_option maxHeartbeats 1000000 in
set_option maxRecDepth 4000 in
theorem rsymbol_ret (b : Nat) (vo vl vc : Value) (B : List Bool) (l : List Nat) (s : Nat) (w : World) (hs : Sep w [Rg.blk b 56 [vo, i64 (fr B)], Rg.sl u8 5 vo (Df.pk B), Rg.sl i64 3 vl (nz l), Rg.sl i64 3 vc (Pf.cdl l)]) (hsl : s < l.length) (hb : ∀ n ∈ l, n ≤ 30) (hkr : Pf.kr l ≤ 1073741824) (hl : B.length ≤ 549755813888) :
    Ret Tryd.prog 51 #[pv b, i64 s, vl, vc] w fun v w' => ∃ vn, M w (fpU [Rg.blk b 56 [vo, i64 (fr B)], Rg.sl u8 5 vo (Df.pk B), Rg.sl i64 3 vl (nz l), Rg.sl i64 3 vc (Pf.cdl l)]) w' [Rg.blk b 56 [vn, i64 (fr (B ++ btv (Pf.code l s) (l.getD s 0)))], Rg.sl u8 5 vn (Df.pk (B ++ btv (Pf.code l s) (l.getD s 0))), Rg.sl i64 3 vl (nz l), Rg.sl i64 3 vc (Pf.cdl l)] := by
  have hM := M.startS hs
  refine enter Tryd.func51 rfl (by kernel_rfl) Tryd.ntmps51 rfl ?_
  refine C.seq <| C.region <| E.mv rfl rfl <| E.mv rfl rfl <| ?_
  have hnl := nz_len l
  have hcl := cdl_len l
  have hbs := hb l[s] (List.getElem_mem hsl)
  have hcb := code_big hb hkr s
  have hgd := Pf.getD_eq hsl
  refine E.get (k := s) rfl rfl (hM.sl 2 rfl) rfl (by omega) Tryd.underlying29 (by kernel_rfl) Tryd.underlying3 rfl rfl rfl ?_
  rw [nz_get hsl]
  refine E.sub' rfl rfl (by omega) rfl ?_
  refine E.asg rfl rfl <| E.nil <| X.next <| C.block <| ?_

  refine C.loop2 [(0, _), (1, _), (3, _)] rfl (fun (j : Nat) (vs : Value) => [(8, i64 ((l[s] : Int) - 1 - j))]) (fun (j : Nat) (vs : Value) w' => M w (fpU [Rg.blk b 56 [vo, i64 (fr B)], Rg.sl u8 5 vo (Df.pk B), Rg.sl i64 3 vl (nz l), Rg.sl i64 3 vc (Pf.cdl l)]) w' [Rg.blk b 56 [vs, i64 (fr (B ++ tab j (bt (Pf.code l s) l[s])))], Rg.sl u8 5 vs (Df.pk (B ++ tab j (bt (Pf.code l s) l[s]))), Rg.sl i64 3 vl (nz l), Rg.sl i64 3 vc (Pf.cdl l)] ∧ j ≤ l[s]) (fun (j : Nat) (vs : Value) => l[s] - j) 0 vo ?_ ?_ ?_
  · exact Sub.cons (look_val rfl (by omega)) <| Sub.nil _
  · exact ⟨hM.to (by rw [tab_zero, List.append_nil]), Nat.zero_le _⟩
  rintro j vs w0 ⟨hM, hj⟩
  refine C.seq <| C.seq <| C.region <| E.mv rfl rfl <| E.bin rfl rfl rfl rfl <| E.nil <| X.next <| ?_
  refine C.cond' rfl (fun hC0 => ?_) (fun hC0 => ?_)
  ·
    have hjn : j < l[s] := by omega
    have e9 : (l[s] : Int) - 1 - j = ((l[s] - 1 - j : Nat) : Int) := by omega
    rw [e9]
    have hdv : Pf.code l s / 2 ^ (l[s] - 1 - j) ≤ Pf.code l s := Nat.div_le_self _ _
    have hpp := Nat.two_pow_pos (l[s] - 1 - j)
    have hp30 : 2 ^ (l[s] - 1 - j) ≤ 2 ^ 30 := Nat.pow_le_pow_right (by decide) (by omega)
    refine C.skip <| X.next <| C.seq <| C.block <| C.heldM hM [3] (by decide) (by kernel_rfl) fun wh1 hM hS => ?_
    refine H.take 0 rfl rfl (by kernel_rfl) (by kernel_rfl) (by kernel_rfl) hS (fun w' hM => Y.mv rfl) rfl ?_
    refine H.take 1 rfl rfl (by kernel_rfl) (by kernel_rfl) (by kernel_rfl) hS (fun w' hM => Y.mv rfl) rfl ?_
    refine H.take 2 rfl rfl (by kernel_rfl) (by kernel_rfl) (by kernel_rfl) hS (fun w' hM => Y.mv rfl) rfl ?_
    refine H.takeV 3 rfl rfl (by kernel_rfl) (by kernel_rfl) (by kernel_rfl) hS (Y.idx1 (enc := i64) (l := Pf.cdl l) (k := s) rfl rfl (by first | exact hM.sl 3 rfl | exact hM.sl 0 rfl) rfl (by omega) Tryd.underlying29 (by kernel_rfl)) (fun w' hM => Y.idx1 (enc := i64) (l := Pf.cdl l) (k := s) rfl rfl (by first | exact hM.sl 3 rfl | exact hM.sl 0 rfl) rfl (by omega) Tryd.underlying29 (by kernel_rfl)) rfl ?_
    refine H.take 5 rfl rfl (by kernel_rfl) (by kernel_rfl) (by kernel_rfl) hS (fun w' hM => Y.mv rfl) rfl ?_
    refine H.takeV 4 rfl rfl (by kernel_rfl) (by kernel_rfl) (by kernel_rfl) hS (Y.load rfl Tryd.underlying3 rfl (RdL.cell (enc := i64) (l := Pf.cdl l) (j := s) (by first | exact hM.sl 3 rfl | exact hM.sl 0 rfl) (by omega))) (fun w' hM => Y.load rfl Tryd.underlying3 rfl (RdL.cell (enc := i64) (l := Pf.cdl l) (j := s) (by first | exact hM.sl 3 rfl | exact hM.sl 0 rfl) (by omega))) rfl ?_
    rw [cdl_get]
    refine H.only 6 rfl (by kernel_rfl) ?_
    refine E.call rfl rfl (rpower_ret (l[s] - 1 - j) _ (by omega)) ?_
    rintro _ w4 ⟨rfl, x4⟩
    have hM := hM.ext x4
    try dsimp only [List.nil_append, List.cons_append, List.set_cons_zero, List.set_cons_succ, repl] at hM
    have hS := hM.pick [3] (by decide)
    refine H.back hS ?_
    refine H.take 7 rfl rfl (by kernel_rfl) (by kernel_rfl) (by kernel_rfl) hS (fun w' hM => Y.quo rfl rfl (by omega) (quoN (a := Pf.code l s) (b := 2 ^ (l[s] - 1 - j)) (by omega) (by omega))) rfl ?_
    refine H.take 8 rfl rfl (by kernel_rfl) (by kernel_rfl) (by kernel_rfl) hS (fun w' hM => Y.rem rfl rfl (by omega) (remN (a := Pf.code l s / 2 ^ (l[s] - 1 - j)) (b := 2))) rfl ?_
    refine H.only 9 rfl (by kernel_rfl) ?_
    refine E.call rfl rfl (rbits_ret b vs (B ++ tab j (bt (Pf.code l s) l[s])) (Pf.code l s / 2 ^ (l[s] - 1 - j) % 2) 1 _ (hM.pick [0, 1] (by decide)).sep (by omega) (by decide) (by rw [List.length_append, tab_len]; omega)) ?_
    rintro _ w1 ⟨vn, m⟩
    have hM := hM.calls [0, 1] (by decide) rfl (by simp) m
    try dsimp only [List.nil_append, List.cons_append, List.set_cons_zero, List.set_cons_succ, repl] at hM
    rw [low1_mod, low_bt, List.append_assoc, ← tab_succ] at hM
    try dsimp only [List.nil_append, List.cons_append, List.set_cons_zero, List.set_cons_succ, repl] at hM
    have hS := hM.pick [3] (by decide)
    refine H.back hS ?_
    refine H.done (by kernel_rfl) ?_
    refine X.outN <| X.next <| C.region <| E.mv rfl rfl <| ?_
    refine E.sub' rfl rfl (by omega) rfl ?_

    refine E.asg rfl rfl <| E.nil <| X.again2 (j + 1) vn (Sub.cons (look_val rfl (by omega)) <| Sub.nil _) rfl ⟨hM, by omega⟩ (by omega)
  ·
    obtain rfl : j = l[s] := by omega
    refine C.exit <| X.exitT <| X.exitT <| X.outE <| end0 rfl ?_
    exact ⟨vs, by rw [hgd]; exact hM⟩

end Go.Proofs.YtcmgbjmcklfkcaaDoor
