/- Texts of the claim, laid together: Df2. -/
import Derived.Test.YtcmgbjmcklfkcaaDoorG15
/- deflate: codes; symbols; tokens are written. -/
namespace Go.Proofs.YtcmgbjmcklfkcaaDoor
set_option linter.unusedSimpArgs false
set_option linter.unusedVariables false
open Go.RowKit Sym

theorem quoN {a b : Nat} (hb : 1 ≤ b) (ha : a ≤ 9223372036854775807) : IntKind.i64.wrap ((a : Int).tdiv (b : Int)) = ((a / b : Nat) : Int) := by
  rw [IntWalk.i64_quo _ _ (by omega)]; simp
theorem remN {a b : Nat} : (a : Int).tmod (b : Int) = ((a % b : Nat) : Int) := by rw [Int.tmod_eq_emod_of_nonneg (by omega)]; simp
theorem low_bt (c n j : Nat) : Df.low (c / 2 ^ (n - 1 - j)) 1 = [bt c n j] := by
  show [Df.bit (c / 2 ^ (n - 1 - j)) 0] = _
  unfold Df.bit bt; rw [Nat.pow_zero, Nat.div_one]
theorem low16 (t : Nat) (h : t ≤ 9223372036854775807) : bits .and .i64 (t : Int) 65535 = ((t % 65536 : Nat) : Int) := by
  have h1 := i64_and_nat t 65535 (by omega) (by omega)
  have h2 : t &&& 65535 = t % 65536 := Nat.and_two_pow_sub_one_eq_mod t 16
  rw [h2] at h1; exact h1
theorem shr16 (t : Nat) : (t : Int) / 2 ^ min (16 : Int).toNat IntKind.i64.bits = ((t / 65536 : Nat) : Int) := by
  have := shr_nat (c := t) (k := 16) (by decide)
  exact this
namespace Df
/-- the lengths of the fixed code -/
def fxl (s : Nat) : Nat := if s < 144 then 8 else if s < 256 then 9 else if s < 280 then 7 else 8
def fixL : List Nat := tab 288 fxl
def fixD : List Nat := tab 32 fun _ => 5
theorem nz_tab (n : Nat) (g : Nat → Nat) : nz (tab n g) = tab n fun i => (g i : Int) := by unfold nz tab; rw [List.map_map]; rfl
/-- the bits of a token -/
noncomputable def tb (L D : List Nat) (t : Nat) : List Bool :=
  if t ≤ 255 then btv (Pf.code L t) (L.getD t 0)
  else btv (Pf.code L (lsy (t / 65536))) (L.getD (lsy (t / 65536)) 0) ++ low (t / 65536 - lls (lsy (t / 65536))) (lxt (lsy (t / 65536)))
    ++ btv (Pf.code D (dsy (t % 65536))) (D.getD (dsy (t % 65536)) 0) ++ low (t % 65536 - dls (dsy (t % 65536))) (dxt (dsy (t % 65536)))
noncomputable def tbs (L D : List Nat) (ts : List Nat) : List Bool := ts.flatMap (tb L D)
theorem tbs_snoc {L D : List Nat} {ts : List Nat} {i : Nat} (h : i < ts.length) : tbs L D (ts.take (i + 1)) = tbs L D (ts.take i) ++ tb L D ts[i] := by
  unfold tbs; rw [← List.take_append_getElem h, List.flatMap_append]; simp
/-- tokens that can be written -/
def Tok (t : Nat) : Prop := t ≤ 255 ∨ (3 ≤ t / 65536 ∧ t / 65536 ≤ 258 ∧ 1 ≤ t % 65536 ∧ t % 65536 ≤ 32768)
theorem gd30 {l : List Nat} (h : ∀ n ∈ l, n ≤ 30) (s : Nat) : l.getD s 0 ≤ 30 := by
  by_cases hs : s < l.length
  · rw [Pf.getD_eq hs]; exact h _ (List.getElem_mem hs)
  · rw [List.getD_eq_getElem?_getD, List.getElem?_eq_none (by omega)]; exact Nat.zero_le _
theorem tb_len {L D : List Nat} {t : Nat} (ht : Tok t) (hL : ∀ n ∈ L, n ≤ 30) (hD : ∀ n ∈ D, n ≤ 30) : (tb L D t).length ≤ 100 := by
  have g1 := gd30 hL t; have g2 := gd30 hL (lsy (t / 65536)); have g3 := gd30 hD (dsy (t % 65536))
  unfold tb
  split
  · rw [btv_len]; omega
  · rcases ht with ht | ⟨h1, h2, h3, h4⟩
    · omega
    · have k1 := lx_bd (lsy (t / 65536)) (by have := lsy_spec h1 h2; omega)
      have k2 := dx_bd (dsy (t % 65536)) (by have := dsy_spec h3 h4; omega)
      simp only [List.length_append, btv_len, low_len]; omega
theorem tbs_len {L D : List Nat} (hL : ∀ n ∈ L, n ≤ 30) (hD : ∀ n ∈ D, n ≤ 30) : ∀ {ts : List Nat}, (∀ t ∈ ts, Tok t) → (tbs L D ts).length ≤ 100 * ts.length
  | [], _ => by simp [tbs]
  | t :: ts, h => by
    have h1 := tb_len (h t (by simp)) hL hD
    have h2 := tbs_len hL hD (ts := ts) fun x hx => h x (by simp [hx])
    unfold tbs at h2 ⊢
    rw [List.flatMap_cons, List.length_append, List.length_cons]; omega
end Df
theorem newCode_ret (p : Value) (zs : List Int) (w : World) (hr : RdL i64 w p zs) :
    Ret Tryd.prog 27 #[p] w fun v w' => ∃ vc, v = .agg #[p, vc] ∧ M w Nn w' [Rg.sl i64 3 vc (cdv zs)] := by
  have hM := M.start w
  refine enter Tryd.func27 rfl (by kernel_rfl) Tryd.ntmps27 rfl ?_
  refine C.seq <| C.region <| ?_
  refine E.allocM (z := .agg #[.slice none 0 0, .slice none 0 0]) (cs := [.slice none 0 0, .slice none 0 0]) hM (by kernel_rfl) rfl rfl ?_
  intro b2 w0 hM
  try dsimp only [List.nil_append, List.cons_append, List.set_cons_zero, List.set_cons_succ, repl] at hM
  refine E.nil <| X.next <| C.seq <| C.region <| E.mv rfl rfl <| ?_
  refine E.call rfl rfl (Codes_ret p zs _ (hM.arg0 hr)) ?_
  rintro _ w1 ⟨v7, rfl, m⟩
  have hM := hM.call m
  obtain ⟨pa, pc, rfl⟩ := Rd.shape hr
  obtain ⟨qa, qc, rfl⟩ := Rd.shape (hM.sl 1 rfl)
  try dsimp only [List.nil_append, List.cons_append, List.set_cons_zero, List.set_cons_succ, repl] at hM
  refine E.mv rfl rfl <| E.ext rfl rfl rfl <| E.ext rfl rfl rfl <| E.asg rfl rfl <| E.asg rfl rfl <| E.nil <| X.next <| C.seq <| C.region <| E.mv rfl rfl <| E.mv rfl rfl <| ?_
  refine E.buildC (cs := [_, _]) [.slice none 0 0, .slice none 0 0] [0, 1] rfl rfl (by kernel_rfl) rfl ?_
  refine E.storeAM 0 hM rfl rfl rfl (by kernel_rfl) rfl (ones rfl <| ones rfl <| ones_nil) ?_
  intro w2 hM
  try dsimp only [List.nil_append, List.cons_append, List.set_cons_zero, List.set_cons_succ, repl] at hM
  refine E.nil <| X.next <| C.ret <| retA rfl rfl Tryd.underlying52 rfl (by first | exact hM.blk 0 rfl | exact hM.blk 1 rfl | exact hM.blk 2 rfl) (by kernel_rfl) ?_
  exact ⟨_, rfl, hM.pick [1] (by decide)⟩

set_option maxHeartbeats 1000000 in
set_option maxRecDepth 4000 in
theorem symbol_ret (b : Nat) (vo vl vc : Value) (B : List Bool) (l : List Nat) (s : Nat) (w : World) (hs : Sep w [Rg.blk b 44 [vo, i64 (fr B)], Rg.sl u8 5 vo (Df.pk B), Rg.sl i64 3 vl (nz l), Rg.sl i64 3 vc (Pf.cdl l)]) (hsl : s < l.length) (hb : ∀ n ∈ l, n ≤ 30) (hkr : Pf.kr l ≤ 1073741824) (hl : B.length ≤ 549755813888) :
    Ret Tryd.prog 45 #[pv b, .agg #[vl, vc], i64 s] w fun v w' => ∃ vn, M w (fpU [Rg.blk b 44 [vo, i64 (fr B)], Rg.sl u8 5 vo (Df.pk B), Rg.sl i64 3 vl (nz l), Rg.sl i64 3 vc (Pf.cdl l)]) w' [Rg.blk b 44 [vn, i64 (fr (B ++ btv (Pf.code l s) (l.getD s 0)))], Rg.sl u8 5 vn (Df.pk (B ++ btv (Pf.code l s) (l.getD s 0))), Rg.sl i64 3 vl (nz l), Rg.sl i64 3 vc (Pf.cdl l)] := by
  have hM := M.startS hs
  refine enter Tryd.func45 rfl (by kernel_rfl) Tryd.ntmps45 rfl ?_
  refine C.seq <| C.region <| ?_
  have hnl := nz_len l
  have hcl := cdl_len l
  have hbs := hb l[s] (List.getElem_mem hsl)
  have hcb := code_big hb hkr s
  have hgd := Pf.getD_eq hsl
  refine E.boxM hM rfl rfl rfl ?_
  intro b4 w0 hM
  try dsimp only [List.nil_append, List.cons_append, List.set_cons_zero, List.set_cons_succ, repl] at hM
  refine E.nil <| X.next <| C.seq <| C.region <| ?_
  refine E.fld (o := 0) (sz := 0) rfl Tryd.underlying52 rfl rfl (by kernel_rfl) rfl ?_
  refine E.load rfl Tryd.underlying29 rfl (hM.bcell 4 rfl rfl) rfl ?_
  refine E.mv rfl rfl <| ?_
  refine E.get (k := s) rfl rfl (hM.sl 2 rfl) rfl (by omega) Tryd.underlying29 (by kernel_rfl) Tryd.underlying3 rfl rfl rfl ?_
  rw [nz_get hsl]
  refine E.sub' rfl rfl (by omega) rfl ?_
  refine E.asg rfl rfl <| E.nil <| X.next <| C.block <| ?_

  refine C.loop2 [(0, _), (2, _), (4, _)] rfl (fun (j : Nat) (vs : Value) => [(6, i64 ((l[s] : Int) - 1 - j))]) (fun (j : Nat) (vs : Value) w' => M w (fpU [Rg.blk b 44 [vo, i64 (fr B)], Rg.sl u8 5 vo (Df.pk B), Rg.sl i64 3 vl (nz l), Rg.sl i64 3 vc (Pf.cdl l)]) w' [Rg.blk b 44 [vs, i64 (fr (B ++ tab j (bt (Pf.code l s) l[s])))], Rg.sl u8 5 vs (Df.pk (B ++ tab j (bt (Pf.code l s) l[s]))), Rg.sl i64 3 vl (nz l), Rg.sl i64 3 vc (Pf.cdl l), Rg.blk b4 52 [vl, vc]] ∧ j ≤ l[s]) (fun (j : Nat) (vs : Value) => l[s] - j) 0 vo ?_ ?_ ?_
  · exact Sub.cons (look_val rfl (by omega)) <| Sub.nil _
  · exact ⟨hM.to (by rw [tab_zero, List.append_nil]), Nat.zero_le _⟩
  rintro j vs w1 ⟨hM, hj⟩
  refine C.seq <| C.seq <| C.region <| E.mv rfl rfl <| E.bin rfl rfl rfl rfl <| E.nil <| X.next <| ?_
  refine C.cond' rfl (fun hC0 => ?_) (fun hC0 => ?_)
  ·
    have hjn : j < l[s] := by omega
    have e9 : (l[s] : Int) - 1 - j = ((l[s] - 1 - j : Nat) : Int) := by omega
    rw [e9]
    have hdv : Pf.code l s / 2 ^ (l[s] - 1 - j) ≤ Pf.code l s := Nat.div_le_self _ _
    refine C.skip <| X.next <| C.seq <| C.block <| C.region <| E.mv rfl rfl <| ?_
    refine E.fld (o := 1) (sz := 0) rfl Tryd.underlying52 rfl rfl (by kernel_rfl) rfl ?_
    refine E.load rfl Tryd.underlying29 rfl (hM.bcell 4 rfl rfl) rfl ?_
    refine E.mv rfl rfl <| ?_
    refine E.get (k := s) rfl rfl (hM.sl 3 rfl) rfl (by omega) Tryd.underlying29 (by kernel_rfl) Tryd.underlying3 rfl rfl rfl ?_
    rw [cdl_get]
    refine E.mv rfl rfl <| ?_
    refine E.shr rfl rfl (by omega) (shr_nat (by omega)) rfl ?_
    refine E.call rfl rfl (bits_ret b vs (B ++ tab j (bt (Pf.code l s) l[s])) (Pf.code l s / 2 ^ (l[s] - 1 - j)) 1 _ (hM.pick [0, 1] (by decide)).sep (by omega) (by decide) (by rw [List.length_append, tab_len]; omega)) ?_
    rintro _ w1 ⟨vn, m⟩
    have hM := hM.calls [0, 1] (by decide) rfl (by simp) m
    try dsimp only [List.nil_append, List.cons_append, List.set_cons_zero, List.set_cons_succ, repl] at hM
    rw [low_bt, List.append_assoc, ← tab_succ] at hM
    try dsimp only [List.nil_append, List.cons_append, List.set_cons_zero, List.set_cons_succ, repl] at hM
    refine E.nil <| X.outN <| X.next <| C.region <| E.mv rfl rfl <| ?_
    refine E.sub' rfl rfl (by omega) rfl ?_

    refine E.asg rfl rfl <| E.nil <| X.again2 (j + 1) vn (Sub.cons (look_val rfl (by omega)) <| Sub.nil _) rfl ⟨hM, by omega⟩ (by omega)
  ·
    obtain rfl : j = l[s] := by omega
    refine C.exit <| X.exitT <| X.exitT <| X.outE <| end0 rfl ?_
    exact ⟨vs, by rw [hgd]; exact hM.pick [0, 1, 2, 3] (by decide)⟩

theorem lengthOf_ret (s : Nat) (w : World) (h1 : 257 ≤ s) (h2 : s ≤ 285) :
    Ret Tryd.prog 46 #[i64 s] w fun v w' => v = .tuple #[i64 (Df.lxt s : Int), i64 (Df.lls s : Int)] ∧ Ext w w' := by
  have hM := M.start w
  refine enter Tryd.func46 rfl (by kernel_rfl) Tryd.ntmps46 rfl ?_
  refine C.seq <| C.region <| E.asg rfl rfl <| E.asg rfl rfl <| E.nil <| X.next <| C.seq <| C.block <| C.seq <| C.region <| E.mv rfl rfl <| E.bin rfl rfl rfl rfl <| E.asg rfl rfl <| E.nil <| X.next <| ?_
  refine C.cond' rfl (fun hC0 => ?_) (fun hC0 => ?_)
  ·
    refine C.seq <| C.region <| E.asg rfl rfl <| E.asg rfl rfl <| E.nil <| X.next <| C.ret <| X.retB <| X.retT <| ret2 rfl rfl rfl ?_
    exact ⟨by (have e : s = 285 := (by omega)); subst e; rfl, hM.toExt⟩
  ·
    refine C.seq <| C.region <| E.mv rfl rfl <| E.bin rfl rfl rfl rfl <| E.asg rfl rfl <| E.nil <| X.next <| ?_
    refine C.cond' rfl (fun hC1 => ?_) (fun hC1 => ?_)
    ·
      refine C.seq <| C.region <| E.mv rfl rfl <| ?_
      refine E.subN (a := s) (b := 257) rfl rfl (by omega) rfl ?_
      refine E.addN (b := 3) rfl rfl (by omega) rfl ?_
      refine E.asg rfl rfl <| E.asg rfl rfl <| E.nil <| X.next <| C.ret <| X.retB <| X.retT <| ret2 rfl rfl rfl ?_
      exact ⟨by rw [Df.lxt, if_neg (by omega), if_pos (by omega), Df.lls, if_neg (by omega), if_pos (by omega), show s - 257 + 3 = s - 254 by omega]; rfl, hM.toExt⟩
    ·
      refine C.skip <| X.outN <| X.next <| C.seq <| C.region <| E.mv rfl rfl <| ?_
      refine E.subN (a := s) (b := 261) rfl rfl (by omega) rfl ?_
      refine E.quo rfl rfl (by omega) (quoN (b := 4) (by omega) (by omega)) rfl ?_
      refine E.asg rfl rfl <| E.nil <| X.next <| C.seq <| C.drawn (by kernel_rfl) (by kernel_rfl) <| Q.mv rfl rfl <| Q.mv rfl rfl <| ?_
      refine Q.subN (a := s) (b := 261) rfl rfl (by omega) rfl ?_
      refine Q.rem rfl rfl (by omega) (remN (b := 4)) rfl ?_
      refine Q.addN (a := 4) (b := (s - 261) % 4) rfl rfl (by omega) rfl ?_
      refine Q.mv rfl rfl <| ?_
      have hp : 2 ^ ((s - 261) / 4) ≤ 2 ^ 6 := Nat.pow_le_pow_right (by decide) (by omega)
      have hp2 := Nat.mul_le_mul (show 4 + (s - 261) % 4 ≤ 7 by omega) hp
      refine Q.shl rfl rfl (by omega) (shl_nat (a := 4 + (s - 261) % 4) (k := (s - 261) / 4) (by omega) rfl (by omega)) rfl ?_
      refine Q.addN (a := 3) (b := (4 + (s - 261) % 4) * 2 ^ ((s - 261) / 4)) rfl rfl (by omega) rfl ?_
      refine Q.asg rfl rfl <| Q.asg rfl rfl <| Q.nil <| fun w0 hx0 => ?_
      have hM := hM.ext hx0
      refine X.next <| C.ret <| ret2 rfl rfl rfl ?_
      exact ⟨by rw [Df.lxt, Df.lls, if_neg (by omega), if_neg (by omega), if_neg (by omega), if_neg (by omega)], hM.toExt⟩

theorem distanceOf_ret (s : Nat) (w : World) (h2 : s ≤ 29) :
    Ret Tryd.prog 47 #[i64 s] w fun v w' => v = .tuple #[i64 (Df.dxt s : Int), i64 (Df.dls s : Int)] ∧ Ext w w' := by
  have hM := M.start w
  refine enter Tryd.func47 rfl (by kernel_rfl) Tryd.ntmps47 rfl ?_
  refine C.seq <| C.region <| E.asg rfl rfl <| E.asg rfl rfl <| E.nil <| X.next <| C.seq <| C.seq <| C.region <| E.mv rfl rfl <| E.bin rfl rfl rfl rfl <| E.nil <| X.next <| ?_
  refine C.cond' rfl (fun hC0 => ?_) (fun hC0 => ?_)
  ·
    refine C.seq <| C.region <| E.mv rfl rfl <| ?_
    refine E.addN (b := 1) rfl rfl (by omega) rfl ?_
    refine E.asg rfl rfl <| E.asg rfl rfl <| E.nil <| X.next <| C.ret <| X.retT <| ret2 rfl rfl rfl ?_
    exact ⟨by rw [Df.dxt, Df.dls, if_pos (by omega), if_pos (by omega)]; rfl, hM.toExt⟩
  ·
    refine C.skip <| X.next <| C.seq <| C.region <| E.mv rfl rfl <| ?_
    refine E.quo rfl rfl (by omega) (quoN (b := 2) (by omega) (by omega)) rfl ?_
    refine E.subN (a := s / 2) (b := 1) rfl rfl (by omega) rfl ?_
    refine E.asg rfl rfl <| E.nil <| X.next <| C.seq <| C.drawn (by kernel_rfl) (by kernel_rfl) <| Q.mv rfl rfl <| Q.mv rfl rfl <| ?_
    refine Q.rem rfl rfl (by omega) (remN (b := 2)) rfl ?_
    refine Q.addN (a := 2) (b := s % 2) rfl rfl (by omega) rfl ?_
    refine Q.mv rfl rfl <| ?_
    have hp : 2 ^ (s / 2 - 1) ≤ 2 ^ 13 := Nat.pow_le_pow_right (by decide) (by omega)
    have hp2 := Nat.mul_le_mul (show 2 + s % 2 ≤ 3 by omega) hp
    refine Q.shl rfl rfl (by omega) (shl_nat (a := 2 + s % 2) (k := s / 2 - 1) (by omega) rfl (by omega)) rfl ?_
    refine Q.addN (a := 1) (b := (2 + s % 2) * 2 ^ (s / 2 - 1)) rfl rfl (by omega) rfl ?_
    refine Q.asg rfl rfl <| Q.asg rfl rfl <| Q.nil <| fun w0 hx0 => ?_
    have hM := hM.ext hx0
    refine X.next <| C.ret <| ret2 rfl rfl rfl ?_
    exact ⟨by rw [Df.dxt, Df.dls, if_neg (by omega), if_neg (by omega)], hM.toExt⟩

theorem lengthSymbol_ret (n : Nat) (w : World) (h1 : 3 ≤ n) (h2 : n ≤ 258) :
    Ret Tryd.prog 40 #[i64 n] w fun v w' => v = i64 (Df.lsy n : Int) ∧ Ext w w' := by
  have hM := M.start w
  refine enter Tryd.func40 rfl (by kernel_rfl) Tryd.ntmps40 rfl ?_
  refine C.seq <| C.region <| E.asg rfl rfl <| E.nil <| X.next <| C.seq <| C.region <| E.asg rfl rfl <| E.nil <| X.next <| C.block <| ?_

  refine C.loop1 [(0, _)] rfl (fun (s : Nat) => [(3, i64 s)]) (fun (s : Nat) w' => M w (Nn) w' [] ∧ 257 ≤ s ∧ s ≤ 285 ∧ Df.sgo Df.lls n s = Df.lsy n) (fun (s : Nat) => s) 285 ?_ ?_ ?_
  · exact Sub.cons rfl <| Sub.nil _
  · exact ⟨hM, by omega, by omega, rfl⟩
  rintro s w0 ⟨hM, hs1, hs2, hsg⟩
  refine C.seq <| C.block <| C.seq <| C.region <| E.mv rfl rfl <| ?_
  refine E.call rfl rfl (lengthOf_ret s _ hs1 hs2) ?_
  rintro _ w1 ⟨rfl, x1⟩
  have hM := hM.ext x1
  try dsimp only [List.nil_append, List.cons_append, List.set_cons_zero, List.set_cons_succ, repl] at hM
  refine E.mv rfl rfl <| E.ext rfl rfl rfl <| E.ext rfl rfl rfl <| E.asg rfl rfl <| E.asg rfl rfl <| E.nil <| X.next <| C.seq <| C.region <| E.mv rfl rfl <| E.mv rfl rfl <| E.bin rfl rfl rfl rfl <| E.nil <| X.next <| ?_
  refine C.cond' rfl (fun hC0 => ?_) (fun hC0 => ?_)
  ·
    have hfin : Df.lsy n = s := by
      obtain ⟨q, rfl⟩ : ∃ q, s = q + 1 := ⟨s - 1, by omega⟩
      rw [← hsg, Df.sgo, if_pos (by omega)]
    refine C.seq <| C.region <| E.mv rfl rfl <| E.asg rfl rfl <| E.nil <| X.next <| C.ret <| X.retB <| X.retT <| X.retT <| X.retB <| ret1 rfl rfl ?_
    exact ⟨by rw [hfin], hM.toExt⟩
  ·
    have hne : s ≠ 257 := by rintro rfl; exact hC0 (by (have : Df.lls 257 = 3 := (by decide)); omega)
    have hsg' : Df.sgo Df.lls n (s - 1) = Df.lsy n := by
      obtain ⟨q, rfl⟩ : ∃ q, s = q + 1 := ⟨s - 1, by omega⟩
      rw [← hsg, Df.sgo, if_neg (by omega)]; rfl
    refine C.skip <| X.outN <| X.next <| C.region <| E.mv rfl rfl <| ?_
    refine E.subN (a := s) (b := 1) rfl rfl (by omega) rfl ?_

    refine E.asg rfl rfl <| E.nil <| X.again1 (s - 1) (Sub.cons rfl <| Sub.nil _) rfl ⟨hM, by omega, by omega, hsg'⟩ (by omega)

theorem distanceSymbol_ret (n : Nat) (w : World) (h1 : 1 ≤ n) :
    Ret Tryd.prog 41 #[i64 n] w fun v w' => v = i64 (Df.dsy n : Int) ∧ Ext w w' := by
  have hM := M.start w
  refine enter Tryd.func41 rfl (by kernel_rfl) Tryd.ntmps41 rfl ?_
  refine C.seq <| C.region <| E.asg rfl rfl <| E.nil <| X.next <| C.seq <| C.region <| E.asg rfl rfl <| E.nil <| X.next <| C.block <| ?_

  refine C.loop1 [(0, _)] rfl (fun (s : Nat) => [(3, i64 s)]) (fun (s : Nat) w' => M w (Nn) w' [] ∧ s ≤ 29 ∧ Df.sgo Df.dls n s = Df.dsy n) (fun (s : Nat) => s) 29 ?_ ?_ ?_
  · exact Sub.cons rfl <| Sub.nil _
  · exact ⟨hM, by omega, rfl⟩
  rintro s w0 ⟨hM, hs2, hsg⟩
  refine C.seq <| C.block <| C.seq <| C.region <| E.mv rfl rfl <| ?_
  refine E.call rfl rfl (distanceOf_ret s _ hs2) ?_
  rintro _ w1 ⟨rfl, x1⟩
  have hM := hM.ext x1
  try dsimp only [List.nil_append, List.cons_append, List.set_cons_zero, List.set_cons_succ, repl] at hM
  refine E.mv rfl rfl <| E.ext rfl rfl rfl <| E.ext rfl rfl rfl <| E.asg rfl rfl <| E.asg rfl rfl <| E.nil <| X.next <| C.seq <| C.region <| E.mv rfl rfl <| E.mv rfl rfl <| E.bin rfl rfl rfl rfl <| E.nil <| X.next <| ?_
  refine C.cond' rfl (fun hC0 => ?_) (fun hC0 => ?_)
  ·
    have hfin : Df.dsy n = s := by
      cases s with
      | zero => rw [← hsg]; rfl
      | succ q => rw [← hsg, Df.sgo, if_pos (by omega)]
    refine C.seq <| C.region <| E.mv rfl rfl <| E.asg rfl rfl <| E.nil <| X.next <| C.ret <| X.retB <| X.retT <| X.retT <| X.retB <| ret1 rfl rfl ?_
    exact ⟨by rw [hfin], hM.toExt⟩
  ·
    have hne : s ≠ 0 := by rintro rfl; exact hC0 (by (have : Df.dls 0 = 1 := (by decide)); omega)
    have hsg' : Df.sgo Df.dls n (s - 1) = Df.dsy n := by
      obtain ⟨q, rfl⟩ : ∃ q, s = q + 1 := ⟨s - 1, by omega⟩
      rw [← hsg, Df.sgo, if_neg (by omega)]; rfl
    refine C.skip <| X.outN <| X.next <| C.region <| E.mv rfl rfl <| ?_
    refine E.subN (a := s) (b := 1) rfl rfl (by omega) rfl ?_

    refine E.asg rfl rfl <| E.nil <| X.again1 (s - 1) (Sub.cons rfl <| Sub.nil _) rfl ⟨hM, by omega, hsg'⟩ (by omega)

set_option maxHeartbeats 1000000 in
theorem fixedLengths_ret (w : World) :
    Ret Tryd.prog 23 #[] w fun v w' => ∃ v4 v5, v = .tuple #[v4, v5] ∧ M w Nn w' [Rg.sl i64 3 v4 (nz Df.fixL), Rg.sl i64 3 v5 (nz Df.fixD)] := by
  have hM := M.start w
  refine enter Tryd.func23 rfl (by kernel_rfl) Tryd.ntmps23 rfl ?_
  refine C.seq <| C.region <| E.asg rfl rfl <| E.asg rfl rfl <| E.nil <| X.next <| ?_

  refine C.cut2 [] rfl (fun (v4 : Value) (v5 : Value) => [(0, v4), (1, v5)]) (fun (v4 : Value) (v5 : Value) w' => M w (Nn) w' [Rg.sl i64 3 v4 (List.replicate 288 0), Rg.sl i64 3 v5 (List.replicate 32 0)]) ?_ ?_
  ·
    refine C.heldE (by kernel_rfl) fun wh0 hwh0 _ => ?_
    have hS := hwh0
    have hM0 := hM
    have hM := M.ofExt hwh0
    refine H.two 0 1 rfl rfl (by kernel_rfl) ?_ ?_
    ·
      refine E.makeM (by_ := 8) (enc := i64) 0 hM rfl Tryd.underlying29 (by kernel_rfl) rfl (by first | omega | (simp only [List.length_replicate, List.length_append, List.length_set, List.length_cons, List.length_nil, List.length_map, List.length_range, List.length_take, List.length_drop, List.length_zipWith] at *; omega)) (by first | omega | (simp only [List.length_replicate, List.length_append, List.length_set, List.length_cons, List.length_nil, List.length_map, List.length_range, List.length_take, List.length_drop, List.length_zipWith] at *; omega)) rfl ?_
      intro v4 w1 hM
      try dsimp only [List.nil_append, List.cons_append, List.set_cons_zero, List.set_cons_succ, repl] at hM
      have hS := hM.toExt
      refine H.back hS ?_
      refine H.take 2 rfl rfl (by kernel_rfl) (by kernel_rfl) (by kernel_rfl) hS (fun w' hS => by have hM := hM0.ext hS; exact Y.asg rfl) rfl ?_
      refine H.only 1 rfl (by kernel_rfl) ?_
      refine E.makeM (by_ := 8) (enc := i64) 0 hM rfl Tryd.underlying29 (by kernel_rfl) rfl (by first | omega | (simp only [List.length_replicate, List.length_append, List.length_set, List.length_cons, List.length_nil, List.length_map, List.length_range, List.length_take, List.length_drop, List.length_zipWith] at *; omega)) (by first | omega | (simp only [List.length_replicate, List.length_append, List.length_set, List.length_cons, List.length_nil, List.length_map, List.length_range, List.length_take, List.length_drop, List.length_zipWith] at *; omega)) rfl ?_
      intro v5 w2 hM
      try dsimp only [List.nil_append, List.cons_append, List.set_cons_zero, List.set_cons_succ, repl] at hM
      have hS := hM.toExt
      refine H.back hS ?_
      refine H.take 3 rfl rfl (by kernel_rfl) (by kernel_rfl) (by kernel_rfl) hS (fun w' hS => by have hM := hM0.ext hS; exact Y.asg rfl) rfl ?_
      refine H.done (by kernel_rfl) ?_
      have hM := hM0.call hM

      refine X.join2 v4 v5 (Sub.cons rfl <| Sub.cons rfl <| Sub.nil _) rfl hM
    ·
      refine E.makeM (by_ := 8) (enc := i64) 0 hM rfl Tryd.underlying29 (by kernel_rfl) rfl (by first | omega | (simp only [List.length_replicate, List.length_append, List.length_set, List.length_cons, List.length_nil, List.length_map, List.length_range, List.length_take, List.length_drop, List.length_zipWith] at *; omega)) (by first | omega | (simp only [List.length_replicate, List.length_append, List.length_set, List.length_cons, List.length_nil, List.length_map, List.length_range, List.length_take, List.length_drop, List.length_zipWith] at *; omega)) rfl ?_
      intro v5 w3 hM
      try dsimp only [List.nil_append, List.cons_append, List.set_cons_zero, List.set_cons_succ, repl] at hM
      have hS := hM.toExt
      refine H.back hS ?_
      refine H.only 0 rfl (by kernel_rfl) ?_
      refine E.makeM (by_ := 8) (enc := i64) 0 hM rfl Tryd.underlying29 (by kernel_rfl) rfl (by first | omega | (simp only [List.length_replicate, List.length_append, List.length_set, List.length_cons, List.length_nil, List.length_map, List.length_range, List.length_take, List.length_drop, List.length_zipWith] at *; omega)) (by first | omega | (simp only [List.length_replicate, List.length_append, List.length_set, List.length_cons, List.length_nil, List.length_map, List.length_range, List.length_take, List.length_drop, List.length_zipWith] at *; omega)) rfl ?_
      intro v4 w4 hM
      try dsimp only [List.nil_append, List.cons_append, List.set_cons_zero, List.set_cons_succ, repl] at hM
      have hS := hM.toExt
      refine H.back hS ?_
      refine H.take 2 rfl rfl (by kernel_rfl) (by kernel_rfl) (by kernel_rfl) hS (fun w' hS => by have hM := hM0.ext hS; exact Y.asg rfl) rfl ?_
      refine H.take 3 rfl rfl (by kernel_rfl) (by kernel_rfl) (by kernel_rfl) hS (fun w' hS => by have hM := hM0.ext hS; exact Y.asg rfl) rfl ?_
      refine H.done (by kernel_rfl) ?_
      have hM := hM0.call hM

      refine X.join2 v4 v5 (Sub.cons rfl <| Sub.cons rfl <| Sub.nil _) rfl (hM.pick [1, 0] (by decide))
  rintro v4 v5 w5 hM
  refine C.seq <| C.seq <| C.region <| E.mv rfl rfl <| ?_
  refine E.lenv rfl (Rd.shape (hM.sl 0 rfl)) Tryd.underlying29 rfl ?_
  rw [List.length_replicate]
  refine E.mv rfl rfl <| E.nil <| X.next <| C.block <| ?_

  refine C.loop1 [(0, _), (1, _), (7, _)] rfl (fun (k : Nat) => [(8, i64 k)]) (fun (k : Nat) w' => M w (Nn) w' [Rg.sl i64 3 v4 (tab k (fun i => (Df.fxl i : Int)) ++ List.replicate (288 - k) 0), Rg.sl i64 3 v5 (List.replicate 32 0)] ∧ k ≤ 288) (fun (k : Nat) => 288 - k) 0 ?_ ?_ ?_
  · exact Sub.cons rfl <| Sub.nil _
  · exact ⟨hM, by omega⟩
  rintro k w6 ⟨hM, hk⟩
  refine C.seq <| C.region <| E.bin rfl rfl rfl rfl <| E.nil <| X.next <| C.seq <| ?_
  refine C.cond' rfl (fun hC0 => ?_) (fun hC0 => ?_)
  ·
    have hk' : k < 288 := by omega
    have htl : (tab k (fun i => (Df.fxl i : Int)) ++ List.replicate (288 - k) (0 : Int)).length = 288 := by rw [List.length_append, tab_len, List.length_replicate]; omega
    refine C.skip <| X.next <| ?_

    refine C.cut0 [(0, _), (1, _), (7, _), (8, _)] rfl [] (fun w' => M w (Nn) w' [Rg.sl i64 3 v4 (tab (k + 1) (fun i => (Df.fxl i : Int)) ++ List.replicate (288 - (k + 1)) 0), Rg.sl i64 3 v5 (List.replicate 32 0)]) ?_ ?_
    ·
      refine C.block <| C.seq <| C.region <| E.mv rfl rfl <| E.asg rfl rfl <| E.nil <| X.next <| C.block <| C.seq <| C.region <| E.mv rfl rfl <| E.bin rfl rfl rfl rfl <| E.asg rfl rfl <| E.nil <| X.next <| ?_
      refine C.cond' rfl (fun hC1 => ?_) (fun hC1 => ?_)
      ·
        refine C.region <| E.mv rfl rfl <| E.mv rfl rfl <| ?_
        refine E.idx1 (k := k) rfl rfl (hM.sl 0 rfl) rfl (by rw [htl]; omega) Tryd.underlying29 (by kernel_rfl) rfl ?_
        refine E.storeL (enc := i64) 0 8 hM rfl rfl rfl (by kernel_rfl) rfl rfl (by rw [htl]; omega) ?_
        intro w7 hM
        try dsimp only [List.nil_append, List.cons_append, List.set_cons_zero, List.set_cons_succ, repl] at hM

        refine E.nil <| X.outN <| X.outN <| X.join0  (Sub.nil _) rfl (hM.to (by rw [← tab_set hk', show ((Df.fxl k : Nat) : Int) = 8 by unfold Df.fxl; split <;> (try split) <;> (try split) <;> omega]))
      ·
        refine C.seq <| C.region <| E.mv rfl rfl <| E.bin rfl rfl rfl rfl <| E.asg rfl rfl <| E.nil <| X.next <| ?_
        refine C.cond' rfl (fun hC2 => ?_) (fun hC2 => ?_)
        ·
          refine C.region <| E.mv rfl rfl <| E.mv rfl rfl <| ?_
          refine E.idx1 (k := k) rfl rfl (hM.sl 0 rfl) rfl (by rw [htl]; omega) Tryd.underlying29 (by kernel_rfl) rfl ?_
          refine E.storeL (enc := i64) 0 9 hM rfl rfl rfl (by kernel_rfl) rfl rfl (by rw [htl]; omega) ?_
          intro w8 hM
          try dsimp only [List.nil_append, List.cons_append, List.set_cons_zero, List.set_cons_succ, repl] at hM

          refine E.nil <| X.outN <| X.outN <| X.join0  (Sub.nil _) rfl (hM.to (by rw [← tab_set hk', show ((Df.fxl k : Nat) : Int) = 9 by unfold Df.fxl; split <;> (try split) <;> (try split) <;> omega]))
        ·
          refine C.seq <| C.region <| E.mv rfl rfl <| E.bin rfl rfl rfl rfl <| E.asg rfl rfl <| E.nil <| X.next <| ?_
          refine C.cond' rfl (fun hC3 => ?_) (fun hC3 => ?_)
          ·
            refine C.region <| E.mv rfl rfl <| E.mv rfl rfl <| ?_
            refine E.idx1 (k := k) rfl rfl (hM.sl 0 rfl) rfl (by rw [htl]; omega) Tryd.underlying29 (by kernel_rfl) rfl ?_
            refine E.storeL (enc := i64) 0 7 hM rfl rfl rfl (by kernel_rfl) rfl rfl (by rw [htl]; omega) ?_
            intro w9 hM
            try dsimp only [List.nil_append, List.cons_append, List.set_cons_zero, List.set_cons_succ, repl] at hM

            refine E.nil <| X.outN <| X.outN <| X.join0  (Sub.nil _) rfl (hM.to (by rw [← tab_set hk', show ((Df.fxl k : Nat) : Int) = 7 by unfold Df.fxl; split <;> (try split) <;> (try split) <;> omega]))
          ·
            refine C.region <| E.mv rfl rfl <| E.mv rfl rfl <| ?_
            refine E.idx1 (k := k) rfl rfl (hM.sl 0 rfl) rfl (by rw [htl]; omega) Tryd.underlying29 (by kernel_rfl) rfl ?_
            refine E.storeL (enc := i64) 0 8 hM rfl rfl rfl (by kernel_rfl) rfl rfl (by rw [htl]; omega) ?_
            intro w10 hM
            try dsimp only [List.nil_append, List.cons_append, List.set_cons_zero, List.set_cons_succ, repl] at hM

            refine E.nil <| X.outN <| X.outN <| X.join0  (Sub.nil _) rfl (hM.to (by rw [← tab_set hk', show ((Df.fxl k : Nat) : Int) = 8 by unfold Df.fxl; split <;> (try split) <;> (try split) <;> omega]))
    rintro  w11 hM
    refine C.region <| ?_
    refine E.add rfl rfl (by omega) rfl ?_

    refine E.mv rfl rfl <| E.nil <| X.again1 (k + 1) (Sub.cons rfl <| Sub.nil _) rfl ⟨hM, by omega⟩ (by omega)
  ·
    obtain rfl : k = 288 := by omega
    rw [show List.replicate (288 - 288) (0 : Int) = [] from rfl, List.append_nil, ← Df.nz_tab] at hM
    have hM := hM.to (show _ = [Rg.sl i64 3 v4 (nz Df.fixL), Rg.sl i64 3 v5 (List.replicate 32 0)] from rfl)
    refine C.exit <| X.exitT <| X.exitT <| X.outE <| X.next <| C.seq <| C.seq <| C.region <| E.mv rfl rfl <| ?_
    refine E.lenv rfl (Rd.shape (hM.sl 1 rfl)) Tryd.underlying29 rfl ?_
    rw [List.length_replicate]
    refine E.mv rfl rfl <| E.nil <| X.next <| C.block <| ?_

    refine C.loop1 [(0, _), (1, _), (34, _)] rfl (fun (k : Nat) => [(35, i64 k)]) (fun (k : Nat) w' => M w (Nn) w' [Rg.sl i64 3 v4 (nz Df.fixL), Rg.sl i64 3 v5 (tab k (fun _ => (5 : Int)) ++ List.replicate (32 - k) 0)] ∧ k ≤ 32) (fun (k : Nat) => 32 - k) 0 ?_ ?_ ?_
    · exact Sub.cons rfl <| Sub.nil _
    · exact ⟨hM, by omega⟩
    rintro k w12 ⟨hM, hk⟩
    refine C.seq <| C.region <| E.bin rfl rfl rfl rfl <| E.nil <| X.next <| C.seq <| ?_
    refine C.cond' rfl (fun hC4 => ?_) (fun hC4 => ?_)
    ·
      have hk' : k < 32 := by omega
      have htl : (tab k (fun _ => (5 : Int)) ++ List.replicate (32 - k) (0 : Int)).length = 32 := by rw [List.length_append, tab_len, List.length_replicate]; omega
      refine C.skip <| X.next <| C.seq <| C.block <| C.seq <| C.region <| E.mv rfl rfl <| E.asg rfl rfl <| E.nil <| X.next <| C.region <| E.mv rfl rfl <| E.mv rfl rfl <| ?_
      refine E.idx1 (k := k) rfl rfl (hM.sl 1 rfl) rfl (by rw [htl]; omega) Tryd.underlying29 (by kernel_rfl) rfl ?_
      refine E.storeL (enc := i64) 1 5 hM rfl rfl rfl (by kernel_rfl) rfl rfl (by rw [htl]; omega) ?_
      intro w13 hM
      try dsimp only [List.nil_append, List.cons_append, List.set_cons_zero, List.set_cons_succ, repl] at hM
      refine E.nil <| X.outN <| X.next <| C.region <| ?_
      refine E.add rfl rfl (by omega) rfl ?_

      refine E.mv rfl rfl <| E.nil <| X.again1 (k + 1) (Sub.cons rfl <| Sub.nil _) rfl ⟨hM.to (by rw [← tab_set hk']), by omega⟩ (by omega)
    ·
      obtain rfl : k = 32 := by omega
      rw [show List.replicate (32 - 32) (0 : Int) = [] from rfl, List.append_nil] at hM
      refine C.exit <| X.exitT <| X.exitT <| X.outE <| X.next <| C.seq <| C.region <| E.mv rfl rfl <| E.mv rfl rfl <| E.asg rfl rfl <| E.asg rfl rfl <| E.nil <| X.next <| C.ret <| ret2 rfl rfl rfl ?_
      exact ⟨v4, v5, rfl, hM.to (by rw [show nz Df.fixD = tab 32 (fun _ => (5 : Int)) from Df.nz_tab 32 _])⟩

end Go.Proofs.YtcmgbjmcklfkcaaDoor
