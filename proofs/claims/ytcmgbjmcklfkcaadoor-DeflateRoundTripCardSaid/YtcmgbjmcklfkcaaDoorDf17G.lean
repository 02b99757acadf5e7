/- deflate: bits and symbols are read. -/
import Derived.Test.YtcmgbjmcklfkcaaDoorDf16G
namespace Go.Proofs.YtcmgbjmcklfkcaaDoor
set_option linter.unusedSimpArgs false
set_option linter.unusedVariables false
open Go.RowKit Sym

theorem shr_u8 {c k : Nat} (hk : k ≤ 7) : (c : Int) / 2 ^ min ((k : Int)).toNat IntKind.u8.bits = ((c / 2 ^ k : Nat) : Int) := by
  have e1 : min ((k : Int)).toNat IntKind.u8.bits = k := by rw [Int.toNat_natCast]; simp [IntKind.bits]; omega
  rw [e1]; simp
theorem and7 (a : Nat) (h : a ≤ 9223372036854775807) : bits .and .i64 (a : Int) 7 = ((a % 8 : Nat) : Int) := by
  have h1 := i64_and_nat a 7 (by omega) (by omega)
  have h2 : a &&& 7 = a % 8 := Nat.and_two_pow_sub_one_eq_mod a 3
  rw [h2] at h1; exact h1
theorem and1u8 (a : Nat) (h : a < 256) : bits .and .u8 (a : Int) 1 = ((a % 2 : Nat) : Int) := by
  have h1 := u8_and_nat a 1 h (by decide)
  rw [Nat.and_one_is_mod] at h1; exact h1
theorem shr3 (a : Nat) : (a : Int) / 2 ^ min (3 : Int).toNat IntKind.i64.bits = ((a / 8 : Nat) : Int) := shr_nat (c := a) (k := 3) (by decide)
theorem or_i64 {a x k : Nat} (hk : k ≤ 61) (ha : a < 2 ^ k) (hx : x ≤ 1) : bits .or .i64 (a : Int) ((x * 2 ^ k : Nat) : Int) = ((a + x * 2 ^ k : Nat) : Int) := by
  have h1 : 2 ^ k ≤ 2 ^ 61 := Nat.pow_le_pow_right (by decide) hk
  have h2 : x * 2 ^ k ≤ 1 * 2 ^ k := Nat.mul_le_mul_right _ hx
  rw [i64_or_nat _ _ (by omega) (by omega), Nat.or_comm, Nat.mul_comm, ← Nat.two_pow_add_eq_or_of_lt ha, Nat.add_comm]
theorem or_one {a x : Nat} (ha : a ≤ 1000000000000) (hx : x ≤ 1) : bits .or .i64 ((2 * a : Nat) : Int) (x : Int) = ((2 * a + x : Nat) : Int) := by
  rw [i64_or_nat _ _ (by omega) (by omega)]
  have := Nat.two_pow_add_eq_or_of_lt (i := 1) (b := x) (by omega) a
  rw [Nat.pow_one] at this; rw [← this]
/-- the bit at a place -/
theorem bit_at {l : List UInt8} {j : Nat} (h : j < 8 * l.length) : (l[j / 8]'(by omega)).toNat / 2 ^ (j % 8) % 2 = if (Df.ub l).getD j false then 1 else 0 := by
  rw [Df.ub_getD h, gdU (show j / 8 < l.length by omega)]
  unfold Df.bit
  by_cases c : (l[j / 8]'(by omega)).toNat / 2 ^ (j % 8) % 2 = 1
  · rw [if_pos (decide_eq_true c)]; exact c
  · rw [if_neg (by rw [decide_eq_true_eq]; exact c)]; omega
theorem ite_mul (c : Bool) (k : Nat) : (if c then 1 else 0) * 2 ^ k = if c then 2 ^ k else 0 := by cases c <;> simp
theorem tkv_next {l : List UInt8} {a k : Nat} (h : a + k < 8 * l.length) : tkv (Df.ub l) a (k + 1) = 2 * tkv (Df.ub l) a k + (l[(a + k) / 8]'(by omega)).toNat / 2 ^ ((a + k) % 8) % 2 := by
  have hl := Df.ub_len l
  rw [tkv_succ (by omega), bit_at h, List.getD_eq_getElem?_getD, List.getElem?_eq_getElem (by omega)]; rfl
/-- what a reader's function answers -/
def Rds {α : Type} (r : Except Int (α × Nat)) (x : α) (a : Nat) (e : Int) : Prop := (e = 0 ∧ r = .ok (x, a)) ∨ (e ≠ 0 ∧ r = .error e)
theorem Rds.ok {α : Type} {r : Except Int (α × Nat)} {x : α} {a : Nat} (h : r = .ok (x, a)) : Rds r x a 0 := .inl ⟨rfl, h⟩
theorem Rds.err {α : Type} {r : Except Int (α × Nat)} {x : α} {a : Nat} {e : Int} (he : e ≠ 0) (h : r = .error e) : Rds r x a e := .inr ⟨he, h⟩
theorem Rds.good {α : Type} {r : Except Int (α × Nat)} {x : α} {a : Nat} {e : Int} (h : Rds r x a e) (he : ¬ e ≠ 0) : r = .ok (x, a) := h.elim (fun h => h.2) fun h => (he h.1).elim
theorem Rds.bad {α : Type} {r : Except Int (α × Nat)} {x : α} {a : Nat} {e : Int} (h : Rds r x a e) (he : e ≠ 0) : r = .error e := h.elim (fun h => (he h.1).elim) fun h => h.2
set_option maxHeartbeats 2000000 in
set_option maxRecDepth 4000 in
theorem sbits_ret (n : Nat) (b a lim : Nat) (p vo fv : Value) (l : List UInt8) (w : World) (hs : Sep w [Rg.blk b 74 [p, i64 ((a : Nat) : Int), i64 (lim : Int), vo, fv]]) (hp : RdL u8 w p l) (ho : Off (fpU [Rg.blk b 74 [p, i64 ((a : Nat) : Int), i64 (lim : Int), vo, fv]]) p l) (ha : a ≤ 8 * l.length) (hl : l.length ≤ 1099511627776) (hn : n ≤ 30) :
    Ret Tryd.prog 63 #[pv b, i64 n] w fun v w' => ∃ (x a' : Nat) (e : Int), v = .tuple #[i64 (x : Int), i64 e] ∧ M w (fpU [Rg.blk b 74 [p, i64 ((a : Nat) : Int), i64 (lim : Int), vo, fv]]) w' [Rg.blk b 74 [p, i64 ((a' : Nat) : Int), i64 (lim : Int), vo, fv]] ∧ Rds (Df.rbits n (Df.ub l) a) x a' e := by
  have hM := M.startS hs
  refine enter Tryd.func63 rfl (by kernel_rfl) Tryd.ntmps63 rfl ?_
  refine C.seq <| C.region <| E.asg rfl rfl <| E.asg rfl rfl <| E.nil <| X.next <| C.seq <| C.seq <| C.drawn (by kernel_rfl) (by kernel_rfl) <| Q.mv rfl rfl <| Q.nilc rfl rfl <| ?_
  refine Q.fld (o := 1) (sz := 0) rfl Tryd.underlying74 rfl rfl (by kernel_rfl) rfl ?_
  have hul := Df.ub_len l
  refine Q.load rfl Tryd.underlying3 rfl (hM.bcell 0 rfl rfl) rfl ?_
  refine Q.mv rfl rfl <| ?_
  refine Q.addN (a := a) (b := n) rfl rfl (by omega) rfl ?_
  refine Q.mv rfl rfl <| Q.nilc rfl rfl <| ?_
  refine Q.fld (o := 0) (sz := 0) rfl Tryd.underlying74 rfl rfl (by kernel_rfl) rfl ?_
  refine Q.load rfl Tryd.underlying22 rfl (hM.bcell 0 rfl rfl) rfl ?_
  refine Q.lenv rfl (Rd.shape (hM.arg hp ho)) Tryd.underlying22 rfl ?_
  refine Q.mulN (a := 8) (b := l.length) rfl rfl (by omega) rfl ?_
  refine Q.bin rfl rfl rfl rfl <| Q.nil <| fun w0 hx0 => ?_
  have hM := hM.ext hx0
  refine X.next <| ?_
  refine C.cond' rfl (fun hC0 => ?_) (fun hC0 => ?_)
  ·
    refine C.seq <| C.region <| E.asg rfl rfl <| E.asg rfl rfl <| E.nil <| X.next <| C.ret <| X.retT <| ret2 rfl rfl rfl ?_
    exact ⟨0, a, 10, rfl, hM, .err (by decide) (by rw [Df.rbits, if_pos (by omega)])⟩
  ·
    have hr : Df.rbits n (Df.ub l) a = .ok (Df.bs (Df.ub l) a n, a + n) := by rw [Df.rbits, if_neg (by omega)]
    refine C.skip <| X.next <| C.seq <| C.region <| E.asg rfl rfl <| E.nil <| X.next <| C.seq <| C.seq <| C.region <| E.mv rfl rfl <| E.mv rfl rfl <| E.nil <| X.next <| C.block <| ?_

    refine C.loop1 [(0, _), (21, _)] rfl (fun (i : Nat) => [(6, i64 (Df.bs (Df.ub l) a i : Int)), (22, i64 i)]) (fun (i : Nat) w' => M w (fpU [Rg.blk b 74 [p, i64 ((a : Nat) : Int), i64 (lim : Int), vo, fv]]) w' [Rg.blk b 74 [p, i64 ((a + i : Nat) : Int), i64 (lim : Int), vo, fv]] ∧ i ≤ n) (fun (i : Nat) => n - i) 0 ?_ ?_ ?_
    · exact Sub.cons rfl <| Sub.cons rfl <| Sub.nil _
    · exact ⟨hM, Nat.zero_le _⟩
    rintro i w1 ⟨hM, hi⟩
    refine C.seq <| C.region <| E.bin rfl rfl rfl rfl <| E.nil <| X.next <| C.seq <| ?_
    refine C.cond' rfl (fun hC1 => ?_) (fun hC1 => ?_)
    ·
      have hi' : a + i < 8 * l.length := by omega
      have hb8 := (l[(a + i) / 8]'(by omega)).toNat_lt
      have hdv : (l[(a + i) / 8]'(by omega)).toNat / 2 ^ ((a + i) % 8) ≤ (l[(a + i) / 8]'(by omega)).toNat := Nat.div_le_self _ _
      have hbt := bit_at hi'
      have hbl := Df.bs_lt (Df.ub l) a i
      have hbs := Df.bs_succ (Df.ub l) a i
      have hp2 : 2 ^ i ≤ 2 ^ 29 := Nat.pow_le_pow_right (by decide) (by omega)
      have hx1 : (l[(a + i) / 8]'(by omega)).toNat / 2 ^ ((a + i) % 8) % 2 ≤ 1 := by omega
      have hm1 := Nat.mul_le_mul_right (2 ^ i) hx1
      refine C.skip <| X.next <| C.seq <| C.block <| C.seq <| C.region <| E.mv rfl rfl <| E.asg rfl rfl <| E.nil <| X.next <| C.seq <| C.drawn (by kernel_rfl) (by kernel_rfl) <| Q.mv rfl rfl <| Q.mv rfl rfl <| Q.nilc rfl rfl <| ?_
      refine Q.fld (o := 0) (sz := 0) rfl Tryd.underlying74 rfl rfl (by kernel_rfl) rfl ?_
      refine Q.load rfl Tryd.underlying22 rfl (hM.bcell 0 rfl rfl) rfl ?_
      refine Q.mv rfl rfl <| Q.nilc rfl rfl <| ?_
      refine Q.fld (o := 1) (sz := 0) rfl Tryd.underlying74 rfl rfl (by kernel_rfl) rfl ?_
      refine Q.load rfl Tryd.underlying3 rfl (hM.bcell 0 rfl rfl) rfl ?_
      refine Q.shr rfl rfl (by decide) (shr3 _) rfl ?_
      refine Q.idx1 (k := (a + i) / 8) rfl rfl (hM.arg hp ho) rfl (by omega) Tryd.underlying22 (by kernel_rfl) rfl ?_
      refine Q.load rfl Tryd.underlying5 rfl ((hM.arg hp ho).cell (by omega)) rfl ?_
      refine Q.mv rfl rfl <| Q.nilc rfl rfl <| ?_
      refine Q.fld (o := 1) (sz := 0) rfl Tryd.underlying74 rfl rfl (by kernel_rfl) rfl ?_
      refine Q.load rfl Tryd.underlying3 rfl (hM.bcell 0 rfl rfl) rfl ?_
      refine Q.binw rfl rfl rfl (congrArg _ (and7 (a + i) (by omega))) rfl ?_
      refine Q.shr rfl rfl (by omega) (shr_u8 (by omega)) rfl ?_
      refine Q.binw rfl rfl rfl (congrArg _ (and1u8 _ (by omega))) rfl ?_
      refine Q.conv rfl Tryd.underlying5 Tryd.underlying3 (IntWalk.i64_in _ (by omega)) rfl ?_
      refine Q.mv rfl rfl <| ?_
      refine Q.shl rfl rfl (by omega) (shl_nat (k := i) (by omega) rfl (by omega)) rfl ?_
      refine Q.binw rfl rfl rfl (congrArg _ (or_i64 (by omega) hbl hx1)) rfl ?_
      refine Q.asg rfl rfl <| Q.nil <| fun w2 hx2 => ?_
      have hM := hM.ext hx2
      refine X.next <| C.region <| E.mv rfl rfl <| E.nilc rfl rfl <| ?_
      refine E.fld (o := 1) (sz := 0) rfl Tryd.underlying74 rfl rfl (by kernel_rfl) rfl ?_
      refine E.load rfl Tryd.underlying3 rfl (hM.bcell 0 rfl rfl) rfl ?_
      refine E.addN (a := a + i) (b := 1) rfl rfl (by omega) rfl ?_
      refine E.nilc rfl rfl <| ?_
      refine E.fld (o := 1) (sz := 0) rfl Tryd.underlying74 rfl rfl (by kernel_rfl) rfl ?_
      refine E.storeM 0 hM rfl rfl rfl (by kernel_rfl) rfl rfl ?_
      intro w3 hM
      try dsimp only [List.nil_append, List.cons_append, List.set_cons_zero, List.set_cons_succ, repl] at hM
      refine E.nil <| X.outN <| X.next <| C.region <| ?_
      refine E.addN (a := i) (b := 1) rfl rfl (by omega) rfl ?_

      refine E.mv rfl rfl <| E.nil <| X.again1 (i + 1) (Sub.cons (look_val rfl (by rw [hbs, hbt, ite_mul])) <| Sub.cons rfl <| Sub.nil _) rfl ⟨hM, by omega⟩ (by omega)
    ·
      obtain rfl : i = n := by omega
      refine C.exit <| X.exitT <| X.exitT <| X.outE <| X.next <| C.seq <| C.region <| E.mv rfl rfl <| E.asg rfl rfl <| E.asg rfl rfl <| E.nil <| X.next <| C.ret <| ret2 rfl rfl rfl ?_
      exact ⟨_, a + i, 0, rfl, hM, .ok hr⟩

set_option maxHeartbeats 4000000 in
set_option maxRecDepth 4000 in
theorem ssym_ret (bd : Nat) (vs : Value) (L : List Nat) (b a lim : Nat) (p vo fv : Value) (l : List UInt8) (w : World) (hs : Sep w [Rg.blk b 74 [p, i64 ((a : Nat) : Int), i64 (lim : Int), vo, fv], Sym.Ax bd 132 16 (fun n => (Df.cn L n : Int)) [vs, i64 (Df.mx L : Int)], Rg.sl i64 3 vs (nz (Pf.od L))]) (hp : RdL u8 w p l) (ho : Off (fpU [Rg.blk b 74 [p, i64 ((a : Nat) : Int), i64 (lim : Int), vo, fv], Sym.Ax bd 132 16 (fun n => (Df.cn L n : Int)) [vs, i64 (Df.mx L : Int)], Rg.sl i64 3 vs (nz (Pf.od L))]) p l) (ha : a ≤ 8 * l.length) (hl : l.length ≤ 1099511627776) (hc : Df.Code L) (hcL : L.length ≤ 4294967296) :
    Ret Tryd.prog 89 #[pv b, pv bd] w fun v w' => ∃ (x a' : Nat) (e : Int), v = .tuple #[i64 (x : Int), i64 e] ∧ M w (fpU [Rg.blk b 74 [p, i64 ((a : Nat) : Int), i64 (lim : Int), vo, fv], Sym.Ax bd 132 16 (fun n => (Df.cn L n : Int)) [vs, i64 (Df.mx L : Int)], Rg.sl i64 3 vs (nz (Pf.od L))]) w' [Rg.blk b 74 [p, i64 ((a' : Nat) : Int), i64 (lim : Int), vo, fv], Sym.Ax bd 132 16 (fun n => (Df.cn L n : Int)) [vs, i64 (Df.mx L : Int)], Rg.sl i64 3 vs (nz (Pf.od L))] ∧ Rds (Df.rsym L (Df.ub l) a) x a' e := by
  have hM := M.startS hs
  refine enter Tryd.func89 rfl (by kernel_rfl) Tryd.ntmps89 rfl ?_
  refine C.seq <| C.region <| E.asg rfl rfl <| E.asg rfl rfl <| E.nil <| X.next <| C.seq <| C.region <| E.asg rfl rfl <| E.asg rfl rfl <| E.asg rfl rfl <| E.nil <| X.next <| C.seq <| C.seq <| C.region <| E.asg rfl rfl <| E.nil <| X.next <| C.block <| ?_
  have hul := Df.ub_len l
  have hmx : Df.mx L ≤ 15 := Df.mx_bd L 0 (by decide) hc.le

  refine C.loop1 [(0, _), (1, _)] rfl (fun (k : Nat) => [(6, i64 ((2 * tkv (Df.ub l) a k : Nat) : Int)), (7, i64 (Df.fc L (k + 1) : Int)), (8, i64 (Pf.nx L (k + 1) : Int)), (9, i64 ((k + 1 : Nat) : Int))]) (fun (k : Nat) w' => M w (fpU [Rg.blk b 74 [p, i64 ((a : Nat) : Int), i64 (lim : Int), vo, fv], Sym.Ax bd 132 16 (fun n => (Df.cn L n : Int)) [vs, i64 (Df.mx L : Int)], Rg.sl i64 3 vs (nz (Pf.od L))]) w' [Rg.blk b 74 [p, i64 ((a + k : Nat) : Int), i64 (lim : Int), vo, fv], Sym.Ax bd 132 16 (fun n => (Df.cn L n : Int)) [vs, i64 (Df.mx L : Int)], Rg.sl i64 3 vs (nz (Pf.od L))] ∧ k ≤ Df.mx L ∧ a + k ≤ 8 * l.length ∧ Df.rgo L (Df.ub l) a (Df.mx L - k) k = Df.rsym L (Df.ub l) a ∧ Df.fc L (k + 1) ≤ 2 * tkv (Df.ub l) a k) (fun (k : Nat) => 16 - k) 0 ?_ ?_ ?_
  · exact Sub.cons (look_val rfl (by rw [tkv_zero]; rfl)) <| Sub.cons (look_val rfl (by rw [Df.fc_one]; rfl)) <| Sub.cons rfl <| Sub.cons rfl <| Sub.nil _
  · exact ⟨hM, Nat.zero_le _, ha, rfl, by rw [Df.fc_one]; exact Nat.zero_le _⟩
  rintro k w0 ⟨hM, hk, hak, hrg, hfc⟩
  refine C.seq <| C.seq <| C.region <| E.mv rfl rfl <| E.mv rfl rfl <| E.nilc rfl rfl <| ?_
  refine E.fld (o := 17) (sz := 0) rfl Tryd.underlying132 rfl rfl (by kernel_rfl) rfl ?_
  refine E.load rfl Tryd.underlying3 rfl (hM.axT 1 1 rfl rfl) rfl ?_
  refine E.bin rfl rfl rfl rfl <| E.nil <| X.next <| ?_
  refine C.cond' rfl (fun hC0 => ?_) (fun hC0 => ?_)
  ·
    have hk' : k < Df.mx L := by omega
    obtain ⟨fu, hfu⟩ : ∃ fu, Df.mx L - k = fu + 1 := ⟨Df.mx L - k - 1, by omega⟩
    rw [hfu, Df.rgo] at hrg
    refine C.skip <| X.next <| C.seq <| C.block <| C.seq <| C.seq <| C.drawn (by kernel_rfl) (by kernel_rfl) <| Q.mv rfl rfl <| Q.nilc rfl rfl <| ?_
    refine Q.fld (o := 1) (sz := 0) rfl Tryd.underlying74 rfl rfl (by kernel_rfl) rfl ?_
    refine Q.load rfl Tryd.underlying3 rfl (hM.bcell 0 rfl rfl) rfl ?_
    refine Q.mv rfl rfl <| Q.nilc rfl rfl <| ?_
    refine Q.fld (o := 0) (sz := 0) rfl Tryd.underlying74 rfl rfl (by kernel_rfl) rfl ?_
    refine Q.load rfl Tryd.underlying22 rfl (hM.bcell 0 rfl rfl) rfl ?_
    refine Q.lenv rfl (Rd.shape (hM.arg hp ho)) Tryd.underlying22 rfl ?_
    refine Q.mulN (a := 8) (b := l.length) rfl rfl (by omega) rfl ?_
    refine Q.bin rfl rfl rfl rfl <| Q.nil <| fun w1 hx1 => ?_
    have hM := hM.ext hx1
    refine X.next <| ?_
    refine C.cond' rfl (fun hC1 => ?_) (fun hC1 => ?_)
    ·
      rw [if_pos (by omega)] at hrg
      refine C.seq <| C.region <| E.asg rfl rfl <| E.asg rfl rfl <| E.nil <| X.next <| C.ret <| X.retT <| X.retB <| X.retT <| X.retT <| X.retB <| X.retT <| ret2 rfl rfl rfl ?_
      exact ⟨0, a + k, 10, rfl, hM, .err (by decide) hrg.symm⟩
    ·
      rw [if_neg (by omega)] at hrg
      have hi' : a + k < 8 * l.length := by omega
      have hb8 := (l[(a + k) / 8]'(by omega)).toNat_lt
      have hdv : (l[(a + k) / 8]'(by omega)).toNat / 2 ^ ((a + k) % 8) ≤ (l[(a + k) / 8]'(by omega)).toNat := Nat.div_le_self _ _
      have htn := tkv_next hi'
      have hx1 : (l[(a + k) / 8]'(by omega)).toNat / 2 ^ ((a + k) % 8) % 2 ≤ 1 := by omega
      have htk := tkv_40 (b := Df.ub l) (a := a) (n := k) (by omega) (by omega)
      have htk1 := tkv_40 (b := Df.ub l) (a := a) (n := k + 1) (by omega) (by omega)
      have hfl : Df.fc L (k + 1) ≤ 1073741824 := Pf.np_le hc.b30 hc.kr (by omega) (Nat.zero_le _)
      have hcl : Df.cn L (k + 1) ≤ L.length := Pf.cnt_le (Nat.le_refl _)
      have hnr := Df.nx_run (l := L) (n := k + 1) (by omega)
      have hod := Pf.od_le L
      refine C.skip <| X.next <| C.seq <| C.drawn (by kernel_rfl) (by kernel_rfl) <| Q.mv rfl rfl <| Q.mv rfl rfl <| Q.nilc rfl rfl <| ?_
      refine Q.fld (o := 0) (sz := 0) rfl Tryd.underlying74 rfl rfl (by kernel_rfl) rfl ?_
      refine Q.load rfl Tryd.underlying22 rfl (hM.bcell 0 rfl rfl) rfl ?_
      refine Q.mv rfl rfl <| Q.nilc rfl rfl <| ?_
      refine Q.fld (o := 1) (sz := 0) rfl Tryd.underlying74 rfl rfl (by kernel_rfl) rfl ?_
      refine Q.load rfl Tryd.underlying3 rfl (hM.bcell 0 rfl rfl) rfl ?_
      refine Q.shr rfl rfl (by decide) (shr3 _) rfl ?_
      refine Q.idx1 (k := (a + k) / 8) rfl rfl (hM.arg hp ho) rfl (by omega) Tryd.underlying22 (by kernel_rfl) rfl ?_
      refine Q.load rfl Tryd.underlying5 rfl ((hM.arg hp ho).cell (by omega)) rfl ?_
      refine Q.mv rfl rfl <| Q.nilc rfl rfl <| ?_
      refine Q.fld (o := 1) (sz := 0) rfl Tryd.underlying74 rfl rfl (by kernel_rfl) rfl ?_
      refine Q.load rfl Tryd.underlying3 rfl (hM.bcell 0 rfl rfl) rfl ?_
      refine Q.binw rfl rfl rfl (congrArg _ (and7 (a + k) (by omega))) rfl ?_
      refine Q.shr rfl rfl (by omega) (shr_u8 (by omega)) rfl ?_
      refine Q.binw rfl rfl rfl (congrArg _ (and1u8 _ (by omega))) rfl ?_
      refine Q.conv rfl Tryd.underlying5 Tryd.underlying3 (IntWalk.i64_in _ (by omega)) rfl ?_
      refine Q.binw rfl rfl rfl (congrArg _ (or_one (by omega) hx1)) rfl ?_
      rw [← htn]
      refine Q.asg rfl rfl <| Q.nil <| fun w2 hx2 => ?_
      have hM := hM.ext hx2
      refine X.next <| C.seq <| C.region <| E.mv rfl rfl <| E.nilc rfl rfl <| ?_
      refine E.fld (o := 1) (sz := 0) rfl Tryd.underlying74 rfl rfl (by kernel_rfl) rfl ?_
      refine E.load rfl Tryd.underlying3 rfl (hM.bcell 0 rfl rfl) rfl ?_
      refine E.addN (a := a + k) (b := 1) rfl rfl (by omega) rfl ?_
      refine E.nilc rfl rfl <| ?_
      refine E.fld (o := 1) (sz := 0) rfl Tryd.underlying74 rfl rfl (by kernel_rfl) rfl ?_
      refine E.storeM 0 hM rfl rfl rfl (by kernel_rfl) rfl rfl ?_
      intro w3 hM
      try dsimp only [List.nil_append, List.cons_append, List.set_cons_zero, List.set_cons_succ, repl] at hM
      refine E.nil <| X.next <| C.seq <| C.seq <| C.region <| E.mv rfl rfl <| E.mv rfl rfl <| ?_
      refine E.subN (a := tkv (Df.ub l) a (k + 1)) (b := Df.fc L (k + 1)) rfl rfl (by omega) rfl ?_
      refine E.mv rfl rfl <| E.mv rfl rfl <| E.nilc rfl rfl <| ?_
      refine E.fld (o := 0) (sz := 15) rfl Tryd.underlying132 rfl rfl (by kernel_rfl) rfl ?_
      refine E.idxN (i := k + 1) rfl rfl Tryd.underlying130 (by kernel_rfl) (by omega) rfl ?_
      refine E.load rfl Tryd.underlying3 rfl (hM.ax 1 rfl (by omega)) rfl ?_
      refine E.bin rfl rfl rfl rfl <| E.nil <| X.next <| ?_
      refine C.cond' rfl (fun hC2 => ?_) (fun hC2 => ?_)
      ·
        have hfd := Df.fnd_in hc.b30 (show 1 ≤ k + 1 by omega) (by omega) (v := tkv (Df.ub l) a (k + 1)) (by omega) (by omega)
        rw [hfd] at hrg
        have hix : Pf.nx L (k + 1) + (tkv (Df.ub l) a (k + 1) - Df.fc L (k + 1)) < (Pf.od L).length := by omega
        refine C.seq <| C.region <| E.mv rfl rfl <| E.nilc rfl rfl <| ?_
        refine E.fld (o := 16) (sz := 0) rfl Tryd.underlying132 rfl rfl (by kernel_rfl) rfl ?_
        refine E.load rfl Tryd.underlying29 rfl (hM.axT 0 1 rfl rfl) rfl ?_
        refine E.mv rfl rfl <| E.mv rfl rfl <| ?_
        refine E.addN (a := Pf.nx L (k + 1)) (b := tkv (Df.ub l) a (k + 1)) rfl rfl (by omega) rfl ?_
        refine E.mv rfl rfl <| ?_
        refine E.subN (a := Pf.nx L (k + 1) + tkv (Df.ub l) a (k + 1)) (b := Df.fc L (k + 1)) rfl rfl (by omega) rfl ?_
        rw [show Pf.nx L (k + 1) + tkv (Df.ub l) a (k + 1) - Df.fc L (k + 1) = Pf.nx L (k + 1) + (tkv (Df.ub l) a (k + 1) - Df.fc L (k + 1)) by omega]
        refine E.get (k := Pf.nx L (k + 1) + (tkv (Df.ub l) a (k + 1) - Df.fc L (k + 1))) rfl rfl (hM.sl 2 rfl) rfl (by rw [nz_len]; omega) Tryd.underlying29 (by kernel_rfl) Tryd.underlying3 rfl rfl rfl ?_
        rw [nz_gd]
        refine E.asg rfl rfl <| E.asg rfl rfl <| E.nil <| X.next <| C.ret <| X.retT <| X.retB <| X.retT <| X.retT <| X.retB <| X.retT <| ret2 rfl rfl rfl ?_
        exact ⟨_, a + k + 1, 0, rfl, hM, .ok hrg.symm⟩
      ·
        have hfd := Df.fnd_out (l := L) (show 1 ≤ k + 1 by omega) (by omega) (v := tkv (Df.ub l) a (k + 1)) (by omega)
        rw [hfd] at hrg
        have hfs := Df.fc_succ (l := L) (n := k + 1) (by omega) (by omega)
        have hns := Pf.nx_succ L (k + 1)
        have hcn : Df.cn L (k + 1) = Pf.cnt L L.length (k + 1) := rfl
        rw [show fu = Df.mx L - (k + 1) by omega] at hrg
        have hoL : L.length ≤ 4294967296 := hcL
        refine C.skip <| X.next <| C.seq <| C.region <| E.mv rfl rfl <| E.mv rfl rfl <| E.mv rfl rfl <| E.nilc rfl rfl <| ?_
        refine E.fld (o := 0) (sz := 15) rfl Tryd.underlying132 rfl rfl (by kernel_rfl) rfl ?_
        refine E.idxN (i := k + 1) rfl rfl Tryd.underlying130 (by kernel_rfl) (by omega) rfl ?_
        refine E.load rfl Tryd.underlying3 rfl (hM.ax 1 rfl (by omega)) rfl ?_
        refine E.addN (a := Pf.nx L (k + 1)) (b := Df.cn L (k + 1)) rfl rfl (by omega) rfl ?_
        refine E.asg rfl rfl <| E.nil <| X.next <| C.seq <| C.region <| E.mv rfl rfl <| E.mv rfl rfl <| E.mv rfl rfl <| E.nilc rfl rfl <| ?_
        refine E.fld (o := 0) (sz := 15) rfl Tryd.underlying132 rfl rfl (by kernel_rfl) rfl ?_
        refine E.idxN (i := k + 1) rfl rfl Tryd.underlying130 (by kernel_rfl) (by omega) rfl ?_
        refine E.load rfl Tryd.underlying3 rfl (hM.ax 1 rfl (by omega)) rfl ?_
        refine E.addN (a := Df.fc L (k + 1)) (b := Df.cn L (k + 1)) rfl rfl (by omega) rfl ?_
        refine E.shl rfl rfl (by decide) (shl_nat (k := 1) (c := Df.fc L (k + 1 + 1)) (by decide) (by omega) (by omega)) rfl ?_
        refine E.asg rfl rfl <| E.nil <| X.next <| C.region <| E.mv rfl rfl <| ?_
        refine E.shl rfl rfl (by decide) (shl_nat (k := 1) (c := 2 * tkv (Df.ub l) a (k + 1)) (by decide) (by omega) (by omega)) rfl ?_
        refine E.asg rfl rfl <| E.nil <| X.outN <| X.next <| C.region <| E.mv rfl rfl <| ?_
        refine E.addN (a := k + 1) (b := 1) rfl rfl (by omega) rfl ?_

        refine E.asg rfl rfl <| E.nil <| X.again1 (k + 1) (Sub.cons rfl <| Sub.cons rfl <| Sub.cons (look_val rfl (by rw [hns]; rfl)) <| Sub.cons rfl <| Sub.nil _) rfl ⟨hM, by omega, by omega, hrg, by omega⟩ (by omega)
  ·
    rw [show Df.mx L - k = 0 by omega, Df.rgo] at hrg
    refine C.exit <| X.exitT <| X.exitT <| X.outE <| X.next <| C.seq <| C.region <| E.asg rfl rfl <| E.asg rfl rfl <| E.nil <| X.next <| C.ret <| ret2 rfl rfl rfl ?_
    exact ⟨0, a + k, 9, rfl, hM, .err (by decide) hrg.symm⟩

end Go.Proofs.YtcmgbjmcklfkcaaDoor
