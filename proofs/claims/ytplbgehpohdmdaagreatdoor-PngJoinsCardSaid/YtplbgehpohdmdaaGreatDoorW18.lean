/- Texts of the claim, laid together: Df17, DfJ, Df18. -/
import Derived.Test.YtplbgehpohdmdaaGreatDoorW0
import Derived.Test.YtplbgehpohdmdaaGreatDoorW16
import Derived.Test.YtplbgehpohdmdaaGreatDoorW17
set_option linter.unusedSimpArgs false
set_option linter.unusedVariables false
namespace Go.Proofs.YtplbgehpohdmdaaGreatDoor
open Go.RowKit Sym
theorem shr_u8 {c k : Nat} (hk : k ≤ 7) : (c : Int) / 2 ^ min ((k : Int)).toNat IntKind.u8.bits = ((c / 2 ^ k : Nat) : Int) := by
 have e1 : min ((k : Int)).toNat IntKind.u8.bits = k := by rw [Int.toNat_natCast]; simp [IntKind.bits]; omega
 rw [e1]; simp
theorem and7 (a : Nat) (h : a ≤ 9223372036854775807) : bits .and .i64 (a : Int) 7 = ((a % 8 : Nat) : Int) := by
 have h1 := i64_and_nat a 7 (by omega) (by omega)
 have h2 : a &&& 7 = a % 8 := Nat.and_two_pow_sub_one_eq_mod a 3
 rw [h2] at h1; exact h1
theorem and1u8 (a : Nat) (h : a < 256) : bits .and .u8 (a : Int) 1 = ((a % 2 : Nat) : Int) := by
 have h1 := u8_and_nat a 1 h (by decide)
 rw [Nat.and_one_is_mod] at h1; exact h1
theorem shr3 (a : Nat) : (a : Int) / 2 ^ min (3 : Int).toNat IntKind.i64.bits = ((a / 8 : Nat) : Int) := shr_nat (c := a) (k := 3) (by decide)
theorem or_i64 {a x k : Nat} (hk : k ≤ 61) (ha : a < 2 ^ k) (hx : x ≤ 1) : bits .or .i64 (a : Int) ((x * 2 ^ k : Nat) : Int) = ((a + x * 2 ^ k : Nat) : Int) := by
 have h1 : 2 ^ k ≤ 2 ^ 61 := Nat.pow_le_pow_right (by decide) hk
 have h2 : x * 2 ^ k ≤ 1 * 2 ^ k := Nat.mul_le_mul_right _ hx
 rw [i64_or_nat _ _ (by omega) (by omega), Nat.or_comm, Nat.mul_comm, ← Nat.two_pow_add_eq_or_of_lt ha, Nat.add_comm]
theorem or_one {a x : Nat} (ha : a ≤ 1000000000000) (hx : x ≤ 1) : bits .or .i64 ((2 * a : Nat) : Int) (x : Int) = ((2 * a + x : Nat) : Int) := by
 rw [i64_or_nat _ _ (by omega) (by omega)]
 have := Nat.two_pow_add_eq_or_of_lt (i := 1) (b := x) (by omega) a
 rw [Nat.pow_one] at this; rw [← this]
theorem bit_at {l : List UInt8} {j : Nat} (h : j < 8 * l.length) : (l[j / 8]'(by omega)).toNat / 2 ^ (j % 8) % 2 = if (Df.ub l).getD j false then 1 else 0 := by
 rw [Df.ub_getD h, gdU (show j / 8 < l.length by omega)]
 unfold Df.bit
 by_cases c : (l[j / 8]'(by omega)).toNat / 2 ^ (j % 8) % 2 = 1
 · rw [if_pos (decide_eq_true c)]; exact c
 · rw [if_neg (by rw [decide_eq_true_eq]; exact c)]; omega
theorem ite_mul (c : Bool) (k : Nat) : (if c then 1 else 0) * 2 ^ k = if c then 2 ^ k else 0 := by cases c <;> simp
theorem tkv_next {l : List UInt8} {a k : Nat} (h : a + k < 8 * l.length) : tkv (Df.ub l) a (k + 1) = 2 * tkv (Df.ub l) a k + (l[(a + k) / 8]'(by omega)).toNat / 2 ^ ((a + k) % 8) % 2 := by
 have hl := Df.ub_len l
 rw [tkv_succ (by omega), bit_at h, List.getD_eq_getElem?_getD, List.getElem?_eq_getElem (by omega)]; rfl
def Rds {α : Type} (r : Except Int (α × Nat)) (x : α) (a : Nat) (e : Int) : Prop := (e = 0 ∧ r = .ok (x, a)) ∨ (e ≠ 0 ∧ r = .error e)
theorem Rds.ok {α : Type} {r : Except Int (α × Nat)} {x : α} {a : Nat} (h : r = .ok (x, a)) : Rds r x a 0 := .inl ⟨rfl, h⟩
theorem Rds.err {α : Type} {r : Except Int (α × Nat)} {x : α} {a : Nat} {e : Int} (he : e ≠ 0) (h : r = .error e) : Rds r x a e := .inr ⟨he, h⟩
theorem Rds.good {α : Type} {r : Except Int (α × Nat)} {x : α} {a : Nat} {e : Int} (h : Rds r x a e) (he : ¬ e ≠ 0) : r = .ok (x, a) := h.elim (fun h => h.2) fun h => (he h.1).elim
theorem Rds.bad {α : Type} {r : Except Int (α × Nat)} {x : α} {a : Nat} {e : Int} (h : Rds r x a e) (he : e ≠ 0) : r = .error e := h.elim (fun h => (he h.1).elim) fun h => h.2
set_option maxHeartbeats 2000000 in
set_option maxRecDepth 4000 in
theorem sbits_ret (n : Nat) (b a lim : Nat) (p vo fv : Value) (l : List UInt8) (w : World) (hs : Sep w [Rg.blk b 111 [p, i64 ((a : Nat) : Int), i64 (lim : Int), vo, fv]]) (hp : RdL u8 w p l) (ho : Off (fpU [Rg.blk b 111 [p, i64 ((a : Nat) : Int), i64 (lim : Int), vo, fv]]) p l) (ha : a ≤ 8 * l.length) (hl : l.length ≤ 1099511627776) (hn : n ≤ 30) :
  Ret Tryz.prog 124 #[pv b, i64 n] w fun v w' => ∃ (x a' : Nat) (e : Int), v = .tuple #[i64 (x : Int), i64 e] ∧ M w (fpU [Rg.blk b 111 [p, i64 ((a : Nat) : Int), i64 (lim : Int), vo, fv]]) w' [Rg.blk b 111 [p, i64 ((a' : Nat) : Int), i64 (lim : Int), vo, fv]] ∧ Rds (Df.rbits n (Df.ub l) a) x a' e := by
 have hM := M.startS hs
 refine enter Tryz.func124 rfl (by kernel_rfl) Tryz.ntmps124 rfl ?_
 refine C.seq <| C.region <| E.asg rfl rfl <| E.asg rfl rfl <| E.nil <| X.next <| C.seq <| C.seq <| C.drawn (by kernel_rfl) (by kernel_rfl) <| Q.mv rfl rfl <| Q.nilc rfl rfl <| ?_
 refine Q.fld (o := 1) (sz := 0) rfl Tryz.underlying111 rfl rfl (by kernel_rfl) rfl ?_
 have hul := Df.ub_len l
 refine Q.load rfl Tryz.underlying3 rfl (hM.bcell 0 rfl rfl) rfl ?_
 refine Q.mv rfl rfl <| ?_
 refine Q.addN (a := a) (b := n) rfl rfl (by omega) rfl ?_
 refine Q.mv rfl rfl <| Q.nilc rfl rfl <| ?_
 refine Q.fld (o := 0) (sz := 0) rfl Tryz.underlying111 rfl rfl (by kernel_rfl) rfl ?_
 refine Q.load rfl Tryz.underlying22 rfl (hM.bcell 0 rfl rfl) rfl ?_
 refine Q.lenv rfl (Rd.shape (hM.arg hp ho)) Tryz.underlying22 rfl ?_
 refine Q.mulN (a := 8) (b := l.length) rfl rfl (by omega) rfl ?_
 refine Q.bin rfl rfl rfl rfl <| Q.nil <| fun w0 hx0 => ?_
 have hM := hM.ext hx0
 refine X.next <| ?_
 refine C.cond' rfl (fun hC0 => ?_) (fun hC0 => ?_)
 ·
  refine C.seq <| C.region <| E.asg rfl rfl <| E.asg rfl rfl <| E.nil <| X.next <| C.ret <| X.retT <| ret2 rfl rfl rfl ?_
  exact ⟨0, a, 10, rfl, hM, .err (by decide) (by rw [Df.rbits, if_pos (by omega)])⟩
 ·
  have hr : Df.rbits n (Df.ub l) a = .ok (Df.bs (Df.ub l) a n, a + n) := by rw [Df.rbits, if_neg (by omega)]
  refine C.skip <| X.next <| C.seq <| C.region <| E.asg rfl rfl <| E.nil <| X.next <| C.seq <| C.seq <| C.region <| E.mv rfl rfl <| E.mv rfl rfl <| E.nil <| X.next <| C.block <| ?_

  refine C.loop1 [(0, _), (21, _)] rfl (fun (i : Nat) => [(6, i64 (Df.bs (Df.ub l) a i : Int)), (22, i64 i)]) (fun (i : Nat) w' => M w (fpU [Rg.blk b 111 [p, i64 ((a : Nat) : Int), i64 (lim : Int), vo, fv]]) w' [Rg.blk b 111 [p, i64 ((a + i : Nat) : Int), i64 (lim : Int), vo, fv]] ∧ i ≤ n) (fun (i : Nat) => n - i) 0 ?_ ?_ ?_
  · exact Sub.cons rfl <| Sub.cons rfl <| Sub.nil _
  · exact ⟨hM, Nat.zero_le _⟩
  rintro i w1 ⟨hM, hi⟩
  refine C.seq <| C.region <| E.bin rfl rfl rfl rfl <| E.nil <| X.next <| C.seq <| ?_
  refine C.cond' rfl (fun hC1 => ?_) (fun hC1 => ?_)
  ·
   have hi' : a + i < 8 * l.length := by omega
   have hb8 := (l[(a + i) / 8]'(by omega)).toNat_lt
   have hdv : (l[(a + i) / 8]'(by omega)).toNat / 2 ^ ((a + i) % 8) ≤ (l[(a + i) / 8]'(by omega)).toNat := Nat.div_le_self _ _
   have hbt := bit_at hi'
   have hbl := Df.bs_lt (Df.ub l) a i
   have hbs := Df.bs_succ (Df.ub l) a i
   have hp2 : 2 ^ i ≤ 2 ^ 29 := Nat.pow_le_pow_right (by decide) (by omega)
   have hx1 : (l[(a + i) / 8]'(by omega)).toNat / 2 ^ ((a + i) % 8) % 2 ≤ 1 := by omega
   have hm1 := Nat.mul_le_mul_right (2 ^ i) hx1
   refine C.skip <| X.next <| C.seq <| C.block <| C.seq <| C.region <| E.mv rfl rfl <| E.asg rfl rfl <| E.nil <| X.next <| C.seq <| C.drawn (by kernel_rfl) (by kernel_rfl) <| Q.mv rfl rfl <| Q.mv rfl rfl <| Q.nilc rfl rfl <| ?_
   refine Q.fld (o := 0) (sz := 0) rfl Tryz.underlying111 rfl rfl (by kernel_rfl) rfl ?_
   refine Q.load rfl Tryz.underlying22 rfl (hM.bcell 0 rfl rfl) rfl ?_
   refine Q.mv rfl rfl <| Q.nilc rfl rfl <| ?_
   refine Q.fld (o := 1) (sz := 0) rfl Tryz.underlying111 rfl rfl (by kernel_rfl) rfl ?_
   refine Q.load rfl Tryz.underlying3 rfl (hM.bcell 0 rfl rfl) rfl ?_
   refine Q.shr rfl rfl (by decide) (shr3 _) rfl ?_
   refine Q.idx1 (k := (a + i) / 8) rfl rfl (hM.arg hp ho) rfl (by omega) Tryz.underlying22 (by kernel_rfl) rfl ?_
   refine Q.load rfl Tryz.underlying5 rfl ((hM.arg hp ho).cell (by omega)) rfl ?_
   refine Q.mv rfl rfl <| Q.nilc rfl rfl <| ?_
   refine Q.fld (o := 1) (sz := 0) rfl Tryz.underlying111 rfl rfl (by kernel_rfl) rfl ?_
   refine Q.load rfl Tryz.underlying3 rfl (hM.bcell 0 rfl rfl) rfl ?_
   refine Q.binw rfl rfl rfl (congrArg _ (and7 (a + i) (by omega))) rfl ?_
   refine Q.shr rfl rfl (by omega) (shr_u8 (by omega)) rfl ?_
   refine Q.binw rfl rfl rfl (congrArg _ (and1u8 _ (by omega))) rfl ?_
   refine Q.conv rfl Tryz.underlying5 Tryz.underlying3 (IntWalk.i64_in _ (by omega)) rfl ?_
   refine Q.mv rfl rfl <| ?_
   refine Q.shl rfl rfl (by omega) (shl_nat (k := i) (by omega) rfl (by omega)) rfl ?_
   refine Q.binw rfl rfl rfl (congrArg _ (or_i64 (by omega) hbl hx1)) rfl ?_
   refine Q.asg rfl rfl <| Q.nil <| fun w2 hx2 => ?_
   have hM := hM.ext hx2
   refine X.next <| C.region <| E.mv rfl rfl <| E.nilc rfl rfl <| ?_
   refine E.fld (o := 1) (sz := 0) rfl Tryz.underlying111 rfl rfl (by kernel_rfl) rfl ?_
   refine E.load rfl Tryz.underlying3 rfl (hM.bcell 0 rfl rfl) rfl ?_
   refine E.addN (a := a + i) (b := 1) rfl rfl (by omega) rfl ?_
   refine E.nilc rfl rfl <| ?_
   refine E.fld (o := 1) (sz := 0) rfl Tryz.underlying111 rfl rfl (by kernel_rfl) rfl ?_
   refine E.storeM 0 hM rfl rfl rfl (by kernel_rfl) rfl rfl ?_
   intro w3 hM
   try dsimp only [Za, Zb, Zc, Zd, repl] at hM
   refine E.nil <| X.outN <| X.next <| C.region <| ?_
   refine E.addN (a := i) (b := 1) rfl rfl (by omega) rfl ?_

   refine E.mv rfl rfl <| E.nil <| X.again1 (i + 1) (Sub.cons (look_val rfl (by rw [hbs, hbt, ite_mul])) <| Sub.cons rfl <| Sub.nil _) rfl ⟨hM, by omega⟩ (by omega)
  ·
   obtain rfl : i = n := by omega
   refine C.exit <| X.exitT <| X.exitT <| X.outE <| X.next <| C.seq <| C.region <| E.mv rfl rfl <| E.asg rfl rfl <| E.asg rfl rfl <| E.nil <| X.next <| C.ret <| ret2 rfl rfl rfl ?_
   exact ⟨_, a + i, 0, rfl, hM, .ok hr⟩
set_option maxHeartbeats 4000000 in
set_option maxRecDepth 4000 in
theorem ssym_ret (bd : Nat) (vs : Value) (L : List Nat) (b a lim : Nat) (p vo fv : Value) (l : List UInt8) (w : World) (hs : Sep w [Rg.blk b 111 [p, i64 ((a : Nat) : Int), i64 (lim : Int), vo, fv], Sym.Ax bd 180 16 (fun n => (Df.cn L n : Int)) [vs, i64 (Df.mx L : Int)], Rg.sl i64 3 vs (nz (Pf.od L))]) (hp : RdL u8 w p l) (ho : Off (fpU [Rg.blk b 111 [p, i64 ((a : Nat) : Int), i64 (lim : Int), vo, fv], Sym.Ax bd 180 16 (fun n => (Df.cn L n : Int)) [vs, i64 (Df.mx L : Int)], Rg.sl i64 3 vs (nz (Pf.od L))]) p l) (ha : a ≤ 8 * l.length) (hl : l.length ≤ 1099511627776) (hc : Df.Code L) (hcL : L.length ≤ 4294967296) :
  Ret Tryz.prog 159 #[pv b, pv bd] w fun v w' => ∃ (x a' : Nat) (e : Int), v = .tuple #[i64 (x : Int), i64 e] ∧ M w (fpU [Rg.blk b 111 [p, i64 ((a : Nat) : Int), i64 (lim : Int), vo, fv], Sym.Ax bd 180 16 (fun n => (Df.cn L n : Int)) [vs, i64 (Df.mx L : Int)], Rg.sl i64 3 vs (nz (Pf.od L))]) w' [Rg.blk b 111 [p, i64 ((a' : Nat) : Int), i64 (lim : Int), vo, fv], Sym.Ax bd 180 16 (fun n => (Df.cn L n : Int)) [vs, i64 (Df.mx L : Int)], Rg.sl i64 3 vs (nz (Pf.od L))] ∧ Rds (Df.rsym L (Df.ub l) a) x a' e := by
 have hM := M.startS hs
 refine enter Tryz.func159 rfl (by kernel_rfl) Tryz.ntmps159 rfl ?_
 refine C.seq <| C.region <| E.asg rfl rfl <| E.asg rfl rfl <| E.nil <| X.next <| C.seq <| C.region <| E.asg rfl rfl <| E.asg rfl rfl <| E.asg rfl rfl <| E.nil <| X.next <| C.seq <| C.seq <| C.region <| E.asg rfl rfl <| E.nil <| X.next <| C.block <| ?_
 have hul := Df.ub_len l
 have hmx : Df.mx L ≤ 15 := Df.mx_bd L 0 (by decide) hc.le

 refine C.loop1 [(0, _), (1, _)] rfl (fun (k : Nat) => [(6, i64 ((2 * tkv (Df.ub l) a k : Nat) : Int)), (7, i64 (Df.fc L (k + 1) : Int)), (8, i64 (Pf.nx L (k + 1) : Int)), (9, i64 ((k + 1 : Nat) : Int))]) (fun (k : Nat) w' => M w (fpU [Rg.blk b 111 [p, i64 ((a : Nat) : Int), i64 (lim : Int), vo, fv], Sym.Ax bd 180 16 (fun n => (Df.cn L n : Int)) [vs, i64 (Df.mx L : Int)], Rg.sl i64 3 vs (nz (Pf.od L))]) w' [Rg.blk b 111 [p, i64 ((a + k : Nat) : Int), i64 (lim : Int), vo, fv], Sym.Ax bd 180 16 (fun n => (Df.cn L n : Int)) [vs, i64 (Df.mx L : Int)], Rg.sl i64 3 vs (nz (Pf.od L))] ∧ k ≤ Df.mx L ∧ a + k ≤ 8 * l.length ∧ Df.rgo L (Df.ub l) a (Df.mx L - k) k = Df.rsym L (Df.ub l) a ∧ Df.fc L (k + 1) ≤ 2 * tkv (Df.ub l) a k) (fun (k : Nat) => 16 - k) 0 ?_ ?_ ?_
 · exact Sub.cons (look_val rfl (by rw [tkv_zero]; rfl)) <| Sub.cons (look_val rfl (by rw [Df.fc_one]; rfl)) <| Sub.cons rfl <| Sub.cons rfl <| Sub.nil _
 · exact ⟨hM, Nat.zero_le _, ha, rfl, by rw [Df.fc_one]; exact Nat.zero_le _⟩
 rintro k w0 ⟨hM, hk, hak, hrg, hfc⟩
 refine C.seq <| C.seq <| C.region <| E.mv rfl rfl <| E.mv rfl rfl <| E.nilc rfl rfl <| ?_
 refine E.fld (o := 17) (sz := 0) rfl Tryz.underlying180 rfl rfl (by kernel_rfl) rfl ?_
 refine E.load rfl Tryz.underlying3 rfl (hM.axT 1 1 rfl rfl) rfl ?_
 refine E.bin rfl rfl rfl rfl <| E.nil <| X.next <| ?_
 refine C.cond' rfl (fun hC0 => ?_) (fun hC0 => ?_)
 ·
  have hk' : k < Df.mx L := by omega
  obtain ⟨fu, hfu⟩ : ∃ fu, Df.mx L - k = fu + 1 := ⟨Df.mx L - k - 1, by omega⟩
  rw [hfu, Df.rgo] at hrg
  refine C.skip <| X.next <| C.seq <| C.block <| C.seq <| C.seq <| C.drawn (by kernel_rfl) (by kernel_rfl) <| Q.mv rfl rfl <| Q.nilc rfl rfl <| ?_
  refine Q.fld (o := 1) (sz := 0) rfl Tryz.underlying111 rfl rfl (by kernel_rfl) rfl ?_
  refine Q.load rfl Tryz.underlying3 rfl (hM.bcell 0 rfl rfl) rfl ?_
  refine Q.mv rfl rfl <| Q.nilc rfl rfl <| ?_
  refine Q.fld (o := 0) (sz := 0) rfl Tryz.underlying111 rfl rfl (by kernel_rfl) rfl ?_
  refine Q.load rfl Tryz.underlying22 rfl (hM.bcell 0 rfl rfl) rfl ?_
  refine Q.lenv rfl (Rd.shape (hM.arg hp ho)) Tryz.underlying22 rfl ?_
  refine Q.mulN (a := 8) (b := l.length) rfl rfl (by omega) rfl ?_
  refine Q.bin rfl rfl rfl rfl <| Q.nil <| fun w1 hx1 => ?_
  have hM := hM.ext hx1
  refine X.next <| ?_
  refine C.cond' rfl (fun hC1 => ?_) (fun hC1 => ?_)
  ·
   rw [if_pos (by omega)] at hrg
   refine C.seq <| C.region <| E.asg rfl rfl <| E.asg rfl rfl <| E.nil <| X.next <| C.ret <| X.retT <| X.retB <| X.retT <| X.retT <| X.retB <| X.retT <| ret2 rfl rfl rfl ?_
   exact ⟨0, a + k, 10, rfl, hM, .err (by decide) hrg.symm⟩
  ·
   rw [if_neg (by omega)] at hrg
   have hi' : a + k < 8 * l.length := by omega
   have hb8 := (l[(a + k) / 8]'(by omega)).toNat_lt
   have hdv : (l[(a + k) / 8]'(by omega)).toNat / 2 ^ ((a + k) % 8) ≤ (l[(a + k) / 8]'(by omega)).toNat := Nat.div_le_self _ _
   have htn := tkv_next hi'
   have hx1 : (l[(a + k) / 8]'(by omega)).toNat / 2 ^ ((a + k) % 8) % 2 ≤ 1 := by omega
   have htk := tkv_40 (b := Df.ub l) (a := a) (n := k) (by omega) (by omega)
   have htk1 := tkv_40 (b := Df.ub l) (a := a) (n := k + 1) (by omega) (by omega)
   have hfl : Df.fc L (k + 1) ≤ 1073741824 := Pf.np_le hc.b30 hc.kr (by omega) (Nat.zero_le _)
   have hcl : Df.cn L (k + 1) ≤ L.length := Pf.cnt_le (Nat.le_refl _)
   have hnr := Df.nx_run (l := L) (n := k + 1) (by omega)
   have hod := Pf.od_le L
   refine C.skip <| X.next <| C.seq <| C.drawn (by kernel_rfl) (by kernel_rfl) <| Q.mv rfl rfl <| Q.mv rfl rfl <| Q.nilc rfl rfl <| ?_
   refine Q.fld (o := 0) (sz := 0) rfl Tryz.underlying111 rfl rfl (by kernel_rfl) rfl ?_
   refine Q.load rfl Tryz.underlying22 rfl (hM.bcell 0 rfl rfl) rfl ?_
   refine Q.mv rfl rfl <| Q.nilc rfl rfl <| ?_
   refine Q.fld (o := 1) (sz := 0) rfl Tryz.underlying111 rfl rfl (by kernel_rfl) rfl ?_
   refine Q.load rfl Tryz.underlying3 rfl (hM.bcell 0 rfl rfl) rfl ?_
   refine Q.shr rfl rfl (by decide) (shr3 _) rfl ?_
   refine Q.idx1 (k := (a + k) / 8) rfl rfl (hM.arg hp ho) rfl (by omega) Tryz.underlying22 (by kernel_rfl) rfl ?_
   refine Q.load rfl Tryz.underlying5 rfl ((hM.arg hp ho).cell (by omega)) rfl ?_
   refine Q.mv rfl rfl <| Q.nilc rfl rfl <| ?_
   refine Q.fld (o := 1) (sz := 0) rfl Tryz.underlying111 rfl rfl (by kernel_rfl) rfl ?_
   refine Q.load rfl Tryz.underlying3 rfl (hM.bcell 0 rfl rfl) rfl ?_
   refine Q.binw rfl rfl rfl (congrArg _ (and7 (a + k) (by omega))) rfl ?_
   refine Q.shr rfl rfl (by omega) (shr_u8 (by omega)) rfl ?_
   refine Q.binw rfl rfl rfl (congrArg _ (and1u8 _ (by omega))) rfl ?_
   refine Q.conv rfl Tryz.underlying5 Tryz.underlying3 (IntWalk.i64_in _ (by omega)) rfl ?_
   refine Q.binw rfl rfl rfl (congrArg _ (or_one (by omega) hx1)) rfl ?_
   rw [← htn]
   refine Q.asg rfl rfl <| Q.nil <| fun w2 hx2 => ?_
   have hM := hM.ext hx2
   refine X.next <| C.seq <| C.region <| E.mv rfl rfl <| E.nilc rfl rfl <| ?_
   refine E.fld (o := 1) (sz := 0) rfl Tryz.underlying111 rfl rfl (by kernel_rfl) rfl ?_
   refine E.load rfl Tryz.underlying3 rfl (hM.bcell 0 rfl rfl) rfl ?_
   refine E.addN (a := a + k) (b := 1) rfl rfl (by omega) rfl ?_
   refine E.nilc rfl rfl <| ?_
   refine E.fld (o := 1) (sz := 0) rfl Tryz.underlying111 rfl rfl (by kernel_rfl) rfl ?_
   refine E.storeM 0 hM rfl rfl rfl (by kernel_rfl) rfl rfl ?_
   intro w3 hM
   try dsimp only [Za, Zb, Zc, Zd, repl] at hM
   refine E.nil <| X.next <| C.seq <| C.seq <| C.region <| E.mv rfl rfl <| E.mv rfl rfl <| ?_
   refine E.subN (a := tkv (Df.ub l) a (k + 1)) (b := Df.fc L (k + 1)) rfl rfl (by omega) rfl ?_
   refine E.mv rfl rfl <| E.mv rfl rfl <| E.nilc rfl rfl <| ?_
   refine E.fld (o := 0) (sz := 15) rfl Tryz.underlying180 rfl rfl (by kernel_rfl) rfl ?_
   refine E.idxN (i := k + 1) rfl rfl Tryz.underlying178 (by kernel_rfl) (by omega) rfl ?_
   refine E.load rfl Tryz.underlying3 rfl (hM.ax 1 rfl (by omega)) rfl ?_
   refine E.bin rfl rfl rfl rfl <| E.nil <| X.next <| ?_
   refine C.cond' rfl (fun hC2 => ?_) (fun hC2 => ?_)
   ·
    have hfd := Df.fnd_in hc.b30 (show 1 ≤ k + 1 by omega) (by omega) (v := tkv (Df.ub l) a (k + 1)) (by omega) (by omega)
    rw [hfd] at hrg
    have hix : Pf.nx L (k + 1) + (tkv (Df.ub l) a (k + 1) - Df.fc L (k + 1)) < (Pf.od L).length := by omega
    refine C.seq <| C.region <| E.mv rfl rfl <| E.nilc rfl rfl <| ?_
    refine E.fld (o := 16) (sz := 0) rfl Tryz.underlying180 rfl rfl (by kernel_rfl) rfl ?_
    refine E.load rfl Tryz.underlying86 rfl (hM.axT 0 1 rfl rfl) rfl ?_
    refine E.mv rfl rfl <| E.mv rfl rfl <| ?_
    refine E.addN (a := Pf.nx L (k + 1)) (b := tkv (Df.ub l) a (k + 1)) rfl rfl (by omega) rfl ?_
    refine E.mv rfl rfl <| ?_
    refine E.subN (a := Pf.nx L (k + 1) + tkv (Df.ub l) a (k + 1)) (b := Df.fc L (k + 1)) rfl rfl (by omega) rfl ?_
    rw [show Pf.nx L (k + 1) + tkv (Df.ub l) a (k + 1) - Df.fc L (k + 1) = Pf.nx L (k + 1) + (tkv (Df.ub l) a (k + 1) - Df.fc L (k + 1)) by omega]
    refine E.get (k := Pf.nx L (k + 1) + (tkv (Df.ub l) a (k + 1) - Df.fc L (k + 1))) rfl rfl (hM.sl 2 rfl) rfl (by rw [nz_len]; omega) Tryz.underlying86 (by kernel_rfl) Tryz.underlying3 rfl rfl rfl ?_
    rw [nz_gd]
    refine E.asg rfl rfl <| E.asg rfl rfl <| E.nil <| X.next <| C.ret <| X.retT <| X.retB <| X.retT <| X.retT <| X.retB <| X.retT <| ret2 rfl rfl rfl ?_
    exact ⟨_, a + k + 1, 0, rfl, hM, .ok hrg.symm⟩
   ·
    have hfd := Df.fnd_out (l := L) (show 1 ≤ k + 1 by omega) (by omega) (v := tkv (Df.ub l) a (k + 1)) (by omega)
    rw [hfd] at hrg
    have hfs := Df.fc_succ (l := L) (n := k + 1) (by omega) (by omega)
    have hns := Pf.nx_succ L (k + 1)
    have hcn : Df.cn L (k + 1) = Pf.cnt L L.length (k + 1) := rfl
    rw [show fu = Df.mx L - (k + 1) by omega] at hrg
    have hoL : L.length ≤ 4294967296 := hcL
    refine C.skip <| X.next <| C.seq <| C.region <| E.mv rfl rfl <| E.mv rfl rfl <| E.mv rfl rfl <| E.nilc rfl rfl <| ?_
    refine E.fld (o := 0) (sz := 15) rfl Tryz.underlying180 rfl rfl (by kernel_rfl) rfl ?_
    refine E.idxN (i := k + 1) rfl rfl Tryz.underlying178 (by kernel_rfl) (by omega) rfl ?_
    refine E.load rfl Tryz.underlying3 rfl (hM.ax 1 rfl (by omega)) rfl ?_
    refine E.addN (a := Pf.nx L (k + 1)) (b := Df.cn L (k + 1)) rfl rfl (by omega) rfl ?_
    refine E.asg rfl rfl <| E.nil <| X.next <| C.seq <| C.region <| E.mv rfl rfl <| E.mv rfl rfl <| E.mv rfl rfl <| E.nilc rfl rfl <| ?_
    refine E.fld (o := 0) (sz := 15) rfl Tryz.underlying180 rfl rfl (by kernel_rfl) rfl ?_
    refine E.idxN (i := k + 1) rfl rfl Tryz.underlying178 (by kernel_rfl) (by omega) rfl ?_
    refine E.load rfl Tryz.underlying3 rfl (hM.ax 1 rfl (by omega)) rfl ?_
    refine E.addN (a := Df.fc L (k + 1)) (b := Df.cn L (k + 1)) rfl rfl (by omega) rfl ?_
    refine E.shl rfl rfl (by decide) (shl_nat (k := 1) (c := Df.fc L (k + 1 + 1)) (by decide) (by omega) (by omega)) rfl ?_
    refine E.asg rfl rfl <| E.nil <| X.next <| C.region <| E.mv rfl rfl <| ?_
    refine E.shl rfl rfl (by decide) (shl_nat (k := 1) (c := 2 * tkv (Df.ub l) a (k + 1)) (by decide) (by omega) (by omega)) rfl ?_
    refine E.asg rfl rfl <| E.nil <| X.outN <| X.next <| C.region <| E.mv rfl rfl <| ?_
    refine E.addN (a := k + 1) (b := 1) rfl rfl (by omega) rfl ?_

    refine E.asg rfl rfl <| E.nil <| X.again1 (k + 1) (Sub.cons rfl <| Sub.cons rfl <| Sub.cons (look_val rfl (by rw [hns]; rfl)) <| Sub.cons rfl <| Sub.nil _) rfl ⟨hM, by omega, by omega, hrg, by omega⟩ (by omega)
 ·
  rw [show Df.mx L - k = 0 by omega, Df.rgo] at hrg
  refine C.exit <| X.exitT <| X.exitT <| X.outE <| X.next <| C.seq <| C.region <| E.asg rfl rfl <| E.asg rfl rfl <| E.nil <| X.next <| C.ret <| ret2 rfl rfl rfl ?_
  exact ⟨0, a + k, 9, rfl, hM, .err (by decide) hrg.symm⟩
end Go.Proofs.YtplbgehpohdmdaaGreatDoor
namespace Go.Proofs.YtplbgehpohdmdaaGreatDoor
open Sym
namespace Df
def us (l : List Nat) : Nat := (l.filter fun n => decide (0 < n)).length
def acc (l : List Nat) : Bool := decide (chv (nz l) = 0 ∨ (us l = 1 ∧ l.sum = 1))
def rl3 : Nat → Nat → List Nat → List Bool → Nat → Except Int (List Nat × Nat)
 | 0, _, c => fun _ a => .ok (c, a)
 | k + 1, i, c => bnd (rbits 3) fun v => rl3 k (i + 1) (c.set (ordL.getD i 0) v)
theorem cut_l3 : ∀ (k i : Nat) (c : List Nat), Cut (rl3 k i c)
 | 0, i, c => by rw [rl3]; exact Cut.ok c
 | k + 1, i, c => by rw [rl3]; exact (cut_bits 3).bnd fun v => cut_l3 k (i + 1) _
def lsv (s : Nat) (out : List Nat) : Nat := if s = 16 then out.getD (out.length - 1) 0 else 0
def lsl (s : Nat) : Nat := if s = 18 then 11 else 3
def lsx (s : Nat) : Nat := if s = 16 then 2 else if s = 18 then 7 else 3
noncomputable def rln (C : List Nat) (n : Nat) (out : List Nat) : List Bool → Nat → Except Int (List Nat × Nat) :=
 if h : out.length < n then bnd (rsym C) fun s =>
  if s < 16 then rln C n (out ++ [s])
  else if s = 16 ∧ out.length = 0 then fun _ _ => .error 9
  else bnd (rbits (lsx s)) fun x => if n < out.length + lsl s + x then fun _ _ => .error 9 else rln C n (out ++ List.replicate (lsl s + x) (lsv s out))
 else fun _ a => .ok (out, a)
termination_by n - out.length
decreasing_by
 all_goals
  have : 3 ≤ lsl s := by unfold lsl; split <;> omega
  simp only [List.length_append, List.length_replicate, List.length_singleton]; omega
theorem rln_end {C : List Nat} {n : Nat} {out : List Nat} (h : ¬ out.length < n) : rln C n out = fun _ a => .ok (out, a) := by rw [rln, dif_neg h]
theorem rln_on {C : List Nat} {n : Nat} {out : List Nat} (h : out.length < n) : rln C n out = bnd (rsym C) fun s =>
  if s < 16 then rln C n (out ++ [s])
  else if s = 16 ∧ out.length = 0 then fun _ _ => .error 9
  else bnd (rbits (lsx s)) fun x => if n < out.length + lsl s + x then fun _ _ => .error 9 else rln C n (out ++ List.replicate (lsl s + x) (lsv s out)) := by rw [rln, dif_pos h]
theorem cut_ln (C : List Nat) (n : Nat) (out : List Nat) : Cut (rln C n out) := by
  by_cases h : out.length < n
  · rw [rln_on h]
    refine (cut_sym C).bnd fun s => ?_
    split
    · exact cut_ln C n (out ++ [s])
    · split
      · exact Cut.fail 9
      · refine (cut_bits _).bnd fun x => ?_
        split
        · exact Cut.fail 9
        · exact cut_ln C n _
  · rw [rln_end h]; exact Cut.ok out
termination_by n - out.length
decreasing_by
  all_goals
    have : 3 ≤ lsl s := by unfold lsl; split <;> omega
    simp only [List.length_append, List.length_replicate, List.length_singleton]; omega
def badl (l : List Nat) (m : Nat) : Prop := acc (l.take m) = false ∨ l.getD 256 0 = 0 ∨ (acc (l.drop m) = false ∧ 0 < us (l.drop m))
instance (l : List Nat) (m : Nat) : Decidable (badl l m) := by unfold badl; exact inferInstance
noncomputable def rown : List Bool → Nat → Except Int ((List Nat × List Nat) × Nat) :=
 bnd (rbits 5) fun x => bnd (rbits 5) fun y => bnd (rbits 4) fun z =>
  if 286 < x + 257 ∨ 30 < y + 1 then fun _ _ => .error 9
  else bnd (rl3 (z + 4) 0 (List.replicate 19 0)) fun c =>
   if chv (nz c) = 0 then bnd (rln c (x + 257 + (y + 1)) []) fun l => if badl l (x + 257) then fun _ _ => .error 27 else fun _ a => .ok ((l.take (x + 257), l.drop (x + 257)), a)
   else fun _ _ => .error 27
theorem cut_own : Cut rown := by
  unfold rown
  refine (cut_bits _).bnd fun x => (cut_bits _).bnd fun y => (cut_bits _).bnd fun z => ?_
  split
  · exact Cut.fail 9
  · refine (cut_l3 _ _ _).bnd fun c => ?_
    split
    · refine (cut_ln _ _ _).bnd fun l => ?_
      split
      · exact Cut.fail 27
      · exact Cut.ok _
    · exact Cut.fail 27
def rsto (lim : Nat) (p : List UInt8) (out : List UInt8) (B : List Bool) (a : Nat) : Except Int (List UInt8 × Nat) :=
 match rbits 16 B ((a + 7) / 8 * 8) with
 | .error e => .error e
 | .ok (n, a1) => match rbits 16 B a1 with
  | .error e => .error e
  | .ok (c, a2) => if n ^^^ c ≠ 65535 then .error 9 else if lim < out.length + n then .error 4 else if p.length < a2 / 8 + n then .error 10 else .ok (out ++ (p.drop (a2 / 8)).take n, a2 + 8 * n)
noncomputable def rkin (lim : Nat) (p out : List UInt8) (k : Nat) (B : List Bool) (a : Nat) : Except Int (List UInt8 × Nat) :=
 if k = 0 then rsto lim p out B a else if k = 1 then tk fixL fixD lim B a out else if k = 2 then bnd rown (fun x => fun B a => tk x.1 x.2 lim B a out) B a else .error 9
noncomputable def rblk (lim : Nat) (p out : List UInt8) : List Bool → Nat → Except Int ((Nat × List UInt8) × Nat) :=
 bnd (rbits 1) fun x => bnd (rbits 2) fun k => bnd (rkin lim p out k) fun o => fun _ a => .ok ((x, o), a)
noncomputable def rinf (lim : Nat) (p out : List UInt8) (B : List Bool) (a : Nat) : Except Int (List UInt8 × Nat) :=
 match rblk lim p out B a with
 | .error e => .error e
 | .ok ((x, o), a') => if x = 1 then .ok (o, a') else if h : a < a' ∧ a' ≤ B.length then rinf lim p o B a' else .error 0
termination_by B.length - a
theorem rinf_err {lim : Nat} {p out : List UInt8} {B : List Bool} {a : Nat} {e : Int} (h : rblk lim p out B a = .error e) : rinf lim p out B a = .error e := by rw [rinf, h]
theorem rinf_last {lim : Nat} {p out o : List UInt8} {B : List Bool} {a a' : Nat} (h : rblk lim p out B a = .ok ((1, o), a')) : rinf lim p out B a = .ok (o, a') := by rw [rinf, h]; simp
theorem rinf_more {lim : Nat} {p out o : List UInt8} {B : List Bool} {a a' x : Nat} (h : rblk lim p out B a = .ok ((x, o), a')) (hx : x ≠ 1) (ha : a < a' ∧ a' ≤ B.length) : rinf lim p out B a = rinf lim p o B a' := by rw [rinf, h]; simp only; rw [if_neg hx, dif_pos ha]
noncomputable def inf (p : List UInt8) (lim : Int) : Except Int (List UInt8 × Nat) :=
 if lim < 0 ∨ 16777216 < lim then .error 3 else if 4194304 < p.length then .error 4 else rinf lim.toNat p [] (ub p) 0
theorem tk_adv {L D : List Nat} {lim : Nat} {B : List Bool} {a e : Nat} {out x : List UInt8} (ha : a ≤ B.length) (h : tk L D lim B a out = .ok (x, e)) : a ≤ e ∧ e ≤ B.length := ⟨(tk_cut L D lim B a out x e ha h).1, (tk_cut L D lim B a out x e ha h).2.1⟩
theorem rsto_adv {lim : Nat} {p out x : List UInt8} {a e : Nat} (ha : a ≤ (ub p).length) (h : rsto lim p out (ub p) a = .ok (x, e)) : a ≤ e ∧ e ≤ (ub p).length ∧ x.length ≤ lim := by
  rw [ub_len] at ha
  unfold rsto at h
  cases h1 : rbits 16 (ub p) ((a + 7) / 8 * 8) with
  | error z => rw [h1] at h; cases h
  | ok q =>
    obtain ⟨n, a1⟩ := q
    rw [h1] at h
    simp only at h
    cases h2 : rbits 16 (ub p) a1 with
    | error z => rw [h2] at h; cases h
    | ok q =>
      obtain ⟨c, a2⟩ := q
      rw [h2] at h
      simp only at h
      have k1 := cut_bits 16 (ub p) _ _ _ (by rw [ub_len]; omega) h1
      have k2 := cut_bits 16 (ub p) _ _ _ k1.2.1 h2
      have e1 : a1 = (a + 7) / 8 * 8 + 16 := by unfold rbits at h1; split at h1 <;> cases h1; rfl
      have e2 : a2 = a1 + 16 := by unfold rbits at h2; split at h2 <;> cases h2; rfl
      split at h
      · cases h
      · split at h
        · cases h
        · split at h
          · cases h
          · cases h
            rw [ub_len] at k2 ⊢
            refine ⟨by omega, by omega, ?_⟩
            rw [List.length_append, List.length_take, List.length_drop]; omega
end Df
end Go.Proofs.YtplbgehpohdmdaaGreatDoor
namespace Go.Proofs.YtplbgehpohdmdaaGreatDoor
open Go.RowKit Sym
theorem Sym.M.offS {α : Type} {enc : α → Value} {w0 w : World} {S : Nat → Prop} {rs : List Rg} {v : Value} {l : List α} (h : M w0 S w rs) (hR : RdL enc w0 v l) (ho : Off S v l) : Off (fpU rs) v l := by
  cases l with
  | nil => exact .inl rfl
  | cons a l =>
    refine .inr fun ⟨i, r, hi, hk⟩ => ?_
    have h1 := hR.lt (by simp)
    rcases h.mine i r hi _ hk with h2 | h2
    · rcases ho with ho | ho
      · cases ho
      · exact ho h2
    · omega
theorem rbits_lt {n : Nat} {B : List Bool} {a x e : Nat} (h : Df.rbits n B a = .ok (x, e)) : x < 2 ^ n ∧ e = a + n ∧ e ≤ B.length := by
 unfold Df.rbits at h
 split at h
 · cases h
 · cases h; exact ⟨Df.bs_lt _ _ _, rfl, by omega⟩
namespace Df
noncomputable def rmx (D : List Nat) (s lim : Nat) (B : List Bool) (a : Nat) (out : List UInt8) : Except Int (List UInt8 × Nat) :=
 match rmt D s B a with
 | .error e => .error e
 | .ok ((n, d), a2) => if out.length < d then .error 28 else if lim < out.length + n then .error 4 else .ok (rp d out n, a2)
theorem rmx_err {D : List Nat} {s lim : Nat} {B : List Bool} {a : Nat} {out : List UInt8} {e : Int} (h : rmt D s B a = .error e) : rmx D s lim B a out = .error e := by unfold rmx; rw [h]
theorem rmx_ok {D : List Nat} {s lim : Nat} {B : List Bool} {a a2 n d : Nat} {out : List UInt8} (h : rmt D s B a = .ok ((n, d), a2)) : rmx D s lim B a out = if out.length < d then .error 28 else if lim < out.length + n then .error 4 else .ok (rp d out n, a2) := by unfold rmx; rw [h]
theorem tk_rmx {L D : List Nat} {lim : Nat} {B : List Bool} {a a1 s : Nat} {out : List UInt8} (ha : a ≤ B.length) (h : rsym L B a = .ok (s, a1)) (h2 : 256 < s) (h3 : s ≤ 285) : tk L D lim B a out = match rmx D s lim B a1 out with | .error e => .error e | .ok (o, a2) => tk L D lim B a2 o := by
 cases h4 : rmt D s B a1 with
 | error e => rw [tk_merr h h2 h3 h4, rmx_err h4]
 | ok q =>
  obtain ⟨⟨n, d⟩, a2⟩ := q
  rw [tk_mat ha h h2 h3 h4, rmx_ok h4]
  split
  · rfl
  · split <;> rfl
theorem rmx_adv {D : List Nat} {s lim : Nat} {B : List Bool} {a e : Nat} {out x : List UInt8} (ha : a ≤ B.length) (h : rmx D s lim B a out = .ok (x, e)) : a ≤ e ∧ e ≤ B.length := by
  cases h4 : rmt D s B a with
  | error z => rw [rmx_err h4] at h; cases h
  | ok q =>
    obtain ⟨⟨n, d⟩, a2⟩ := q
    rw [rmx_ok h4] at h
    have := rmt_adv ha h4
    split at h
    · cases h
    · split at h
      · cases h
      · cases h; exact this
end Df
set_option maxHeartbeats 4000000 in
set_option maxRecDepth 4000 in
theorem match_ret (bd s : Nat) (vs : Value) (D : List Nat) (out : List UInt8) (b a lim : Nat) (p vo fv : Value) (l : List UInt8) (w : World) (hs : Sep w [Rg.blk b 111 [p, i64 ((a : Nat) : Int), i64 (lim : Int), vo, fv], Rg.sl u8 5 vo out, Sym.Ax bd 180 16 (fun n => (Df.cn D n : Int)) [vs, i64 (Df.mx D : Int)], Rg.sl i64 3 vs (nz (Pf.od D))]) (hp : RdL u8 w p l) (ho : Off (fpU [Rg.blk b 111 [p, i64 ((a : Nat) : Int), i64 (lim : Int), vo, fv], Rg.sl u8 5 vo out, Sym.Ax bd 180 16 (fun n => (Df.cn D n : Int)) [vs, i64 (Df.mx D : Int)], Rg.sl i64 3 vs (nz (Pf.od D))]) p l) (ha : a ≤ 8 * l.length) (hl : l.length ≤ 1099511627776) (hc : Df.Code D) (hcL : D.length ≤ 4294967296) (h1 : 257 ≤ s) (h2 : s ≤ 285) (hol : out.length ≤ lim) (hlim : lim ≤ 16777216) :
  Ret Tryz.prog 160 #[pv b, i64 s, pv bd] w fun v w' => ∃ (vo' : Value) (out' : List UInt8) (a' : Nat) (e : Int), v = i64 e ∧ M w (fpU [Rg.blk b 111 [p, i64 ((a : Nat) : Int), i64 (lim : Int), vo, fv], Rg.sl u8 5 vo out, Sym.Ax bd 180 16 (fun n => (Df.cn D n : Int)) [vs, i64 (Df.mx D : Int)], Rg.sl i64 3 vs (nz (Pf.od D))]) w' [Rg.blk b 111 [p, i64 ((a' : Nat) : Int), i64 (lim : Int), vo', fv], Rg.sl u8 5 vo' out', Sym.Ax bd 180 16 (fun n => (Df.cn D n : Int)) [vs, i64 (Df.mx D : Int)], Rg.sl i64 3 vs (nz (Pf.od D))] ∧ Rds (Df.rmx D s lim (Df.ub l) a out) out' a' e ∧ out'.length ≤ lim := by
 have hM := M.startS hs
 refine enter Tryz.func160 rfl (by kernel_rfl) Tryz.ntmps160 rfl ?_
 refine C.seq <| C.region <| E.asg rfl rfl <| E.nil <| X.next <| C.seq <| C.region <| E.mv rfl rfl <| ?_
 refine E.call rfl rfl (lengthOf_ret s _ h1 h2) ?_
 rintro _ w1 ⟨rfl, x1⟩
 have hM := hM.ext x1
 try dsimp only [Za, Zb, Zc, Zd, repl] at hM
 have hul := Df.ub_len l
 have hxb := Df.lx_bd s (by omega)
 refine E.mv rfl rfl <| E.ext rfl rfl rfl <| E.ext rfl rfl rfl <| E.asg rfl rfl <| E.asg rfl rfl <| E.nil <| X.next <| C.seq <| C.region <| E.mv rfl rfl <| E.mv rfl rfl <| ?_
 refine E.call rfl rfl (sbits_ret (Df.lxt s) b a lim p vo fv l _ (hM.pick [0] (by decide)).sep (hM.arg hp ho) ((hM.pick [0] (by decide)).offS hp ho) (by omega) hl (by omega)) ?_
 rintro _ w2 ⟨x2, a2, e2, rfl, m, hr2⟩
 have hM := hM.calls [0] (by decide) rfl (by simp) m
 try dsimp only [Za, Zb, Zc, Zd, repl] at hM
 try dsimp only [Za, Zb, Zc, Zd, repl] at hM
 refine E.mv rfl rfl <| E.ext rfl rfl rfl <| E.ext rfl rfl rfl <| E.asg rfl rfl <| E.asg rfl rfl <| E.nil <| X.next <| C.seq <| C.seq <| C.region <| E.mv rfl rfl <| E.bin rfl rfl rfl rfl <| E.nil <| X.next <| ?_
 refine C.cond' rfl (fun hC0 => ?_) (fun hC0 => ?_)
 ·
  refine C.seq <| C.region <| E.mv rfl rfl <| E.asg rfl rfl <| E.nil <| X.next <| C.ret <| X.retT <| ret1 rfl rfl ?_
  exact ⟨vo, out, a2, e2, rfl, hM, .err hC0 (Df.rmx_err (by unfold Df.rmt; rw [Df.bnd_err (hr2.bad hC0)])), hol⟩
 ·
  have hq2 := hr2.good hC0
  obtain ⟨hx2, he2, hb2⟩ := rbits_lt hq2
  have hp5 : 2 ^ Df.lxt s ≤ 2 ^ 5 := Nat.pow_le_pow_right (by decide) (by omega)
  refine C.skip <| X.next <| C.seq <| C.region <| E.mv rfl rfl <| E.mv rfl rfl <| ?_
  refine E.addN (a := Df.lls s) (b := x2) rfl rfl (by omega) rfl ?_
  refine E.asg rfl rfl <| E.nil <| X.next <| C.seq <| C.region <| E.mv rfl rfl <| E.mv rfl rfl <| ?_
  refine E.call rfl rfl (ssym_ret bd vs D b a2 lim p vo fv l _ (hM.pick [0, 2, 3] (by decide)).sep (hM.arg hp ho) ((hM.pick [0, 2, 3] (by decide)).offS hp ho) (by omega) hl hc hcL) ?_
  rintro _ w3 ⟨x3, a3, e3, rfl, m, hr3⟩
  have hM := hM.calls [0, 2, 3] (by decide) rfl (by simp) m
  try dsimp only [Za, Zb, Zc, Zd, repl] at hM
  try dsimp only [Za, Zb, Zc, Zd, repl] at hM
  refine E.mv rfl rfl <| E.ext rfl rfl rfl <| E.ext rfl rfl rfl <| E.asg rfl rfl <| E.asg rfl rfl <| E.nil <| X.next <| C.seq <| C.seq <| C.region <| E.mv rfl rfl <| E.bin rfl rfl rfl rfl <| E.nil <| X.next <| ?_
  refine C.cond' rfl (fun hC1 => ?_) (fun hC1 => ?_)
  ·
   refine C.seq <| C.region <| E.mv rfl rfl <| E.asg rfl rfl <| E.nil <| X.next <| C.ret <| X.retT <| ret1 rfl rfl ?_
   exact ⟨vo, out, a3, e3, rfl, hM, .err hC1 (Df.rmx_err (by unfold Df.rmt; rw [Df.bnd_ok hq2, Df.bnd_err (hr3.bad hC1)])), hol⟩
  ·
   have hq3 := hr3.good hC1
   have hv3 := Df.rsym_adv (by omega) hq3
   refine C.skip <| X.next <| C.seq <| C.seq <| C.region <| E.mv rfl rfl <| E.bin rfl rfl rfl rfl <| E.nil <| X.next <| ?_
   refine C.cond' rfl (fun hC2 => ?_) (fun hC2 => ?_)
   ·
    refine C.seq <| C.region <| E.asg rfl rfl <| E.nil <| X.next <| C.ret <| X.retT <| ret1 rfl rfl ?_
    exact ⟨vo, out, a3, 9, rfl, hM, .err (by decide) (Df.rmx_err (by unfold Df.rmt; rw [Df.bnd_ok hq2, Df.bnd_ok hq3, if_pos (by omega)])), hol⟩
   ·
    have hxd := Df.dx_bd x3 (by omega)
    refine C.skip <| X.next <| C.seq <| C.region <| E.mv rfl rfl <| ?_
    refine E.call rfl rfl (distanceOf_ret x3 _ (by omega)) ?_
    rintro _ w4 ⟨rfl, x4⟩
    have hM := hM.ext x4
    try dsimp only [Za, Zb, Zc, Zd, repl] at hM
    refine E.mv rfl rfl <| E.ext rfl rfl rfl <| E.ext rfl rfl rfl <| E.asg rfl rfl <| E.asg rfl rfl <| E.nil <| X.next <| C.seq <| C.region <| E.mv rfl rfl <| E.mv rfl rfl <| ?_
    refine E.call rfl rfl (sbits_ret (Df.dxt x3) b a3 lim p vo fv l _ (hM.pick [0] (by decide)).sep (hM.arg hp ho) ((hM.pick [0] (by decide)).offS hp ho) (by omega) hl (by omega)) ?_
    rintro _ w5 ⟨x5, a5, e5, rfl, m, hr5⟩
    have hM := hM.calls [0] (by decide) rfl (by simp) m
    try dsimp only [Za, Zb, Zc, Zd, repl] at hM
    try dsimp only [Za, Zb, Zc, Zd, repl] at hM
    refine E.mv rfl rfl <| E.ext rfl rfl rfl <| E.ext rfl rfl rfl <| E.asg rfl rfl <| E.asg rfl rfl <| E.nil <| X.next <| C.seq <| C.seq <| C.region <| E.mv rfl rfl <| E.bin rfl rfl rfl rfl <| E.nil <| X.next <| ?_
    refine C.cond' rfl (fun hC3 => ?_) (fun hC3 => ?_)
    ·
     refine C.seq <| C.region <| E.mv rfl rfl <| E.asg rfl rfl <| E.nil <| X.next <| C.ret <| X.retT <| ret1 rfl rfl ?_
     exact ⟨vo, out, a5, e5, rfl, hM, .err hC3 (Df.rmx_err (by unfold Df.rmt; rw [Df.bnd_ok hq2, Df.bnd_ok hq3, if_neg (by omega), Df.bnd_err (hr5.bad hC3)])), hol⟩
    ·
     have hq5 := hr5.good hC3
     obtain ⟨hx5, he5, hb5⟩ := rbits_lt hq5
     have hp13 : 2 ^ Df.dxt x3 ≤ 2 ^ 13 := Nat.pow_le_pow_right (by decide) (by omega)
     have hmt : Df.rmt D s (Df.ub l) a = .ok ((Df.lls s + x2, Df.dls x3 + x5), a5) := by unfold Df.rmt; rw [Df.bnd_ok hq2, Df.bnd_ok hq3, if_neg (by omega), Df.bnd_ok hq5]
     have hrx := Df.rmx_ok (lim := lim) (out := out) hmt
     refine C.skip <| X.next <| C.seq <| C.region <| E.mv rfl rfl <| E.mv rfl rfl <| ?_
     refine E.addN (a := Df.dls x3) (b := x5) rfl rfl (by omega) rfl ?_
     refine E.asg rfl rfl <| E.nil <| X.next <| C.seq <| C.seq <| C.region <| E.mv rfl rfl <| E.mv rfl rfl <| E.nilc rfl rfl <| ?_
     refine E.fld (o := 3) (sz := 0) rfl Tryz.underlying111 rfl rfl (by kernel_rfl) rfl ?_
     refine E.load rfl Tryz.underlying22 rfl (hM.bcell 0 rfl rfl) rfl ?_
     refine E.lenv rfl (Rd.shape (hM.sl 1 rfl)) Tryz.underlying22 rfl ?_
     refine E.bin rfl rfl rfl rfl <| E.nil <| X.next <| ?_
     refine C.cond' rfl (fun hC4 => ?_) (fun hC4 => ?_)
     ·
      refine C.seq <| C.region <| E.asg rfl rfl <| E.nil <| X.next <| C.ret <| X.retT <| ret1 rfl rfl ?_
      exact ⟨vo, out, a5, 28, rfl, hM, .err (by decide) (by rw [hrx, if_pos (by omega)]), hol⟩
     ·
      refine C.skip <| X.next <| C.seq <| C.seq <| C.drawn (by kernel_rfl) (by kernel_rfl) <| Q.mv rfl rfl <| Q.nilc rfl rfl <| ?_
      refine Q.fld (o := 3) (sz := 0) rfl Tryz.underlying111 rfl rfl (by kernel_rfl) rfl ?_
      refine Q.load rfl Tryz.underlying22 rfl (hM.bcell 0 rfl rfl) rfl ?_
      refine Q.lenv rfl (Rd.shape (hM.sl 1 rfl)) Tryz.underlying22 rfl ?_
      refine Q.mv rfl rfl <| ?_
      refine Q.addN (a := out.length) (b := Df.lls s + x2) rfl rfl (by omega) rfl ?_
      refine Q.mv rfl rfl <| Q.nilc rfl rfl <| ?_
      refine Q.fld (o := 2) (sz := 0) rfl Tryz.underlying111 rfl rfl (by kernel_rfl) rfl ?_
      refine Q.load rfl Tryz.underlying3 rfl (hM.bcell 0 rfl rfl) rfl ?_
      refine Q.bin rfl rfl rfl rfl <| Q.nil <| fun w5 hx5 => ?_
      have hM := hM.ext hx5
      refine X.next <| ?_
      refine C.cond' rfl (fun hC5 => ?_) (fun hC5 => ?_)
      ·
       refine C.seq <| C.region <| E.asg rfl rfl <| E.nil <| X.next <| C.ret <| X.retT <| ret1 rfl rfl ?_
       exact ⟨vo, out, a5, 4, rfl, hM, .err (by decide) (by rw [hrx, if_neg (by omega), if_pos (by omega)]), hol⟩
      ·
       refine C.skip <| X.next <| C.seq <| C.region <| E.mv rfl rfl <| E.mv rfl rfl <| E.nilc rfl rfl <| ?_
       refine E.fld (o := 3) (sz := 0) rfl Tryz.underlying111 rfl rfl (by kernel_rfl) rfl ?_
       refine E.load rfl Tryz.underlying22 rfl (hM.bcell 0 rfl rfl) rfl ?_
       refine E.mv rfl rfl <| E.mv rfl rfl <| ?_
       refine E.call rfl rfl (repeat_ret vo out (Df.lls s + x2) (Df.dls x3 + x5) _ (hM.pick [1] (by decide)).sep (by omega) (by omega) (by omega)) ?_
       rintro v84 w6 m
       have hM := hM.calls [1] (by decide) rfl (by simp) m
       try dsimp only [Za, Zb, Zc, Zd, repl] at hM
       try dsimp only [Za, Zb, Zc, Zd, repl] at hM
       refine E.nilc rfl rfl <| ?_
       refine E.fld (o := 3) (sz := 0) rfl Tryz.underlying111 rfl rfl (by kernel_rfl) rfl ?_
       refine E.storeM 0 hM rfl rfl rfl (by kernel_rfl) (hM.sl 1 rfl).one rfl ?_
       intro w7 hM
       try dsimp only [Za, Zb, Zc, Zd, repl] at hM
       refine E.nil <| X.next <| C.seq <| C.region <| E.asg rfl rfl <| E.nil <| X.next <| C.ret <| ret1 rfl rfl ?_
       exact ⟨v84, _, a5, 0, rfl, hM, .ok (by rw [hrx, if_neg (by omega), if_neg (by omega)]), by rw [Df.rp_len]; omega⟩
set_option maxHeartbeats 4000000 in
set_option maxRecDepth 4000 in
theorem stokens_ret (bl bd : Nat) (vl vs : Value) (L D : List Nat) (out0 : List UInt8) (b a0 lim : Nat) (p vo0 fv : Value) (l : List UInt8) (w : World) (hs : Sep w [Rg.blk b 111 [p, i64 ((a0 : Nat) : Int), i64 (lim : Int), vo0, fv], Rg.sl u8 5 vo0 out0, Sym.Ax bl 180 16 (fun n => (Df.cn L n : Int)) [vl, i64 (Df.mx L : Int)], Rg.sl i64 3 vl (nz (Pf.od L)), Sym.Ax bd 180 16 (fun n => (Df.cn D n : Int)) [vs, i64 (Df.mx D : Int)], Rg.sl i64 3 vs (nz (Pf.od D))]) (hp : RdL u8 w p l) (ho : Off (fpU [Rg.blk b 111 [p, i64 ((a0 : Nat) : Int), i64 (lim : Int), vo0, fv], Rg.sl u8 5 vo0 out0, Sym.Ax bl 180 16 (fun n => (Df.cn L n : Int)) [vl, i64 (Df.mx L : Int)], Rg.sl i64 3 vl (nz (Pf.od L)), Sym.Ax bd 180 16 (fun n => (Df.cn D n : Int)) [vs, i64 (Df.mx D : Int)], Rg.sl i64 3 vs (nz (Pf.od D))]) p l) (ha0 : a0 ≤ 8 * l.length) (hl : l.length ≤ 1099511627776) (hcL : Df.Code L) (hcD : Df.Code D) (hLl : L.length ≤ 4294967296) (hDl : D.length ≤ 4294967296) (hol0 : out0.length ≤ lim) (hlim : lim ≤ 16777216) :
  Ret Tryz.prog 127 #[pv b, pv bl, pv bd] w fun v w' => ∃ (vo' : Value) (out' : List UInt8) (a' : Nat) (e : Int), v = i64 e ∧ M w (fpU [Rg.blk b 111 [p, i64 ((a0 : Nat) : Int), i64 (lim : Int), vo0, fv], Rg.sl u8 5 vo0 out0, Sym.Ax bl 180 16 (fun n => (Df.cn L n : Int)) [vl, i64 (Df.mx L : Int)], Rg.sl i64 3 vl (nz (Pf.od L)), Sym.Ax bd 180 16 (fun n => (Df.cn D n : Int)) [vs, i64 (Df.mx D : Int)], Rg.sl i64 3 vs (nz (Pf.od D))]) w' [Rg.blk b 111 [p, i64 ((a' : Nat) : Int), i64 (lim : Int), vo', fv], Rg.sl u8 5 vo' out', Sym.Ax bl 180 16 (fun n => (Df.cn L n : Int)) [vl, i64 (Df.mx L : Int)], Rg.sl i64 3 vl (nz (Pf.od L)), Sym.Ax bd 180 16 (fun n => (Df.cn D n : Int)) [vs, i64 (Df.mx D : Int)], Rg.sl i64 3 vs (nz (Pf.od D))] ∧ Rds (Df.tk L D lim (Df.ub l) a0 out0) out' a' e ∧ out'.length ≤ lim := by
 have hM := M.startS hs
 refine enter Tryz.func127 rfl (by kernel_rfl) Tryz.ntmps127 rfl ?_
 refine C.seq <| C.region <| E.asg rfl rfl <| E.nil <| X.next <| C.block <| ?_
 have hul := Df.ub_len l

 refine C.loop3 [(0, _), (1, _), (2, _)] rfl (fun (a : Nat) (out : (List UInt8)) (vo : Value) => []) (fun (a : Nat) (out : (List UInt8)) (vo : Value) w' => M w (fpU [Rg.blk b 111 [p, i64 ((a0 : Nat) : Int), i64 (lim : Int), vo0, fv], Rg.sl u8 5 vo0 out0, Sym.Ax bl 180 16 (fun n => (Df.cn L n : Int)) [vl, i64 (Df.mx L : Int)], Rg.sl i64 3 vl (nz (Pf.od L)), Sym.Ax bd 180 16 (fun n => (Df.cn D n : Int)) [vs, i64 (Df.mx D : Int)], Rg.sl i64 3 vs (nz (Pf.od D))]) w' [Rg.blk b 111 [p, i64 ((a : Nat) : Int), i64 (lim : Int), vo, fv], Rg.sl u8 5 vo out, Sym.Ax bl 180 16 (fun n => (Df.cn L n : Int)) [vl, i64 (Df.mx L : Int)], Rg.sl i64 3 vl (nz (Pf.od L)), Sym.Ax bd 180 16 (fun n => (Df.cn D n : Int)) [vs, i64 (Df.mx D : Int)], Rg.sl i64 3 vs (nz (Pf.od D))] ∧ Df.tk L D lim (Df.ub l) a0 out0 = Df.tk L D lim (Df.ub l) a out ∧ a ≤ 8 * l.length ∧ out.length ≤ lim) (fun (a : Nat) (out : (List UInt8)) (vo : Value) => 8 * l.length - a) a0 out0 vo0 ?_ ?_ ?_
 · exact Sub.nil _
 · exact ⟨hM, rfl, ha0, hol0⟩
 rintro a out vo w0 ⟨hM, htk, ha, hol⟩
 refine C.block <| C.seq <| C.region <| E.mv rfl rfl <| E.mv rfl rfl <| ?_
 refine E.call rfl rfl (ssym_ret bl vl L b a lim p vo fv l _ (hM.pick [0, 2, 3] (by decide)).sep (hM.arg hp ho) ((hM.pick [0, 2, 3] (by decide)).offS hp ho) (by omega) hl hcL hLl) ?_
 rintro _ w1 ⟨x1, a1, e1, rfl, m, hr1⟩
 have hM := hM.calls [0, 2, 3] (by decide) rfl (by simp) m
 try dsimp only [Za, Zb, Zc, Zd, repl] at hM
 try dsimp only [Za, Zb, Zc, Zd, repl] at hM
 refine E.mv rfl rfl <| E.ext rfl rfl rfl <| E.ext rfl rfl rfl <| E.asg rfl rfl <| E.asg rfl rfl <| E.nil <| X.next <| C.seq <| C.block <| C.seq <| C.region <| E.mv rfl rfl <| E.bin rfl rfl rfl rfl <| E.asg rfl rfl <| E.nil <| X.next <| ?_
 refine C.cond' rfl (fun hC0 => ?_) (fun hC0 => ?_)
 ·
  refine C.seq <| C.region <| E.mv rfl rfl <| E.asg rfl rfl <| E.nil <| X.next <| C.ret <| X.retB <| X.retT <| X.retB <| X.retT <| X.retB <| ret1 rfl rfl ?_
  exact ⟨vo, out, a1, e1, rfl, hM, .err hC0 (by rw [htk, Df.tk_err (hr1.bad hC0)]), hol⟩
 ·
  have hq1 := hr1.good hC0
  have hv1 := Df.rsym_adv (by omega) hq1
  refine C.seq <| C.region <| E.mv rfl rfl <| E.bin rfl rfl rfl rfl <| E.asg rfl rfl <| E.nil <| X.next <| ?_
  refine C.cond' rfl (fun hC1 => ?_) (fun hC1 => ?_)
  ·
   obtain rfl : x1 = 256 := by omega
   refine C.seq <| C.region <| E.asg rfl rfl <| E.nil <| X.next <| C.ret <| X.retB <| X.retT <| X.retB <| X.retT <| X.retB <| ret1 rfl rfl ?_
   exact ⟨vo, out, a1, 0, rfl, hM, .ok (by rw [htk, Df.tk_end hq1]), hol⟩
  ·
   refine C.seq <| C.region <| E.mv rfl rfl <| E.bin rfl rfl rfl rfl <| E.asg rfl rfl <| E.nil <| X.next <| ?_
   refine C.cond' rfl (fun hC2 => ?_) (fun hC2 => ?_)
   ·
    refine C.seq <| C.region <| E.asg rfl rfl <| E.nil <| X.next <| C.ret <| X.retB <| X.retT <| X.retB <| X.retT <| X.retB <| ret1 rfl rfl ?_
    exact ⟨vo, out, a1, 9, rfl, hM, .err (by decide) (by rw [htk, Df.tk_bad hq1 (by omega)]), hol⟩
   ·
    refine C.seq <| C.region <| E.mv rfl rfl <| E.bin rfl rfl rfl rfl <| E.asg rfl rfl <| E.nil <| X.next <| ?_
    refine C.cond' rfl (fun hC3 => ?_) (fun hC3 => ?_)
    ·
     have hmx := Df.tk_rmx (D := D) (lim := lim) (out := out) (by omega) hq1 (by omega) (by omega)
     rw [hmx] at htk
     refine C.seq <| C.seq <| C.region <| E.mv rfl rfl <| E.mv rfl rfl <| E.mv rfl rfl <| ?_
     refine E.call rfl rfl (match_ret bd x1 vs D out b a1 lim p vo fv l _ (hM.pick [0, 1, 4, 5] (by decide)).sep (hM.arg hp ho) ((hM.pick [0, 1, 4, 5] (by decide)).offS hp ho) (by omega) hl hcD hDl (by omega) (by omega) hol hlim) ?_
     rintro _ w2 ⟨vo2, out2, a2, e2, rfl, m, hr2, hol2⟩
     have hM := hM.calls [0, 1, 4, 5] (by decide) rfl (by simp) m
     try dsimp only [Za, Zb, Zc, Zd, repl] at hM
     try dsimp only [Za, Zb, Zc, Zd, repl] at hM
     refine E.asg rfl rfl <| E.nil <| X.next <| C.seq <| C.region <| E.mv rfl rfl <| E.bin rfl rfl rfl rfl <| E.nil <| X.next <| ?_
     refine C.cond' rfl (fun hC4 => ?_) (fun hC4 => ?_)
     ·
      refine C.seq <| C.region <| E.mv rfl rfl <| E.asg rfl rfl <| E.nil <| X.next <| C.ret <| X.retT <| X.retB <| X.retT <| X.retB <| X.retT <| X.retB <| ret1 rfl rfl ?_
      exact ⟨vo2, out2, a2, e2, rfl, hM, .err hC4 (by rw [htk, hr2.bad hC4]), hol2⟩
     ·
      have hq2 := hr2.good hC4
      rw [hq2] at htk
      have hv2 := Df.rmx_adv (by omega) hq2

      refine C.skip <| X.next <| C.exit <| X.outNe rfl <| X.exitT <| X.outE <| X.again3 a2 out2 vo2 (Sub.nil _) rfl ⟨hM, htk, by omega, hol2⟩ (by omega)
    ·
     have hlt : x1 < 256 := by omega
     rw [Df.tk_lit (by omega) hq1 hlt] at htk
     refine C.skip <| X.outN <| X.next <| C.seq <| C.seq <| C.drawn (by kernel_rfl) (by kernel_rfl) <| Q.mv rfl rfl <| Q.nilc rfl rfl <| ?_
     refine Q.fld (o := 3) (sz := 0) rfl Tryz.underlying111 rfl rfl (by kernel_rfl) rfl ?_
     refine Q.load rfl Tryz.underlying22 rfl (hM.bcell 0 rfl rfl) rfl ?_
     refine Q.lenv rfl (Rd.shape (hM.sl 1 rfl)) Tryz.underlying22 rfl ?_
     refine Q.mv rfl rfl <| Q.nilc rfl rfl <| ?_
     refine Q.fld (o := 2) (sz := 0) rfl Tryz.underlying111 rfl rfl (by kernel_rfl) rfl ?_
     refine Q.load rfl Tryz.underlying3 rfl (hM.bcell 0 rfl rfl) rfl ?_
     refine Q.bin rfl rfl rfl rfl <| Q.nil <| fun w3 hx3 => ?_
     have hM := hM.ext hx3
     refine X.next <| ?_
     refine C.cond' rfl (fun hC5 => ?_) (fun hC5 => ?_)
     ·
      refine C.seq <| C.region <| E.asg rfl rfl <| E.nil <| X.next <| C.ret <| X.retT <| X.retB <| X.retT <| X.retB <| ret1 rfl rfl ?_
      exact ⟨vo, out, a1, 4, rfl, hM, .err (by decide) (by rw [htk, if_pos (by omega)]), hol⟩
     ·
      rw [if_neg (by omega)] at htk
      refine C.skip <| X.next <| C.region <| E.mv rfl rfl <| E.mv rfl rfl <| E.nilc rfl rfl <| ?_
      refine E.fld (o := 3) (sz := 0) rfl Tryz.underlying111 rfl rfl (by kernel_rfl) rfl ?_
      refine E.load rfl Tryz.underlying22 rfl (hM.bcell 0 rfl rfl) rfl ?_
      refine E.mv rfl rfl <| ?_
      refine E.conv rfl Tryz.underlying3 Tryz.underlying5 (IntWalk.u8_in _ (by omega)) rfl ?_
      refine E.pushM (enc := u8) 1 (UInt8.ofNat x1) hM rfl rfl (look_eq rfl (by rw [ofNat_u8 (by omega)])) Tryz.underlying22 elem_Tuint8 rfl (by omega) (by omega) (by simp) rfl rfl ?_
      intro v54 u54 w4 hM
      try dsimp only [Za, Zb, Zc, Zd, repl] at hM
      refine E.nilc rfl rfl <| ?_
      refine E.fld (o := 3) (sz := 0) rfl Tryz.underlying111 rfl rfl (by kernel_rfl) rfl ?_
      refine E.storeM 0 hM rfl rfl rfl (by kernel_rfl) (hM.sl 1 rfl).one rfl ?_
      intro w5 hM
      try dsimp only [Za, Zb, Zc, Zd, repl] at hM

      refine E.nil <| X.outN <| X.again3 a1 (out ++ [UInt8.ofNat x1]) v54 (Sub.nil _) rfl ⟨hM, htk, by omega, by rw [List.length_append, List.length_singleton]; omega⟩ (by omega)
end Go.Proofs.YtplbgehpohdmdaaGreatDoor
