/- deflate: a block with lengths of its own is read. -/
import Derived.Test.YtcmgbjmcklfkcaaDoorDf21G
namespace Go.Proofs.YtcmgbjmcklfkcaaDoor
set_option linter.unusedSimpArgs false
set_option linter.unusedVariables false
open Go.RowKit Sym

namespace Df
theorem us_kr : ∀ l : List Nat, Pf.kr l ≤ us l * 536870912
  | [] => by simp [Pf.kr]
  | x :: l => by
    have h1 := us_kr l
    have h2 := Pf.un_le x
    have e : Pf.kr (x :: l) = Pf.un x + Pf.kr l := by simp [Pf.kr]
    rw [e]
    by_cases c : 0 < x
    · have : us (x :: l) = us l + 1 := by unfold us; rw [List.filter_cons_of_pos (by simpa using c)]; rfl
      rw [this, Nat.add_mul, Nat.one_mul]
      have : (2 : Nat) ^ 29 = 536870912 := rfl
      omega
    · have : us (x :: l) = us l := by unfold us; rw [List.filter_cons_of_neg (by simpa using c)]
      have hx : x = 0 := by omega
      rw [this, hx, Pf.un, if_pos rfl]; omega
theorem chv_kr {l : List Nat} (h : chv (nz l) = 0) : Pf.kr l ≤ 1073741824 := by
  unfold chv at h
  rw [toN_nz'] at h
  split at h
  · cases h
  · split at h
    · split at h
      · cases h
      · split at h
        · omega
        · cases h
    · cases h
theorem code_chv {l : List Nat} (hb : ∀ x ∈ l, x ≤ 15) (h : chv (nz l) = 0) : Code l := ⟨hb, chv_kr h⟩
theorem code_acc {l : List Nat} (hb : ∀ x ∈ l, x ≤ 15) (h : acc l = true) : Code l := by
  unfold acc at h
  rw [decide_eq_true_eq] at h
  rcases h with h | ⟨h, _⟩
  · exact code_chv hb h
  · exact ⟨hb, by have := us_kr l; rw [h] at this; omega⟩
theorem code_zero {l : List Nat} (hb : ∀ x ∈ l, x ≤ 15) (h : us l = 0) : Code l := ⟨hb, by have := us_kr l; rw [h] at this; omega⟩
/-! the three numbers ahead of a block's lengths -/
def w3 (k : Nat) : Nat := [5, 5, 4].getD k 0
noncomputable def gr (x y z : Nat) : List Bool → Nat → Except Int ((List Nat × List Nat) × Nat) :=
    if 286 < x + 257 ∨ 30 < y + 1 then fun _ _ => .error 9
    else bnd (rl3 (z + 4) 0 (List.replicate 19 0)) fun c =>
      if chv (nz c) = 0 then bnd (rln c (x + 257 + (y + 1)) []) fun l => if badl l (x + 257) then fun _ _ => .error 27 else fun _ a => .ok ((l.take (x + 257), l.drop (x + 257)), a)
      else fun _ _ => .error 27
noncomputable def st3 (k : Nat) (g : Nat → Nat) : List Bool → Nat → Except Int ((List Nat × List Nat) × Nat) :=
  match k with
  | 0 => bnd (rbits 5) fun x => bnd (rbits 5) fun y => bnd (rbits 4) fun z => gr x y z
  | 1 => bnd (rbits 5) fun y => bnd (rbits 4) fun z => gr (g 0) y z
  | 2 => bnd (rbits 4) fun z => gr (g 0) (g 1) z
  | _ => gr (g 0) (g 1) (g 2)
theorem st3_zero (g : Nat → Nat) : rown = st3 0 g := rfl
def upN (g : Nat → Nat) (k v : Nat) : Nat → Nat := fun j => if j = k then v else g j
theorem st3_ok {k v a a' : Nat} {g : Nat → Nat} {B : List Bool} (hk : k < 3) (h : rbits (w3 k) B a = .ok (v, a')) : st3 k g B a = st3 (k + 1) (upN g k v) B a' := by
  match k, hk with
  | 0, _ => exact (bnd_ok h)
  | 1, _ => exact (bnd_ok h)
  | 2, _ => exact (bnd_ok h)
theorem st3_err {k a : Nat} {e : Int} {g : Nat → Nat} {B : List Bool} (hk : k < 3) (h : rbits (w3 k) B a = .error e) : st3 k g B a = .error e := by
  match k, hk with
  | 0, _ => exact (bnd_err h)
  | 1, _ => exact (bnd_err h)
  | 2, _ => exact (bnd_err h)
theorem w3_le (k : Nat) (h : k < 3) : w3 k ≤ 5 := by
  match k, h with
  | 0, _ => decide
  | 1, _ => decide
  | 2, _ => decide
theorem rl3_on {k i a : Nat} {c : List Nat} {B : List Bool} : rl3 (k + 1) i c B a = bnd (rbits 3) (fun v => rl3 k (i + 1) (c.set (ordL.getD i 0) v)) B a := rfl
end Df
theorem Sym.Q.idxN {P : Program} {ops : Array Oper} {Qn : Act → Prop} {s : St} {env : Env} {w : World} {rest : List Oper} {ty : TypeId} {pos : String} {aft : Array Edge} {d : Nat} {t e : TypeId} {x ix : Operand} {kk : IntKind} {i n b : Nat} (hx : ev env x = some (.pointer (some ⟨b, 0, none⟩))) (hi : ev env ix = some (.int kk (i : Int)))
    (ht : P.underlying t = some (.array n e)) (hs : (P.info? e).map (·.size) = some 1) (h1 : i < n) (hd : Nat.blt d s.n = true)
    (h : wpQ P ops w Qn s rest ((d, .pointer (some ⟨b, i, none⟩)) :: env)) : wpQ P ops w Qn s (⟨some d, .indexAddr t x ix, ty, pos, aft, none⟩ :: rest) env :=
  Q.idxA (sz := 1) hx hi ht hs (by omega) (by omega) hd (by rw [show 0 + ((i : Int)).toNat * 1 = i by omega]; exact h)
theorem up_bd {g : Nat → Nat} {k v : Nat} (h : ∀ j, j < 3 → g j < 2 ^ Df.w3 j) (hv : v < 2 ^ Df.w3 k) : ∀ j, j < 3 → Df.upN g k v j < 2 ^ Df.w3 j := fun j hj => by
  unfold Df.upN
  split
  · next e => rw [e]; exact hv
  · exact h j hj
theorem ord_cell {w : World} (h : Ord w) {i : Nat} (hi : i < 19) : w.cell? ⟨0, i, none⟩ = some (i64 ((Df.ordL.getD i 0 : Nat) : Int)) := by
  have := h.at_ i _ (ord_at hi)
  rw [Nat.zero_add] at this; exact this
theorem nz_cut2 {w : World} {p : Value} {l : List Nat} {n k : Nat} (h : RdL i64 w p (nz l)) (hk : k = l.length) (hn : n ≤ l.length) : RdL i64 w (partV p n k) (nz (l.drop n)) := by
  subst hk
  have h1 := h.partV (a := n) (b := l.length) hn (by rw [nz_len]; exact Nat.le_refl _)
  have e : cutL n l.length (nz l) = nz (l.drop n) := by
    unfold cutL nz
    rw [← List.map_drop, List.take_of_length_le]
    rw [List.length_map, List.length_drop]; exact Nat.le_refl _
  rw [e] at h1; exact h1
theorem bd_set {l : List Nat} {k v m : Nat} (h : ∀ x ∈ l, x ≤ m) (hv : v ≤ m) : ∀ x ∈ l.set k v, x ≤ m := fun x hx => by
  rcases List.mem_or_eq_of_mem_set hx with h1 | h1
  · exact h x h1
  · rw [h1]; exact hv
set_option maxHeartbeats 4000000 in
set_option maxRecDepth 4000 in
theorem sown_ret (out : List UInt8) (b a0 lim : Nat) (p vo fv : Value) (l : List UInt8) (w : World) (hs : Sep w [Rg.blk b 74 [p, i64 ((a0 : Nat) : Int), i64 (lim : Int), vo, fv], Rg.sl u8 5 vo out]) (hp : RdL u8 w p l) (ho : Off (fpU [Rg.blk b 74 [p, i64 ((a0 : Nat) : Int), i64 (lim : Int), vo, fv], Rg.sl u8 5 vo out]) p l) (ha0 : a0 ≤ 8 * l.length) (hl : l.length ≤ 1099511627776) (hol : out.length ≤ lim) (hlim : lim ≤ 16777216) (hO : Ord w) (hn0 : ¬ fpU [Rg.blk b 74 [p, i64 ((a0 : Nat) : Int), i64 (lim : Int), vo, fv], Rg.sl u8 5 vo out] 0) :
    Ret Tryd.prog 67 #[pv b] w fun v w' => ∃ (vo' : Value) (out' : List UInt8) (a' : Nat) (e : Int), v = i64 e ∧ M w (fpU [Rg.blk b 74 [p, i64 ((a0 : Nat) : Int), i64 (lim : Int), vo, fv], Rg.sl u8 5 vo out]) w' [Rg.blk b 74 [p, i64 ((a' : Nat) : Int), i64 (lim : Int), vo', fv], Rg.sl u8 5 vo' out'] ∧ Rds (Df.bnd Df.rown (fun x => fun B a => Df.tk x.1 x.2 lim B a out) (Df.ub l) a0) out' a' e ∧ out'.length ≤ lim := by
  have hM := M.startS hs
  refine enter Tryd.func67 rfl (by kernel_rfl) Tryd.ntmps67 rfl ?_
  refine C.seq <| C.region <| E.asg rfl rfl <| E.nil <| X.next <| C.seq <| C.region <| ?_
  refine E.allocM (z := .agg #[.int .i64 0, .int .i64 0, .int .i64 0]) (cs := [.int .i64 0, .int .i64 0, .int .i64 0]) hM (by kernel_rfl) rfl rfl ?_
  intro b3 w0 hM
  try dsimp only [List.nil_append, List.cons_append, List.set_cons_zero, List.set_cons_succ, repl] at hM
  have hul := Df.ub_len l
  have hM : M w (fpU [Rg.blk b 74 [p, i64 ((a0 : Nat) : Int), i64 (lim : Int), vo, fv], Rg.sl u8 5 vo out]) _ [Rg.blk b 74 [p, i64 ((a0 : Nat) : Int), i64 (lim : Int), vo, fv], Rg.sl u8 5 vo out, Sym.Ar b3 136 3 (fun n => (((fun _ => (0 : Nat)) n : Nat) : Int))] := hM.to (congrArg (fun r => [_, _, r]) ((congrArg (Rg.blk b3 136) (show _ = (tab 3 (fun _ => (0 : Int))).map i64 from rfl)).trans ((Sym.Ar_eq _ _ _ _).symm.trans (Sym.Ar_congr fun k _ => rfl))))
  refine E.nil <| X.next <| C.seq <| C.seq <| C.region <| ?_
  refine E.build (cs := [i64 5, i64 5, i64 4]) rfl (by kernel_rfl) rfl ?_
  refine E.mv rfl rfl <| E.nil <| X.next <| C.block <| ?_

  refine C.loop3 [(0, _), (3, _), (17, _)] rfl (fun (k : Nat) (a : Nat) (g : (Nat → Nat)) => [(18, i64 k)]) (fun (k : Nat) (a : Nat) (g : (Nat → Nat)) w' => M w (fpU [Rg.blk b 74 [p, i64 ((a0 : Nat) : Int), i64 (lim : Int), vo, fv], Rg.sl u8 5 vo out]) w' [Rg.blk b 74 [p, i64 ((a : Nat) : Int), i64 (lim : Int), vo, fv], Rg.sl u8 5 vo out, Sym.Ar b3 136 3 (fun n => ((g n : Nat) : Int))] ∧ k ≤ 3 ∧ a ≤ 8 * l.length ∧ Df.rown (Df.ub l) a0 = Df.st3 k g (Df.ub l) a ∧ (∀ j, j < 3 → g j < 2 ^ Df.w3 j)) (fun (k : Nat) (a : Nat) (g : (Nat → Nat)) => 3 - k) 0 a0 (fun _ => 0) ?_ ?_ ?_
  · exact Sub.cons rfl <| Sub.nil _
  · exact ⟨hM, by omega, ha0, rfl, fun j _ => Nat.two_pow_pos _⟩
  rintro k a g w1 ⟨hM, hk, ha, hrw, hg⟩
  refine C.seq <| C.region <| E.bin rfl rfl rfl rfl <| E.nil <| X.next <| C.seq <| ?_
  refine C.cond' rfl (fun hC0 => ?_) (fun hC0 => ?_)
  ·
    have hk' : k < 3 := by omega
    have hw5 := Df.w3_le k hk'
    refine C.skip <| X.next <| C.seq <| C.block <| C.seq <| C.region <| E.mv rfl rfl <| ?_
    refine E.idxV k rfl rfl rfl Tryd.underlying136 Tryd.underlying3 (by kernel_rfl) hk' (show _ = some (i64 (Df.w3 k : Int)) by match k, hk' with | 0, _ => rfl | 1, _ => rfl | 2, _ => rfl) rfl ?_
    refine E.asg rfl rfl <| E.asg rfl rfl <| E.nil <| X.next <| C.seq <| C.region <| E.mv rfl rfl <| E.mv rfl rfl <| ?_
    refine E.call rfl rfl (sbits_ret (Df.w3 k) b a lim p vo fv l _ (hM.pick [0] (by decide)).sep (hM.arg hp ho) ((hM.pick [0] (by decide)).offS hp ho) (by omega) hl (by omega)) ?_
    rintro _ w1 ⟨x1, a1, e1, rfl, m, hr1⟩
    have hM := hM.calls [0] (by decide) rfl (by simp) m
    try dsimp only [List.nil_append, List.cons_append, List.set_cons_zero, List.set_cons_succ, repl] at hM
    try dsimp only [List.nil_append, List.cons_append, List.set_cons_zero, List.set_cons_succ, repl] at hM
    refine E.mv rfl rfl <| E.ext rfl rfl rfl <| E.ext rfl rfl rfl <| E.asg rfl rfl <| E.asg rfl rfl <| E.nil <| X.next <| C.seq <| C.seq <| C.region <| E.mv rfl rfl <| E.bin rfl rfl rfl rfl <| E.nil <| X.next <| ?_
    refine C.cond' rfl (fun hC1 => ?_) (fun hC1 => ?_)
    ·
      refine C.seq <| C.region <| E.mv rfl rfl <| E.asg rfl rfl <| E.nil <| X.next <| C.ret <| X.retT <| X.retB <| X.retT <| X.retT <| X.retB <| X.retT <| ret1 rfl rfl ?_
      exact ⟨vo, out, a1, e1, rfl, hM.pick [0, 1] (by decide), .err hC1 (by rw [Df.bnd_err (hrw.trans (Df.st3_err hk' (hr1.bad hC1)))]), hol⟩
    ·
      have hq1 := hr1.good hC1
      obtain ⟨hx1, he1, hb1⟩ := rbits_lt hq1
      rw [Df.st3_ok hk' hq1] at hrw
      refine C.skip <| X.next <| C.region <| E.mv rfl rfl <| E.mv rfl rfl <| ?_
      refine E.idxN (i := k) rfl rfl Tryd.underlying136 (by kernel_rfl) (by omega) rfl ?_
      refine E.storeAr 2 (x1 : Int) hM rfl rfl rfl (by kernel_rfl) (by omega) ?_
      intro w3 hM
      try dsimp only [List.nil_append, List.cons_append, List.set_cons_zero, List.set_cons_succ, repl] at hM
      refine E.nil <| X.outN <| X.next <| C.region <| ?_
      refine E.addN (a := k) (b := 1) rfl rfl (by omega) rfl ?_

      refine E.mv rfl rfl <| E.nil <| X.again3 (k + 1) a1 (Df.upN g k x1) (Sub.cons rfl <| Sub.nil _) rfl ⟨hM.to (congrArg (fun r => [_, _, r]) (Sym.Ar_congr fun j _ => by unfold Sym.upd Df.upN; split <;> rfl)), by omega, by omega, hrw, up_bd hg hx1⟩ (by omega)
  ·
    obtain rfl : k = 3 := by omega
    have hx := hg 0 (by decide)
    have hy := hg 1 (by decide)
    have hz := hg 2 (by decide)
    have hx' : g 0 < 32 := hx
    have hy' : g 1 < 32 := hy
    have hz' : g 2 < 16 := hz
    obtain ⟨x, hxe⟩ : ∃ x, x = g 0 := ⟨_, rfl⟩
    obtain ⟨y, hye⟩ : ∃ y, y = g 1 := ⟨_, rfl⟩
    obtain ⟨z, hze⟩ : ∃ z, z = g 2 := ⟨_, rfl⟩
    have hrw : Df.rown (Df.ub l) a0 = Df.gr x y z (Df.ub l) a := by rw [hrw, hxe, hye, hze]; rfl
    refine C.exit <| X.exitT <| X.exitT <| X.outE <| X.next <| C.seq <| C.drawn (by kernel_rfl) (by kernel_rfl) <| ?_
    refine Q.idxN (i := 0) rfl rfl Tryd.underlying136 (by kernel_rfl) (by omega) rfl ?_
    refine Q.load rfl Tryd.underlying3 rfl (hM.arr 2 rfl (by omega)) rfl ?_
    rw [← hxe]
    refine Q.addN (a := x) (b := 257) rfl rfl (by omega) rfl ?_
    refine Q.idxN (i := 1) rfl rfl Tryd.underlying136 (by kernel_rfl) (by omega) rfl ?_
    refine Q.load rfl Tryd.underlying3 rfl (hM.arr 2 rfl (by omega)) rfl ?_
    rw [← hye]
    refine Q.addN (a := y) (b := 1) rfl rfl (by omega) rfl ?_
    refine Q.idxN (i := 2) rfl rfl Tryd.underlying136 (by kernel_rfl) (by omega) rfl ?_
    refine Q.load rfl Tryd.underlying3 rfl (hM.arr 2 rfl (by omega)) rfl ?_
    rw [← hze]
    refine Q.addN (a := z) (b := 4) rfl rfl (by omega) rfl ?_
    refine Q.asg rfl rfl <| Q.asg rfl rfl <| Q.asg rfl rfl <| Q.nil <| fun w4 hx4 => ?_
    have hM := hM.ext hx4
    refine X.next <| C.seq <| ?_

    refine C.chainE [(0, _), (8, _), (9, _), (10, _)] rfl [(49, .bool (decide (286 < x + 257 ∨ 30 < y + 1)))] ?_ ?_
    ·
      refine C.region <| E.mv rfl rfl <| E.bin rfl rfl rfl rfl <| E.mv rfl rfl <| ?_
      refine E.split 46 rfl (fun g46 => ?_) (fun g46 => ?_)
      ·
        try simp only [decide_eq_true_eq, decide_eq_false_iff_not, ne_eq, Decidable.not_not, Bool.not_eq_true', Bool.not_eq_false'] at g46
        refine E.off rfl rfl rfl rfl <| E.off rfl rfl rfl rfl <| E.pick rfl rfl rfl <| E.nil <| X.join0 (Sub.cons (by (first | exact leaf_f (by omega) | exact leaf_t (by omega) | exact leaf_d (by omega) | exact leaf_f (by first | (simp [*] <;> fail) | omega) | exact leaf_t (by first | (simp [*] <;> fail) | omega) | exact leaf_d (by first | (simp [*] <;> fail) | omega) | exact leaf_f (by (first | omega | ((try simp only [decide_eq_true_eq, decide_eq_false_iff_not, Bool.not_eq_true', Bool.not_eq_false'] at *); first | omega | (simp_all <;> fail) | (simp_all; omega)))) | exact leaf_t (by (first | omega | ((try simp only [decide_eq_true_eq, decide_eq_false_iff_not, Bool.not_eq_true', Bool.not_eq_false'] at *); first | omega | (simp_all <;> fail) | (simp_all; omega)))) | exact leaf_d (by (first | omega | ((try simp only [decide_eq_true_eq, decide_eq_false_iff_not, Bool.not_eq_true', Bool.not_eq_false'] at *); first | omega | (simp_all <;> fail) | (simp_all; omega)))))) <| Sub.nil _) rfl rfl
      ·
        try simp only [decide_eq_true_eq, decide_eq_false_iff_not, ne_eq, Decidable.not_not, Bool.not_eq_true', Bool.not_eq_false'] at g46
        refine E.on rfl rfl (E.mv rfl rfl ?_)
        refine E.on rfl rfl (E.bin rfl rfl rfl rfl ?_)
        refine E.pick rfl rfl rfl <| E.nil <| X.join0 (Sub.cons (by (first | exact leaf_f (by omega) | exact leaf_t (by omega) | exact leaf_d (by omega) | exact leaf_f (by first | (simp [*] <;> fail) | omega) | exact leaf_t (by first | (simp [*] <;> fail) | omega) | exact leaf_d (by first | (simp [*] <;> fail) | omega) | exact leaf_f (by (first | omega | ((try simp only [decide_eq_true_eq, decide_eq_false_iff_not, Bool.not_eq_true', Bool.not_eq_false'] at *); first | omega | (simp_all <;> fail) | (simp_all; omega)))) | exact leaf_t (by (first | omega | ((try simp only [decide_eq_true_eq, decide_eq_false_iff_not, Bool.not_eq_true', Bool.not_eq_false'] at *); first | omega | (simp_all <;> fail) | (simp_all; omega)))) | exact leaf_d (by (first | omega | ((try simp only [decide_eq_true_eq, decide_eq_false_iff_not, Bool.not_eq_true', Bool.not_eq_false'] at *); first | omega | (simp_all <;> fail) | (simp_all; omega)))))) <| Sub.nil _) rfl rfl
    refine C.cond' rfl (fun hC2 => ?_) (fun hC2 => ?_)
    ·
      refine C.seq <| C.region <| E.asg rfl rfl <| E.nil <| X.next <| C.ret <| X.retT <| ret1 rfl rfl ?_
      exact ⟨vo, out, a, 9, rfl, hM.pick [0, 1] (by decide), .err (by decide) (by rw [Df.bnd_err ((show _ = Except.error 9 by rw [hrw, Df.gr, if_pos hC2]))]), hol⟩
    ·
      rw [Df.gr, if_neg hC2] at hrw
      obtain ⟨aa, haa⟩ : ∃ aa, aa = a := ⟨_, rfl⟩
      rw [← haa] at hrw
      refine C.skip <| X.next <| C.seq <| C.region <| ?_
      refine E.makeM (by_ := 8) (enc := i64) (0 : Int) hM (n := 19) rfl Tryd.underlying29 (by kernel_rfl) rfl (by decide) (by decide) rfl ?_
      intro v50 w5 hM
      try dsimp only [List.nil_append, List.cons_append, List.set_cons_zero, List.set_cons_succ, repl] at hM
      rw [← nz_rep] at hM
      refine E.asg rfl rfl <| E.nil <| X.next <| C.seq <| C.seq <| C.region <| E.mv rfl rfl <| E.mv rfl rfl <| E.nil <| X.next <| C.block <| ?_

      refine C.loop3 [(0, _), (8, _), (9, _), (11, _), (51, _)] rfl (fun (i : Nat) (a : Nat) (c : (List Nat)) => [(52, i64 i)]) (fun (i : Nat) (a : Nat) (c : (List Nat)) w' => M w (fpU [Rg.blk b 74 [p, i64 ((a0 : Nat) : Int), i64 (lim : Int), vo, fv], Rg.sl u8 5 vo out]) w' [Rg.blk b 74 [p, i64 ((a : Nat) : Int), i64 (lim : Int), vo, fv], Rg.sl u8 5 vo out, Rg.sl i64 3 v50 (nz c)] ∧ i ≤ z + 4 ∧ a ≤ 8 * l.length ∧ Df.rl3 (z + 4) 0 (List.replicate 19 0) (Df.ub l) aa = Df.rl3 (z + 4 - i) i c (Df.ub l) a ∧ c.length = 19 ∧ (∀ x ∈ c, x ≤ 15)) (fun (i : Nat) (a : Nat) (c : (List Nat)) => z + 4 - i) 0 a (List.replicate 19 0) ?_ ?_ ?_
      · exact Sub.cons rfl <| Sub.nil _
      · exact ⟨hM.pick [0, 1, 3] (by decide), Nat.zero_le _, by omega, by rw [haa]; rfl, List.length_replicate, fun x hx => by rw [(List.mem_replicate.1 hx).2]; omega⟩
      rintro i a c w6 ⟨hM, hi, ha, hl3, hcl, hcb⟩
      refine C.seq <| C.region <| E.bin rfl rfl rfl rfl <| E.nil <| X.next <| C.seq <| ?_
      refine C.cond' rfl (fun hC3 => ?_) (fun hC3 => ?_)
      ·
        have hi19 : i < 19 := by omega
        have hol19 := ord_lt i hi19
        obtain ⟨mf, hm⟩ : ∃ mf, z + 4 - i = mf + 1 := ⟨z + 4 - i - 1, by omega⟩
        rw [hm, Df.rl3_on (k := mf) (i := i) (c := c)] at hl3
        refine C.skip <| X.next <| C.seq <| C.block <| C.seq <| C.region <| E.mv rfl rfl <| E.asg rfl rfl <| E.nil <| X.next <| C.seq <| C.region <| E.mv rfl rfl <| ?_
        refine E.call rfl rfl (sbits_ret 3 b a lim p vo fv l _ (hM.pick [0] (by decide)).sep (hM.arg hp ho) ((hM.pick [0] (by decide)).offS hp ho) (by omega) hl (by omega)) ?_
        rintro _ w5 ⟨x5, a5, e5, rfl, m, hr5⟩
        have hM := hM.calls [0] (by decide) rfl (by simp) m
        try dsimp only [List.nil_append, List.cons_append, List.set_cons_zero, List.set_cons_succ, repl] at hM
        try dsimp only [List.nil_append, List.cons_append, List.set_cons_zero, List.set_cons_succ, repl] at hM
        refine E.mv rfl rfl <| E.ext rfl rfl rfl <| E.ext rfl rfl rfl <| E.asg rfl rfl <| E.asg rfl rfl <| E.nil <| X.next <| C.seq <| C.seq <| C.region <| E.mv rfl rfl <| E.bin rfl rfl rfl rfl <| E.nil <| X.next <| ?_
        refine C.cond' rfl (fun hC4 => ?_) (fun hC4 => ?_)
        ·
          refine C.seq <| C.region <| E.mv rfl rfl <| E.asg rfl rfl <| E.nil <| X.next <| C.ret <| X.retT <| X.retB <| X.retT <| X.retT <| X.retB <| X.retT <| ret1 rfl rfl ?_
          exact ⟨vo, out, a5, e5, rfl, hM.pick [0, 1] (by decide), .err hC4 (by rw [Df.bnd_err ((show _ = Except.error e5 by rw [hrw, Df.bnd_err (hl3.trans (Df.bnd_err (hr5.bad hC4)))]))]), hol⟩
        ·
          have hq5 := hr5.good hC4
          obtain ⟨hx5, he5, hb5⟩ := rbits_lt hq5
          rw [Df.bnd_ok hq5, show mf = z + 4 - (i + 1) by omega] at hl3
          have hx8 : x5 < 8 := hx5
          refine C.skip <| X.next <| C.region <| E.mv rfl rfl <| E.mv rfl rfl <| ?_
          refine E.idxN (b := 0) (i := i) rfl rfl Tryd.underlying86 (by kernel_rfl) (by omega) rfl ?_
          refine E.load rfl Tryd.underlying3 rfl (ord_cell (hM.ord hO hn0) hi19) rfl ?_
          refine E.mv rfl rfl <| ?_
          refine E.idx1 (k := Df.ordL.getD i 0) rfl rfl (hM.sl 2 rfl) rfl (by rw [nz_len]; omega) Tryd.underlying29 (by kernel_rfl) rfl ?_
          refine E.storeL (enc := i64) 2 (x5 : Int) hM rfl rfl rfl (by kernel_rfl) rfl rfl (by rw [nz_len]; omega) ?_
          intro w8 hM
          try dsimp only [List.nil_append, List.cons_append, List.set_cons_zero, List.set_cons_succ, repl] at hM
          rw [nz_set] at hM
          refine E.nil <| X.outN <| X.next <| C.region <| ?_
          refine E.addN (a := i) (b := 1) rfl rfl (by omega) rfl ?_

          refine E.mv rfl rfl <| E.nil <| X.again3 (i + 1) a5 (c.set (Df.ordL.getD i 0) x5) (Sub.cons rfl <| Sub.nil _) rfl ⟨hM, by omega, by omega, hl3, by rw [List.length_set]; exact hcl, bd_set hcb (by omega)⟩ (by omega)
      ·
        obtain rfl : i = z + 4 := by omega
        rw [Nat.sub_self, Df.rl3] at hl3
        rw [Df.bnd_ok hl3] at hrw
        refine C.exit <| X.exitT <| X.exitT <| X.outE <| X.next <| C.seq <| C.seq <| C.region <| E.mv rfl rfl <| ?_
        refine E.call rfl rfl (Check_ret v50 _ _ (hM.sl 2 rfl)) ?_
        rintro _ w6 ⟨rfl, x6⟩
        have hM := hM.ext x6
        try dsimp only [List.nil_append, List.cons_append, List.set_cons_zero, List.set_cons_succ, repl] at hM
        refine E.bin rfl rfl rfl rfl <| E.nil <| X.next <| ?_
        refine C.cond' rfl (fun hC5 => ?_) (fun hC5 => ?_)
        ·
          refine C.seq <| C.region <| E.asg rfl rfl <| E.nil <| X.next <| C.ret <| X.retT <| ret1 rfl rfl ?_
          exact ⟨vo, out, a, 27, rfl, hM.pick [0, 1] (by decide), .err (by decide) (by rw [Df.bnd_err ((show _ = Except.error 27 by rw [hrw, if_neg hC5]))]), hol⟩
        ·
          have hch : chv (nz c) = 0 := by omega
          have hcc := Df.code_chv hcb hch
          rw [if_pos hch] at hrw
          obtain ⟨n, hne⟩ : ∃ n, n = x + 257 + (y + 1) := ⟨_, rfl⟩
          rw [← hne] at hrw
          refine C.skip <| X.next <| C.seq <| C.region <| E.mv rfl rfl <| E.mv rfl rfl <| ?_
          refine E.call rfl rfl (newDecoder_ret v50 c _ (hM.sl 2 rfl) (by omega) (by omega) hcb) ?_
          rintro _ w7 ⟨b76, vs76, rfl, m⟩
          have hM := hM.call m
          try dsimp only [List.nil_append, List.cons_append, List.set_cons_zero, List.set_cons_succ, repl] at hM
          try dsimp only [List.nil_append, List.cons_append, List.set_cons_zero, List.set_cons_succ, repl] at hM
          refine E.mv rfl rfl <| E.mv rfl rfl <| ?_
          refine E.addN (a := x + 257) (b := y + 1) rfl rfl (by omega) rfl ?_
          rw [← hne]
          refine E.call rfl rfl (slengths_ret b76 n vs76 c b a lim p vo fv l _ (hM.pick [0, 3, 4] (by decide)).sep (hM.arg hp ho) ((hM.pick [0, 3, 4] (by decide)).offS hp ho) (by omega) hl hcc (by omega) (by omega)) ?_
          rintro _ w8 ⟨v80, ls, a8, e8, rfl, m, hr8, hln, hlb⟩
          have hM := hM.calls [0, 3, 4] (by decide) rfl (by simp) m
          try dsimp only [List.nil_append, List.cons_append, List.set_cons_zero, List.set_cons_succ, repl] at hM
          try dsimp only [List.nil_append, List.cons_append, List.set_cons_zero, List.set_cons_succ, repl] at hM
          refine E.mv rfl rfl <| E.ext rfl rfl rfl <| E.ext rfl rfl rfl <| E.asg rfl rfl <| E.asg rfl rfl <| E.nil <| X.next <| C.seq <| C.seq <| C.region <| E.mv rfl rfl <| E.bin rfl rfl rfl rfl <| E.nil <| X.next <| ?_
          refine C.cond' rfl (fun hC6 => ?_) (fun hC6 => ?_)
          ·
            refine C.seq <| C.region <| E.mv rfl rfl <| E.asg rfl rfl <| E.nil <| X.next <| C.ret <| X.retT <| ret1 rfl rfl ?_
            exact ⟨vo, out, a8, e8, rfl, hM.pick [0, 1] (by decide), .err hC6 (by rw [Df.bnd_err ((show _ = Except.error e8 by rw [hrw, Df.bnd_err (hr8.bad hC6)]))]), hol⟩
          ·
            have hq8 := hr8.good hC6
            have he0 : e8 = 0 := by omega
            have hln := hln he0
            rw [Df.bnd_ok hq8] at hrw
            have hnl := nz_len ls
            have ha8 : a8 ≤ (Df.ub l).length := (Df.cut_ln _ _ _ _ _ _ _ (by omega) hq8).2.1
            obtain ⟨mm, hmm⟩ : ∃ mm, mm = x + 257 := ⟨_, rfl⟩
            rw [← hmm] at hrw
            have hLb : ∀ x ∈ ls.take mm, x ≤ 15 := fun x hx => hlb x (List.mem_of_mem_take hx)
            have hDb : ∀ x ∈ ls.drop mm, x ≤ 15 := fun x hx => hlb x (List.mem_of_mem_drop hx)
            have htl : (ls.take mm).length = mm := by rw [List.length_take]; omega
            have hdl : (ls.drop mm).length = n - mm := by rw [List.length_drop, hln]
            rw [← hmm]
            refine C.skip <| X.next <| C.seq <| ?_

            refine C.cut0 [(0, _), (8, _), (15, _)] rfl [(96, .bool (decide (Df.acc (ls.take mm) = false ∨ ls.getD 256 0 = 0)))] (fun w' => M w (fpU [Rg.blk b 74 [p, i64 ((a0 : Nat) : Int), i64 (lim : Int), vo, fv], Rg.sl u8 5 vo out]) w' [Rg.blk b 74 [p, i64 ((a8 : Nat) : Int), i64 (lim : Int), vo, fv], Rg.sl u8 5 vo out, Rg.sl i64 3 v50 (nz c), Sym.Ax b76 132 16 (fun n => (Df.cn c n : Int)) [vs76, i64 (Df.mx c : Int)], Rg.sl i64 3 vs76 (nz (Pf.od c)), Rg.sl i64 3 v80 (nz ls)]) ?_ ?_
            ·
              refine C.region <| E.mv rfl rfl <| E.mv rfl rfl <| ?_
              refine E.slcP (k := .i64) 0 mm rfl (.inr ⟨rfl, rfl⟩) (.inl rfl) (hM.sl 5 rfl) Tryd.underlying29 (by kernel_rfl) (by omega) (by omega) rfl ?_
              refine E.call rfl rfl (acceptable_ret _ (ls.take mm) _ (nz_cut (hM.sl 5 rfl) (by omega)) (by omega) hLb) ?_
              rintro _ w9 ⟨rfl, x9⟩
              have hM := hM.ext x9
              try dsimp only [List.nil_append, List.cons_append, List.set_cons_zero, List.set_cons_succ, repl] at hM
              refine E.not rfl rfl <| E.mv rfl rfl <| ?_
              refine E.split 91 rfl (fun g91 => ?_) (fun g91 => ?_)
              ·
                try simp only [decide_eq_true_eq, decide_eq_false_iff_not, ne_eq, Decidable.not_not, Bool.not_eq_true', Bool.not_eq_false'] at g91

                refine E.off rfl rfl rfl rfl <| E.off rfl rfl rfl rfl <| E.off rfl rfl rfl rfl <| E.off rfl rfl rfl rfl <| E.pick rfl rfl rfl <| E.nil <| X.join0  (Sub.cons (look_eq rfl (by rw [decide_eq_true (.inl (by simpa using g91))])) <| Sub.nil _) rfl hM
              ·
                try simp only [decide_eq_true_eq, decide_eq_false_iff_not, ne_eq, Decidable.not_not, Bool.not_eq_true', Bool.not_eq_false'] at g91
                refine E.on rfl rfl (E.mv rfl rfl ?_)
                refine E.on rfl rfl (E.idx1 (k := 256) rfl rfl (hM.sl 5 rfl) rfl (by omega) Tryd.underlying29 (by kernel_rfl) rfl ?_)
                refine E.on rfl rfl (E.load rfl Tryd.underlying3 rfl ((hM.sl 5 rfl).cell (by omega)) rfl ?_)
                rw [nz_gd]
                refine E.on rfl rfl (E.bin rfl rfl rfl rfl ?_)

                refine E.pick rfl rfl rfl <| E.nil <| X.join0  (Sub.cons (look_eq rfl (congrArg _ (decide_eq_decide.2 (by rw [show Df.acc (ls.take mm) = true by simpa using g91]; simp)))) <| Sub.nil _) rfl hM
            rintro  w13 hM
            refine C.cond' rfl (fun hC7 => ?_) (fun hC7 => ?_)
            ·
              refine C.seq <| C.region <| E.asg rfl rfl <| E.nil <| X.next <| C.ret <| X.retT <| ret1 rfl rfl ?_
              exact ⟨vo, out, a8, 27, rfl, hM.pick [0, 1] (by decide), .err (by decide) (by rw [Df.bnd_err ((show _ = Except.error 27 by rw [hrw, if_pos (show Df.badl ls mm from hC7.elim .inl fun h => .inr (.inl h))]))]), hol⟩
            ·
              have hac : Df.acc (ls.take mm) = true := by cases h : Df.acc (ls.take mm) with | true => rfl | false => exact (hC7 (.inl h)).elim
              have hcL := Df.code_acc hLb hac
              refine C.skip <| X.next <| C.seq <| ?_

              refine C.cut0 [(0, _), (8, _), (15, _)] rfl [(108, .bool (decide (Df.acc (ls.drop mm) = false ∧ 0 < Df.us (ls.drop mm))))] (fun w' => M w (fpU [Rg.blk b 74 [p, i64 ((a0 : Nat) : Int), i64 (lim : Int), vo, fv], Rg.sl u8 5 vo out]) w' [Rg.blk b 74 [p, i64 ((a8 : Nat) : Int), i64 (lim : Int), vo, fv], Rg.sl u8 5 vo out, Rg.sl i64 3 v50 (nz c), Sym.Ax b76 132 16 (fun n => (Df.cn c n : Int)) [vs76, i64 (Df.mx c : Int)], Rg.sl i64 3 vs76 (nz (Pf.od c)), Rg.sl i64 3 v80 (nz ls)]) ?_ ?_
              ·
                refine C.region <| E.mv rfl rfl <| E.mv rfl rfl <| ?_
                refine E.slcP (k' := .i64) mm n rfl (.inl rfl) (.inr ⟨rfl, by omega⟩) (hM.sl 5 rfl) Tryd.underlying29 (by kernel_rfl) (by omega) (by omega) rfl ?_
                refine E.call rfl rfl (acceptable_ret _ (ls.drop mm) _ (nz_cut2 (hM.sl 5 rfl) hln.symm (by omega)) (by omega) hDb) ?_
                rintro _ w10 ⟨rfl, x10⟩
                have hM := hM.ext x10
                try dsimp only [List.nil_append, List.cons_append, List.set_cons_zero, List.set_cons_succ, repl] at hM
                refine E.not rfl rfl <| E.mv rfl rfl <| ?_
                refine E.split 102 rfl (fun g102 => ?_) (fun g102 => ?_)
                ·
                  try simp only [decide_eq_true_eq, decide_eq_false_iff_not, ne_eq, Decidable.not_not, Bool.not_eq_true', Bool.not_eq_false'] at g102
                  refine E.on rfl rfl (E.mv rfl rfl ?_)
                  refine E.on rfl rfl (E.mv rfl rfl ?_)
                  refine E.on rfl rfl (E.slcP (k' := .i64) mm n rfl (.inl rfl) (.inr ⟨rfl, by omega⟩) (hM.sl 5 rfl) Tryd.underlying29 (by kernel_rfl) (by omega) (by omega) rfl ?_)
                  refine E.on rfl rfl (E.call rfl rfl (used_ret _ (ls.drop mm) _ (nz_cut2 (hM.sl 5 rfl) hln.symm (by omega)) (by omega)) ?_)
                  rintro _ w11 ⟨rfl, x11⟩
                  have hM := hM.ext x11
                  try dsimp only [List.nil_append, List.cons_append, List.set_cons_zero, List.set_cons_succ, repl] at hM
                  refine E.on rfl rfl (E.bin rfl rfl rfl rfl ?_)

                  refine E.pick rfl rfl rfl <| E.nil <| X.join0  (Sub.cons (look_eq rfl (congrArg _ (decide_eq_decide.2 (by rw [show Df.acc (ls.drop mm) = false by simpa using g102]; simp)))) <| Sub.nil _) rfl hM
                ·
                  try simp only [decide_eq_true_eq, decide_eq_false_iff_not, ne_eq, Decidable.not_not, Bool.not_eq_true', Bool.not_eq_false'] at g102

                  refine E.off rfl rfl rfl rfl <| E.off rfl rfl rfl rfl <| E.off rfl rfl rfl rfl <| E.off rfl rfl rfl rfl <| E.off rfl rfl rfl rfl <| E.pick rfl rfl rfl <| E.nil <| X.join0  (Sub.cons (look_eq rfl (by rw [decide_eq_false (fun h => by rw [h.1] at g102; simp at g102)])) <| Sub.nil _) rfl hM
              rintro  w16 hM
              refine C.cond' rfl (fun hC8 => ?_) (fun hC8 => ?_)
              ·
                refine C.seq <| C.region <| E.asg rfl rfl <| E.nil <| X.next <| C.ret <| X.retT <| ret1 rfl rfl ?_
                exact ⟨vo, out, a8, 27, rfl, hM.pick [0, 1] (by decide), .err (by decide) (by rw [Df.bnd_err ((show _ = Except.error 27 by rw [hrw, if_pos (show Df.badl ls mm from .inr (.inr hC8))]))]), hol⟩
              ·
                have hcD : Df.Code (ls.drop mm) := by
                  cases h : Df.acc (ls.drop mm) with
                  | true => exact Df.code_acc hDb h
                  | false => exact Df.code_zero hDb (by rcases Nat.eq_zero_or_pos (Df.us (ls.drop mm)) with h1 | h1; exact h1; exact (hC8 ⟨h, h1⟩).elim)
                rw [if_neg (show ¬ Df.badl ls mm from fun h => h.elim (fun h => hC7 (.inl h)) fun h => h.elim (fun h => hC7 (.inr h)) hC8)] at hrw
                refine C.skip <| X.next <| C.seq <| C.heldM hM [5] (by decide) (by kernel_rfl) fun wh17 hM hS => ?_
                refine H.take 0 rfl rfl (by kernel_rfl) (by kernel_rfl) (by kernel_rfl) hS (fun w' hM => Y.mv rfl) rfl ?_
                refine H.take 1 rfl rfl (by kernel_rfl) (by kernel_rfl) (by kernel_rfl) hS (fun w' hM => Y.mv rfl) rfl ?_
                refine H.take 2 rfl rfl (by kernel_rfl) (by kernel_rfl) (by kernel_rfl) hS (fun w' hM => Y.mv rfl) rfl ?_
                refine H.takeV 3 rfl rfl (by kernel_rfl) (by kernel_rfl) (by kernel_rfl) hS (Y.slcP (k := .i64) (enc := i64) (l := nz ls) 0 mm rfl (.inr ⟨rfl, rfl⟩) (.inl rfl) (by first | exact hM.sl 5 rfl | exact hM.sl 0 rfl) Tryd.underlying29 (by kernel_rfl) (by omega) (by omega)) (fun w' hM => Y.slcP (k := .i64) (enc := i64) (l := nz ls) 0 mm rfl (.inr ⟨rfl, rfl⟩) (.inl rfl) (by first | exact hM.sl 5 rfl | exact hM.sl 0 rfl) Tryd.underlying29 (by kernel_rfl) (by omega) (by omega)) rfl ?_
                refine H.take 5 rfl rfl (by kernel_rfl) (by kernel_rfl) (by kernel_rfl) hS (fun w' hM => Y.mv rfl) rfl ?_
                refine H.take 6 rfl rfl (by kernel_rfl) (by kernel_rfl) (by kernel_rfl) hS (fun w' hM => Y.mv rfl) rfl ?_
                refine H.takeV 7 rfl rfl (by kernel_rfl) (by kernel_rfl) (by kernel_rfl) hS (Y.slcP (k' := .i64) (enc := i64) (l := nz ls) mm n rfl (.inl rfl) (.inr ⟨rfl, by omega⟩) (by first | exact hM.sl 5 rfl | exact hM.sl 0 rfl) Tryd.underlying29 (by kernel_rfl) (by omega) (by omega)) (fun w' hM => Y.slcP (k' := .i64) (enc := i64) (l := nz ls) mm n rfl (.inl rfl) (.inr ⟨rfl, by omega⟩) (by first | exact hM.sl 5 rfl | exact hM.sl 0 rfl) Tryd.underlying29 (by kernel_rfl) (by omega) (by omega)) rfl ?_
                refine H.only 4 rfl (by kernel_rfl) ?_
                refine E.call rfl rfl (newDecoder_ret _ (ls.take mm) _ (nz_cut (hM.sl 5 rfl) (by omega)) (by omega) (by omega) hLb) ?_
                rintro _ w12 ⟨b113, vs113, rfl, m⟩
                have hM := hM.call m
                try dsimp only [List.nil_append, List.cons_append, List.set_cons_zero, List.set_cons_succ, repl] at hM
                try dsimp only [List.nil_append, List.cons_append, List.set_cons_zero, List.set_cons_succ, repl] at hM
                have hS := hM.pick [5] (by decide)
                refine H.back hS ?_
                refine H.only 8 rfl (by kernel_rfl) ?_
                refine E.call rfl rfl (newDecoder_ret _ (ls.drop mm) _ (nz_cut2 (hM.sl 5 rfl) hln.symm (by omega)) (by omega) (by omega) hDb) ?_
                rintro _ w13 ⟨b117, vs117, rfl, m⟩
                have hM := hM.call m
                try dsimp only [List.nil_append, List.cons_append, List.set_cons_zero, List.set_cons_succ, repl] at hM
                try dsimp only [List.nil_append, List.cons_append, List.set_cons_zero, List.set_cons_succ, repl] at hM
                have hS := hM.pick [5] (by decide)
                refine H.back hS ?_
                refine H.only 9 rfl (by kernel_rfl) ?_
                refine E.call rfl rfl (stokens_ret b113 b117 vs113 vs117 (ls.take mm) (ls.drop mm) out b a8 lim p vo fv l _ (hM.pick [0, 1, 6, 7, 8, 9] (by decide)).sep (hM.arg hp ho) ((hM.pick [0, 1, 6, 7, 8, 9] (by decide)).offS hp ho) (by omega) hl hcL hcD (by omega) (by omega) hol hlim) ?_
                rintro _ w14 ⟨vo2, out2, a2, e2, rfl, m, hr2, hol2⟩
                have hM := hM.calls [0, 1, 6, 7, 8, 9] (by decide) rfl (by simp) m
                try dsimp only [List.nil_append, List.cons_append, List.set_cons_zero, List.set_cons_succ, repl] at hM
                try dsimp only [List.nil_append, List.cons_append, List.set_cons_zero, List.set_cons_succ, repl] at hM
                have hS := hM.pick [5] (by decide)
                refine H.back hS ?_
                refine H.take 10 rfl rfl (by kernel_rfl) (by kernel_rfl) (by kernel_rfl) hS (fun w' hM => Y.asg rfl) rfl ?_
                refine H.done (by kernel_rfl) ?_
                refine X.next <| C.ret <| ret1 rfl rfl ?_
                exact ⟨vo2, out2, a2, e2, rfl, hM.pick [0, 1] (by decide), by rw [Df.bnd_ok hrw]; exact hr2, hol2⟩

end Go.Proofs.YtcmgbjmcklfkcaaDoor
