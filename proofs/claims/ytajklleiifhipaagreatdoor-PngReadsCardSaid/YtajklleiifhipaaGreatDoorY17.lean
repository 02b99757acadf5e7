/- Texts of the claim, laid together: Df22, DfK. -/
import Derived.Test.YtajklleiifhipaaGreatDoorY0
import Derived.Test.YtajklleiifhipaaGreatDoorY3
import Derived.Test.YtajklleiifhipaaGreatDoorY5
import Derived.Test.YtajklleiifhipaaGreatDoorY15
import Derived.Test.YtajklleiifhipaaGreatDoorY16
set_option linter.unusedSimpArgs false
set_option linter.unusedVariables false
namespace Go.Proofs.YtajklleiifhipaaGreatDoor
open Go.RowKit Sym
namespace Df
theorem us_kr : ∀ l : List Nat, Pf.kr l ≤ us l * 536870912
  | [] => by simp [Pf.kr]
  | x :: l => by
    have h1 := us_kr l
    have h2 := Pf.un_le x
    have e : Pf.kr (x :: l) = Pf.un x + Pf.kr l := by simp [Pf.kr]
    rw [e]
    by_cases c : 0 < x
    · have : us (x :: l) = us l + 1 := by unfold us; rw [List.filter_cons_of_pos (by simpa using c)]; rfl
      rw [this, Nat.add_mul, Nat.one_mul]
      have : (2 : Nat) ^ 29 = 536870912 := rfl
      omega
    have : us (x :: l) = us l := by unfold us; rw [List.filter_cons_of_neg (by simpa using c)]
    have hx : x = 0 := by omega
    rw [this, hx, Pf.un, if_pos rfl]; omega
theorem chv_kr {l : List Nat} (h : chv (nz l) = 0) : Pf.kr l ≤ 1073741824 := by
  unfold chv at h
  rw [toN_nz'] at h
  split at h
  · cases h
  split at h
  · split at h
    · cases h
    split at h
    · omega
    cases h
  cases h
theorem code_chv {l : List Nat} (hb : ∀ x ∈ l, x ≤ 15) (h : chv (nz l) = 0) : Code l := ⟨hb, chv_kr h⟩
theorem code_acc {l : List Nat} (hb : ∀ x ∈ l, x ≤ 15) (h : acc l = true) : Code l := by
 unfold acc at h
 rw [decide_eq_true_eq] at h
 rcases h with h | ⟨h, _⟩
 · exact code_chv hb h
 exact ⟨hb, by have := us_kr l; rw [h] at this; omega⟩
theorem code_zero {l : List Nat} (hb : ∀ x ∈ l, x ≤ 15) (h : us l = 0) : Code l := ⟨hb, by have := us_kr l; rw [h] at this; omega⟩
def w3 (k : Nat) : Nat := [5, 5, 4].getD k 0
noncomputable def gr (x y z : Nat) : List Bool → Nat → Except Int ((List Nat × List Nat) × Nat) :=
  if 286 < x + 257 ∨ 30 < y + 1 then fun _ _ => .error 9
  else bnd (rl3 (z + 4) 0 (List.replicate 19 0)) fun c =>
   if chv (nz c) = 0 then bnd (rln c (x + 257 + (y + 1)) []) fun l => if badl l (x + 257) then fun _ _ => .error 27 else fun _ a => .ok ((l.take (x + 257), l.drop (x + 257)), a)
   else fun _ _ => .error 27
noncomputable def st3 (k : Nat) (g : Nat → Nat) : List Bool → Nat → Except Int ((List Nat × List Nat) × Nat) :=
 match k with
 | 0 => bnd (rbits 5) fun x => bnd (rbits 5) fun y => bnd (rbits 4) fun z => gr x y z
 | 1 => bnd (rbits 5) fun y => bnd (rbits 4) fun z => gr (g 0) y z
 | 2 => bnd (rbits 4) fun z => gr (g 0) (g 1) z
 | _ => gr (g 0) (g 1) (g 2)
def upN (g : Nat → Nat) (k v : Nat) : Nat → Nat := fun j => if j = k then v else g j
theorem st3_ok {k v a a' : Nat} {g : Nat → Nat} {B : List Bool} (hk : k < 3) (h : rbits (w3 k) B a = .ok (v, a')) : st3 k g B a = st3 (k + 1) (upN g k v) B a' := by
 match k, hk with
 | 0, _ => exact (bnd_ok h)
 | 1, _ => exact (bnd_ok h)
 | 2, _ => exact (bnd_ok h)
theorem st3_err {k a : Nat} {e : Int} {g : Nat → Nat} {B : List Bool} (hk : k < 3) (h : rbits (w3 k) B a = .error e) : st3 k g B a = .error e := by
 match k, hk with
 | 0, _ => exact (bnd_err h)
 | 1, _ => exact (bnd_err h)
 | 2, _ => exact (bnd_err h)
theorem w3_le (k : Nat) (h : k < 3) : w3 k ≤ 5 := by
 match k, h with
 | 0, _ => decide
 | 1, _ => decide
 | 2, _ => decide
theorem rl3_on {k i a : Nat} {c : List Nat} {B : List Bool} : rl3 (k + 1) i c B a = bnd (rbits 3) (fun v => rl3 k (i + 1) (c.set (ordL.getD i 0) v)) B a := rfl
end Df
theorem Sym.Q.idxN {P : Program} {ops : Array Oper} {Qn : Act → Prop} {s : St} {env : Env} {w : World} {rest : List Oper} {ty : TypeId} {pos : String} {aft : Array Edge} {d : Nat} {t e : TypeId} {x ix : Operand} {kk : IntKind} {i n b : Nat} (hx : ev env x = some (.pointer (some ⟨b, 0, none⟩))) (hi : ev env ix = some (.int kk (i : Int)))
  (ht : P.underlying t = some (.array n e)) (hs : (P.info? e).map (·.size) = some 1) (h1 : i < n) (hd : Nat.blt d s.n = true)
  (h : wpQ P ops w Qn s rest ((d, .pointer (some ⟨b, i, none⟩)) :: env)) : wpQ P ops w Qn s (⟨some d, .indexAddr t x ix, ty, pos, aft, none⟩ :: rest) env :=
 Q.idxA (sz := 1) hx hi ht hs (by omega) (by omega) hd (by rw [show 0 + ((i : Int)).toNat * 1 = i by omega]; exact h)
theorem up_bd {g : Nat → Nat} {k v : Nat} (h : ∀ j, j < 3 → g j < 2 ^ Df.w3 j) (hv : v < 2 ^ Df.w3 k) : ∀ j, j < 3 → Df.upN g k v j < 2 ^ Df.w3 j := fun j hj => by
 unfold Df.upN
 split
 · next e => rw [e]; exact hv
 exact h j hj
theorem ord_cell {w : World} (h : Ord w) {i : Nat} (hi : i < 19) : w.cell? ⟨0, i, none⟩ = some (i64 ((Df.ordL.getD i 0 : Nat) : Int)) := by
 have := h.at_ i _ (ord_at hi)
 rw [Nat.zero_add] at this; exact this
theorem nz_cut2 {w : World} {p : Value} {l : List Nat} {n k : Nat} (h : RdL i64 w p (nz l)) (hk : k = l.length) (hn : n ≤ l.length) : RdL i64 w (partV p n k) (nz (l.drop n)) := by
 subst hk
 have h1 := h.partV (a := n) (b := l.length) hn (by rw [nz_len]; exact Nat.le_refl _)
 have e : cutL n l.length (nz l) = nz (l.drop n) := by
  unfold cutL nz
  rw [← List.map_drop, List.take_of_length_le]
  rw [List.length_map, List.length_drop]; exact Nat.le_refl _
 rw [e] at h1; exact h1
theorem bd_set {l : List Nat} {k v m : Nat} (h : ∀ x ∈ l, x ≤ m) (hv : v ≤ m) : ∀ x ∈ l.set k v, x ≤ m := fun x hx => by
 rcases List.mem_or_eq_of_mem_set hx with h1 | h1
 · exact h x h1
 rw [h1]; exact hv
set_option maxHeartbeats 4000000 in
set_option maxRecDepth 4000 in
theorem sown_ret (out : List UInt8) (b a0 lim : Nat) (p vo fv : Value) (l : List UInt8) (w : World) (hs : Sep w [Rg.blk b 102 [p, i64 ((a0 : Nat) : Int), i64 (lim : Int), vo, fv], Rg.sl u8 5 vo out]) (hp : RdL u8 w p l) (ho : Off (fpU [Rg.blk b 102 [p, i64 ((a0 : Nat) : Int), i64 (lim : Int), vo, fv], Rg.sl u8 5 vo out]) p l) (ha0 : a0 ≤ 8 * l.length) (hl : l.length ≤ 1099511627776) (hol : out.length ≤ lim) (hlim : lim ≤ 16777216) (hO : Ord w) (hn0 : ¬ fpU [Rg.blk b 102 [p, i64 ((a0 : Nat) : Int), i64 (lim : Int), vo, fv], Rg.sl u8 5 vo out] 0) :
  Ret Tryz.prog 117 #[pv b] w fun v w' => ∃ (vo' : Value) (out' : List UInt8) (a' : Nat) (e : Int), v = i64 e ∧ M w (fpU [Rg.blk b 102 [p, i64 ((a0 : Nat) : Int), i64 (lim : Int), vo, fv], Rg.sl u8 5 vo out]) w' [Rg.blk b 102 [p, i64 ((a' : Nat) : Int), i64 (lim : Int), vo', fv], Rg.sl u8 5 vo' out'] ∧ Rds (Df.bnd Df.rown (fun x => fun B a => Df.tk x.1 x.2 lim B a out) (Df.ub l) a0) out' a' e ∧ out'.length ≤ lim := by
 have hM := M.startS hs
 refine enter Tryz.func117 rfl (by kernel_rfl) Tryz.ntmps117 rfl $ Kb $ Kd rfl $ E.allocM (z := .agg #[.int .i64 0, .int .i64 0, .int .i64 0]) (cs := [.int .i64 0, .int .i64 0, .int .i64 0]) hM (by kernel_rfl) rfl rfl ?_
 intro b3 w0 hM
 have hul := Df.ub_len l
 have hM : M w (fpU [Rg.blk b 102 [p, i64 ((a0 : Nat) : Int), i64 (lim : Int), vo, fv], Rg.sl u8 5 vo out]) _ [Rg.blk b 102 [p, i64 ((a0 : Nat) : Int), i64 (lim : Int), vo, fv], Rg.sl u8 5 vo out, Sym.Ar b3 178 3 (fun n => (((fun _ => (0 : Nat)) n : Nat) : Int))] := hM.to (congrArg (fun r => [_, _, r]) ((congrArg (Rg.blk b3 178) (show _ = (tab 3 (fun _ => (0 : Int))).map i64 from rfl)).trans ((Sym.Ar_eq _ _ _ _).symm.trans (Sym.Ar_congr fun k _ => rfl))))
 refine Ka $ C.seq $ Kb $ E.build (cs := [i64 5, i64 5, i64 4]) rfl (by kernel_rfl) rfl $ Km rfl $ Ka $ C.block $ C.loop3 [(0, _), (3, _), (17, _)] rfl (fun (k : Nat) (a : Nat) (g : (Nat → Nat)) => [(18, i64 k)]) (fun (k : Nat) (a : Nat) (g : (Nat → Nat)) w' => M w (fpU [Rg.blk b 102 [p, i64 ((a0 : Nat) : Int), i64 (lim : Int), vo, fv], Rg.sl u8 5 vo out]) w' [Rg.blk b 102 [p, i64 ((a : Nat) : Int), i64 (lim : Int), vo, fv], Rg.sl u8 5 vo out, Sym.Ar b3 178 3 (fun n => ((g n : Nat) : Int))] ∧ k ≤ 3 ∧ a ≤ 8 * l.length ∧ Df.rown (Df.ub l) a0 = Df.st3 k g (Df.ub l) a ∧ (∀ j, j < 3 → g j < 2 ^ Df.w3 j)) (fun (k : Nat) (a : Nat) (g : (Nat → Nat)) => 3 - k) 0 a0 (fun _ => 0) ?_ ?_ ?_
 · exact S1 rfl
 · exact ⟨hM, by omega, ha0, rfl, fun j _ => Nat.two_pow_pos _⟩
 rintro k a g w1 ⟨hM, hk, ha, hrw, hg⟩
 refine Kb $ Kp rfl $ Ka $ C.seq $ C.cond' rfl (fun hC0 => ?_) (fun hC0 => ?_)
 ·
  have hk' : k < 3 := by omega
  have hw5 := Df.w3_le k hk'
  refine Kk $ C.seq $ C.block $ Kb $ Km rfl $ E.idxV k rfl rfl rfl Tryz.underlying178 U3 (by kernel_rfl) hk' (show _ = some (i64 (Df.w3 k : Int)) by match k, hk' with | 0, _ => rfl | 1, _ => rfl | 2, _ => rfl) rfl $ Kn rfl $ Kd rfl $ Kf rfl $ E.call rfl rfl (sbits_ret (Df.w3 k) b a lim p vo fv l _ (hM.pick [0] (by decide)).sep (hM.arg hp ho) ((hM.pick [0] (by decide)).offS hp ho) (by omega) hl (by omega)) ?_
  rintro _ w1 ⟨x1, a1, e1, rfl, m, hr1⟩
  have hM := hM.calls [0] (by decide) rfl (by simp) m
  refine Km rfl $ E.ext rfl rfl rfl $ E.ext rfl rfl rfl $ Kn rfl $ Kc rfl $ C.seq $ Kb $ Km rfl $ Kp rfl $ Ka $ C.cond' rfl (fun hC1 => ?_) (fun hC1 => ?_)
  ·
   refine Kb $ Km rfl $ Kc rfl $ C.ret $ X.retT $ X.retB $ X.retT $ X.retT $ X.retB $ X.retT $ ret1 rfl rfl ?_
   exact ⟨vo, out, a1, e1, rfl, hM.pick [0, 1] (by decide), .err hC1 (by rw [Df.bnd_err (hrw.trans (Df.st3_err hk' (hr1.bad hC1)))]), hol⟩
  have hq1 := hr1.good hC1
  obtain ⟨hx1, he1, hb1⟩ := rbits_lt hq1
  rw [Df.st3_ok hk' hq1] at hrw
  refine Kk $ C.region $ Kf rfl $ E.idxN (i := k) rfl rfl Tryz.underlying178 (by kernel_rfl) (by omega) rfl $ E.storeAr 2 (x1 : Int) hM rfl rfl rfl (by kernel_rfl) (by omega) ?_
  intro w3 hM
  refine E.nil $ X.outN $ X.next $ C.region $ E.addN (a := k) (b := 1) rfl rfl (by omega) rfl $ Km rfl $ E.nil $ X.again3 (k + 1) a1 (Df.upN g k x1) (S1 rfl) rfl ⟨hM.to (congrArg (fun r => [_, _, r]) (Sym.Ar_congr fun j _ => by unfold Sym.upd Df.upN; split <;> rfl)), by omega, by omega, hrw, up_bd hg hx1⟩ (by omega)
 obtain rfl : k = 3 := by omega
 have hx := hg 0 (by decide)
 have hy := hg 1 (by decide)
 have hz := hg 2 (by decide)
 have hx' : g 0 < 32 := hx
 have hy' : g 1 < 32 := hy
 have hz' : g 2 < 16 := hz
 obtain ⟨x, hxe⟩ : ∃ x, x = g 0 := ⟨_, rfl⟩
 obtain ⟨y, hye⟩ : ∃ y, y = g 1 := ⟨_, rfl⟩
 obtain ⟨z, hze⟩ : ∃ z, z = g 2 := ⟨_, rfl⟩
 have hrw : Df.rown (Df.ub l) a0 = Df.gr x y z (Df.ub l) a := by rw [hrw, hxe, hye, hze]; rfl
 refine Kx $ C.seq $ C.drawn (by kernel_rfl) (by kernel_rfl) $ Q.idxN (i := 0) rfl rfl Tryz.underlying178 (by kernel_rfl) (by omega) rfl $ Q.load rfl U3 rfl (hM.arr 2 rfl (by omega)) rfl ?_
 rw [← hxe]
 refine Q.addN (a := x) (b := 257) rfl rfl (by omega) rfl $ Q.idxN (i := 1) rfl rfl Tryz.underlying178 (by kernel_rfl) (by omega) rfl $ Q.load rfl U3 rfl (hM.arr 2 rfl (by omega)) rfl ?_
 rw [← hye]
 refine Q.addN (a := y) (b := 1) rfl rfl (by omega) rfl $ Q.idxN (i := 2) rfl rfl Tryz.underlying178 (by kernel_rfl) (by omega) rfl $ Q.load rfl U3 rfl (hM.arr 2 rfl (by omega)) rfl ?_
 rw [← hze]
 refine Q.addN (a := z) (b := 4) rfl rfl (by omega) rfl $ Q.asg rfl rfl $ Q.asg rfl rfl $ Q.asg rfl rfl $ Q.nil $ fun w4 hx4 => ?_
 have hM := hM.ext hx4
 refine X.next $ C.seq $ C.chainE [(0, _), (8, _), (9, _), (10, _)] rfl [(49, .bool (decide (286 < x + 257 ∨ 30 < y + 1)))] ?_ ?_
 ·
  refine C.region $ Km rfl $ Kp rfl $ Km rfl $ E.split 46 rfl (fun g46 => ?_) (fun g46 => ?_)
  ·
   try simp only [Ya, Yb, Yc, Yd, Ye, Yf] at g46
   refine Kq rfl $ Kq rfl $ Kr rfl $ E.nil $ X.join0 (Sub.cons (by exact leaf_t (by omega)) $ Sub.nil _) rfl rfl
  try simp only [Ya, Yb, Yc, Yd, Ye, Yf] at g46
  refine Ko rfl $ Km rfl $ Ko rfl $ Kp rfl $ Kr rfl $ E.nil $ X.join0 (Sub.cons (by exact leaf_d (by omega)) $ Sub.nil _) rfl rfl
 refine C.cond' rfl (fun hC2 => ?_) (fun hC2 => ?_)
 ·
  refine Kb $ Kc rfl $ C.ret $ X.retT $ ret1 rfl rfl ?_
  exact ⟨vo, out, a, 9, rfl, hM.pick [0, 1] (by decide), .err (by decide) (by rw [Df.bnd_err ((show _ = Except.error 9 by rw [hrw, Df.gr, if_pos hC2]))]), hol⟩
 rw [Df.gr, if_neg hC2] at hrw
 obtain ⟨aa, haa⟩ : ∃ aa, aa = a := ⟨_, rfl⟩
 rw [← haa] at hrw
 refine Kk $ Kb $ E.makeM (by_ := 8) (enc := i64) (0 : Int) hM (n := 19) rfl U76 (by kernel_rfl) rfl (by decide) (by decide) rfl ?_
 intro v50 w5 hM
 rw [← nz_rep] at hM
 refine Kc rfl $ C.seq $ Kb $ Kf rfl $ Ka $ C.block $ C.loop3 [(0, _), (8, _), (9, _), (11, _), (51, _)] rfl (fun (i : Nat) (a : Nat) (c : (List Nat)) => [(52, i64 i)]) (fun (i : Nat) (a : Nat) (c : (List Nat)) w' => M w (fpU [Rg.blk b 102 [p, i64 ((a0 : Nat) : Int), i64 (lim : Int), vo, fv], Rg.sl u8 5 vo out]) w' [Rg.blk b 102 [p, i64 ((a : Nat) : Int), i64 (lim : Int), vo, fv], Rg.sl u8 5 vo out, Rg.sl i64 3 v50 (nz c)] ∧ i ≤ z + 4 ∧ a ≤ 8 * l.length ∧ Df.rl3 (z + 4) 0 (List.replicate 19 0) (Df.ub l) aa = Df.rl3 (z + 4 - i) i c (Df.ub l) a ∧ c.length = 19 ∧ (∀ x ∈ c, x ≤ 15)) (fun (i : Nat) (a : Nat) (c : (List Nat)) => z + 4 - i) 0 a (List.replicate 19 0) ?_ ?_ ?_
 · exact S1 rfl
 · exact ⟨hM.pick [0, 1, 3] (by decide), Nat.zero_le _, by omega, by rw [haa]; rfl, List.length_replicate, fun x hx => by rw [(List.mem_replicate.1 hx).2]; omega⟩
 rintro i a c w6 ⟨hM, hi, ha, hl3, hcl, hcb⟩
 refine Kb $ Kp rfl $ Ka $ C.seq $ C.cond' rfl (fun hC3 => ?_) (fun hC3 => ?_)
 ·
  have hi19 : i < 19 := by omega
  have hol19 := ord_lt i hi19
  obtain ⟨mf, hm⟩ : ∃ mf, z + 4 - i = mf + 1 := ⟨z + 4 - i - 1, by omega⟩
  rw [hm, Df.rl3_on (k := mf) (i := i) (c := c)] at hl3
  refine Kk $ C.seq $ C.block $ Kb $ Km rfl $ Kd rfl $ Km rfl $ E.call rfl rfl (sbits_ret 3 b a lim p vo fv l _ (hM.pick [0] (by decide)).sep (hM.arg hp ho) ((hM.pick [0] (by decide)).offS hp ho) (by omega) hl (by omega)) ?_
  rintro _ w5 ⟨x5, a5, e5, rfl, m, hr5⟩
  have hM := hM.calls [0] (by decide) rfl (by simp) m
  refine Km rfl $ E.ext rfl rfl rfl $ E.ext rfl rfl rfl $ Kn rfl $ Kc rfl $ C.seq $ Kb $ Km rfl $ Kp rfl $ Ka $ C.cond' rfl (fun hC4 => ?_) (fun hC4 => ?_)
  ·
   refine Kb $ Km rfl $ Kc rfl $ C.ret $ X.retT $ X.retB $ X.retT $ X.retT $ X.retB $ X.retT $ ret1 rfl rfl ?_
   exact ⟨vo, out, a5, e5, rfl, hM.pick [0, 1] (by decide), .err hC4 (by rw [Df.bnd_err ((show _ = Except.error e5 by rw [hrw, Df.bnd_err (hl3.trans (Df.bnd_err (hr5.bad hC4)))]))]), hol⟩
  have hq5 := hr5.good hC4
  obtain ⟨hx5, he5, hb5⟩ := rbits_lt hq5
  rw [Df.bnd_ok hq5, show mf = z + 4 - (i + 1) by omega] at hl3
  have hx8 : x5 < 8 := hx5
  refine Kk $ C.region $ Kf rfl $ E.idxN (b := 0) (i := i) rfl rfl Tryz.underlying126 (by kernel_rfl) (by omega) rfl $ E.load rfl U3 rfl (ord_cell (hM.ord hO hn0) hi19) rfl $ Km rfl $ E.idx1 (k := Df.ordL.getD i 0) rfl rfl (hM.sl 2 rfl) rfl (by rw [nz_len]; omega) U76 (by kernel_rfl) rfl $ E.storeL (enc := i64) 2 (x5 : Int) hM rfl rfl rfl (by kernel_rfl) rfl rfl (by rw [nz_len]; omega) ?_
  intro w8 hM
  rw [nz_set] at hM
  refine E.nil $ X.outN $ X.next $ C.region $ E.addN (a := i) (b := 1) rfl rfl (by omega) rfl $ Km rfl $ E.nil $ X.again3 (i + 1) a5 (c.set (Df.ordL.getD i 0) x5) (S1 rfl) rfl ⟨hM, by omega, by omega, hl3, by rw [List.length_set]; exact hcl, bd_set hcb (by omega)⟩ (by omega)
 obtain rfl : i = z + 4 := by omega
 rw [Nat.sub_self, Df.rl3] at hl3
 rw [Df.bnd_ok hl3] at hrw
 refine Kx $ C.seq $ Kb $ Km rfl $ E.call rfl rfl (Check_ret v50 _ _ (hM.sl 2 rfl)) ?_
 rintro _ w6 ⟨rfl, x6⟩
 have hM := hM.ext x6
 refine Kp rfl $ Ka $ C.cond' rfl (fun hC5 => ?_) (fun hC5 => ?_)
 ·
  refine Kb $ Kc rfl $ C.ret $ X.retT $ ret1 rfl rfl ?_
  exact ⟨vo, out, a, 27, rfl, hM.pick [0, 1] (by decide), .err (by decide) (by rw [Df.bnd_err ((show _ = Except.error 27 by rw [hrw, if_neg hC5]))]), hol⟩
 have hch : chv (nz c) = 0 := by omega
 have hcc := Df.code_chv hcb hch
 rw [if_pos hch] at hrw
 obtain ⟨n, hne⟩ : ∃ n, n = x + 257 + (y + 1) := ⟨_, rfl⟩
 rw [← hne] at hrw
 refine Kk $ Kb $ Kf rfl $ E.call rfl rfl (newDecoder_ret v50 c _ (hM.sl 2 rfl) (by omega) (by omega) hcb) ?_
 rintro _ w7 ⟨b76, vs76, rfl, m⟩
 have hM := hM.call m
 refine Kf rfl $ E.addN (a := x + 257) (b := y + 1) rfl rfl (by omega) rfl ?_
 rw [← hne]
 refine E.call rfl rfl (slengths_ret b76 n vs76 c b a lim p vo fv l _ (hM.pick [0, 3, 4] (by decide)).sep (hM.arg hp ho) ((hM.pick [0, 3, 4] (by decide)).offS hp ho) (by omega) hl hcc (by omega) (by omega)) ?_
 rintro _ w8 ⟨v80, ls, a8, e8, rfl, m, hr8, hln, hlb⟩
 have hM := hM.calls [0, 3, 4] (by decide) rfl (by simp) m
 refine Km rfl $ E.ext rfl rfl rfl $ E.ext rfl rfl rfl $ Kn rfl $ Kc rfl $ C.seq $ Kb $ Km rfl $ Kp rfl $ Ka $ C.cond' rfl (fun hC6 => ?_) (fun hC6 => ?_)
 ·
  refine Kb $ Km rfl $ Kc rfl $ C.ret $ X.retT $ ret1 rfl rfl ?_
  exact ⟨vo, out, a8, e8, rfl, hM.pick [0, 1] (by decide), .err hC6 (by rw [Df.bnd_err ((show _ = Except.error e8 by rw [hrw, Df.bnd_err (hr8.bad hC6)]))]), hol⟩
 have hq8 := hr8.good hC6
 have he0 : e8 = 0 := by omega
 have hln := hln he0
 rw [Df.bnd_ok hq8] at hrw
 have hnl := nz_len ls
 have ha8 : a8 ≤ (Df.ub l).length := (Df.cut_ln _ _ _ _ _ _ _ (by omega) hq8).2.1
 obtain ⟨mm, hmm⟩ : ∃ mm, mm = x + 257 := ⟨_, rfl⟩
 rw [← hmm] at hrw
 have hLb : ∀ x ∈ ls.take mm, x ≤ 15 := fun x hx => hlb x (List.mem_of_mem_take hx)
 have hDb : ∀ x ∈ ls.drop mm, x ≤ 15 := fun x hx => hlb x (List.mem_of_mem_drop hx)
 have htl : (ls.take mm).length = mm := by rw [List.length_take]; omega
 have hdl : (ls.drop mm).length = n - mm := by rw [List.length_drop, hln]
 rw [← hmm]
 refine Kk $ C.seq $ C.cut0 [(0, _), (8, _), (15, _)] rfl [(96, .bool (decide (Df.acc (ls.take mm) = false ∨ ls.getD 256 0 = 0)))] (fun w' => M w (fpU [Rg.blk b 102 [p, i64 ((a0 : Nat) : Int), i64 (lim : Int), vo, fv], Rg.sl u8 5 vo out]) w' [Rg.blk b 102 [p, i64 ((a8 : Nat) : Int), i64 (lim : Int), vo, fv], Rg.sl u8 5 vo out, Rg.sl i64 3 v50 (nz c), Sym.Ax b76 174 16 (fun n => (Df.cn c n : Int)) [vs76, i64 (Df.mx c : Int)], Rg.sl i64 3 vs76 (nz (Pf.od c)), Rg.sl i64 3 v80 (nz ls)]) ?_ ?_
 ·
  refine C.region $ Kf rfl $ E.slcP (k := .i64) 0 mm rfl (.inr ⟨rfl, rfl⟩) (.inl rfl) (hM.sl 5 rfl) U76 (by kernel_rfl) (by omega) (by omega) rfl $ E.call rfl rfl (acceptable_ret _ (ls.take mm) _ (nz_cut (hM.sl 5 rfl) (by omega)) (by omega) hLb) ?_
  rintro _ w9 ⟨rfl, x9⟩
  have hM := hM.ext x9
  refine E.not rfl rfl $ Km rfl $ E.split 91 rfl (fun g91 => ?_) (fun g91 => ?_)
  ·
   try simp only [Ya, Yb, Yc, Yd, Ye, Yf] at g91
   refine Kq rfl $ Kq rfl $ Kq rfl $ Kq rfl $ Kr rfl $ E.nil $ X.join0  (Sub.cons (look_eq rfl (by rw [decide_eq_true (.inl (by simpa using g91))])) $ Sub.nil _) rfl hM
  try simp only [Ya, Yb, Yc, Yd, Ye, Yf] at g91
  refine Ko rfl $ Km rfl $ Ko rfl $ E.idx1 (k := 256) rfl rfl (hM.sl 5 rfl) rfl (by omega) U76 (by kernel_rfl) rfl $ Ko rfl $ E.load rfl U3 rfl ((hM.sl 5 rfl).cell (by omega)) rfl ?_
  rw [nz_gd]
  refine Ko rfl $ Kp rfl $ Kr rfl $ E.nil $ X.join0  (Sub.cons (look_eq rfl (congrArg _ (decide_eq_decide.2 (by rw [show Df.acc (ls.take mm) = true by simpa using g91]; simp)))) $ Sub.nil _) rfl hM
 rintro  w13 hM
 refine C.cond' rfl (fun hC7 => ?_) (fun hC7 => ?_)
 ·
  refine Kb $ Kc rfl $ C.ret $ X.retT $ ret1 rfl rfl ?_
  exact ⟨vo, out, a8, 27, rfl, hM.pick [0, 1] (by decide), .err (by decide) (by rw [Df.bnd_err ((show _ = Except.error 27 by rw [hrw, if_pos (show Df.badl ls mm from hC7.elim .inl fun h => .inr (.inl h))]))]), hol⟩
 have hac : Df.acc (ls.take mm) = true := by cases h : Df.acc (ls.take mm) with | true => rfl | false => exact (hC7 (.inl h)).elim
 have hcL := Df.code_acc hLb hac
 refine Kk $ C.seq $ C.cut0 [(0, _), (8, _), (15, _)] rfl [(108, .bool (decide (Df.acc (ls.drop mm) = false ∧ 0 < Df.us (ls.drop mm))))] (fun w' => M w (fpU [Rg.blk b 102 [p, i64 ((a0 : Nat) : Int), i64 (lim : Int), vo, fv], Rg.sl u8 5 vo out]) w' [Rg.blk b 102 [p, i64 ((a8 : Nat) : Int), i64 (lim : Int), vo, fv], Rg.sl u8 5 vo out, Rg.sl i64 3 v50 (nz c), Sym.Ax b76 174 16 (fun n => (Df.cn c n : Int)) [vs76, i64 (Df.mx c : Int)], Rg.sl i64 3 vs76 (nz (Pf.od c)), Rg.sl i64 3 v80 (nz ls)]) ?_ ?_
 ·
  refine C.region $ Kf rfl $ E.slcP (k' := .i64) mm n rfl (.inl rfl) (.inr ⟨rfl, by omega⟩) (hM.sl 5 rfl) U76 (by kernel_rfl) (by omega) (by omega) rfl $ E.call rfl rfl (acceptable_ret _ (ls.drop mm) _ (nz_cut2 (hM.sl 5 rfl) hln.symm (by omega)) (by omega) hDb) ?_
  rintro _ w10 ⟨rfl, x10⟩
  have hM := hM.ext x10
  refine E.not rfl rfl $ Km rfl $ E.split 102 rfl (fun g102 => ?_) (fun g102 => ?_)
  ·
   try simp only [Ya, Yb, Yc, Yd, Ye, Yf] at g102
   refine Ko rfl $ Km rfl $ Ko rfl $ Km rfl $ Ko rfl $ E.slcP (k' := .i64) mm n rfl (.inl rfl) (.inr ⟨rfl, by omega⟩) (hM.sl 5 rfl) U76 (by kernel_rfl) (by omega) (by omega) rfl $ Ko rfl $ E.call rfl rfl (used_ret _ (ls.drop mm) _ (nz_cut2 (hM.sl 5 rfl) hln.symm (by omega)) (by omega)) ?_
   rintro _ w11 ⟨rfl, x11⟩
   have hM := hM.ext x11
   refine Ko rfl $ Kp rfl $ Kr rfl $ E.nil $ X.join0  (Sub.cons (look_eq rfl (congrArg _ (decide_eq_decide.2 (by rw [show Df.acc (ls.drop mm) = false by simpa using g102]; simp)))) $ Sub.nil _) rfl hM
  try simp only [Ya, Yb, Yc, Yd, Ye, Yf] at g102
  refine Kq rfl $ Kq rfl $ Kq rfl $ Kq rfl $ Kq rfl $ Kr rfl $ E.nil $ X.join0  (Sub.cons (look_eq rfl (by rw [decide_eq_false (fun h => by rw [h.1] at g102; simp at g102)])) $ Sub.nil _) rfl hM
 rintro  w16 hM
 refine C.cond' rfl (fun hC8 => ?_) (fun hC8 => ?_)
 ·
  refine Kb $ Kc rfl $ C.ret $ X.retT $ ret1 rfl rfl ?_
  exact ⟨vo, out, a8, 27, rfl, hM.pick [0, 1] (by decide), .err (by decide) (by rw [Df.bnd_err ((show _ = Except.error 27 by rw [hrw, if_pos (show Df.badl ls mm from .inr (.inr hC8))]))]), hol⟩
 have hcD : Df.Code (ls.drop mm) := by
  cases h : Df.acc (ls.drop mm) with
  | true => exact Df.code_acc hDb h
  | false => exact Df.code_zero hDb (by rcases Nat.eq_zero_or_pos (Df.us (ls.drop mm)) with h1 | h1; exact h1; exact (hC8 ⟨h, h1⟩).elim)
 rw [if_neg (show ¬ Df.badl ls mm from fun h => h.elim (fun h => hC7 (.inl h)) fun h => h.elim (fun h => hC7 (.inr h)) hC8)] at hrw
 refine Kk $ C.seq $ C.heldM hM [5] (by decide) (by kernel_rfl) fun wh17 hM hS => Kt 0 rfl (by kernel_rfl) hS (fun w' hM => Y.mv rfl) rfl $ Kt 1 rfl (by kernel_rfl) hS (fun w' hM => Y.mv rfl) rfl $ Kt 2 rfl (by kernel_rfl) hS (fun w' hM => Y.mv rfl) rfl $ Ku 3 rfl (by kernel_rfl) hS (Y.slcP (k := .i64) (enc := i64) (l := nz ls) 0 mm rfl (.inr ⟨rfl, rfl⟩) (.inl rfl) (by exact hM.sl 5 rfl) U76 (by kernel_rfl) (by omega) (by omega)) (fun w' hM => Y.slcP (k := .i64) (enc := i64) (l := nz ls) 0 mm rfl (.inr ⟨rfl, rfl⟩) (.inl rfl) (by exact hM.sl 0 rfl) U76 (by kernel_rfl) (by omega) (by omega)) rfl $ Kt 5 rfl (by kernel_rfl) hS (fun w' hM => Y.mv rfl) rfl $ Kt 6 rfl (by kernel_rfl) hS (fun w' hM => Y.mv rfl) rfl $ Ku 7 rfl (by kernel_rfl) hS (Y.slcP (k' := .i64) (enc := i64) (l := nz ls) mm n rfl (.inl rfl) (.inr ⟨rfl, by omega⟩) (by exact hM.sl 5 rfl) U76 (by kernel_rfl) (by omega) (by omega)) (fun w' hM => Y.slcP (k' := .i64) (enc := i64) (l := nz ls) mm n rfl (.inl rfl) (.inr ⟨rfl, by omega⟩) (by exact hM.sl 0 rfl) U76 (by kernel_rfl) (by omega) (by omega)) rfl $ H.only 4 rfl (by kernel_rfl) $ E.call rfl rfl (newDecoder_ret _ (ls.take mm) _ (nz_cut (hM.sl 5 rfl) (by omega)) (by omega) (by omega) hLb) ?_
 rintro _ w12 ⟨b113, vs113, rfl, m⟩
 have hM := hM.call m
 have hS := hM.pick [5] (by decide)
 refine H.back hS $ H.only 8 rfl (by kernel_rfl) $ E.call rfl rfl (newDecoder_ret _ (ls.drop mm) _ (nz_cut2 (hM.sl 5 rfl) hln.symm (by omega)) (by omega) (by omega) hDb) ?_
 rintro _ w13 ⟨b117, vs117, rfl, m⟩
 have hM := hM.call m
 have hS := hM.pick [5] (by decide)
 refine H.back hS $ H.only 9 rfl (by kernel_rfl) $ E.call rfl rfl (stokens_ret b113 b117 vs113 vs117 (ls.take mm) (ls.drop mm) out b a8 lim p vo fv l _ (hM.pick [0, 1, 6, 7, 8, 9] (by decide)).sep (hM.arg hp ho) ((hM.pick [0, 1, 6, 7, 8, 9] (by decide)).offS hp ho) (by omega) hl hcL hcD (by omega) (by omega) hol hlim) ?_
 rintro _ w14 ⟨vo2, out2, a2, e2, rfl, m, hr2, hol2⟩
 have hM := hM.calls [0, 1, 6, 7, 8, 9] (by decide) rfl (by simp) m
 have hS := hM.pick [5] (by decide)
 refine H.back hS $ Kt 10 rfl (by kernel_rfl) hS (fun w' hM => Y.asg rfl) rfl $ H.done (by kernel_rfl) $ X.next $ C.ret $ ret1 rfl rfl ?_
 exact ⟨vo2, out2, a2, e2, rfl, hM.pick [0, 1] (by decide), by rw [Df.bnd_ok hrw]; exact hr2, hol2⟩
end Go.Proofs.YtajklleiifhipaaGreatDoor
namespace Go.Proofs.YtajklleiifhipaaGreatDoor
open Sym
namespace Df
theorem od_trim {l l' : List Nat} (h : ∀ i, l'.getD i 0 = l.getD i 0) : Pf.od l' = Pf.od l := by
 refine Pf.od_uniq ((Pf.od_sorted l').imp fun {a b} hab => ?_) fun i => ?_
 · unfold Pf.Bf at hab ⊢; rw [h, h] at hab; exact hab
 rw [Pf.od_mem]
 constructor
 · rintro ⟨h1, h2, h3⟩; rw [h] at h2 h3; exact ⟨lt_gd h2, h2, h3⟩
 rintro ⟨h1, h2, h3⟩; rw [← h] at h2 h3; exact ⟨lt_gd h2, h2, h3⟩
theorem code_trim {l l' : List Nat} (h : ∀ i, l'.getD i 0 = l.getD i 0) (i : Nat) : Pf.code l' i = Pf.code l i := by
 have hf : (fun i => l'.getD i 0) = fun i => l.getD i 0 := funext h
 unfold Pf.code Pf.Kp Pf.lens
 rw [od_trim h, h, hf]
theorem tb_trim {L L' D D' : List Nat} (h : ∀ i, L'.getD i 0 = L.getD i 0) (h2 : ∀ i, D'.getD i 0 = D.getD i 0) (ts : List Nat) : tbs L' D' ts = tbs L D ts := by
 have : tb L' D' = tb L D := funext fun t => by unfold tb; simp only [code_trim h, code_trim h2, h, h2]
 unfold tbs; rw [this]
def trm (l : List Nat) (m : Nat) : List Nat := l.take (ctn l m)
theorem trm_get (l : List Nat) (m i : Nat) : (trm l m).getD i 0 = l.getD i 0 := by
 unfold trm
 by_cases h : i < ctn l m
 · rw [List.getD_eq_getElem?_getD, List.getElem?_take_of_lt h, ← List.getD_eq_getElem?_getD]
 rw [List.getD_eq_getElem?_getD, List.getElem?_eq_none (by rw [List.length_take]; omega), ctn_zero (least := m) (by omega)]; rfl
theorem trm_len (l : List Nat) (m : Nat) : (trm l m).length = ctn l m := by unfold trm; rw [List.length_take, Nat.min_eq_left (ctn_le l m)]
theorem trm_kr (l : List Nat) (m : Nat) : Pf.kr (trm l m) = Pf.kr l := by
 have h := Pf.kr_app (l.take (ctn l m)) (l.drop (ctn l m))
 rw [List.take_append_drop] at h
 have h0 : Pf.kr (l.drop (ctn l m)) = 0 := kr_zero fun n hn => by
  obtain ⟨s, hs, rfl⟩ := mem_getD hn
  rw [List.getD_eq_getElem?_getD, List.getElem?_drop, ← List.getD_eq_getElem?_getD]
  exact ctn_zero (least := m) (by omega)
 unfold trm; omega
theorem trm_mem {l : List Nat} {m B : Nat} (h : ∀ n ∈ l, n ≤ B) : ∀ n ∈ trm l m, n ≤ B := fun n hn => h n (List.mem_of_mem_take hn)
theorem map_getD (l : List Nat) : (List.range l.length).map (fun i => l.getD i 0) = l := by
 apply List.ext_getElem?
 intro i
 by_cases h : i < l.length
 · rw [List.getElem?_map, List.getElem?_range h, List.getElem?_eq_getElem h, Option.map_some, Pf.getD_eq h]
 rw [List.getElem?_eq_none (by simp; omega), List.getElem?_eq_none (by omega)]
theorem us_nu (l : List Nat) : us l = nu l := by
 unfold us nu
 conv => lhs; rw [← map_getD l]
 rw [List.filter_map, List.length_map]; rfl
theorem nu_eq {l l' : List Nat} (h : ∀ i, 0 < l'.getD i 0 ↔ 0 < l.getD i 0) : nu l' = nu l := by
 have key : ∀ (a : List Nat) (m : Nat), a.length ≤ m → nu a = ((List.range m).filter fun s => decide (0 < a.getD s 0)).length := fun a m => by
  induction m with
  | zero => intro hm; unfold nu; rw [show a.length = 0 by omega]
  | succ m ih =>
   intro hm
   by_cases e : a.length = m + 1
   · unfold nu; rw [e]
   rw [ih (by omega), List.range_succ, List.filter_append, List.length_append]
   have : a.getD m 0 = 0 := by rw [List.getD_eq_getElem?_getD, List.getElem?_eq_none (by omega)]; rfl
   rw [List.filter_cons, if_neg (by rw [this]; simp)]; rfl
 rw [key l' (max l.length l'.length) (Nat.le_max_right _ _), key l (max l.length l'.length) (Nat.le_max_left _ _)]
 congr 1
 exact List.filter_congr fun i _ => decide_eq_decide.2 (h i)
theorem us_zero {l : List Nat} (h : us l = 0) : ∀ n ∈ l, n = 0 := fun n hn => by
  by_cases c : 0 < n
  · have := List.length_pos_of_mem (List.mem_filter (p := fun n => decide (0 < n)).2 ⟨hn, decide_eq_true c⟩)
    unfold us at h; omega
  omega
theorem sum_zero {l : List Nat} (h : ∀ n ∈ l, n = 0) : l.sum = 0 := by
 induction l with
 | nil => rfl
 | cons a l ih => rw [List.sum_cons, ih fun n hn => h n (by simp [hn]), h a (by simp)]
theorem us_one : ∀ {l : List Nat}, us l = 1 → ∃ n, 0 < n ∧ Pf.kr l = Pf.un n ∧ l.sum = n
  | [], h => by simp [us] at h
  | a :: l, h => by
    unfold us at h
    rw [List.filter_cons] at h
    by_cases c : 0 < a
    · rw [if_pos (decide_eq_true c), List.length_cons] at h
      have h0 := us_zero (l := l) (by unfold us; omega)
      refine ⟨a, c, ?_, ?_⟩
      · have := kr_zero h0
        simp only [Pf.kr, List.map_cons, List.sum_cons] at this ⊢; omega
      rw [List.sum_cons, sum_zero h0]; omega
    rw [if_neg (by simpa using c)] at h
    obtain ⟨n, h1, h2, h3⟩ := us_one (l := l) h
    obtain rfl : a = 0 := by omega
    refine ⟨n, h1, ?_, ?_⟩
    · simp only [Pf.kr, List.map_cons, List.sum_cons] at h2 ⊢; rw [h2, Pf.un, if_pos rfl]; omega
    rw [List.sum_cons, h3]; omega
theorem un_half {n : Nat} (h0 : 0 < n) (h : Pf.un n = 2 ^ 29) : n = 1 := by
 rw [Pf.un, if_neg (by omega)] at h
 by_cases c : n = 1
 · exact c
 have := Nat.pow_le_pow_right (n := 2) (by decide) (show 30 - n ≤ 28 by omega)
 omega
theorem chv_full {l : List Nat} (hb : ∀ n ∈ l, n ≤ 30) (hl : l.length ≤ 4096) (hk : Pf.kr l = 2 ^ 30) : chv (nz l) = 0 := by
 unfold chv
 rw [if_neg (by rw [nz_len]; omega), if_pos (show okr (nz l) 30 = true from okr_nz' (m := 30) hb), toN_nz', hk]; decide
theorem acc_oln {fs : List Nat} {m k : Nat} (hm : 1 ≤ m) (hm2 : m ≤ 30) (hf : ∀ f ∈ fs, f ≤ 1099511627776) (hl : fs.length ≤ 4096) (hc : fs.length ≤ 2 ^ m) (hu : 1 ≤ nu fs) : acc (trm (oln fs m) k) = true := by
  obtain ⟨h1, h2, h3, h4, h5⟩ := oln_law hm hm2 hf hl hc
  have h6 := (oln_ok hm hm2 hf hl hc).1
  unfold acc
  rw [decide_eq_true_eq]
  by_cases c : 2 ≤ nu fs
  · left
    refine chv_full (fun n hn => Nat.le_trans (trm_mem h6 n hn) hm2) ?_ ?_
    · rw [trm_len]; have := ctn_le (oln fs m) k; omega
    rw [trm_kr, h4 c]
  right
  have hn1 : nu fs = 1 := by omega
  have hnu : us (trm (oln fs m) k) = 1 := by
    rw [us_nu, ← hn1]
    refine nu_eq fun i => ?_
    rw [trm_get]
    by_cases hi : i < fs.length
    · exact (h3 i hi).1.symm
    rw [List.getD_eq_getElem?_getD, List.getElem?_eq_none (by omega), List.getD_eq_getElem?_getD, List.getElem?_eq_none (by omega)]
  obtain ⟨n, k1, k2, k3⟩ := us_one hnu
  rw [trm_kr, h5 hn1] at k2
  have := un_half k1 k2.symm
  exact ⟨hnu, by omega⟩
def fil (c : List Nat) (i s : Nat) : Nat := if ordL.idxOf s < i then c.getD s 0 else 0
theorem fil_put {c : List Nat} {i : Nat} (hi : i < 19) : (tab 19 (fil c i)).set (ordL.getD i 0) (c.getD (ordL.getD i 0) 0) = tab 19 (fil c (i + 1)) := by
  have hd : ∀ i, i < 19 → ∀ s, s < 19 → (ordL.idxOf s < i + 1 ↔ ordL.idxOf s < i ∨ s = ordL.getD i 0) := by decide +kernel
  apply List.ext_getElem?
  intro s
  by_cases hs : s < 19
  · rw [tab_get hs]
    by_cases e : ordL.getD i 0 = s
    · rw [e, List.getElem?_set_self (by rw [tab_len]; exact hs), fil, if_pos ((hd i hi s hs).2 (.inr e.symm))]
    rw [List.getElem?_set_ne e, tab_get hs]
    unfold fil
    by_cases c1 : ordL.idxOf s < i
    · rw [if_pos c1, if_pos (by omega)]
    rw [if_neg c1, if_neg (fun h => by rcases (hd i hi s hs).1 h with h | h; exact c1 h; exact e h.symm)]
  rw [List.getElem?_eq_none (by rw [List.length_set, tab_len]; omega), List.getElem?_eq_none (by rw [tab_len]; omega)]
theorem lst_at {c : List Nat} {i : Nat} (h : i < 19) : (lst c)[i]? = some (c.getD (ordL.getD i 0) 0) := by
 unfold lst
 rw [List.getElem?_map, List.getElem?_eq_getElem (show i < ordL.length from h), Pf.getD_eq (show i < ordL.length from h)]; rfl
theorem l3_read {c : List Nat} (hc : ∀ n ∈ c, n ≤ 7) {B r : List Bool} : ∀ (k i a : Nat), i + k ≤ 19 → a ≤ B.length → B.drop a = (((lst c).drop i).take k).flatMap (fun n => low n 3) ++ r → rl3 k i (tab 19 (fil c i)) B a = .ok (tab 19 (fil c (i + k)), a + 3 * k)
 | 0, i, a, _, _, _ => rfl
 | k + 1, i, a, hik, ha, hB => by
  have hi : i < (lst c).length := by rw [lst_len]; omega
  have hg : (lst c)[i] = c.getD (ordL.getD i 0) 0 := by
   have := lst_at (c := c) (i := i) (by omega)
   rw [List.getElem?_eq_getElem hi] at this
   exact Option.some.inj this
  have hd : (lst c).drop i = (lst c)[i] :: (lst c).drop (i + 1) := List.drop_eq_getElem_cons hi
  have h7 : c.getD (ordL.getD i 0) 0 ≤ 7 := by
   by_cases hs : ordL.getD i 0 < c.length
   · rw [Pf.getD_eq hs]; exact hc _ (List.getElem_mem hs)
   rw [List.getD_eq_getElem?_getD, List.getElem?_eq_none (by omega)]; exact Nat.zero_le _
  rw [hd, List.take_succ_cons, List.flatMap_cons, hg, List.append_assoc] at hB
  have r1 := rbits_ok hB (show _ < 2 ^ 3 by omega) ha
  have k1 := drop_more hB
  rw [low_len] at k1
  have v1 := (cut_bits 3 B a _ _ ha r1).2.1
  rw [rl3, bnd_ok r1, fil_put (by omega), l3_read hc k (i + 1) (a + 3) (by omega) v1 k1, show i + 1 + k = i + (k + 1) by omega, show a + 3 + 3 * k = a + 3 * (k + 1) by omega]
theorem fil_end {c : List Nat} (hl : c.length = 19) : tab 19 (fil c (ctn (lst c) 4)) = c := by
 symm
 refine tab_eq hl fun s hs => ?_
 have hlt : ∀ s, s < 19 → ordL.getD (ordL.idxOf s) 0 = s ∧ ordL.idxOf s < 19 := by decide +kernel
 obtain ⟨h1, h2⟩ := hlt s hs
 rw [List.getElem?_eq_getElem (by omega), ← Pf.getD_eq (by omega)]
 unfold fil
 by_cases c1 : ordL.idxOf s < ctn (lst c) 4
 · rw [if_pos c1]
 have hz := ctn_zero (l := lst c) (least := 4) (j := ordL.idxOf s) (by omega)
 have : (lst c).getD (ordL.idxOf s) 0 = c.getD s 0 := by
  rw [List.getD_eq_getElem?_getD, lst_at h2, h1]; rfl
 rw [if_neg c1, ← this, hz]
def Hs (C : List Nat) (x : Stp) : Prop := 1 ≤ C.getD x.1 0
theorem rln_lit {C : List Nat} {N v a : Nat} {out : List Nat} {B r : List Bool} (hC : Code C) (hN : out.length < N) (hv : v < 16) (ha : a ≤ B.length) (hh : Hs C (v, 0, 0)) (hB : B.drop a = sbits C (v, 0, 0) ++ r) : rln C N out B a = rln C N (out ++ [v]) B (a + (sbits C (v, 0, 0)).length) ∧ a + (sbits C (v, 0, 0)).length ≤ B.length := by
 have hs : sbits C (v, 0, 0) = btv (Pf.code C v) (C.getD v 0) := by unfold sbits; exact List.append_nil _
 rw [hs] at hB ⊢
 have hh' : 1 ≤ C.getD v 0 := hh
 have r1 := rsym_ok hC (lt_gd hh') hh' hB
 have v1 := rsym_adv ha r1
 rw [btv_len]
 exact ⟨by rw [rln_on hN, bnd_ok r1, if_pos hv], v1.2⟩
theorem rln_rep {C : List Nat} {N s m a : Nat} {out : List Nat} {B r : List Bool} (hC : Code C) (hs : 16 ≤ s) (ho : s = 16 → out.length ≠ 0) (hm : m < 2 ^ lsx s) (hN : out.length + lsl s + m ≤ N) (ha : a ≤ B.length) (hh : Hs C (s, m, lsx s)) (hB : B.drop a = sbits C (s, m, lsx s) ++ r) :
  rln C N out B a = rln C N (out ++ List.replicate (lsl s + m) (lsv s out)) B (a + (sbits C (s, m, lsx s)).length) ∧ a + (sbits C (s, m, lsx s)).length ≤ B.length := by
 have h3 : 3 ≤ lsl s := by unfold lsl; split <;> omega
 have hsb : sbits C (s, m, lsx s) = btv (Pf.code C s) (C.getD s 0) ++ low m (lsx s) := rfl
 rw [hsb, List.append_assoc] at hB
 rw [hsb, List.length_append, btv_len, low_len]
 have hh' : 1 ≤ C.getD s 0 := hh
 have r1 := rsym_ok hC (lt_gd hh') hh' hB
 have v1 := rsym_adv ha r1
 have k1 := drop_more hB
 rw [btv_len] at k1
 have r2 := rbits_ok k1 hm v1.2
 have v2 := (cut_bits _ B _ _ _ v1.2 r2).2.1
 refine ⟨?_, by omega⟩
 rw [rln_on (by omega), bnd_ok r1, if_neg (by omega), if_neg (fun c => ho c.1 c.2), bnd_ok r2, if_neg (by omega), Nat.add_assoc]
theorem rep_add {α : Type} (a b : Nat) (x : α) (out : List α) : out ++ List.replicate a x ++ List.replicate b x = out ++ List.replicate (a + b) x := by
 rw [List.append_assoc, List.replicate_append_replicate]
theorem rln_same {C : List Nat} {N v : Nat} (hC : Code C) (hv : v < 16) {B r : List Bool} : ∀ (n a : Nat) (out : List Nat), out.length + n ≤ N → a ≤ B.length → (∀ x ∈ List.replicate n ((v, 0, 0) : Stp), Hs C x) → B.drop a = (List.replicate n ((v, 0, 0) : Stp)).flatMap (sbits C) ++ r →
  ∃ a', a' = a + ((List.replicate n ((v, 0, 0) : Stp)).flatMap (sbits C)).length ∧ a' ≤ B.length ∧ rln C N out B a = rln C N (out ++ List.replicate n v) B a'
 | 0, a, out, _, ha, _, _ => ⟨a, rfl, ha, by simp⟩
 | n + 1, a, out, hN, ha, hh, hB => by
  rw [List.replicate_succ, List.flatMap_cons] at hB ⊢
  rw [List.append_assoc] at hB
  obtain ⟨h1, h2⟩ := rln_lit hC (show out.length < N by omega) hv ha (hh _ (by simp)) hB
  have k1 := drop_more hB
  obtain ⟨a', g1, g2, g3⟩ := rln_same (N := N) hC hv n _ (out ++ [v]) (by rw [List.length_append, List.length_singleton]; omega) h2 (fun x hx => hh x (by rw [List.replicate_succ]; exact List.mem_cons_of_mem _ hx)) k1
  refine ⟨a', by rw [g1, List.length_append]; omega, g2, ?_⟩
  rw [h1, g3, List.append_assoc]; rfl
theorem rln_zer {C : List Nat} {N : Nat} (hC : Code C) {B r : List Bool} (n a : Nat) (out : List Nat) (hN : out.length + n ≤ N) (ha : a ≤ B.length) (hh : ∀ x ∈ zer n, Hs C x) (hB : B.drop a = (zer n).flatMap (sbits C) ++ r) :
    ∃ a', a' = a + ((zer n).flatMap (sbits C)).length ∧ a' ≤ B.length ∧ rln C N out B a = rln C N (out ++ List.replicate n 0) B a' := by
  by_cases h : 11 ≤ n
  · rw [zer_big h] at hh hB ⊢
    rw [List.flatMap_cons, List.append_assoc] at hB
    obtain ⟨h1, h2⟩ := rln_rep (N := N) (s := 18) (m := min n 138 - 11) hC (by decide) (fun c => absurd c (by decide)) (show _ < 2 ^ 7 by omega) (show out.length + 11 + (min n 138 - 11) ≤ N by omega) ha (hh _ List.mem_cons_self) hB
    have k1 := drop_more hB
    have e : out ++ List.replicate (lsl 18 + (min n 138 - 11)) (lsv 18 out) = out ++ List.replicate (min n 138) 0 := by
      rw [show lsl 18 = 11 from rfl, show lsv 18 out = 0 from rfl, show 11 + (min n 138 - 11) = min n 138 by omega]
    rw [e] at h1
    obtain ⟨a', g1, g2, g3⟩ := rln_zer (N := N) hC (n - min n 138) _ (out ++ List.replicate (min n 138) 0) (by rw [List.length_append, List.length_replicate]; omega) h2 (fun x hx => hh x (List.mem_cons_of_mem _ hx)) k1
    refine ⟨a', by rw [g1, List.flatMap_cons, List.length_append]; rw [show lsx 18 = 7 from rfl]; omega, g2, ?_⟩
    rw [h1, g3, rep_add, show min n 138 + (n - min n 138) = n by omega]
  by_cases h2 : 3 ≤ n
  · rw [zer_mid (by omega) h2] at hh hB ⊢
    rw [List.flatMap_cons, List.flatMap_nil, List.append_nil] at hB ⊢
    obtain ⟨h1, h2'⟩ := rln_rep (N := N) (s := 17) (m := n - 3) hC (by decide) (fun c => absurd c (by decide)) (show _ < 2 ^ 3 by omega) (show out.length + 3 + (n - 3) ≤ N by omega) ha (hh _ List.mem_cons_self) hB
    refine ⟨_, rfl, h2', ?_⟩
    rw [h1, show lsl 17 = 3 from rfl, show lsv 17 out = 0 from rfl, show 3 + (n - 3) = n by omega]; rfl
  rw [zer_few (by omega)] at hh hB ⊢
  exact rln_same hC (by decide) n a out hN ha hh hB
termination_by n
decreasing_by omega
theorem rln_eqr {C : List Nat} {N v : Nat} (hC : Code C) (hv : v < 16) {B r : List Bool} (n a : Nat) (out : List Nat) (hl : out.length ≠ 0 ∧ out.getD (out.length - 1) 0 = v) (hN : out.length + n ≤ N) (ha : a ≤ B.length) (hh : ∀ x ∈ eqr v n, Hs C x) (hB : B.drop a = (eqr v n).flatMap (sbits C) ++ r) :
    ∃ a', a' = a + ((eqr v n).flatMap (sbits C)).length ∧ a' ≤ B.length ∧ rln C N out B a = rln C N (out ++ List.replicate n v) B a' := by
  by_cases h : 3 ≤ n
  · rw [eqr_big h] at hh hB ⊢
    rw [List.flatMap_cons, List.append_assoc] at hB
    obtain ⟨h1, h2⟩ := rln_rep (N := N) (s := 16) (m := min n 6 - 3) hC (by decide) (fun _ => hl.1) (show _ < 2 ^ 2 by omega) (show out.length + 3 + (min n 6 - 3) ≤ N by omega) ha (hh _ List.mem_cons_self) hB
    have k1 := drop_more hB
    have e : out ++ List.replicate (lsl 16 + (min n 6 - 3)) (lsv 16 out) = out ++ List.replicate (min n 6) v := by
      rw [show lsl 16 = 3 from rfl, show lsv 16 out = out.getD (out.length - 1) 0 from rfl, hl.2, show 3 + (min n 6 - 3) = min n 6 by omega]
    rw [e] at h1
    have hl2 : (out ++ List.replicate (min n 6) v).getD ((out ++ List.replicate (min n 6) v).length - 1) 0 = v := by
      rw [List.length_append, List.length_replicate, List.getD_eq_getElem?_getD, List.getElem?_append_right (by omega), List.getElem?_replicate, if_pos (by omega)]; rfl
    obtain ⟨a', g1, g2, g3⟩ := rln_eqr (N := N) hC hv (n - min n 6) _ (out ++ List.replicate (min n 6) v) ⟨by rw [List.length_append, List.length_replicate]; omega, hl2⟩ (by rw [List.length_append, List.length_replicate]; omega) h2 (fun x hx => hh x (List.mem_cons_of_mem _ hx)) k1
    refine ⟨a', by rw [g1, List.flatMap_cons, List.length_append]; rw [show lsx 16 = 2 from rfl]; omega, g2, ?_⟩
    rw [h1, g3, rep_add, show min n 6 + (n - min n 6) = n by omega]
  rw [eqr_few (by omega)] at hh hB ⊢
  exact rln_same hC hv n a out hN ha hh hB
termination_by n
decreasing_by omega
theorem take_run {l : List Nat} {a e v : Nat} (hae : a ≤ e) (he : e ≤ l.length) (h : ∀ j, a ≤ j → j < e → l.getD j 0 = v) : l.take a ++ List.replicate (e - a) v = l.take e := by
 apply List.ext_getElem?
 intro i
 by_cases h1 : i < a
 · rw [List.getElem?_append_left (by rw [List.length_take]; omega), List.getElem?_take_of_lt h1, List.getElem?_take_of_lt (by omega)]
 rw [List.getElem?_append_right (by rw [List.length_take]; omega), List.length_take, Nat.min_eq_left (by omega), List.getElem?_replicate]
 by_cases h2 : i < e
 · rw [if_pos (by omega), List.getElem?_take_of_lt h2, List.getElem?_eq_getElem (by omega), ← h i (by omega) h2, Pf.getD_eq (by omega)]
 rw [if_neg (by omega), List.getElem?_eq_none (by rw [List.length_take]; omega)]
theorem rln_sq {C l : List Nat} (hC : Code C) (hl : ∀ n ∈ l, n ≤ 15) {B r : List Bool} (i a : Nat) (hi : i ≤ l.length) (ha : a ≤ B.length) (hh : ∀ x ∈ sq l i, Hs C x) (hB : B.drop a = (sq l i).flatMap (sbits C) ++ r) :
    rln C l.length (l.take i) B a = .ok (l, a + ((sq l i).flatMap (sbits C)).length) := by
  by_cases h : i < l.length
  · obtain ⟨e1, e2, e3⟩ := rend_spec h
    have hlt : (l.take i).length = i := by rw [List.length_take]; omega
    have htr := take_run (Nat.le_of_lt e1) e2 e3
    have hv : l.getD i 0 < 16 := by rw [Pf.getD_eq h]; have := hl _ (List.getElem_mem h); omega
    rw [sq_on h] at hh hB ⊢
    rw [List.flatMap_append, List.append_assoc] at hB
    rw [List.flatMap_append, List.length_append]
    have key : ∃ a', a' = a + ((if l.getD i 0 = 0 then zer (rend l i - i) else eqs (l.getD i 0) (rend l i - i)).flatMap (sbits C)).length ∧ a' ≤ B.length ∧ rln C l.length (l.take i) B a = rln C l.length (l.take (rend l i)) B a' := by
      by_cases h0 : l.getD i 0 = 0
      · rw [if_pos h0] at hh hB ⊢
        rw [h0] at htr
        obtain ⟨a', g1, g2, g3⟩ := rln_zer (N := l.length) hC (rend l i - i) a (l.take i) (by omega) ha (fun x hx => hh x (List.mem_append_left _ hx)) hB
        exact ⟨a', g1, g2, by rw [g3, htr]⟩
      rw [if_neg h0] at hh hB ⊢
      unfold eqs at hh hB ⊢
      rw [List.flatMap_cons, List.append_assoc] at hB
      obtain ⟨h1, h2⟩ := rln_lit hC (N := l.length) (out := l.take i) (by omega) hv ha (hh _ (List.mem_append_left _ List.mem_cons_self)) hB
      have k1 := drop_more hB
      obtain ⟨a', g1, g2, g3⟩ := rln_eqr (N := l.length) hC hv (rend l i - i - 1) _ (l.take i ++ [l.getD i 0]) ⟨by simp, by rw [List.length_append, List.length_singleton, Nat.add_sub_cancel, List.getD_eq_getElem?_getD, List.getElem?_append_right (Nat.le_refl _)]; simp⟩ (by rw [List.length_append, List.length_singleton]; omega) h2 (fun x hx => hh x (List.mem_append_left _ (List.mem_cons_of_mem _ hx))) k1
      refine ⟨a', by rw [g1, List.flatMap_cons, List.length_append]; omega, g2, ?_⟩
      rw [h1, g3, ← htr, List.append_assoc]
      congr 2
      rw [show rend l i - i = (rend l i - i - 1) + 1 by omega, List.replicate_succ]; rfl
    obtain ⟨a', g1, g2, g3⟩ := key
    have k2 := drop_more hB
    rw [← g1] at k2
    rw [g3, rln_sq hC hl (rend l i) a' e2 g2 (fun x hx => hh x (List.mem_append_right _ hx)) k2, g1, Nat.add_assoc]
  obtain rfl : i = l.length := by omega
  rw [List.take_length, sq_end (Nat.le_refl _), rln_end (by omega)]; rfl
termination_by l.length - i
decreasing_by have := rend_spec h; omega
end Df
end Go.Proofs.YtajklleiifhipaaGreatDoor
