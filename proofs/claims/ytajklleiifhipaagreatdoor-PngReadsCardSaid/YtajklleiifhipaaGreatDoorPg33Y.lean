/- the reference's reader: a block with codes of its own. -/
import Derived.Test.YtajklleiifhipaaGreatDoorY0
import Derived.Test.YtajklleiifhipaaGreatDoorY3
import Derived.Test.YtajklleiifhipaaGreatDoorY5
import Derived.Test.YtajklleiifhipaaGreatDoorPg30Y
import Derived.Test.YtajklleiifhipaaGreatDoorPg32Y
set_option linter.unusedSimpArgs false
set_option linter.unusedVariables false
namespace Go.Proofs.YtajklleiifhipaaGreatDoor
open Go.RowKit Sym
theorem Sym.M.offR {α : Type} {enc : α → Value} {w0 w : World} {S : Nat → Prop} {rs : List Rg} {e : TypeId} {v : Value} {l : List α} (h : M w0 S w rs) (i : Nat) (hi : rs[i]? = some (Rg.sl enc e v l)) (is : List Nat) (hni : ∀ j ∈ is, j ≠ i) : Off (fpU (is.filterMap (rs[·]?))) v l := by
 cases l with
 | nil => exact .inl rfl
 | cons a l =>
  refine .inr fun ⟨j, r, hj, hk⟩ => ?_
  obtain ⟨k, hk1, hk2⟩ := List.mem_filterMap.1 (List.mem_of_getElem? hj)
  have ho : (Rg.sl enc e v (a :: l)).fp (bs v).1 := (Own.bs_eq (h.own i hi) (by simp)).1
  exact h.sep.apart i k _ r hi hk2 (fun q => hni k hk1 q.symm) _ ho hk
theorem Sym.Off.part {α β : Type} {enc : α → Value} {w : World} {S : Nat → Prop} {v : Value} {l : List α} (hR : RdL enc w v l) (ho : Off S v l) (a b : Nat) {m : List β} (hm : l = [] → m = []) : Off S (partV v a b) m := by
 by_cases hl : l = []
 · exact .inl (hm hl)
 obtain ⟨c, cap, rfl, _, _, h3, h4, _⟩ := hR
 obtain ⟨bk, off, rfl⟩ := h4 (by rw [List.length_map]; exact List.length_pos_iff.2 hl)
 refine .inr fun h => ?_
 rcases ho with ho | ho
 · exact hl ho
 refine ho ?_
 have e : (bs (partV (.slice (some ⟨bk, off, none⟩) l.length cap) a b)).1 = bk := by
  unfold partV
  simp only
  split
  · rfl
  show (Addr.add ⟨bk, off, none⟩ (a * 1)).block = bk
  unfold Addr.add; split <;> rfl
 rw [e] at h; exact h
theorem Sym.S.slcP {P : Program} {ops : Array Oper} {Lq : Act → Prop} {s : St} {env : Env} {w : World} {rest : List Oper} {d : Nat} {ty : TypeId} {pos : String} {aft : Array Edge} {α : Type} {enc : α → Value} {l : List α} {t e : TypeId} {x : Operand} {lo hi : Option Operand} {v : Value} {k k' : IntKind} (a b : Nat) (hx : ev env x = some v)
  (hlo : lo.map (ev env) = some (some (.int k (a : Int))) ∨ (lo = none ∧ a = 0)) (hhi : hi.map (ev env) = some (some (.int k' (b : Int))) ∨ (hi = none ∧ b = l.length)) (hR : RdL enc w v l)
  (ht : P.underlying t = some (.slice e)) (hs : (P.info? e).map (·.size) = some 1) (hl : a ≤ b) (hh : b ≤ l.length) (hd : Nat.blt d s.n = true)
  (h : wpS P ops Lq s rest ((d, partV v a b) :: env) w) : wpS P ops Lq s (⟨some d, .slice t x lo hi none, ty, pos, aft, none⟩ :: rest) env w :=
 S.op (fun a' ha => run_slcP a b hx hlo hhi hR ht hs hl hh a' ha _) hd h
namespace Df
def ST {α : Type} (R : Except Int α) (e : Int) (Y : Except Int α) : Prop := (e ≠ 0 ∧ R = .error e) ∨ (e = 0 ∧ R = Y)
theorem ST.bad {α : Type} {R Y : Except Int α} {e : Int} (h : ST R e Y) (he : e ≠ 0) : R = .error e := h.elim (fun q => q.2) fun q => (he q.1).elim
theorem ST.good {α : Type} {R Y : Except Int α} {e : Int} (h : ST R e Y) (he : e = 0) : R = Y := h.elim (fun q => (q.1 he).elim) fun q => q.2
theorem ST.bits {α β : Type} {R : Except Int (β × Nat)} {e e' : Int} {f : List Bool → Nat → Except Int (α × Nat)} {G : α → List Bool → Nat → Except Int (β × Nat)} {g : Nat → List Bool → Nat → Except Int (α × Nat)} {B : List Bool} {n a x a' : Nat} (h : ST R e (bnd f G B a)) (hf : f B a = bnd (rbits n) g B a) (hr : RS e (rbits n B a) x 0 a a' e') : ST R e' (bnd (g x) G B a') := by
  rcases h with ⟨h1, h2⟩ | ⟨h1, h2⟩
  · rw [(hr.bad h1).1]; exact .inl ⟨h1, h2⟩
  subst h1
  by_cases z : e' = 0
  · subst z
    refine .inr ⟨rfl, ?_⟩
    rw [h2]
    have : f B a = g x B a' := by rw [hf, bnd_ok (hr.rds.good (by decide))]
    unfold bnd; rw [this]
  refine .inl ⟨z, ?_⟩
  rw [h2]
  exact bnd_err (by rw [hf]; exact bnd_err (hr.rds.bad z))
noncomputable def fl (m : Nat) (O : List Nat) : List Bool → Nat → Except Int ((List Nat × List Nat) × Nat) := if badl O m then fun _ _ => .error 27 else fun _ a => .ok ((O.take m, O.drop m), a)
noncomputable def fcx (x y : Nat) (c : List Nat) : List Bool → Nat → Except Int ((List Nat × List Nat) × Nat) := if chv (nz c) = 0 then bnd (rln c (x + 257 + (y + 1)) []) (fl (x + 257)) else fun _ _ => .error 27
theorem gr_fc (x y z : Nat) : gr x y z = if 286 < x + 257 ∨ 30 < y + 1 then fun _ _ => .error 9 else bnd (rl3 (z + 4) 0 (List.replicate 19 0)) (fcx x y) := rfl
theorem ST.head {B : List Bool} {a x a0 y a1 z a2 : Nat} {e0 e1 e2 : Int} (h0 : RS 0 (rbits 5 B a) x 0 a a0 e0) (h1 : RS e0 (rbits 5 B a0) y 0 a0 a1 e1) (h2 : RS e1 (rbits 4 B a1) z 0 a1 a2 e2) :
    ST (rown B a) (if 286 < ((x + 257 : Nat) : Int) ∨ 30 < ((y + 1 : Nat) : Int) then fst e2 9 else e2) (bnd (rl3 (z + 4) 0 (List.replicate 19 0)) (fcx x y) B a2) := by
  have hr : rown B a = bnd (rbits 5) (fun x => bnd (rbits 5) fun y => bnd (rbits 4) fun z => gr x y z) B a := rfl
  by_cases z0 : e0 = 0
  · subst z0
    rw [bnd_ok (h0.rds.good (by decide))] at hr
    by_cases z1 : e1 = 0
    · subst z1
      rw [bnd_ok (h1.rds.good (by decide))] at hr
      by_cases z2 : e2 = 0
      · subst z2
        rw [bnd_ok (h2.rds.good (by decide)), gr_fc] at hr
        by_cases c : 286 < x + 257 ∨ 30 < y + 1
        · rw [if_pos c] at hr
          rw [if_pos (by omega), fst_z]; exact .inl ⟨by decide, hr⟩
        rw [if_neg c] at hr
        rw [if_neg (by omega)]; exact .inr ⟨rfl, hr⟩
      rw [bnd_err (h2.rds.bad z2)] at hr
      rw [fst_nz z2, ite_self]; exact .inl ⟨z2, hr⟩
    rw [bnd_err (h1.rds.bad z1)] at hr
    rw [(h2.bad z1).1, fst_nz z1, ite_self]; exact .inl ⟨z1, hr⟩
  rw [bnd_err (h0.rds.bad z0)] at hr
  have e1' := (h1.bad z0).1
  subst e1'
  rw [(h2.bad z0).1, fst_nz z0, ite_self]; exact .inl ⟨z0, hr⟩
theorem ST.code {R : Except Int ((List Nat × List Nat) × Nat)} {e : Int} {B : List Bool} {a x y : Nat} {c : List Nat} {i : Nat} (h : ST R e (bnd (rl3 0 i c) (fcx x y) B a)) :
    (¬ (if e = 0 ∧ chv (nz c) ≠ 0 then fst e 27 else e) = 0 → R = .error (if e = 0 ∧ chv (nz c) ≠ 0 then fst e 27 else e)) ∧
    ((if e = 0 ∧ chv (nz c) ≠ 0 then fst e 27 else e) = 0 → chv (nz c) = 0 ∧ R = bnd (rln c (x + 257 + (y + 1)) []) (fl (x + 257)) B a) := by
  rcases h with ⟨h1, h2⟩ | ⟨h1, h2⟩
  · rw [if_neg (fun q => h1 q.1)]; exact ⟨fun _ => h2, fun q => (h1 q).elim⟩
  have h3 : bnd (rl3 0 i c) (fcx x y) B a = fcx x y c B a := rfl
  rw [h3] at h2
  unfold fcx at h2
  by_cases z : chv (nz c) = 0
  · rw [if_pos z] at h2
    rw [if_neg (fun q => q.2 z)]
    exact ⟨fun q => (q h1).elim, fun _ => ⟨z, h2⟩⟩
  rw [if_neg z] at h2
  rw [if_pos ⟨h1, z⟩, h1, fst_z]; exact ⟨fun _ => h2, fun q => by cases q⟩
theorem badl_last {O : List Nat} {m : Nat} (h1 : acc (O.take m) = true) (h2 : ¬ O.getD 256 0 = 0) (h3 : ¬ us (O.drop m) = 0) : (!acc (O.drop m)) = decide (badl O m) := by
  by_cases h : acc (O.drop m) = true
  · rw [h]
    refine (decide_eq_false (fun q => ?_)).symm
    rcases q with q | q | q
    · rw [h1] at q; cases q
    · exact h2 q
    rw [h] at q; cases q.1
  have h' : acc (O.drop m) = false := by simpa using h
  rw [h']
  exact (decide_eq_true (show badl O m from .inr (.inr ⟨h', by omega⟩))).symm
theorem badl_none {O : List Nat} {m : Nat} (h1 : acc (O.take m) = true) (h2 : ¬ O.getD 256 0 = 0) (h3 : us (O.drop m) = 0) : false = decide (badl O m) := by
 unfold badl
 exact (decide_eq_false (fun q => by rcases q with q | q | q; rw [h1] at q; cases q; exact h2 q; omega)).symm
theorem ST.seq {R : Except Int ((List Nat × List Nat) × Nat)} {e e' : Int} {B : List Bool} {a a' n m : Nat} {c O : List Nat} (h : ST R e (bnd (rln c n []) (fl m) B a)) (hr : RS e (rln c n [] B a) O O a a' e') : ST R e' (fl m O B a') := by
  rcases h with ⟨h1, h2⟩ | ⟨h1, h2⟩
  · rw [(hr.bad h1).1]; exact .inl ⟨h1, h2⟩
  subst h1
  by_cases z : e' = 0
  · subst z
    exact .inr ⟨rfl, by rw [h2, bnd_ok (hr.rds.good (by decide))]⟩
  exact .inl ⟨z, by rw [h2, bnd_err (hr.rds.bad z)]⟩
end Df
set_option maxHeartbeats 8000000 in
set_option maxRecDepth 8000 in
theorem own34_ret (out : List UInt8) (b a lim : Nat) (p vo : Value) (l : List UInt8) (w : World) (hs : Sep w [Rg.blk b 107 [p, i64 ((a : Nat) : Int), vo, i64 (lim : Int), i64 0], Rg.sl u8 5 vo out]) (hp : RdL u8 w p l) (ho : Off (fpU [Rg.blk b 107 [p, i64 ((a : Nat) : Int), vo, i64 (lim : Int), i64 0], Rg.sl u8 5 vo out]) p l) (ha : a ≤ 8 * l.length) (hl : l.length ≤ 1099511627776) (hol : out.length ≤ lim) (hlim : lim ≤ 16777216) :
  Ret Tryz.prog 83 #[pv b] w fun v w' => ∃ (vn : Value) (out' : List UInt8) (a' : Nat) (e' : Int), M w (fpU [Rg.blk b 107 [p, i64 ((a : Nat) : Int), vo, i64 (lim : Int), i64 0], Rg.sl u8 5 vo out]) w' [Rg.blk b 107 [p, i64 ((a' : Nat) : Int), vn, i64 (lim : Int), i64 e'], Rg.sl u8 5 vn out'] ∧ Rds (Df.bnd Df.rown (fun x => fun B a => Df.tk x.1 x.2 lim B a out) (Df.ub l) a) out' a' e' ∧ a' ≤ 8 * l.length ∧ out'.length ≤ lim := by
 have hM := M.startS hs
 refine enter Tryz.func83 rfl (by kernel_rfl) Tryz.ntmps83 rfl $ Kb $ Km rfl $ ?_
 have hul := Df.ub_len l
 refine E.call rfl rfl (bits34_ret 5 b a lim p vo 0 l _ (hM.pick [0] (by decide)).sep (hM.arg hp ho) ((hM.pick [0] (by decide)).offS hp ho) (by omega) hl (by decide)) ?_
 rintro _ w0 ⟨x0, a0, e0, rfl, m0, hr0, ha0, hb0⟩
 have hM := hM.calls [0] (by decide) rfl (by simp) m0
 try dsimp only [Za, Zb, Zc, Zd, repl] at hM
 have hx0 := hr0.bits_lt
 try dsimp only [Za, Zb, Zc, Zd, repl] at hM
 refine E.addN (a := 257) (b := x0) rfl rfl (by omega) rfl ?_
 rw [Nat.add_comm 257 x0]
 refine Kd rfl $ Km rfl $ E.call rfl rfl (bits34_ret 5 b a0 lim p vo e0 l _ (hM.pick [0] (by decide)).sep (hM.arg hp ho) ((hM.pick [0] (by decide)).offS hp ho) (by omega) hl (by decide)) ?_
 rintro _ w1 ⟨x1, a1, e1, rfl, m1, hr1, ha1, hb1⟩
 have hM := hM.calls [0] (by decide) rfl (by simp) m1
 try dsimp only [Za, Zb, Zc, Zd, repl] at hM
 have hx1 := hr1.bits_lt
 try dsimp only [Za, Zb, Zc, Zd, repl] at hM
 refine E.addN (a := 1) (b := x1) rfl rfl (by omega) rfl ?_
 rw [Nat.add_comm 1 x1]
 refine Kd rfl $ Km rfl $ E.call rfl rfl (bits34_ret 4 b a1 lim p vo e1 l _ (hM.pick [0] (by decide)).sep (hM.arg hp ho) ((hM.pick [0] (by decide)).offS hp ho) (by omega) hl (by decide)) ?_
 rintro _ w2 ⟨x2, a2, e2, rfl, m2, hr2, ha2, hb2⟩
 have hM := hM.calls [0] (by decide) rfl (by simp) m2
 try dsimp only [Za, Zb, Zc, Zd, repl] at hM
 have hx2 := hr2.bits_lt
 try dsimp only [Za, Zb, Zc, Zd, repl] at hM
 refine E.addN (a := 4) (b := x2) rfl rfl (by omega) rfl ?_
 rw [Nat.add_comm 4 x2]
 obtain ⟨m, hm⟩ : ∃ m, m = x0 + 257 := ⟨_, rfl⟩
 obtain ⟨n, hn⟩ : ∃ n, n = x1 + 1 := ⟨_, rfl⟩
 obtain ⟨K, hK⟩ : ∃ K, K = x2 + 4 := ⟨_, rfl⟩
 have hst := Df.ST.head hr0 hr1 hr2
 rw [← hm, ← hn, ← hK] at hst
 rw [← hm, ← hn, ← hK]
 refine Kc rfl $ C.cut1 [(0, _), (2, _), (3, _), (4, _)] rfl (fun (e3 : Int) => []) (fun (e3 : Int) w' => M w (fpU [Rg.blk b 107 [p, i64 ((a : Nat) : Int), vo, i64 (lim : Int), i64 0], Rg.sl u8 5 vo out]) w' [Rg.blk b 107 [p, i64 ((a2 : Nat) : Int), vo, i64 (lim : Int), i64 e3], Rg.sl u8 5 vo out] ∧ Df.ST (Df.rown (Df.ub l) a) e3 (Df.bnd (Df.rl3 K 0 (List.replicate 19 0)) (Df.fcx x0 x1) (Df.ub l) a2)) ?_ ?_
 ·
  refine C.chainE [(0, _), (2, _), (3, _), (4, _)] rfl [(24, .bool (decide (286 < (m : Int) ∨ 30 < (n : Int))))] ?_ ?_
  ·
   refine C.region $ Km rfl $ Kp rfl $ Km rfl $ E.split 21 rfl (fun g21 => ?_) (fun g21 => ?_)
   ·
    try simp only [Ya, Yb, Yc, Yd, Ye, Yf] at g21
    refine Kq rfl $ Kq rfl $ Kr rfl $ E.nil $ X.join0 (Sub.cons (by exact leaf_t (by omega)) $ Sub.nil _) rfl rfl
   try simp only [Ya, Yb, Yc, Yd, Ye, Yf] at g21
   refine Ko rfl $ Km rfl $ Ko rfl $ Kp rfl $ Kr rfl $ E.nil $ X.join0 (Sub.cons (by exact leaf_d (by omega)) $ Sub.nil _) rfl rfl
  refine C.cond' rfl (fun hC0 => ?_) (fun hC0 => ?_)
  ·
   rw [if_pos hC0] at hst
   refine C.region $ Km rfl $ E.call rfl rfl (fail34_ret b a2 lim p vo e2 9 _ (hM.pick [0] (by decide)).sep) ?_
   rintro _ w3 m3
   have hM := hM.calls [0] (by decide) rfl (by simp) m3
   try dsimp only [Za, Zb, Zc, Zd, repl] at hM
   try dsimp only [Za, Zb, Zc, Zd, repl] at hM
   refine E.nil $ X.join1 (fst e2 9) (Sub.nil _) rfl ⟨hM, hst⟩
  rw [if_neg hC0] at hst
  refine C.skip $ X.join1 e2 (Sub.nil _) rfl ⟨hM, hst⟩
 rintro e3 w4 ⟨hM, hs0⟩
 refine Kb $ E.makeM (by_ := 8) (enc := i64) (0 : Int) hM (n := 19) rfl U76 (by kernel_rfl) rfl (by decide) (by decide) rfl ?_
 intro v27 w5 hM
 try dsimp only [Za, Zb, Zc, Zd, repl] at hM
 rw [← nz_rep] at hM
 refine Kc rfl $ C.seq $ Kb $ Kc rfl $ C.block $ C.loop4 [(0, _), (2, _), (3, _), (4, _), (5, _)] rfl (fun (i : Nat) (aa : Nat) (ee : Int) (c : LNr) => [(6, i64 i)]) (fun (i : Nat) (aa : Nat) (ee : Int) (c : LNr) w' => M w (fpU [Rg.blk b 107 [p, i64 ((a : Nat) : Int), vo, i64 (lim : Int), i64 0], Rg.sl u8 5 vo out]) w' [Rg.blk b 107 [p, i64 ((aa : Nat) : Int), vo, i64 (lim : Int), i64 ee], Rg.sl u8 5 vo out, Rg.sl i64 3 v27 (nz c)] ∧ i ≤ K ∧ aa ≤ 8 * l.length ∧ Df.ST (Df.rown (Df.ub l) a) ee (Df.bnd (Df.rl3 (K - i) i c) (Df.fcx x0 x1) (Df.ub l) aa) ∧ c.length = 19 ∧ (∀ x ∈ c, x ≤ 15)) (fun (i : Nat) (aa : Nat) (ee : Int) (c : LNr) => K - i) 0 a2 e3 (List.replicate 19 0) ?_ ?_ ?_
 · exact S1 rfl
 · exact ⟨hM, Nat.zero_le _, hb2, hs0, List.length_replicate, fun x hx => (by rw [(List.mem_replicate.1 hx).2]; omega)⟩
 rintro i aa ee c w6 ⟨hM, hi, hab, hsi, hcl, hcb⟩
 refine C.seq $ Kb $ Kf rfl $ Kp rfl $ Ka $ C.cond' rfl (fun hC1 => ?_) (fun hC1 => ?_)
 ·
  have hi' : i < K := by omega
  have hol19 := ord_lt i (show i < 19 by omega)
  have hnol := nz_len Df.ordL
  have hordl : Df.ordL.length = 19 := rfl
  obtain ⟨mf, hmf⟩ : ∃ mf, K - i = mf + 1 := ⟨K - i - 1, by omega⟩
  rw [hmf] at hsi
  refine Kk $ C.seq $ C.block $ C.heldX (Sh := fun w' => ∃ (qa : Nat) (qe : Int) (ql : LNr), M w (fpU [Rg.blk b 107 [p, i64 ((a : Nat) : Int), vo, i64 (lim : Int), i64 0], Rg.sl u8 5 vo out]) w' [Rg.blk b 107 [p, i64 ((qa : Nat) : Int), vo, i64 (lim : Int), i64 qe], Rg.sl u8 5 vo out, Rg.sl i64 3 v27 (nz ql)] ∧ ql.length = 19) hM (by kernel_rfl) fun wh7 hM => ?_
  have hS : ∃ (qa : Nat) (qe : Int) (ql : LNr), M w (fpU [Rg.blk b 107 [p, i64 ((a : Nat) : Int), vo, i64 (lim : Int), i64 0], Rg.sl u8 5 vo out]) wh7 [Rg.blk b 107 [p, i64 ((qa : Nat) : Int), vo, i64 (lim : Int), i64 qe], Rg.sl u8 5 vo out, Rg.sl i64 3 v27 (nz ql)] ∧ ql.length = 19 := ⟨_, _, _, hM.pick [0, 1, 2] (by decide), by simp [hcl]⟩
  refine Kt 0 rfl (by kernel_rfl) hS (fun w' ⟨qa, qe, ql, hM, hX⟩ => Y.mv rfl) rfl $ Kt 2 rfl (by kernel_rfl) hS (fun w' ⟨qa, qe, ql, hM, hX⟩ => Y.mv rfl) rfl $ Kt 5 rfl (by kernel_rfl) hS (fun w' ⟨qa, qe, ql, hM, hX⟩ => Y.mv rfl) rfl $ H.only 1 rfl (by kernel_rfl) $ E.call rfl rfl (rorder_ret _) ?_
  rintro v34 w8 m8
  have hM := hM.call m8
  try dsimp only [Za, Zb, Zc, Zd, repl] at hM
  have hord : RdL i64 _ v34 (nz Df.ordL) := hM.sl 3 rfl
  try dsimp only [Za, Zb, Zc, Zd, repl] at hM
  have hS : ∃ (qa : Nat) (qe : Int) (ql : LNr), M w (fpU [Rg.blk b 107 [p, i64 ((a : Nat) : Int), vo, i64 (lim : Int), i64 0], Rg.sl u8 5 vo out]) _ [Rg.blk b 107 [p, i64 ((qa : Nat) : Int), vo, i64 (lim : Int), i64 qe], Rg.sl u8 5 vo out, Rg.sl i64 3 v27 (nz ql)] ∧ ql.length = 19 := ⟨_, _, _, hM.pick [0, 1, 2] (by decide), by simp [hcl]⟩
  refine H.back hS $ Ku 3 rfl (by kernel_rfl) hS (Y.idxW _ i rfl rfl hord rfl (by omega) U76 (by kernel_rfl)) (fun w' ⟨qa, qe, ql, hM, hX⟩ => Y.idxW _ i rfl rfl hord rfl (by omega) U76 (by kernel_rfl)) rfl $ H.two 4 6 rfl rfl (by kernel_rfl) ?_ ?_
  ·
   refine E.load rfl U3 rfl ((hM.sl 3 rfl).cell (show i < (nz Df.ordL).length by omega)) rfl ?_
   rw [nz_gd]
   have hS : ∃ (qa : Nat) (qe : Int) (ql : LNr), M w (fpU [Rg.blk b 107 [p, i64 ((a : Nat) : Int), vo, i64 (lim : Int), i64 0], Rg.sl u8 5 vo out]) _ [Rg.blk b 107 [p, i64 ((qa : Nat) : Int), vo, i64 (lim : Int), i64 qe], Rg.sl u8 5 vo out, Rg.sl i64 3 v27 (nz ql)] ∧ ql.length = 19 := ⟨_, _, _, hM.pick [0, 1, 2] (by decide), by simp [hcl]⟩
   refine H.back hS $ H.only 6 rfl (by kernel_rfl) $ E.call rfl rfl (bits34_ret 3 b aa lim p vo ee l _ (hM.pick [0] (by decide)).sep (hM.arg hp ho) ((hM.pick [0] (by decide)).offS hp ho) (by omega) hl (by decide)) ?_
   rintro _ w9 ⟨x9, a9, e9, rfl, m9, hr9, ha9, hb9⟩
   have hM := hM.calls [0] (by decide) rfl (by simp) m9
   try dsimp only [Za, Zb, Zc, Zd, repl] at hM
   have hx9 := hr9.bits_lt
   try dsimp only [Za, Zb, Zc, Zd, repl] at hM
   have hS : ∃ (qa : Nat) (qe : Int) (ql : LNr), M w (fpU [Rg.blk b 107 [p, i64 ((a : Nat) : Int), vo, i64 (lim : Int), i64 0], Rg.sl u8 5 vo out]) _ [Rg.blk b 107 [p, i64 ((qa : Nat) : Int), vo, i64 (lim : Int), i64 qe], Rg.sl u8 5 vo out, Rg.sl i64 3 v27 (nz ql)] ∧ ql.length = 19 := ⟨_, _, _, hM.pick [0, 1, 2] (by decide), by simp [hcl]⟩
   refine H.back hS $ Ku 7 rfl (by kernel_rfl) hS (Y.idx1 (k := Df.ordL.getD i 0) rfl rfl (hM.sl 2 rfl) rfl (by rw [nz_len]; omega) U76 (by kernel_rfl)) (fun w' ⟨qa, qe, ql, hM, hX⟩ => Y.idx1 (k := Df.ordL.getD i 0) rfl rfl (hM.sl 2 rfl) rfl (by rw [nz_len]; omega) U76 (by kernel_rfl)) rfl $ H.only 8 rfl (by kernel_rfl) $ E.storeL (enc := i64) 2 (x9 : Int) hM rfl rfl rfl (by kernel_rfl) rfl rfl (by rw [nz_len]; omega) ?_
   intro w10 hM
   try dsimp only [Za, Zb, Zc, Zd, repl] at hM
   rw [nz_set] at hM
   have hS : ∃ (qa : Nat) (qe : Int) (ql : LNr), M w (fpU [Rg.blk b 107 [p, i64 ((a : Nat) : Int), vo, i64 (lim : Int), i64 0], Rg.sl u8 5 vo out]) _ [Rg.blk b 107 [p, i64 ((qa : Nat) : Int), vo, i64 (lim : Int), i64 qe], Rg.sl u8 5 vo out, Rg.sl i64 3 v27 (nz ql)] ∧ ql.length = 19 := ⟨_, _, _, hM.pick [0, 1, 2] (by decide), by simp [hcl]⟩
   refine H.back hS $ H.done (by kernel_rfl) $ X.outN $ X.next $ C.region $ Km rfl $ E.addN (a := i) (b := 1) rfl rfl (by omega) rfl $ Kn rfl $ E.nil $ X.again4 (i + 1) a9 e9 (c.set (Df.ordL.getD i 0) x9) (S1 rfl) rfl ⟨hM.pick [0, 1, 2] (by decide), by omega, hb9, by rw [show K - (i + 1) = mf by omega]; exact hsi.bits Df.rl3_on hr9, by rw [List.length_set]; exact hcl, bd_set hcb (by omega)⟩ (by omega)
  refine E.call rfl rfl (bits34_ret 3 b aa lim p vo ee l _ (hM.pick [0] (by decide)).sep (hM.arg hp ho) ((hM.pick [0] (by decide)).offS hp ho) (by omega) hl (by decide)) ?_
  rintro _ w9 ⟨x9, a9, e9, rfl, m9, hr9, ha9, hb9⟩
  have hM := hM.calls [0] (by decide) rfl (by simp) m9
  try dsimp only [Za, Zb, Zc, Zd, repl] at hM
  have hx9 := hr9.bits_lt
  try dsimp only [Za, Zb, Zc, Zd, repl] at hM
  have hS : ∃ (qa : Nat) (qe : Int) (ql : LNr), M w (fpU [Rg.blk b 107 [p, i64 ((a : Nat) : Int), vo, i64 (lim : Int), i64 0], Rg.sl u8 5 vo out]) _ [Rg.blk b 107 [p, i64 ((qa : Nat) : Int), vo, i64 (lim : Int), i64 qe], Rg.sl u8 5 vo out, Rg.sl i64 3 v27 (nz ql)] ∧ ql.length = 19 := ⟨_, _, _, hM.pick [0, 1, 2] (by decide), by simp [hcl]⟩
  refine H.back hS $ H.only 4 rfl (by kernel_rfl) $ E.load rfl U3 rfl ((hM.sl 3 rfl).cell (show i < (nz Df.ordL).length by omega)) rfl ?_
  rw [nz_gd]
  have hS : ∃ (qa : Nat) (qe : Int) (ql : LNr), M w (fpU [Rg.blk b 107 [p, i64 ((a : Nat) : Int), vo, i64 (lim : Int), i64 0], Rg.sl u8 5 vo out]) _ [Rg.blk b 107 [p, i64 ((qa : Nat) : Int), vo, i64 (lim : Int), i64 qe], Rg.sl u8 5 vo out, Rg.sl i64 3 v27 (nz ql)] ∧ ql.length = 19 := ⟨_, _, _, hM.pick [0, 1, 2] (by decide), by simp [hcl]⟩
  refine H.back hS $ Ku 7 rfl (by kernel_rfl) hS (Y.idx1 (k := Df.ordL.getD i 0) rfl rfl (hM.sl 2 rfl) rfl (by rw [nz_len]; omega) U76 (by kernel_rfl)) (fun w' ⟨qa, qe, ql, hM, hX⟩ => Y.idx1 (k := Df.ordL.getD i 0) rfl rfl (hM.sl 2 rfl) rfl (by rw [nz_len]; omega) U76 (by kernel_rfl)) rfl $ H.only 8 rfl (by kernel_rfl) $ E.storeL (enc := i64) 2 (x9 : Int) hM rfl rfl rfl (by kernel_rfl) rfl rfl (by rw [nz_len]; omega) ?_
  intro w12 hM
  try dsimp only [Za, Zb, Zc, Zd, repl] at hM
  rw [nz_set] at hM
  have hS : ∃ (qa : Nat) (qe : Int) (ql : LNr), M w (fpU [Rg.blk b 107 [p, i64 ((a : Nat) : Int), vo, i64 (lim : Int), i64 0], Rg.sl u8 5 vo out]) _ [Rg.blk b 107 [p, i64 ((qa : Nat) : Int), vo, i64 (lim : Int), i64 qe], Rg.sl u8 5 vo out, Rg.sl i64 3 v27 (nz ql)] ∧ ql.length = 19 := ⟨_, _, _, hM.pick [0, 1, 2] (by decide), by simp [hcl]⟩
  refine H.back hS $ H.done (by kernel_rfl) $ X.outN $ X.next $ C.region $ Km rfl $ E.addN (a := i) (b := 1) rfl rfl (by omega) rfl $ Kn rfl $ E.nil $ X.again4 (i + 1) a9 e9 (c.set (Df.ordL.getD i 0) x9) (S1 rfl) rfl ⟨hM.pick [0, 1, 2] (by decide), by omega, hb9, by rw [show K - (i + 1) = mf by omega]; exact hsi.bits Df.rl3_on hr9, by rw [List.length_set]; exact hcl, bd_set hcb (by omega)⟩ (by omega)
 have hiK : i = K := by omega
 rw [hiK, Nat.sub_self] at hsi
 have hcd := hsi.code
 rw [← hm, ← hn] at hcd
 refine Kx $ C.cut1 [(0, _), (2, _), (3, _), (5, _)] rfl (fun (e4 : Int) => []) (fun (e4 : Int) w' => M w (fpU [Rg.blk b 107 [p, i64 ((a : Nat) : Int), vo, i64 (lim : Int), i64 0], Rg.sl u8 5 vo out]) w' [Rg.blk b 107 [p, i64 ((aa : Nat) : Int), vo, i64 (lim : Int), i64 e4], Rg.sl u8 5 vo out, Rg.sl i64 3 v27 (nz c)] ∧ (¬ e4 = 0 → (Df.rown (Df.ub l) a) = .error e4) ∧ (e4 = 0 → chv (nz c) = 0 ∧ (Df.rown (Df.ub l) a) = Df.bnd (Df.rln c (m + n) []) (Df.fl m) (Df.ub l) aa)) ?_ ?_
 ·
  refine C.cut0 [(0, _), (2, _), (3, _), (5, _)] rfl [(50, .bool (decide (ee = 0 ∧ chv (nz c) ≠ 0)))] (fun w' => M w (fpU [Rg.blk b 107 [p, i64 ((a : Nat) : Int), vo, i64 (lim : Int), i64 0], Rg.sl u8 5 vo out]) w' [Rg.blk b 107 [p, i64 ((aa : Nat) : Int), vo, i64 (lim : Int), i64 ee], Rg.sl u8 5 vo out, Rg.sl i64 3 v27 (nz c)]) ?_ ?_
  ·
   refine C.region $ Km rfl $ E.nilc rfl rfl $ E.fld (o := 4) (sz := 0) rfl U107 rfl rfl (by kernel_rfl) rfl $ E.load rfl U26 rfl (hM.bcell 0 rfl rfl) rfl $ Kp rfl $ Km rfl $ E.split 46 rfl (fun g46 => ?_) (fun g46 => ?_)
   ·
    try simp only [Ya, Yb, Yc, Yd, Ye, Yf] at g46
    refine Ko rfl $ Km rfl $ Ko rfl $ E.call rfl rfl (rCheck_ret v27 (nz c) _ (hM.sl 2 rfl)) ?_
    rintro _ w13 ⟨rfl, x13⟩
    have hM := hM.ext x13
    try dsimp only [Za, Zb, Zc, Zd, repl] at hM
    refine Ko rfl $ Kp rfl $ Kr rfl $ E.nil $ X.join0  (Sub.cons (look_eq rfl (congrArg Value.bool (decide_eq_decide.2 ⟨fun h => ⟨g46, h⟩, fun h => h.2⟩))) $ Sub.nil _) rfl hM
   try simp only [Ya, Yb, Yc, Yd, Ye, Yf] at g46
   refine Kq rfl $ Kq rfl $ Kq rfl $ Kr rfl $ E.nil $ X.join0  (Sub.cons (look_eq rfl (congrArg Value.bool (decide_eq_false (fun h => g46 h.1)).symm)) $ Sub.nil _) rfl hM
  rintro  w14 hM
  refine C.cond' rfl (fun hC2 => ?_) (fun hC2 => ?_)
  ·
   refine C.region $ Km rfl $ E.call rfl rfl (fail34_ret b aa lim p vo ee 27 _ (hM.pick [0] (by decide)).sep) ?_
   rintro _ w15 m15
   have hM := hM.calls [0] (by decide) rfl (by simp) m15
   try dsimp only [Za, Zb, Zc, Zd, repl] at hM
   try dsimp only [Za, Zb, Zc, Zd, repl] at hM
   refine E.nil $ X.join1 (fst ee 27) (Sub.nil _) rfl ⟨hM, by rw [if_pos hC2] at hcd; exact hcd⟩
  refine C.skip $ X.join1 ee (Sub.nil _) rfl ⟨hM, by rw [if_neg hC2] at hcd; exact hcd⟩
 rintro e4 w16 ⟨hM, hk1, hk2⟩
 refine Kb $ Kf rfl $ Kf rfl $ E.addN (a := m) (b := n) rfl rfl (by omega) rfl $ E.call rfl rfl (sequence34_ret v27 c (m + n) b aa lim p vo e4 l _ (hM.pick [0] (by decide)).sep (hM.arg hp ho) ((hM.pick [0] (by decide)).offS hp ho) (by omega) hl (hM.sl 2 rfl) (hM.offR 2 rfl [0] (by simp)) (fun q => Df.code_chv hcb (hk2 q).1) hcl (by omega)) ?_
 rintro v58 w17 ⟨O, a5, e5, m17, hr5, ha5, hb5, hbO, hlO⟩
 have hM := hM.calls [0] (by decide) rfl (by simp) m17
 try dsimp only [Za, Zb, Zc, Zd, repl] at hM
 have hs4 : Df.ST (Df.rown (Df.ub l) a) e4 (Df.bnd (Df.rln c (m + n) []) (Df.fl m) (Df.ub l) aa) := by
  by_cases q : e4 = 0
  · exact .inr ⟨q, (hk2 q).2⟩
  exact .inl ⟨q, hk1 q⟩
 have hst5 := hs4.seq hr5
 try dsimp only [Za, Zb, Zc, Zd, repl] at hM
 refine Kc rfl $ C.seq $ Kb $ Km rfl $ E.nilc rfl rfl $ E.fld (o := 4) (sz := 0) rfl U107 rfl rfl (by kernel_rfl) rfl $ E.load rfl U26 rfl (hM.bcell 0 rfl rfl) rfl $ Kp rfl $ Ka $ C.cond' rfl (fun hC3 => ?_) (fun hC3 => ?_)
 ·
  refine C.ret $ X.retT $ ret0 rfl ?_
  exact ⟨vo, out, a5, e5, hM.pick [0, 1] (by decide), .err hC3 (Df.bnd_err (hst5.bad hC3)), hb5, hol⟩
 obtain rfl : e5 = 0 := by omega
 have hlO := hlO rfl
 have hfl := hst5.good rfl
 have hnl := nz_len O
 have hdl : (O.drop m).length = n := by rw [List.length_drop]; omega
 have htl : (O.take m).length = m := by rw [List.length_take]; omega
 have hLb : ∀ x ∈ O.take m, x ≤ 15 := fun x hx => hbO x (List.mem_of_mem_take hx)
 have hDb : ∀ x ∈ O.drop m, x ≤ 15 := fun x hx => hbO x (List.mem_of_mem_drop hx)
 refine Kk $ Kb $ Kc rfl $ C.seq $ Kb $ Km rfl $ Kc rfl $ C.block $ C.loop1 [(0, _), (2, _), (3, _), (7, _)] rfl (fun (j : Nat) => [(8, .bool (decide (Df.us ((O.drop m).take j) = 0))), (9, i64 ((m + j : Nat) : Int))]) (fun (j : Nat) w' => M w (fpU [Rg.blk b 107 [p, i64 ((a : Nat) : Int), vo, i64 (lim : Int), i64 0], Rg.sl u8 5 vo out]) w' [Rg.blk b 107 [p, i64 ((a5 : Nat) : Int), vo, i64 (lim : Int), i64 0], Rg.sl u8 5 vo out, Rg.sl i64 3 v27 (nz c), Rg.sl i64 3 v58 (nz O)] ∧ j ≤ n) (fun (j : Nat) => n - j) 0 ?_ ?_ ?_
 · exact Sub.cons (look_eq rfl (congrArg Value.bool (decide_eq_true (by rw [List.take_zero]; rfl)).symm)) $ S1 rfl
 · exact ⟨hM, Nat.zero_le _⟩
 rintro j w18 ⟨hM, hj⟩
 refine C.seq $ Kb $ Kf rfl $ Km rfl $ E.addN (a := m) (b := n) rfl rfl (by omega) rfl $ Kp rfl $ Ka $ C.cond' rfl (fun hC4 => ?_) (fun hC4 => ?_)
 ·
  have hj' : j < n := by omega
  have hus := Df.us_snoc (l := O.drop m) (i := j) (by omega)
  have hgd : O.getD (m + j) 0 = (O.drop m)[j]'(by omega) := by rw [List.getD_eq_getElem?_getD, List.getElem?_eq_getElem (by omega), List.getElem_drop]; rfl
  refine Kk $ C.seq $ C.block $ C.region $ Kf rfl $ E.split 73 rfl (fun g73 => ?_) (fun g73 => ?_)
  ·
   try simp only [Ya, Yb, Yc, Yd, Ye, Yf] at g73
   refine Ko rfl $ Km rfl $ Ko rfl $ Km rfl $ Ko rfl $ E.idx1 (k := m + j) rfl rfl (hM.sl 3 rfl) rfl (by omega) U76 (by kernel_rfl) rfl $ Ko rfl $ E.load rfl U3 rfl ((hM.sl 3 rfl).cell (show m + j < (nz O).length by omega)) rfl ?_
   rw [nz_gd]
   refine Ko rfl $ Kp rfl $ Kr rfl $ Kn rfl $ E.nil $ X.outN $ X.next $ C.region $ Km rfl $ E.addN (a := m + j) (b := 1) rfl rfl (by omega) rfl $ Kn rfl $ E.nil $ X.again1 (j + 1) (Sub.cons (look_eq rfl (congrArg Value.bool (decide_eq_decide.2 (by rw [hus, hgd]; split <;> omega)))) $ S1 rfl) rfl ⟨hM, by omega⟩ (by omega)
  try simp only [Ya, Yb, Yc, Yd, Ye, Yf] at g73
  refine Kq rfl $ Kq rfl $ Kq rfl $ Kq rfl $ Kq rfl $ Kr rfl $ Kn rfl $ E.nil $ X.outN $ X.next $ C.region $ Km rfl $ E.addN (a := m + j) (b := 1) rfl rfl (by omega) rfl $ Kn rfl $ E.nil $ X.again1 (j + 1) (Sub.cons (look_eq rfl (congrArg Value.bool (decide_eq_false (by rw [hus]; split <;> omega)).symm)) $ S1 rfl) rfl ⟨hM, by omega⟩ (by omega)
 have hjn : j = n := by omega
 rw [hjn, List.take_of_length_le (show (O.drop m).length ≤ n by omega)]
 refine Kx $ C.seq $ C.cut0 [(0, _), (2, _), (7, _)] rfl [(101, .bool (decide (Df.badl O m)))] (fun w' => M w (fpU [Rg.blk b 107 [p, i64 ((a : Nat) : Int), vo, i64 (lim : Int), i64 0], Rg.sl u8 5 vo out]) w' [Rg.blk b 107 [p, i64 ((a5 : Nat) : Int), vo, i64 (lim : Int), i64 0], Rg.sl u8 5 vo out, Rg.sl i64 3 v27 (nz c), Rg.sl i64 3 v58 (nz O)]) ?_ ?_
 ·
  refine C.region $ Kf rfl $ E.slcP (k := .i64) 0 m rfl (.inr ⟨rfl, rfl⟩) (.inl rfl) (hM.sl 3 rfl) U76 (by kernel_rfl) (by omega) (by omega) rfl $ E.call rfl rfl (acceptable34_ret _ (O.take m) _ (nz_cut (hM.sl 3 rfl) (by omega)) hLb (by omega)) ?_
  rintro _ w19 ⟨rfl, x19⟩
  have hM := hM.ext x19
  try dsimp only [Za, Zb, Zc, Zd, repl] at hM
  refine E.not rfl rfl $ Km rfl $ E.split 85 rfl (fun g85 => ?_) (fun g85 => ?_)
  ·
   try simp only [Ya, Yb, Yc, Yd, Ye, Yf] at g85
   refine Kq rfl $ Kq rfl $ Kq rfl $ Kq rfl $ Kr rfl $ Km rfl $ Kq rfl $ Kq rfl $ Kq rfl $ E.offu rfl rfl rfl $ E.offu rfl rfl rfl $ E.offu rfl rfl rfl $ E.offu rfl rfl rfl $ E.offu rfl rfl rfl $ Kq rfl $ Kr rfl $ E.nil $ X.join0  (Sub.cons (look_eq rfl (by rw [decide_eq_true (show Df.badl O m from .inl (by simpa using g85))])) $ Sub.nil _) rfl hM
  try simp only [Ya, Yb, Yc, Yd, Ye, Yf] at g85
  refine Ko rfl $ Km rfl $ Ko rfl $ E.idx1 (k := 256) rfl rfl (hM.sl 3 rfl) rfl (by omega) U76 (by kernel_rfl) rfl $ Ko rfl $ E.load rfl U3 rfl ((hM.sl 3 rfl).cell (show 256 < (nz O).length by omega)) rfl ?_
  rw [nz_gd]
  refine Ko rfl $ Kp rfl $ Kr rfl $ Km rfl $ E.split 91 rfl (fun g91 => ?_) (fun g91 => ?_)
  ·
   try simp only [Ya, Yb, Yc, Yd, Ye, Yf] at g91
   refine Kq rfl $ Kq rfl $ Kq rfl $ E.offu rfl rfl rfl $ E.offu rfl rfl rfl $ E.offu rfl rfl rfl $ E.offu rfl rfl rfl $ E.offu rfl rfl rfl $ Kq rfl $ Kr rfl $ E.nil $ X.join0  (Sub.cons (look_eq rfl (by rw [decide_eq_true (show Df.badl O m from .inr (.inl (by omega)))])) $ Sub.nil _) rfl hM
  try simp only [Ya, Yb, Yc, Yd, Ye, Yf] at g91
  refine Ko rfl $ Km rfl $ Ko rfl $ E.not rfl rfl $ Ko rfl $ Km rfl $ E.split 94 rfl (fun g94 => ?_) (fun g94 => ?_)
  ·
   try simp only [Ya, Yb, Yc, Yd, Ye, Yf] at g94
   refine Ko rfl $ Km rfl $ Ko rfl $ Km rfl $ Ko rfl $ E.slcP (k' := .i64) m (m + n) rfl (.inl rfl) (.inr ⟨rfl, by omega⟩) (hM.sl 3 rfl) U76 (by kernel_rfl) (by omega) (by omega) rfl $ Ko rfl $ E.call rfl rfl (acceptable34_ret _ (O.drop m) _ (nz_cut2 (hM.sl 3 rfl) hlO.symm (by omega)) hDb (by omega)) ?_
   rintro _ w20 ⟨rfl, x20⟩
   have hM := hM.ext x20
   try dsimp only [Za, Zb, Zc, Zd, repl] at hM
   refine Ko rfl $ E.not rfl rfl $ Ko rfl $ Kr rfl $ Kr rfl $ E.nil $ X.join0  (Sub.cons (look_eq rfl (congrArg Value.bool (Df.badl_last (by simpa using g85) (by omega) (by simpa using g94)))) $ Sub.nil _) rfl hM
  try simp only [Ya, Yb, Yc, Yd, Ye, Yf] at g94
  refine Kq rfl $ Kq rfl $ Kq rfl $ Kq rfl $ Kq rfl $ Ko rfl $ Kr rfl $ Kr rfl $ E.nil $ X.join0  (Sub.cons (look_eq rfl (congrArg Value.bool (Df.badl_none (by simpa using g85) (by omega) (by simpa using g94)))) $ Sub.nil _) rfl hM
 rintro  w21 hM
 refine C.cond' rfl (fun hC5 => ?_) (fun hC5 => ?_)
 ·
  refine Kb $ Km rfl $ E.call rfl rfl (fail34_ret b a5 lim p vo 0 27 _ (hM.pick [0] (by decide)).sep) ?_
  rintro _ w22 m22
  have hM := hM.calls [0] (by decide) rfl (by simp) m22
  try dsimp only [Za, Zb, Zc, Zd, repl] at hM
  try dsimp only [Za, Zb, Zc, Zd, repl] at hM
  refine Ka $ C.ret $ X.retT $ ret0 rfl ?_
  exact ⟨vo, out, a5, fst 0 27, hM.pick [0, 1] (by decide), by rw [fst_z]; exact .err (by decide) (Df.bnd_err (hfl.trans (by rw [Df.fl, if_pos hC5]))), hb5, hol⟩
 have hfl2 : (Df.rown (Df.ub l) a) = .ok ((O.take m, O.drop m), a5) := hfl.trans (by rw [Df.fl, if_neg hC5])
 have hac : Df.acc (O.take m) = true := by cases h : Df.acc (O.take m) with | true => rfl | false => exact (hC5 (.inl h)).elim
 have hcL := Df.code_acc hLb hac
 have hcD : Df.Code (O.drop m) := by
  cases h : Df.acc (O.drop m) with
  | true => exact Df.code_acc hDb h
  | false => exact Df.code_zero hDb (by rcases Nat.eq_zero_or_pos (Df.us (O.drop m)) with h1 | h1; exact h1; exact (hC5 (.inr (.inr ⟨h, h1⟩))).elim)
 have hne : nz O = [] → False := fun q => by
  have := congrArg List.length q
  rw [nz_len, List.length_nil] at this; omega
 refine Kk $ C.drawnT 7 (by kernel_rfl) (by kernel_rfl) fun wh23 hwh23 => ?_
 have hM := hM.ext hwh23
 refine S.mv rfl rfl $ S.mv rfl rfl $ S.mv rfl rfl $ S.slcP (k := .i64) 0 m rfl (.inr ⟨rfl, rfl⟩) (.inl rfl) (hM.sl 3 rfl) U76 (by kernel_rfl) (by omega) (by omega) rfl $ S.mv rfl rfl $ S.mv rfl rfl $ S.slcP (k' := .i64) m (m + n) rfl (.inl rfl) (.inr ⟨rfl, by omega⟩) (hM.sl 3 rfl) U76 (by kernel_rfl) (by omega) (by omega) rfl $ S.nil $ E.call rfl rfl (block34_ret _ _ (O.take m) (O.drop m) out b a5 lim p vo l _ (hM.pick [0, 1] (by decide)).sep (hM.arg hp ho) ((hM.pick [0, 1] (by decide)).offS hp ho) (by omega) hl (nz_cut (hM.sl 3 rfl) (by omega)) (Off.part (hM.sl 3 rfl) (hM.offR 3 rfl [0, 1] (by simp)) 0 m (fun q => (hne q).elim)) (nz_cut2 (hM.sl 3 rfl) hlO.symm (by omega)) (Off.part (hM.sl 3 rfl) (hM.offR 3 rfl [0, 1] (by simp)) m (m + n) (fun q => (hne q).elim)) hcL (by omega) hcD (by omega) hol hlim) ?_
 rintro _ w23 ⟨vn, out2, a6, e6, m23, hr6, hb6, hol6⟩
 have hM := hM.calls [0, 1] (by decide) rfl (by simp) m23
 try dsimp only [Za, Zb, Zc, Zd, repl] at hM
 try dsimp only [Za, Zb, Zc, Zd, repl] at hM
 refine E.nil $ end0 rfl ?_
 exact ⟨vn, out2, a6, e6, hM.pick [0, 1] (by decide), by rw [Df.bnd_ok hfl2]; exact hr6, hb6, hol6⟩
end Go.Proofs.YtajklleiifhipaaGreatDoor
