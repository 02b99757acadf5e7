/- Texts of the claim, laid together: Dp27, Dp28. -/
import Derived.Test.YtajklleiifhipaaGreatDoorV0
import Derived.Test.YtajklleiifhipaaGreatDoorV3
import Derived.Test.YtajklleiifhipaaGreatDoorV5
import Derived.Test.YtajklleiifhipaaGreatDoorV9
set_option linter.unusedSimpArgs false
set_option linter.unusedVariables false
namespace Go.Proofs.YtajklleiifhipaaGreatDoor
open Go.RowKit Sym
theorem elem_Tref33_Item : Elem Tryz.prog 170 2 32 := elem_of (z := .agg #[.int .i64 0, .slice none 0 0]) (by kernel_rfl) rfl (by decide)
namespace Sym
section
variable {P : Program} {ops : Array Oper} {Q : Exit → Act → World → Prop} {s : St} {env : Env} {w0 w : World} {S : Nat → Prop} {rs : List Rg} {rest : List Oper} {d : Nat} {ty : TypeId} {pos : String} {aft : Array Edge}
theorem flat_dropD {α : Type} {enc : α → List Value} {sz : Nat} : ∀ (a : Nat) {l : List α}, (∀ x ∈ l, (enc x).length = sz) → (l.flatMap enc).drop (a * sz) = (l.drop a).flatMap enc
 | 0, l, _ => by simp
 | a + 1, [], _ => by simp
 | a + 1, x :: l, h => by
  have h1 := h x (by simp)
  rw [List.flatMap_cons, List.drop_append, List.drop_of_length_le (by rw [h1, Nat.succ_mul]; omega), List.nil_append, h1, show (a + 1) * sz - sz = a * sz by rw [Nat.succ_mul]; omega, List.drop_succ_cons]
  exact flat_dropD a fun y hy => h y (by simp [hy])
theorem flat_take {α : Type} {enc : α → List Value} {sz : Nat} : ∀ (a : Nat) {l : List α}, (∀ x ∈ l, (enc x).length = sz) → (l.flatMap enc).take (a * sz) = (l.take a).flatMap enc
 | 0, l, _ => by simp
 | a + 1, [], _ => by simp
 | a + 1, x :: l, h => by
  have h1 := h x (by simp)
  rw [List.flatMap_cons, List.take_append, List.take_of_length_le (by rw [h1, Nat.succ_mul]; omega), h1, show (a + 1) * sz - sz = a * sz by rw [Nat.succ_mul]; omega, List.take_succ_cons, List.flatMap_cons]
  rw [flat_take a fun y hy => h y (by simp [hy])]
theorem RdF.part {α : Type} {enc : α → List Value} {sz a b : Nat} {v v' : Value} {l : List α} (h : RdF enc sz w v l) (p : Part sz v v' a b) (ha : a ≤ b) (hb : b ≤ l.length) : RdF enc sz w v' (cutL a b l) := by
 have h2 := Rd.ofPart h.2 p
 rw [flat_dropD a h.1, flat_take (b - a) (fun x hx => h.1 x (List.mem_of_mem_drop hx))] at h2
 refine ⟨fun x hx => h.1 x (List.mem_of_mem_drop (List.mem_of_mem_take hx)), ?_⟩
 rw [cutL_len a b l ha hb]; exact h2
theorem E.slcFD {α : Type} {enc : α → List Value} {sz : Nat} {l : List α} {t e : TypeId} {x : Operand} {lo hi : Option Operand} {v : Value} {k k' : IntKind} (a b : Nat) (hx : ev env x = some v)
    (hlo : lo.map (ev env) = some (some (.int k (a : Int))) ∨ (lo = none ∧ a = 0)) (hhi : hi.map (ev env) = some (some (.int k' (b : Int))) ∨ (hi = none ∧ b = l.length)) (hR : RdF enc sz w v l)
    (ht : P.underlying t = some (.slice e)) (hs : (P.info? e).map (·.size) = some sz) (hl : a ≤ b) (hh : b ≤ l.length) (hd : Nat.blt d s.n = true)
    (hK : ∀ v', Part sz v v' a b → RdF enc sz w v' (cutL a b l) → wpE P ops Q s rest ((d, v') :: env) w) : wpE P ops Q s (⟨some d, .slice t x lo hi none, ty, pos, aft, none⟩ :: rest) env w := by
  have hR0 := hR
  obtain ⟨_, c, cap, hv, hc, _⟩ := hR
  subst hv
  have hp : Part sz (.slice c l.length cap) (.slice (if cap = a then c else c.map (·.add (a * sz))) (b - a) (cap - a)) a b := ⟨c, l.length, cap, rfl, hl, hh, rfl⟩
  refine E.op (fun a' ha => ?_) hd (hK _ hp (hR0.part hp hl hh))
  have h1 : lo.map a'.eval = some (.int k (a : Int)) ∨ (lo.map a'.eval = none ∧ a = 0) := by
    rcases hlo with hlo | ⟨rfl, h0⟩
    · cases lo with
      | none => simp at hlo
      | some y => simp at hlo; left; simp [ha.ev hlo]
    right; exact ⟨rfl, h0⟩
  have h2 : hi.map a'.eval = some (.int k' (b : Int)) ∨ (hi.map a'.eval = none ∧ b = l.length) := by
    rcases hhi with hhi | ⟨rfl, h0⟩
    · cases hi with
      | none => simp at hhi
      | some y => simp at hhi; left; simp [ha.ev hhi]
    right; exact ⟨rfl, h0⟩
  have := run_slice (P := P) (w := w) (a := c) ht hs h1 h2 hl hh hc
  simp [execOp, ha.ev hx, this]
theorem own_hd {α : Type} {enc : α → Value} {e : TypeId} {v : Value} {l : List α} (h : OwnL enc w 0 e v l) : ∃ x : Hd, v = slv x := by
 rcases h.2 with ⟨rfl, _⟩ | ⟨g, cap, cur, rfl, _⟩
 · exact ⟨(none, 0, 0), rfl⟩
 exact ⟨(_, _, _), rfl⟩
end
end Sym
abbrev Ir := Hd × Tr
abbrev wr (x : Ir) : Nat := x.2.wt
abbrev ec (x : Ir) : List Value := [i64 (wr x : Int), slv x.1]
theorem ec_one (a : Ir) : ∀ x ∈ ec a, x.oneCell' = true := fun x hx => by
 rcases List.mem_cons.1 hx with rfl | hx
 · rfl
 rw [List.mem_singleton] at hx; subst hx; rfl
def LP (w : World) (N : List Ir) : Prop := ∀ x ∈ N, RdL i64 w (slv x.1) (nz x.2.sy)
def Sym.Rg.lps (N : List Ir) : Rg where
 fp k := ∃ x ∈ N, x.2.sy ≠ [] ∧ k = (bs (slv x.1)).1
 ok w := LP w N
 keep {w w'} hk h := fun x hx => by
  have hr := h x hx
  cases e : x.2.sy with
  | nil => rw [e] at hr; exact Rd.nil_other hr
  | cons c l => rw [e] at hr; exact (Rg.rd 1 (slv x.1) (nz (c :: l)).length ((nz (c :: l)).map i64)).keep (fun k hfp => hk k ⟨x, hx, by rw [e]; simp, hfp.2⟩) hr
 live {w} h k hk := by
  obtain ⟨x, hx, hne, rfl⟩ := hk
  exact (h x hx).lt (by cases e : x.2.sy with | nil => exact (hne e).elim | cons _ _ => simp [nz])
theorem Sym.M.lps {w0 w : World} {S : Nat → Prop} {rs : List Rg} {N : List Ir} (h : M w0 S w rs) (i : Nat) (hi : rs[i]? = some (Rg.lps N)) : LP w N := h.ok hi
theorem Sym.M.lpsNil {w0 w : World} {S : Nat → Prop} {rs : List Rg} (h : M w0 S w rs) : M w0 S w (rs ++ [Rg.lps []]) := h.new (Ext.refl w) (r := Rg.lps []) (fun x hx => by cases hx) (fun k ⟨t, ht, _⟩ => by cases ht)
theorem Sym.M.lpsAdd {w0 w : World} {S : Nat → Prop} {rs : List Rg} {N : List Ir} {x : Ir} {e : TypeId} (h : M w0 S w rs) (i j : Nat) (hne : i ≠ j) (hi : rs[i]? = some (Rg.lps N)) (hj : rs[j]? = some (Rg.sl i64 e (slv x.1) (nz x.2.sy))) : M w0 S w ((rs.set j Rg.emp).set i (Rg.lps (N ++ [x]))) :=
 h.join i j hne hi hj (p := Rg.lps (N ++ [x])) (fun y hy => by
  rcases List.mem_append.1 hy with hy | hy
  · exact h.lps i hi y hy
  · rw [List.mem_singleton] at hy; subst hy; exact h.sl j hj) fun k ⟨y, hy, hn, hk⟩ => by
  rcases List.mem_append.1 hy with hy | hy
  · exact .inl ⟨y, hy, hn, hk⟩
  rw [List.mem_singleton] at hy; subst hy
  right
  rcases (h.own j hj).2 with ⟨_, h3⟩ | ⟨g, cap, cur, hv, _⟩
  · exact (hn (List.length_eq_zero_iff.1 (by simpa [nz] using h3))).elim
  show (slv y.1).ownBlock = some k
  rw [hk, hv]; rfl
theorem Sym.M.lpsJoin {w0 w : World} {S : Nat → Prop} {rs : List Rg} {N N' : List Ir} (h : M w0 S w rs) (i j : Nat) (hne : i ≠ j) (hi : rs[i]? = some (Rg.lps N)) (hj : rs[j]? = some (Rg.lps N')) : M w0 S w ((rs.set j Rg.emp).set i (Rg.lps (N ++ N'))) :=
 h.join i j hne hi hj (p := Rg.lps (N ++ N')) (fun x hx => by
  rcases List.mem_append.1 hx with hx | hx
  · exact h.lps i hi x hx
  · exact h.lps j hj x hx) fun k ⟨y, hy, hn, hk⟩ => by
  rcases List.mem_append.1 hy with hx | hx
  · exact .inl ⟨y, hx, hn, hk⟩
  exact .inr ⟨y, hx, hn, hk⟩
theorem wgR {S : List Ir} {m : Nat} (h : m < S.length) : (S.map wr).getD m 0 = wr S[m] := by rw [List.getD_eq_getElem?_getD, List.getElem?_map, List.getElem?_eq_getElem h]; rfl
theorem pkg_odd : ∀ {k : Nat} (l : List Tr), l.length = 2 * k + 1 → pkg (l.take (2 * k)) = pkg l
 | 0, [_], _ => rfl
 | 0, [], h => by simp at h
 | 0, _ :: _ :: _, h => by simp at h
 | k + 1, [], h => by simp at h
 | k + 1, [_], h => by simp at h
 | k + 1, a :: b :: l, h => by
  have := pkg_odd (k := k) l (by simp at h; omega)
  rw [show 2 * (k + 1) = 2 * k + 1 + 1 by omega, List.take_succ_cons, List.take_succ_cons, pkg, pkg, this]
theorem cut0 {α : Type} (k : Nat) (l : List α) : cutL 0 k l = l.take k := by simp [cutL]
theorem cutE {α : Type} (k : Nat) (l : List α) : cutL k l.length l = l.drop k := by unfold cutL; rw [List.take_of_length_le (by rw [List.length_drop]; omega)]
theorem nz_app (a b : List Nat) : nz (a ++ b) = nz a ++ nz b := List.map_append
theorem mrg_head {g : Ir → Nat} {xs : List Ir} {i : Nat} {p : Ir} {fut : List Ir} (h : i < xs.length) (hw : g xs[i] ≤ g p) : mrg g (xs.drop i) (p :: fut) = xs[i] :: mrg g (xs.drop (i + 1)) (p :: fut) := by
 rw [List.drop_eq_getElem_cons h, mrg_le hw]
theorem mrg_here {xs : List Ir} {i : Nat} {p : Ir} {fut : List Ir} (hi : i ≤ xs.length) (hw : ¬ (i < xs.length ∧ (xs.map wr).getD i 0 ≤ wr p)) : mrg wr (xs.drop i) (p :: fut) = p :: mrg wr (xs.drop i) fut := by
 by_cases h : i < xs.length
 · rw [List.drop_eq_getElem_cons h, mrg_gt (fun c => hw ⟨h, by rw [wgR h]; exact c⟩)]
 rw [List.drop_of_length_le (by omega), mrg, mrg]
set_option maxHeartbeats 1000000 in
theorem insert_ret (p : Value) (l : List Ir) (x : Ir) (w : World) (hr : RdF ec 2 w p l) (hl : l.length ≤ 1000000) :
  Ret Tryz.prog 147 #[p, .agg #[i64 (wr x : Int), slv x.1]] w fun v w' => M w Nn w' [Rg.slF ec 2 170 v (ins wr x l)] := by
 have hM := M.start w
 refine enter Tryz.func147 rfl (by kernel_rfl) Tryz.ntmps147 rfl $ Kb $ E.boxM hM rfl rfl rfl ?_
 intro b3 w0 hM
 try dsimp only [Za, Zb, Zc, Zd, repl] at hM
 refine Kd rfl $ Km rfl $ E.lenv rfl (RdF.shape (hM.argF0 hr)) U167 rfl $ Kc rfl $ C.seq $ C.block $ C.loop1 [(0, _), (3, _)] rfl (fun (k : Nat) => [(5, i64 k)]) (fun (k : Nat) w' => M w (Nn) w' [Rg.blk b3 170 (ec x)] ∧ k ≤ l.length ∧ pos (wr x) (l.map wr) l.length = pos (wr x) (l.map wr) k) (fun (k : Nat) => k) l.length ?_ ?_ ?_
 · exact S1 rfl
 · exact ⟨hM, Nat.le_refl _, rfl⟩
 rintro k w1 ⟨hM, hk, hp⟩
 refine C.seq $ C.chainQ [(0, _), (3, _), (5, _)] rfl [(21, .bool (decide (0 < k ∧ wr x < (l.map wr).getD (k - 1) 0)))] ?_ ?_
 ·
  refine C.drawn (by kernel_rfl) (by kernel_rfl) $ Q.mv rfl rfl $ Q.bin rfl rfl rfl rfl $ Q.mv rfl rfl $ Q.split 11 rfl (fun g11 => ?_) (fun g11 => ?_)
  ·
   try simp only [Ya, Yb, Yc, Yd, Ye, Yf] at g11
   have hk0 : k - 1 < l.length := by omega
   have hwg := wgR hk0
   refine Q.on rfl rfl (Q.mv rfl rfl ?_)
   refine Q.on rfl rfl (Q.mv rfl rfl ?_)
   refine Q.on rfl rfl (Q.subN (b := 1) rfl rfl (by omega) rfl ?_)
   refine Q.on rfl rfl (Q.idxF (k := k - 1) rfl rfl (hM.argF0 hr) rfl hk0 (by decide) U167 (by kernel_rfl) rfl ?_)
   refine Q.on rfl rfl (Q.fld (o := 0) (sz := 0) rfl U170 rfl rfl (by kernel_rfl) rfl ?_)
   refine Q.on rfl rfl (Q.load rfl U3 rfl ((hM.argF0 hr).atA (k := k - 1) (o := 0) rfl hk0 rfl) rfl ?_)
   refine Q.on rfl rfl (Q.fld (o := 0) (sz := 0) rfl U170 rfl rfl (by kernel_rfl) rfl ?_)
   refine Q.on rfl rfl (Q.load rfl U3 rfl (hM.bcell 0 rfl rfl) rfl ?_)
   refine Q.on rfl rfl (Q.bin rfl rfl rfl rfl ?_)
   refine Q.pick rfl rfl rfl $ Q.nil $ fun w2 hx2 => X.join0 (Sub.cons (by exact leaf_d (by omega)) $ Sub.nil _) rfl hx2
  try simp only [Ya, Yb, Yc, Yd, Ye, Yf] at g11
  refine Q.off rfl rfl rfl rfl $ Q.off rfl rfl rfl rfl $ Q.off rfl rfl rfl rfl $ Q.off rfl rfl rfl rfl $ Q.off rfl rfl rfl rfl $ Q.off rfl rfl rfl rfl $ Q.off rfl rfl rfl rfl $ Q.off rfl rfl rfl rfl $ Q.off rfl rfl rfl rfl $ Q.pick rfl rfl rfl $ Q.nil $ fun w3 hx3 => X.join0 (Sub.cons (by exact leaf_f (by omega)) $ Sub.nil _) rfl hx3
 intro w4 hx4
 have hM := hM.ext hx4
 refine C.cond' rfl (fun hC0 => ?_) (fun hC0 => ?_)
 ·
  obtain ⟨k, rfl⟩ : ∃ k', k = k' + 1 := ⟨k - 1, by omega⟩
  rw [Nat.add_sub_cancel] at hC0
  refine Kk $ C.block $ C.region $ Km rfl $ E.subN (b := 1) rfl rfl (by omega) rfl $ Kn rfl $ E.nil $ X.outN $ X.again1 k (S1 rfl) rfl ⟨hM, by omega, by rw [hp, pos, if_pos hC0.2]⟩ (by omega)
 have hpk : pos (wr x) (l.map wr) l.length = k := by
  rw [hp]
  cases k with
  | zero => rfl
  | succ k => rw [pos, if_neg (show ¬ wr x < (l.map wr).getD k 0 from fun h => hC0 ⟨by omega, h⟩)]
 have hM := hM.nilF ec 2 170
 refine Kx $ Kb $ Kd rfl $ Kf rfl $ Km rfl $ E.slcFD (k := .i64) (k' := .i64) 0 k rfl (.inr ⟨rfl, rfl⟩) (.inl rfl) (hM.argF0 hr) U167 (by kernel_rfl) (Nat.zero_le _) hk rfl ?_
 intro v27 p27 r27
 rw [cut0] at r27
 refine E.appendFM 1 hM rfl rfl rfl U167 elem_Tref33_Item r27 ec_one (by rw [List.length_take, List.length_nil]; omega) (by rw [List.length_take, List.length_nil]; omega) rfl ?_
 intro v28 w5 hM
 try dsimp only [Za, Zb, Zc, Zd, repl] at hM
 have hlt : (l.take k).length = k := by rw [List.length_take]; omega
 refine Kd rfl $ Km rfl $ E.loadA (cs := ec x) rfl U170 rfl (by kernel_rfl) (hM.bat 0 rfl) rfl $ E.pushFM 1 x hM rfl rfl rfl U167 elem_Tref33_Item rfl (by decide) (ec_one x) (by omega) (by omega) (by simp) rfl rfl ?_
 intro v32 u32 w6 hM
 try dsimp only [Za, Zb, Zc, Zd, repl] at hM
 refine Kd rfl $ Kf rfl $ Km rfl $ E.slcFD (k := .i64) (k' := .i64) k l.length rfl (.inl rfl) (.inr ⟨rfl, rfl⟩) (hM.argF0 hr) U167 (by kernel_rfl) hk (Nat.le_refl _) rfl ?_
 intro v36 p36 r36
 rw [cutE] at r36
 have hld : (l.drop k).length = l.length - k := List.length_drop
 refine E.appendFM 1 hM rfl rfl rfl U167 elem_Tref33_Item r36 ec_one (by simp only [List.length_append, List.length_singleton]; omega) (by simp only [List.length_append, List.length_singleton]; omega) rfl ?_
 intro v37 w7 hM
 try dsimp only [Za, Zb, Zc, Zd, repl] at hM
 refine Kc rfl $ C.ret $ ret1 rfl rfl ?_
 exact (hM.pick [1] (by decide)).to (congrArg (fun L => [Rg.slF ec 2 170 _ L]) (by rw [ins, hpk]; simp only [List.append_assoc, List.cons_append, List.nil_append]))
set_option maxHeartbeats 4000000 in
set_option maxRecDepth 4000 in
theorem merged_ret (p q : Value) (xs ys : List Ir) (w : World) (hx : RdF ec 2 w p xs) (hy : RdF ec 2 w q ys) (hP : LP w ys) (hl : xs.length + ys.length ≤ 1000000) (hw : ∀ y ∈ ys, wr y ≤ 2305843009213693952) (hsl : ∀ y ∈ ys, y.2.sy.length ≤ 1099511627776) :
  Ret Tryz.prog 148 #[p, q] w fun v w' => ∃ ps, ps.map Prod.snd = pkg (ys.map Prod.snd) ∧ M w Nn w' [Rg.slF ec 2 170 v (mrg wr xs ps), Rg.lps ps] := by
 have hM := M.start w
 refine enter Tryz.func148 rfl (by kernel_rfl) Tryz.ntmps148 rfl $ Kb $ Kd rfl $ Kd rfl $ Kc rfl $ C.seq $ Kb $ Kc rfl $ C.block $ ?_
 have hM := (hM.nilF ec 2 170).lpsNil
 try dsimp only [Za, Zb, Zc, Zd, repl] at hM
 refine C.loop5 [(0, _), (1, _)] rfl (fun (j : Nat) (i : Nat) (out : (List Ir)) (ps : (List Ir)) (vo : Value) => [(5, vo), (6, i64 i), (7, i64 ((2 * j : Nat) : Int))]) (fun (j : Nat) (i : Nat) (out : (List Ir)) (ps : (List Ir)) (vo : Value) w' => M w (Nn) w' [Rg.slF ec 2 170 vo out, Rg.lps ps] ∧ i ≤ xs.length ∧ 2 * j ≤ ys.length ∧ ps.map Prod.snd = pkg ((ys.map Prod.snd).take (2 * j)) ∧ (∀ fut, mrg wr xs (ps ++ fut) = out ++ mrg wr (xs.drop i) fut) ∧ out.length = i + j) (fun (j : Nat) (i : Nat) (out : (List Ir)) (ps : (List Ir)) (vo : Value) => ys.length - 2 * j) 0 0 [] [] (.slice none 0 0) ?_ ?_ ?_
 · exact Sub.cons rfl $ Sub.cons rfl $ S1 rfl
 · exact ⟨hM, Nat.zero_le _, Nat.zero_le _, rfl, (fun fut => rfl), rfl⟩
 rintro j i out ps vo w0 ⟨hM, hi, hj, hps, hmr, hol⟩
 refine C.seq $ Kb $ Km rfl $ E.addN (b := 1) rfl rfl (by omega) rfl $ Km rfl $ E.lenv rfl (RdF.shape (hM.argF0 hy)) U167 rfl $ Kp rfl $ Ka $ C.cond' rfl (fun hC0 => ?_) (fun hC0 => ?_)
 ·
  have hj0 : 2 * j < ys.length := by omega
  have hj1 : 2 * j + 1 < ys.length := by omega
  have hw0 := hw _ (List.getElem_mem hj0)
  have hw1 := hw _ (List.getElem_mem hj1)
  have hs0 := hsl _ (List.getElem_mem hj0)
  have hs1 := hsl _ (List.getElem_mem hj1)
  have hP0 := hP _ (List.getElem_mem hj0)
  have hP1 := hP _ (List.getElem_mem hj1)
  refine Kk $ C.seq $ C.block $ C.seq $ C.heldE (by kernel_rfl) fun wh1 hwh1 _ => ?_
  have hS := hwh1
  have hM0 := hM
  have hM := M.ofExt hwh1
  refine Kt 0 rfl (by kernel_rfl) hS (fun w' hS => by have hM := hM0.ext hS; exact Y.mv rfl) rfl $ Kt 1 rfl (by kernel_rfl) hS (fun w' hS => by have hM := hM0.ext hS; exact Y.mv rfl) rfl $ Ku 2 rfl (by kernel_rfl) hS (Y.idxF (k := 2 * j) rfl rfl (by exact (hM0.ext hS).argF0 (by assumption)) rfl hj0 (by decide) U167 (by kernel_rfl)) (fun w' hS => by have hM := hM0.ext hS; exact Y.idxF (k := 2 * j) rfl rfl (by exact hM.argF0 (by assumption)) rfl hj0 (by decide) U167 (by kernel_rfl)) rfl $ Ku 3 rfl (by kernel_rfl) hS (Y.fld (o := 0) (sz := 0) rfl U170 rfl rfl (by kernel_rfl)) (fun w' hS => by have hM := hM0.ext hS; exact Y.fld (o := 0) (sz := 0) rfl U170 rfl rfl (by kernel_rfl)) rfl $ Kt 5 rfl (by kernel_rfl) hS (fun w' hS => by have hM := hM0.ext hS; exact Y.mv rfl) rfl $ Kt 6 rfl (by kernel_rfl) hS (fun w' hS => by have hM := hM0.ext hS; exact Y.mv rfl) rfl $ Kt 7 rfl (by kernel_rfl) hS (fun w' hS => by have hM := hM0.ext hS; exact Y.addN (a := 2 * j) (b := 1) rfl rfl (by omega)) rfl $ Ku 8 rfl (by kernel_rfl) hS (Y.idxF (k := 2 * j + 1) rfl rfl (by exact (hM0.ext hS).argF0 (by assumption)) rfl hj1 (by decide) U167 (by kernel_rfl)) (fun w' hS => by have hM := hM0.ext hS; exact Y.idxF (k := 2 * j + 1) rfl rfl (by exact hM.argF0 (by assumption)) rfl hj1 (by decide) U167 (by kernel_rfl)) rfl ?_
  refine Ku 9 rfl (by kernel_rfl) hS (Y.fld (o := 0) (sz := 0) rfl U170 rfl rfl (by kernel_rfl)) (fun w' hS => by have hM := hM0.ext hS; exact Y.fld (o := 0) (sz := 0) rfl U170 rfl rfl (by kernel_rfl)) rfl $ Ku 4 rfl (by kernel_rfl) hS (Y.load rfl U3 rfl (by exact ((hM0.ext hS).argF0 (by assumption)).atA rfl (by omega) rfl)) (fun w' hS => by have hM := hM0.ext hS; exact Y.load rfl U3 rfl (by exact (hM.argF0 (by assumption)).atA rfl (by omega) rfl)) rfl $ Ku 10 rfl (by kernel_rfl) hS (Y.load rfl U3 rfl (by exact ((hM0.ext hS).argF0 (by assumption)).atA rfl (by omega) rfl)) (fun w' hS => by have hM := hM0.ext hS; exact Y.load rfl U3 rfl (by exact (hM.argF0 (by assumption)).atA rfl (by omega) rfl)) rfl $ Ku 11 rfl (by kernel_rfl) hS (Y.addN (a := wr ys[2 * j]) (b := wr ys[2 * j + 1]) rfl rfl (by omega)) (fun w' hS => by have hM := hM0.ext hS; exact Y.addN (a := wr ys[2 * j]) (b := wr ys[2 * j + 1]) rfl rfl (by omega)) rfl $ Kt 12 rfl (by kernel_rfl) hS (fun w' hS => by have hM := hM0.ext hS; exact Y.buildC (cs := [_, _]) [.int .i64 0, .slice none 0 0] [0] rfl rfl (by kernel_rfl)) rfl $ H.only 13 rfl (by kernel_rfl) $ E.allocM (z := .agg #[.int .i64 0, .slice none 0 0]) (cs := [.int .i64 0, .slice none 0 0]) hM (by kernel_rfl) rfl rfl ?_
  intro b8 w2 hM
  try dsimp only [Za, Zb, Zc, Zd, repl] at hM
  have hS := hM.toExt
  refine H.back hS $ H.only 14 rfl (by kernel_rfl) ?_
  first
   | refine E.storeAM 0 hM rfl rfl rfl (by kernel_rfl) rfl ?_ ?_
   | refine E.storeAM 1 hM rfl rfl rfl (by kernel_rfl) rfl ?_ ?_
   | refine E.storeAM 2 hM rfl rfl rfl (by kernel_rfl) rfl ?_ ?_
   | refine E.storeAM 3 hM rfl rfl rfl (by kernel_rfl) rfl ?_ ?_
   | refine E.storeAM 4 hM rfl rfl rfl (by kernel_rfl) rfl ?_ ?_
  · exact ones (by rfl) $ ones (by rfl) $ ones_nil
  intro w3 hM
  try dsimp only [Za, Zb, Zc, Zd, repl] at hM
  have hS := hM.toExt
  refine H.back hS $ H.done (by kernel_rfl) ?_
  have hM := hM0.call hM
  refine X.next $ C.seq $ C.drawnT 7 (by kernel_rfl) (by kernel_rfl) fun wh4 hwh4 => ?_
  have hM := hM.ext hwh4
  refine S.fld (o := 1) (sz := 0) rfl U170 rfl rfl (by kernel_rfl) rfl $ S.load rfl U76 rfl (hM.bcell 2 rfl rfl) rfl $ S.mv rfl rfl $ S.mv rfl rfl $ S.idxF (k := 2 * j) rfl rfl (hM.argF0 hy) rfl hj0 (by decide) U167 (by kernel_rfl) rfl $ S.fld (o := 1) (sz := 0) rfl U170 rfl rfl (by kernel_rfl) rfl $ S.load rfl U76 rfl ((hM.argF0 hy).atA (k := 2 * j) (o := 1) rfl hj0 rfl) rfl $ S.nil ?_
  have hM := hM.nil i64 3
  try dsimp only [Za, Zb, Zc, Zd, repl] at hM
  refine E.appendM 3 hM rfl rfl rfl U76 elem_Tint (hM.arg0 hP0) (fun _ => rfl) (by simp only [nz, List.length_map, List.length_nil]; omega) (by simp only [nz, List.length_map, List.length_nil]; omega) rfl ?_
  intro v36 w5 hM
  try dsimp only [Za, Zb, Zc, Zd, repl] at hM
  refine E.fld (o := 1) (sz := 0) rfl U170 rfl rfl (by kernel_rfl) rfl $ E.storeM 2 hM rfl rfl rfl (by kernel_rfl) (hM.sl 3 rfl).one rfl ?_
  intro w6 hM
  try dsimp only [Za, Zb, Zc, Zd, repl] at hM
  refine Ka $ C.seq $ C.drawnT 8 (by kernel_rfl) (by kernel_rfl) fun wh7 hwh7 => ?_
  have hM := hM.ext hwh7
  refine S.fld (o := 1) (sz := 0) rfl U170 rfl rfl (by kernel_rfl) rfl $ S.load rfl U76 rfl (hM.bcell 2 rfl rfl) rfl $ S.mv rfl rfl $ S.mv rfl rfl $ S.addN (a := 2 * j) (b := 1) rfl rfl (by omega) rfl $ S.idxF (k := 2 * j + 1) rfl rfl (hM.argF0 hy) rfl hj1 (by decide) U167 (by kernel_rfl) rfl $ S.fld (o := 1) (sz := 0) rfl U170 rfl rfl (by kernel_rfl) rfl $ S.load rfl U76 rfl ((hM.argF0 hy).atA (k := 2 * j + 1) (o := 1) rfl hj1 rfl) rfl $ S.nil $ E.appendM 3 hM rfl rfl rfl U76 elem_Tint (hM.arg0 hP1) (fun _ => rfl) (by simp only [nz, List.length_map, List.nil_append]; omega) (by simp only [nz, List.length_map, List.nil_append]; omega) rfl ?_
  intro v46 w8 hM
  try dsimp only [Za, Zb, Zc, Zd, repl] at hM
  refine E.fld (o := 1) (sz := 0) rfl U170 rfl rfl (by kernel_rfl) rfl $ E.storeM 2 hM rfl rfl rfl (by kernel_rfl) (hM.sl 3 rfl).one rfl ?_
  intro w9 hM
  try dsimp only [Za, Zb, Zc, Zd, repl] at hM
  refine Ka $ C.seq $ C.block $ ?_
  obtain ⟨h46, hh⟩ := own_hd (hM.own 3 rfl)
  subst hh
  obtain ⟨pp, hpp⟩ : ∃ pp : Ir, pp = (h46, .node ys[2 * j].2 ys[2 * j + 1].2) := ⟨_, rfl⟩
  have hM := hM.to (show _ = [Rg.slF ec 2 170 vo out, Rg.lps ps, Rg.blk b8 170 (ec pp), Rg.sl i64 3 (slv pp.1) (nz pp.2.sy)] by rw [hpp]; simp only [Tr.sy, nz_app, List.nil_append]; rfl)
  have hM := hM.lpsAdd (x := pp) 1 3 (by decide) rfl rfl
  try dsimp only [Za, Zb, Zc, Zd, repl] at hM
  have hM := hM.pick [0, 1, 2] (by decide)
  try dsimp only [Za, Zb, Zc, Zd, repl] at hM
  try dsimp only [List.filterMap, List.getElem?_cons_zero, List.getElem?_cons_succ] at hM
  refine C.loop3 [(0, _), (1, _), (7, _), (8, _)] rfl (fun (i : Nat) (out : (List Ir)) (vo : Value) => [(5, vo), (6, i64 i)]) (fun (i : Nat) (out : (List Ir)) (vo : Value) w' => M w (Nn) w' [Rg.slF ec 2 170 vo out, Rg.lps (ps ++ [pp]), Rg.blk b8 170 (ec pp)] ∧ i ≤ xs.length ∧ (∀ fut, mrg wr xs (ps ++ pp :: fut) = out ++ mrg wr (xs.drop i) (pp :: fut)) ∧ out.length = i + j) (fun (i : Nat) (out : (List Ir)) (vo : Value) => xs.length - i) i out vo ?_ ?_ ?_
  · exact Sub.cons rfl $ S1 rfl
  · exact ⟨hM, hi, fun fut => hmr _, hol⟩
  rintro i out vo w10 ⟨hM, hi, hmr, hol⟩
  refine C.seq $ C.chainQ [(0, _), (1, _), (5, _), (6, _), (7, _), (8, _)] rfl [(61, .bool (decide (i < xs.length ∧ (xs.map wr).getD i 0 ≤ wr pp)))] ?_ ?_
  ·
   refine C.drawn (by kernel_rfl) (by kernel_rfl) $ Q.mv rfl rfl $ Q.mv rfl rfl $ Q.lenv rfl (RdF.shape (hM.argF0 hx)) U167 rfl $ Q.bin rfl rfl rfl rfl $ Q.mv rfl rfl $ Q.split 52 rfl (fun g52 => ?_) (fun g52 => ?_)
   ·
    try simp only [Ya, Yb, Yc, Yd, Ye, Yf] at g52
    have hi' : i < xs.length := by omega
    have hwg := wgR hi'
    refine Q.on rfl rfl (Q.mv rfl rfl ?_)
    refine Q.on rfl rfl (Q.mv rfl rfl ?_)
    refine Q.on rfl rfl (Q.idxF (k := i) rfl rfl (hM.argF0 hx) rfl hi' (by decide) U167 (by kernel_rfl) rfl ?_)
    refine Q.on rfl rfl (Q.fld (o := 0) (sz := 0) rfl U170 rfl rfl (by kernel_rfl) rfl ?_)
    refine Q.on rfl rfl (Q.load rfl U3 rfl ((hM.argF0 hx).atA (k := i) (o := 0) rfl hi' rfl) rfl ?_)
    refine Q.on rfl rfl (Q.fld (o := 0) (sz := 0) rfl U170 rfl rfl (by kernel_rfl) rfl ?_)
    refine Q.on rfl rfl (Q.load rfl U3 rfl (hM.bcell 2 rfl rfl) rfl ?_)
    refine Q.on rfl rfl (Q.bin rfl rfl rfl rfl ?_)
    refine Q.pick rfl rfl rfl $ Q.nil $ fun w11 hx11 => X.join0 (Sub.cons (by exact leaf_d (by omega)) $ Sub.nil _) rfl hx11
   try simp only [Ya, Yb, Yc, Yd, Ye, Yf] at g52
   refine Q.off rfl rfl rfl rfl $ Q.off rfl rfl rfl rfl $ Q.off rfl rfl rfl rfl $ Q.off rfl rfl rfl rfl $ Q.off rfl rfl rfl rfl $ Q.off rfl rfl rfl rfl $ Q.off rfl rfl rfl rfl $ Q.off rfl rfl rfl rfl $ Q.pick rfl rfl rfl $ Q.nil $ fun w12 hx12 => X.join0 (Sub.cons (by exact leaf_f (by omega)) $ Sub.nil _) rfl hx12
  intro w13 hx13
  have hM := hM.ext hx13
  refine C.cond' rfl (fun hC1 => ?_) (fun hC1 => ?_)
  ·
   have hi' : i < xs.length := hC1.1
   have hle : wr xs[i] ≤ wr pp := by rw [← wgR hi']; exact hC1.2
   refine Kk $ C.block $ Kb $ Kf rfl $ Km rfl $ E.idxF (k := i) rfl rfl (hM.argF0 hx) rfl hi' (by decide) U167 (by kernel_rfl) rfl $ E.loadA (cs := ec xs[i]) rfl U170 rfl (by kernel_rfl) ((hM.argF0 hx).all hi') rfl $ E.pushFM 0 xs[i] hM rfl rfl rfl U167 elem_Tref33_Item rfl (by decide) (ec_one _) (by omega) (by omega) (by simp) rfl rfl ?_
   intro v68 u68 w14 hM
   try dsimp only [Za, Zb, Zc, Zd, repl] at hM
   refine Kc rfl $ C.region $ Km rfl $ E.addN (a := i) (b := 1) rfl rfl (by omega) rfl $ Kn rfl $ E.nil $ X.outN $ X.again3 (i + 1) (out ++ [xs[i]]) v68 (Sub.cons rfl $ S1 rfl) rfl ⟨hM, by omega, fun fut => by rw [hmr, mrg_head hi' hle]; simp, by rw [List.length_append, List.length_singleton]; omega⟩ (by omega)
  refine Kx $ C.region $ Km rfl $ E.loadA (cs := ec pp) rfl U170 rfl (by kernel_rfl) (hM.bat 2 rfl) rfl $ E.pushFM 0 pp hM rfl rfl rfl U167 elem_Tref33_Item rfl (by decide) (ec_one _) (by omega) (by omega) (by simp) rfl rfl ?_
  intro v74 u74 w15 hM
  try dsimp only [Za, Zb, Zc, Zd, repl] at hM
  refine Kn rfl $ E.nil $ X.outN $ X.next $ C.region $ Km rfl $ E.addN (a := 2 * j) (b := 2) rfl rfl (by omega) rfl $ Kn rfl $ E.nil $ X.again5 (j + 1) i (out ++ [pp]) (ps ++ [pp]) v74 (Sub.cons rfl $ Sub.cons rfl $ S1 rfl) rfl ⟨hM.pick [0, 1] (by decide), hi, by omega, by rw [pkg_snoc j (ys.map Prod.snd) (by rw [List.length_map]; omega), List.map_append, hps, hpp, List.getElem_map, List.getElem_map]; rfl, fun fut => by rw [List.append_assoc, List.singleton_append, hmr, mrg_here hi hC1, List.append_assoc, List.singleton_append], by rw [List.length_append, List.length_singleton]; omega⟩ (by omega)
 have hpk : ps.map Prod.snd = pkg (ys.map Prod.snd) := by
  rw [hps]
  rcases Nat.lt_or_ge (2 * j) ys.length with h | h
  · exact pkg_odd _ (by rw [List.length_map]; omega)
  rw [List.take_of_length_le (by rw [List.length_map]; omega)]
 have hfin := hmr []
 rw [List.append_nil, mrg_nil] at hfin
 refine Kx $ Kb $ Kf rfl $ Km rfl $ E.slcFD (k := .i64) (k' := .i64) i xs.length rfl (.inl rfl) (.inr ⟨rfl, rfl⟩) (hM.argF0 hx) U167 (by kernel_rfl) hi (Nat.le_refl _) rfl ?_
 intro v78 p78 r78
 rw [cutE] at r78
 have hld : (xs.drop i).length = xs.length - i := List.length_drop
 refine E.appendFM 0 hM rfl rfl rfl U167 elem_Tref33_Item r78 ec_one (by omega) (by omega) rfl ?_
 intro v79 w16 hM
 try dsimp only [Za, Zb, Zc, Zd, repl] at hM
 refine Kc rfl $ C.ret $ ret1 rfl rfl ?_
 exact ⟨ps, hpk, hM.to (by rw [hfin])⟩
end Go.Proofs.YtajklleiifhipaaGreatDoor
namespace Go.Proofs.YtajklleiifhipaaGreatDoor
open Go.RowKit Sym
theorem lvl_two (S : List Tr) : ∀ k, (lvl S k).length ≤ 2 * S.length
 | 0 => by simp [lvl]; omega
 | k + 1 => by have := lvl_two S k; rw [lvl, mrg_len, pkg_len]; omega
abbrev ts (l : List Tr) : Nat := (l.map fun t => t.sy.length).sum
theorem mrg_ts : ∀ (xs ys : List Tr), ts (mrg Tr.wt xs ys) = ts xs + ts ys
  | [], ys => by rw [mrg]; simp [ts]
  | x :: xs, [] => by rw [mrg_nil]; simp [ts]
  | x :: xs, y :: ys => by
    by_cases h : Tr.wt x ≤ Tr.wt y
    · have := mrg_ts xs (y :: ys)
      rw [mrg_le h]; simp only [ts, List.map_cons, List.sum_cons] at *; omega
    have := mrg_ts (x :: xs) ys
    rw [mrg_gt h]; simp only [ts, List.map_cons, List.sum_cons] at *; omega
termination_by xs ys => xs.length + ys.length
theorem pkg_ts : ∀ l : List Tr, ts (pkg l) ≤ ts l
 | [] => Nat.le_refl _
 | [_] => by simp [pkg, ts]
 | a :: b :: l => by have := pkg_ts l; simp only [pkg, ts, List.map_cons, List.sum_cons, Tr.sy, List.length_append] at *; omega
theorem lvl_ts (S : List Tr) : ∀ k, ts (lvl S k) ≤ (k + 1) * ts S
 | 0 => by simp [lvl]
 | k + 1 => by
  have h1 := lvl_ts S k
  have h2 := pkg_ts (lvl S k)
  rw [lvl, mrg_ts, Nat.succ_mul]; omega
theorem ts_mem {l : List Tr} {t : Tr} (h : t ∈ l) : t.sy.length ≤ ts l := by
 induction l with
 | nil => cases h
 | cons a l ih =>
  rcases List.mem_cons.1 h with rfl | h
  · simp [ts]
  have := ih h; simp only [ts, List.map_cons, List.sum_cons] at *; omega
theorem ts_leaf {l : List Tr} (h : ∀ t ∈ l, ∃ f s, t = Tr.leaf f s) : ts l = l.length := by
 induction l with
 | nil => rfl
 | cons a l ih =>
  obtain ⟨f, s, rfl⟩ := h a (by simp)
  have := ih fun t ht => h t (by simp [ht])
  simp only [ts, List.map_cons, List.sum_cons, Tr.sy, List.length_cons, List.length_nil] at *; omega
theorem bump_one {X : List Int} {sy : List Nat} {q : Nat} (hq : q < sy.length) (hs : sy[q] < (bump X (sy.take q)).length) : (bump X (sy.take q)).set sy[q] ((bump X (sy.take q))[sy[q]] + 1) = bump X (sy.take (q + 1)) := by
 rw [← List.take_append_getElem hq, bump_app]
 show _ = (bump X (sy.take q)).set sy[q] ((bump X (sy.take q)).getD sy[q] 0 + 1)
 rw [List.getD_eq_getElem?_getD, List.getElem?_eq_getElem hs]; rfl
theorem lrdR {w0 w : World} {S : Nat → Prop} {r1 r2 rx : Rg} {v6 v9 : Value} {ys zs : List Ir} (hM : M w0 S w [Rg.slF ec 2 170 v6 ys, r1, r2, rx]) (h : (v9 = v6 ∧ zs = ys) ∨ rx = Rg.slF ec 2 170 v9 zs) : RdF ec 2 w v9 zs := by
 rcases h with ⟨rfl, rfl⟩ | rfl
 · exact hM.slF 0 rfl
 exact hM.slF 3 rfl
theorem lens_eq {S : List Tr} {n m : Nat} : lens S n m = bump (ini S n) (((lvl S (m - 1)).take (2 * S.length - 2)).flatMap Tr.sy) := by
 unfold lens
 by_cases h : S.length < 2
 · rw [if_pos h, show 2 * S.length - 2 = 0 by omega]; rfl
 rw [if_neg h, ini, if_neg (by omega)]
set_option maxHeartbeats 4000000 in
set_option maxRecDepth 4000 in
theorem rLengths_ret (p : Value) (zs : List Int) (most : Int) (w : World) (hr : RdL i64 w p zs) :
    Ret Tryz.prog 109 #[p, i64 most] w fun v w' => ∃ vo, v = .tuple #[vo, i64 (lnv zs most).2] ∧ M w Nn w' [Rg.sl i64 3 vo (lnv zs most).1] := by
  have hM := M.start w
  refine enter Tryz.func109 rfl (by kernel_rfl) Tryz.ntmps109 rfl $ Kb $ Kn rfl $ Kc rfl $ C.seq $ Kb $ Km rfl $ E.lenv rfl (Rd.shape (hM.arg0 hr)) U76 rfl $ Kp rfl $ Ka $ C.cond' rfl (fun hC0 => ?_) (fun hC0 => ?_)
  ·
    have hlv : lnv zs most = ([], 4) := by unfold lnv; rw [if_pos (by omega)]
    refine Kb $ Kn rfl $ Kc rfl $ C.ret $ X.retT $ ret2 rfl rfl rfl ?_
    exact ⟨_, by rw [hlv], by rw [hlv]; exact hM.nil i64 3⟩
  have hl4 : zs.length ≤ 4096 := by omega
  refine Kk $ C.seq $ C.cut0 [(0, _), (1, _)] rfl [(26, .bool (decide (¬ okr zs 1099511627776 = true ∨ most < 1 ∨ 30 < most)))] (fun w' => M w (Nn) w' []) ?_ ?_
  ·
    refine C.region $ Km rfl $ E.call rfl rfl (right_ret p zs 1099511627776 _ (hM.arg0 hr)) ?_
    rintro _ w1 ⟨rfl, x1⟩
    have hM := hM.ext x1
    refine Kp rfl $ Km rfl $ E.split 19 rfl (fun g19 => ?_) (fun g19 => ?_)
    ·
      try simp only [Ya, Yb, Yc, Yd, Ye, Yf] at g19
      have ho : okr zs 1099511627776 = false := by cases h : okr zs 1099511627776; rfl; rw [h] at g19; exact (g19 rfl).elim
      refine Kq rfl $ Kq rfl $ Kr rfl $ Km rfl $ Kq rfl $ Kq rfl $ Kr rfl $ E.nil $ X.join0  (Sub.cons (look_eq rfl (by rw [ho]; simp)) $ Sub.nil _) rfl hM
    try simp only [Ya, Yb, Yc, Yd, Ye, Yf] at g19
    have ho : okr zs 1099511627776 = true := by cases h : okr zs 1099511627776; rw [h] at g19; exact absurd g19 (by decide); rfl
    refine Ko rfl $ Km rfl $ Ko rfl $ Kp rfl $ Kr rfl $ Km rfl $ E.split 23 rfl (fun g23 => ?_) (fun g23 => ?_)
    ·
      try simp only [Ya, Yb, Yc, Yd, Ye, Yf] at g23
      refine Kq rfl $ Kq rfl $ Kr rfl $ E.nil $ X.join0  (Sub.cons (look_eq rfl (by rw [ho]; simp; omega)) $ Sub.nil _) rfl hM
    try simp only [Ya, Yb, Yc, Yd, Ye, Yf] at g23
    refine Ko rfl $ Km rfl $ Ko rfl $ Kp rfl $ Kr rfl $ E.nil $ X.join0  (Sub.cons (look_eq rfl (by rw [ho]; simp; omega)) $ Sub.nil _) rfl hM
  rintro  w1 hM
  refine C.cond' rfl (fun hC1 => ?_) (fun hC1 => ?_)
  ·
    have hlv : lnv zs most = ([], 3) := by
      unfold lnv
      rw [if_neg (by omega)]
      by_cases h : okr zs 1099511627776 = true
      · rw [if_neg (fun c => c h), if_pos (hC1.resolve_left (fun c => c h))]
      rw [if_pos h]
    refine Kb $ Kn rfl $ Kc rfl $ C.ret $ X.retT $ ret2 rfl rfl rfl ?_
    exact ⟨_, by rw [hlv], by rw [hlv]; exact hM.nil i64 3⟩
  have hok : okr zs 1099511627776 = true := Decidable.byContradiction fun h => hC1 (.inl h)
  obtain ⟨mo, rfl⟩ : ∃ mo : Nat, most = (mo : Int) := ⟨most.toNat, by omega⟩
  have hmo : 1 ≤ mo ∧ mo ≤ 30 := by omega
  obtain ⟨hz, hbB⟩ := toN_nz (m := 1099511627776) hok
  have hlz := toN_len zs
  obtain ⟨fs, hfs⟩ : ∃ fs, fs = toN zs := ⟨_, rfl⟩
  have hSg : Sg zs = (isort Tr.wt (sgl fs)) := by rw [hfs]
  rw [← hfs] at hz hbB hlz
  have hr' : RdL i64 w p (nz fs) := by rw [← hz]; exact hr
  have hnl := nz_len fs
  have hSl := sgl_len fs
  have hSi := isort_len Tr.wt (sgl fs)
  refine Kk $ Kb $ Kc rfl $ C.seq $ Kb $ Kc rfl $ C.block $ ?_
  have hM := (hM.nilF ec 2 170).lpsNil
  refine C.loop4 [(0, _), (1, _)] rfl (fun (i : Nat) (ss : (List Ir)) (N : (List Ir)) (v6 : Value) => [(6, v6), (7, i64 i)]) (fun (i : Nat) (ss : (List Ir)) (N : (List Ir)) (v6 : Value) w' => M w (Nn) w' [Rg.slF ec 2 170 v6 ss, Rg.lps N] ∧ i ≤ fs.length ∧ ss.map Prod.snd = isort Tr.wt (sgl (fs.take i)) ∧ (∀ x ∈ ss, x ∈ N) ∧ ss.length ≤ i) (fun (i : Nat) (ss : (List Ir)) (N : (List Ir)) (v6 : Value) => fs.length - i) 0 [] [] (.slice none 0 0) ?_ ?_ ?_
  · exact Sub.cons rfl $ S1 rfl
  · exact ⟨hM, Nat.zero_le _, rfl, (fun x h => h), Nat.le_refl _⟩
  rintro i ss N v6 w2 ⟨hM, hi, hss, hsN, hsl⟩
  refine C.seq $ Kb $ Kf rfl $ E.lenv rfl (Rd.shape (hM.arg0 hr')) U76 rfl ?_
  rw [nz_len]
  refine Kp rfl $ Ka $ C.cond' rfl (fun hC2 => ?_) (fun hC2 => ?_)
  ·
    have hi' : i < fs.length := by omega
    have hsn := sgl_snoc hi'
    refine Kk $ C.cut3 [(0, _), (1, _), (7, _)] rfl (fun (ss : (List Ir)) (N : (List Ir)) (v6 : Value) => [(6, v6)]) (fun (ss : (List Ir)) (N : (List Ir)) (v6 : Value) w' => M w (Nn) w' [Rg.slF ec 2 170 v6 ss, Rg.lps N] ∧ ss.map Prod.snd = isort Tr.wt (sgl (fs.take (i + 1))) ∧ (∀ x ∈ ss, x ∈ N) ∧ ss.length ≤ i + 1) ?_ ?_
    ·
      refine C.block $ Kb $ Kf rfl $ E.get (k := i) rfl rfl (hM.arg0 hr') rfl (by omega) U76 (by kernel_rfl) U3 rfl rfl rfl ?_
      rw [nz_get hi']
      refine Kp rfl $ Ka $ C.cond' rfl (fun hC3 => ?_) (fun hC3 => ?_)
      ·
        refine C.region $ Kf rfl $ Km rfl $ E.get (k := i) rfl rfl (hM.arg0 hr') rfl (by omega) U76 (by kernel_rfl) U3 rfl rfl rfl ?_
        rw [nz_get hi']
        refine Km rfl $ E.mk1M (enc := i64) _ hM rfl U76 elem_Tint rfl rfl ?_
        intro v44 w3 hM
        obtain ⟨h44, hh⟩ := own_hd (hM.own 2 rfl)
        subst hh
        obtain ⟨x, hx⟩ : ∃ x : Ir, x = (h44, Tr.leaf fs[i] i) := ⟨_, rfl⟩
        have hM := hM.lpsAdd (x := x) 1 2 (by decide) rfl (by rw [hx]; rfl)
        refine E.buildC (cs := [_, _]) [.int .i64 0, .slice none 0 0] [0, 1] rfl rfl (by kernel_rfl) rfl $ E.call rfl rfl (insert_ret v6 ss (h44, Tr.leaf fs[i] i) _ (hM.slF 0 rfl) (by omega)) ?_
        rintro v46 w2 m
        have hM := hM.call m
        rw [← hx] at hM
        refine Kn rfl $ E.nil $ X.outN $ X.join3 (ins wr x ss) (N ++ [x]) v46 (S1 rfl) rfl ⟨hM.pick [3, 1] (by decide), by rw [hsn, if_pos (by omega), isort_snoc, ← hss, ins_map wr Tr.wt Prod.snd (fun _ => rfl), hx], fun y hy => ((ins_perm _ _ _).mem_iff.1 hy |> List.mem_cons.1).elim (fun h => by rw [h]; simp) (fun h => List.mem_append_left _ (hsN y h)), by rw [ins_len]; omega⟩
      refine C.skip $ X.outN $ X.join3 ss N v6 (S1 rfl) rfl ⟨hM, by rw [hsn, if_neg (by omega), List.append_nil, hss], hsN, by omega⟩
    rintro ss N v6 w5 ⟨hM, hss, hsN, hsl⟩
    refine C.region $ Km rfl $ E.add rfl rfl (by omega) rfl $ Kn rfl $ E.nil $ X.again4 (i + 1) ss N v6 (Sub.cons rfl $ S1 rfl) rfl ⟨hM, by omega, hss, hsN, hsl⟩ (by omega)
  obtain rfl : i = fs.length := by omega
  rw [List.take_length] at hss
  have hn : (isort Tr.wt (sgl fs)).length = ss.length := by rw [← hss, List.length_map]
  have hgd := sgl_gd hbB
  have hp30 : 2 ^ mo ≤ 2 ^ 30 := Nat.pow_le_pow_right (by decide) hmo.2
  refine Kx $ C.seq $ Kb $ Km rfl $ E.lenv rfl (RdF.shape (hM.slF 0 rfl)) U167 rfl $ Km rfl $ E.conv rfl U3 U64 (IntWalk.u64_in _ (by omega)) rfl $ E.shl rfl rfl (by omega) (shl_nat (a := 1) (k := mo) (c := 2 ^ mo) (by omega) (Nat.one_mul _) (by omega)) rfl $ Kp rfl $ Ka $ C.cond' rfl (fun hC4 => ?_) (fun hC4 => ?_)
  ·
    have hlv := lnv_cap hl4 hok hmo (by rw [hSg, hn]; exact Int.ofNat_lt.1 hC4)
    refine Kb $ Kn rfl $ Kc rfl $ C.ret $ X.retT $ ret2 rfl rfl rfl ?_
    exact ⟨_, by rw [hlv], by rw [hlv]; exact (hM.nil i64 3).pick [2] (by decide)⟩
  have hcap : ¬ 2 ^ mo < ss.length := fun h => hC4 (Int.ofNat_lt.2 h)
  have hlv := lnv_ok hl4 hok hmo (by rw [hSg, hn]; exact hcap)
  rw [hSg, ← hlz] at hlv
  refine Kk $ Kb $ Km rfl $ E.lenv rfl (Rd.shape (hM.arg0 hr')) U76 rfl ?_
  rw [nz_len]
  refine E.makeM (by_ := 8) (enc := i64) 0 hM rfl U76 (by kernel_rfl) rfl (by omega) (by omega) rfl ?_
  intro v55 w6 hM
  refine Kc rfl $ C.cut0 [(1, _), (6, _), (8, _)] rfl [] (fun w' => M w (Nn) w' [Rg.slF ec 2 170 v6 ss, Rg.lps N, Rg.sl i64 3 v55 (ini (isort Tr.wt (sgl fs)) fs.length)]) ?_ ?_
  ·
    refine Kb $ Km rfl $ E.lenv rfl (RdF.shape (hM.slF 0 rfl)) U167 rfl $ Kp rfl $ Ka $ C.cond' rfl (fun hC5 => ?_) (fun hC5 => ?_)
    ·
      obtain ⟨x0, hx0⟩ : ∃ x0, ss = [x0] := by
        match ss, hC5 with
        | [x0], _ => exact ⟨x0, rfl⟩
        | [], h => simp at h
        | _ :: _ :: _, h => simp at h; omega
      subst hx0
      obtain ⟨h0, t0⟩ := x0
      obtain ⟨f0, s0, rfl, hf1, hf2, hs0⟩ := sgl_spec hbB t0 ((isort_mem Tr.wt _ _).1 (by rw [← hss]; simp))
      have hr0 : RdL i64 _ (slv h0) [((s0 : Nat) : Int)] := (hM.lps 1 rfl) (h0, Tr.leaf f0 s0) (hsN _ (by simp))
      refine C.region $ Kf rfl $ E.idxF (k := 0) rfl rfl (hM.slF 0 rfl) rfl (by simp) (by decide) U167 (by kernel_rfl) rfl $ E.fld (o := 1) (sz := 0) rfl U170 rfl rfl (by kernel_rfl) rfl $ E.load rfl U76 rfl ((hM.slF 0 rfl).atA (k := 0) (o := 1) rfl (by simp) rfl) rfl $ E.get (k := 0) rfl rfl hr0 rfl (by simp) U76 (by kernel_rfl) U3 rfl rfl rfl $ E.idx1 (k := s0) rfl rfl (hM.sl 2 rfl) rfl (by simp; exact hs0) U76 (by kernel_rfl) rfl $ E.storeL (j := s0) 2 1 hM rfl rfl rfl (by kernel_rfl) rfl rfl (by simp; exact hs0) ?_
      intro w7 hM
      refine E.nil $ X.join0  (Sub.nil _) rfl (hM.to (by rw [← hss]; exact congrArg (fun L => [_, _, Rg.sl i64 3 v55 L]) (ini_one (b := 0) (f := f0) hs0)))
    refine C.skip $ X.join0  (Sub.nil _) rfl (hM.to (by rw [ini, if_neg (by omega)]; rfl))
  rintro  w8 hM
  refine Kb $ Km rfl $ Kc rfl $ C.seq $ Kb $ Kc rfl $ C.block $ ?_
  have hM := hM.new (Ext.refl _) (r := Rg.emp) trivial (fun _ h => h.elim)
  have hS1 : ∀ t ∈ (isort Tr.wt (sgl fs)), t.wt ≤ 1099511627776 := fun t h => (hgd t h).2
  have hS2 : ∀ t ∈ (isort Tr.wt (sgl fs)), Gd fs.length t := fun t h => (hgd t h).1
  have hts : ts (isort Tr.wt (sgl fs)) ≤ 4096 := by
    rw [ts_leaf (fun t ht => by obtain ⟨f, s, h, _⟩ := sgl_spec hbB t ((isort_mem _ _ _).1 ht); exact ⟨f, s, h⟩)]; omega
  refine C.loop5 [(1, _), (6, _), (8, _)] rfl (fun (k : Nat) (N : (List Ir)) (zs1 : (List Ir)) (v9 : Value) (rx : Rg) => [(9, v9), (10, i64 ((k + 1 : Nat) : Int))]) (fun (k : Nat) (N : (List Ir)) (zs1 : (List Ir)) (v9 : Value) (rx : Rg) w' => M w (Nn) w' [Rg.slF ec 2 170 v6 ss, Rg.lps N, Rg.sl i64 3 v55 (ini (isort Tr.wt (sgl fs)) fs.length), rx] ∧ k ≤ mo - 1 ∧ zs1.map Prod.snd = lvl (isort Tr.wt (sgl fs)) k ∧ (∀ x ∈ ss, x ∈ N) ∧ (∀ x ∈ zs1, x ∈ N) ∧ ((v9 = v6 ∧ zs1 = ss) ∨ rx = Rg.slF ec 2 170 v9 zs1)) (fun (k : Nat) (N : (List Ir)) (zs1 : (List Ir)) (v9 : Value) (rx : Rg) => mo - 1 - k) 0 N ss v6 Rg.emp ?_ ?_ ?_
  · exact Sub.cons rfl $ S1 rfl
  · exact ⟨hM, Nat.zero_le _, hss, hsN, hsN, .inl ⟨rfl, rfl⟩⟩
  rintro k N zs1 v9 rx w9 ⟨hM, hk, hzs, hsN, hzN, hdj⟩
  refine C.seq $ Kb $ Kf rfl $ Kp rfl $ Ka $ C.cond' rfl (fun hC6 => ?_) (fun hC6 => ?_)
  ·
    have hll := lvl_two (isort Tr.wt (sgl fs)) k
    have hzl : zs1.length = (lvl (isort Tr.wt (sgl fs)) k).length := by rw [← hzs, List.length_map]
    have htw := lvl_wt (k := k) hS1 (by omega) (by omega)
    have hlt := lvl_ts (isort Tr.wt (sgl fs)) k
    have hlt2 := Nat.mul_le_mul (show k + 1 ≤ 30 by omega) hts
    have hzm : ∀ x ∈ zs1, x.2 ∈ lvl (isort Tr.wt (sgl fs)) k := fun x hx => by rw [← hzs]; exact List.mem_map_of_mem hx
    have hwz : ∀ x ∈ zs1, wr x ≤ 2305843009213693952 := fun x hx => by
      have := tw_mem (hzm x hx)
      show x.2.wt ≤ _; omega
    have hsz : ∀ x ∈ zs1, x.2.sy.length ≤ 1099511627776 := fun x hx => by
      have := ts_mem (hzm x hx)
      omega
    refine Kk $ C.seq $ C.block $ C.region $ Kf rfl $ E.call rfl rfl (merged_ret v6 v9 ss zs1 _ (hM.slF 0 rfl) (lrdR hM hdj) (fun y hy => (hM.lps 1 rfl) y (hzN y hy)) (by omega) hwz hsz) ?_
    rintro v75 w3 ⟨ps, hps, m⟩
    have hM := hM.call m
    have hM := hM.lpsJoin 1 5 (by decide) rfl rfl
    refine Kn rfl $ E.nil $ X.outN $ X.next $ C.region $ Km rfl $ E.addN (a := k + 1) (b := 1) rfl rfl (by omega) rfl $ Kn rfl $ E.nil $ X.again5 (k + 1) (N ++ ps) (mrg wr ss ps) v75 (Rg.slF ec 2 170 v75 (mrg wr ss ps)) (Sub.cons rfl $ S1 rfl) rfl ⟨hM.pick [0, 1, 2, 4] (by decide), by omega, by rw [mrg_map wr Tr.wt Prod.snd (fun _ => rfl), hss, hps, hzs]; rfl, fun x h => List.mem_append_left _ (hsN x h), fun x h => ((mrg_mem _ _ _ _).1 h).elim (fun h => List.mem_append_left _ (hsN x h)) (fun h => List.mem_append_right _ h), .inr rfl⟩ (by omega)
  obtain rfl : k = mo - 1 := by omega
  have hzl : zs1.length = (lvl (isort Tr.wt (sgl fs)) (mo - 1)).length := by rw [← hzs, List.length_map]
  have htw := lvl_wt (k := mo - 1) hS1 (by omega) (by omega)
  have hini : ∀ z ∈ (ini (isort Tr.wt (sgl fs)) fs.length), 0 ≤ z ∧ z ≤ 1 := fun z hz => by
    unfold ini at hz
    split at hz
    · rename_i h1
      have h2 := bump_bd (m := 1) _ _ (fun y hy => by
        rw [zeros] at hy
        have := List.eq_of_mem_replicate hy
        have h3 : ((isort Tr.wt (sgl fs)).flatMap Tr.sy).length = 1 := by
          have := ts_leaf (l := (isort Tr.wt (sgl fs))) (fun t ht => by obtain ⟨f, s, h, _⟩ := sgl_spec hbB t ((isort_mem _ _ _).1 ht); exact ⟨f, s, h⟩)
          rw [List.length_flatMap]; exact this.trans h1
        rw [h3]; omega) z hz
      exact h2
    rw [zeros] at hz; have := List.eq_of_mem_replicate hz; omega
  refine Kx $ C.seq $ Kb $ Kc rfl $ C.block $ C.loop1 [(6, _), (8, _), (9, _)] rfl (fun (j : Nat) => [(11, i64 j)]) (fun (j : Nat) w' => M w (Nn) w' [Rg.slF ec 2 170 v6 ss, Rg.lps N, Rg.sl i64 3 v55 (bump (ini (isort Tr.wt (sgl fs)) fs.length) (((lvl (isort Tr.wt (sgl fs)) (mo - 1)).take j).flatMap Tr.sy)), rx] ∧ j ≤ 2 * ss.length - 2) (fun (j : Nat) => 2 * ss.length - 2 - j) 0 ?_ ?_ ?_
  · exact S1 rfl
  · exact ⟨hM, Nat.zero_le _⟩
  rintro j w11 ⟨hM, hj⟩
  refine C.seq $ Kb $ Kf rfl $ E.lenv rfl (RdF.shape (hM.slF 0 rfl)) U167 rfl $ E.mul rfl rfl (by omega) rfl $ E.sub' rfl rfl (by omega) rfl $ Kp rfl $ Ka $ C.cond' rfl (fun hC7 => ?_) (fun hC7 => ?_)
  ·
    have hlong := lvl_long (S := (isort Tr.wt (sgl fs))) (m := mo) (by omega) hmo.1 (by rw [hn]; omega)
    have hjz : j < zs1.length := by omega
    have hj' : j < (lvl (isort Tr.wt (sgl fs)) (mo - 1)).length := by omega
    have hel : zs1[j].2 = (lvl (isort Tr.wt (sgl fs)) (mo - 1))[j] := by
      have h1 : (zs1.map Prod.snd)[j]? = (lvl (isort Tr.wt (sgl fs)) (mo - 1))[j]? := by rw [hzs]
      rw [List.getElem?_map, List.getElem?_eq_getElem hjz, List.getElem?_eq_getElem hj'] at h1
      exact Option.some.inj h1
    have hzm := hzN _ (List.getElem_mem hjz)
    have hgj := lvl_gd hS2 _ _ (List.getElem_mem hj')
    rw [← hel] at hgj
    have hg1 := hgj.sy
    have hft := flat_len (l := (lvl (isort Tr.wt (sgl fs)) (mo - 1)).take j) (n := fs.length) (fun t ht => lvl_gd hS2 _ t (List.mem_of_mem_take ht))
    have ht1 := tw_take (lvl (isort Tr.wt (sgl fs)) (mo - 1)) j
    have hw1 := tw_mem (List.getElem_mem hj')
    rw [← hel] at hw1
    have hlB : ∀ A B : List Nat, (bump (bump (ini (isort Tr.wt (sgl fs)) fs.length) A) B).length = fs.length := fun A B => by
      rw [bump_len, bump_len, ini]; split
      · rw [bump_len, zeros, List.length_replicate]
      rw [zeros, List.length_replicate]
    refine Kk $ C.seq $ C.block $ Kb $ Kc rfl $ C.block $ C.loop1 [(6, _), (8, _), (9, _), (11, _)] rfl (fun (q : Nat) => [(12, i64 q)]) (fun (q : Nat) w' => M w (Nn) w' [Rg.slF ec 2 170 v6 ss, Rg.lps N, Rg.sl i64 3 v55 (bump (bump (ini (isort Tr.wt (sgl fs)) fs.length) (((lvl (isort Tr.wt (sgl fs)) (mo - 1)).take j).flatMap Tr.sy)) (zs1[j].2.sy.take q)), rx] ∧ q ≤ zs1[j].2.sy.length) (fun (q : Nat) => zs1[j].2.sy.length - q) 0 ?_ ?_ ?_
    · exact S1 rfl
    · exact ⟨hM, Nat.zero_le _⟩
    rintro q w12 ⟨hM, hq⟩
    refine C.seq $ Kb $ Kf rfl $ Km rfl $ E.idxF (k := j) rfl rfl (lrdR hM hdj) rfl hjz (by decide) U167 (by kernel_rfl) rfl $ E.fld (o := 1) (sz := 0) rfl U170 rfl rfl (by kernel_rfl) rfl $ E.load rfl U76 rfl ((lrdR hM hdj).atA (k := j) (o := 1) rfl hjz rfl) rfl $ E.lenv rfl (Rd.shape ((hM.lps 1 rfl) zs1[j] hzm)) U76 rfl ?_
    rw [nz_len]
    refine Kp rfl $ Ka $ C.cond' rfl (fun hC8 => ?_) (fun hC8 => ?_)
    ·
      have hq' : q < zs1[j].2.sy.length := by omega
      have hsq : zs1[j].2.sy[q] < (bump (bump (ini (isort Tr.wt (sgl fs)) fs.length) (((lvl (isort Tr.wt (sgl fs)) (mo - 1)).take j).flatMap Tr.sy)) (zs1[j].2.sy.take q)).length := by rw [hlB]; exact hg1.1 _ (List.getElem_mem hq')
      have hbd := bump_bd (m := 1000000000000000000) (zs1[j].2.sy.take q) (bump (ini (isort Tr.wt (sgl fs)) fs.length) (((lvl (isort Tr.wt (sgl fs)) (mo - 1)).take j).flatMap Tr.sy)) (fun y hy => by
        have h1 := bump_bd (m := 500000000000000000) _ _ (fun u hu => by have := hini u hu; omega) y hy
        rw [List.length_take]; omega) _ (List.getElem_mem hsq)
      refine Kk $ C.seq $ C.block $ C.drawnT 22 (by kernel_rfl) (by kernel_rfl) fun wh13 hwh13 => ?_
      have hM := hM.ext hwh13
      refine S.mv rfl rfl $ S.mv rfl rfl $ S.mv rfl rfl $ S.idxF (k := j) rfl rfl (lrdR hM hdj) rfl hjz (by decide) U167 (by kernel_rfl) rfl $ S.fld (o := 1) (sz := 0) rfl U170 rfl rfl (by kernel_rfl) rfl $ S.load rfl U76 rfl ((lrdR hM hdj).atA (k := j) (o := 1) rfl hjz rfl) rfl $ S.mv rfl rfl $ S.idx1 (k := q) rfl rfl ((hM.lps 1 rfl) zs1[j] hzm) rfl (by rw [nz_len]; exact hq') U76 (by kernel_rfl) rfl $ S.load rfl U3 rfl (((hM.lps 1 rfl) zs1[j] hzm).cell (by rw [nz_len]; exact hq')) rfl ?_
      rw [nz_get hq']
      refine S.mv rfl rfl $ S.mv rfl rfl $ S.mv rfl rfl $ S.idxF (k := j) rfl rfl (lrdR hM hdj) rfl hjz (by decide) U167 (by kernel_rfl) rfl $ S.fld (o := 1) (sz := 0) rfl U170 rfl rfl (by kernel_rfl) rfl $ S.load rfl U76 rfl ((lrdR hM hdj).atA (k := j) (o := 1) rfl hjz rfl) rfl $ S.mv rfl rfl $ S.idx1 (k := q) rfl rfl ((hM.lps 1 rfl) zs1[j] hzm) rfl (by rw [nz_len]; exact hq') U76 (by kernel_rfl) rfl $ S.load rfl U3 rfl (((hM.lps 1 rfl) zs1[j] hzm).cell (by rw [nz_len]; exact hq')) rfl ?_
      rw [nz_get hq']
      refine S.idx1 (k := zs1[j].2.sy[q]) rfl rfl (hM.sl 2 rfl) rfl hsq U76 (by kernel_rfl) rfl $ S.load rfl U3 rfl ((hM.sl 2 rfl).cell hsq) rfl $ S.add rfl rfl (by omega) rfl $ S.idx1 (k := zs1[j].2.sy[q]) rfl rfl (hM.sl 2 rfl) rfl hsq U76 (by kernel_rfl) rfl $ S.nil $ E.storeL (j := zs1[j].2.sy[q]) 2 ((bump (bump (ini (isort Tr.wt (sgl fs)) fs.length) (((lvl (isort Tr.wt (sgl fs)) (mo - 1)).take j).flatMap Tr.sy)) (zs1[j].2.sy.take q))[zs1[j].2.sy[q]] + 1) hM rfl rfl rfl (by kernel_rfl) rfl rfl hsq ?_
      intro w14 hM
      rw [bump_one hq' hsq] at hM
      refine E.nil $ X.outN $ X.next $ C.region $ Km rfl $ E.add rfl rfl (by omega) rfl $ Kn rfl $ E.nil $ X.again1 (q + 1) (S1 rfl) rfl ⟨hM, by omega⟩ (by omega)
    obtain rfl : q = zs1[j].2.sy.length := by omega
    rw [List.take_length, ← bump_app, hel, ← flat_snoc hj'] at hM
    refine C.exit $ X.exitT $ X.exitT $ X.outE $ X.outN $ X.next $ C.region $ Km rfl $ E.add rfl rfl (by omega) rfl $ Kn rfl $ E.nil $ X.again1 (j + 1) (S1 rfl) rfl ⟨hM, by omega⟩ (by omega)
  obtain rfl : j = 2 * ss.length - 2 := by omega
  refine Kx $ Kb $ Km rfl $ Kn rfl $ Kc rfl $ C.ret $ ret2 rfl rfl rfl ?_
  exact ⟨_, by rw [hlv], by rw [hlv, lens_eq, hn]; exact hM.pick [2] (by decide)⟩
end Go.Proofs.YtajklleiifhipaaGreatDoor
