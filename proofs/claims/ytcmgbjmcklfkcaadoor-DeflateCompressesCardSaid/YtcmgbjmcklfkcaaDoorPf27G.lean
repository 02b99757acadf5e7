/- prefix: the reference's items. -/
import Derived.Test.YtcmgbjmcklfkcaaDoorG24
namespace Go.Proofs.YtcmgbjmcklfkcaaDoor
set_option linter.unusedSimpArgs false
set_option linter.unusedVariables false
open Go.RowKit Sym

theorem elem_Tref33_Item : Elem Tryd.prog 128 2 32 := elem_of (z := .agg #[.int .i64 0, .slice none 0 0]) (by kernel_rfl) rfl (by decide)
namespace Sym
section
variable {P : Program} {ops : Array Oper} {Q : Exit → Act → World → Prop} {s : St} {env : Env} {w0 w : World} {S : Nat → Prop} {rs : List Rg} {rest : List Oper} {d : Nat} {ty : TypeId} {pos : String} {aft : Array Edge}
theorem flat_drop {α : Type} {enc : α → List Value} {sz : Nat} : ∀ (a : Nat) {l : List α}, (∀ x ∈ l, (enc x).length = sz) → (l.flatMap enc).drop (a * sz) = (l.drop a).flatMap enc
  | 0, l, _ => by simp
  | a + 1, [], _ => by simp
  | a + 1, x :: l, h => by
    have h1 := h x (by simp)
    rw [List.flatMap_cons, List.drop_append, List.drop_of_length_le (by rw [h1, Nat.succ_mul]; omega), List.nil_append, h1, show (a + 1) * sz - sz = a * sz by rw [Nat.succ_mul]; omega, List.drop_succ_cons]
    exact flat_drop a fun y hy => h y (by simp [hy])
theorem flat_take {α : Type} {enc : α → List Value} {sz : Nat} : ∀ (a : Nat) {l : List α}, (∀ x ∈ l, (enc x).length = sz) → (l.flatMap enc).take (a * sz) = (l.take a).flatMap enc
  | 0, l, _ => by simp
  | a + 1, [], _ => by simp
  | a + 1, x :: l, h => by
    have h1 := h x (by simp)
    rw [List.flatMap_cons, List.take_append, List.take_of_length_le (by rw [h1, Nat.succ_mul]; omega), h1, show (a + 1) * sz - sz = a * sz by rw [Nat.succ_mul]; omega, List.take_succ_cons, List.flatMap_cons]
    rw [flat_take a fun y hy => h y (by simp [hy])]
theorem RdF.part {α : Type} {enc : α → List Value} {sz a b : Nat} {v v' : Value} {l : List α} (h : RdF enc sz w v l) (p : Part sz v v' a b) (ha : a ≤ b) (hb : b ≤ l.length) : RdF enc sz w v' (cutL a b l) := by
  have h2 := Rd.ofPart h.2 p
  rw [flat_drop a h.1, flat_take (b - a) (fun x hx => h.1 x (List.mem_of_mem_drop hx))] at h2
  refine ⟨fun x hx => h.1 x (List.mem_of_mem_drop (List.mem_of_mem_take hx)), ?_⟩
  rw [cutL_len a b l ha hb]; exact h2
/-- x[lo:hi] of a slice of elements of several cells -/
theorem E.slcF {α : Type} {enc : α → List Value} {sz : Nat} {l : List α} {t e : TypeId} {x : Operand} {lo hi : Option Operand} {v : Value} {k k' : IntKind} (a b : Nat) (hx : ev env x = some v)
    (hlo : lo.map (ev env) = some (some (.int k (a : Int))) ∨ (lo = none ∧ a = 0)) (hhi : hi.map (ev env) = some (some (.int k' (b : Int))) ∨ (hi = none ∧ b = l.length)) (hR : RdF enc sz w v l)
    (ht : P.underlying t = some (.slice e)) (hs : (P.info? e).map (·.size) = some sz) (hl : a ≤ b) (hh : b ≤ l.length) (hd : Nat.blt d s.n = true)
    (hK : ∀ v', Part sz v v' a b → RdF enc sz w v' (cutL a b l) → wpE P ops Q s rest ((d, v') :: env) w) : wpE P ops Q s (⟨some d, .slice t x lo hi none, ty, pos, aft, none⟩ :: rest) env w := by
  have hR0 := hR
  obtain ⟨_, c, cap, hv, hc, _⟩ := hR
  subst hv
  have hp : Part sz (.slice c l.length cap) (.slice (if cap = a then c else c.map (·.add (a * sz))) (b - a) (cap - a)) a b := ⟨c, l.length, cap, rfl, hl, hh, rfl⟩
  refine E.op (fun a' ha => ?_) hd (hK _ hp (hR0.part hp hl hh))
  have h1 : lo.map a'.eval = some (.int k (a : Int)) ∨ (lo.map a'.eval = none ∧ a = 0) := by
    rcases hlo with hlo | ⟨rfl, h0⟩
    · cases lo with
      | none => simp at hlo
      | some y => simp at hlo; left; simp [ha.ev hlo]
    · right; exact ⟨rfl, h0⟩
  have h2 : hi.map a'.eval = some (.int k' (b : Int)) ∨ (hi.map a'.eval = none ∧ b = l.length) := by
    rcases hhi with hhi | ⟨rfl, h0⟩
    · cases hi with
      | none => simp at hhi
      | some y => simp at hhi; left; simp [ha.ev hhi]
    · right; exact ⟨rfl, h0⟩
  have := run_slice (P := P) (w := w) (a := c) ht hs h1 h2 hl hh hc
  simp [execOp, ha.ev hx, this]
theorem own_hd {α : Type} {enc : α → Value} {e : TypeId} {v : Value} {l : List α} (h : OwnL enc w 0 e v l) : ∃ x : Hd, v = slv x := by
  rcases h.2 with ⟨rfl, _⟩ | ⟨g, cap, cur, rfl, _⟩
  · exact ⟨(none, 0, 0), rfl⟩
  · exact ⟨(_, _, _), rfl⟩
end
end Sym
abbrev Ir := Hd × Tr
abbrev wr (x : Ir) : Nat := x.2.wt
abbrev ec (x : Ir) : List Value := [i64 (wr x : Int), slv x.1]
theorem ec_one (a : Ir) : ∀ x ∈ ec a, x.oneCell' = true := fun x hx => by
  rcases List.mem_cons.1 hx with rfl | hx
  · rfl
  · rw [List.mem_singleton] at hx; subst hx; rfl
def LP (w : World) (N : List Ir) : Prop := ∀ x ∈ N, RdL i64 w (slv x.1) (nz x.2.sy)
theorem LP.ext {w w' : World} {N : List Ir} (h : LP w N) (x : Ext w w') : LP w' N := fun y hy => (h y hy).ext x
def Sym.Rg.lps (N : List Ir) : Rg where
  fp k := ∃ x ∈ N, x.2.sy ≠ [] ∧ k = (bs (slv x.1)).1
  ok w := LP w N
  keep {w w'} hk h := fun x hx => by
    have hr := h x hx
    cases e : x.2.sy with
    | nil => rw [e] at hr; exact Rd.nil_other hr
    | cons c l => rw [e] at hr; exact (Rg.rd 1 (slv x.1) (nz (c :: l)).length ((nz (c :: l)).map i64)).keep (fun k hfp => hk k ⟨x, hx, by rw [e]; simp, hfp.2⟩) hr
  live {w} h k hk := by
    obtain ⟨x, hx, hne, rfl⟩ := hk
    exact (h x hx).lt (by cases e : x.2.sy with | nil => exact (hne e).elim | cons _ _ => simp [nz])
theorem Sym.M.lps {w0 w : World} {S : Nat → Prop} {rs : List Rg} {N : List Ir} (h : M w0 S w rs) (i : Nat) (hi : rs[i]? = some (Rg.lps N)) : LP w N := h.ok hi
theorem Sym.M.lpsNil {w0 w : World} {S : Nat → Prop} {rs : List Rg} (h : M w0 S w rs) : M w0 S w (rs ++ [Rg.lps []]) := h.new (Ext.refl w) (r := Rg.lps []) (fun x hx => by cases hx) (fun k ⟨t, ht, _⟩ => by cases ht)
theorem Sym.M.lpsAdd {w0 w : World} {S : Nat → Prop} {rs : List Rg} {N : List Ir} {x : Ir} {e : TypeId} (h : M w0 S w rs) (i j : Nat) (hne : i ≠ j) (hi : rs[i]? = some (Rg.lps N)) (hj : rs[j]? = some (Rg.sl i64 e (slv x.1) (nz x.2.sy))) : M w0 S w ((rs.set j Rg.emp).set i (Rg.lps (N ++ [x]))) :=
  h.join i j hne hi hj (p := Rg.lps (N ++ [x])) (fun y hy => by
    rcases List.mem_append.1 hy with hy | hy
    · exact h.lps i hi y hy
    · rw [List.mem_singleton] at hy; subst hy; exact h.sl j hj) fun k ⟨y, hy, hn, hk⟩ => by
    rcases List.mem_append.1 hy with hy | hy
    · exact .inl ⟨y, hy, hn, hk⟩
    · rw [List.mem_singleton] at hy; subst hy
      right
      rcases (h.own j hj).2 with ⟨_, h3⟩ | ⟨g, cap, cur, hv, _⟩
      · exact (hn (List.length_eq_zero_iff.1 (by simpa [nz] using h3))).elim
      · show (slv y.1).ownBlock = some k
        rw [hk, hv]; rfl
theorem Sym.M.lpsJoin {w0 w : World} {S : Nat → Prop} {rs : List Rg} {N N' : List Ir} (h : M w0 S w rs) (i j : Nat) (hne : i ≠ j) (hi : rs[i]? = some (Rg.lps N)) (hj : rs[j]? = some (Rg.lps N')) : M w0 S w ((rs.set j Rg.emp).set i (Rg.lps (N ++ N'))) :=
  h.join i j hne hi hj (p := Rg.lps (N ++ N')) (fun x hx => by
    rcases List.mem_append.1 hx with hx | hx
    · exact h.lps i hi x hx
    · exact h.lps j hj x hx) fun k ⟨y, hy, hn, hk⟩ => by
    rcases List.mem_append.1 hy with hx | hx
    · exact .inl ⟨y, hx, hn, hk⟩
    · exact .inr ⟨y, hx, hn, hk⟩
theorem wgR {S : List Ir} {m : Nat} (h : m < S.length) : (S.map wr).getD m 0 = wr S[m] := by rw [List.getD_eq_getElem?_getD, List.getElem?_map, List.getElem?_eq_getElem h]; rfl
theorem pkg_odd : ∀ {k : Nat} (l : List Tr), l.length = 2 * k + 1 → pkg (l.take (2 * k)) = pkg l
  | 0, [_], _ => rfl
  | 0, [], h => by simp at h
  | 0, _ :: _ :: _, h => by simp at h
  | k + 1, [], h => by simp at h
  | k + 1, [_], h => by simp at h
  | k + 1, a :: b :: l, h => by
    have := pkg_odd (k := k) l (by simp at h; omega)
    rw [show 2 * (k + 1) = 2 * k + 1 + 1 by omega, List.take_succ_cons, List.take_succ_cons, pkg, pkg, this]
theorem cut0 {α : Type} (k : Nat) (l : List α) : cutL 0 k l = l.take k := by simp [cutL]
theorem cutE {α : Type} (k : Nat) (l : List α) : cutL k l.length l = l.drop k := by unfold cutL; rw [List.take_of_length_le (by rw [List.length_drop]; omega)]
theorem nz_app (a b : List Nat) : nz (a ++ b) = nz a ++ nz b := List.map_append
theorem mrg_head {g : Ir → Nat} {xs : List Ir} {i : Nat} {p : Ir} {fut : List Ir} (h : i < xs.length) (hw : g xs[i] ≤ g p) : mrg g (xs.drop i) (p :: fut) = xs[i] :: mrg g (xs.drop (i + 1)) (p :: fut) := by
  rw [List.drop_eq_getElem_cons h, mrg_le hw]
theorem mrg_here {xs : List Ir} {i : Nat} {p : Ir} {fut : List Ir} (hi : i ≤ xs.length) (hw : ¬ (i < xs.length ∧ (xs.map wr).getD i 0 ≤ wr p)) : mrg wr (xs.drop i) (p :: fut) = p :: mrg wr (xs.drop i) fut := by
  by_cases h : i < xs.length
  · rw [List.drop_eq_getElem_cons h, mrg_gt (fun c => hw ⟨h, by rw [wgR h]; exact c⟩)]
  · rw [List.drop_of_length_le (by omega), mrg, mrg]
set_option maxHeartbeats 1000000 in
theorem insert_ret (p : Value) (l : List Ir) (x : Ir) (w : World) (hr : RdF ec 2 w p l) (hl : l.length ≤ 1000000) :
    Ret Tryd.prog 86 #[p, .agg #[i64 (wr x : Int), slv x.1]] w fun v w' => M w Nn w' [Rg.slF ec 2 128 v (ins wr x l)] := by
  have hM := M.start w
  refine enter Tryd.func86 rfl (by kernel_rfl) Tryd.ntmps86 rfl ?_
  refine C.seq <| C.region <| ?_
  refine E.boxM hM rfl rfl rfl ?_
  intro b3 w0 hM
  try dsimp only [List.nil_append, List.cons_append, List.set_cons_zero, List.set_cons_succ, repl] at hM
  refine E.asg rfl rfl <| E.nil <| X.next <| C.seq <| C.region <| E.mv rfl rfl <| ?_
  refine E.lenv rfl (RdF.shape (hM.argF0 hr)) Tryd.underlying125 rfl ?_
  refine E.asg rfl rfl <| E.nil <| X.next <| C.seq <| C.block <| ?_

  refine C.loop1 [(0, _), (3, _)] rfl (fun (k : Nat) => [(5, i64 k)]) (fun (k : Nat) w' => M w (Nn) w' [Rg.blk b3 128 (ec x)] ∧ k ≤ l.length ∧ pos (wr x) (l.map wr) l.length = pos (wr x) (l.map wr) k) (fun (k : Nat) => k) l.length ?_ ?_ ?_
  · exact Sub.cons rfl <| Sub.nil _
  · exact ⟨hM, Nat.le_refl _, rfl⟩
  rintro k w1 ⟨hM, hk, hp⟩
  refine C.seq <| ?_

  refine C.chainQ [(0, _), (3, _), (5, _)] rfl [(21, .bool (decide (0 < k ∧ wr x < (l.map wr).getD (k - 1) 0)))] ?_ ?_
  ·
    refine C.drawn (by kernel_rfl) (by kernel_rfl) <| Q.mv rfl rfl <| Q.bin rfl rfl rfl rfl <| Q.mv rfl rfl <| ?_
    refine Q.split 11 rfl (fun g11 => ?_) (fun g11 => ?_)
    ·
      try simp only [decide_eq_true_eq, decide_eq_false_iff_not, ne_eq, Decidable.not_not, Bool.not_eq_true', Bool.not_eq_false'] at g11
      have hk0 : k - 1 < l.length := by omega
      have hwg := wgR hk0
      refine Q.on rfl rfl (Q.mv rfl rfl ?_)
      refine Q.on rfl rfl (Q.mv rfl rfl ?_)
      refine Q.on rfl rfl (Q.subN (b := 1) rfl rfl (by omega) rfl ?_)
      refine Q.on rfl rfl (Q.idxF (k := k - 1) rfl rfl (hM.argF0 hr) rfl hk0 (by decide) Tryd.underlying125 (by kernel_rfl) rfl ?_)
      refine Q.on rfl rfl (Q.fld (o := 0) (sz := 0) rfl Tryd.underlying128 rfl rfl (by kernel_rfl) rfl ?_)
      refine Q.on rfl rfl (Q.load rfl Tryd.underlying3 rfl ((hM.argF0 hr).atA (k := k - 1) (o := 0) rfl hk0 rfl) rfl ?_)
      refine Q.on rfl rfl (Q.fld (o := 0) (sz := 0) rfl Tryd.underlying128 rfl rfl (by kernel_rfl) rfl ?_)
      refine Q.on rfl rfl (Q.load rfl Tryd.underlying3 rfl (hM.bcell 0 rfl rfl) rfl ?_)
      refine Q.on rfl rfl (Q.bin rfl rfl rfl rfl ?_)
      refine Q.pick rfl rfl rfl <| Q.nil <| fun w2 hx2 => ?_
      refine X.join0 (Sub.cons (by (first | exact leaf_f (by omega) | exact leaf_t (by omega) | exact leaf_d (by omega) | exact leaf_f (by first | (simp [*] <;> fail) | omega) | exact leaf_t (by first | (simp [*] <;> fail) | omega) | exact leaf_d (by first | (simp [*] <;> fail) | omega) | exact leaf_f (by (first | omega | ((try simp only [decide_eq_true_eq, decide_eq_false_iff_not, Bool.not_eq_true', Bool.not_eq_false'] at *); first | omega | (simp_all <;> fail) | (simp_all; omega)))) | exact leaf_t (by (first | omega | ((try simp only [decide_eq_true_eq, decide_eq_false_iff_not, Bool.not_eq_true', Bool.not_eq_false'] at *); first | omega | (simp_all <;> fail) | (simp_all; omega)))) | exact leaf_d (by (first | omega | ((try simp only [decide_eq_true_eq, decide_eq_false_iff_not, Bool.not_eq_true', Bool.not_eq_false'] at *); first | omega | (simp_all <;> fail) | (simp_all; omega)))))) <| Sub.nil _) rfl hx2
    ·
      try simp only [decide_eq_true_eq, decide_eq_false_iff_not, ne_eq, Decidable.not_not, Bool.not_eq_true', Bool.not_eq_false'] at g11
      refine Q.off rfl rfl rfl rfl <| Q.off rfl rfl rfl rfl <| Q.off rfl rfl rfl rfl <| Q.off rfl rfl rfl rfl <| Q.off rfl rfl rfl rfl <| Q.off rfl rfl rfl rfl <| Q.off rfl rfl rfl rfl <| Q.off rfl rfl rfl rfl <| Q.off rfl rfl rfl rfl <| Q.pick rfl rfl rfl <| Q.nil <| fun w3 hx3 => ?_
      refine X.join0 (Sub.cons (by (first | exact leaf_f (by omega) | exact leaf_t (by omega) | exact leaf_d (by omega) | exact leaf_f (by first | (simp [*] <;> fail) | omega) | exact leaf_t (by first | (simp [*] <;> fail) | omega) | exact leaf_d (by first | (simp [*] <;> fail) | omega) | exact leaf_f (by (first | omega | ((try simp only [decide_eq_true_eq, decide_eq_false_iff_not, Bool.not_eq_true', Bool.not_eq_false'] at *); first | omega | (simp_all <;> fail) | (simp_all; omega)))) | exact leaf_t (by (first | omega | ((try simp only [decide_eq_true_eq, decide_eq_false_iff_not, Bool.not_eq_true', Bool.not_eq_false'] at *); first | omega | (simp_all <;> fail) | (simp_all; omega)))) | exact leaf_d (by (first | omega | ((try simp only [decide_eq_true_eq, decide_eq_false_iff_not, Bool.not_eq_true', Bool.not_eq_false'] at *); first | omega | (simp_all <;> fail) | (simp_all; omega)))))) <| Sub.nil _) rfl hx3
  intro w4 hx4
  have hM := hM.ext hx4
  refine C.cond' rfl (fun hC0 => ?_) (fun hC0 => ?_)
  ·
    obtain ⟨k, rfl⟩ : ∃ k', k = k' + 1 := ⟨k - 1, by omega⟩
    rw [Nat.add_sub_cancel] at hC0
    refine C.skip <| X.next <| C.block <| C.region <| E.mv rfl rfl <| ?_
    refine E.subN (b := 1) rfl rfl (by omega) rfl ?_

    refine E.asg rfl rfl <| E.nil <| X.outN <| X.again1 k (Sub.cons rfl <| Sub.nil _) rfl ⟨hM, by omega, by rw [hp, pos, if_pos hC0.2]⟩ (by omega)
  ·
    have hpk : pos (wr x) (l.map wr) l.length = k := by
      rw [hp]
      cases k with
      | zero => rfl
      | succ k => rw [pos, if_neg (show ¬ wr x < (l.map wr).getD k 0 from fun h => hC0 ⟨by omega, h⟩)]
    have hM := hM.nilF ec 2 128
    refine C.exit <| X.exitT <| X.exitT <| X.outE <| X.next <| C.seq <| C.region <| E.asg rfl rfl <| E.nil <| X.next <| C.seq <| C.region <| E.mv rfl rfl <| E.mv rfl rfl <| E.mv rfl rfl <| ?_
    refine E.slcF (k := .i64) (k' := .i64) 0 k rfl (.inr ⟨rfl, rfl⟩) (.inl rfl) (hM.argF0 hr) Tryd.underlying125 (by kernel_rfl) (Nat.zero_le _) hk rfl ?_
    intro v27 p27 r27
    rw [cut0] at r27
    refine E.appendFM 1 hM rfl rfl rfl Tryd.underlying125 elem_Tref33_Item r27 ec_one (by rw [List.length_take, List.length_nil]; omega) (by rw [List.length_take, List.length_nil]; omega) rfl ?_
    intro v28 w5 hM
    try dsimp only [List.nil_append, List.cons_append, List.set_cons_zero, List.set_cons_succ, repl] at hM
    have hlt : (l.take k).length = k := by rw [List.length_take]; omega
    refine E.asg rfl rfl <| E.nil <| X.next <| C.seq <| C.region <| E.mv rfl rfl <| ?_
    refine E.loadA (cs := ec x) rfl Tryd.underlying128 rfl (by kernel_rfl) (hM.bat 0 rfl) rfl ?_
    refine E.pushFM 1 x hM rfl rfl rfl Tryd.underlying125 elem_Tref33_Item rfl (by decide) (ec_one x) (by omega) (by omega) (by simp) rfl rfl ?_
    intro v32 u32 w6 hM
    try dsimp only [List.nil_append, List.cons_append, List.set_cons_zero, List.set_cons_succ, repl] at hM
    refine E.asg rfl rfl <| E.nil <| X.next <| C.seq <| C.region <| E.mv rfl rfl <| E.mv rfl rfl <| E.mv rfl rfl <| ?_
    refine E.slcF (k := .i64) (k' := .i64) k l.length rfl (.inl rfl) (.inr ⟨rfl, rfl⟩) (hM.argF0 hr) Tryd.underlying125 (by kernel_rfl) hk (Nat.le_refl _) rfl ?_
    intro v36 p36 r36
    rw [cutE] at r36
    have hld : (l.drop k).length = l.length - k := List.length_drop
    refine E.appendFM 1 hM rfl rfl rfl Tryd.underlying125 elem_Tref33_Item r36 ec_one (by simp only [List.length_append, List.length_singleton]; omega) (by simp only [List.length_append, List.length_singleton]; omega) rfl ?_
    intro v37 w7 hM
    try dsimp only [List.nil_append, List.cons_append, List.set_cons_zero, List.set_cons_succ, repl] at hM
    refine E.asg rfl rfl <| E.nil <| X.next <| C.ret <| ret1 rfl rfl ?_
    exact (hM.pick [1] (by decide)).to (congrArg (fun L => [Rg.slF ec 2 128 _ L]) (by rw [ins, hpk]; simp only [List.append_assoc, List.cons_append, List.nil_append]))

set_option maxHeartbeats 4000000 in
set_option maxRecDepth 4000 in
theorem merged_ret (p q : Value) (xs ys : List Ir) (w : World) (hx : RdF ec 2 w p xs) (hy : RdF ec 2 w q ys) (hP : LP w ys) (hl : xs.length + ys.length ≤ 1000000) (hw : ∀ y ∈ ys, wr y ≤ 2305843009213693952) (hsl : ∀ y ∈ ys, y.2.sy.length ≤ 1099511627776) :
    Ret Tryd.prog 87 #[p, q] w fun v w' => ∃ ps, ps.map Prod.snd = pkg (ys.map Prod.snd) ∧ M w Nn w' [Rg.slF ec 2 128 v (mrg wr xs ps), Rg.lps ps] := by
  have hM := M.start w
  refine enter Tryd.func87 rfl (by kernel_rfl) Tryd.ntmps87 rfl ?_
  refine C.seq <| C.region <| E.asg rfl rfl <| E.nil <| X.next <| C.seq <| C.region <| E.asg rfl rfl <| E.nil <| X.next <| C.seq <| C.region <| E.asg rfl rfl <| E.nil <| X.next <| C.seq <| C.seq <| C.region <| E.asg rfl rfl <| E.nil <| X.next <| C.block <| ?_
  have hM := (hM.nilF ec 2 128).lpsNil
  try dsimp only [List.nil_append, List.cons_append, List.set_cons_zero, List.set_cons_succ, repl] at hM

  refine C.loop5 [(0, _), (1, _)] rfl (fun (j : Nat) (i : Nat) (out : (List Ir)) (ps : (List Ir)) (vo : Value) => [(5, vo), (6, i64 i), (7, i64 ((2 * j : Nat) : Int))]) (fun (j : Nat) (i : Nat) (out : (List Ir)) (ps : (List Ir)) (vo : Value) w' => M w (Nn) w' [Rg.slF ec 2 128 vo out, Rg.lps ps] ∧ i ≤ xs.length ∧ 2 * j ≤ ys.length ∧ ps.map Prod.snd = pkg ((ys.map Prod.snd).take (2 * j)) ∧ (∀ fut, mrg wr xs (ps ++ fut) = out ++ mrg wr (xs.drop i) fut) ∧ out.length = i + j) (fun (j : Nat) (i : Nat) (out : (List Ir)) (ps : (List Ir)) (vo : Value) => ys.length - 2 * j) 0 0 [] [] (.slice none 0 0) ?_ ?_ ?_
  · exact Sub.cons rfl <| Sub.cons rfl <| Sub.cons rfl <| Sub.nil _
  · exact ⟨hM, Nat.zero_le _, Nat.zero_le _, rfl, (fun fut => rfl), rfl⟩
  rintro j i out ps vo w0 ⟨hM, hi, hj, hps, hmr, hol⟩
  refine C.seq <| C.seq <| C.region <| E.mv rfl rfl <| ?_
  refine E.addN (b := 1) rfl rfl (by omega) rfl ?_
  refine E.mv rfl rfl <| ?_
  refine E.lenv rfl (RdF.shape (hM.argF0 hy)) Tryd.underlying125 rfl ?_
  refine E.bin rfl rfl rfl rfl <| E.nil <| X.next <| ?_
  refine C.cond' rfl (fun hC0 => ?_) (fun hC0 => ?_)
  ·
    have hj0 : 2 * j < ys.length := by omega
    have hj1 : 2 * j + 1 < ys.length := by omega
    have hw0 := hw _ (List.getElem_mem hj0)
    have hw1 := hw _ (List.getElem_mem hj1)
    have hs0 := hsl _ (List.getElem_mem hj0)
    have hs1 := hsl _ (List.getElem_mem hj1)
    have hP0 := hP _ (List.getElem_mem hj0)
    have hP1 := hP _ (List.getElem_mem hj1)
    refine C.skip <| X.next <| C.seq <| C.block <| C.seq <| C.heldE (by kernel_rfl) fun wh1 hwh1 _ => ?_
    have hS := hwh1
    have hM0 := hM
    have hM := M.ofExt hwh1
    refine H.take 0 rfl rfl (by kernel_rfl) (by kernel_rfl) (by kernel_rfl) hS (fun w' hS => by have hM := hM0.ext hS; exact Y.mv rfl) rfl ?_
    refine H.take 1 rfl rfl (by kernel_rfl) (by kernel_rfl) (by kernel_rfl) hS (fun w' hS => by have hM := hM0.ext hS; exact Y.mv rfl) rfl ?_
    refine H.takeV 2 rfl rfl (by kernel_rfl) (by kernel_rfl) (by kernel_rfl) hS (Y.idxF (k := 2 * j) rfl rfl (by first | exact (hM0.ext hS).slF 0 rfl | exact (hM0.ext hS).slF 1 rfl | exact (hM0.ext hS).slF 2 rfl | exact (hM0.ext hS).slF 3 rfl | exact (hM0.ext hS).slF 4 rfl | exact (hM0.ext hS).argF0 (by assumption) | exact (hM0.ext hS).argF (by assumption) (by assumption) | assumption) rfl hj0 (by decide) Tryd.underlying125 (by kernel_rfl)) (fun w' hS => by have hM := hM0.ext hS; exact Y.idxF (k := 2 * j) rfl rfl (by first | exact hM.slF 0 rfl | exact hM.slF 1 rfl | exact hM.slF 2 rfl | exact hM.slF 3 rfl | exact hM.slF 4 rfl | exact hM.argF0 (by assumption) | exact hM.argF (by assumption) (by assumption) | assumption) rfl hj0 (by decide) Tryd.underlying125 (by kernel_rfl)) rfl ?_
    refine H.takeV 3 rfl rfl (by kernel_rfl) (by kernel_rfl) (by kernel_rfl) hS (Y.fld (o := 0) (sz := 0) rfl Tryd.underlying128 rfl rfl (by kernel_rfl)) (fun w' hS => by have hM := hM0.ext hS; exact Y.fld (o := 0) (sz := 0) rfl Tryd.underlying128 rfl rfl (by kernel_rfl)) rfl ?_
    refine H.take 5 rfl rfl (by kernel_rfl) (by kernel_rfl) (by kernel_rfl) hS (fun w' hS => by have hM := hM0.ext hS; exact Y.mv rfl) rfl ?_
    refine H.take 6 rfl rfl (by kernel_rfl) (by kernel_rfl) (by kernel_rfl) hS (fun w' hS => by have hM := hM0.ext hS; exact Y.mv rfl) rfl ?_
    refine H.take 7 rfl rfl (by kernel_rfl) (by kernel_rfl) (by kernel_rfl) hS (fun w' hS => by have hM := hM0.ext hS; exact Y.addN (a := 2 * j) (b := 1) rfl rfl (by omega)) rfl ?_
    refine H.takeV 8 rfl rfl (by kernel_rfl) (by kernel_rfl) (by kernel_rfl) hS (Y.idxF (k := 2 * j + 1) rfl rfl (by first | exact (hM0.ext hS).slF 0 rfl | exact (hM0.ext hS).slF 1 rfl | exact (hM0.ext hS).slF 2 rfl | exact (hM0.ext hS).slF 3 rfl | exact (hM0.ext hS).slF 4 rfl | exact (hM0.ext hS).argF0 (by assumption) | exact (hM0.ext hS).argF (by assumption) (by assumption) | assumption) rfl hj1 (by decide) Tryd.underlying125 (by kernel_rfl)) (fun w' hS => by have hM := hM0.ext hS; exact Y.idxF (k := 2 * j + 1) rfl rfl (by first | exact hM.slF 0 rfl | exact hM.slF 1 rfl | exact hM.slF 2 rfl | exact hM.slF 3 rfl | exact hM.slF 4 rfl | exact hM.argF0 (by assumption) | exact hM.argF (by assumption) (by assumption) | assumption) rfl hj1 (by decide) Tryd.underlying125 (by kernel_rfl)) rfl ?_
    refine H.takeV 9 rfl rfl (by kernel_rfl) (by kernel_rfl) (by kernel_rfl) hS (Y.fld (o := 0) (sz := 0) rfl Tryd.underlying128 rfl rfl (by kernel_rfl)) (fun w' hS => by have hM := hM0.ext hS; exact Y.fld (o := 0) (sz := 0) rfl Tryd.underlying128 rfl rfl (by kernel_rfl)) rfl ?_
    refine H.takeV 4 rfl rfl (by kernel_rfl) (by kernel_rfl) (by kernel_rfl) hS (Y.load rfl Tryd.underlying3 rfl (by first | exact ((hM0.ext hS).slF 0 rfl).atA rfl (by first | omega | (simp only [List.length_replicate, List.length_append, List.length_set, List.length_cons, List.length_nil, List.length_map, List.length_range, List.length_take, List.length_drop, List.length_zipWith] at *; omega)) rfl | exact ((hM0.ext hS).slF 1 rfl).atA rfl (by first | omega | (simp only [List.length_replicate, List.length_append, List.length_set, List.length_cons, List.length_nil, List.length_map, List.length_range, List.length_take, List.length_drop, List.length_zipWith] at *; omega)) rfl | exact ((hM0.ext hS).slF 2 rfl).atA rfl (by first | omega | (simp only [List.length_replicate, List.length_append, List.length_set, List.length_cons, List.length_nil, List.length_map, List.length_range, List.length_take, List.length_drop, List.length_zipWith] at *; omega)) rfl | exact ((hM0.ext hS).slF 3 rfl).atA rfl (by first | omega | (simp only [List.length_replicate, List.length_append, List.length_set, List.length_cons, List.length_nil, List.length_map, List.length_range, List.length_take, List.length_drop, List.length_zipWith] at *; omega)) rfl | exact ((hM0.ext hS).slF 4 rfl).atA rfl (by first | omega | (simp only [List.length_replicate, List.length_append, List.length_set, List.length_cons, List.length_nil, List.length_map, List.length_range, List.length_take, List.length_drop, List.length_zipWith] at *; omega)) rfl | exact ((hM0.ext hS).argF0 (by assumption)).atA rfl (by first | omega | (simp only [List.length_replicate, List.length_append, List.length_set, List.length_cons, List.length_nil, List.length_map, List.length_range, List.length_take, List.length_drop, List.length_zipWith] at *; omega)) rfl | exact ((hM0.ext hS).argF (by assumption) (by assumption)).atA rfl (by first | omega | (simp only [List.length_replicate, List.length_append, List.length_set, List.length_cons, List.length_nil, List.length_map, List.length_range, List.length_take, List.length_drop, List.length_zipWith] at *; omega)) rfl)) (fun w' hS => by have hM := hM0.ext hS; exact Y.load rfl Tryd.underlying3 rfl (by first | exact (hM.slF 0 rfl).atA rfl (by first | omega | (simp only [List.length_replicate, List.length_append, List.length_set, List.length_cons, List.length_nil, List.length_map, List.length_range, List.length_take, List.length_drop, List.length_zipWith] at *; omega)) rfl | exact (hM.slF 1 rfl).atA rfl (by first | omega | (simp only [List.length_replicate, List.length_append, List.length_set, List.length_cons, List.length_nil, List.length_map, List.length_range, List.length_take, List.length_drop, List.length_zipWith] at *; omega)) rfl | exact (hM.slF 2 rfl).atA rfl (by first | omega | (simp only [List.length_replicate, List.length_append, List.length_set, List.length_cons, List.length_nil, List.length_map, List.length_range, List.length_take, List.length_drop, List.length_zipWith] at *; omega)) rfl | exact (hM.slF 3 rfl).atA rfl (by first | omega | (simp only [List.length_replicate, List.length_append, List.length_set, List.length_cons, List.length_nil, List.length_map, List.length_range, List.length_take, List.length_drop, List.length_zipWith] at *; omega)) rfl | exact (hM.slF 4 rfl).atA rfl (by first | omega | (simp only [List.length_replicate, List.length_append, List.length_set, List.length_cons, List.length_nil, List.length_map, List.length_range, List.length_take, List.length_drop, List.length_zipWith] at *; omega)) rfl | exact (hM.argF0 (by assumption)).atA rfl (by first | omega | (simp only [List.length_replicate, List.length_append, List.length_set, List.length_cons, List.length_nil, List.length_map, List.length_range, List.length_take, List.length_drop, List.length_zipWith] at *; omega)) rfl | exact (hM.argF (by assumption) (by assumption)).atA rfl (by first | omega | (simp only [List.length_replicate, List.length_append, List.length_set, List.length_cons, List.length_nil, List.length_map, List.length_range, List.length_take, List.length_drop, List.length_zipWith] at *; omega)) rfl)) rfl ?_
    refine H.takeV 10 rfl rfl (by kernel_rfl) (by kernel_rfl) (by kernel_rfl) hS (Y.load rfl Tryd.underlying3 rfl (by first | exact ((hM0.ext hS).slF 0 rfl).atA rfl (by first | omega | (simp only [List.length_replicate, List.length_append, List.length_set, List.length_cons, List.length_nil, List.length_map, List.length_range, List.length_take, List.length_drop, List.length_zipWith] at *; omega)) rfl | exact ((hM0.ext hS).slF 1 rfl).atA rfl (by first | omega | (simp only [List.length_replicate, List.length_append, List.length_set, List.length_cons, List.length_nil, List.length_map, List.length_range, List.length_take, List.length_drop, List.length_zipWith] at *; omega)) rfl | exact ((hM0.ext hS).slF 2 rfl).atA rfl (by first | omega | (simp only [List.length_replicate, List.length_append, List.length_set, List.length_cons, List.length_nil, List.length_map, List.length_range, List.length_take, List.length_drop, List.length_zipWith] at *; omega)) rfl | exact ((hM0.ext hS).slF 3 rfl).atA rfl (by first | omega | (simp only [List.length_replicate, List.length_append, List.length_set, List.length_cons, List.length_nil, List.length_map, List.length_range, List.length_take, List.length_drop, List.length_zipWith] at *; omega)) rfl | exact ((hM0.ext hS).slF 4 rfl).atA rfl (by first | omega | (simp only [List.length_replicate, List.length_append, List.length_set, List.length_cons, List.length_nil, List.length_map, List.length_range, List.length_take, List.length_drop, List.length_zipWith] at *; omega)) rfl | exact ((hM0.ext hS).argF0 (by assumption)).atA rfl (by first | omega | (simp only [List.length_replicate, List.length_append, List.length_set, List.length_cons, List.length_nil, List.length_map, List.length_range, List.length_take, List.length_drop, List.length_zipWith] at *; omega)) rfl | exact ((hM0.ext hS).argF (by assumption) (by assumption)).atA rfl (by first | omega | (simp only [List.length_replicate, List.length_append, List.length_set, List.length_cons, List.length_nil, List.length_map, List.length_range, List.length_take, List.length_drop, List.length_zipWith] at *; omega)) rfl)) (fun w' hS => by have hM := hM0.ext hS; exact Y.load rfl Tryd.underlying3 rfl (by first | exact (hM.slF 0 rfl).atA rfl (by first | omega | (simp only [List.length_replicate, List.length_append, List.length_set, List.length_cons, List.length_nil, List.length_map, List.length_range, List.length_take, List.length_drop, List.length_zipWith] at *; omega)) rfl | exact (hM.slF 1 rfl).atA rfl (by first | omega | (simp only [List.length_replicate, List.length_append, List.length_set, List.length_cons, List.length_nil, List.length_map, List.length_range, List.length_take, List.length_drop, List.length_zipWith] at *; omega)) rfl | exact (hM.slF 2 rfl).atA rfl (by first | omega | (simp only [List.length_replicate, List.length_append, List.length_set, List.length_cons, List.length_nil, List.length_map, List.length_range, List.length_take, List.length_drop, List.length_zipWith] at *; omega)) rfl | exact (hM.slF 3 rfl).atA rfl (by first | omega | (simp only [List.length_replicate, List.length_append, List.length_set, List.length_cons, List.length_nil, List.length_map, List.length_range, List.length_take, List.length_drop, List.length_zipWith] at *; omega)) rfl | exact (hM.slF 4 rfl).atA rfl (by first | omega | (simp only [List.length_replicate, List.length_append, List.length_set, List.length_cons, List.length_nil, List.length_map, List.length_range, List.length_take, List.length_drop, List.length_zipWith] at *; omega)) rfl | exact (hM.argF0 (by assumption)).atA rfl (by first | omega | (simp only [List.length_replicate, List.length_append, List.length_set, List.length_cons, List.length_nil, List.length_map, List.length_range, List.length_take, List.length_drop, List.length_zipWith] at *; omega)) rfl | exact (hM.argF (by assumption) (by assumption)).atA rfl (by first | omega | (simp only [List.length_replicate, List.length_append, List.length_set, List.length_cons, List.length_nil, List.length_map, List.length_range, List.length_take, List.length_drop, List.length_zipWith] at *; omega)) rfl)) rfl ?_
    refine H.takeV 11 rfl rfl (by kernel_rfl) (by kernel_rfl) (by kernel_rfl) hS (Y.addN (a := wr ys[2 * j]) (b := wr ys[2 * j + 1]) rfl rfl (by first | omega | (simp only [List.length_replicate, List.length_append, List.length_set, List.length_cons, List.length_nil, List.length_map, List.length_range, List.length_take, List.length_drop, List.length_zipWith] at *; omega))) (fun w' hS => by have hM := hM0.ext hS; exact Y.addN (a := wr ys[2 * j]) (b := wr ys[2 * j + 1]) rfl rfl (by first | omega | (simp only [List.length_replicate, List.length_append, List.length_set, List.length_cons, List.length_nil, List.length_map, List.length_range, List.length_take, List.length_drop, List.length_zipWith] at *; omega))) rfl ?_
    refine H.take 12 rfl rfl (by kernel_rfl) (by kernel_rfl) (by kernel_rfl) hS (fun w' hS => by have hM := hM0.ext hS; exact Y.buildC (cs := [_, _]) [.int .i64 0, .slice none 0 0] [0] rfl rfl (by kernel_rfl)) rfl ?_
    refine H.only 13 rfl (by kernel_rfl) ?_
    refine E.allocM (z := .agg #[.int .i64 0, .slice none 0 0]) (cs := [.int .i64 0, .slice none 0 0]) hM (by kernel_rfl) rfl rfl ?_
    intro b8 w2 hM
    try dsimp only [List.nil_append, List.cons_append, List.set_cons_zero, List.set_cons_succ, repl] at hM
    have hS := hM.toExt
    refine H.back hS ?_
    refine H.only 14 rfl (by kernel_rfl) ?_
    first
      | refine E.storeAM 0 hM rfl rfl rfl (by kernel_rfl) rfl ?_ ?_
      | refine E.storeAM 1 hM rfl rfl rfl (by kernel_rfl) rfl ?_ ?_
      | refine E.storeAM 2 hM rfl rfl rfl (by kernel_rfl) rfl ?_ ?_
      | refine E.storeAM 3 hM rfl rfl rfl (by kernel_rfl) rfl ?_ ?_
      | refine E.storeAM 4 hM rfl rfl rfl (by kernel_rfl) rfl ?_ ?_
    · exact ones (by first | rfl | exact (hM.sl 0 rfl).one | exact (hM.sl 1 rfl).one | exact (hM.sl 2 rfl).one | exact (hM.sl 3 rfl).one | exact (hM.sl 4 rfl).one | exact (hM.slF 0 rfl).one | exact (hM.slF 1 rfl).one | exact (hM.slF 2 rfl).one | exact (hM.slF 3 rfl).one | exact (hM.slF 4 rfl).one | exact RdL.one (by assumption) | exact RdF.one (by assumption) | assumption) <| ones (by first | rfl | exact (hM.sl 0 rfl).one | exact (hM.sl 1 rfl).one | exact (hM.sl 2 rfl).one | exact (hM.sl 3 rfl).one | exact (hM.sl 4 rfl).one | exact (hM.slF 0 rfl).one | exact (hM.slF 1 rfl).one | exact (hM.slF 2 rfl).one | exact (hM.slF 3 rfl).one | exact (hM.slF 4 rfl).one | exact RdL.one (by assumption) | exact RdF.one (by assumption) | assumption) <| ones_nil
    intro w3 hM
    try dsimp only [List.nil_append, List.cons_append, List.set_cons_zero, List.set_cons_succ, repl] at hM
    have hS := hM.toExt
    refine H.back hS ?_
    refine H.done (by kernel_rfl) ?_
    have hM := hM0.call hM
    refine X.next <| C.seq <| C.drawnT 7 (by kernel_rfl) (by kernel_rfl) fun wh4 hwh4 => ?_
    have hM := hM.ext hwh4
    refine S.fld (o := 1) (sz := 0) rfl Tryd.underlying128 rfl rfl (by kernel_rfl) rfl ?_
    refine S.load rfl Tryd.underlying29 rfl (hM.bcell 2 rfl rfl) rfl ?_
    refine S.mv rfl rfl <| S.mv rfl rfl <| ?_
    refine S.idxF (k := 2 * j) rfl rfl (hM.argF0 hy) rfl hj0 (by decide) Tryd.underlying125 (by kernel_rfl) rfl ?_
    refine S.fld (o := 1) (sz := 0) rfl Tryd.underlying128 rfl rfl (by kernel_rfl) rfl ?_
    refine S.load rfl Tryd.underlying29 rfl ((hM.argF0 hy).atA (k := 2 * j) (o := 1) rfl hj0 rfl) rfl ?_
    refine S.nil ?_
    have hM := hM.nil i64 3
    try dsimp only [List.nil_append, List.cons_append, List.set_cons_zero, List.set_cons_succ, repl] at hM
    refine E.appendM 3 hM rfl rfl rfl Tryd.underlying29 elem_Tint (hM.arg0 hP0) (fun _ => rfl) (by simp only [nz, List.length_map, List.length_nil]; omega) (by simp only [nz, List.length_map, List.length_nil]; omega) rfl ?_
    intro v36 w5 hM
    try dsimp only [List.nil_append, List.cons_append, List.set_cons_zero, List.set_cons_succ, repl] at hM
    refine E.fld (o := 1) (sz := 0) rfl Tryd.underlying128 rfl rfl (by kernel_rfl) rfl ?_
    refine E.storeM 2 hM rfl rfl rfl (by kernel_rfl) (hM.sl 3 rfl).one rfl ?_
    intro w6 hM
    try dsimp only [List.nil_append, List.cons_append, List.set_cons_zero, List.set_cons_succ, repl] at hM
    refine E.nil <| X.next <| C.seq <| C.drawnT 8 (by kernel_rfl) (by kernel_rfl) fun wh7 hwh7 => ?_
    have hM := hM.ext hwh7
    refine S.fld (o := 1) (sz := 0) rfl Tryd.underlying128 rfl rfl (by kernel_rfl) rfl ?_
    refine S.load rfl Tryd.underlying29 rfl (hM.bcell 2 rfl rfl) rfl ?_
    refine S.mv rfl rfl <| S.mv rfl rfl <| ?_
    refine S.addN (a := 2 * j) (b := 1) rfl rfl (by omega) rfl ?_
    refine S.idxF (k := 2 * j + 1) rfl rfl (hM.argF0 hy) rfl hj1 (by decide) Tryd.underlying125 (by kernel_rfl) rfl ?_
    refine S.fld (o := 1) (sz := 0) rfl Tryd.underlying128 rfl rfl (by kernel_rfl) rfl ?_
    refine S.load rfl Tryd.underlying29 rfl ((hM.argF0 hy).atA (k := 2 * j + 1) (o := 1) rfl hj1 rfl) rfl ?_
    refine S.nil ?_
    refine E.appendM 3 hM rfl rfl rfl Tryd.underlying29 elem_Tint (hM.arg0 hP1) (fun _ => rfl) (by simp only [nz, List.length_map, List.nil_append]; omega) (by simp only [nz, List.length_map, List.nil_append]; omega) rfl ?_
    intro v46 w8 hM
    try dsimp only [List.nil_append, List.cons_append, List.set_cons_zero, List.set_cons_succ, repl] at hM
    refine E.fld (o := 1) (sz := 0) rfl Tryd.underlying128 rfl rfl (by kernel_rfl) rfl ?_
    refine E.storeM 2 hM rfl rfl rfl (by kernel_rfl) (hM.sl 3 rfl).one rfl ?_
    intro w9 hM
    try dsimp only [List.nil_append, List.cons_append, List.set_cons_zero, List.set_cons_succ, repl] at hM
    refine E.nil <| X.next <| C.seq <| C.block <| ?_
    obtain ⟨h46, hh⟩ := own_hd (hM.own 3 rfl)
    subst hh
    obtain ⟨pp, hpp⟩ : ∃ pp : Ir, pp = (h46, .node ys[2 * j].2 ys[2 * j + 1].2) := ⟨_, rfl⟩
    have hM := hM.to (show _ = [Rg.slF ec 2 128 vo out, Rg.lps ps, Rg.blk b8 128 (ec pp), Rg.sl i64 3 (slv pp.1) (nz pp.2.sy)] by rw [hpp]; simp only [Tr.sy, nz_app, List.nil_append]; rfl)
    have hM := hM.lpsAdd (x := pp) 1 3 (by decide) rfl rfl
    try dsimp only [List.nil_append, List.cons_append, List.set_cons_zero, List.set_cons_succ, repl] at hM
    have hM := hM.pick [0, 1, 2] (by decide)
    try dsimp only [List.nil_append, List.cons_append, List.set_cons_zero, List.set_cons_succ, repl] at hM
    try dsimp only [List.filterMap, List.getElem?_cons_zero, List.getElem?_cons_succ] at hM

    refine C.loop3 [(0, _), (1, _), (7, _), (8, _)] rfl (fun (i : Nat) (out : (List Ir)) (vo : Value) => [(5, vo), (6, i64 i)]) (fun (i : Nat) (out : (List Ir)) (vo : Value) w' => M w (Nn) w' [Rg.slF ec 2 128 vo out, Rg.lps (ps ++ [pp]), Rg.blk b8 128 (ec pp)] ∧ i ≤ xs.length ∧ (∀ fut, mrg wr xs (ps ++ pp :: fut) = out ++ mrg wr (xs.drop i) (pp :: fut)) ∧ out.length = i + j) (fun (i : Nat) (out : (List Ir)) (vo : Value) => xs.length - i) i out vo ?_ ?_ ?_
    · exact Sub.cons rfl <| Sub.cons rfl <| Sub.nil _
    · exact ⟨hM, hi, fun fut => hmr _, hol⟩
    rintro i out vo w10 ⟨hM, hi, hmr, hol⟩
    refine C.seq <| ?_

    refine C.chainQ [(0, _), (1, _), (5, _), (6, _), (7, _), (8, _)] rfl [(61, .bool (decide (i < xs.length ∧ (xs.map wr).getD i 0 ≤ wr pp)))] ?_ ?_
    ·
      refine C.drawn (by kernel_rfl) (by kernel_rfl) <| Q.mv rfl rfl <| Q.mv rfl rfl <| ?_
      refine Q.lenv rfl (RdF.shape (hM.argF0 hx)) Tryd.underlying125 rfl ?_
      refine Q.bin rfl rfl rfl rfl <| Q.mv rfl rfl <| ?_
      refine Q.split 52 rfl (fun g52 => ?_) (fun g52 => ?_)
      ·
        try simp only [decide_eq_true_eq, decide_eq_false_iff_not, ne_eq, Decidable.not_not, Bool.not_eq_true', Bool.not_eq_false'] at g52
        have hi' : i < xs.length := by omega
        have hwg := wgR hi'
        refine Q.on rfl rfl (Q.mv rfl rfl ?_)
        refine Q.on rfl rfl (Q.mv rfl rfl ?_)
        refine Q.on rfl rfl (Q.idxF (k := i) rfl rfl (hM.argF0 hx) rfl hi' (by decide) Tryd.underlying125 (by kernel_rfl) rfl ?_)
        refine Q.on rfl rfl (Q.fld (o := 0) (sz := 0) rfl Tryd.underlying128 rfl rfl (by kernel_rfl) rfl ?_)
        refine Q.on rfl rfl (Q.load rfl Tryd.underlying3 rfl ((hM.argF0 hx).atA (k := i) (o := 0) rfl hi' rfl) rfl ?_)
        refine Q.on rfl rfl (Q.fld (o := 0) (sz := 0) rfl Tryd.underlying128 rfl rfl (by kernel_rfl) rfl ?_)
        refine Q.on rfl rfl (Q.load rfl Tryd.underlying3 rfl (hM.bcell 2 rfl rfl) rfl ?_)
        refine Q.on rfl rfl (Q.bin rfl rfl rfl rfl ?_)
        refine Q.pick rfl rfl rfl <| Q.nil <| fun w11 hx11 => ?_
        refine X.join0 (Sub.cons (by (first | exact leaf_f (by omega) | exact leaf_t (by omega) | exact leaf_d (by omega) | exact leaf_f (by first | (simp [*] <;> fail) | omega) | exact leaf_t (by first | (simp [*] <;> fail) | omega) | exact leaf_d (by first | (simp [*] <;> fail) | omega) | exact leaf_f (by (first | omega | ((try simp only [decide_eq_true_eq, decide_eq_false_iff_not, Bool.not_eq_true', Bool.not_eq_false'] at *); first | omega | (simp_all <;> fail) | (simp_all; omega)))) | exact leaf_t (by (first | omega | ((try simp only [decide_eq_true_eq, decide_eq_false_iff_not, Bool.not_eq_true', Bool.not_eq_false'] at *); first | omega | (simp_all <;> fail) | (simp_all; omega)))) | exact leaf_d (by (first | omega | ((try simp only [decide_eq_true_eq, decide_eq_false_iff_not, Bool.not_eq_true', Bool.not_eq_false'] at *); first | omega | (simp_all <;> fail) | (simp_all; omega)))))) <| Sub.nil _) rfl hx11
      ·
        try simp only [decide_eq_true_eq, decide_eq_false_iff_not, ne_eq, Decidable.not_not, Bool.not_eq_true', Bool.not_eq_false'] at g52
        refine Q.off rfl rfl rfl rfl <| Q.off rfl rfl rfl rfl <| Q.off rfl rfl rfl rfl <| Q.off rfl rfl rfl rfl <| Q.off rfl rfl rfl rfl <| Q.off rfl rfl rfl rfl <| Q.off rfl rfl rfl rfl <| Q.off rfl rfl rfl rfl <| Q.pick rfl rfl rfl <| Q.nil <| fun w12 hx12 => ?_
        refine X.join0 (Sub.cons (by (first | exact leaf_f (by omega) | exact leaf_t (by omega) | exact leaf_d (by omega) | exact leaf_f (by first | (simp [*] <;> fail) | omega) | exact leaf_t (by first | (simp [*] <;> fail) | omega) | exact leaf_d (by first | (simp [*] <;> fail) | omega) | exact leaf_f (by (first | omega | ((try simp only [decide_eq_true_eq, decide_eq_false_iff_not, Bool.not_eq_true', Bool.not_eq_false'] at *); first | omega | (simp_all <;> fail) | (simp_all; omega)))) | exact leaf_t (by (first | omega | ((try simp only [decide_eq_true_eq, decide_eq_false_iff_not, Bool.not_eq_true', Bool.not_eq_false'] at *); first | omega | (simp_all <;> fail) | (simp_all; omega)))) | exact leaf_d (by (first | omega | ((try simp only [decide_eq_true_eq, decide_eq_false_iff_not, Bool.not_eq_true', Bool.not_eq_false'] at *); first | omega | (simp_all <;> fail) | (simp_all; omega)))))) <| Sub.nil _) rfl hx12
    intro w13 hx13
    have hM := hM.ext hx13
    refine C.cond' rfl (fun hC1 => ?_) (fun hC1 => ?_)
    ·
      have hi' : i < xs.length := hC1.1
      have hle : wr xs[i] ≤ wr pp := by rw [← wgR hi']; exact hC1.2
      refine C.skip <| X.next <| C.block <| C.seq <| C.region <| E.mv rfl rfl <| E.mv rfl rfl <| E.mv rfl rfl <| ?_
      refine E.idxF (k := i) rfl rfl (hM.argF0 hx) rfl hi' (by decide) Tryd.underlying125 (by kernel_rfl) rfl ?_
      refine E.loadA (cs := ec xs[i]) rfl Tryd.underlying128 rfl (by kernel_rfl) ((hM.argF0 hx).all hi') rfl ?_
      refine E.pushFM 0 xs[i] hM rfl rfl rfl Tryd.underlying125 elem_Tref33_Item rfl (by decide) (ec_one _) (by omega) (by omega) (by simp) rfl rfl ?_
      intro v68 u68 w14 hM
      try dsimp only [List.nil_append, List.cons_append, List.set_cons_zero, List.set_cons_succ, repl] at hM
      refine E.asg rfl rfl <| E.nil <| X.next <| C.region <| E.mv rfl rfl <| ?_
      refine E.addN (a := i) (b := 1) rfl rfl (by omega) rfl ?_

      refine E.asg rfl rfl <| E.nil <| X.outN <| X.again3 (i + 1) (out ++ [xs[i]]) v68 (Sub.cons rfl <| Sub.cons rfl <| Sub.nil _) rfl ⟨hM, by omega, fun fut => by rw [hmr, mrg_head hi' hle]; simp, by rw [List.length_append, List.length_singleton]; omega⟩ (by omega)
    ·
      refine C.exit <| X.exitT <| X.exitT <| X.outE <| X.next <| C.region <| E.mv rfl rfl <| ?_
      refine E.loadA (cs := ec pp) rfl Tryd.underlying128 rfl (by kernel_rfl) (hM.bat 2 rfl) rfl ?_
      refine E.pushFM 0 pp hM rfl rfl rfl Tryd.underlying125 elem_Tref33_Item rfl (by decide) (ec_one _) (by omega) (by omega) (by simp) rfl rfl ?_
      intro v74 u74 w15 hM
      try dsimp only [List.nil_append, List.cons_append, List.set_cons_zero, List.set_cons_succ, repl] at hM
      refine E.asg rfl rfl <| E.nil <| X.outN <| X.next <| C.region <| E.mv rfl rfl <| ?_
      refine E.addN (a := 2 * j) (b := 2) rfl rfl (by omega) rfl ?_

      refine E.asg rfl rfl <| E.nil <| X.again5 (j + 1) i (out ++ [pp]) (ps ++ [pp]) v74 (Sub.cons rfl <| Sub.cons rfl <| Sub.cons rfl <| Sub.nil _) rfl ⟨hM.pick [0, 1] (by decide), hi, by omega, by rw [pkg_snoc j (ys.map Prod.snd) (by rw [List.length_map]; omega), List.map_append, hps, hpp, List.getElem_map, List.getElem_map]; rfl, fun fut => by rw [List.append_assoc, List.singleton_append, hmr, mrg_here hi hC1, List.append_assoc, List.singleton_append], by rw [List.length_append, List.length_singleton]; omega⟩ (by omega)
  ·
    have hpk : ps.map Prod.snd = pkg (ys.map Prod.snd) := by
      rw [hps]
      rcases Nat.lt_or_ge (2 * j) ys.length with h | h
      · exact pkg_odd _ (by rw [List.length_map]; omega)
      · rw [List.take_of_length_le (by rw [List.length_map]; omega)]
    have hfin := hmr []
    rw [List.append_nil, mrg_nil] at hfin
    refine C.exit <| X.exitT <| X.exitT <| X.outE <| X.next <| C.seq <| C.region <| E.mv rfl rfl <| E.mv rfl rfl <| E.mv rfl rfl <| ?_
    refine E.slcF (k := .i64) (k' := .i64) i xs.length rfl (.inl rfl) (.inr ⟨rfl, rfl⟩) (hM.argF0 hx) Tryd.underlying125 (by kernel_rfl) hi (Nat.le_refl _) rfl ?_
    intro v78 p78 r78
    rw [cutE] at r78
    have hld : (xs.drop i).length = xs.length - i := List.length_drop
    refine E.appendFM 0 hM rfl rfl rfl Tryd.underlying125 elem_Tref33_Item r78 ec_one (by omega) (by omega) rfl ?_
    intro v79 w16 hM
    try dsimp only [List.nil_append, List.cons_append, List.set_cons_zero, List.set_cons_succ, repl] at hM
    refine E.asg rfl rfl <| E.nil <| X.next <| C.ret <| ret1 rfl rfl ?_
    exact ⟨ps, hpk, hM.to (by rw [hfin])⟩

end Go.Proofs.YtcmgbjmcklfkcaaDoor
