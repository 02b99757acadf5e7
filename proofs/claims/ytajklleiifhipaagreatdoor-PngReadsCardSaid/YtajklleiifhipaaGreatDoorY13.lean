/- Texts of the claim, laid together: Pg4, PgM, Df4, Adler, Df6. -/
import Derived.Lib.AppendStr
import Derived.Test.YtajklleiifhipaaGreatDoorY0
import Derived.Test.YtajklleiifhipaaGreatDoorY3
import Derived.Test.YtajklleiifhipaaGreatDoorY4
import Derived.Test.YtajklleiifhipaaGreatDoorY5
import Derived.Test.YtajklleiifhipaaGreatDoorY6
import Derived.Test.YtajklleiifhipaaGreatDoorY12
set_option linter.unusedSimpArgs false
set_option linter.unusedVariables false
namespace Go.Proofs.YtajklleiifhipaaGreatDoor
open Go.RowKit Sym
open Pg
namespace Sym
section
variable {P : Program} {ops : Array Oper} {Q : Exit → Act → World → Prop} {s : St} {env : Env} {w w0 : World} {S : Nat → Prop} {rs : List Rg} {rest : List Oper} {d : Nat} {ty : TypeId} {pos : String} {aft : Array Edge}
theorem run_append_str {B : Nat} {t u e : TypeId} {n : Nat} {v : Value} {xs : List Value} (ty : TypeId) (ht : P.underlying t = some (.slice e)) (hu : P.underlying u = some .string) (hz : (P.info? e).map (fun i => (i.zero, i.size, i.bytes)) = some (some (.int .u8 0), 1, 1))
    (hown : Own w B e 1 v n xs) (b : ByteArray) (h1 : n + b.size ≤ 140737488355328) (hB : B ≤ w.heap.size) :
    ∃ v' w', (Builtin.append_ #[t, u] ty #[v, .string b]).run P w = .ok v' w' ∧ Own w' B e 1 v' (n + b.size) (xs ++ Lib.strCells b) ∧ w.grownBy w' v.ownBlock ∧ Lies w v v' := by
  obtain ⟨i, hi, hz0, hs, hby⟩ : ∃ i, P.info? e = some i ∧ i.zero = some (.int .u8 0) ∧ i.size = 1 ∧ i.bytes = 1 := by
    cases hq : P.info? e with
    | none => simp [hq] at hz
    | some i => simp [hq] at hz; exact ⟨i, rfl, hz⟩
  have h63 : n + b.size ≤ maxLen := by unfold maxLen; omega
  rcases hown.2 with ⟨rfl, rfl⟩ | ⟨g, cap, cur, rfl, hbg, hg, hnc, hcm, hcs, htake⟩
  · have hx : xs = [] := List.eq_nil_of_length_eq_zero (by simpa using hown.1)
    subst hx
    obtain ⟨v', w', hr, ho, hg, _⟩ := Lib.run_append_own_string (P := P) w w.heap.size t u ty e i ht hu hi hz0 hs hby (.slice none 0 0) 0 [] (World.ownsRow_nil w _ e 1) b h63 h1 (Nat.le_refl _)
    refine ⟨v', w', hr, Own.lower ho hB, hg, ?_⟩
    rcases ho.2 with ⟨rfl, _⟩ | ⟨g, cap, cur, rfl, hbg, _⟩
    · exact .inl rfl
    exact .inr ⟨g, rfl, hbg⟩
  obtain ⟨v', w', hr, ho, hg', _⟩ := Lib.run_append_own_string (P := P) w B t u ty e i ht hu hi hz0 hs hby _ n xs hown b h63 h1 hB
  refine ⟨v', w', hr, ho, hg', ?_⟩
  by_cases hroom : n + b.size ≤ cap
  · have hr2 := Lib.run_append_room_string (P := P) w t u ty e i ht hu hi hs g n cap cur hg b hroom (by omega)
    rw [hr2] at hr
    injection hr with e1 e2
    exact .inl (by rw [← e1]; rfl)
  have hxl : xs.length = n := by simpa using hown.1
  have holds : ∀ j u, xs[j]? = some u → w.cell? ((⟨g, 0, none⟩ : Addr).add j) = some u := World.ownsRow.cells hown (g := g) rfl
  have hr2 := Lib.run_append_grow_string (P := P) w t u ty e i (.int .u8 0) ht hu hi hz0 ⟨g, 0, none⟩ n cap xs (by rw [hs]; simpa using hxl) holds b (by omega) (by omega) (by rw [hby]; exact growslice_fits (by omega) (by omega))
  rw [hr2] at hr
  injection hr with e1 e2
  exact .inr ⟨w.heap.size, by rw [← e1]; rfl, Nat.le_refl _⟩
theorem E.appendSM {t u e : TypeId} {x y : Operand} {v : Value} {l m : List UInt8} (i : Nat) (hM : M w0 S w rs) (hi : rs[i]? = some (Rg.sl u8 e v l)) (hx : ev env x = some v) (hy : ev env y = some (str m)) (ht : P.underlying t = some (.slice e)) (hu : P.underlying u = some .string)
  (hz : (P.info? e).map (fun i => (i.zero, i.size, i.bytes)) = some (some (.int .u8 0), 1, 1)) (h1 : l.length + m.length ≤ 140737488355328) (hd : Nat.blt d s.n = true)
  (h : ∀ v' w', M w0 S w' (rs.set i (Rg.sl u8 e v' (l ++ m))) → wpE P ops Q s rest ((d, v') :: env) w') :
  wpE P ops Q s (⟨some d, .call ⟨.builtin .append, #[x, y], #[t, u]⟩, ty, pos, aft, none⟩ :: rest) env w := by
 obtain ⟨v', w', hr, ho, hg, hli⟩ := run_append_str (P := P) ty ht hu hz (hM.own i hi) ⟨m.toArray⟩ h1 (Nat.zero_le _)
 have ho' : OwnL u8 w' 0 e v' (l ++ m) := by
  unfold OwnL
  rw [List.length_append, List.map_append]; exact ho
 exact E.op (fun a ha => by simp [execOp, resolve, invoke, builtin, ha.ev hx, ha.ev hy, hr]) hd (h v' w' (hM.grow i hi ho' hg hli))
end
end Sym
namespace Pg
open Jn
def lastd (l : List Ck) : List UInt8 := (l.getD (l.length - 1) ([], [])).2
def gdi (l : List Ck) (i : Nat) : Prop := ∀ (j : Nat) (h : j < l.length), j < i → let4 (l[j]).1 ∧ ((l[j]).1 = tE ↔ j + 1 = l.length)
theorem gd_iff : ∀ (l : List Ck), gd l ↔ l ≠ [] ∧ gdi l l.length ∧ lastd l = []
  | [] => ⟨fun h => h.elim, fun h => (h.1 rfl).elim⟩
  | c :: [] => by
    constructor
    · intro h
      refine ⟨by simp, fun j hj _ => ?_, h.2.2⟩
      obtain rfl : j = 0 := by simp at hj; exact hj
      exact ⟨h.1, fun _ => rfl, fun _ => h.2.1⟩
    intro ⟨_, h, hl⟩
    have := h 0 (by simp) (by simp)
    exact ⟨this.1, this.2.2 rfl, hl⟩
  | c :: d :: r => by
    have ih := gd_iff (d :: r)
    have hl : lastd (c :: d :: r) = lastd (d :: r) := rfl
    constructor
    · intro h
      obtain ⟨_, h2, h3⟩ := ih.1 h.2.2
      refine ⟨by simp, fun j hj _ => ?_, by rw [hl]; exact h3⟩
      cases j with
      | zero => exact ⟨h.1, fun e => (h.2.1 e).elim, fun e => by simp at e⟩
      | succ j =>
        have := h2 j (by simp at hj ⊢; omega) (by simp at hj ⊢; omega)
        exact ⟨this.1, this.2.trans ⟨fun e => by simp at e ⊢; omega, fun e => by simp at e ⊢; omega⟩⟩
    intro ⟨_, h, h3⟩
    refine ⟨(h 0 (by simp) (by simp)).1, fun e => ?_, ih.2 ⟨by simp, fun j hj _ => ?_, by rw [← hl]; exact h3⟩⟩
    · have := (h 0 (by simp) (by simp)).2.1 e
      simp at this
    have := h (j + 1) (by simp at hj ⊢; omega) (by simp at hj ⊢; omega)
    exact ⟨this.1, this.2.trans ⟨fun e => by simp at e ⊢; omega, fun e => by simp at e ⊢; omega⟩⟩
theorem gdi_succ {l : List Ck} {i : Nat} (hi : i < l.length) (h : gdi l i) (h2 : let4 (l[i]).1 ∧ ((l[i]).1 = tE ↔ i + 1 = l.length)) : gdi l (i + 1) := fun j hj hji => by
 by_cases e : j = i
 · subst e; exact h2
 exact h j hj (by omega)
theorem csz_le {l : List Ck} (h : ∀ c ∈ l, c.2.length ≤ 4194304) : csz l ≤ 4194316 * l.length := by
 induction l with
 | nil => simp [csz]
 | cons c l ih =>
  have h1 := h c (by simp)
  have h2 := ih fun d hd => h d (by simp [hd])
  rw [csz_cons, List.length_cons]; omega
theorem csz_succ {l : List Ck} {i : Nat} (hi : i < l.length) : csz (l.take (i + 1)) = csz (l.take i) + (12 + (l[i]).2.length) := by
 rw [← List.take_append_getElem hi, csz_app, csz_cons, csz_nil, Nat.add_zero]
theorem csz_mono (l : List Ck) (i : Nat) : csz (l.take i) ≤ csz l := by
 have := csz_app (l.take i) (l.drop i)
 rw [List.take_append_drop] at this; omega
theorem cks_succ {l : List Ck} {i : Nat} (hi : i < l.length) : cks (l.take (i + 1)) = cks (l.take i) ++ (enc4 (l[i]).2.length ++ (((l[i]).1 ++ (l[i]).2) ++ enc4 (crcN ((l[i]).1 ++ (l[i]).2)))) := by
 rw [← List.take_append_getElem hi, cks_app]; congr 1; simp [cks, ck]
theorem lastd_get {l : List Ck} (h : l.length - 1 < l.length) : lastd l = (l[l.length - 1]).2 := by unfold lastd; rw [List.getD_eq_getElem?_getD, List.getElem?_eq_getElem h]; rfl
end Pg
structure Cks (w : World) (p : Value) (hs : List Hd) (l : List Ck) : Prop where
 row : RdF cke 2 w p (zc l hs)
 bag : Bag w hs (l.map (·.2))
theorem Cks.len {w : World} {p : Value} {hs : List Hd} {l : List Ck} (h : Cks w p hs l) : hs.length = l.length := by have := h.bag.1; rw [List.length_map] at this; exact this
theorem Cks.ext {w w' : World} {p : Value} {hs : List Hd} {l : List Ck} (h : Cks w p hs l) (x : Ext w w') : Cks w' p hs l := ⟨h.row.ext x, h.bag.ext x⟩
theorem Cks.at {w : World} {p : Value} {hs : List Hd} {l : List Ck} (h : Cks w p hs l) {i : Nat} (hi : i < l.length) : At w (bs p).1 ((bs p).2 + i * 2) [str (l[i]).1, slv (hs[i]'(by rw [h.len]; exact hi))] := by
 have := h.row.all (k := i) (by rw [zc_len h.len]; exact hi)
 rw [zc_get h.len hi] at this; exact this
theorem Cks.data {w : World} {p : Value} {hs : List Hd} {l : List Ck} (h : Cks w p hs l) {i : Nat} (hi : i < l.length) : RdL u8 w (slv (hs[i]'(by rw [h.len]; exact hi))) (l[i]).2 := by
 have := h.bag.at (i := i) (by rw [List.length_map]; exact hi)
 rw [List.getElem_map] at this; exact this
theorem Cks.shape {w : World} {p : Value} {hs : List Hd} {l : List Ck} (h : Cks w p hs l) : ∃ a cap, p = .slice a l.length cap := by
 have := RdF.shape h.row
 rw [zc_len h.len] at this; exact this
theorem Sym.M.cks {w0 w : World} {S : Nat → Prop} {rs : List Rg} {v : Value} {hs : List Hd} {l : List Ck} (h : M w0 S w rs) (i j : Nat) (hi : rs[i]? = some (Rg.slF cke 2 39 v (zc l hs))) (hj : rs[j]? = some (Rg.bag hs (l.map (·.2)))) : Cks w v hs l := ⟨h.slF i hi, h.bag j hj⟩
def JnV (r : Except Int (List UInt8)) (out : List UInt8) (e : Int) : Prop := (e = 0 ∧ r = .ok out) ∨ (e ≠ 0 ∧ r = .error e ∧ out = [])
theorem neq_dec {a b : Prop} [Decidable a] [Decidable b] (hl : Prop) [Decidable hl] (h : hl) : (decide a != decide b) = decide (¬ (hl ∧ (a ↔ b))) := by
 by_cases ha : a <;> by_cases hb : b <;> simp [ha, hb, h]
set_option maxHeartbeats 4000000 in
theorem Join_ret (p : Value) (hs : List Hd) (l : List Ck) (w : World) (hc : Cks w p hs l) (hb : ∀ c ∈ l, c.1.length ≤ 1000000 ∧ c.2.length ≤ 4194304) :
  Ret Tryz.prog 14 #[p] w fun v w' => ∃ (vo : Value) (out : List UInt8) (e : Int), v = .tuple #[vo, i64 e] ∧ M w Nn w' [Rg.sl u8 5 vo out] ∧ JnV (jn l) out e := by
 have hM := M.start w
 refine enter Tryz.func14 rfl (by kernel_rfl) Tryz.ntmps14 rfl $ Kb $ Kn rfl $ Kc rfl $ C.seq $ Kb $ Km rfl $ E.lenv rfl hc.shape U35 rfl $ Kp rfl $ Ka $ C.cond' rfl (fun hC0 => ?_) (fun hC0 => ?_)
 ·
  refine Kb $ Kn rfl $ Kc rfl $ C.ret $ X.retT $ ret2 rfl rfl rfl ?_
  exact ⟨nilS, [], 4, rfl, (hM.pick [] (by decide)).nil u8 5, .inr ⟨by decide, by rw [jn, if_pos (by omega)], rfl⟩⟩
 refine Kk $ C.seq $ C.chainE [(0, _)] rfl [(27, .bool (decide (l = [] ∨ lastd l ≠ [])))] ?_ ?_
 ·
  refine C.region $ Km rfl $ E.lenv rfl hc.shape U35 rfl $ Kp rfl $ Km rfl $ E.split 17 rfl (fun g17 => ?_) (fun g17 => ?_)
  ·
   try simp only [Ya, Yb, Yc, Yd, Ye, Yf] at g17
   refine Kq rfl $ Kq rfl $ Kq rfl $ Kq rfl $ Kq rfl $ Kq rfl $ Kq rfl $ Kq rfl $ Kq rfl $ Kr rfl $ E.nil $ X.join0 (Sub.cons (look_eq rfl (congrArg Value.bool (by exact (decide_eq_true (p := l = [] ∨ lastd l ≠ []) (.inl (List.length_eq_zero_iff.1 (by omega)))).symm))) $ Sub.nil _) rfl rfl
  try simp only [Ya, Yb, Yc, Yd, Ye, Yf] at g17
  have hl0 : l.length - 1 < l.length := by omega
  refine Ko rfl $ Km rfl $ Ko rfl $ Km rfl $ Ko rfl $ E.lenv rfl hc.shape U35 rfl $ Ko rfl $ E.sub' rfl rfl (by omega) rfl $ Ko rfl $ E.idxF (k := l.length - 1) rfl rfl (hc.row.ext hM.toExt) (by omega) (by rw [zc_len hc.len]; omega) (by decide) U35 (by kernel_rfl) rfl $ Ko rfl $ E.fld (o := 1) (sz := 0) rfl U39 rfl rfl (by kernel_rfl) rfl $ Ko rfl $ E.load rfl U22 rfl ((hc.ext hM.toExt).at hl0 1 _ rfl) rfl $ Ko rfl $ E.lenv rfl (Rd.shape (hc.data hl0)) U22 rfl $ Ko rfl $ Kp rfl $ Kr rfl $ E.nil $ X.join0 (Sub.cons (look_eq rfl (congrArg Value.bool (by exact decide_eq_decide.2 ⟨fun h => .inr (by rw [lastd_get hl0]; exact ne_len (by omega)), fun h => by rcases h with h | h; (rw [h] at hl0; simp at hl0); (rw [lastd_get hl0] at h; have := List.length_pos_iff.2 h; omega)⟩))) $ Sub.nil _) rfl rfl
 refine C.cond' rfl (fun hC1 => ?_) (fun hC1 => ?_)
 ·
  refine Kb $ Kn rfl $ Kc rfl $ C.ret $ X.retT $ ret2 rfl rfl rfl ?_
  exact ⟨nilS, [], 9, rfl, (hM.pick [] (by decide)).nil u8 5, .inr ⟨by decide, by rw [jn, if_neg (by omega), if_pos (fun h => by obtain ⟨h1, _, h2⟩ := (gd_iff l).1 h; exact hC1.elim h1 (fun h => h h2))], rfl⟩⟩
 have hne : l ≠ [] := fun h => hC1 (.inl h)
 have hld : lastd l = [] := Decidable.not_not.1 fun h => hC1 (.inr h)
 have hl0 : 0 < l.length := List.length_pos_iff.2 hne
 refine Kk $ Kb $ Kc rfl $ C.seq $ Kb $ Km rfl $ E.lenv rfl hc.shape U35 rfl $ Km rfl $ Ka $ C.block $ C.loop1 [(0, _), (28, _), (29, _)] rfl (fun (i : Nat) => [(4, i64 (8 + csz (l.take i) : Nat)), (30, i64 i)]) (fun (i : Nat) w' => M w (Nn) w' [] ∧ i ≤ l.length ∧ gdi l i) (fun (i : Nat) => l.length - i) 0 ?_ ?_ ?_
 · exact Sub.cons rfl $ S1 rfl
 · exact ⟨hM, Nat.zero_le _, fun j _ h => by omega⟩
 rintro i w0 ⟨hM, hi, hg⟩
 refine Kb $ Kp rfl $ Ka $ C.seq $ C.cond' rfl (fun hC2 => ?_) (fun hC2 => ?_)
 ·
  have hi' : i < l.length := by omega
  have hbi := hb l[i] (List.getElem_mem hi')
  have hcz := csz_le (l := l.take i) fun c hc' => (hb c (List.mem_of_mem_take hc')).2
  rw [List.length_take] at hcz
  refine Kk $ C.seq $ C.block $ Kb $ Km rfl $ E.idxF (k := i) rfl rfl (hc.row.ext hM.toExt) rfl (by rw [zc_len hc.len]; omega) (by decide) U35 (by kernel_rfl) rfl $ E.loadA (cs := [str (l[i]).1, slv (hs[i]'(by rw [hc.len]; exact hi'))]) rfl U39 rfl (by kernel_rfl) ((hc.ext hM.toExt).at hi') rfl $ E.allocM (z := .agg #[.string .empty, .slice none 0 0]) (cs := [.string .empty, .slice none 0 0]) hM (by kernel_rfl) rfl rfl ?_
  intro b6 w1 hM
  refine Kn rfl $ E.storeAM 0 hM rfl rfl rfl (by kernel_rfl) rfl (ones rfl $ ones rfl $ ones_nil) ?_
  intro w2 hM
  refine Ka $ C.seq $ C.cut0 [(0, _), (4, _), (6, _), (28, _), (29, _), (30, _)] rfl [(49, .bool (decide (¬ (let4 (l[i]).1 ∧ ((l[i]).1 = tE ↔ i + 1 = l.length)))))] (fun w' => M w (Nn) w' [Rg.blk b6 39 [str (l[i]).1, slv (hs[i]'(by rw [hc.len]; exact hi'))]]) ?_ ?_
  ·
   refine C.region $ E.fld (o := 0) (sz := 0) rfl U39 rfl rfl (by kernel_rfl) rfl $ E.load rfl U9 rfl (hM.bcell 0 rfl rfl) rfl $ E.call rfl rfl (lettered_ret (l[i]).1 _ (by omega)) ?_
   rintro _ w3 ⟨rfl, x3⟩
   have hM := hM.ext x3
   refine E.not rfl rfl $ Km rfl $ E.split 39 rfl (fun g39 => ?_) (fun g39 => ?_)
   ·
    try simp only [Ya, Yb, Yc, Yd, Ye, Yf] at g39
    have hn4 : ¬ let4 (l[i]).1 := by simpa using g39
    refine Kq rfl $ Kq rfl $ Kq rfl $ Kq rfl $ Kq rfl $ Kq rfl $ Kq rfl $ Kq rfl $ Kq rfl $ Kr rfl $ E.nil $ X.join0  (Sub.cons (look_eq rfl (congrArg Value.bool (decide_eq_true (p := ¬ (let4 (l[i]).1 ∧ ((l[i]).1 = tE ↔ i + 1 = l.length))) (fun h => hn4 h.1)).symm)) $ Sub.nil _) rfl hM
   try simp only [Ya, Yb, Yc, Yd, Ye, Yf] at g39
   have h4 : let4 (l[i]).1 := by simpa using g39
   refine Ko rfl $ E.fld (o := 0) (sz := 0) rfl U39 rfl rfl (by kernel_rfl) rfl $ Ko rfl $ E.load rfl U9 rfl (hM.bcell 0 rfl rfl) rfl $ Ko rfl $ E.eqstr (l := (l[i]).1) (m := tE) rfl rfl rfl $ Ko rfl $ Km rfl $ Ko rfl $ Km rfl $ Ko rfl $ E.lenv rfl hc.shape U35 rfl $ Ko rfl $ E.sub' rfl rfl (by omega) rfl $ Ko rfl $ Kp rfl $ Ko rfl $ E.neb rfl rfl Tryz.underlying4 rfl $ Kr rfl $ E.nil $ X.join0  (Sub.cons (look_eq rfl (congrArg Value.bool ((congrArg (fun b => (decide ((l[i]).1 = tE) != b)) (decide_eq_decide.2 ⟨fun h => by omega, fun h => by omega⟩)).trans (neq_dec (b := i + 1 = l.length) (let4 (l[i]).1) h4)))) $ Sub.nil _) rfl hM
  rintro  w4 hM
  refine C.cond' rfl (fun hC3 => ?_) (fun hC3 => ?_)
  ·
   refine Kb $ Kn rfl $ Kc rfl $ C.ret $ X.retT $ X.retB $ X.retT $ X.retT $ X.retB $ X.retT $ ret2 rfl rfl rfl ?_
   exact ⟨nilS, [], 9, rfl, (hM.pick [] (by decide)).nil u8 5, .inr ⟨by decide, by rw [jn, if_neg (by omega), if_pos (fun h => hC3 (((gd_iff l).1 h).2.1 i hi' hi'))], rfl⟩⟩
  refine Kk $ C.region $ Km rfl $ E.fld (o := 1) (sz := 0) rfl U39 rfl rfl (by kernel_rfl) rfl $ E.load rfl U22 rfl (hM.bcell 0 rfl rfl) rfl $ E.lenv rfl (Rd.shape (hc.data hi')) U22 rfl $ E.addN (a := 12) (b := (l[i]).2.length) rfl rfl (by omega) rfl $ E.addN (a := 8 + csz (l.take i)) (b := 12 + (l[i]).2.length) rfl rfl (by omega) rfl $ Kn rfl $ E.nil $ X.outN $ X.next $ C.region $ E.add rfl rfl (by omega) rfl $ Km rfl $ E.nil $ X.again1 (i + 1) (Sub.cons (look_val rfl (by rw [csz_succ hi']; omega)) $ S1 rfl) rfl ⟨hM.pick [] (by decide), by omega, gdi_succ hi' hg (Decidable.not_not.1 hC3)⟩ (by omega)
 obtain rfl : i = l.length := by omega
 rw [List.take_length]
 have hgd : gd l := (gd_iff l).2 ⟨hne, hg, hld⟩
 have hcz := csz_le (l := l) fun c hc' => (hb c hc').2
 refine Kx $ C.seq $ Kb $ Km rfl $ Kp rfl $ Ka $ C.cond' rfl (fun hC4 => ?_) (fun hC4 => ?_)
 ·
  have hcz2 : 4194304 < 8 + csz l := by omega
  refine Kb $ Kn rfl $ Kc rfl $ C.ret $ X.retT $ ret2 rfl rfl rfl ?_
  exact ⟨nilS, [], 4, rfl, (hM.pick [] (by decide)).nil u8 5, .inr ⟨by decide, by rw [jn, if_neg (by omega), if_neg (Classical.not_not.2 hgd), if_pos hcz2], rfl⟩⟩
 have hcz2 : ¬ 4194304 < 8 + csz l := by omega
 refine Kk $ Kb $ Km rfl $ E.make0M (by_ := 1) (enc := u8) 0 hM rfl (n := 8 + csz l) rfl U22 (by kernel_rfl) rfl (by omega) (by omega) rfl ?_
 intro v60 w5 hM
 refine Kd rfl $ Km rfl $ E.appendSM (m := sig) 0 hM rfl rfl rfl U22 U9 (by kernel_rfl) (by simp [sig]) rfl ?_
 intro v62 w6 hM
 refine Kc rfl $ C.seq $ Kb $ Km rfl $ E.lenv rfl hc.shape U35 rfl $ Km rfl $ Ka $ C.block $ C.loop2 [(63, _), (64, _)] rfl (fun (i : Nat) (vp : Value) => [(7, vp), (65, i64 i)]) (fun (i : Nat) (vp : Value) w' => M w (Nn) w' [Rg.sl u8 5 vp (sig ++ cks (l.take i))] ∧ i ≤ l.length) (fun (i : Nat) (vp : Value) => l.length - i) 0 v62 ?_ ?_ ?_
 · exact Sub.cons rfl $ S1 rfl
 · exact ⟨hM, Nat.zero_le _⟩
 rintro i vp w7 ⟨hM, hi⟩
 refine Kb $ Kp rfl $ Ka $ C.seq $ C.cond' rfl (fun hC5 => ?_) (fun hC5 => ?_)
 ·
  have hi' : i < l.length := by omega
  have hbi := hb l[i] (List.getElem_mem hi')
  have hsu := csz_succ hi'
  have hmo := csz_mono l (i + 1)
  have hl4 := gd_let hgd
  have hckl := cks_len (l := l.take i) (fun c hc' => (hl4 c (List.mem_of_mem_take hc')).1)
  have hL : (sig ++ cks (l.take i)).length = 8 + csz (l.take i) := by rw [List.length_append, hckl]; rfl
  have h4 : (l[i]).1.length = 4 := (hl4 _ (List.getElem_mem hi')).1
  refine Kk $ C.seq $ C.block $ Kb $ E.idxF (k := i) rfl rfl (hc.row.ext hM.toExt) rfl (by rw [zc_len hc.len]; omega) (by decide) U35 (by kernel_rfl) rfl $ E.loadA (cs := [str (l[i]).1, slv (hs[i]'(by rw [hc.len]; exact hi'))]) rfl U39 rfl (by kernel_rfl) ((hc.ext hM.toExt).at hi') rfl $ E.allocM (z := .agg #[.string .empty, .slice none 0 0]) (cs := [.string .empty, .slice none 0 0]) hM (by kernel_rfl) rfl rfl ?_
  intro b9 w8 hM
  refine E.storeAM 1 hM rfl rfl rfl (by kernel_rfl) rfl (ones rfl $ ones rfl $ ones_nil) ?_
  intro w9 hM
  refine Ke $ Km rfl $ E.fld (o := 1) (sz := 0) rfl U39 rfl rfl (by kernel_rfl) rfl $ E.load rfl U22 rfl (hM.bcell 1 rfl rfl) rfl $ E.lenv rfl (Rd.shape (hc.data hi')) U22 rfl $ E.call rfl rfl (gappend_ret vp _ (l[i]).2.length _ (hM.sep1 0 rfl) (by omega) (by omega)) ?_
  rintro v73 w10 m1
  have hM := hM.call1 0 rfl (by simp) m1
  have hL1 : (sig ++ cks (l.take i) ++ Jn.enc4 (l[i]).2.length).length = 8 + csz (l.take i) + 4 := by rw [List.length_append, hL, Jn.enc4_len]
  refine Kd rfl $ Km rfl $ E.lenv rfl (Rd.shape (hM.sl 0 rfl)) U22 rfl $ Kd rfl $ Km rfl $ E.fld (o := 0) (sz := 0) rfl U39 rfl rfl (by kernel_rfl) rfl $ E.load rfl U9 rfl (hM.bcell 1 rfl rfl) rfl $ E.appendSM (m := (l[i]).1) 0 hM rfl rfl rfl U22 U9 (by kernel_rfl) (by omega) rfl ?_
  intro v79 w11 hM
  have hL2 : (sig ++ cks (l.take i) ++ Jn.enc4 (l[i]).2.length ++ (l[i]).1).length = 8 + csz (l.take i) + 8 := by rw [List.length_append, hL1, h4]
  refine Kd rfl $ Km rfl $ E.fld (o := 1) (sz := 0) rfl U39 rfl rfl (by kernel_rfl) rfl $ E.load rfl U22 rfl (hM.bcell 1 rfl rfl) rfl $ E.appendM 0 hM rfl rfl rfl U22 elem_Tuint8 ((hc.data hi').ext hM.toExt) (fun _ => rfl) (by omega) (by omega) rfl ?_
  intro v83 w12 hM
  have hL3 : (sig ++ cks (l.take i) ++ Jn.enc4 (l[i]).2.length ++ (l[i]).1 ++ (l[i]).2).length = 8 + csz (l.take i) + 8 + (l[i]).2.length := by rw [List.length_append, hL2]
  refine Kc rfl $ C.region $ Kf rfl $ Km rfl $ E.slcP (k' := .i64) ((sig ++ cks (l.take i) ++ Jn.enc4 (l[i]).2.length).length) _ rfl (.inl rfl) (.inr ⟨rfl, rfl⟩) (hM.sl 0 rfl) U22 (by kernel_rfl) (by omega) (by omega) rfl ?_
  have r87 := (hM.sl 0 rfl).partV (a := (sig ++ cks (l.take i) ++ Jn.enc4 (l[i]).2.length).length) (b := (sig ++ cks (l.take i) ++ Jn.enc4 (l[i]).2.length ++ (l[i]).1 ++ (l[i]).2).length) (by omega) (by omega)
  rw [cut_all, show (sig ++ cks (l.take i) ++ Jn.enc4 (l[i]).2.length ++ (l[i]).1 ++ (l[i]).2).drop (sig ++ cks (l.take i) ++ Jn.enc4 (l[i]).2.length).length = (l[i]).1 ++ (l[i]).2 from by rw [List.append_assoc (sig ++ cks (l.take i) ++ Jn.enc4 (l[i]).2.length), List.drop_left]] at r87
  refine E.call rfl rfl (CRC32_ret _ _ _ r87) ?_
  rintro _ w13 ⟨rfl, x13⟩
  have hM := hM.ext x13
  rw [crc_u32]
  have hcr := Jn.crcN_lt ((l[i]).1 ++ (l[i]).2)
  refine E.conv rfl U58 U3 (IntWalk.i64_in _ (by omega)) rfl $ E.call rfl rfl (gappend_ret _ _ (Jn.crcN ((l[i]).1 ++ (l[i]).2)) _ (hM.sep1 0 rfl) hcr (by omega)) ?_
  rintro v90 w14 m2
  have hM := hM.call1 0 rfl (by simp) m2
  refine Kn rfl $ E.nil $ X.outN $ X.next $ C.region $ E.add rfl rfl (by omega) rfl $ Km rfl $ E.nil $ ?_
  rw [show sig ++ cks (l.take i) ++ Jn.enc4 (l[i]).2.length ++ (l[i]).1 ++ (l[i]).2 ++ Jn.enc4 (Jn.crcN ((l[i]).1 ++ (l[i]).2)) = sig ++ cks (l.take (i + 1)) from by rw [cks_succ hi']; simp only [List.append_assoc]] at hM
  refine X.again2 (i + 1) _ (Sub.cons rfl $ S1 rfl) rfl ⟨hM.pick [0] (by decide), by omega⟩ (by omega)
 obtain rfl : i = l.length := by omega
 rw [List.take_length] at hM
 refine Kx $ Kb $ Km rfl $ Kn rfl $ Kc rfl $ C.ret $ ret2 rfl rfl rfl ?_
 exact ⟨_, _, 0, rfl, hM, .inl ⟨rfl, by rw [jn, if_neg (by omega), if_neg (Classical.not_not.2 hgd), if_neg hcz2]⟩⟩
end Go.Proofs.YtajklleiifhipaaGreatDoor
namespace Go.Proofs.YtajklleiifhipaaGreatDoor
open Sym
namespace Pg
def dst (a b : Int) : Int := max (a - b) (b - a)
def nr (a b c : Nat) : Nat :=
 let x := if dst b ((a : Int) + b - c) < dst a ((a : Int) + b - c) then b else a
 if dst c ((a : Int) + b - c) < dst x ((a : Int) + b - c) then c else x
def prd (m a b c : Nat) : Nat := if m = 0 then 0 else if m = 1 then a else if m = 2 then b else if m = 3 then (a + b) / 2 else nr a b c
theorem nr_le {a b c n : Nat} (ha : a ≤ n) (hb : b ≤ n) (hc : c ≤ n) : nr a b c ≤ n := by
 unfold nr
 simp only
 split <;> split <;> assumption
theorem prd_le {m a b c n : Nat} (ha : a ≤ n) (hb : b ≤ n) (hc : c ≤ n) : prd m a b c ≤ n := by
 unfold prd
 split
 · omega
 split
 · exact ha
 split
 · exact hb
 split
 · omega
 exact nr_le ha hb hc
def at_ (l : List UInt8) (i : Nat) : Nat := (l.getD i 0).toNat
def bf (l : List UInt8) (i : Nat) : Nat := if i = 0 then 0 else at_ l (i - 1)
theorem at_le (l : List UInt8) (i : Nat) : at_ l i ≤ 255 := Nat.le_of_lt_succ (UInt8.toNat_lt _)
theorem bf_le (l : List UInt8) (i : Nat) : bf l i ≤ 255 := by
 unfold bf
 split
 · omega
 exact at_le _ _
def pr (m : Nat) (plain prior : List UInt8) (i : Nat) : Nat := prd m (bf plain i) (at_ prior i) (bf prior i)
theorem pr_le (m : Nat) (plain prior : List UInt8) (i : Nat) : pr m plain prior i ≤ 255 := prd_le (bf_le _ _) (at_le _ _) (bf_le _ _)
theorem pr_congr {m : Nat} {p q prior : List UInt8} {i : Nat} (h : bf p i = bf q i) : pr m p prior i = pr m q prior i := by unfold pr; rw [h]
def fil (m : Nat) (row prior : List UInt8) : List UInt8 := tab row.length fun i => UInt8.ofNat (at_ row i + 256 - pr m row prior i)
def unl (m : Nat) (row prior : List UInt8) : Nat → List UInt8
 | 0 => []
 | k + 1 => unl m row prior k ++ [UInt8.ofNat (at_ row k + pr m (unl m row prior k) prior k)]
def unf (m : Nat) (row prior : List UInt8) : List UInt8 := unl m row prior row.length
theorem unl_len (m : Nat) (row prior : List UInt8) : ∀ k, (unl m row prior k).length = k
 | 0 => rfl
 | k + 1 => by rw [unl, List.length_append, unl_len, List.length_singleton]
theorem fil_len (m : Nat) (row prior : List UInt8) : (fil m row prior).length = row.length := tab_len _ _
theorem bf_take {l : List UInt8} {k : Nat} (h : k ≤ l.length) : bf (l.take k) k = bf l k := by
 unfold bf
 split
 · rfl
 unfold at_
 rw [List.getD_eq_getElem?_getD, List.getElem?_take_of_lt (by omega), ← List.getD_eq_getElem?_getD]
theorem at_fil {m : Nat} {row prior : List UInt8} {i : Nat} (h : i < row.length) : at_ (fil m row prior) i = (at_ row i + 256 - pr m row prior i) % 256 := by
 unfold at_ fil
 rw [List.getD_eq_getElem?_getD, tab_get h]
 simp [at_]
theorem ofNat_at {l : List UInt8} {i : Nat} (h : i < l.length) : UInt8.ofNat (at_ l i) = l[i] := by
 unfold at_
 rw [List.getD_eq_getElem?_getD, List.getElem?_eq_getElem h]
 simp
theorem of_mod {a b : Nat} (h : a % 256 = b % 256) : UInt8.ofNat a = UInt8.ofNat b := by
 apply UInt8.toNat_inj.1
 simp; exact h
theorem unl_fil (m : Nat) (row prior : List UInt8) : ∀ k, k ≤ row.length → unl m (fil m row prior) prior k = row.take k
 | 0, _ => rfl
 | k + 1, h => by
  have ih := unl_fil m row prior k (by omega)
  have hp := pr_le m row prior k
  have ha := at_le row k
  rw [unl, ih, pr_congr (bf_take (by omega)), at_fil (by omega), ← List.take_append_getElem (by omega : k < row.length), ← ofNat_at (by omega : k < row.length)]
  congr 2
  refine of_mod ?_
  omega
theorem unf_fil (m : Nat) (row prior : List UInt8) : unf m (fil m row prior) prior = row := by
 unfold unf
 rw [fil_len, unl_fil m row prior _ (Nat.le_refl _), List.take_length]
end Pg
end Go.Proofs.YtajklleiifhipaaGreatDoor
namespace Go.Proofs.YtajklleiifhipaaGreatDoor
open Go.RowKit Sym
theorem Sym.M.off0 {α : Type} {enc : α → Value} {w0 w : World} {rs : List Rg} {v : Value} {l : List α} (h : M w0 Nn w rs) (hR : RdL enc w0 v l) : Off (fpU rs) v l := by
 cases l with
 | nil => exact .inl rfl
 | cons a l =>
  refine .inr fun ⟨i, r, hi, hk⟩ => ?_
  have h1 := hR.lt (by simp)
  rcases h.mine i r hi _ hk with h2 | h2
  · exact h2
  omega
theorem offB {α : Type} {b : Nat} {T : TypeId} {cs : List Value} {rs : List Rg} {v : Value} {l : List α} (ho : Off (fpU (Rg.blk b T cs :: rs)) v l) : Off (fpU [Rg.blk b T cs]) v l := by
 rcases ho with ho | ho
 · exact .inl ho
 refine .inr fun ⟨i, r, hi, hk⟩ => ho ?_
 cases i with
 | zero => exact ⟨0, r, hi, hk⟩
 | succ i => simp at hi
theorem shl_u32 {a k c : Nat} (hk : k ≤ 31) (e : a * 2 ^ k = c) (hc : c ≤ 4294967295) : IntKind.u32.wrap ((a : Int) * 2 ^ min ((k : Int)).toNat IntKind.u32.bits) = (c : Int) := by
 have e1 : min ((k : Int)).toNat IntKind.u32.bits = k := by rw [Int.toNat_natCast]; simp [IntKind.bits]; omega
 have e2 : (a : Int) * 2 ^ k = (c : Int) := by rw [← e]; simp
 rw [e1, e2]; exact IntWalk.u32_in _ (by omega)
theorem or_u32 {a b : Nat} (k : Nat) (hb : b < 2 ^ k) (h : a * 2 ^ k + b < 4294967296) : bits .or .u32 ((a * 2 ^ k : Nat) : Int) (b : Int) = ((a * 2 ^ k + b : Nat) : Int) := by
 rw [u32_or_nat _ _ (by omega) (by omega), Nat.mul_comm a, ← Nat.two_pow_add_eq_or_of_lt hb]
theorem gdU {l : List UInt8} {i : Nat} (h : i < l.length) : l.getD i 0 = l[i] := by rw [List.getD_eq_getElem?_getD, List.getElem?_eq_getElem h]; rfl
theorem key_num {x y z : Nat} (hx : x < 256) (hy : y < 256) (hz : z < 256) : bits .or .u32 (bits .or .u32 ((x * 65536 : Nat) : Int) ((y * 256 : Nat) : Int)) (z : Int) = ((x * 65536 + y * 256 + z : Nat) : Int) := by
 have e1 := or_u32 (a := x) (b := y * 256) 16 (by omega) (by omega)
 have e2 := or_u32 (a := x * 256 + y) (b := z) 8 (by omega) (by omega)
 have h1 : x * 2 ^ 16 = x * 65536 := by rw [show (2 : Nat) ^ 16 = 65536 from rfl]
 have h2 : (x * 256 + y) * 2 ^ 8 = x * 65536 + y * 256 := by rw [show (2 : Nat) ^ 8 = 256 from rfl, Nat.add_mul, Nat.mul_assoc]
 rw [h1] at e1
 rw [h2] at e2
 rw [e1, e2]
theorem key_at {l : List UInt8} {j : Nat} (h : j + 3 ≤ l.length) : (l[j]'(by omega)).toNat * 65536 + (l[j + 1]'(by omega)).toNat * 256 + (l[j + 2]'(by omega)).toNat = Df.key l j := by
 unfold Df.key
 rw [gdU (show j < l.length by omega), gdU (show j + 1 < l.length by omega), gdU (show j + 2 < l.length by omega)]
structure Fs (l : List UInt8) (a : Nat) (m : List (Int × Int)) (bf : List Int) : Prop where
 len : bf.length = l.length
 last : ∀ k : Nat, aget m (k : Int) = if Df.pv l k a = -1 then none else some (Df.pv l k a)
 bef : ∀ j, j < a → j + 3 ≤ l.length → bf.getD j 0 = Df.pv l (Df.key l j) j
theorem Fs.zero (l : List UInt8) : Fs l 0 [] (List.replicate l.length 0) := ⟨List.length_replicate, fun k => rfl, fun j h => by omega⟩
theorem Fs.skip {l : List UInt8} {a : Nat} {m : List (Int × Int)} {bf : List Int} (h : Fs l a m bf) (hl : l.length < a + 3) : Fs l (a + 1) m bf := by
 refine ⟨h.len, fun k => ?_, fun j hj h3 => h.bef j (by omega) h3⟩
 rw [h.last k, show Df.pv l k (a + 1) = Df.pv l k a by rw [Df.pv, if_neg (fun c => by omega)]]
theorem Fs.link {l : List UInt8} {a : Nat} {m : List (Int × Int)} {bf : List Int} (h : Fs l a m bf) (hl : a + 3 ≤ l.length) : Fs l (a + 1) (aput m (Df.key l a : Int) (a : Int)) (bf.set a ((aget m (Df.key l a : Int)).getD (-1))) := by
  refine ⟨by rw [List.length_set]; exact h.len, fun k => ?_, fun j hj h3 => ?_⟩
  · rw [aget_aput, Df.pv]
    by_cases e : Df.key l a = k
    · rw [if_pos (by omega), if_pos (show a + 3 ≤ l.length ∧ Df.key l a = k from ⟨hl, e⟩), if_neg (by omega)]
    rw [if_neg (by omega), if_neg (show ¬ (a + 3 ≤ l.length ∧ Df.key l a = k) from fun c => e c.2)]; exact h.last k
  have hb := h.len
  by_cases e : j = a
  · subst e
    rw [List.getD_eq_getElem?_getD, List.getElem?_set_self (by omega), Option.getD_some, h.last]
    split
    · rename_i h1; rw [h1]; rfl
    rfl
  rw [List.getD_eq_getElem?_getD, List.getElem?_set_ne (by omega), ← List.getD_eq_getElem?_getD]
  exact h.bef j (by omega) h3
theorem key_ret (b j : Nat) (p : Value) (l : List UInt8) (w : World) (hc : w.cell? ⟨b, 0, none⟩ = some p) (hp : RdL u8 w p l) (hj : j + 3 ≤ l.length) :
  Ret Tryz.prog 128 #[pv b, i64 j] w fun v w' => v = .int .u32 (Df.key l j : Int) ∧ Ext w w' := by
 have hM := M.start w
 refine enter Tryz.func128 rfl (by kernel_rfl) Tryz.ntmps128 rfl $ Kb $ Kc rfl $ C.seq $ C.drawn (by kernel_rfl) (by kernel_rfl) $ Q.mv rfl rfl $ Q.nilc rfl rfl $ Q.fld (o := 0) (sz := 0) rfl U116 rfl rfl (by kernel_rfl) rfl ?_
 have h0 := (l[j]'(by omega)).toNat_lt
 have h1 := (l[j + 1]'(by omega)).toNat_lt
 have h2 := (l[j + 2]'(by omega)).toNat_lt
 refine Q.load rfl U22 rfl hc rfl $ Q.mv rfl rfl $ Q.idx1 (k := j) rfl rfl hp rfl (by omega) U22 (by kernel_rfl) rfl $ Q.load rfl U5 rfl (hp.cell (by omega)) rfl $ Q.conv rfl U5 U58 (IntWalk.u32_in _ (by omega)) rfl $ Q.shl rfl rfl (by decide) (shl_u32 (k := 16) (c := (l[j]'(by omega)).toNat * 65536) (by decide) (by omega) (by omega)) rfl $ Q.mv rfl rfl $ Q.nilc rfl rfl $ Q.fld (o := 0) (sz := 0) rfl U116 rfl rfl (by kernel_rfl) rfl $ Q.load rfl U22 rfl hc rfl $ Q.mv rfl rfl $ Q.addN (a := j) (b := 1) rfl rfl (by have := Rd.le hp; omega) rfl $ Q.idx1 (k := j + 1) rfl rfl hp rfl (by omega) U22 (by kernel_rfl) rfl $ Q.load rfl U5 rfl (hp.cell (by omega)) rfl $ Q.conv rfl U5 U58 (IntWalk.u32_in _ (by omega)) rfl $ Q.shl rfl rfl (by decide) (shl_u32 (k := 8) (c := (l[j + 1]'(by omega)).toNat * 256) (by decide) (by omega) (by omega)) rfl ?_
 refine Q.bin rfl rfl rfl rfl $ Q.mv rfl rfl $ Q.nilc rfl rfl $ Q.fld (o := 0) (sz := 0) rfl U116 rfl rfl (by kernel_rfl) rfl $ Q.load rfl U22 rfl hc rfl $ Q.mv rfl rfl $ Q.addN (a := j) (b := 2) rfl rfl (by have := Rd.le hp; omega) rfl $ Q.idx1 (k := j + 2) rfl rfl hp rfl (by omega) U22 (by kernel_rfl) rfl $ Q.load rfl U5 rfl (hp.cell (by omega)) rfl $ Q.conv rfl U5 U58 (IntWalk.u32_in _ (by omega)) rfl $ Q.bin rfl rfl rfl rfl $ Q.asg rfl rfl $ Q.nil $ fun w0 hx0 => ?_
 have hM := hM.ext hx0
 refine X.next $ C.ret $ ret1 rfl rfl ?_
 exact ⟨by rw [key_num h0 h1 h2, key_at hj], hM.toExt⟩
set_option maxHeartbeats 1000000 in
theorem link_ret (b r a : Nat) (p vb : Value) (l : List UInt8) (m : List (Int × Int)) (bf : List Int) (w : World) (hs : Sep w [Rg.blk b 116 [p, .map (some r), vb], Rg.mp r .u32 i64 m, Rg.sl i64 3 vb bf]) (hp : RdL u8 w p l) (ho : Off (fpU [Rg.blk b 116 [p, .map (some r), vb], Rg.mp r .u32 i64 m, Rg.sl i64 3 vb bf]) p l) (ha : a + 3 ≤ l.length) (hbl : bf.length = l.length) :
  Ret Tryz.prog 130 #[pv b, i64 a] w fun v w' => M w (fpU [Rg.blk b 116 [p, .map (some r), vb], Rg.mp r .u32 i64 m, Rg.sl i64 3 vb bf]) w' [Rg.blk b 116 [p, .map (some r), vb], Rg.mp r .u32 i64 (aput m (Df.key l a : Int) (a : Int)), Rg.sl i64 3 vb (bf.set a ((aget m (Df.key l a : Int)).getD (-1)))] := by
 have hM := M.startS hs
 refine enter Tryz.func130 rfl (by kernel_rfl) Tryz.ntmps130 rfl $ Kb $ Km rfl $ E.nilc rfl rfl $ E.fld (o := 2) (sz := 0) rfl U116 rfl rfl (by kernel_rfl) rfl $ E.load rfl U76 rfl (hM.bcell 0 rfl rfl) rfl $ Km rfl $ E.idx1 (k := a) rfl rfl (hM.sl 2 rfl) rfl (by omega) U76 (by kernel_rfl) rfl $ E.storeL (enc := i64) 2 (-1) hM rfl rfl rfl (by kernel_rfl) rfl rfl (by omega) ?_
 intro w0 hM
 try dsimp only [Za, Zb, Zc, Zd, repl] at hM
 refine Ka $ C.cut0 [(0, _), (1, _)] rfl [] (fun w' => M w (fpU [Rg.blk b 116 [p, .map (some r), vb], Rg.mp r .u32 i64 m, Rg.sl i64 3 vb bf]) w' [Rg.blk b 116 [p, .map (some r), vb], Rg.mp r .u32 i64 m, Rg.sl i64 3 vb (bf.set a ((aget m (Df.key l a : Int)).getD (-1)))]) ?_ ?_
 ·
  refine C.seq $ C.drawn (by kernel_rfl) (by kernel_rfl) $ Q.mv rfl rfl $ Q.nilc rfl rfl $ Q.fld (o := 1) (sz := 0) rfl U116 rfl rfl (by kernel_rfl) rfl $ Q.load rfl Tryz.underlying114 rfl (hM.bcell 0 rfl rfl) rfl $ Q.mv rfl rfl $ Q.mv rfl rfl $ Q.call (v := .int .u32 (Df.key l a : Int)) rfl rfl (fun w' hw' => key_ret b a p l _ ((hM.ext hw').bcell 0 rfl rfl) ((hM.ext hw').arg hp ho) ha) $ Q.lookup2 (z := .int .i64 0) rfl rfl Tryz.underlying114 U58 (by kernel_rfl) (hM.mp 1 rfl) rfl $ Q.mv rfl rfl $ Q.ext rfl rfl rfl $ Q.ext rfl rfl rfl $ Q.asg rfl rfl $ Q.asg rfl rfl $ Q.nil $ fun w1 hx1 => ?_
  have hM := hM.ext hx1
  refine X.next $ Kb $ Km rfl $ Ka $ C.cond rfl (fun hC0 => ?_) (fun hC0 => ?_)
  ·
   obtain ⟨z, hz⟩ := Option.isSome_iff_exists.1 hC0
   rw [hz]
   refine C.region $ Km rfl $ E.nilc rfl rfl $ E.fld (o := 2) (sz := 0) rfl U116 rfl rfl (by kernel_rfl) rfl $ E.load rfl U76 rfl (hM.bcell 0 rfl rfl) rfl $ Kf rfl $ E.idx1 (k := a) rfl rfl (hM.sl 2 rfl) rfl (by rw [List.length_set]; omega) U76 (by kernel_rfl) rfl $ E.storeL (enc := i64) 2 z hM rfl rfl rfl (by kernel_rfl) rfl rfl (by rw [List.length_set]; omega) ?_
   intro w2 hM
   try dsimp only [Za, Zb, Zc, Zd, repl] at hM
   refine E.nil $ X.join0  (Sub.nil _) rfl (hM.to (by rw [List.set_set]; rfl))
  have hz : aget m (Df.key l a : Int) = none := by simpa using hC0
  refine C.skip $ X.join0  (Sub.nil _) rfl (hM.to (by rw [hz]; rfl))
 rintro  w3 hM
 refine C.heldM hM [0] (by decide) (by kernel_rfl) fun wh4 hM hS => Kt 0 rfl (by kernel_rfl) hS (fun w' hM => Y.mv rfl) rfl $ Kt 1 rfl (by kernel_rfl) hS (fun w' hM => Y.nilc rfl) rfl $ Ku 2 rfl (by kernel_rfl) hS (Y.fld (o := 1) (sz := 0) rfl U116 rfl rfl (by kernel_rfl)) (fun w' hM => Y.fld (o := 1) (sz := 0) rfl U116 rfl rfl (by kernel_rfl)) rfl $ Kt 4 rfl (by kernel_rfl) hS (fun w' hM => Y.mv rfl) rfl $ Kt 5 rfl (by kernel_rfl) hS (fun w' hM => Y.mv rfl) rfl $ Kt 7 rfl (by kernel_rfl) hS (fun w' hM => Y.mv rfl) rfl $ Ku 3 rfl (by kernel_rfl) hS (Y.load rfl Tryz.underlying114 rfl (hM.bcell 0 rfl rfl)) (fun w' hM => Y.load rfl Tryz.underlying114 rfl (hM.bcell 0 rfl rfl)) rfl $ H.only 6 rfl (by kernel_rfl) $ E.call rfl rfl (key_ret b a p l _ (hM.bcell 0 rfl rfl) (hM.arg hp ho) ha) ?_
 rintro _ wk ⟨rfl, xk⟩
 have hM := hM.ext xk
 try dsimp only [Za, Zb, Zc, Zd, repl] at hM
 have hS := hM.pick [0] (by decide)
 refine H.back hS $ H.only 8 rfl (by kernel_rfl) $ E.mputM 1 (a : Int) hM rfl rfl rfl rfl Tryz.underlying114 U58 ?_
 intro w6 hM
 try dsimp only [Za, Zb, Zc, Zd, repl] at hM
 have hS := hM.pick [0] (by decide)
 refine H.back hS $ H.done (by kernel_rfl) $ end0 rfl ?_
 exact hM
set_option maxHeartbeats 1000000 in
theorem add_ret (b r a : Nat) (p vb : Value) (l : List UInt8) (m : List (Int × Int)) (bf : List Int) (w : World) (hs : Sep w [Rg.blk b 116 [p, .map (some r), vb], Rg.mp r .u32 i64 m, Rg.sl i64 3 vb bf]) (hp : RdL u8 w p l) (ho : Off (fpU [Rg.blk b 116 [p, .map (some r), vb], Rg.mp r .u32 i64 m, Rg.sl i64 3 vb bf]) p l) (hF : Fs l a m bf) (ha : a < 65536) :
  Ret Tryz.prog 92 #[pv b, i64 a] w fun v w' => ∃ m' bf', M w (fpU [Rg.blk b 116 [p, .map (some r), vb], Rg.mp r .u32 i64 m, Rg.sl i64 3 vb bf]) w' [Rg.blk b 116 [p, .map (some r), vb], Rg.mp r .u32 i64 m', Rg.sl i64 3 vb bf'] ∧ Fs l (a + 1) m' bf' := by
 have hM := M.startS hs
 refine enter Tryz.func92 rfl (by kernel_rfl) Tryz.ntmps92 rfl $ C.seq $ Kb $ Km rfl $ E.addN (a := a) (b := 3) rfl rfl (by omega) rfl $ Km rfl $ E.nilc rfl rfl $ E.fld (o := 0) (sz := 0) rfl U116 rfl rfl (by kernel_rfl) rfl $ E.load rfl U22 rfl (hM.bcell 0 rfl rfl) rfl $ E.lenv rfl (Rd.shape (hM.arg hp ho)) U22 rfl $ Kp rfl $ Ka $ C.cond' rfl (fun hC0 => ?_) (fun hC0 => ?_)
 ·
  refine C.ret $ X.retT $ ret0 rfl ?_
  exact ⟨m, bf, hM, hF.skip (by omega)⟩
 have h3 : a + 3 ≤ l.length := by omega
 refine Kk $ C.cut0 [(0, _), (1, _)] rfl [] (fun w' => M w (fpU [Rg.blk b 116 [p, .map (some r), vb], Rg.mp r .u32 i64 m, Rg.sl i64 3 vb bf]) w' [Rg.blk b 116 [p, .map (some r), vb], Rg.mp r .u32 i64 m, Rg.sl i64 3 vb bf]) ?_ ?_
 ·
  refine C.chainE [(0, _), (1, _)] rfl [(19, .bool false)] ?_ ?_
  ·
   refine C.region $ Km rfl $ Kp rfl $ Km rfl $ E.split 15 rfl (fun g15 => ?_) (fun g15 => ?_)
   ·
    try simp only [Ya, Yb, Yc, Yd, Ye, Yf] at g15
    refine Ko rfl $ Km rfl $ Ko rfl $ E.rem rfl rfl (by omega) (remN (b := 65536)) rfl $ Ko rfl $ Kp rfl $ Kr rfl $ E.nil $ X.join0 (Sub.cons (look_eq rfl (by (apply congrArg Value.bool; apply decide_eq_false; omega))) $ Sub.nil _) rfl rfl
   try simp only [Ya, Yb, Yc, Yd, Ye, Yf] at g15
   refine Kq rfl $ Kq rfl $ Kq rfl $ Kr rfl $ E.nil $ X.join0 (Sub.cons (look_eq rfl (by rfl)) $ Sub.nil _) rfl rfl
  refine C.cond rfl (fun hC1 => ?_) (fun hC1 => ?_)
  ·
   cases hC1
  refine C.skip $ X.join0  (Sub.nil _) rfl hM
 rintro  w0 hM
 refine C.region $ Kf rfl $ E.call rfl rfl (link_ret b r a p vb l m bf _ (hM.pick [0, 1, 2] (by decide)).sep (hM.arg hp ho) ho h3 hF.len) ?_
 rintro _ w5 m5
 have hM := hM.calls [0, 1, 2] (by decide) rfl (by simp) m5
 refine E.nil $ end0 rfl ?_
 exact ⟨_, _, hM, hF.link h3⟩
set_option maxHeartbeats 1000000 in
theorem equal_ret (b j a : Nat) (p vm vb : Value) (l : List UInt8) (w : World) (hs : Sep w [Rg.blk b 116 [p, vm, vb]]) (hp : RdL u8 w p l) (ho : Off (fpU [Rg.blk b 116 [p, vm, vb]]) p l) (hj : j < a) (hl : l.length ≤ 1000000) (ha : a ≤ l.length) :
  Ret Tryz.prog 129 #[pv b, i64 j, i64 a] w fun v w' => v = i64 (Df.eqn l j a : Int) ∧ M w (fpU [Rg.blk b 116 [p, vm, vb]]) w' [Rg.blk b 116 [p, vm, vb]] := by
 have hM := M.startS hs
 refine enter Tryz.func129 rfl (by kernel_rfl) Tryz.ntmps129 rfl $ Kb $ Kd rfl $ Kc rfl $ C.seq $ C.block $ C.loop1 [(0, _), (1, _), (2, _)] rfl (fun (n : Nat) => [(7, i64 n)]) (fun (n : Nat) w' => M w (fpU [Rg.blk b 116 [p, vm, vb]]) w' [Rg.blk b 116 [p, vm, vb]] ∧ n ≤ 258 ∧ Df.ego l j a (258 - n) n = Df.eqn l j a) (fun (n : Nat) => 258 - n) 0 ?_ ?_ ?_
 · exact S1 rfl
 · exact ⟨hM, by omega, rfl⟩
 rintro n w0 ⟨hM, hn, he⟩
 refine C.seq $ C.chainQ [(0, _), (1, _), (2, _), (7, _)] rfl [(41, .bool (decide (n < 258 ∧ a + n < l.length ∧ l.getD (j + n) 0 = l.getD (a + n) 0)))] ?_ ?_
 ·
  refine C.drawn (by kernel_rfl) (by kernel_rfl) $ Q.mv rfl rfl $ Q.bin rfl rfl rfl rfl $ Q.mv rfl rfl $ Q.split 10 rfl (fun g10 => ?_) (fun g10 => ?_)
  ·
   try simp only [Ya, Yb, Yc, Yd, Ye, Yf] at g10
   refine Q.on rfl rfl (Q.mv rfl rfl ?_)
   refine Q.on rfl rfl (Q.mv rfl rfl ?_)
   refine Q.on rfl rfl (Q.addN (a := a) (b := n) rfl rfl (by omega) rfl ?_)
   refine Q.on rfl rfl (Q.mv rfl rfl ?_)
   refine Q.on rfl rfl (Q.nilc rfl rfl ?_)
   refine Q.on rfl rfl (Q.fld (o := 0) (sz := 0) rfl U116 rfl rfl (by kernel_rfl) rfl ?_)
   refine Q.on rfl rfl (Q.load rfl U22 rfl (hM.bcell 0 rfl rfl) rfl ?_)
   refine Q.on rfl rfl (Q.lenv rfl (Rd.shape (hM.arg hp ho)) U22 rfl ?_)
   refine Q.on rfl rfl (Q.bin rfl rfl rfl rfl ?_)
   refine Q.pick rfl rfl rfl $ Q.mv rfl rfl $ Q.split 21 rfl (fun g21 => ?_) (fun g21 => ?_)
   ·
    try simp only [Ya, Yb, Yc, Yd, Ye, Yf] at g21
    have g1 := gdU (l := l) (i := j + n) (by omega)
    have g2 := gdU (l := l) (i := a + n) (by omega)
    refine Q.on rfl rfl (Q.mv rfl rfl ?_)
    refine Q.on rfl rfl (Q.nilc rfl rfl ?_)
    refine Q.on rfl rfl (Q.fld (o := 0) (sz := 0) rfl U116 rfl rfl (by kernel_rfl) rfl ?_)
    refine Q.on rfl rfl (Q.load rfl U22 rfl (hM.bcell 0 rfl rfl) rfl ?_)
    refine Q.on rfl rfl (Q.mv rfl rfl ?_)
    refine Q.on rfl rfl (Q.mv rfl rfl ?_)
    refine Q.on rfl rfl (Q.addN (a := j) (b := n) rfl rfl (by omega) rfl ?_)
    refine Q.on rfl rfl (Q.idx1 (k := j + n) rfl rfl (hM.arg hp ho) rfl (by omega) U22 (by kernel_rfl) rfl ?_)
    refine Q.on rfl rfl (Q.load rfl U5 rfl ((hM.arg hp ho).cell (by omega)) rfl ?_)
    refine Q.on rfl rfl (Q.mv rfl rfl ?_)
    refine Q.on rfl rfl (Q.nilc rfl rfl ?_)
    refine Q.on rfl rfl (Q.fld (o := 0) (sz := 0) rfl U116 rfl rfl (by kernel_rfl) rfl ?_)
    refine Q.on rfl rfl (Q.load rfl U22 rfl (hM.bcell 0 rfl rfl) rfl ?_)
    refine Q.on rfl rfl (Q.mv rfl rfl ?_)
    refine Q.on rfl rfl (Q.mv rfl rfl ?_)
    refine Q.on rfl rfl (Q.addN (a := a) (b := n) rfl rfl (by omega) rfl ?_)
    refine Q.on rfl rfl (Q.idx1 (k := a + n) rfl rfl (hM.arg hp ho) rfl (by omega) U22 (by kernel_rfl) rfl ?_)
    refine Q.on rfl rfl (Q.load rfl U5 rfl ((hM.arg hp ho).cell (by omega)) rfl ?_)
    refine Q.on rfl rfl (Q.bin rfl rfl rfl rfl ?_)
    rw [show (decide (((l[j + n]'(by omega)).toNat : Int) = ((l[a + n]'(by omega)).toNat : Int))) = decide (l.getD (j + n) 0 = l.getD (a + n) 0) by rw [g1, g2]; exact decide_eq_decide.2 ⟨fun h => Df.u8_ext (by omega), fun h => by rw [h]⟩]
    refine Q.pick rfl rfl rfl $ Q.nil $ fun w1 hx1 => X.join0 (Sub.cons (by exact leaf_d ⟨fun h => ⟨by omega, by omega, h⟩, fun h => h.2.2⟩) $ Sub.nil _) rfl hx1
   try simp only [Ya, Yb, Yc, Yd, Ye, Yf] at g21
   refine Q.off rfl rfl rfl rfl $ Q.off rfl rfl rfl rfl $ Q.off rfl rfl rfl rfl $ Q.off rfl rfl rfl rfl $ Q.off rfl rfl rfl rfl $ Q.off rfl rfl rfl rfl $ Q.off rfl rfl rfl rfl $ Q.off rfl rfl rfl rfl $ Q.off rfl rfl rfl rfl $ Q.off rfl rfl rfl rfl $ Q.off rfl rfl rfl rfl $ Q.off rfl rfl rfl rfl $ Q.off rfl rfl rfl rfl $ Q.off rfl rfl rfl rfl $ Q.off rfl rfl rfl rfl $ Q.off rfl rfl rfl rfl $ Q.off rfl rfl rfl rfl $ Q.off rfl rfl rfl rfl $ Q.off rfl rfl rfl rfl $ Q.pick rfl rfl rfl $ Q.nil $ fun w2 hx2 => X.join0 (Sub.cons (by exact leaf_f (by omega)) $ Sub.nil _) rfl hx2
  try simp only [Ya, Yb, Yc, Yd, Ye, Yf] at g10
  refine Q.off rfl rfl rfl rfl $ Q.off rfl rfl rfl rfl $ Q.off rfl rfl rfl rfl $ Q.off rfl rfl rfl rfl $ Q.off rfl rfl rfl rfl $ Q.off rfl rfl rfl rfl $ Q.off rfl rfl rfl rfl $ Q.off rfl rfl rfl rfl $ Q.off rfl rfl rfl rfl $ Q.pick rfl rfl rfl $ Q.mv rfl rfl $ Q.off rfl rfl rfl rfl $ Q.off rfl rfl rfl rfl $ Q.off rfl rfl rfl rfl $ Q.off rfl rfl rfl rfl $ Q.off rfl rfl rfl rfl $ Q.off rfl rfl rfl rfl $ Q.off rfl rfl rfl rfl $ Q.off rfl rfl rfl rfl $ Q.off rfl rfl rfl rfl $ Q.off rfl rfl rfl rfl $ Q.off rfl rfl rfl rfl $ Q.off rfl rfl rfl rfl $ Q.off rfl rfl rfl rfl $ Q.off rfl rfl rfl rfl $ Q.off rfl rfl rfl rfl $ Q.off rfl rfl rfl rfl $ Q.off rfl rfl rfl rfl $ Q.off rfl rfl rfl rfl $ Q.off rfl rfl rfl rfl $ Q.pick rfl rfl rfl $ Q.nil $ fun w3 hx3 => X.join0 (Sub.cons (by exact leaf_f (by omega)) $ Sub.nil _) rfl hx3
 intro w4 hx4
 have hM := hM.ext hx4
 refine C.cond' rfl (fun hC0 => ?_) (fun hC0 => ?_)
 ·
  have he' : Df.ego l j a (258 - (n + 1)) (n + 1) = Df.eqn l j a := by
   rw [← he, show 258 - n = 258 - (n + 1) + 1 by omega, Df.ego, if_pos hC0.2]
  refine Kk $ C.block $ C.region $ Km rfl $ E.addN (a := n) (b := 1) rfl rfl (by omega) rfl $ Kn rfl $ E.nil $ X.outN $ X.again1 (n + 1) (S1 rfl) rfl ⟨hM, by omega, he'⟩ (by omega)
 have hfin : Df.eqn l j a = n := by
  rw [← he]
  cases h : 258 - n with
  | zero => rfl
  | succ f => rw [Df.ego, if_neg (fun c => hC0 ⟨by omega, c⟩)]
 refine Kx $ Kb $ Km rfl $ Kc rfl $ C.ret $ ret1 rfl rfl ?_
 exact ⟨by rw [hfin], hM⟩
end Go.Proofs.YtajklleiifhipaaGreatDoor
namespace Go.Proofs.YtajklleiifhipaaGreatDoor
open Go.RowKit Sym
namespace Adler
def sums (l : List UInt8) : Nat × Nat := l.foldl (fun s c => ((s.1 + c.toNat) % 65521, (s.2 + (s.1 + c.toNat) % 65521) % 65521)) (1, 0)
def sum (l : List UInt8) : Nat := (sums l).2 * 65536 + (sums l).1
theorem sums_snoc (l : List UInt8) (c : UInt8) : sums (l ++ [c]) = (((sums l).1 + c.toNat) % 65521, ((sums l).2 + ((sums l).1 + c.toNat) % 65521) % 65521) := by simp [sums]
theorem sums_lt (l : List UInt8) : (sums l).1 < 65521 ∧ (sums l).2 < 65521 := by
 rcases List.eq_nil_or_concat l with h | ⟨m, c, h⟩
 · subst h; decide
 rw [h, List.concat_eq_append, sums_snoc]; exact ⟨Nat.mod_lt _ (by decide), Nat.mod_lt _ (by decide)⟩
theorem sums_take (l : List UInt8) (k : Nat) (h : k < l.length) : sums (l.take (k + 1)) = (((sums (l.take k)).1 + (l[k]).toNat) % 65521, ((sums (l.take k)).2 + ((sums (l.take k)).1 + (l[k]).toNat) % 65521) % 65521) := by
 rw [List.take_succ_eq_append_getElem h, sums_snoc]
end Adler
abbrev w32 (n : Nat) : Value := .int .u32 (n : Int)
theorem rem32 (a : Nat) : (a : Int).tmod 65521 = ((a % 65521 : Nat) : Int) := by rw [Int.tmod_eq_emod_of_nonneg (by omega)]; simp
theorem add32 (a b : Nat) (h : a + b < 4294967296) : IntKind.u32.wrap ((a : Int) + (b : Int)) = ((a + b : Nat) : Int) := by rw [IntWalk.u32_in _ (by omega)]; simp
theorem join32 (a b : Nat) (ha : a < 65536) (hb : b < 65536) : bits .or .u32 ((b * 65536 : Nat) : Int) (a : Int) = ((b * 65536 + a : Nat) : Int) := by
 rw [u32_or_nat _ _ (by omega) (by omega), nat_join 16 (b * 65536) a (by simp) (by simpa using ha)]
theorem shl32 (b : Nat) (hb : b < 65536) : IntKind.u32.wrap ((b : Int) * 2 ^ min (16 : Int).toNat IntKind.u32.bits) = ((b * 65536 : Nat) : Int) := by
 rw [IntKind.wrap_u32']; simp [IntKind.bits]; omega
theorem mul32 (b : Nat) (hb : b < 65536) : IntKind.u32.wrap ((b : Int) * 65536) = ((b * 65536 : Nat) : Int) := by
 rw [IntKind.wrap_u32']; omega
theorem Adler32_ret (p : Value) (l : List UInt8) (w : World) (hp : RdL u8 w p l) :
  Ret Tryz.prog 68 #[p] w fun v w' => v = w32 (Adler.sum l) ∧ w = w' := by
 have hle : l.length ≤ 9223372036854775807 := Rd.le hp
 refine enter Tryz.func68 rfl (by kernel_rfl) Tryz.ntmps68 rfl $ Kb $ Kd rfl $ Kn rfl $ Kc rfl $ C.seq $ Kb $ Km rfl $ E.len rfl hp U22 rfl $ Km rfl $ Ka $ C.block $ C.loop (G := Nat) (fun k => [(3, w32 (Adler.sums (l.take k)).1), (4, w32 (Adler.sums (l.take k)).2), (7, p), (8, i64 l.length), (9, i64 k)]) (fun k w' => k ≤ l.length ∧ w = w') (fun k => l.length - k) 0 ?_ ?_ ?_
 · exact Sub.cons rfl $ Sub.cons rfl $ Sub.cons rfl $ Sub.cons rfl $ S1 rfl
 · exact ⟨by omega, rfl⟩
 rintro k _ ⟨hk, rfl⟩
 refine Kb $ Kp rfl $ Ka $ C.seq $ C.cond' rfl (fun hc => ?_) (fun hc => ?_)
 ·
  have hk' : k < l.length := by omega
  have hb := u8_lt l[k]
  have hs := Adler.sums_take l k hk'
  have hlt := Adler.sums_lt (l.take k)
  generalize Adler.sums (l.take k) = z at hs hlt
  refine Kk $ C.seq $ C.block $ Kb $ E.get (k := k) rfl rfl hp rfl hk' U22 (by kernel_rfl) U5 rfl rfl rfl $ Kd rfl $ Kf rfl $ E.conv rfl U5 U58 (IntWalk.u32_in _ (by omega)) rfl $ E.binw rfl rfl rfl (congrArg _ (add32 _ _ (by omega))) rfl $ E.rem rfl rfl (by omega) (rem32 _) rfl $ Kc rfl $ C.region $ Kf rfl $ E.binw rfl rfl rfl (congrArg _ (add32 _ _ (by omega))) rfl $ E.rem rfl rfl (by omega) (rem32 _) rfl $ Kn rfl $ E.nil $ X.outN $ X.next $ C.region $ E.add rfl rfl (by omega) rfl $ Km rfl $ E.nil $ X.again (k + 1) (Sub.cons (by rw [hs]; rfl) $ Sub.cons (by rw [hs]; rfl) $ Sub.cons rfl $ Sub.cons rfl $ S1 rfl) ⟨by omega, rfl⟩ (by omega)
 obtain rfl : k = l.length := by omega
 have hlt := Adler.sums_lt l
 rw [List.take_length]
 refine Kx $ Kb $ Km rfl $ E.shl rfl rfl (by omega) (shl32 _ (by omega)) rfl $ Km rfl $ E.binw rfl rfl rfl (congrArg _ (join32 _ _ (by omega) (by omega))) rfl $ Kc rfl $ C.ret $ ret1 rfl rfl ?_
 exact ⟨rfl, rfl⟩
theorem rAdler32_ret (p : Value) (l : List UInt8) (w : World) (hp : RdL u8 w p l) :
  Ret Tryz.prog 51 #[p] w fun v w' => v = w32 (Adler.sum l) ∧ w = w' := by
 have hle : l.length ≤ 9223372036854775807 := Rd.le hp
 refine enter Tryz.func51 rfl (by kernel_rfl) Tryz.ntmps51 rfl $ Kb $ Kd rfl $ Kn rfl $ Kc rfl $ C.seq $ Kb $ Kc rfl $ C.block $ C.loop (G := Nat) (fun k => [(0, p), (3, w32 (Adler.sums (l.take k)).1), (4, w32 (Adler.sums (l.take k)).2), (5, i64 k)]) (fun k w' => k ≤ l.length ∧ w = w') (fun k => l.length - k) 0 ?_ ?_ ?_
 · exact Sub.cons rfl $ Sub.cons rfl $ Sub.cons rfl $ S1 rfl
 · exact ⟨by omega, rfl⟩
 rintro k _ ⟨hk, rfl⟩
 refine C.seq $ Kb $ Kf rfl $ E.len rfl hp U22 rfl $ Kp rfl $ Ka $ C.cond' rfl (fun hc => ?_) (fun hc => ?_)
 ·
  have hk' : k < l.length := by omega
  have hb := u8_lt l[k]
  have hs := Adler.sums_take l k hk'
  have hlt := Adler.sums_lt (l.take k)
  generalize Adler.sums (l.take k) = z at hs hlt
  refine Kk $ C.seq $ C.block $ Kb $ Kf rfl $ Km rfl $ E.get (k := k) rfl rfl hp rfl hk' U22 (by kernel_rfl) U5 rfl rfl rfl $ E.conv rfl U5 U58 (IntWalk.u32_in _ (by omega)) rfl $ E.binw rfl rfl rfl (congrArg _ (add32 _ _ (by omega))) rfl $ E.rem rfl rfl (by omega) (rem32 _) rfl $ Kc rfl $ C.region $ Kf rfl $ E.binw rfl rfl rfl (congrArg _ (add32 _ _ (by omega))) rfl $ E.rem rfl rfl (by omega) (rem32 _) rfl $ Kn rfl $ E.nil $ X.outN $ X.next $ C.region $ Km rfl $ E.add rfl rfl (by omega) rfl $ Kn rfl $ E.nil $ X.again (k + 1) (Sub.cons rfl $ Sub.cons (by rw [hs]; rfl) $ Sub.cons (by rw [hs]; rfl) $ S1 rfl) ⟨by omega, rfl⟩ (by omega)
 obtain rfl : k = l.length := by omega
 have hlt := Adler.sums_lt l
 rw [List.take_length]
 refine Kx $ Kb $ Km rfl $ E.binw rfl rfl rfl (congrArg _ (mul32 _ (by omega))) rfl $ Km rfl $ E.binw rfl rfl rfl (congrArg _ (add32 _ _ (by omega))) rfl $ Kc rfl $ C.ret $ ret1 rfl rfl ?_
 exact ⟨rfl, rfl⟩
end Go.Proofs.YtajklleiifhipaaGreatDoor
namespace Go.Proofs.YtajklleiifhipaaGreatDoor
open Go.RowKit Sym
theorem shr_u32 {c k : Nat} (hk : k ≤ 31) : (c : Int) / 2 ^ min ((k : Int)).toNat IntKind.u32.bits = ((c / 2 ^ k : Nat) : Int) := by
 have e1 : min ((k : Int)).toNat IntKind.u32.bits = k := by rw [Int.toNat_natCast]; simp [IntKind.bits]; omega
 rw [e1]; simp
theorem conv_u8 (n : Nat) : IntKind.u8.wrap (n : Int) = ((UInt8.ofNat n).toNat : Int) := by
 rw [IntKind.wrap_u8']; simp
theorem repeat_ret (p : Value) (out : List UInt8) (n d : Nat) (w : World) (hs : Sep w [Rg.sl u8 5 p out]) (hd1 : 1 ≤ d) (hd2 : d ≤ out.length) (hl : out.length + n ≤ 1099511627776) :
  Ret Tryz.prog 159 #[p, i64 n, i64 d] w fun v w' => M w (fpU [Rg.sl u8 5 p out]) w' [Rg.sl u8 5 v (Df.rp d out n)] := by
 have hM := M.startS hs
 refine enter Tryz.func159 rfl (by kernel_rfl) Tryz.ntmps159 rfl $ Kb $ Kc rfl $ C.seq $ Kb $ Kf rfl $ Ka $ C.block $ C.loop2 [(2, _), (7, _)] rfl (fun (k : Nat) (vo : Value) => [(0, vo), (8, i64 k)]) (fun (k : Nat) (vo : Value) w' => M w (fpU [Rg.sl u8 5 p out]) w' [Rg.sl u8 5 vo (Df.rp d out k)] ∧ k ≤ n) (fun (k : Nat) (vo : Value) => n - k) 0 p ?_ ?_ ?_
 · exact Sub.cons rfl $ S1 rfl
 · exact ⟨hM, Nat.zero_le _⟩
 rintro k vo w0 ⟨hM, hk⟩
 refine Kb $ Kp rfl $ Ka $ C.seq $ C.cond' rfl (fun hC0 => ?_) (fun hC0 => ?_)
 ·
  have hrl := Df.rp_len d out k
  refine Kk $ C.seq $ C.block $ C.region $ Kf rfl $ Km rfl $ E.lenv rfl (Rd.shape (hM.sl 0 rfl)) U22 rfl ?_
  rw [hrl]
  refine Km rfl $ E.subN (a := out.length + k) (b := d) rfl rfl (by omega) rfl $ E.get (k := out.length + k - d) rfl rfl (hM.sl 0 rfl) rfl (by omega) U22 (by kernel_rfl) U5 rfl rfl rfl $ E.pushM (enc := u8) 0 ((Df.rp d out k).getD (out.length + k - d) 0) hM rfl rfl (look_eq rfl (by rw [gdU (by omega)])) U22 elem_Tuint8 rfl (by omega) (by omega) (by simp) rfl rfl ?_
  intro v19 u19 w1 hM
  try dsimp only [Za, Zb, Zc, Zd, repl] at hM
  refine Kn rfl $ E.nil $ X.outN $ X.next $ C.region $ E.addN (a := k) (b := 1) rfl rfl (by omega) rfl $ Km rfl $ E.nil $ X.again2 (k + 1) v19 (Sub.cons rfl $ S1 rfl) rfl ⟨hM.to (by rw [Df.rp, hrl]), by omega⟩ (by omega)
 obtain rfl : k = n := by omega
 refine Kx $ Kb $ Km rfl $ Kc rfl $ C.ret $ ret1 rfl rfl ?_
 exact hM
namespace Df
def sto (l : List UInt8) : List UInt8 := [1, UInt8.ofNat l.length, UInt8.ofNat (l.length / 256), UInt8.ofNat (255 - l.length % 256), UInt8.ofNat (255 - l.length / 256 % 256)] ++ l
def ad4 (l : List UInt8) : List UInt8 := [UInt8.ofNat (Adler.sum l / 16777216), UInt8.ofNat (Adler.sum l / 65536), UInt8.ofNat (Adler.sum l / 256), UInt8.ofNat (Adler.sum l)]
end Df
theorem conv_not (n : Nat) : IntKind.u8.wrap (-1 - (n : Int)) = ((UInt8.ofNat (255 - n % 256)).toNat : Int) := by
 rw [IntKind.wrap_u8']
 have : (UInt8.ofNat (255 - n % 256)).toNat = 255 - n % 256 := by simp; omega
 rw [this]; omega
theorem shr_not (n : Nat) : (-1 - (n : Int)) / 2 ^ min (Int.toNat 8) IntKind.i64.bits = -1 - ((n / 256 : Nat) : Int) := by
 have e1 : min (Int.toNat 8) IntKind.i64.bits = 8 := rfl
 rw [e1, show (2 : Int) ^ 8 = 256 from rfl]; omega
set_option maxHeartbeats 1000000 in
theorem stored_ret (p : Value) (l : List UInt8) (w : World) (hp : RdL u8 w p l) (hl : l.length ≤ 65535) :
  Ret Tryz.prog 60 #[p] w fun v w' => M w Nn w' [Rg.sl u8 5 v (Df.sto l)] := by
 have hM := M.start w
 refine enter Tryz.func60 rfl (by kernel_rfl) Tryz.ntmps60 rfl $ Kb $ Kd rfl $ Kc rfl $ C.block $ ?_
 have hM := hM.nil u8 5
 refine C.loop1 [] rfl (fun (z : Nat) => [(0, p), (3, .slice none 0 0)]) (fun (z : Nat) w' => M w (Nn) w' [Rg.sl u8 5 (.slice none 0 0) []]) (fun (z : Nat) => z) 0 ?_ ?_ ?_
 · exact Sub.cons rfl $ S1 rfl
 · exact hM
 rintro z w0 hM
 refine C.block $ Kb $ Km rfl $ E.lenv rfl (Rd.shape (hM.arg0 hp)) U22 rfl $ E.min2 rfl rfl rfl ?_
 rw [show min (l.length : Int) 65535 = (l.length : Int) by omega]
 refine Kd rfl $ Kc rfl $ C.cut0 [(0, _), (3, _), (4, _)] rfl [(5, .int .u8 1)] (fun w' => M w (Nn) w' [Rg.sl u8 5 (.slice none 0 0) []]) ?_ ?_
 ·
  refine Kb $ Kf rfl $ E.lenv rfl (Rd.shape (hM.arg0 hp)) U22 rfl $ Kp rfl $ Ka $ C.cond' rfl (fun hC0 => ?_) (fun hC0 => ?_)
  ·
   refine C.region $ Kn rfl $ E.nil $ X.join0  (S1 rfl) rfl hM
  exact (hC0 rfl).elim
 rintro  w1 hM
 refine Kb $ Kf rfl $ Km rfl $ E.conv rfl U3 U5 (conv_u8 l.length) rfl $ Km rfl $ E.shr rfl rfl (by decide) (shr_nat (c := l.length) (k := 8) (by decide)) rfl $ E.conv rfl U3 U5 (conv_u8 (l.length / 256)) rfl $ Km rfl $ E.flip rfl (i64_not l.length (by omega)) rfl $ E.conv rfl U3 U5 (conv_not l.length) rfl $ Km rfl $ E.flip rfl (i64_not l.length (by omega)) rfl $ E.shr rfl rfl (by decide) (shr_not l.length) rfl $ E.conv rfl U3 U5 (conv_not (l.length / 256)) rfl $ E.mkM (enc := u8) (e := 5) [1, UInt8.ofNat l.length, UInt8.ofNat (l.length / 256), UInt8.ofNat (255 - l.length % 256), UInt8.ofNat (255 - l.length / 256 % 256)] hM rfl (fun _ => by kernel_rfl) rfl rfl rfl ?_
 intro v27 w2 hM
 refine E.appendM 0 hM rfl rfl rfl U22 elem_Tuint8 (hM.sl 1 rfl) (fun _ => rfl) (by simp) (by simp) rfl ?_
 intro v28 w3 hM
 refine Kd rfl $ Kf rfl $ Km rfl $ E.slcP (k := .i64) 0 l.length rfl (.inr ⟨rfl, rfl⟩) (.inl rfl) (hM.arg0 hp) U22 (by kernel_rfl) (by omega) (by omega) rfl ?_
 have hc := (hM.arg0 hp).partV (a := 0) (b := l.length) (by omega) (by omega)
 rw [show cutL 0 l.length l = l by unfold cutL; rw [List.drop_zero, Nat.sub_zero, List.take_length]] at hc
 refine E.appendM 0 hM rfl rfl rfl U22 elem_Tuint8 hc (fun _ => rfl) (by simp; omega) (by simp; omega) rfl ?_
 intro v33 w4 hM
 refine Kd rfl $ Kf rfl $ E.slcP (k' := .i64) l.length l.length rfl (.inl rfl) (.inr ⟨rfl, rfl⟩) (hM.arg0 hp) U22 (by kernel_rfl) (by omega) (by omega) rfl $ Kd rfl $ Km rfl $ Kp rfl $ Ka $ C.cond' rfl (fun hC1 => ?_) (fun hC1 => ?_)
 ·
  refine Kb $ Km rfl $ Kc rfl $ C.ret $ X.retB $ X.retT $ X.retB $ ret1 rfl rfl ?_
  exact hM.pick [0] (by decide)
 exact (hC1 rfl).elim
set_option maxHeartbeats 1000000 in
theorem sumOf_ret (p : Value) (l : List UInt8) (w : World) (hp : RdL u8 w p l) :
  Ret Tryz.prog 45 #[p] w fun v w' => v = .agg ((Df.ad4 l).map u8).toArray ∧ Ext w w' := by
 have hM := M.start w
 refine enter Tryz.func45 rfl (by kernel_rfl) Tryz.ntmps45 rfl $ Kb $ E.allocM (z := .agg #[.int .u8 0, .int .u8 0, .int .u8 0, .int .u8 0]) (cs := [.int .u8 0, .int .u8 0, .int .u8 0, .int .u8 0]) hM (by kernel_rfl) rfl rfl ?_
 intro b2 w0 hM
 refine Ke $ Km rfl $ E.call rfl rfl (Adler32_ret p l _ (hM.arg0 hp)) ?_
 rintro _ _ ⟨rfl, rfl⟩
 refine Kd rfl $ Km rfl $ E.shr rfl rfl (by decide) (shr_u32 (c := Adler.sum l) (k := 24) (by decide)) rfl $ E.conv rfl U58 U5 (conv_u8 (Adler.sum l / 16777216)) rfl $ Km rfl $ E.shr rfl rfl (by decide) (shr_u32 (c := Adler.sum l) (k := 16) (by decide)) rfl $ E.conv rfl U58 U5 (conv_u8 (Adler.sum l / 65536)) rfl $ Km rfl $ E.shr rfl rfl (by decide) (shr_u32 (c := Adler.sum l) (k := 8) (by decide)) rfl $ E.conv rfl U58 U5 (conv_u8 (Adler.sum l / 256)) rfl $ Km rfl $ E.conv rfl U58 U5 (conv_u8 (Adler.sum l)) rfl $ E.build (cs := (Df.ad4 l).map u8) rfl (by kernel_rfl) rfl $ E.storeAM 0 (cs := (Df.ad4 l).map u8) hM rfl rfl rfl (by kernel_rfl) rfl (ones rfl $ ones rfl $ ones rfl $ ones rfl $ ones_nil) ?_
 intro w2 hM
 refine Ka $ C.ret $ retA rfl rfl Tryz.underlying62 rfl (by exact hM.blk 0 rfl) (by kernel_rfl) ?_
 exact ⟨rfl, hM.toExt⟩
end Go.Proofs.YtajklleiifhipaaGreatDoor
