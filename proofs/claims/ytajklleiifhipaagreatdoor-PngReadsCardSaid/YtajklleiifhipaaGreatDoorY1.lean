/- Texts of the claim, laid together: Frame, Sym5, Sym6, SymM, Sym7, Sym8, SymQ. -/
import Derived.ProofKit
import Derived.OpenShut
import Derived.ShutString
import Derived.ChangeOld
import Derived.Deep.AppendLies
import Derived.MapKept
import Derived.WideMake
import Derived.Laws.OwnMore
import Derived.Test.YtajklleiifhipaaGreatDoorY0
set_option linter.unusedSimpArgs false
set_option linter.unusedVariables false
namespace Go.Proofs.YtajklleiifhipaaGreatDoor.Sym
open Go.RowKit Go.ChangeShapes Go.WideShapes Go.ChangeAt
theorem spot_none {w : World} {a : Addr} {u : Value} (h : w.cell? a = some u) : a.spot = none := by
  unfold World.cell? at h
  split at h
  · split at h
    · cases h
    rename_i hs; simpa using hs
  cases h
theorem read_ints {H : Type} {enc : TypeId × Value → H} {P : Program} {w : World} {r : Reach} {base b0 : Nat} {t e : TypeId} {k : IntKind} {v : Value} {d : DataW H} {ps : List MemPlace}
    (ht : P.underlying t = some (.slice e)) (he : P.underlying e = some (.int k)) (hc : P.cellsOf e = 1) (hv : Value.okWide P w r b0 t v) (h : DataW.Trod enc P w base (fun _ => true) true t v d ps) :
    ∃ zs : List Int, Rd w 1 v zs.length (zs.map (Value.int k)) ∧ ∀ z ∈ zs, (Lit.int k z).wf = true := by
  obtain ⟨a, len, cap, rfl⟩ := okWide_slice ht hv
  obtain ⟨fuel, hf⟩ := h
  rcases open_ints ht he hc hf with ⟨hcs, _⟩ | ⟨x, l, c, zs, hcs, _, hl, hm, hz, _, hcell, hwz⟩
  · simp [Value.cells] at hcs
    obtain ⟨rfl, rfl, rfl⟩ := hcs
    exact ⟨[], ⟨none, 0, rfl, Nat.le_refl _, by unfold maxLen; omega, by simp, by simp, fun j u h => by simp at h⟩, by simp⟩
  simp [Value.cells] at hcs
  obtain ⟨rfl, rfl, rfl⟩ := hcs
  have hzl : zs.length = cap := by simpa using hz
  have hlen : (zs.take len).length = len := by simp; omega
  refine ⟨zs.take len, ?_, fun z hz => hwz z (List.mem_of_mem_take hz)⟩
  rw [hlen]
  have key : ∀ j u, ((zs.take len).map (Value.int k))[j]? = some u → w.cell? (x.add j) = some u := by
    intro j u hu
    have hj : j < len := by have := (List.getElem?_eq_some_iff.1 hu).1; simp at this; omega
    rw [hcell j (by omega)]
    rw [List.getElem?_map, List.getElem?_take, if_pos hj, List.getElem?_eq_getElem (by omega)] at hu
    simp at hu
    rw [List.getD_eq_getElem?_getD, List.getElem?_eq_getElem (by omega)]
    simp [hu]
  refine ⟨some x, cap, rfl, hl, hm, by simp; omega, fun hpos => ?_, fun j u hu => ?_⟩
  · have h0 : 0 < len := by simp at hpos; omega
    have := key 0 (Value.int k (zs[0]'(by omega))) (by rw [List.getElem?_map, List.getElem?_take, if_pos h0, List.getElem?_eq_getElem (by omega)]; rfl)
    have hs := spot_none this
    simp [Addr.add] at hs
    exact ⟨x.block, x.off, by cases x; simp_all⟩
  have hu' := key j u hu
  have h0 : 0 < len := by have := (List.getElem?_eq_some_iff.1 hu).1; simp at this; omega
  have := key 0 (Value.int k (zs[0]'(by omega))) (by rw [List.getElem?_map, List.getElem?_take, if_pos h0, List.getElem?_eq_getElem (by omega)]; rfl)
  have hs := spot_none this
  simp [Addr.add] at hs
  obtain ⟨b, off, sp⟩ := x
  simp at hs
  subst hs
  rw [addr_add] at hu'
  exact hu'
theorem wf_u8 {z : Int} (h : (Lit.int .u8 z).wf = true) : 0 ≤ z ∧ z ≤ 255 := by simpa [Lit.wf, IntKind.min, IntKind.max, IntKind.signed, IntKind.bits] using h
theorem read_bytes {H : Type} {enc : TypeId × Value → H} {P : Program} {w : World} {r : Reach} {base b0 : Nat} {t e : TypeId} {v : Value} {d : DataW H} {ps : List MemPlace}
  (ht : P.underlying t = some (.slice e)) (he : P.underlying e = some (.int .u8)) (hc : P.cellsOf e = 1) (hv : Value.okWide P w r b0 t v) (h : DataW.Trod enc P w base (fun _ => true) true t v d ps) :
  ∃ l : List UInt8, RdL u8 w v l := by
 obtain ⟨zs, hR, hw⟩ := read_ints ht he hc hv h
 refine ⟨zs.map fun z => UInt8.ofNat z.toNat, ?_⟩
 unfold RdL
 have : (zs.map fun z => UInt8.ofNat z.toNat).map u8 = zs.map (Value.int .u8) := by
  rw [List.map_map]
  apply List.map_congr_left
  intro z hz
  have := wf_u8 (hw z hz)
  simp [u8]; omega
 rw [this]; simpa using hR
end Go.Proofs.YtajklleiifhipaaGreatDoor.Sym
namespace Go.Proofs.YtajklleiifhipaaGreatDoor.Sym
open Go.RowKit
abbrev Own (w : World) (B : Nat) (e : TypeId) (sz : Nat) (v : Value) (n : Nat) (cs : List Value) : Prop := w.ownsRow B e sz v n cs
def OwnL {α : Type} (enc : α → Value) (w : World) (B : Nat) (e : TypeId) (v : Value) (l : List α) : Prop := Own w B e 1 v l.length (l.map enc)
theorem Own.nil (w : World) (B : Nat) (e : TypeId) (sz : Nat) : Own w B e sz (.slice none 0 0) 0 [] := World.ownsRow_nil w B e sz
theorem OwnL.nil {α : Type} (enc : α → Value) (w : World) (B : Nat) (e : TypeId) : OwnL enc w B e (.slice none 0 0) ([] : List α) := World.ownsRow_nil w B e 1
theorem Own.rd {w : World} {B : Nat} {e : TypeId} {sz n : Nat} {v : Value} {cs : List Value} (h : Own w B e sz v n cs) : Rd w sz v n cs := by
  obtain ⟨hl, h2⟩ := h
  rcases h2 with ⟨rfl, rfl⟩ | ⟨g, cap, cur, rfl, hb, hg, hn, hm, hs, ht⟩
  · have : cs = [] := List.eq_nil_of_length_eq_zero (by simpa using hl)
    subst this
    exact ⟨none, 0, rfl, Nat.le_refl _, by unfold maxLen; omega, by simp, by simp, fun j u h => by simp at h⟩
  refine ⟨some ⟨g, 0, none⟩, cap, rfl, hn, hm, hl, fun _ => ⟨_, _, rfl⟩, fun j u hu => ?_⟩
  show w.cell? ⟨g, 0 + j, none⟩ = _
  rw [Nat.zero_add, cell_of_row w g j cur e (0, 0) hg]
  rw [← ht, List.getElem?_take] at hu
  split at hu
  · simpa using hu
  cases hu
theorem OwnL.rd {α : Type} {enc : α → Value} {w : World} {B : Nat} {e : TypeId} {v : Value} {l : List α} (h : OwnL enc w B e v l) : RdL enc w v l := Own.rd h
theorem Own.lower {w : World} {B B' : Nat} {e : TypeId} {sz n : Nat} {v : Value} {cs : List Value} (h : Own w B e sz v n cs) (hB : B' ≤ B) : Own w B' e sz v n cs := by
 obtain ⟨hl, h2⟩ := h
 refine ⟨hl, ?_⟩
 rcases h2 with h2 | ⟨g, cap, cur, hv, hb, r⟩
 · exact .inl h2
 exact .inr ⟨g, cap, cur, hv, by omega, r⟩
theorem Own.bs_eq {w : World} {B : Nat} {e : TypeId} {sz n : Nat} {v : Value} {cs : List Value} (h : Own w B e sz v n cs) (hc : 0 < cs.length) : v.ownBlock = some (bs v).1 ∧ B ≤ (bs v).1 := by
 obtain ⟨hl, h2⟩ := h
 rcases h2 with ⟨rfl, rfl⟩ | ⟨g, cap, cur, rfl, hb, r⟩
 · rw [hl] at hc; simp at hc
 exact ⟨rfl, hb⟩
def Lies (w : World) (v v' : Value) : Prop := v'.ownBlock = v.ownBlock ∨ ∃ g, v'.ownBlock = some g ∧ w.heap.size ≤ g
section
variable {P : Program} {ops : Array Oper} {Q : Exit → Act → World → Prop} {s : St} {env : Env} {w : World} {rest : List Oper}
variable {d : Nat} {ty : TypeId} {pos : String} {aft : Array Edge}
def Elem (P : Program) (e : TypeId) (sz by_ : Nat) : Prop := ∃ i z, P.info? e = some i ∧ i.zero = some z ∧ i.size = sz ∧ i.bytes = by_ ∧ z.cells.size = sz ∧ 0 < sz
theorem elem_of {P : Program} {e : TypeId} {sz by_ : Nat} {z : Value} (h : (P.info? e).map (fun i => (i.zero, i.size, i.bytes)) = some (some z, sz, by_)) (hz : z.cells.size = sz) (h0 : 0 < sz) : Elem P e sz by_ := by
 cases hq : P.info? e with
 | none => simp [hq] at h
 | some i =>
  simp [hq] at h
  exact ⟨i, z, hq, h.1, h.2.1, h.2.2, hz, h0⟩
theorem run_append_any {B : Nat} {t e : TypeId} {sz by_ n m : Nat} {v u : Value} {xs news : List Value} (ty : TypeId) (ht : P.underlying t = some (.slice e)) (hE : Elem P e sz by_)
  (hown : Own w B e sz v n xs) (hu : Rd w sz u m news) (h1 : ∀ x ∈ news, x.oneCell' = true) (h63 : n + m ≤ maxLen) (hby : (n + m) * by_ ≤ 140737488355328) (hB : B ≤ w.heap.size) :
  ∃ v' w', (Builtin.append_ #[t, t] ty #[v, u]).run P w = .ok v' w' ∧ Own w' B e sz v' (n + m) (xs ++ news) ∧ w.grownBy w' v.ownBlock ∧ Lies w v v' := by
 obtain ⟨i, z, hi, hz, hs, hb, hzs, hpos⟩ := hE
 obtain ⟨a, cap, rfl, hc, hm, hl, hsome, hat⟩ := hu
 cases a with
 | some ad =>
  have hnews : ∀ j x, news[j]? = some x → w.cell? (ad.add j) = some x := fun j x hx => by
   have hp : 0 < news.length := by have := (List.getElem?_eq_some_iff.1 hx).1; omega
   obtain ⟨b, off, hbo⟩ := hsome hp
   cases hbo
   rw [addr_add]; exact hat j x hx
  obtain ⟨v', w', hr, ho, hg, _, h5⟩ := run_append_own_at (P := P) w B t ty e i z sz by_ ht hi hz hs hb hzs hpos v n xs hown ad m cap news hl hnews h1 h63 hby hB
  exact ⟨v', w', hr, ho, hg, by rcases h5 with h5 | h5 <;> first | exact .inl h5 | exact .inr ⟨_, h5, Nat.le_refl _⟩⟩
 | none =>
  have hn0 : news = [] := by
   cases news with
   | nil => rfl
   | cons x r => obtain ⟨b, off, h⟩ := hsome (by simp); cases h
  subst hn0
  have hm0 : m = 0 := by
   rcases Nat.eq_zero_or_pos m with h | h
   · exact h
   have := Nat.mul_pos h hpos; simp at hl; omega
  subst hm0
  refine ⟨v, w, ?_, by simpa using hown, grown_refl w _, .inl rfl⟩
  obtain ⟨hl2, h2⟩ := hown
  rcases h2 with ⟨rfl, rfl⟩ | ⟨g, cap2, cur, rfl, hbb, hgg, hn2, rest⟩
  · simp [Builtin.append_, run_underlying ht, sizeOf, typeInfo, hi, Builtin.lenOf, Builtin.firstCells]
  simp [Builtin.append_, run_underlying ht, sizeOf, typeInfo, hi, Builtin.lenOf, Builtin.firstCells, hn2, storeCells]
theorem E.append {t e B : Nat} {x y : Operand} {sz by_ n m : Nat} {v u : Value} {xs news : List Value} (hx : ev env x = some v) (hy : ev env y = some u) (ht : P.underlying t = some (.slice e)) (hE : Elem P e sz by_)
  (hown : Own w B e sz v n xs) (hu : Rd w sz u m news) (h1 : ∀ x ∈ news, x.oneCell' = true) (h63 : n + m ≤ 9223372036854775807) (hby : (n + m) * by_ ≤ 140737488355328) (hB : B ≤ w.heap.size) (hd : Nat.blt d s.n = true)
  (h : ∀ v' w', Own w' B e sz v' (n + m) (xs ++ news) → w.grownBy w' v.ownBlock → Lies w v v' → wpE P ops Q s rest ((d, v') :: env) w') :
  wpE P ops Q s (⟨some d, .call ⟨.builtin .append, #[x, y], #[t, t]⟩, ty, pos, aft, none⟩ :: rest) env w := by
 obtain ⟨v', w', hr, ho, hg, hli⟩ := run_append_any (P := P) ty ht hE hown hu h1 (by unfold maxLen; omega) hby hB
 exact E.op (fun a ha => by simp [execOp, resolve, invoke, builtin, ha.ev hx, ha.ev hy, hr]) hd (h v' w' ho hg hli)
theorem fold_set (new : List Value) : ∀ (i : Nat) (pre cur : List Value), pre.length = i → cur.length = new.length →
  (new.zipIdx i).foldl (fun cs (c, j) => cs.setIfInBounds j c) (pre ++ cur).toArray = (pre ++ new).toArray := by
 induction new with
 | nil => intro i pre cur h1 h2; have : cur = [] := List.eq_nil_of_length_eq_zero (by simpa using h2); simp [this]
 | cons c r ih =>
  intro i pre cur h1 h2
  cases cur with
  | nil => simp at h2
  | cons x cur =>
   rw [List.zipIdx_cons, List.foldl_cons]
   have : ((pre ++ x :: cur).toArray.setIfInBounds i c) = ((pre ++ [c]) ++ cur).toArray := by
    rw [List.setIfInBounds_toArray]; congr 1
    rw [List.set_append_right _ _ (by omega), h1]; simp
   show List.foldl _ ((pre ++ x :: cur).toArray.setIfInBounds i c) _ = _
   rw [this, ih (i + 1) (pre ++ [c]) cur (by simp [h1]) (by simpa using h2)]
   simp
theorem run_build1 {t e : TypeId} {sz by_ : Nat} {u : Value} {cs : List Value} (ht : P.underlying t = some (.slice e)) (hE : Elem P e sz by_) (hu : u.cells = cs.toArray) (hl : cs.length = sz) (hsm : sz ≤ 16777216) (w : World) :
  (Instr.buildSlice t 1 #[(0, u)]).run P w = .ok (.slice (some ⟨w.heap.size, 0, none⟩) 1 1) (w.alloc (.cells cs.toArray e)) := by
 obtain ⟨i, z, hi, hz, hs, hb, hzs, hpos⟩ := hE
 have hne : sz ≠ 0 := by omega
 have hfill : Instr.fill (fun i => some (i * sz, sz)) ((Array.range (1 * sz)).map (z.cells[· % z.cells.size]!)) [(0, u)] = some cs.toArray := by
  have h2 : ¬ (sz ≠ sz ∨ 0 + sz > sz) := by omega
  have hf := fold_set cs 0 [] ((List.range sz).map (z.cells[· % z.cells.size]!)) rfl (by simp [hl])
  have hcs : u.cells.size = sz := by rw [hu]; simpa using hl
  have hzi : u.cells.zipIdx.toList = cs.zipIdx 0 := by rw [hu]; simp
  simp only [Instr.fill, hcs, Nat.zero_mul, Nat.zero_add, Nat.one_mul]
  have hsz2 : ((Array.range sz).map (z.cells[· % z.cells.size]!)).size = sz := by simp
  rw [hsz2]
  simp only [ne_eq, not_true_eq_false, decide_false, Nat.lt_irrefl, gt_iff_lt, Bool.or_self, Bool.false_eq_true, if_false]
  rw [← Array.foldl_toList, hzi]
  have e1 : ((Array.range sz).map (z.cells[· % z.cells.size]!)) = ([] ++ (List.range sz).map (z.cells[· % z.cells.size]!)).toArray := by
   simp [← List.toArray_range]
  rw [e1, hf]; rfl
 have hsm' : ¬ (1 * sz > 2 ^ 24) := by omega
 simp only [Instr.buildSlice]
 rw [Sem.run_bind, run_underlying ht]
 simp only [Result.andThen_ok]
 simp [sizeOf, typeInfo, hi, hs, zeroValue, hz, hne, newRow, newObj, Nat.not_lt.2 hsm]
 simp only [Nat.one_mul] at hfill
 simp [hfill]
 rfl
theorem E.push {t e B : Nat} {x y : Operand} {sz by_ n d2 : Nat} {ty2 : TypeId} {pos2 : String} {aft2 : Array Edge} {v u : Value} {xs cs : List Value} (hx : ev env x = some v) (hy : ev env y = some u) (ht : P.underlying t = some (.slice e)) (hE : Elem P e sz by_)
  (hown : Own w B e sz v n xs) (hu : u.cells = cs.toArray) (hl : cs.length = sz) (hsm : sz ≤ 4096) (h1 : ∀ x ∈ cs, x.oneCell' = true) (h63 : n + 1 ≤ 9223372036854775807) (hby : (n + 1) * by_ ≤ 140737488355328) (hB : B ≤ w.heap.size)
  (hdx : x ≠ .tmp d) (hd : Nat.blt d s.n = true) (hd2 : Nat.blt d2 s.n = true)
  (h : ∀ v' w', Own w' B e sz v' (n + 1) (xs ++ cs) → w.grownBy w' v.ownBlock → Lies w v v' → wpE P ops Q s rest ((d2, v') :: (d, .slice (some ⟨w.heap.size, 0, none⟩) 1 1) :: env) w') :
  wpE P ops Q s (⟨some d, .buildSlice t 1 #[(0, y)], ty, pos, aft, none⟩ :: ⟨some d2, .call ⟨.builtin .append, #[x, .tmp d], #[t, t]⟩, ty2, pos2, aft2, none⟩ :: rest) env w := by
 refine E.buildS (xs := [(0, y)]) (vs := [(0, u)]) (cs := cs) (by simp [evp, hy]) (run_build1 ht hE hu hl (by omega)) hd ?_
 have hx' : ev ((d, .slice (some ⟨w.heap.size, 0, none⟩) 1 1) :: env) x = some v := by
  cases x with
  | tmp k =>
   show look _ k = _
   rw [look_cons, if_neg (fun e => hdx (by rw [e]))]; exact hx
  | _ => exact hx
 refine E.append hx' (by show look _ d = _; rw [look_cons, if_pos rfl]) ht hE (hown.alloc _) (Rd.made w sz 1 e cs (0, 0) (by omega) (by unfold maxLen; omega)) h1 h63 hby (by simp; omega) hd2 fun v' w' ho hg hli => ?_
 exact h v' w' ho (grown_trans ((Ext.new w _).toGrown _) hg) (by rcases hli with hli | ⟨g, h1, h2⟩ <;> first | exact .inl hli | exact .inr ⟨g, h1, by simp at h2; omega⟩)
theorem E.appendL {α : Type} {enc : α → Value} {t e B : Nat} {x y : Operand} {by_ : Nat} {v u : Value} {l m : List α} (hx : ev env x = some v) (hy : ev env y = some u) (ht : P.underlying t = some (.slice e)) (hE : Elem P e 1 by_)
  (hown : OwnL enc w B e v l) (hu : RdL enc w u m) (h1 : ∀ a, (enc a).oneCell' = true) (h63 : l.length + m.length ≤ 9223372036854775807) (hby : (l.length + m.length) * by_ ≤ 140737488355328) (hB : B ≤ w.heap.size) (hd : Nat.blt d s.n = true)
  (h : ∀ v' w', OwnL enc w' B e v' (l ++ m) → w.grownBy w' v.ownBlock → Lies w v v' → wpE P ops Q s rest ((d, v') :: env) w') :
  wpE P ops Q s (⟨some d, .call ⟨.builtin .append, #[x, y], #[t, t]⟩, ty, pos, aft, none⟩ :: rest) env w :=
 E.append hx hy ht hE hown hu (fun z hz => by obtain ⟨a, _, rfl⟩ := List.mem_map.1 hz; exact h1 a) h63 hby hB hd fun v' w' ho hg hli => h v' w' (by unfold OwnL; rw [List.length_append, List.map_append]; exact ho) hg hli
theorem E.pushL {α : Type} {enc : α → Value} {t e B : Nat} {x y : Operand} {by_ d2 : Nat} {ty2 : TypeId} {pos2 : String} {aft2 : Array Edge} {v : Value} {l : List α} (a : α) (hx : ev env x = some v) (hy : ev env y = some (enc a)) (ht : P.underlying t = some (.slice e)) (hE : Elem P e 1 by_)
  (hown : OwnL enc w B e v l) (h1 : (enc a).oneCell' = true) (h63 : l.length + 1 ≤ 9223372036854775807) (hby : (l.length + 1) * by_ ≤ 140737488355328) (hB : B ≤ w.heap.size)
  (hdx : x ≠ .tmp d) (hd : Nat.blt d s.n = true) (hd2 : Nat.blt d2 s.n = true)
  (h : ∀ v' w', OwnL enc w' B e v' (l ++ [a]) → w.grownBy w' v.ownBlock → Lies w v v' → wpE P ops Q s rest ((d2, v') :: (d, .slice (some ⟨w.heap.size, 0, none⟩) 1 1) :: env) w') :
  wpE P ops Q s (⟨some d, .buildSlice t 1 #[(0, y)], ty, pos, aft, none⟩ :: ⟨some d2, .call ⟨.builtin .append, #[x, .tmp d], #[t, t]⟩, ty2, pos2, aft2, none⟩ :: rest) env w :=
 E.push (cs := [enc a]) hx hy ht hE hown (by cases h2 : enc a <;> rw [h2] at h1 <;> first | rfl | (simp [Value.oneCell'] at h1)) rfl (by omega) (by simpa using h1) h63 hby hB hdx hd hd2 fun v' w' ho hg hli => h v' w' (by unfold OwnL; rw [List.length_append, List.map_append]; exact ho) hg hli
theorem OwnL.set {α : Type} {enc : α → Value} {B : Nat} {e : TypeId} {v : Value} {l : List α} (h : OwnL enc w B e v l) {i : Nat} (hi : i < l.length) (x : α) : OwnL enc (w.setCell (el v i) (enc x)) B e v (l.set i x) := by
  obtain ⟨hl, h2⟩ := h
  refine ⟨by simp, ?_⟩
  rcases h2 with ⟨rfl, h0⟩ | ⟨g, cap, cur, rfl, hb, hg, hn, hm, hs, ht⟩
  · omega
  refine .inr ⟨g, cap, cur.setIfInBounds i (enc x), by simp, hb, ?_, by simpa using hn, hm, by simpa using hs, ?_⟩
  · show ((w.setCell ⟨g, 0 + i, none⟩ (enc x)).heap)[g]? = _
    rw [Nat.zero_add]; exact heap_setCell_same w g i cur e (enc x) hg
  rw [List.map_set, ← ht, List.length_set, Array.toList_setIfInBounds]
  simp only [Nat.mul_one]
  rw [List.take_set]
theorem OwnL.cellAt {α : Type} {enc : α → Value} {B : Nat} {e : TypeId} {v : Value} {l : List α} (h : OwnL enc w B e v l) {i : Nat} (hi : i < l.length) : w.cell? (el v i) = some (enc l[i]) ∧ w.frozen? (el v i) = false ∧ v.ownBlock = some (el v i).block := by
  refine ⟨h.rd.cell hi, ?_, ?_⟩
  all_goals
    obtain ⟨hl, h2⟩ := h
    rcases h2 with ⟨rfl, h0⟩ | ⟨g, cap, cur, rfl, hb, hg, r⟩
    omega
  · show w.frozen? ⟨g, 0 + i, none⟩ = false
    exact frozen_of_row w g _ cur e hg
  rfl
end
end Go.Proofs.YtajklleiifhipaaGreatDoor.Sym
namespace Go.Proofs.YtajklleiifhipaaGreatDoor.Sym
open Go.RowKit
def RdF {α : Type} (enc : α → List Value) (sz : Nat) (w : World) (v : Value) (l : List α) : Prop := (∀ a ∈ l, (enc a).length = sz) ∧ Rd w sz v l.length (l.flatMap enc)
theorem flat_at {α : Type} (enc : α → List Value) (sz : Nat) : ∀ (l : List α), (∀ a ∈ l, (enc a).length = sz) → ∀ i j (h : i < l.length) u, j < sz → (enc l[i])[j]? = some u → (l.flatMap enc)[i * sz + j]? = some u
 | [], _, i, _, h, _, _, _ => by simp at h
 | a :: l, ha, 0, j, _, u, hj, hu => by
  have := ha a (by simp)
  rw [List.flatMap_cons, List.getElem?_append_left (by omega)]; simpa using hu
 | a :: l, ha, i + 1, j, h, u, hj, hu => by
  have h1 := ha a (by simp)
  rw [List.flatMap_cons, List.getElem?_append_right (by rw [h1, Nat.succ_mul]; omega), show (i + 1) * sz + j - (enc a).length = i * sz + j by rw [h1, Nat.succ_mul]; omega]
  exact flat_at enc sz l (fun x hx => ha x (by simp [hx])) i j (by simpa using h) u hj (by simpa using hu)
section
variable {α : Type} {enc : α → List Value} {sz : Nat} {w w' : World} {v : Value} {l : List α}
theorem RdF.rd (h : RdF enc sz w v l) : Rd w sz v l.length (l.flatMap enc) := h.2
theorem RdF.ext (h : RdF enc sz w v l) (k : Ext w w') : RdF enc sz w' v l := ⟨h.1, h.2.ext k⟩
theorem RdF.shape (h : RdF enc sz w v l) : ∃ a cap, v = .slice a l.length cap := h.2.shape
theorem RdF.cell (h : RdF enc sz w v l) {i : Nat} (hi : i < l.length) (j : Nat) {u : Value} (hu : (enc l[i])[j]? = some u) : w.cell? (el v (i * sz + j)) = some u := by
 have hj : j < sz := by have := (List.getElem?_eq_some_iff.1 hu).1; rw [h.1 _ (List.getElem_mem hi)] at this; exact this
 exact h.2.cell (flat_at enc sz l h.1 i j hi u hj hu)
end
section
variable {P : Program} {ops : Array Oper} {Q : Exit → Act → World → Prop} {s : St} {env : Env} {w : World} {rest : List Oper}
variable {d : Nat} {ty : TypeId} {pos : String} {aft : Array Edge}
theorem OwnL.made1 {α : Type} (enc : α → Value) (w : World) (B : Nat) (e : TypeId) (a : α) (hB : B ≤ w.heap.size) : OwnL enc (w.alloc (.cells #[enc a] e)) B e (.slice (some ⟨w.heap.size, 0, none⟩) 1 1) [a] :=
 ⟨rfl, .inr ⟨w.heap.size, 1, #[enc a], rfl, hB, heap_alloc_new w _, Nat.le_refl 1, by decide, rfl, rfl⟩⟩
theorem E.mk1 {α : Type} {enc : α → Value} {t e : TypeId} {by_ : Nat} {x : Operand} (a : α) (hx : ev env x = some (enc a)) (ht : P.underlying t = some (.slice e)) (hE : Elem P e 1 by_) (h1 : (enc a).oneCell' = true) (B : Nat) (hB : B ≤ w.heap.size)
  (hd : Nat.blt d s.n = true) (h : ∀ v w', OwnL enc w' B e v [a] → Ext w w' → v.ownBlock = some w.heap.size → wpE P ops Q s rest ((d, v) :: env) w') : wpE P ops Q s (⟨some d, .buildSlice t 1 #[(0, x)], ty, pos, aft, none⟩ :: rest) env w :=
 E.buildS (xs := [(0, x)]) (vs := [(0, enc a)]) (e := e) (cs := [enc a]) (by simp [evp, hx]) (fun w => run_build1 ht hE (by cases h2 : enc a <;> rw [h2] at h1 <;> first | rfl | (simp [Value.oneCell'] at h1)) rfl (by decide) w) hd (h _ _ (OwnL.made1 enc w B e a hB) (Ext.new w _) rfl)
end
end Go.Proofs.YtajklleiifhipaaGreatDoor.Sym
namespace Go.Proofs.YtajklleiifhipaaGreatDoor.Sym
open Go.RowKit Go.MapKept
section
variable {P : Program} {ops : Array Oper} {Q : Exit → Act → World → Prop} {s : St} {env : Env} {w : World} {rest : List Oper}
variable {d : Nat} {ty : TypeId} {pos : String} {aft : Array Edge}
abbrev fnv (f : FuncId) (cap : List Value) : Value := .func (.func f) #[] cap.toArray
theorem E.mkfn {f : FuncId} {xs : List Operand} {vs : List Value} (hx : evl env xs = some vs) (hd : Nat.blt d s.n = true) (h : wpE P ops Q s rest ((d, fnv f vs) :: env) w) : wpE P ops Q s (⟨some d, .makeFunc (.func f) #[] xs.toArray, ty, pos, aft, none⟩ :: rest) env w :=
 E.op (fun a ha => by
  have e : xs.toArray.map a.eval = vs.toArray := by rw [List.map_toArray, ← ha.evl hx]
  simp [execOp, Instr.makeFunc]
  simpa using e) hd h
theorem E.callv {x : Operand} {f : FuncId} {xs : List Operand} {ats : Array TypeId} {vs cap : List Value} {Φ : Value → World → Prop} (hf : ev env x = some (fnv f cap)) (hx : evl env xs = some vs) (hd : Nat.blt d s.n = true) (hc : Ret P f (vs ++ cap).toArray w Φ)
  (h : ∀ v w', Φ v w' → wpE P ops Q s rest ((d, v) :: env) w') : wpE P ops Q s (⟨some d, .call ⟨.value x, xs.toArray, ats⟩, ty, pos, aft, none⟩ :: rest) env w := fun a ha =>
 wpList_plain rfl fun K hK => by
  unfold Oper.wp
  have e : xs.toArray.map a.eval = vs.toArray := by rw [List.map_toArray, ← ha.evl hx]
  have hr : (execOp a.eval ⟨some d, .call ⟨.value x, xs.toArray, ats⟩, ty, pos, aft, none⟩).run P w = .ok (.enter f (vs ++ cap).toArray) w := by
   simp only [execOp, resolve, e, ha.ev hf, Deferred.ofValue]
   have := run_callable hc.1 (vs ++ cap).toArray w
   simp [invoke]
   simpa using this
  rw [hr]
  exact Calls.mono hc.2 fun e' w' ⟨v, he, hv⟩ => by
   subst he
   exact hK _ _ (h v w' hv _ (ha.put d v hd))
end
section
variable {P : Program} {ops : Array Oper} {Q : Exit → Act → World → Prop} {s : St} {env : Env} {w : World} {rest : List Oper}
variable {d : Nat} {ty : TypeId} {pos : String} {aft : Array Edge}
theorem made_replicate (z : Value) (n : Nat) : (madeCells #[z] (n * 1)).toList = List.replicate n z := by
 apply List.ext_getElem
 · simp [madeCells]
 intro i h1 h2
 simp [madeCells, Nat.mod_one]
theorem E.make {α : Type} {enc : α → Value} {t e : TypeId} {by_ : Nat} {x : Operand} {n : Nat} (z : α) (hx : ev env x = some (.int .i64 (n : Int))) (ht : P.underlying t = some (.slice e)) (hz : (P.info? e).map (fun i => (i.zero, i.size, i.bytes)) = some (some (enc z), 1, by_)) (hc : (enc z).cells = #[enc z])
    (hby : by_ * n ≤ 281474976710656) (hn : n ≤ 9223372036854775807) (B : Nat) (hB : B ≤ w.heap.size) (hd : Nat.blt d s.n = true)
    (h : ∀ v w', OwnL enc w' B e v (List.replicate n z) → Ext w w' → v.ownBlock = some w.heap.size → w'.heap.size = w.heap.size + 1 → wpE P ops Q s rest ((d, v) :: env) w') : wpE P ops Q s (⟨some d, .makeSlice t x x, ty, pos, aft, none⟩ :: rest) env w := by
  cases hq : P.info? e with
  | none => simp [hq] at hz
  | some i =>
    simp only [hq, Option.map_some, Option.some.injEq, Prod.mk.injEq] at hz
    obtain ⟨h1, h2, h3⟩ := hz
    have hb' : (i.bytes : Int) * (n : Int) ≤ 281474976710656 := by rw [h3, ← Int.natCast_mul]; omega
    have hr := run_makeSlice (P := P) (w := w) t e i (enc z) ht hq h1 .i64 .i64 (n : Int) (n : Int) (by omega) (Int.le_refl _)
    have hr' : (Instr.makeSlice t (.int .i64 (n : Int)) (.int .i64 (n : Int))).run P w = .ok (.slice (some ⟨w.heap.size, 0, none⟩) n n) (w.alloc (.cells (madeCells (enc z).cells (n * i.size)) e)) := by
      have := run_make (P := P) w t e i (enc z) ht hq h1 .i64 .i64 (n : Int) (n : Int) (by omega) (Int.le_refl _) hb' (by omega)
      simpa using this
    rw [hc, h2] at hr'
    refine E.op (v := .slice (some ⟨w.heap.size, 0, none⟩) n n) (w' := w.alloc (.cells (madeCells #[enc z] (n * 1)) e)) (fun a ha => ?_) hd (h _ _ ?_ (Ext.new w _) rfl (World.size_alloc ..))
    · simp only [execOp, ha.ev hx]
      rw [Sem.run_bind, hr']; rfl
    refine ⟨by simp, .inr ⟨w.heap.size, n, madeCells #[enc z] (n * 1), by simp, hB, heap_alloc_new w _, by simp, by unfold maxLen; omega, by simp [madeCells], ?_⟩⟩
    rw [made_replicate]; simp
end
section
variable {α : Type}
def Mp (w : World) (r : Nat) (kk : IntKind) (enc : α → Value) (m : List (Int × α)) : Prop := ∃ es clock, w.heap[r]? = some (.map es clock) ∧ es.toList.map (fun e => (e.key, e.val)) = m.map (fun p => (Value.int kk p.1, enc p.2))
def aget (m : List (Int × α)) (k : Int) : Option α := match m with
 | [] => none
 | p :: m => if k = p.1 then some p.2 else aget m k
def aput (m : List (Int × α)) (k : Int) (v : α) : List (Int × α) := match m with
 | [] => [(k, v)]
 | p :: m => if k = p.1 then (k, v) :: m else p :: aput m k v
def adel (m : List (Int × α)) (k : Int) : List (Int × α) := match m with
 | [] => []
 | p :: m => if k = p.1 then m else p :: adel m k
theorem Mp.ext {w w' : World} {r : Nat} {kk : IntKind} {enc : α → Value} {m : List (Int × α)} (h : Mp w r kk enc m) (k : Ext w w') : Mp w' r kk enc m := by
 obtain ⟨es, c, h1, h2⟩ := h
 exact ⟨es, c, Ext.heap k h1, h2⟩
theorem Mp.lt {w : World} {r : Nat} {kk : IntKind} {enc : α → Value} {m : List (Int × α)} (h : Mp w r kk enc m) : r < w.heap.size := by
 obtain ⟨es, c, h1, h2⟩ := h
 exact (Array.getElem?_eq_some_iff.1 h1).1
abbrev mkv (e : MapEntry) : Value × Value := (e.key, e.val)
abbrev pkv (kk : IntKind) (enc : α → Value) (p : Int × α) : Value × Value := (Value.int kk p.1, enc p.2)
theorem aput_none {m : List (Int × α)} {k : Int} (h : aget m k = none) (v : α) : aput m k v = m ++ [(k, v)] := by
 induction m with
 | nil => rfl
 | cons p m ih =>
  by_cases he : k = p.1
  · simp [aget, he] at h
  simp only [aget, if_neg he] at h
  simp [aput, he, ih h]
theorem aget_aput (m : List (Int × α)) (k : Int) (v : α) (z : Int) : aget (aput m k v) z = if z = k then some v else aget m z := by
  induction m with
  | nil => simp only [aput, aget]
  | cons p m ih =>
    by_cases he : k = p.1
    · rw [aput, if_pos he, aget, aget]
      by_cases hz : z = k
      · rw [if_pos hz, if_pos hz]
      rw [if_neg hz, if_neg hz, if_neg (fun e => hz (e.trans he.symm))]
    rw [aput, if_neg he, aget, aget, ih]
    by_cases hz : z = p.1
    · rw [if_pos hz, if_pos hz, if_neg (show ¬ z = k from fun e => he (e ▸ hz))]
    rw [if_neg hz, if_neg hz]
theorem find_now {kk : IntKind} {enc : α → Value} (k : Int) : ∀ (l : List MapEntry) (m : List (Int × α)) (i : Nat), l.map mkv = m.map (pkv kk enc) →
    (aget m k = none ∧ Instr.findNow (.int kk) (.int kk k) l i = some none) ∨ (∃ v j, aget m k = some v ∧ Instr.findNow (.int kk) (.int kk k) l i = some (some (i + j, enc v)) ∧ (l[j]?).map (·.key) = some (.int kk k) ∧
      (∀ u : α, (l.modify j fun e => { e with key := .int kk k, val := enc u }).map mkv = (aput m k u).map (pkv kk enc)) ∧ (l.eraseIdx j).map mkv = (adel m k).map (pkv kk enc))
  | [], [], i, _ => .inl ⟨rfl, rfl⟩
  | [], _ :: _, i, h => by simp at h
  | _ :: _, [], i, h => by simp at h
  | e :: l, p :: m, i, h => by
    simp only [List.map_cons, List.cons.injEq, Prod.mk.injEq] at h
    obtain ⟨⟨hk, hv⟩, ht⟩ := h
    by_cases he : k = p.1
    · refine .inr ⟨p.2, 0, by simp [aget, he], by simp [Instr.findNow, Instr.sameNow, hk, he, hv], by simp [hk, he], fun u => ?_, ?_⟩
      · simp [aput, he]; exact ht
      simp [adel, he]; exact ht
    have hb : (k == p.1) = false := by simpa using he
    rcases find_now k l m (i + 1) ht with ⟨h1, h2⟩ | ⟨v, j, h1, h3, h4, h5, h6⟩
    · exact .inl ⟨by simp [aget, he, h1], by simp [Instr.findNow, Instr.sameNow, hk, hb, h2]⟩
    refine .inr ⟨v, j + 1, by simp [aget, he, h1], ?_, by simpa using h4, fun u => ?_, ?_⟩
    · simp only [Instr.findNow, Instr.sameNow, hk, if_true, hb, h3]
      congr 3; omega
    · simp only [List.modify_succ_cons, List.map_cons, aput, if_neg he, h5 u]; rw [mkv, hk, hv]
    simp only [List.eraseIdx_cons_succ, List.map_cons, adel, if_neg he, h6]; rw [mkv, hk, hv]
section
variable {P : Program} {ops : Array Oper} {Q : Exit → Act → World → Prop} {s : St} {env : Env} {w : World} {rest : List Oper}
variable {d : Nat} {ty : TypeId} {pos : String} {aft : Array Edge}
theorem isKey_int (kk : IntKind) (k : Int) : IsKey (.int kk) (.int kk k) := by unfold IsKey; rfl
theorem Mp.new (w : World) (kk : IntKind) (enc : α → Value) : Mp (w.alloc (.map #[] 0)) w.heap.size kk enc [] := ⟨#[], 0, heap_alloc_new w _, rfl⟩
theorem E.mkmap {t : TypeId} (kk : IntKind) (enc : α → Value) (hd : Nat.blt d s.n = true) (h : ∀ w', Mp w' w.heap.size kk enc [] → Ext w w' → w'.heap.size = w.heap.size + 1 → wpE P ops Q s rest ((d, .map (some w.heap.size)) :: env) w') : wpE P ops Q s (⟨some d, .makeMap t none, ty, pos, aft, none⟩ :: rest) env w :=
 E.op (w' := w.alloc (.map #[] 0)) (fun a ha => by
  simp only [execOp, Option.map_none]
  rw [Sem.run_bind, run_makeMap_plain]; rfl) hd (h _ (Mp.new w kk enc) (Ext.new w _) (World.size_alloc ..))
theorem run_lookup {t kt et : TypeId} {kk : IntKind} {enc : α → Value} {m : List (Int × α)} {r : Nat} {k : Int} {z : Value} (ht : P.underlying t = some (.map kt et)) (hk : P.underlying kt = some (.int kk)) (hz : (P.info? et).bind (·.zero) = some z) (hm : Mp w r kk enc m) (ok : Bool) :
    (Instr.lookup t (.map (some r)) (.int kk k) ok).run P w = .ok (if ok then .tuple #[((aget m k).map enc).getD z, .bool (aget m k).isSome] else ((aget m k).map enc).getD z) w := by
  obtain ⟨es, clock, h1, h2⟩ := hm
  have hck := run_checkKey (P := P) (w := w) hk (isKey_int kk k) es.isEmpty 9999
  rcases find_now (enc := enc) k es.toList m 0 h2 with ⟨h3, h4⟩ | ⟨v, j, h3, h4, _⟩
  · have hf := run_findKey (P := P) (w := w) hk h4
    cases hq : P.info? et with
    | none => simp [hq] at hz
    | some i =>
      have hz' : i.zero = some z := by simpa [hq] using hz
      simp [Instr.lookup, run_underlying ht, MapKept.run_getObj_map h1, hck, hf, h3, zeroValue, typeInfo, hq, hz']
  have hf := run_findKey (P := P) (w := w) hk h4
  simp [Instr.lookup, run_underlying ht, MapKept.run_getObj_map h1, hck, hf, h3]
theorem setMap_grown {w : World} {r : Nat} (o : Obj) : w.grownBy { w with heap := w.heap.setIfInBounds r o } (some r) :=
 ⟨rfl, rfl, rfl, by simp, fun i hi hne => by
  have : r ≠ i := fun e => hne (by rw [e])
  simp [this]⟩
theorem E.mput {t kt et : TypeId} {kk : IntKind} {enc : α → Value} {m : List (Int × α)} {r : Nat} {k : Int} {x y z : Operand} (u : α) (hx : ev env x = some (.map (some r))) (hy : ev env y = some (.int kk k)) (hz : ev env z = some (enc u)) (ht : P.underlying t = some (.map kt et)) (hk : P.underlying kt = some (.int kk)) (hm : Mp w r kk enc m)
    (h : ∀ w', Mp w' r kk enc (aput m k u) → w.grownBy w' (some r) → w'.heap.size = w.heap.size → wpE P ops Q s rest env w') : wpE P ops Q s (⟨none, .mapUpdate t x y z, ty, pos, aft, none⟩ :: rest) env w := by
  obtain ⟨es, clock, h1, h2⟩ := hm
  have hck := run_checkKey (P := P) (w := w) hk (isKey_int kk k) false 9999
  have hlt : r < w.heap.size := (Array.getElem?_eq_some_iff.1 h1).1
  rcases find_now (enc := enc) k es.toList m 0 h2 with ⟨h3, h4⟩ | ⟨v, j, h3, h4, h5, h6, _⟩
  · have hf := run_findKey (P := P) (w := w) hk h4
    refine E.op0 (w' := { w with heap := w.heap.setIfInBounds r (.map (es.push { key := .int kk k, val := enc u, born := clock }) (clock + 1)) }) (fun a ha => ?_) (h _ ⟨_, _, (heap_set h1).1, ?_⟩ (setMap_grown _) (by simp))
    · simp [execOp, ha.ev hx, ha.ev hy, ha.ev hz, Instr.mapUpdate, run_underlying ht, MapKept.run_getObj_map h1, hck, hf, MapKept.run_setObj_map _ h1]
    rw [aput_none h3]; simp [h2]
  have hf := run_findKey (P := P) (w := w) hk h4
  have hkey : ((es[j]?).map (·.key)).getD (.int kk k) = .int kk k := by
    have : es[j]? = es.toList[j]? := by simp
    rw [this]
    cases hq : es.toList[j]? with
    | none => rfl
    | some e => rw [hq] at h5; simpa using h5
  have hst := run_keyThatStays (P := P) (w := w) (isKey_int kk k)
  refine E.op0 (w' := { w with heap := w.heap.setIfInBounds r (.map (es.modify j fun e => { e with key := .int kk k, val := enc u }) clock) }) (fun a ha => ?_) (h _ ⟨_, _, (heap_set h1).1, ?_⟩ (setMap_grown _) (by simp))
  · have h0 : 0 + j = j := Nat.zero_add j
    rw [h0] at hf
    simp only [execOp, ha.ev hx, ha.ev hy, ha.ev hz, Instr.mapUpdate]
    simp [run_underlying ht, MapKept.run_getObj_map h1, hck, hf, hkey, hst, MapKept.run_setObj_map _ h1]
  simpa using h6 u
end
end
end Go.Proofs.YtajklleiifhipaaGreatDoor.Sym
namespace Go.Proofs.YtajklleiifhipaaGreatDoor.Sym
open Go.RowKit
theorem leaf_f {p : Prop} [Decidable p] (h : ¬ p) : some (Value.bool false) = some (Value.bool (decide p)) := by rw [decide_eq_false h]
theorem leaf_t {p : Prop} [Decidable p] (h : p) : some (Value.bool true) = some (Value.bool (decide p)) := by rw [decide_eq_true h]
theorem leaf_d {p q : Prop} [Decidable p] [Decidable q] (h : p ↔ q) : some (Value.bool (decide p)) = some (Value.bool (decide q)) := by rw [decide_eq_decide.2 h]
section
variable {P : Program} {ops : Array Oper} {Q : Exit → Act → World → Prop} {s : St} {env : Env} {w : World} {rest : List Oper}
variable {d : Nat} {ty : TypeId} {pos : String} {aft : Array Edge}
theorem E.split {l : List Oper} {b : Bool} (t : Nat) (hb : look env t = some (.bool b)) (ht : b = true → wpE P ops Q s l ((t, .bool true) :: env) w) (hf : b = false → wpE P ops Q s l ((t, .bool false) :: env) w) : wpE P ops Q s l env w := by
 cases b with
 | true => exact E.sub (Sub.cons hb (Sub.refl env)) (ht rfl)
 | false => exact E.sub (Sub.cons hb (Sub.refl env)) (hf rfl)
abbrev pv (b : Nat) : Value := .pointer (some ⟨b, 0, none⟩)
theorem E.boxB {T : TypeId} {x : Operand} {v : Value} {cs : List Value} (hx : ev env x = some v) (hc : v.cells = cs.toArray) (hd : Nat.blt d s.n = true)
  (h : ∀ w', Blk w' w.heap.size T cs.toArray → Ext w w' → w'.heap.size = w.heap.size + 1 → wpE P ops Q s rest ((d, pv w.heap.size) :: env) w') : wpE P ops Q s (⟨some d, .box T x, ty, pos, aft, none⟩ :: rest) env w :=
 E.box hx hd (by rw [hc]; exact h _ (Blk.new w T cs.toArray) (Ext.new w _) (World.size_alloc ..))
theorem E.allocB {T : TypeId} {z : Value} {cs : List Value} (hz : (zeroValue T).run P w = .ok z w) (hc : z.cells = cs.toArray) (hd : Nat.blt d s.n = true)
  (h : ∀ w', Blk w' w.heap.size T cs.toArray → Ext w w' → w'.heap.size = w.heap.size + 1 → wpE P ops Q s rest ((d, pv w.heap.size) :: env) w') : wpE P ops Q s (⟨some d, .alloc T, ty, pos, aft, none⟩ :: rest) env w :=
 E.alloc hz hd (by rw [hc]; exact h _ (Blk.new w T cs.toArray) (Ext.new w _) (World.size_alloc ..))
theorem E.storeB {t T : TypeId} {x y : Operand} {b : Nat} {u old : Value} (hx : ev env x = some (pv b)) (hy : ev env y = some u) (hs : (P.info? t).map (·.size) = some 1) (h1 : u.oneCell' = true) (hb : Blk w b T #[old])
  (h : ∀ w', Blk w' b T #[u] → w.grownBy w' (some b) → w'.heap.size = w.heap.size → wpE P ops Q s rest env w') : wpE P ops Q s (⟨none, .store t x y, ty, pos, aft, none⟩ :: rest) env w :=
 E.store hx hy hs h1 (hb.cell 0) (hb.frozen 0) (h _ (hb.set 0 u) (grown_set w ⟨b, 0, none⟩ u) (by simp))
theorem E.storeBA {t T : TypeId} {x y : Operand} {b : Nat} {cs : List Value} {cur : Array Value} (hx : ev env x = some (pv b)) (hy : ev env y = some (.agg cs.toArray)) (hs : (P.info? t).map (·.size) = some cs.length) (hb : Blk w b T cur) (hl : cur.size = cs.length) (h1 : ∀ u ∈ cs, u.oneCell' = true)
  (h : ∀ w', Blk w' b T cs.toArray → w.grownBy w' (some b) → w'.heap.size = w.heap.size → wpE P ops Q s rest env w') : wpE P ops Q s (⟨none, .store t x y, ty, pos, aft, none⟩ :: rest) env w :=
 E.storeA hx hy hs hb (by omega) h1 (by
  rw [splice_all cur cs hl]
  exact h _ (hb.setRow _) ⟨rfl, rfl, rfl, by simp [World.setRow], fun i hi hne => by
   have : b ≠ i := fun e => hne (by rw [e])
   simp [World.setRow, Array.getElem?_modify, this]⟩ (by simp [World.setRow]))
theorem E.varB {t T ty2 : TypeId} {y : Operand} {u z : Value} {pos2 : String} {aft2 : Array Edge} (hz : (zeroValue T).run P w = .ok z w) (hc : z.cells = #[z]) (hd : Nat.blt d s.n = true) (hy : ev ((d, pv w.heap.size) :: env) y = some u) (hs : (P.info? t).map (·.size) = some 1) (h1 : u.oneCell' = true)
  (h : ∀ w', Blk w' w.heap.size T #[u] → Ext w w' → w'.heap.size = w.heap.size + 1 → wpE P ops Q s rest ((d, pv w.heap.size) :: env) w') : wpE P ops Q s (⟨some d, .alloc T, ty, pos, aft, none⟩ :: ⟨none, .store t (.tmp d) y, ty2, pos2, aft2, none⟩ :: rest) env w :=
 E.allocB (cs := [z]) hz hc hd fun w1 hb1 hx1 hs1 => E.storeB (by show look _ d = _; rw [look_cons, if_pos rfl]) hy hs h1 hb1 fun w2 hb2 hg2 hs2 => h w2 hb2 (hx1.ofGrown hg2 (Nat.le_refl _)) (by omega)
end
end Go.Proofs.YtajklleiifhipaaGreatDoor.Sym
namespace Go.Proofs.YtajklleiifhipaaGreatDoor.Sym
open Go.RowKit
theorem Own.at {w : World} {B : Nat} {e : TypeId} {sz n : Nat} {v : Value} {cs : List Value} (h : Own w B e sz v n cs) {j : Nat} (hj : j < cs.length) : w.cell? (el v j) = some cs[j] ∧ w.frozen? (el v j) = false ∧ v.ownBlock = some (el v j).block := by
  refine ⟨h.rd.cell (List.getElem?_eq_getElem hj), ?_, ?_⟩
  all_goals
    obtain ⟨hl, h2⟩ := h
    rcases h2 with ⟨rfl, h0⟩ | ⟨g, cap, cur, rfl, hb, hg, r⟩
    subst h0; simp at hl; subst hl; simp at hj
  · show w.frozen? ⟨g, 0 + j, none⟩ = false
    exact frozen_of_row w g _ cur e hg
  rfl
section
variable {α : Type}
def OwnF (enc : α → List Value) (sz : Nat) (w : World) (B : Nat) (e : TypeId) (v : Value) (l : List α) : Prop := (∀ a ∈ l, (enc a).length = sz) ∧ Own w B e sz v l.length (l.flatMap enc)
variable {enc : α → List Value} {sz : Nat} {w w' : World} {B : Nat} {e : TypeId} {v : Value} {l : List α}
theorem OwnF.nil (enc : α → List Value) (sz : Nat) (w : World) (B : Nat) (e : TypeId) : OwnF enc sz w B e (.slice none 0 0) ([] : List α) := ⟨by simp, Own.nil w B e sz⟩
theorem OwnF.rd (h : OwnF enc sz w B e v l) : RdF enc sz w v l := ⟨h.1, Own.rd h.2⟩
end
section
variable {P : Program} {ops : Array Oper} {Q : Exit → Act → World → Prop} {s : St} {env : Env} {w : World} {rest : List Oper}
variable {d : Nat} {ty : TypeId} {pos : String} {aft : Array Edge}
theorem E.pushF {α : Type} {enc : α → List Value} {t e B : Nat} {x y : Operand} {sz by_ d2 : Nat} {ty2 : TypeId} {pos2 : String} {aft2 : Array Edge} {v : Value} {l : List α} (a : α) (hx : ev env x = some v) (hy : ev env y = some (.agg (enc a).toArray)) (ht : P.underlying t = some (.slice e)) (hE : Elem P e sz by_)
    (hown : OwnF enc sz w B e v l) (hl : (enc a).length = sz) (hsm : sz ≤ 4096) (h1 : ∀ x ∈ enc a, x.oneCell' = true) (h63 : l.length + 1 ≤ 9223372036854775807) (hby : (l.length + 1) * by_ ≤ 140737488355328) (hB : B ≤ w.heap.size)
    (hdx : x ≠ .tmp d) (hd : Nat.blt d s.n = true) (hd2 : Nat.blt d2 s.n = true)
    (h : ∀ v' w', OwnF enc sz w' B e v' (l ++ [a]) → w.grownBy w' v.ownBlock → Lies w v v' → wpE P ops Q s rest ((d2, v') :: (d, .slice (some ⟨w.heap.size, 0, none⟩) 1 1) :: env) w') :
    wpE P ops Q s (⟨some d, .buildSlice t 1 #[(0, y)], ty, pos, aft, none⟩ :: ⟨some d2, .call ⟨.builtin .append, #[x, .tmp d], #[t, t]⟩, ty2, pos2, aft2, none⟩ :: rest) env w :=
  E.push (cs := enc a) hx hy ht hE hown.2 rfl hl hsm h1 h63 hby hB hdx hd hd2 fun v' w' ho hg hli => h v' w' ⟨fun b hb => by
    rcases List.mem_append.1 hb with hb | hb
    · exact hown.1 b hb
    · have : b = a := by simpa using hb
      subst this; exact hl, by
    rw [List.length_append, List.flatMap_append]
    simpa using ho⟩ hg hli
end
end Go.Proofs.YtajklleiifhipaaGreatDoor.Sym
namespace Go.Proofs.YtajklleiifhipaaGreatDoor.Sym
open Go.RowKit
def wpQ (P : Program) (ops : Array Oper) (w : World) (Qn : Act → Prop) (s : St) (l : List Oper) (env : Env) : Prop := ∀ a, Sat s a env → wpQuiet P ops (Ext w) Qn l a
section
variable {P : Program} {ops : Array Oper} {Q : Exit → Act → World → Prop} {Qn : Act → Prop} {s : St} {env : Env} {w : World} {rest : List Oper}
variable {d : Nat} {ty : TypeId} {pos : String} {aft : Array Edge}
theorem C.drawn {id : Nat} {l : List Oper} (hm : P.follows .mixedOrders = true) (hB : Region.lexB .any l.toArray = true) (h : wpQ P l.toArray w (fun a' => ∀ w', Ext w w' → Q .normal a' w') s l env) : wpC P (.region id l.toArray true) Q s env w :=
 fun a ha => wp_region_quiet (C := Ext w) hm hB (Ext.refl w).drew (h a ha)
theorem Q.nil (h : ∀ w', Ext w w' → wpX .normal Q s env w') : wpQ P ops w (fun a' => ∀ w', Ext w w' → Q .normal a' w') s [] env := fun a ha => wpQuiet_nil fun w' hw' => h w' hw' a ha
theorem wpQuiet_one {o : Oper} {a : Act} (hg : o.guard = none) (h : o.quiet P a (Ext w) (wpQuiet P ops (Ext w) Qn rest)) : wpQuiet P ops (Ext w) Qn (o :: rest) a := by
 unfold wpQuiet
 rw [if_pos (by simp [Region.wanted, hg])]; exact h
theorem Q.op {op : Op} {v : Value} (hrun : ∀ w', Ext w w' → ∀ a, Sat s a env → (execOp a.eval ⟨some d, op, ty, pos, aft, none⟩).run P w' = .ok (.value v) w')
  (hd : Nat.blt d s.n = true) (h : wpQ P ops w Qn s rest ((d, v) :: env)) : wpQ P ops w Qn s (⟨some d, op, ty, pos, aft, none⟩ :: rest) env := fun a ha =>
 wpQuiet_one rfl ⟨v, fun w' hw' => by unfold Oper.quietAt; rw [hrun w' hw' a ha]; exact ⟨rfl, rfl⟩, h _ (ha.put d v hd)⟩
theorem Q.call {f : FuncId} {xs : List Operand} {ats : Array TypeId} {vs : List Value} {v : Value} (hx : evl env xs = some vs) (hd : Nat.blt d s.n = true) (hc : ∀ w', Ext w w' → Ret P f vs.toArray w' fun u w'' => u = v ∧ Ext w' w'')
  (h : wpQ P ops w Qn s rest ((d, v) :: env)) : wpQ P ops w Qn s (⟨some d, .call ⟨.value (.func f), xs.toArray, ats⟩, ty, pos, aft, none⟩ :: rest) env := fun a ha =>
 wpQuiet_one rfl ⟨v, fun w' hw' => by
  unfold Oper.quietAt
  have hr : (execOp a.eval ⟨some d, .call ⟨.value (.func f), xs.toArray, ats⟩, ty, pos, aft, none⟩).run P w' = .ok (.enter f vs.toArray) w' := by
   simp [execOp, resolve, invoke, Act.eval, Deferred.ofValue, ha.evl hx, run_callable (hc w' hw').1]
  rw [hr]
  exact ⟨rfl, Calls.mono (hc w' hw').2 fun e w'' ⟨u, he, hu, hw''⟩ => ⟨by rw [he, hu], Ext.trans hw' hw''⟩⟩, h _ (ha.put d v hd)⟩
theorem Q.on {dst : Option Nat} {op : Op} {j sl : Nat} {b : Bool} (hs : (ops[j]?).bind (·.dst) = some sl) (hb : look env sl = some (.bool b))
  (h : wpQ P ops w Qn s (⟨dst, op, ty, pos, aft, none⟩ :: rest) env) : wpQ P ops w Qn s (⟨dst, op, ty, pos, aft, some (j, b)⟩ :: rest) env := fun a ha => by
 have h1 := h a ha
 unfold wpQuiet at h1 ⊢
 have hy : yielded ops a.tmps j = some b := by simp [yielded, hs, ha.get sl _ hb]
 simp only [Region.wanted, hy, beq_self_eq_true, if_true] at h1 ⊢
 exact h1
theorem Q.off {op : Op} {j sl : Nat} {b c : Bool} (hs : (ops[j]?).bind (·.dst) = some sl) (hb : look env sl = some (.bool c)) (hne : (c == b) = false) (hd : Nat.blt d s.n = true)
  (h : wpQ P ops w Qn s rest ((d, undef) :: env)) : wpQ P ops w Qn s (⟨some d, op, ty, pos, aft, some (j, b)⟩ :: rest) env := fun a ha => by
 have hy : yielded ops a.tmps j = some c := by simp [yielded, hs, ha.get sl _ hb]
 unfold wpQuiet
 simp only [Region.wanted, hy]
 have : (some c == some b) = false := by simpa using hne
 simp only [this]
 exact h _ (ha.put d undef hd)
theorem Q.lenv {t e : TypeId} {x : Operand} {n : Nat} {v : Value} (hx : ev env x = some v) (hR : ∃ a cap, v = .slice a n cap) (ht : P.underlying t = some (.slice e)) (hd : Nat.blt d s.n = true)
  (h : wpQ P ops w Qn s rest ((d, .int .i64 (n : Int)) :: env)) : wpQ P ops w Qn s (⟨some d, .call ⟨.builtin .len, #[x], #[t]⟩, ty, pos, aft, none⟩ :: rest) env := by
 obtain ⟨a, cap, rfl⟩ := hR
 exact Q.op (fun w' _ a' ha => by simp [execOp, resolve, invoke, builtin, Builtin.len_, run_underlying ht, goInt, ha.ev hx]) hd h
theorem Q.idx {t e : TypeId} {x ix : Operand} {k : IntKind} {i : Int} {sz n : Nat} {v : Value} {cs : List Value} (hx : ev env x = some v) (hi : ev env ix = some (.int k i)) (hR : Rd w sz v n cs)
  (ht : P.underlying t = some (.slice e)) (hs : (P.info? e).map (·.size) = some sz) (h0 : 0 ≤ i) (h1 : i < n) (hsz : 0 < sz) (hd : Nat.blt d s.n = true)
  (h : wpQ P ops w Qn s rest ((d, .pointer (some (el v (i.toNat * sz)))) :: env)) : wpQ P ops w Qn s (⟨some d, .indexAddr t x ix, ty, pos, aft, none⟩ :: rest) env := by
 obtain ⟨a, cap, rfl, hc1, hc2, hl, ha0, hat⟩ := hR
 have hpos : 0 < cs.length := by rw [hl]; exact Nat.mul_pos (by omega) hsz
 obtain ⟨b, off, rfl⟩ := ha0 hpos
 refine Q.op (fun w' _ a' ha => ?_) hd h
 cases hq : P.info? e with
 | none => simp [hq] at hs
 | some inf =>
  have hs' : inf.size = sz := by simpa [hq] using hs
  simp [execOp, ha.ev hx, ha.ev hi, Instr.indexAt, asIntOf, run_underlying ht, sizeOf, typeInfo, hq, hs', h0, h1, addr_add, el, bs]
theorem Q.load {t : TypeId} {x : Operand} {ad : Addr} {u : Value} {ds : TypeDesc} (hx : ev env x = some (.pointer (some ad))) (ht : P.underlying t = some ds) (hna : (match ds with | .struct _ | .array _ _ => true | _ => false) = false)
  (hc : w.cell? ad = some u) (hd : Nat.blt d s.n = true) (h : wpQ P ops w Qn s rest ((d, u) :: env)) : wpQ P ops w Qn s (⟨some d, .load t x, ty, pos, aft, none⟩ :: rest) env :=
 Q.op (fun w' hw' a' ha => by
  have hc' : w'.cell? ad = some u := by rw [hw'.cell (World.block_lt_of_cell? w ad hc)]; exact hc
  have hagg : (isAgg t).run P w' = .ok false w' := by
   unfold isAgg
   rw [Sem.run_bind, run_underlying ht w']
   cases ds <;> simp_all
  simp [execOp, ha.ev hx, Instr.loadAt, Instr.sureAddr, loadVar, hagg, hc']) hd h
theorem Q.mv {x : Operand} {v : Value} (hx : ev env x = some v) (hd : Nat.blt d s.n = true) (h : wpQ P ops w Qn s rest ((d, v) :: env)) : wpQ P ops w Qn s (⟨some d, .move x, ty, pos, aft, none⟩ :: rest) env :=
 Q.op (fun w' _ a ha => by simp [execOp, ha.ev hx]) hd h
theorem Q.asg {x : Operand} {v : Value} (hx : ev env x = some v) (hd : Nat.blt d s.n = true) (h : wpQ P ops w Qn s rest ((d, v) :: env)) : wpQ P ops w Qn s (⟨some d, .assign x, ty, pos, aft, none⟩ :: rest) env :=
 Q.op (fun w' _ a ha => by simp [execOp, ha.ev hx]) hd h
theorem Q.pick {c x y : Operand} {b : Bool} {v : Value} (hc : ev env c = some (.bool b)) (hx : (bif b then ev env x else ev env y) = some v) (hd : Nat.blt d s.n = true) (h : wpQ P ops w Qn s rest ((d, v) :: env)) : wpQ P ops w Qn s (⟨some d, .pick c x y, ty, pos, aft, none⟩ :: rest) env :=
 Q.op (fun w' _ a ha => by cases b <;> simp at hx <;> simp [execOp, ha.ev hc, ha.ev hx, asBool]) hd h
theorem Q.bin {op : BinOp} {t t2 : TypeId} {x y : Operand} {k : IntKind} {a b : Int} {v : Value} (hx : ev env x = some (.int k a)) (hy : ev env y = some (.int k b)) (hv : iop op k a b = some v)
  (hd : Nat.blt d s.n = true) (h : wpQ P ops w Qn s rest ((d, v) :: env)) : wpQ P ops w Qn s (⟨some d, .binOp op t x y t2, ty, pos, aft, none⟩ :: rest) env :=
 Q.op (fun w' _ a ha => by
  have := run_iop (P := P) t x y hv w'
  simp only [execOp, ha.ev hx, ha.ev hy]
  rw [Sem.run_bind, this]; rfl) hd h
theorem Q.quo {t t2 : TypeId} {x y : Operand} {k : IntKind} {a b c : Int} (hx : ev env x = some (.int k a)) (hy : ev env y = some (.int k b)) (hb : b ≠ 0) (hr : k.wrap (a.tdiv b) = c)
  (hd : Nat.blt d s.n = true) (h : wpQ P ops w Qn s rest ((d, .int k c) :: env)) : wpQ P ops w Qn s (⟨some d, .binOp .quo t x y t2, ty, pos, aft, none⟩ :: rest) env :=
 Q.op (fun w' _ a ha => by simp [execOp, ha.ev hx, ha.ev hy, eqGuard, binOp, Op.intDiv, hb, hr]) hd h
theorem Q.rem {t t2 : TypeId} {x y : Operand} {k : IntKind} {a b c : Int} (hx : ev env x = some (.int k a)) (hy : ev env y = some (.int k b)) (hb : b ≠ 0) (hr : a.tmod b = c)
  (hd : Nat.blt d s.n = true) (h : wpQ P ops w Qn s rest ((d, .int k c) :: env)) : wpQ P ops w Qn s (⟨some d, .binOp .rem t x y t2, ty, pos, aft, none⟩ :: rest) env :=
 Q.op (fun w' _ a ha => by simp [execOp, ha.ev hx, ha.ev hy, eqGuard, binOp, Op.intDiv, hb, hr]) hd h
theorem Q.shl {t t2 : TypeId} {x y : Operand} {k yk : IntKind} {a b c : Int} (hx : ev env x = some (.int k a)) (hy : ev env y = some (.int yk b)) (hb : 0 ≤ b) (hr : k.wrap (a * 2 ^ min b.toNat k.bits) = c)
  (hd : Nat.blt d s.n = true) (h : wpQ P ops w Qn s rest ((d, .int k c) :: env)) : wpQ P ops w Qn s (⟨some d, .binOp .shl t x y t2, ty, pos, aft, none⟩ :: rest) env :=
 Q.op (fun w' _ a ha => by
  have hb' : ¬ b < 0 := by omega
  simp [execOp, ha.ev hx, ha.ev hy, eqGuard, binOp, Op.shift, hb', hr]) hd h
theorem Q.shr {t t2 : TypeId} {x y : Operand} {k yk : IntKind} {a b c : Int} (hx : ev env x = some (.int k a)) (hy : ev env y = some (.int yk b)) (hb : 0 ≤ b) (hr : a / 2 ^ min b.toNat k.bits = c)
  (hd : Nat.blt d s.n = true) (h : wpQ P ops w Qn s rest ((d, .int k c) :: env)) : wpQ P ops w Qn s (⟨some d, .binOp .shr t x y t2, ty, pos, aft, none⟩ :: rest) env :=
 Q.op (fun w' _ a' ha => by
  have hs := shift_shr_any k yk a b hb
  simp [execOp, ha.ev hx, ha.ev hy, eqGuard, binOp, hs, hr]) hd h
theorem Q.conv {x : Operand} {src dst : TypeId} {ds : TypeDesc} {k0 k : IntKind} {a c : Int} (hx : ev env x = some (.int k0 a)) (hs : P.underlying src = some ds) (ht : P.underlying dst = some (.int k)) (hr : k.wrap a = c)
  (hd : Nat.blt d s.n = true) (h : wpQ P ops w Qn s rest ((d, .int k c) :: env)) : wpQ P ops w Qn s (⟨some d, .convert src dst x, ty, pos, aft, none⟩ :: rest) env :=
 Q.op (fun w' _ a ha => by simp [execOp, ha.ev hx, convert, run_underlying hs, run_underlying ht, Conv.intToInt, hr]) hd h
theorem Q.ext {x : Operand} {i : Nat} {vs : List Value} {v : Value} (hx : ev env x = some (.tuple vs.toArray)) (hv : vs[i]? = some v) (hd : Nat.blt d s.n = true) (h : wpQ P ops w Qn s rest ((d, v) :: env)) : wpQ P ops w Qn s (⟨some d, .extract x i, ty, pos, aft, none⟩ :: rest) env :=
 Q.op (fun w' _ a ha => by simp [execOp, ha.ev hx, Instr.extract, hv]) hd h
theorem Q.nilc {x : Operand} {a : Addr} (hx : ev env x = some (.pointer (some a))) (hd : Nat.blt d s.n = true) (h : wpQ P ops w Qn s rest ((d, .pointer (some a)) :: env)) : wpQ P ops w Qn s (⟨some d, .nilCheck x, ty, pos, aft, none⟩ :: rest) env :=
 Q.op (fun w' _ a' ha => by simp [execOp, ha.ev hx]) hd h
theorem Q.fld {t : TypeId} {x : Operand} {f o b off : Nat} {fs : Array Field} {fd : Field} {sz : Nat} (hx : ev env x = some (.pointer (some ⟨b, off, none⟩))) (ht : P.underlying t = some (.struct fs)) (hf : fs[f]? = some fd) (ho : fd.offset = o)
  (hs : (P.info? fd.type).map (·.size) = some (sz + 1)) (hd : Nat.blt d s.n = true) (h : wpQ P ops w Qn s rest ((d, .pointer (some ⟨b, off + o, none⟩)) :: env)) : wpQ P ops w Qn s (⟨some d, .fieldAddr t x f, ty, pos, aft, none⟩ :: rest) env :=
 Q.op (fun w' _ a' ha => by
  subst ho
  cases hq : P.info? fd.type with
  | none => simp [hq] at hs
  | some inf =>
   have hs' : inf.size = sz + 1 := by simpa [hq] using hs
   simp [execOp, ha.ev hx, Instr.fieldAt, Instr.sureAddr, run_underlying ht, hf, fieldPlace, sizeOf, typeInfo, hq, hs', addr_add]) hd h
theorem Q.idxA {t e : TypeId} {x ix : Operand} {k : IntKind} {i : Int} {sz n b off : Nat} (hx : ev env x = some (.pointer (some ⟨b, off, none⟩))) (hi : ev env ix = some (.int k i))
  (ht : P.underlying t = some (.array n e)) (hs : (P.info? e).map (·.size) = some sz) (h0 : 0 ≤ i) (h1 : i < n) (hd : Nat.blt d s.n = true)
  (h : wpQ P ops w Qn s rest ((d, .pointer (some ⟨b, off + i.toNat * sz, none⟩)) :: env)) : wpQ P ops w Qn s (⟨some d, .indexAddr t x ix, ty, pos, aft, none⟩ :: rest) env := by
 refine Q.op (fun w' _ a' ha => ?_) hd h
 cases hq : P.info? e with
 | none => simp [hq] at hs
 | some inf =>
  have hs' : inf.size = sz := by simpa [hq] using hs
  simp [execOp, ha.ev hx, ha.ev hi, Instr.indexAt, Instr.sureAddr, asIntOf, run_underlying ht, sizeOf, typeInfo, hq, hs', h0, h1, addr_add]
theorem Q.add {t t2 : TypeId} {x y : Operand} {a b : Int} (hx : ev env x = some (.int .i64 a)) (hy : ev env y = some (.int .i64 b)) (hr : -9223372036854775808 ≤ a + b ∧ a + b ≤ 9223372036854775807)
  (hd : Nat.blt d s.n = true) (h : wpQ P ops w Qn s rest ((d, .int .i64 (a + b)) :: env)) : wpQ P ops w Qn s (⟨some d, .binOp .add t x y t2, ty, pos, aft, none⟩ :: rest) env :=
 Q.bin hx hy (v := .int .i64 (a + b)) (by simp only [iop]; rw [IntWalk.i64_in _ hr]) hd h
theorem Q.sub' {t t2 : TypeId} {x y : Operand} {a b : Int} (hx : ev env x = some (.int .i64 a)) (hy : ev env y = some (.int .i64 b)) (hr : -9223372036854775808 ≤ a - b ∧ a - b ≤ 9223372036854775807)
  (hd : Nat.blt d s.n = true) (h : wpQ P ops w Qn s rest ((d, .int .i64 (a - b)) :: env)) : wpQ P ops w Qn s (⟨some d, .binOp .sub t x y t2, ty, pos, aft, none⟩ :: rest) env :=
 Q.bin hx hy (v := .int .i64 (a - b)) (by simp only [iop]; rw [IntWalk.i64_in _ hr]) hd h
theorem Q.mul {t t2 : TypeId} {x y : Operand} {a b : Int} (hx : ev env x = some (.int .i64 a)) (hy : ev env y = some (.int .i64 b)) (hr : -9223372036854775808 ≤ a * b ∧ a * b ≤ 9223372036854775807)
  (hd : Nat.blt d s.n = true) (h : wpQ P ops w Qn s rest ((d, .int .i64 (a * b)) :: env)) : wpQ P ops w Qn s (⟨some d, .binOp .mul t x y t2, ty, pos, aft, none⟩ :: rest) env :=
 Q.bin hx hy (v := .int .i64 (a * b)) (by simp only [iop]; rw [IntWalk.i64_in _ hr]) hd h
theorem Q.binw {op : BinOp} {t t2 : TypeId} {x y : Operand} {k : IntKind} {a b : Int} {v v' : Value} (hx : ev env x = some (.int k a)) (hy : ev env y = some (.int k b)) (hv : iop op k a b = some v) (he : v = v')
  (hd : Nat.blt d s.n = true) (h : wpQ P ops w Qn s rest ((d, v') :: env)) : wpQ P ops w Qn s (⟨some d, .binOp op t x y t2, ty, pos, aft, none⟩ :: rest) env :=
 Q.bin hx hy (hv.trans (congrArg some he)) hd h
end
end Go.Proofs.YtajklleiifhipaaGreatDoor.Sym
