/- Texts of the claim, laid together: Trd, Arg34. -/
import Derived.Deep.Slices
import Derived.Lib.LaidTab
import Derived.Test.YtcmgbjmcklfkcaaDoorG2
import Derived.Test.YtcmgbjmcklfkcaaDoorG29
import Derived.Test.YtcmgbjmcklfkcaaDoorG34
/- What can be read of an argument, by the shape of its type. For whatever program. -/
namespace Go.Proofs.YtcmgbjmcklfkcaaDoor.Sym
set_option linter.unusedSimpArgs false
set_option linter.unusedVariables false
open Go.RowKit Go.ChangeShapes Go.WideShapes Go.ChangeAt

/-- cells that can be read as a value of a type -/
def Trd (P : Program) (w : World) (t : TypeId) (cs : List Value) : Prop := ∃ (H : Type) (enc : TypeId × Value → H) (fuel : Nat) (x : DataW H × List MemPlace), DataW.trod enc P w 0 (fun _ => true) true fuel t cs = some x
theorem Trd.of {H : Type} {enc : TypeId × Value → H} {P : Program} {w : World} {t : TypeId} {v : Value} {d : DataW H} {ps : List MemPlace} (h : DataW.Trod enc P w 0 (fun _ => true) true t v d ps) : Trd P w t v.cells.toList := by
  obtain ⟨fuel, h⟩ := h; exact ⟨H, enc, fuel, _, h⟩
section
variable {P : Program} {w : World} {t : TypeId} {cs : List Value}
theorem Trd.int {k : IntKind} (ht : P.underlying t = some (.int k)) (h : Trd P w t cs) : ∃ n, cs = [.int k n] ∧ (Lit.int k n).wf = true := by
  obtain ⟨H, enc, fuel, x, h⟩ := h
  obtain ⟨n, h1, _, h2⟩ := DataW.trod_int ht h
  exact ⟨n, h1, h2⟩
theorem Trd.bool (ht : P.underlying t = some .bool) (h : Trd P w t cs) : ∃ b, cs = [.bool b] := by
  obtain ⟨H, enc, fuel, x, h⟩ := h
  obtain ⟨b, h1, _⟩ := DataW.trod_bool ht h
  exact ⟨b, h1⟩
theorem Trd.string (ht : P.underlying t = some .string) (h : Trd P w t cs) : ∃ s : ByteArray, cs = [.string s] ∧ s.size ≤ maxLen := by
  obtain ⟨H, enc, fuel, x, h⟩ := h
  obtain ⟨s, h1, _, h2⟩ := DataW.trod_string ht h
  exact ⟨s, h1, h2⟩
theorem Trd.struct {fs : Array Field} (ht : P.underlying t = some (.struct fs)) (h : Trd P w t cs) : cs.length = P.cellsOf t ∧ ∀ (i : Nat) (f : Field), fs[i]? = some f → Trd P w f.type ((cs.drop f.offset).take (P.cellsOf f.type)) := by
  obtain ⟨H, enc, fuel, x, h⟩ := h
  obtain ⟨xs, n, _, _, hl, hx, hf⟩ := DataW.trod_struct ht h
  refine ⟨hl, fun i f hi => ?_⟩
  have := hf i f hi
  have hlt : i < xs.length := by rw [hx]; exact (Array.getElem?_eq_some_iff.1 hi).1
  rw [List.getElem?_eq_getElem hlt] at this
  exact ⟨H, enc, n, _, this⟩
theorem Trd.array {n : Nat} {e : TypeId} (ht : P.underlying t = some (.array n e)) (h : Trd P w t cs) : cs.length = P.cellsOf t ∧ ∀ i, i < n → Trd P w e ((cs.drop (i * P.cellsOf e)).take (P.cellsOf e)) := by
  obtain ⟨H, enc, fuel, x, h⟩ := h
  obtain ⟨xs, m, _, _, hl, hx, hf⟩ := DataW.trod_array ht h
  refine ⟨hl, fun i hi => ?_⟩
  have := hf i hi
  rw [List.getElem?_eq_getElem (by omega)] at this
  exact ⟨H, enc, m, _, this⟩
theorem flat_get (css : List (List Value)) (sz : Nat) (h : ∀ c ∈ css, c.length = sz) (hsz : 0 < sz) : ∀ j u, css.flatten[j]? = some u → ∃ c, css[j / sz]? = some c ∧ c[j % sz]? = some u := by
  induction css with
  | nil => intro j u hu; simp at hu
  | cons c css ih =>
    intro j u hu
    have hc : c.length = sz := h c (by simp)
    rw [List.flatten_cons, List.getElem?_append] at hu
    split at hu
    · rename_i hj
      rw [hc] at hj
      exact ⟨c, by rw [Nat.div_eq_of_lt hj]; rfl, by rw [Nat.mod_eq_of_lt hj]; exact hu⟩
    · rename_i hj
      rw [hc] at hj hu
      obtain ⟨c', h1, h2⟩ := ih (fun x hx => h x (by simp [hx])) (j - sz) u hu
      have hge : sz ≤ j := by omega
      have e1 : j / sz = (j - sz) / sz + 1 := by rw [Nat.div_eq_sub_div hsz hge]
      have e2 : j % sz = (j - sz) % sz := Nat.mod_eq_sub_mod hge
      exact ⟨c', by rw [e1]; simpa using h1, by rw [e2]; exact h2⟩
/-- a slice of whatever -/
theorem Trd.slice {e : TypeId} {sz : Nat} (ht : P.underlying t = some (.slice e)) (hc : P.cellsOf e = sz) (hsz : 0 < sz) (h : Trd P w t cs) :
    ∃ (v : Value) (css : List (List Value)), cs = [v] ∧ (∀ c ∈ css, c.length = sz ∧ Trd P w e c) ∧ Rd w sz v css.length css.flatten := by
  obtain ⟨H, enc, fuel, x, h⟩ := h
  rcases Deep.open_slice ht h with ⟨h0, _⟩ | ⟨a, len, cap, m, n, D, Pl, h1, _, hl, hm, hmm, _, hx⟩
  · exact ⟨_, [], h0, by simp, ⟨none, 0, rfl, Nat.le_refl _, by unfold maxLen; omega, by simp, by simp, fun j u h => by simp at h⟩⟩
  · have hmc : m = cap := by simpa using hmm
    subst hmc
    have hel : ∀ i, i < len → ∃ c : List Value, c.length = sz ∧ (∀ j u, c[j]? = some u → w.cell? ((a.add (i * sz)).add j) = some u) ∧ Trd P w e c := by
      intro i hi
      obtain ⟨c, hcs, htr⟩ := hx i (by omega)
      rw [hc] at hcs
      obtain ⟨_, h3, h4⟩ := World.cells?_some hcs
      exact ⟨c, h3, fun j u hu => (h4 j (by have := (List.getElem?_eq_some_iff.1 hu).1; omega)).trans hu, H, enc, n, _, htr⟩
    obtain ⟨f, hf⟩ : ∃ f : Nat → List Value, ∀ i, i < len → (f i).length = sz ∧ (∀ j u, (f i)[j]? = some u → w.cell? ((a.add (i * sz)).add j) = some u) ∧ Trd P w e (f i) := by
      refine ⟨fun i => if h : i < len then (hel i h).choose else [], fun i hi => ?_⟩
      simp only [hi, dif_pos]
      exact (hel i hi).choose_spec
    have hlenss : ((List.range len).map f).length = len := by simp
    refine ⟨_, (List.range len).map f, h1, fun c hc => ?_, ?_⟩
    · obtain ⟨i, hi, rfl⟩ := List.mem_map.1 hc
      have := hf i (by simpa using hi)
      exact ⟨this.1, this.2.2⟩
    · have hall : ∀ c ∈ (List.range len).map f, c.length = sz := fun c hc => by
        obtain ⟨i, hi, rfl⟩ := List.mem_map.1 hc
        exact (hf i (by simpa using hi)).1
      have hfl : ((List.range len).map f).flatten.length = len * sz := by
        rw [List.length_flatten]
        have : ((List.range len).map f).map List.length = List.replicate len sz := by
          apply List.ext_getElem
          · simp
          · intro i h1 h2
            simp only [List.length_map, List.length_range] at h1
            simp [(hf i h1).1]
        rw [this]; simp
      have key : ∀ j u, ((List.range len).map f).flatten[j]? = some u → w.cell? (a.add j) = some u := by
        intro j u hu
        obtain ⟨c, h2, h3⟩ := flat_get _ sz hall hsz j u hu
        have hi : j / sz < len := by have := (List.getElem?_eq_some_iff.1 h2).1; simpa using this
        have hcf : c = f (j / sz) := by
          rw [List.getElem?_map, List.getElem?_range hi] at h2; simpa using h2.symm
        subst hcf
        have h5 := (hf _ hi).2.1 _ _ h3
        have e : (a.add (j / sz * sz)).add (j % sz) = a.add j := by
          have hdm : j / sz * sz + j % sz = j := Nat.div_add_mod' j sz
          unfold Addr.add
          by_cases h0 : j / sz * sz = 0
          · have hj : j % sz = j := by omega
            rw [if_pos h0, hj]
          · have hj0 : j ≠ 0 := by omega
            rw [if_neg h0, if_neg hj0]
            by_cases hm0 : j % sz = 0
            · rw [if_pos hm0]; congr 1; omega
            · rw [if_neg hm0]; simp; omega
        rw [e] at h5; exact h5
      rw [hlenss]
      have spot : 0 < ((List.range len).map f).flatten.length → ∃ b off, a = ⟨b, off, none⟩ := by
        intro hp
        have := key 0 _ (List.getElem?_eq_getElem hp)
        have hs := spot_none this
        have hs' : a.spot = none := by simpa [Addr.add] using hs
        exact ⟨a.block, a.off, by rcases a with ⟨b, o, s⟩; cases hs'; rfl⟩
      refine ⟨some a, m, rfl, hl, hm, hfl, fun hp => ?_, fun j u hu => ?_⟩
      · obtain ⟨b, off, rfl⟩ := spot hp; exact ⟨b, off, rfl⟩
      · have hp : 0 < ((List.range len).map f).flatten.length := by have := (List.getElem?_eq_some_iff.1 hu).1; omega
        obtain ⟨b, off, rfl⟩ := spot hp
        have := key j u hu
        rw [addr_add] at this
        exact this
end
/-- an argument that is a struct -/
theorem agg_struct {P : Program} {w : World} {r : Reach} {b0 : Nat} {t : TypeId} {v : Value} {fs : Array Field} (ht : P.underlying t = some (.struct fs)) (hv : Value.okWide P w r b0 t v) : ∃ cs : List Value, v = .agg cs.toArray := by
  unfold Value.okWide at hv
  rw [ht] at hv
  obtain ⟨cs, h1, _⟩ := hv
  exact ⟨cs.toList, by simpa using h1⟩
/-- an argument that is an array -/
theorem agg_array {P : Program} {w : World} {r : Reach} {b0 : Nat} {t : TypeId} {v : Value} {n : Nat} {e : TypeId} (ht : P.underlying t = some (.array n e)) (hv : Value.okWide P w r b0 t v) : ∃ cs : List Value, v = .agg cs.toArray := by
  unfold Value.okWide at hv
  rw [ht] at hv
  obtain ⟨cs, h1, _⟩ := hv
  exact ⟨cs.toList, by simpa using h1⟩
/-- a slice, each of whose elements reads as one of a kind -/
theorem Trd.sliceF {P : Program} {w : World} {t e : TypeId} {cs : List Value} {sz : Nat} {α : Type} {enc : α → List Value} {R : α → Prop} (ht : P.underlying t = some (.slice e)) (hc : P.cellsOf e = sz) (hsz : 0 < sz)
    (hr : ∀ c, c.length = sz → Trd P w e c → ∃ a, enc a = c ∧ R a) (h : Trd P w t cs) : ∃ (v : Value) (l : List α), cs = [v] ∧ RdF enc sz w v l ∧ ∀ a ∈ l, R a := by
  obtain ⟨v, css, h1, h2, h3⟩ := h.slice ht hc hsz
  have hex : ∀ css : List (List Value), (∀ c ∈ css, c.length = sz ∧ Trd P w e c) → ∃ l : List α, l.map enc = css ∧ ∀ a ∈ l, R a := by
    intro css
    induction css with
    | nil => exact fun _ => ⟨[], rfl, by simp⟩
    | cons c css ih =>
      intro hall
      obtain ⟨l, hl, hR⟩ := ih fun c hc => hall c (by simp [hc])
      obtain ⟨a, ha, hRa⟩ := hr c (hall c (by simp)).1 (hall c (by simp)).2
      exact ⟨a :: l, by simp [ha, hl], fun b hb => (List.mem_cons.1 hb).elim (fun e => e ▸ hRa) (hR b)⟩
  obtain ⟨l, hl, hR⟩ := hex css h2
  refine ⟨v, l, h1, ⟨fun a ha => ?_, ?_⟩, hR⟩
  · exact (h2 (enc a) (hl ▸ List.mem_map_of_mem ha)).1
  · rw [List.flatMap_def, hl, ← List.length_map (f := enc), hl]; exact h3
/-- a slice of one-cell elements -/
theorem Trd.sliceL {P : Program} {w : World} {t e : TypeId} {cs : List Value} {α : Type} {enc : α → Value} {R : α → Prop} (ht : P.underlying t = some (.slice e)) (hc : P.cellsOf e = 1)
    (hr : ∀ c, Trd P w e [c] → ∃ a, enc a = c ∧ R a) (h : Trd P w t cs) : ∃ (v : Value) (l : List α), cs = [v] ∧ RdL enc w v l ∧ ∀ a ∈ l, R a := by
  obtain ⟨v, l, h1, h2, h3⟩ := h.sliceF (enc := fun a => [enc a]) (R := R) ht hc (by decide) (fun c hc ht => by
    obtain ⟨x, rfl⟩ := List.length_eq_one_iff.1 hc
    obtain ⟨a, ha, hR⟩ := hr x ht
    exact ⟨a, by rw [ha], hR⟩)
  refine ⟨v, l, h1, ?_, h3⟩
  have := h2.rd
  have e2 : ∀ l : List α, l.flatMap (fun a => [enc a]) = l.map enc := fun l => by induction l <;> simp_all
  rw [e2] at this
  exact this
theorem Trd.bytes {P : Program} {w : World} {t e : TypeId} {cs : List Value} (ht : P.underlying t = some (.slice e)) (he : P.underlying e = some (.int .u8)) (hc : P.cellsOf e = 1) (h : Trd P w t cs) : ∃ (v : Value) (l : List UInt8), cs = [v] ∧ RdL u8 w v l := by
  obtain ⟨v, l, h1, h2, _⟩ := h.sliceL (enc := u8) (R := fun _ => True) ht hc (fun c hc => by
    obtain ⟨n, h1, h2⟩ := hc.int he
    have := wf_u8 h2
    have h1 : c = .int .u8 n := by simpa using h1
    subst h1
    exact ⟨UInt8.ofNat n.toNat, by simp [u8]; omega, trivial⟩)
  exact ⟨v, l, h1, h2⟩
/-- an argument that is a slice -/
theorem arg_slice {P : Program} {w : World} {r : Reach} {b0 : Nat} {t e : TypeId} {v : Value} (ht : P.underlying t = some (.slice e)) (hv : Value.okWide P w r b0 t v) : v.cells.toList = [v] := by
  obtain ⟨a, n, c, rfl⟩ := okWide_slice ht hv; rfl
theorem agg_cells (cs : List Value) : (Value.agg cs.toArray).cells.toList = cs := rfl
/-- a list by its first parts -/
theorem split1 {α} {l : List α} {n : Nat} (h : l.length = n + 1) : ∃ a t, l = a :: t ∧ t.length = n := by
  cases l with
  | nil => simp at h
  | cons a t => exact ⟨a, t, rfl, by simpa using h⟩
end Go.Proofs.YtcmgbjmcklfkcaaDoor.Sym

/- chapter 34: the arguments of its laws; the package's variable. -/
namespace Go.Proofs.YtcmgbjmcklfkcaaDoor
set_option linter.unusedSimpArgs false
set_option linter.unusedVariables false
open Go.RowKit Sym Go.ChangeShapes Go.WideShapes Go.ChangeAt

theorem ord_tab {W : World} {name : String} (hg : Tryd.prog.globalNamed name = some 0) (h : Lib.TabIs Tryd.prog W name .i64 [16, 17, 18, 0, 8, 7, 9, 6, 10, 5, 11, 4, 12, 3, 13, 2, 14, 1, 15]) : Ord W := by
  have h0 := h.cell hg 0 (by decide)
  refine ⟨fun j u hu => ?_, World.block_lt_of_cell? W ⟨0, 0, none⟩ h0⟩
  have hj : j < 19 := by
    have := (List.getElem?_eq_some_iff.1 hu).1
    simpa [Df.ordL] using this
  have h1 := h.cell hg j hj
  rw [ord_at hj] at hu
  rw [Nat.zero_add, h1, ← hu]
  congr 2
  have : ∀ j, j < 19 → ([16, 17, 18, 0, 8, 7, 9, 6, 10, 5, 11, 4, 12, 3, 13, 2, 14, 1, 15] : List Int).getD j 0 = ((Df.ordL.getD j 0 : Nat) : Int) := by decide
  exact this j hj
set_option maxRecDepth 100000 in
theorem arg_intsB {W : World} {r : Reach} {b0 : Nat} {v : Value} (hv : Value.okWide Tryd.prog W r b0 29 v) (h : Trd Tryd.prog W 29 v.cells.toList) : ∃ l : List Int, RdL i64 W v l ∧ ∀ z ∈ l, -9223372036854775808 ≤ z ∧ z ≤ 9223372036854775807 := by
  rw [arg_slice Tryd.underlying29 hv] at h
  obtain ⟨v', l, e, rd, hb⟩ := h.sliceL (enc := i64) (R := fun z => -9223372036854775808 ≤ z ∧ z ≤ 9223372036854775807) Tryd.underlying29 (by kernel_rfl) (fun c hc => by
    obtain ⟨b, hb, hw⟩ := hc.int Tryd.underlying3
    exact ⟨b, by simpa using hb.symm, bounds_i64 hw⟩)
  obtain rfl : v = v' := by simpa using e
  exact ⟨l, rd, hb⟩
end Go.Proofs.YtcmgbjmcklfkcaaDoor
