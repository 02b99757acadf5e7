/- Texts of the claim, laid together: Trd, Arg38, NfM, CovM. -/
import Derived.Deep.Slices
import Derived.Test.YtnnmebpahickhaaComponentsSymmetricTopMg1
import Derived.Test.YtnnmebpahickhaaComponentsSymmetricTopMg2
import Derived.Test.YtnnmebpahickhaaComponentsSymmetricTopMg27
/- What can be read of an argument, by the shape of its type. For whatever program. -/
namespace Go.Proofs.Ytnnmebpahickhaa.Sym
set_option linter.unusedSimpArgs false
set_option linter.unusedVariables false
open Go.RowKit Go.ChangeShapes Go.WideShapes Go.ChangeAt

/-- cells that can be read as a value of a type -/
def Trd (P : Program) (w : World) (t : TypeId) (cs : List Value) : Prop := ∃ (H : Type) (enc : TypeId × Value → H) (fuel : Nat) (x : DataW H × List MemPlace), DataW.trod enc P w 0 (fun _ => true) true fuel t cs = some x
theorem Trd.of {H : Type} {enc : TypeId × Value → H} {P : Program} {w : World} {t : TypeId} {v : Value} {d : DataW H} {ps : List MemPlace} (h : DataW.Trod enc P w 0 (fun _ => true) true t v d ps) : Trd P w t v.cells.toList := by
  obtain ⟨fuel, h⟩ := h; exact ⟨H, enc, fuel, _, h⟩
section
variable {P : Program} {w : World} {t : TypeId} {cs : List Value}
theorem Trd.int {k : IntKind} (ht : P.underlying t = some (.int k)) (h : Trd P w t cs) : ∃ n, cs = [.int k n] ∧ (Lit.int k n).wf = true := by
  obtain ⟨H, enc, fuel, x, h⟩ := h
  obtain ⟨n, h1, _, h2⟩ := DataW.trod_int ht h
  exact ⟨n, h1, h2⟩
theorem Trd.bool (ht : P.underlying t = some .bool) (h : Trd P w t cs) : ∃ b, cs = [.bool b] := by
  obtain ⟨H, enc, fuel, x, h⟩ := h
  obtain ⟨b, h1, _⟩ := DataW.trod_bool ht h
  exact ⟨b, h1⟩
theorem Trd.string (ht : P.underlying t = some .string) (h : Trd P w t cs) : ∃ s : ByteArray, cs = [.string s] ∧ s.size ≤ maxLen := by
  obtain ⟨H, enc, fuel, x, h⟩ := h
  obtain ⟨s, h1, _, h2⟩ := DataW.trod_string ht h
  exact ⟨s, h1, h2⟩
theorem Trd.struct {fs : Array Field} (ht : P.underlying t = some (.struct fs)) (h : Trd P w t cs) : cs.length = P.cellsOf t ∧ ∀ (i : Nat) (f : Field), fs[i]? = some f → Trd P w f.type ((cs.drop f.offset).take (P.cellsOf f.type)) := by
  obtain ⟨H, enc, fuel, x, h⟩ := h
  obtain ⟨xs, n, _, _, hl, hx, hf⟩ := DataW.trod_struct ht h
  refine ⟨hl, fun i f hi => ?_⟩
  have := hf i f hi
  have hlt : i < xs.length := by rw [hx]; exact (Array.getElem?_eq_some_iff.1 hi).1
  rw [List.getElem?_eq_getElem hlt] at this
  exact ⟨H, enc, n, _, this⟩
theorem Trd.array {n : Nat} {e : TypeId} (ht : P.underlying t = some (.array n e)) (h : Trd P w t cs) : cs.length = P.cellsOf t ∧ ∀ i, i < n → Trd P w e ((cs.drop (i * P.cellsOf e)).take (P.cellsOf e)) := by
  obtain ⟨H, enc, fuel, x, h⟩ := h
  obtain ⟨xs, m, _, _, hl, hx, hf⟩ := DataW.trod_array ht h
  refine ⟨hl, fun i hi => ?_⟩
  have := hf i hi
  rw [List.getElem?_eq_getElem (by omega)] at this
  exact ⟨H, enc, m, _, this⟩
theorem flat_get (css : List (List Value)) (sz : Nat) (h : ∀ c ∈ css, c.length = sz) (hsz : 0 < sz) : ∀ j u, css.flatten[j]? = some u → ∃ c, css[j / sz]? = some c ∧ c[j % sz]? = some u := by
  induction css with
  | nil => intro j u hu; simp at hu
  | cons c css ih =>
    intro j u hu
    have hc : c.length = sz := h c (by simp)
    rw [List.flatten_cons, List.getElem?_append] at hu
    split at hu
    · rename_i hj
      rw [hc] at hj
      exact ⟨c, by rw [Nat.div_eq_of_lt hj]; rfl, by rw [Nat.mod_eq_of_lt hj]; exact hu⟩
    · rename_i hj
      rw [hc] at hj hu
      obtain ⟨c', h1, h2⟩ := ih (fun x hx => h x (by simp [hx])) (j - sz) u hu
      have hge : sz ≤ j := by omega
      have e1 : j / sz = (j - sz) / sz + 1 := by rw [Nat.div_eq_sub_div hsz hge]
      have e2 : j % sz = (j - sz) % sz := Nat.mod_eq_sub_mod hge
      exact ⟨c', by rw [e1]; simpa using h1, by rw [e2]; exact h2⟩
/-- a slice of whatever -/
theorem Trd.slice {e : TypeId} {sz : Nat} (ht : P.underlying t = some (.slice e)) (hc : P.cellsOf e = sz) (hsz : 0 < sz) (h : Trd P w t cs) :
    ∃ (v : Value) (css : List (List Value)), cs = [v] ∧ (∀ c ∈ css, c.length = sz ∧ Trd P w e c) ∧ Rd w sz v css.length css.flatten := by
  obtain ⟨H, enc, fuel, x, h⟩ := h
  rcases Deep.open_slice ht h with ⟨h0, _⟩ | ⟨a, len, cap, m, n, D, Pl, h1, _, hl, hm, hmm, _, hx⟩
  · exact ⟨_, [], h0, by simp, ⟨none, 0, rfl, Nat.le_refl _, by unfold maxLen; omega, by simp, by simp, fun j u h => by simp at h⟩⟩
  · have hmc : m = cap := by simpa using hmm
    subst hmc
    have hel : ∀ i, i < len → ∃ c : List Value, c.length = sz ∧ (∀ j u, c[j]? = some u → w.cell? ((a.add (i * sz)).add j) = some u) ∧ Trd P w e c := by
      intro i hi
      obtain ⟨c, hcs, htr⟩ := hx i (by omega)
      rw [hc] at hcs
      obtain ⟨_, h3, h4⟩ := World.cells?_some hcs
      exact ⟨c, h3, fun j u hu => (h4 j (by have := (List.getElem?_eq_some_iff.1 hu).1; omega)).trans hu, H, enc, n, _, htr⟩
    obtain ⟨f, hf⟩ : ∃ f : Nat → List Value, ∀ i, i < len → (f i).length = sz ∧ (∀ j u, (f i)[j]? = some u → w.cell? ((a.add (i * sz)).add j) = some u) ∧ Trd P w e (f i) := by
      refine ⟨fun i => if h : i < len then (hel i h).choose else [], fun i hi => ?_⟩
      simp only [hi, dif_pos]
      exact (hel i hi).choose_spec
    have hlenss : ((List.range len).map f).length = len := by simp
    refine ⟨_, (List.range len).map f, h1, fun c hc => ?_, ?_⟩
    · obtain ⟨i, hi, rfl⟩ := List.mem_map.1 hc
      have := hf i (by simpa using hi)
      exact ⟨this.1, this.2.2⟩
    · have hall : ∀ c ∈ (List.range len).map f, c.length = sz := fun c hc => by
        obtain ⟨i, hi, rfl⟩ := List.mem_map.1 hc
        exact (hf i (by simpa using hi)).1
      have hfl : ((List.range len).map f).flatten.length = len * sz := by
        rw [List.length_flatten]
        have : ((List.range len).map f).map List.length = List.replicate len sz := by
          apply List.ext_getElem
          · simp
          · intro i h1 h2
            simp only [List.length_map, List.length_range] at h1
            simp [(hf i h1).1]
        rw [this]; simp
      have key : ∀ j u, ((List.range len).map f).flatten[j]? = some u → w.cell? (a.add j) = some u := by
        intro j u hu
        obtain ⟨c, h2, h3⟩ := flat_get _ sz hall hsz j u hu
        have hi : j / sz < len := by have := (List.getElem?_eq_some_iff.1 h2).1; simpa using this
        have hcf : c = f (j / sz) := by
          rw [List.getElem?_map, List.getElem?_range hi] at h2; simpa using h2.symm
        subst hcf
        have h5 := (hf _ hi).2.1 _ _ h3
        have e : (a.add (j / sz * sz)).add (j % sz) = a.add j := by
          have hdm : j / sz * sz + j % sz = j := Nat.div_add_mod' j sz
          unfold Addr.add
          by_cases h0 : j / sz * sz = 0
          · have hj : j % sz = j := by omega
            rw [if_pos h0, hj]
          · have hj0 : j ≠ 0 := by omega
            rw [if_neg h0, if_neg hj0]
            by_cases hm0 : j % sz = 0
            · rw [if_pos hm0]; congr 1; omega
            · rw [if_neg hm0]; simp; omega
        rw [e] at h5; exact h5
      rw [hlenss]
      have spot : 0 < ((List.range len).map f).flatten.length → ∃ b off, a = ⟨b, off, none⟩ := by
        intro hp
        have := key 0 _ (List.getElem?_eq_getElem hp)
        have hs := spot_none this
        have hs' : a.spot = none := by simpa [Addr.add] using hs
        exact ⟨a.block, a.off, by rcases a with ⟨b, o, s⟩; cases hs'; rfl⟩
      refine ⟨some a, m, rfl, hl, hm, hfl, fun hp => ?_, fun j u hu => ?_⟩
      · obtain ⟨b, off, rfl⟩ := spot hp; exact ⟨b, off, rfl⟩
      · have hp : 0 < ((List.range len).map f).flatten.length := by have := (List.getElem?_eq_some_iff.1 hu).1; omega
        obtain ⟨b, off, rfl⟩ := spot hp
        have := key j u hu
        rw [addr_add] at this
        exact this
end
/-- an argument that is a struct -/
theorem agg_struct {P : Program} {w : World} {r : Reach} {b0 : Nat} {t : TypeId} {v : Value} {fs : Array Field} (ht : P.underlying t = some (.struct fs)) (hv : Value.okWide P w r b0 t v) : ∃ cs : List Value, v = .agg cs.toArray := by
  unfold Value.okWide at hv
  rw [ht] at hv
  obtain ⟨cs, h1, _⟩ := hv
  exact ⟨cs.toList, by simpa using h1⟩
/-- an argument that is an array -/
theorem agg_array {P : Program} {w : World} {r : Reach} {b0 : Nat} {t : TypeId} {v : Value} {n : Nat} {e : TypeId} (ht : P.underlying t = some (.array n e)) (hv : Value.okWide P w r b0 t v) : ∃ cs : List Value, v = .agg cs.toArray := by
  unfold Value.okWide at hv
  rw [ht] at hv
  obtain ⟨cs, h1, _⟩ := hv
  exact ⟨cs.toList, by simpa using h1⟩
/-- a slice, each of whose elements reads as one of a kind -/
theorem Trd.sliceF {P : Program} {w : World} {t e : TypeId} {cs : List Value} {sz : Nat} {α : Type} {enc : α → List Value} {R : α → Prop} (ht : P.underlying t = some (.slice e)) (hc : P.cellsOf e = sz) (hsz : 0 < sz)
    (hr : ∀ c, c.length = sz → Trd P w e c → ∃ a, enc a = c ∧ R a) (h : Trd P w t cs) : ∃ (v : Value) (l : List α), cs = [v] ∧ RdF enc sz w v l ∧ ∀ a ∈ l, R a := by
  obtain ⟨v, css, h1, h2, h3⟩ := h.slice ht hc hsz
  have hex : ∀ css : List (List Value), (∀ c ∈ css, c.length = sz ∧ Trd P w e c) → ∃ l : List α, l.map enc = css ∧ ∀ a ∈ l, R a := by
    intro css
    induction css with
    | nil => exact fun _ => ⟨[], rfl, by simp⟩
    | cons c css ih =>
      intro hall
      obtain ⟨l, hl, hR⟩ := ih fun c hc => hall c (by simp [hc])
      obtain ⟨a, ha, hRa⟩ := hr c (hall c (by simp)).1 (hall c (by simp)).2
      exact ⟨a :: l, by simp [ha, hl], fun b hb => (List.mem_cons.1 hb).elim (fun e => e ▸ hRa) (hR b)⟩
  obtain ⟨l, hl, hR⟩ := hex css h2
  refine ⟨v, l, h1, ⟨fun a ha => ?_, ?_⟩, hR⟩
  · exact (h2 (enc a) (hl ▸ List.mem_map_of_mem ha)).1
  · rw [List.flatMap_def, hl, ← List.length_map (f := enc), hl]; exact h3
/-- a slice of one-cell elements -/
theorem Trd.sliceL {P : Program} {w : World} {t e : TypeId} {cs : List Value} {α : Type} {enc : α → Value} {R : α → Prop} (ht : P.underlying t = some (.slice e)) (hc : P.cellsOf e = 1)
    (hr : ∀ c, Trd P w e [c] → ∃ a, enc a = c ∧ R a) (h : Trd P w t cs) : ∃ (v : Value) (l : List α), cs = [v] ∧ RdL enc w v l ∧ ∀ a ∈ l, R a := by
  obtain ⟨v, l, h1, h2, h3⟩ := h.sliceF (enc := fun a => [enc a]) (R := R) ht hc (by decide) (fun c hc ht => by
    obtain ⟨x, rfl⟩ := List.length_eq_one_iff.1 hc
    obtain ⟨a, ha, hR⟩ := hr x ht
    exact ⟨a, by rw [ha], hR⟩)
  refine ⟨v, l, h1, ?_, h3⟩
  have := h2.rd
  have e2 : ∀ l : List α, l.flatMap (fun a => [enc a]) = l.map enc := fun l => by induction l <;> simp_all
  rw [e2] at this
  exact this
theorem Trd.bytes {P : Program} {w : World} {t e : TypeId} {cs : List Value} (ht : P.underlying t = some (.slice e)) (he : P.underlying e = some (.int .u8)) (hc : P.cellsOf e = 1) (h : Trd P w t cs) : ∃ (v : Value) (l : List UInt8), cs = [v] ∧ RdL u8 w v l := by
  obtain ⟨v, l, h1, h2, _⟩ := h.sliceL (enc := u8) (R := fun _ => True) ht hc (fun c hc => by
    obtain ⟨n, h1, h2⟩ := hc.int he
    have := wf_u8 h2
    have h1 : c = .int .u8 n := by simpa using h1
    subst h1
    exact ⟨UInt8.ofNat n.toNat, by simp [u8]; omega, trivial⟩)
  exact ⟨v, l, h1, h2⟩
/-- an argument that is a slice -/
theorem arg_slice {P : Program} {w : World} {r : Reach} {b0 : Nat} {t e : TypeId} {v : Value} (ht : P.underlying t = some (.slice e)) (hv : Value.okWide P w r b0 t v) : v.cells.toList = [v] := by
  obtain ⟨a, n, c, rfl⟩ := okWide_slice ht hv; rfl
theorem agg_cells (cs : List Value) : (Value.agg cs.toArray).cells.toList = cs := rfl
/-- a list by its first parts -/
theorem split1 {α} {l : List α} {n : Nat} (h : l.length = n + 1) : ∃ a t, l = a :: t ∧ t.length = n := by
  cases l with
  | nil => simp at h
  | cons a t => exact ⟨a, t, rfl, by simpa using h⟩
end Go.Proofs.Ytnnmebpahickhaa.Sym

/- chapter 38: the arguments of its laws. -/
namespace Go.Proofs.Ytnnmebpahickhaa
set_option linter.unusedSimpArgs false
set_option linter.unusedVariables false
open Go.RowKit Sym Go.ChangeShapes Go.WideShapes Go.ChangeAt

theorem arg_mat {W : World} {r : Reach} {b0 : Nat} {v : Value} (hv : Value.okWide Try.prog W r b0 24 v) (h : Trd Try.prog W 24 v.cells.toList) : ∃ (x y : Int) (vd : Value) (dk : List Bool), v = mat x y vd ∧ RdL Value.bool W vd dk := by
  obtain ⟨cs, rfl⟩ := agg_struct Try.underlying24 hv
  rw [agg_cells] at h
  obtain ⟨hl, hf⟩ := h.struct Try.underlying24
  obtain ⟨a0, t0, rfl, hl0⟩ := split1 (n := 2) hl
  obtain ⟨a1, t1, rfl, hl1⟩ := split1 (n := 1) hl0
  obtain ⟨a2, t2, rfl, hl2⟩ := split1 (n := 0) hl1
  obtain rfl := List.length_eq_zero_iff.1 hl2
  obtain ⟨n0, e0, _⟩ := (hf 0 _ rfl).int Try.underlying3
  obtain ⟨n1, e1, _⟩ := (hf 1 _ rfl).int Try.underlying3
  obtain ⟨vd, dk, e2, rd, _⟩ := (hf 2 _ rfl).sliceL (enc := Value.bool) (R := fun _ => True) Try.underlying22 (by kernel_rfl) (fun c hc => by
    obtain ⟨b, hb⟩ := hc.bool Try.underlying4
    exact ⟨b, by simpa using hb.symm, trivial⟩)
  have e0' : a0 = .int .i64 n0 := by have : [a0] = [.int .i64 n0] := e0; simpa using this
  have e1' : a1 = .int .i64 n1 := by have : [a1] = [.int .i64 n1] := e1; simpa using this
  have e2' : a2 = vd := by have : [a2] = [vd] := e2; simpa using this
  subst e0' e1' e2'
  exact ⟨n0, n1, a2, dk, rfl, rd⟩
theorem arg_ints {W : World} {r : Reach} {b0 : Nat} {v : Value} (hv : Value.okWide Try.prog W r b0 27 v) (h : Trd Try.prog W 27 v.cells.toList) : ∃ l : List Int, RdL i64 W v l := by
  rw [arg_slice Try.underlying27 hv] at h
  obtain ⟨v', l, e, rd, _⟩ := h.sliceL (enc := i64) (R := fun _ => True) Try.underlying27 (by kernel_rfl) (fun c hc => by
    obtain ⟨b, hb, _⟩ := hc.int Try.underlying3
    exact ⟨b, by simpa using hb.symm, trivial⟩)
  obtain rfl : v = v' := by simpa using e
  exact ⟨l, rd⟩
theorem one_int {W : World} {c : Value} (h : Trd Try.prog W 3 [c]) : ∃ n : Int, c = i64 n := by
  obtain ⟨n, e, _⟩ := h.int Try.underlying3
  exact ⟨n, by simpa using e⟩
theorem arg_blob {W : World} {r : Reach} {b0 : Nat} {v : Value} (hv : Value.okWide Try.prog W r b0 38 v) (h : Trd Try.prog W 38 v.cells.toList) : ∃ a b c d e x y : Int, v = .agg #[i64 a, i64 b, i64 c, i64 d, i64 e, i64 x, i64 y] := by
  obtain ⟨cs, rfl⟩ := agg_struct Try.underlying38 hv
  rw [agg_cells] at h
  obtain ⟨hl, hf⟩ := h.struct Try.underlying38
  obtain ⟨a0, t0, rfl, hl0⟩ := split1 (n := 6) hl
  obtain ⟨a1, t1, rfl, hl1⟩ := split1 (n := 5) hl0
  obtain ⟨a2, t2, rfl, hl2⟩ := split1 (n := 4) hl1
  obtain ⟨a3, t3, rfl, hl3⟩ := split1 (n := 3) hl2
  obtain ⟨a4, t4, rfl, hl4⟩ := split1 (n := 2) hl3
  obtain ⟨a5, t5, rfl, hl5⟩ := split1 (n := 1) hl4
  obtain ⟨a6, t6, rfl, hl6⟩ := split1 (n := 0) hl5
  obtain rfl := List.length_eq_zero_iff.1 hl6
  obtain ⟨_, hb⟩ := (hf 0 _ rfl).struct Try.underlying34
  obtain ⟨_, hp⟩ := (hf 2 _ rfl).struct Try.underlying36
  obtain ⟨n0, rfl⟩ := one_int (show Trd Try.prog W 3 [a0] from hb 0 _ rfl)
  obtain ⟨n1, rfl⟩ := one_int (show Trd Try.prog W 3 [a1] from hb 1 _ rfl)
  obtain ⟨n2, rfl⟩ := one_int (show Trd Try.prog W 3 [a2] from hb 2 _ rfl)
  obtain ⟨n3, rfl⟩ := one_int (show Trd Try.prog W 3 [a3] from hb 3 _ rfl)
  obtain ⟨n4, rfl⟩ := one_int (show Trd Try.prog W 3 [a4] from hf 1 _ rfl)
  obtain ⟨n5, rfl⟩ := one_int (show Trd Try.prog W 3 [a5] from hp 0 _ rfl)
  obtain ⟨n6, rfl⟩ := one_int (show Trd Try.prog W 3 [a6] from hp 1 _ rfl)
  exact ⟨n0, n1, n2, n3, n4, n5, n6, rfl⟩
end Go.Proofs.Ytnnmebpahickhaa

/- components: their number as the length of a list. Plain mathematics. -/
namespace Go.Proofs.Ytnnmebpahickhaa
set_option linter.unusedSimpArgs false
set_option linter.unusedVariables false
open Go.RowKit Sym Uf Classical

theorem nf_filter {D : Nat → Prop} {R : Nat → Nat → Prop} (k : Nat) : nf D R k = ((List.range k).filter fun i => decide (Fst D R i)).length := by
  induction k with
  | zero => rfl
  | succ k ih =>
    rw [nf, List.range_succ, List.filter_append, List.length_append, ← ih]
    by_cases h : Fst D R k <;> simp [h]
theorem few_nf {W : Nat} {dk : List Bool} (h : dk.length ≤ 1500) : nf (DD dk true) (RR W true dk true) dk.length ≤ 65536 := Nat.le_trans (nf_le _) (by omega)
end Go.Proofs.Ytnnmebpahickhaa

/- law 38, Symmetric: bitmaps whose pixels cover those of another; sorted areas. Plain mathematics. -/
namespace Go.Proofs.Ytnnmebpahickhaa
set_option linter.unusedSimpArgs false
set_option linter.unusedVariables false
open Go.RowKit Sym Uf Classical

/-- neighbours by their places -/
def Cn (eight : Bool) (x y x2 y2 : Nat) : Prop := x2 ≤ x + 1 ∧ x ≤ x2 + 1 ∧ y2 ≤ y + 1 ∧ y ≤ y2 + 1 ∧ ¬ (x = x2 ∧ y = y2) ∧ (eight = false → x = x2 ∨ y = y2)
theorem cn_of_ed {W H k : Nat} {eight d : Bool} {dk : List Bool} {i j : Nat} (hn : dk.length = W * H) (hW : 0 < W) (h : Ed W eight dk d k i j) : Cn eight (i % W) (i / W) (j % W) (j / W) := by
  obtain ⟨_, hi, hj, hb⟩ := h
  have li : i < W * H := by rw [← hn]; exact (List.getElem?_eq_some_iff.1 hi).1
  have lj : j < W * H := by rw [← hn]; exact (List.getElem?_eq_some_iff.1 hj).1
  obtain ⟨a, b, h1, h2, h3, h4, h5, h6, h7⟩ := nb_coord (back_nb hW li lj hb).1
  generalize i % W = x at *
  generalize i / W = y at *
  generalize j % W = x2 at *
  generalize j / W = y2 at *
  refine ⟨by omega, by omega, by omega, by omega, fun e => h5 (.inl (by omega)), fun e => Decidable.byContradiction fun hc => h5 (.inr ⟨e, by omega, by omega⟩)⟩
theorem rr_of_cn {W H : Nat} {eight d : Bool} {dk : List Bool} {i j : Nat} (hn : dk.length = W * H) (hW : 0 < W) (hi : dk[i]? = some d) (hj : dk[j]? = some d) (h : Cn eight (i % W) (i / W) (j % W) (j / W)) : RR W eight dk d i j := by
  have li : i < dk.length := (List.getElem?_eq_some_iff.1 hi).1
  have lj : j < dk.length := (List.getElem?_eq_some_iff.1 hj).1
  obtain ⟨h1, h2, h3, h4, h5, h6⟩ := h
  have nb : Nb W H eight i j := nb_mk (by omega) (a := ((j % W : Nat) : Int) - ((i % W : Nat) : Int)) (b := ((j / W : Nat) : Int) - ((i / W : Nat) : Int)) (by omega)
    (by
      rintro (h | ⟨h, h', h''⟩)
      · exact h5 (by omega)
      · have := h6 h; omega) (by omega) (by omega)
  rcases nb_back hW nb with h | h
  · exact .edge ⟨li, hi, hj, h⟩
  · exact .symm (.edge ⟨lj, hj, hi, h⟩)
theorem rr_map {W W' : Nat} {eight d : Bool} {dk dk' : List Bool} {φ : Nat → Nat} {H' : Nat} (hn : dk'.length = W' * H') (hW : 0 < W') (h : ∀ i j, dk'[i]? = some d → dk'[j]? = some d → Cn eight (i % W') (i / W') (j % W') (j / W') → RR W eight dk d (φ i) (φ j)) {i j : Nat} (hR : RR W' eight dk' d i j) : RR W eight dk d (φ i) (φ j) := by
  induction hR with
  | edge e => exact h _ _ e.2.1 e.2.2.1 (cn_of_ed hn hW e)
  | refl => exact Cl.refl _
  | symm _ ih => exact Cl.symm ih
  | trans _ _ i1 i2 => exact Cl.trans i1 i2
theorem cnt_filter {D : Nat → Prop} {R : Nat → Nat → Prop} (f k : Nat) : cnt D R f k = ((List.range k).filter fun i => decide (D i ∧ R f i)).length := by
  induction k with
  | zero => rfl
  | succ k ih =>
    rw [cnt, List.range_succ, List.filter_append, List.length_append, ← ih]
    by_cases h : D k ∧ R f k <;> simp [h]

/-- n' things over n things, c over each -/
structure Cov (n' n c : Nat) (φ : Nat → Nat) (fib : Nat → Nat → Nat) : Prop where
  lt : ∀ i, i < n' → φ i < n
  fl : ∀ p t, p < n → t < c → fib p t < n'
  fp : ∀ p t, p < n → t < c → φ (fib p t) = p
  of : ∀ i, i < n' → ∃ t, t < c ∧ fib (φ i) t = i
  inj : ∀ p t s, p < n → t < c → s < c → fib p t = fib p s → t = s
theorem fl_len (S : List Nat) (c : Nat) (fib : Nat → Nat → Nat) : (S.flatMap fun p => (List.range c).map (fib p)).length = c * S.length := by
  induction S with
  | nil => rfl
  | cons p S ih => rw [List.flatMap_cons, List.length_append, ih, List.length_map, List.length_range, List.length_cons, Nat.mul_succ]; omega
theorem Cov.nodup {n' n c : Nat} {φ : Nat → Nat} {fib : Nat → Nat → Nat} (h : Cov n' n c φ fib) : ∀ (S : List Nat), S.Nodup → (∀ p ∈ S, p < n) → (S.flatMap fun p => (List.range c).map (fib p)).Nodup
  | [], _, _ => List.nodup_nil
  | p :: S, hS, hn => by
    rw [List.nodup_cons] at hS
    rw [List.flatMap_cons, List.nodup_append]
    refine ⟨nodup_map_on List.nodup_range fun t ht s hs e => h.inj p t s (hn p (by simp)) (List.mem_range.1 ht) (List.mem_range.1 hs) e, h.nodup S hS.2 fun q hq => hn q (by simp [hq]), ?_⟩
    intro a ha b hb e
    subst e
    obtain ⟨t, ht, e1⟩ := List.mem_map.1 ha
    obtain ⟨q, hq, hb⟩ := List.mem_flatMap.1 hb
    obtain ⟨s, hs, e2⟩ := List.mem_map.1 hb
    have k1 := h.fp p t (hn p (by simp)) (List.mem_range.1 ht)
    have k2 := h.fp q s (hn q (by simp [hq])) (List.mem_range.1 hs)
    rw [e1] at k1
    rw [e2, k1] at k2
    exact hS.1 (k2 ▸ hq)
theorem Cov.cnt {n' n c : Nat} {φ : Nat → Nat} {fib : Nat → Nat → Nat} (h : Cov n' n c φ fib) {D D' : Nat → Prop} {R R' : Nat → Nat → Prop} (hD : ∀ i, D' i ↔ i < n' ∧ D (φ i)) {f f' : Nat} (hR : ∀ i, D' i → (R' f' i ↔ R f (φ i))) : cnt D' R' f' n' = c * cnt D R f n := by
  rw [cnt_filter, cnt_filter, ← fl_len _ c fib]
  have hm : ∀ p, p ∈ (List.range n).filter (fun i => decide (D i ∧ R f i)) ↔ p < n ∧ D p ∧ R f p := fun p => by rw [List.mem_filter, List.mem_range, decide_eq_true_eq]
  refine same_len (List.nodup_range.sublist List.filter_sublist) (h.nodup _ (List.nodup_range.sublist List.filter_sublist) fun p hp => ((hm p).1 hp).1) fun i => ?_
  rw [List.mem_filter, List.mem_range, decide_eq_true_eq, List.mem_flatMap]
  constructor
  · rintro ⟨h1, h2, h3⟩
    obtain ⟨t, ht, e⟩ := h.of i h1
    exact ⟨φ i, (hm _).2 ⟨h.lt i h1, ((hD i).1 h2).2, (hR i h2).1 h3⟩, List.mem_map.2 ⟨t, List.mem_range.2 ht, e⟩⟩
  · rintro ⟨p, hp, hi⟩
    obtain ⟨h1, h2, h3⟩ := (hm p).1 hp
    obtain ⟨t, ht, rfl⟩ := List.mem_map.1 hi
    have ht := List.mem_range.1 ht
    have e := h.fp p t h1 ht
    have hd : D' (fib p t) := (hD _).2 ⟨h.fl p t h1 ht, by rw [e]; exact h2⟩
    exact ⟨h.fl p t h1 ht, hd, (hR _ hd).2 (by rw [e]; exact h3)⟩
theorem Cov.first {n' n c : Nat} {φ : Nat → Nat} {fib : Nat → Nat → Nat} (h : Cov n' n c φ fib) (hc : 0 < c) {D D' : Nat → Prop} {R R' : Nat → Nat → Prop} (hD : ∀ i, D' i ↔ i < n' ∧ D (φ i)) (hDn : ∀ p, D p → p < n)
    (hR : ∀ i j, D' i → D' j → (R' i j ↔ R (φ i) (φ j))) (hr : ∀ i, R i i) (hs : ∀ i j, R i j → R j i) (ht : ∀ i j k, R i j → R j k → R i k) (hr' : ∀ i, R' i i) (hs' : ∀ i j, R' i j → R' j i) (ht' : ∀ i j k, R' i j → R' j k → R' i k) :
    ∃ g : Nat → Nat, (∀ i, D i → Fst D R (g i) ∧ R (g i) i) ∧ ∀ (P P' : Nat → Prop), (∀ i, D' i → (P' i ↔ P (φ i))) → (∀ i j, D i → D j → R i j → P i → P j) →
      (((List.range n').filter fun i => decide (Fst D' R' i ∧ P' i)).map fun i => g (φ i)).Perm ((List.range n).filter fun i => decide (Fst D R i ∧ P i)) := by
  have hex : ∀ i, ∃ f, D i → Fst D R f ∧ R f i := fun i => by
    by_cases hi : D i
    · obtain ⟨f, _, f2, f3⟩ := first_of hr ht i hi; exact ⟨f, fun _ => ⟨f2, f3⟩⟩
    · exact ⟨0, fun h => (hi h).elim⟩
  obtain ⟨g, hg⟩ := Classical.axiomOfChoice hex
  refine ⟨g, hg, ?_⟩
  intro P P' hP hinv
  have hd' : ∀ {i}, Fst D' R' i → D' i := fun h => h.1
  refine (List.perm_ext_iff_of_nodup (nodup_map_on (List.nodup_range.sublist List.filter_sublist) fun x hx y hy e => ?_) (List.nodup_range.sublist List.filter_sublist)).2 fun f => ?_
  · rw [List.mem_filter, decide_eq_true_eq] at hx hy
    have dx := hd' hx.2.1
    have dy := hd' hy.2.1
    have gx := (hg (φ x) ((hD x).1 dx).2).2
    have gy := (hg (φ y) ((hD y).1 dy).2).2
    rw [show g (φ x) = g (φ y) from e] at gx
    have hxy : R' x y := (hR x y dx dy).2 (ht _ _ _ (hs _ _ gx) gy)
    exact first_eq hs' ht' hx.2.1 hy.2.1 hxy (hr' y)
  · rw [List.mem_map, List.mem_filter, List.mem_range, decide_eq_true_eq]
    constructor
    · rintro ⟨i, hi, rfl⟩
      rw [List.mem_filter, List.mem_range, decide_eq_true_eq] at hi
      have di := hd' hi.2.1
      have d := ((hD i).1 di).2
      obtain ⟨g1, g2⟩ := hg (φ i) d
      exact ⟨hDn _ g1.1, g1, hinv _ _ d g1.1 (hs _ _ g2) ((hP i di).1 hi.2.2)⟩
    · rintro ⟨hf, f1, f2⟩
      have e := h.fp f 0 hf hc
      have dz : D' (fib f 0) := (hD _).2 ⟨h.fl f 0 hf hc, by rw [e]; exact f1.1⟩
      obtain ⟨i, _, i1, i2⟩ := first_of hr' ht' _ dz
      have di := hd' i1
      have d := ((hD i).1 di).2
      have hif : R (φ i) f := by have := (hR i _ di dz).1 i2; rwa [e] at this
      obtain ⟨g1, g2⟩ := hg (φ i) d
      refine ⟨i, ?_, first_eq hs ht g1 f1 (ht _ _ _ g2 hif) (hr f)⟩
      rw [List.mem_filter, List.mem_range, decide_eq_true_eq]
      exact ⟨((hD i).1 di).1, i1, (hP i di).2 (hinv _ _ f1.1 d (hs _ _ hif) f2)⟩
/-- the areas of the components, in their order -/
noncomputable def ars (D : Nat → Prop) (R : Nat → Nat → Prop) (n : Nat) : List Int := ((List.range n).filter fun i => decide (Fst D R i)).map fun f => (Go.Proofs.Ytnnmebpahickhaa.cnt D R f n : Int)
theorem Cov.ars {n' n c : Nat} {φ : Nat → Nat} {fib : Nat → Nat → Nat} (h : Cov n' n c φ fib) (hc : 0 < c) {D D' : Nat → Prop} {R R' : Nat → Nat → Prop} (hD : ∀ i, D' i ↔ i < n' ∧ D (φ i)) (hDn : ∀ p, D p → p < n)
    (hR : ∀ i j, D' i → D' j → (R' i j ↔ R (φ i) (φ j))) (hr : ∀ i, R i i) (hs : ∀ i j, R i j → R j i) (ht : ∀ i j k, R i j → R j k → R i k) (hr' : ∀ i, R' i i) (hs' : ∀ i j, R' i j → R' j i) (ht' : ∀ i j k, R' i j → R' j k → R' i k) :
    (ars D' R' n').Perm ((ars D R n).map fun a => (c : Int) * a) := by
  obtain ⟨g, hg, hp⟩ := h.first hc hD hDn hR hr hs ht hr' hs' ht'
  have hp := hp (fun _ => True) (fun _ => True) (fun _ _ => Iff.rfl) (fun _ _ _ _ _ _ => trivial)
  simp only [and_true] at hp
  have e : Go.Proofs.Ytnnmebpahickhaa.ars D' R' n' = (((List.range n').filter fun i => decide (Fst D' R' i)).map fun i => g (φ i)).map fun f => (c : Int) * (Go.Proofs.Ytnnmebpahickhaa.cnt D R f n : Int) := by
    unfold Go.Proofs.Ytnnmebpahickhaa.ars
    rw [List.map_map]
    refine List.map_congr_left fun f' hf => ?_
    rw [List.mem_filter, decide_eq_true_eq] at hf
    have hd := hf.2.1
    obtain ⟨_, g2⟩ := hg (φ f') ((hD f').1 hd).2
    have := h.cnt (R := R) (R' := R') hD (f := g (φ f')) (f' := f') fun i hi => ⟨fun k => ht _ _ _ g2 ((hR _ _ hd hi).1 k), fun k => (hR _ _ hd hi).2 (ht _ _ _ (hs _ _ g2) k)⟩
    show (Go.Proofs.Ytnnmebpahickhaa.cnt D' R' f' n' : Int) = _
    rw [this]; simp
  rw [e]
  have e2 : (Go.Proofs.Ytnnmebpahickhaa.ars D R n).map (fun a => (c : Int) * a) = ((List.range n).filter fun i => decide (Fst D R i)).map fun f => (c : Int) * (Go.Proofs.Ytnnmebpahickhaa.cnt D R f n : Int) := by
    unfold Go.Proofs.Ytnnmebpahickhaa.ars
    rw [List.map_map]; rfl
  rw [e2]
  exact hp.map _
theorem ars_len (D : Nat → Prop) (R : Nat → Nat → Prop) (n : Nat) : (ars D R n).length = nf D R n := by unfold ars; rw [List.length_map, nf_filter]
theorem nf_place {D : Nat → Prop} {R : Nat → Nat → Prop} {f : Nat} (hf : Fst D R f) : ∀ k, f < k → ((List.range k).filter fun i => decide (Fst D R i))[nf D R f]? = some f
  | 0, h => absurd h (by omega)
  | k + 1, h => by
    rw [List.range_succ, List.filter_append]
    by_cases e : f = k
    · subst e
      rw [List.getElem?_append_right (by rw [← nf_filter]; exact Nat.le_refl _), ← nf_filter, Nat.sub_self]
      simp [hf]
    · have ih := nf_place hf k (by omega)
      rw [List.getElem?_append_left (List.getElem?_eq_some_iff.1 ih).1]
      exact ih
theorem Labelled.ars {D : Nat → Prop} {R : Nat → Nat → Prop} {W n : Nat} {lab : List Int} {bl : List Bl} (h : Labelled D R W n lab bl) : bl.map (·.area) = ars D R n := by
  refine List.ext_getElem? fun q => ?_
  by_cases hq : q < nf D R n
  · obtain ⟨f, f1, f2, rfl⟩ := nf_surj hq
    obtain ⟨b, b1, b2⟩ := h.blob f f1 f2
    unfold Go.Proofs.Ytnnmebpahickhaa.ars
    rw [List.getElem?_map, List.getElem?_map, b1, nf_place f2 n f1]
    exact congrArg some b2.area
  · rw [List.getElem?_eq_none (by rw [List.length_map, h.num]; omega), List.getElem?_eq_none (by rw [ars_len]; omega)]

/-- insertion as 'areas' does it -/
def ins (a : Int) (l : List Int) : List Int := l.takeWhile (fun b => decide (b ≤ a)) ++ a :: l.dropWhile (fun b => decide (b ≤ a))
def srt (l : List Int) : List Int := l.foldl (fun o a => ins a o) []
theorem ins_perm (a : Int) (l : List Int) : (ins a l).Perm (a :: l) := by
  unfold ins
  have := (List.perm_middle (a := a) (l₁ := l.takeWhile (fun b => decide (b ≤ a))) (l₂ := l.dropWhile (fun b => decide (b ≤ a))))
  rwa [List.takeWhile_append_dropWhile] at this
theorem takeWhile_all {p : Int → Bool} : ∀ (l : List Int), ∀ b ∈ l.takeWhile p, p b = true
  | [], b, h => by simp at h
  | x :: l, b, h => by
    rw [List.takeWhile_cons] at h
    by_cases hx : p x = true
    · rw [if_pos hx, List.mem_cons] at h
      rcases h with rfl | h
      · exact hx
      · exact takeWhile_all l b h
    · rw [if_neg hx] at h; simp at h
theorem ins_cons_le {a b : Int} {l : List Int} (h : b ≤ a) : ins a (b :: l) = b :: ins a l := by
  unfold ins; rw [List.takeWhile_cons, List.dropWhile_cons, if_pos (decide_eq_true h), if_pos (decide_eq_true h)]; rfl
theorem ins_cons_gt {a b : Int} {l : List Int} (h : ¬ b ≤ a) : ins a (b :: l) = a :: b :: l := by
  unfold ins; rw [List.takeWhile_cons, List.dropWhile_cons, if_neg (by simpa using h), if_neg (by simpa using h)]; rfl
theorem ins_sorted (a : Int) : ∀ (l : List Int), l.Pairwise (· ≤ ·) → (ins a l).Pairwise (· ≤ ·)
  | [], _ => by simp [ins]
  | b :: l, h => by
    rw [List.pairwise_cons] at h
    by_cases hb : b ≤ a
    · rw [ins_cons_le hb, List.pairwise_cons]
      refine ⟨fun x hx => ?_, ins_sorted a l h.2⟩
      have := (ins_perm a l).mem_iff.1 hx
      rw [List.mem_cons] at this
      rcases this with rfl | hx
      · exact hb
      · exact h.1 x hx
    · rw [ins_cons_gt hb, List.pairwise_cons, List.pairwise_cons]
      refine ⟨fun x hx => ?_, h⟩
      rw [List.mem_cons] at hx
      rcases hx with rfl | hx
      · omega
      · have := h.1 x hx; omega
theorem srt_go : ∀ (l o : List Int), o.Pairwise (· ≤ ·) → (l.foldl (fun o a => ins a o) o).Pairwise (· ≤ ·) ∧ (l.foldl (fun o a => ins a o) o).Perm (l ++ o)
  | [], o, h => ⟨h, List.Perm.refl _⟩
  | a :: l, o, h => by
    obtain ⟨h1, h2⟩ := srt_go l (ins a o) (ins_sorted a o h)
    exact ⟨h1, h2.trans (((ins_perm a o).append_left l).trans List.perm_middle)⟩
theorem srt_sorted (l : List Int) : (srt l).Pairwise (· ≤ ·) := (srt_go l [] List.Pairwise.nil).1
theorem srt_perm (l : List Int) : (srt l).Perm l := by have := (srt_go l [] List.Pairwise.nil).2; rwa [List.append_nil] at this
theorem sorted_eq {l m : List Int} (h1 : l.Pairwise (· ≤ ·)) (h2 : m.Pairwise (· ≤ ·)) (h : l.Perm m) : l = m := h.eq_of_pairwise (fun a b _ _ h h' => Int.le_antisymm h h') h1 h2
theorem srt_congr {l m : List Int} (h : l.Perm m) : srt l = srt m := sorted_eq (srt_sorted l) (srt_sorted m) ((srt_perm l).trans (h.trans (srt_perm m).symm))
theorem srt_scale {l : List Int} {c : Int} (hc : 0 ≤ c) : srt (l.map fun a => c * a) = (srt l).map fun a => c * a := by
  refine sorted_eq (srt_sorted _) ?_ ((srt_perm _).trans ((srt_perm l).map _).symm)
  rw [List.pairwise_map]
  exact (srt_sorted l).imp fun h => Int.mul_le_mul_of_nonneg_left h hc
theorem srt_snoc (l : List Int) (a : Int) : srt (l ++ [a]) = ins a (srt l) := by unfold srt; rw [List.foldl_append]; rfl
theorem srt_len (l : List Int) : (srt l).length = l.length := (srt_perm l).length_eq
end Go.Proofs.Ytnnmebpahickhaa
