/- Texts of the claim, laid together: Trd, Arg34, Df4. -/
import Derived.Deep.Slices
import Derived.Lib.LaidTab
import Derived.Test.YtcmgbjmcklfkcaaDoorDeflateStoresTopMg1
import Derived.Test.YtcmgbjmcklfkcaaDoorDeflateStoresTopMg15
import Derived.Test.YtcmgbjmcklfkcaaDoorDeflateStoresTopMg2
import Derived.Test.YtcmgbjmcklfkcaaDoorDeflateStoresTopMg28
/- What can be read of an argument, by the shape of its type. For whatever program. -/
namespace Go.Proofs.YtcmgbjmcklfkcaaDoor.Sym
set_option linter.unusedSimpArgs false
set_option linter.unusedVariables false
open Go.RowKit Go.ChangeShapes Go.WideShapes Go.ChangeAt

/-- cells that can be read as a value of a type -/
def Trd (P : Program) (w : World) (t : TypeId) (cs : List Value) : Prop := ∃ (H : Type) (enc : TypeId × Value → H) (fuel : Nat) (x : DataW H × List MemPlace), DataW.trod enc P w 0 (fun _ => true) true fuel t cs = some x
theorem Trd.of {H : Type} {enc : TypeId × Value → H} {P : Program} {w : World} {t : TypeId} {v : Value} {d : DataW H} {ps : List MemPlace} (h : DataW.Trod enc P w 0 (fun _ => true) true t v d ps) : Trd P w t v.cells.toList := by
  obtain ⟨fuel, h⟩ := h; exact ⟨H, enc, fuel, _, h⟩
section
variable {P : Program} {w : World} {t : TypeId} {cs : List Value}
theorem Trd.int {k : IntKind} (ht : P.underlying t = some (.int k)) (h : Trd P w t cs) : ∃ n, cs = [.int k n] ∧ (Lit.int k n).wf = true := by
  obtain ⟨H, enc, fuel, x, h⟩ := h
  obtain ⟨n, h1, _, h2⟩ := DataW.trod_int ht h
  exact ⟨n, h1, h2⟩
theorem Trd.bool (ht : P.underlying t = some .bool) (h : Trd P w t cs) : ∃ b, cs = [.bool b] := by
  obtain ⟨H, enc, fuel, x, h⟩ := h
  obtain ⟨b, h1, _⟩ := DataW.trod_bool ht h
  exact ⟨b, h1⟩
theorem Trd.string (ht : P.underlying t = some .string) (h : Trd P w t cs) : ∃ s : ByteArray, cs = [.string s] ∧ s.size ≤ maxLen := by
  obtain ⟨H, enc, fuel, x, h⟩ := h
  obtain ⟨s, h1, _, h2⟩ := DataW.trod_string ht h
  exact ⟨s, h1, h2⟩
theorem Trd.struct {fs : Array Field} (ht : P.underlying t = some (.struct fs)) (h : Trd P w t cs) : cs.length = P.cellsOf t ∧ ∀ (i : Nat) (f : Field), fs[i]? = some f → Trd P w f.type ((cs.drop f.offset).take (P.cellsOf f.type)) := by
  obtain ⟨H, enc, fuel, x, h⟩ := h
  obtain ⟨xs, n, _, _, hl, hx, hf⟩ := DataW.trod_struct ht h
  refine ⟨hl, fun i f hi => ?_⟩
  have := hf i f hi
  have hlt : i < xs.length := by rw [hx]; exact (Array.getElem?_eq_some_iff.1 hi).1
  rw [List.getElem?_eq_getElem hlt] at this
  exact ⟨H, enc, n, _, this⟩
theorem Trd.array {n : Nat} {e : TypeId} (ht : P.underlying t = some (.array n e)) (h : Trd P w t cs) : cs.length = P.cellsOf t ∧ ∀ i, i < n → Trd P w e ((cs.drop (i * P.cellsOf e)).take (P.cellsOf e)) := by
  obtain ⟨H, enc, fuel, x, h⟩ := h
  obtain ⟨xs, m, _, _, hl, hx, hf⟩ := DataW.trod_array ht h
  refine ⟨hl, fun i hi => ?_⟩
  have := hf i hi
  rw [List.getElem?_eq_getElem (by omega)] at this
  exact ⟨H, enc, m, _, this⟩
theorem flat_get (css : List (List Value)) (sz : Nat) (h : ∀ c ∈ css, c.length = sz) (hsz : 0 < sz) : ∀ j u, css.flatten[j]? = some u → ∃ c, css[j / sz]? = some c ∧ c[j % sz]? = some u := by
  induction css with
  | nil => intro j u hu; simp at hu
  | cons c css ih =>
    intro j u hu
    have hc : c.length = sz := h c (by simp)
    rw [List.flatten_cons, List.getElem?_append] at hu
    split at hu
    · rename_i hj
      rw [hc] at hj
      exact ⟨c, by rw [Nat.div_eq_of_lt hj]; rfl, by rw [Nat.mod_eq_of_lt hj]; exact hu⟩
    · rename_i hj
      rw [hc] at hj hu
      obtain ⟨c', h1, h2⟩ := ih (fun x hx => h x (by simp [hx])) (j - sz) u hu
      have hge : sz ≤ j := by omega
      have e1 : j / sz = (j - sz) / sz + 1 := by rw [Nat.div_eq_sub_div hsz hge]
      have e2 : j % sz = (j - sz) % sz := Nat.mod_eq_sub_mod hge
      exact ⟨c', by rw [e1]; simpa using h1, by rw [e2]; exact h2⟩
/-- a slice of whatever -/
theorem Trd.slice {e : TypeId} {sz : Nat} (ht : P.underlying t = some (.slice e)) (hc : P.cellsOf e = sz) (hsz : 0 < sz) (h : Trd P w t cs) :
    ∃ (v : Value) (css : List (List Value)), cs = [v] ∧ (∀ c ∈ css, c.length = sz ∧ Trd P w e c) ∧ Rd w sz v css.length css.flatten := by
  obtain ⟨H, enc, fuel, x, h⟩ := h
  rcases Deep.open_slice ht h with ⟨h0, _⟩ | ⟨a, len, cap, m, n, D, Pl, h1, _, hl, hm, hmm, _, hx⟩
  · exact ⟨_, [], h0, by simp, ⟨none, 0, rfl, Nat.le_refl _, by unfold maxLen; omega, by simp, by simp, fun j u h => by simp at h⟩⟩
  · have hmc : m = cap := by simpa using hmm
    subst hmc
    have hel : ∀ i, i < len → ∃ c : List Value, c.length = sz ∧ (∀ j u, c[j]? = some u → w.cell? ((a.add (i * sz)).add j) = some u) ∧ Trd P w e c := by
      intro i hi
      obtain ⟨c, hcs, htr⟩ := hx i (by omega)
      rw [hc] at hcs
      obtain ⟨_, h3, h4⟩ := World.cells?_some hcs
      exact ⟨c, h3, fun j u hu => (h4 j (by have := (List.getElem?_eq_some_iff.1 hu).1; omega)).trans hu, H, enc, n, _, htr⟩
    obtain ⟨f, hf⟩ : ∃ f : Nat → List Value, ∀ i, i < len → (f i).length = sz ∧ (∀ j u, (f i)[j]? = some u → w.cell? ((a.add (i * sz)).add j) = some u) ∧ Trd P w e (f i) := by
      refine ⟨fun i => if h : i < len then (hel i h).choose else [], fun i hi => ?_⟩
      simp only [hi, dif_pos]
      exact (hel i hi).choose_spec
    have hlenss : ((List.range len).map f).length = len := by simp
    refine ⟨_, (List.range len).map f, h1, fun c hc => ?_, ?_⟩
    · obtain ⟨i, hi, rfl⟩ := List.mem_map.1 hc
      have := hf i (by simpa using hi)
      exact ⟨this.1, this.2.2⟩
    · have hall : ∀ c ∈ (List.range len).map f, c.length = sz := fun c hc => by
        obtain ⟨i, hi, rfl⟩ := List.mem_map.1 hc
        exact (hf i (by simpa using hi)).1
      have hfl : ((List.range len).map f).flatten.length = len * sz := by
        rw [List.length_flatten]
        have : ((List.range len).map f).map List.length = List.replicate len sz := by
          apply List.ext_getElem
          · simp
          · intro i h1 h2
            simp only [List.length_map, List.length_range] at h1
            simp [(hf i h1).1]
        rw [this]; simp
      have key : ∀ j u, ((List.range len).map f).flatten[j]? = some u → w.cell? (a.add j) = some u := by
        intro j u hu
        obtain ⟨c, h2, h3⟩ := flat_get _ sz hall hsz j u hu
        have hi : j / sz < len := by have := (List.getElem?_eq_some_iff.1 h2).1; simpa using this
        have hcf : c = f (j / sz) := by
          rw [List.getElem?_map, List.getElem?_range hi] at h2; simpa using h2.symm
        subst hcf
        have h5 := (hf _ hi).2.1 _ _ h3
        have e : (a.add (j / sz * sz)).add (j % sz) = a.add j := by
          have hdm : j / sz * sz + j % sz = j := Nat.div_add_mod' j sz
          unfold Addr.add
          by_cases h0 : j / sz * sz = 0
          · have hj : j % sz = j := by omega
            rw [if_pos h0, hj]
          · have hj0 : j ≠ 0 := by omega
            rw [if_neg h0, if_neg hj0]
            by_cases hm0 : j % sz = 0
            · rw [if_pos hm0]; congr 1; omega
            · rw [if_neg hm0]; simp; omega
        rw [e] at h5; exact h5
      rw [hlenss]
      have spot : 0 < ((List.range len).map f).flatten.length → ∃ b off, a = ⟨b, off, none⟩ := by
        intro hp
        have := key 0 _ (List.getElem?_eq_getElem hp)
        have hs := spot_none this
        have hs' : a.spot = none := by simpa [Addr.add] using hs
        exact ⟨a.block, a.off, by rcases a with ⟨b, o, s⟩; cases hs'; rfl⟩
      refine ⟨some a, m, rfl, hl, hm, hfl, fun hp => ?_, fun j u hu => ?_⟩
      · obtain ⟨b, off, rfl⟩ := spot hp; exact ⟨b, off, rfl⟩
      · have hp : 0 < ((List.range len).map f).flatten.length := by have := (List.getElem?_eq_some_iff.1 hu).1; omega
        obtain ⟨b, off, rfl⟩ := spot hp
        have := key j u hu
        rw [addr_add] at this
        exact this
end
/-- an argument that is a struct -/
theorem agg_struct {P : Program} {w : World} {r : Reach} {b0 : Nat} {t : TypeId} {v : Value} {fs : Array Field} (ht : P.underlying t = some (.struct fs)) (hv : Value.okWide P w r b0 t v) : ∃ cs : List Value, v = .agg cs.toArray := by
  unfold Value.okWide at hv
  rw [ht] at hv
  obtain ⟨cs, h1, _⟩ := hv
  exact ⟨cs.toList, by simpa using h1⟩
/-- an argument that is an array -/
theorem agg_array {P : Program} {w : World} {r : Reach} {b0 : Nat} {t : TypeId} {v : Value} {n : Nat} {e : TypeId} (ht : P.underlying t = some (.array n e)) (hv : Value.okWide P w r b0 t v) : ∃ cs : List Value, v = .agg cs.toArray := by
  unfold Value.okWide at hv
  rw [ht] at hv
  obtain ⟨cs, h1, _⟩ := hv
  exact ⟨cs.toList, by simpa using h1⟩
/-- a slice, each of whose elements reads as one of a kind -/
theorem Trd.sliceF {P : Program} {w : World} {t e : TypeId} {cs : List Value} {sz : Nat} {α : Type} {enc : α → List Value} {R : α → Prop} (ht : P.underlying t = some (.slice e)) (hc : P.cellsOf e = sz) (hsz : 0 < sz)
    (hr : ∀ c, c.length = sz → Trd P w e c → ∃ a, enc a = c ∧ R a) (h : Trd P w t cs) : ∃ (v : Value) (l : List α), cs = [v] ∧ RdF enc sz w v l ∧ ∀ a ∈ l, R a := by
  obtain ⟨v, css, h1, h2, h3⟩ := h.slice ht hc hsz
  have hex : ∀ css : List (List Value), (∀ c ∈ css, c.length = sz ∧ Trd P w e c) → ∃ l : List α, l.map enc = css ∧ ∀ a ∈ l, R a := by
    intro css
    induction css with
    | nil => exact fun _ => ⟨[], rfl, by simp⟩
    | cons c css ih =>
      intro hall
      obtain ⟨l, hl, hR⟩ := ih fun c hc => hall c (by simp [hc])
      obtain ⟨a, ha, hRa⟩ := hr c (hall c (by simp)).1 (hall c (by simp)).2
      exact ⟨a :: l, by simp [ha, hl], fun b hb => (List.mem_cons.1 hb).elim (fun e => e ▸ hRa) (hR b)⟩
  obtain ⟨l, hl, hR⟩ := hex css h2
  refine ⟨v, l, h1, ⟨fun a ha => ?_, ?_⟩, hR⟩
  · exact (h2 (enc a) (hl ▸ List.mem_map_of_mem ha)).1
  · rw [List.flatMap_def, hl, ← List.length_map (f := enc), hl]; exact h3
/-- a slice of one-cell elements -/
theorem Trd.sliceL {P : Program} {w : World} {t e : TypeId} {cs : List Value} {α : Type} {enc : α → Value} {R : α → Prop} (ht : P.underlying t = some (.slice e)) (hc : P.cellsOf e = 1)
    (hr : ∀ c, Trd P w e [c] → ∃ a, enc a = c ∧ R a) (h : Trd P w t cs) : ∃ (v : Value) (l : List α), cs = [v] ∧ RdL enc w v l ∧ ∀ a ∈ l, R a := by
  obtain ⟨v, l, h1, h2, h3⟩ := h.sliceF (enc := fun a => [enc a]) (R := R) ht hc (by decide) (fun c hc ht => by
    obtain ⟨x, rfl⟩ := List.length_eq_one_iff.1 hc
    obtain ⟨a, ha, hR⟩ := hr x ht
    exact ⟨a, by rw [ha], hR⟩)
  refine ⟨v, l, h1, ?_, h3⟩
  have := h2.rd
  have e2 : ∀ l : List α, l.flatMap (fun a => [enc a]) = l.map enc := fun l => by induction l <;> simp_all
  rw [e2] at this
  exact this
theorem Trd.bytes {P : Program} {w : World} {t e : TypeId} {cs : List Value} (ht : P.underlying t = some (.slice e)) (he : P.underlying e = some (.int .u8)) (hc : P.cellsOf e = 1) (h : Trd P w t cs) : ∃ (v : Value) (l : List UInt8), cs = [v] ∧ RdL u8 w v l := by
  obtain ⟨v, l, h1, h2, _⟩ := h.sliceL (enc := u8) (R := fun _ => True) ht hc (fun c hc => by
    obtain ⟨n, h1, h2⟩ := hc.int he
    have := wf_u8 h2
    have h1 : c = .int .u8 n := by simpa using h1
    subst h1
    exact ⟨UInt8.ofNat n.toNat, by simp [u8]; omega, trivial⟩)
  exact ⟨v, l, h1, h2⟩
/-- an argument that is a slice -/
theorem arg_slice {P : Program} {w : World} {r : Reach} {b0 : Nat} {t e : TypeId} {v : Value} (ht : P.underlying t = some (.slice e)) (hv : Value.okWide P w r b0 t v) : v.cells.toList = [v] := by
  obtain ⟨a, n, c, rfl⟩ := okWide_slice ht hv; rfl
theorem agg_cells (cs : List Value) : (Value.agg cs.toArray).cells.toList = cs := rfl
/-- a list by its first parts -/
theorem split1 {α} {l : List α} {n : Nat} (h : l.length = n + 1) : ∃ a t, l = a :: t ∧ t.length = n := by
  cases l with
  | nil => simp at h
  | cons a t => exact ⟨a, t, rfl, by simpa using h⟩
end Go.Proofs.YtcmgbjmcklfkcaaDoor.Sym

/- chapter 34: the arguments of its laws; the package's variable. -/
namespace Go.Proofs.YtcmgbjmcklfkcaaDoor
set_option linter.unusedSimpArgs false
set_option linter.unusedVariables false
open Go.RowKit Sym Go.ChangeShapes Go.WideShapes Go.ChangeAt

theorem ord_tab {W : World} {name : String} (hg : Tryd.prog.globalNamed name = some 0) (h : Lib.TabIs Tryd.prog W name .i64 [16, 17, 18, 0, 8, 7, 9, 6, 10, 5, 11, 4, 12, 3, 13, 2, 14, 1, 15]) : Ord W := by
  have h0 := h.cell hg 0 (by decide)
  refine ⟨fun j u hu => ?_, World.block_lt_of_cell? W ⟨0, 0, none⟩ h0⟩
  have hj : j < 19 := by
    have := (List.getElem?_eq_some_iff.1 hu).1
    simpa [Df.ordL] using this
  have h1 := h.cell hg j hj
  rw [ord_at hj] at hu
  rw [Nat.zero_add, h1, ← hu]
  congr 2
  have : ∀ j, j < 19 → ([16, 17, 18, 0, 8, 7, 9, 6, 10, 5, 11, 4, 12, 3, 13, 2, 14, 1, 15] : List Int).getD j 0 = ((Df.ordL.getD j 0 : Nat) : Int) := by decide
  exact this j hj
end Go.Proofs.YtcmgbjmcklfkcaaDoor

/- deflate: the matches of data. -/
namespace Go.Proofs.YtcmgbjmcklfkcaaDoor
set_option linter.unusedSimpArgs false
set_option linter.unusedVariables false
open Go.RowKit Sym

theorem Sym.M.off0 {α : Type} {enc : α → Value} {w0 w : World} {rs : List Rg} {v : Value} {l : List α} (h : M w0 Nn w rs) (hR : RdL enc w0 v l) : Off (fpU rs) v l := by
  cases l with
  | nil => exact .inl rfl
  | cons a l =>
    refine .inr fun ⟨i, r, hi, hk⟩ => ?_
    have h1 := hR.lt (by simp)
    rcases h.mine i r hi _ hk with h2 | h2
    · exact h2
    · omega
theorem offB {α : Type} {b : Nat} {T : TypeId} {cs : List Value} {rs : List Rg} {v : Value} {l : List α} (ho : Off (fpU (Rg.blk b T cs :: rs)) v l) : Off (fpU [Rg.blk b T cs]) v l := by
  rcases ho with ho | ho
  · exact .inl ho
  · refine .inr fun ⟨i, r, hi, hk⟩ => ho ?_
    cases i with
    | zero => exact ⟨0, r, hi, hk⟩
    | succ i => simp at hi
theorem shl_u32 {a k c : Nat} (hk : k ≤ 31) (e : a * 2 ^ k = c) (hc : c ≤ 4294967295) : IntKind.u32.wrap ((a : Int) * 2 ^ min ((k : Int)).toNat IntKind.u32.bits) = (c : Int) := by
  have e1 : min ((k : Int)).toNat IntKind.u32.bits = k := by rw [Int.toNat_natCast]; simp [IntKind.bits]; omega
  have e2 : (a : Int) * 2 ^ k = (c : Int) := by rw [← e]; simp
  rw [e1, e2]; exact IntWalk.u32_in _ (by omega)
theorem or_u32 {a b : Nat} (k : Nat) (hb : b < 2 ^ k) (h : a * 2 ^ k + b < 4294967296) : bits .or .u32 ((a * 2 ^ k : Nat) : Int) (b : Int) = ((a * 2 ^ k + b : Nat) : Int) := by
  rw [u32_or_nat _ _ (by omega) (by omega), Nat.mul_comm a, ← Nat.two_pow_add_eq_or_of_lt hb]
theorem gdU {l : List UInt8} {i : Nat} (h : i < l.length) : l.getD i 0 = l[i] := by rw [List.getD_eq_getElem?_getD, List.getElem?_eq_getElem h]; rfl
theorem key_num {x y z : Nat} (hx : x < 256) (hy : y < 256) (hz : z < 256) : bits .or .u32 (bits .or .u32 ((x * 65536 : Nat) : Int) ((y * 256 : Nat) : Int)) (z : Int) = ((x * 65536 + y * 256 + z : Nat) : Int) := by
  have e1 := or_u32 (a := x) (b := y * 256) 16 (by omega) (by omega)
  have e2 := or_u32 (a := x * 256 + y) (b := z) 8 (by omega) (by omega)
  have h1 : x * 2 ^ 16 = x * 65536 := by rw [show (2 : Nat) ^ 16 = 65536 from rfl]
  have h2 : (x * 256 + y) * 2 ^ 8 = x * 65536 + y * 256 := by rw [show (2 : Nat) ^ 8 = 256 from rfl, Nat.add_mul, Nat.mul_assoc]
  rw [h1] at e1
  rw [h2] at e2
  rw [e1, e2]
theorem key_at {l : List UInt8} {j : Nat} (h : j + 3 ≤ l.length) : (l[j]'(by omega)).toNat * 65536 + (l[j + 1]'(by omega)).toNat * 256 + (l[j + 2]'(by omega)).toNat = Df.key l j := by
  unfold Df.key
  rw [gdU (show j < l.length by omega), gdU (show j + 1 < l.length by omega), gdU (show j + 2 < l.length by omega)]
/-- a finder that knows the places below a -/
structure Fs (l : List UInt8) (a : Nat) (m : List (Int × Int)) (bf : List Int) : Prop where
  len : bf.length = l.length
  last : ∀ k : Nat, aget m (k : Int) = if Df.pv l k a = -1 then none else some (Df.pv l k a)
  bef : ∀ j, j < a → j + 3 ≤ l.length → bf.getD j 0 = Df.pv l (Df.key l j) j
theorem Fs.zero (l : List UInt8) : Fs l 0 [] (List.replicate l.length 0) := ⟨List.length_replicate, fun k => rfl, fun j h => by omega⟩
theorem Fs.skip {l : List UInt8} {a : Nat} {m : List (Int × Int)} {bf : List Int} (h : Fs l a m bf) (hl : l.length < a + 3) : Fs l (a + 1) m bf := by
  refine ⟨h.len, fun k => ?_, fun j hj h3 => h.bef j (by omega) h3⟩
  rw [h.last k, show Df.pv l k (a + 1) = Df.pv l k a by rw [Df.pv, if_neg (fun c => by omega)]]
theorem Fs.link {l : List UInt8} {a : Nat} {m : List (Int × Int)} {bf : List Int} (h : Fs l a m bf) (hl : a + 3 ≤ l.length) : Fs l (a + 1) (aput m (Df.key l a : Int) (a : Int)) (bf.set a ((aget m (Df.key l a : Int)).getD (-1))) := by
  refine ⟨by rw [List.length_set]; exact h.len, fun k => ?_, fun j hj h3 => ?_⟩
  · rw [aget_aput, Df.pv]
    by_cases e : Df.key l a = k
    · rw [if_pos (by omega), if_pos (show a + 3 ≤ l.length ∧ Df.key l a = k from ⟨hl, e⟩), if_neg (by omega)]
    · rw [if_neg (by omega), if_neg (show ¬ (a + 3 ≤ l.length ∧ Df.key l a = k) from fun c => e c.2)]; exact h.last k
  · have hb := h.len
    by_cases e : j = a
    · subst e
      rw [List.getD_eq_getElem?_getD, List.getElem?_set_self (by omega), Option.getD_some, h.last]
      split
      · rename_i h1; rw [h1]; rfl
      · rfl
    · rw [List.getD_eq_getElem?_getD, List.getElem?_set_ne (by omega), ← List.getD_eq_getElem?_getD]
      exact h.bef j (by omega) h3
theorem key_ret (b j : Nat) (p : Value) (l : List UInt8) (w : World) (hc : w.cell? ⟨b, 0, none⟩ = some p) (hp : RdL u8 w p l) (hj : j + 3 ≤ l.length) :
    Ret Tryd.prog 59 #[pv b, i64 j] w fun v w' => v = .int .u32 (Df.key l j : Int) ∧ Ext w w' := by
  have hM := M.start w
  refine enter Tryd.func59 rfl (by kernel_rfl) Tryd.ntmps59 rfl ?_
  refine C.seq <| C.region <| E.asg rfl rfl <| E.nil <| X.next <| C.seq <| C.drawn (by kernel_rfl) (by kernel_rfl) <| Q.mv rfl rfl <| Q.nilc rfl rfl <| ?_
  refine Q.fld (o := 0) (sz := 0) rfl Tryd.underlying64 rfl rfl (by kernel_rfl) rfl ?_
  have h0 := (l[j]'(by omega)).toNat_lt
  have h1 := (l[j + 1]'(by omega)).toNat_lt
  have h2 := (l[j + 2]'(by omega)).toNat_lt
  refine Q.load rfl Tryd.underlying22 rfl hc rfl ?_
  refine Q.mv rfl rfl <| ?_
  refine Q.idx1 (k := j) rfl rfl hp rfl (by omega) Tryd.underlying22 (by kernel_rfl) rfl ?_
  refine Q.load rfl Tryd.underlying5 rfl (hp.cell (by omega)) rfl ?_
  refine Q.conv rfl Tryd.underlying5 Tryd.underlying98 (IntWalk.u32_in _ (by omega)) rfl ?_
  refine Q.shl rfl rfl (by decide) (shl_u32 (k := 16) (c := (l[j]'(by omega)).toNat * 65536) (by decide) (by omega) (by omega)) rfl ?_
  refine Q.mv rfl rfl <| Q.nilc rfl rfl <| ?_
  refine Q.fld (o := 0) (sz := 0) rfl Tryd.underlying64 rfl rfl (by kernel_rfl) rfl ?_
  refine Q.load rfl Tryd.underlying22 rfl hc rfl ?_
  refine Q.mv rfl rfl <| ?_
  refine Q.addN (a := j) (b := 1) rfl rfl (by have := Rd.le hp; omega) rfl ?_
  refine Q.idx1 (k := j + 1) rfl rfl hp rfl (by omega) Tryd.underlying22 (by kernel_rfl) rfl ?_
  refine Q.load rfl Tryd.underlying5 rfl (hp.cell (by omega)) rfl ?_
  refine Q.conv rfl Tryd.underlying5 Tryd.underlying98 (IntWalk.u32_in _ (by omega)) rfl ?_
  refine Q.shl rfl rfl (by decide) (shl_u32 (k := 8) (c := (l[j + 1]'(by omega)).toNat * 256) (by decide) (by omega) (by omega)) rfl ?_
  refine Q.bin rfl rfl rfl rfl <| Q.mv rfl rfl <| Q.nilc rfl rfl <| ?_
  refine Q.fld (o := 0) (sz := 0) rfl Tryd.underlying64 rfl rfl (by kernel_rfl) rfl ?_
  refine Q.load rfl Tryd.underlying22 rfl hc rfl ?_
  refine Q.mv rfl rfl <| ?_
  refine Q.addN (a := j) (b := 2) rfl rfl (by have := Rd.le hp; omega) rfl ?_
  refine Q.idx1 (k := j + 2) rfl rfl hp rfl (by omega) Tryd.underlying22 (by kernel_rfl) rfl ?_
  refine Q.load rfl Tryd.underlying5 rfl (hp.cell (by omega)) rfl ?_
  refine Q.conv rfl Tryd.underlying5 Tryd.underlying98 (IntWalk.u32_in _ (by omega)) rfl ?_
  refine Q.bin rfl rfl rfl rfl <| Q.asg rfl rfl <| Q.nil <| fun w0 hx0 => ?_
  have hM := hM.ext hx0
  refine X.next <| C.ret <| ret1 rfl rfl ?_
  exact ⟨by rw [key_num h0 h1 h2, key_at hj], hM.toExt⟩

set_option maxHeartbeats 1000000 in
theorem link_ret (b r a : Nat) (p vb : Value) (l : List UInt8) (m : List (Int × Int)) (bf : List Int) (w : World) (hs : Sep w [Rg.blk b 64 [p, .map (some r), vb], Rg.mp r .u32 i64 m, Rg.sl i64 3 vb bf]) (hp : RdL u8 w p l) (ho : Off (fpU [Rg.blk b 64 [p, .map (some r), vb], Rg.mp r .u32 i64 m, Rg.sl i64 3 vb bf]) p l) (ha : a + 3 ≤ l.length) (hbl : bf.length = l.length) :
    Ret Tryd.prog 61 #[pv b, i64 a] w fun v w' => M w (fpU [Rg.blk b 64 [p, .map (some r), vb], Rg.mp r .u32 i64 m, Rg.sl i64 3 vb bf]) w' [Rg.blk b 64 [p, .map (some r), vb], Rg.mp r .u32 i64 (aput m (Df.key l a : Int) (a : Int)), Rg.sl i64 3 vb (bf.set a ((aget m (Df.key l a : Int)).getD (-1)))] := by
  have hM := M.startS hs
  refine enter Tryd.func61 rfl (by kernel_rfl) Tryd.ntmps61 rfl ?_
  refine C.seq <| C.region <| E.mv rfl rfl <| E.nilc rfl rfl <| ?_
  refine E.fld (o := 2) (sz := 0) rfl Tryd.underlying64 rfl rfl (by kernel_rfl) rfl ?_
  refine E.load rfl Tryd.underlying29 rfl (hM.bcell 0 rfl rfl) rfl ?_
  refine E.mv rfl rfl <| ?_
  refine E.idx1 (k := a) rfl rfl (hM.sl 2 rfl) rfl (by omega) Tryd.underlying29 (by kernel_rfl) rfl ?_
  refine E.storeL (enc := i64) 2 (-1) hM rfl rfl rfl (by kernel_rfl) rfl rfl (by omega) ?_
  intro w0 hM
  try dsimp only [List.nil_append, List.cons_append, List.set_cons_zero, List.set_cons_succ, repl] at hM
  refine E.nil <| X.next <| ?_

  refine C.cut0 [(0, _), (1, _)] rfl [] (fun w' => M w (fpU [Rg.blk b 64 [p, .map (some r), vb], Rg.mp r .u32 i64 m, Rg.sl i64 3 vb bf]) w' [Rg.blk b 64 [p, .map (some r), vb], Rg.mp r .u32 i64 m, Rg.sl i64 3 vb (bf.set a ((aget m (Df.key l a : Int)).getD (-1)))]) ?_ ?_
  ·
    refine C.seq <| C.drawn (by kernel_rfl) (by kernel_rfl) <| Q.mv rfl rfl <| Q.nilc rfl rfl <| ?_
    refine Q.fld (o := 1) (sz := 0) rfl Tryd.underlying64 rfl rfl (by kernel_rfl) rfl ?_
    refine Q.load rfl Tryd.underlying62 rfl (hM.bcell 0 rfl rfl) rfl ?_
    refine Q.mv rfl rfl <| Q.mv rfl rfl <| ?_
    refine Q.call (v := .int .u32 (Df.key l a : Int)) rfl rfl (fun w' hw' => key_ret b a p l _ ((hM.ext hw').bcell 0 rfl rfl) ((hM.ext hw').arg hp ho) ha) ?_
    refine Q.lookup2 (z := .int .i64 0) rfl rfl Tryd.underlying62 Tryd.underlying98 (by kernel_rfl) (hM.mp 1 rfl) rfl ?_
    refine Q.mv rfl rfl <| Q.ext rfl rfl rfl <| Q.ext rfl rfl rfl <| Q.asg rfl rfl <| Q.asg rfl rfl <| Q.nil <| fun w1 hx1 => ?_
    have hM := hM.ext hx1
    refine X.next <| C.seq <| C.region <| E.mv rfl rfl <| E.nil <| X.next <| ?_
    refine C.cond rfl (fun hC0 => ?_) (fun hC0 => ?_)
    ·
      obtain ⟨z, hz⟩ := Option.isSome_iff_exists.1 hC0
      rw [hz]
      refine C.region <| E.mv rfl rfl <| E.nilc rfl rfl <| ?_
      refine E.fld (o := 2) (sz := 0) rfl Tryd.underlying64 rfl rfl (by kernel_rfl) rfl ?_
      refine E.load rfl Tryd.underlying29 rfl (hM.bcell 0 rfl rfl) rfl ?_
      refine E.mv rfl rfl <| E.mv rfl rfl <| ?_
      refine E.idx1 (k := a) rfl rfl (hM.sl 2 rfl) rfl (by rw [List.length_set]; omega) Tryd.underlying29 (by kernel_rfl) rfl ?_
      refine E.storeL (enc := i64) 2 z hM rfl rfl rfl (by kernel_rfl) rfl rfl (by rw [List.length_set]; omega) ?_
      intro w2 hM
      try dsimp only [List.nil_append, List.cons_append, List.set_cons_zero, List.set_cons_succ, repl] at hM

      refine E.nil <| X.join0  (Sub.nil _) rfl (hM.to (by rw [List.set_set]; rfl))
    ·
      have hz : aget m (Df.key l a : Int) = none := by simpa using hC0

      refine C.skip <| X.join0  (Sub.nil _) rfl (hM.to (by rw [hz]; rfl))
  rintro  w3 hM
  refine C.heldM hM [0] (by decide) (by kernel_rfl) fun wh4 hM hS => ?_
  refine H.take 0 rfl rfl (by kernel_rfl) (by kernel_rfl) (by kernel_rfl) hS (fun w' hM => Y.mv rfl) rfl ?_
  refine H.take 1 rfl rfl (by kernel_rfl) (by kernel_rfl) (by kernel_rfl) hS (fun w' hM => Y.nilc rfl) rfl ?_
  refine H.takeV 2 rfl rfl (by kernel_rfl) (by kernel_rfl) (by kernel_rfl) hS (Y.fld (o := 1) (sz := 0) rfl Tryd.underlying64 rfl rfl (by kernel_rfl)) (fun w' hM => Y.fld (o := 1) (sz := 0) rfl Tryd.underlying64 rfl rfl (by kernel_rfl)) rfl ?_
  refine H.take 4 rfl rfl (by kernel_rfl) (by kernel_rfl) (by kernel_rfl) hS (fun w' hM => Y.mv rfl) rfl ?_
  refine H.take 5 rfl rfl (by kernel_rfl) (by kernel_rfl) (by kernel_rfl) hS (fun w' hM => Y.mv rfl) rfl ?_
  refine H.take 7 rfl rfl (by kernel_rfl) (by kernel_rfl) (by kernel_rfl) hS (fun w' hM => Y.mv rfl) rfl ?_
  refine H.takeV 3 rfl rfl (by kernel_rfl) (by kernel_rfl) (by kernel_rfl) hS (Y.load rfl Tryd.underlying62 rfl (hM.bcell 0 rfl rfl)) (fun w' hM => Y.load rfl Tryd.underlying62 rfl (hM.bcell 0 rfl rfl)) rfl ?_
  refine H.only 6 rfl (by kernel_rfl) ?_
  refine E.call rfl rfl (key_ret b a p l _ (hM.bcell 0 rfl rfl) (hM.arg hp ho) ha) ?_
  rintro _ wk ⟨rfl, xk⟩
  have hM := hM.ext xk
  try dsimp only [List.nil_append, List.cons_append, List.set_cons_zero, List.set_cons_succ, repl] at hM
  have hS := hM.pick [0] (by decide)
  refine H.back hS ?_
  refine H.only 8 rfl (by kernel_rfl) ?_
  refine E.mputM 1 (a : Int) hM rfl rfl rfl rfl Tryd.underlying62 Tryd.underlying98 ?_
  intro w6 hM
  try dsimp only [List.nil_append, List.cons_append, List.set_cons_zero, List.set_cons_succ, repl] at hM
  have hS := hM.pick [0] (by decide)
  refine H.back hS ?_
  refine H.done (by kernel_rfl) ?_
  refine end0 rfl ?_
  exact hM

set_option maxHeartbeats 1000000 in
theorem add_ret (b r a : Nat) (p vb : Value) (l : List UInt8) (m : List (Int × Int)) (bf : List Int) (w : World) (hs : Sep w [Rg.blk b 64 [p, .map (some r), vb], Rg.mp r .u32 i64 m, Rg.sl i64 3 vb bf]) (hp : RdL u8 w p l) (ho : Off (fpU [Rg.blk b 64 [p, .map (some r), vb], Rg.mp r .u32 i64 m, Rg.sl i64 3 vb bf]) p l) (hF : Fs l a m bf) (ha : a < 65536) :
    Ret Tryd.prog 35 #[pv b, i64 a] w fun v w' => ∃ m' bf', M w (fpU [Rg.blk b 64 [p, .map (some r), vb], Rg.mp r .u32 i64 m, Rg.sl i64 3 vb bf]) w' [Rg.blk b 64 [p, .map (some r), vb], Rg.mp r .u32 i64 m', Rg.sl i64 3 vb bf'] ∧ Fs l (a + 1) m' bf' := by
  have hM := M.startS hs
  refine enter Tryd.func35 rfl (by kernel_rfl) Tryd.ntmps35 rfl ?_
  refine C.seq <| C.seq <| C.region <| E.mv rfl rfl <| ?_
  refine E.addN (a := a) (b := 3) rfl rfl (by omega) rfl ?_
  refine E.mv rfl rfl <| E.nilc rfl rfl <| ?_
  refine E.fld (o := 0) (sz := 0) rfl Tryd.underlying64 rfl rfl (by kernel_rfl) rfl ?_
  refine E.load rfl Tryd.underlying22 rfl (hM.bcell 0 rfl rfl) rfl ?_
  refine E.lenv rfl (Rd.shape (hM.arg hp ho)) Tryd.underlying22 rfl ?_
  refine E.bin rfl rfl rfl rfl <| E.nil <| X.next <| ?_
  refine C.cond' rfl (fun hC0 => ?_) (fun hC0 => ?_)
  ·
    refine C.ret <| X.retT <| ret0 rfl ?_
    exact ⟨m, bf, hM, hF.skip (by omega)⟩
  ·
    have h3 : a + 3 ≤ l.length := by omega
    refine C.skip <| X.next <| ?_

    refine C.cut0 [(0, _), (1, _)] rfl [] (fun w' => M w (fpU [Rg.blk b 64 [p, .map (some r), vb], Rg.mp r .u32 i64 m, Rg.sl i64 3 vb bf]) w' [Rg.blk b 64 [p, .map (some r), vb], Rg.mp r .u32 i64 m, Rg.sl i64 3 vb bf]) ?_ ?_
    ·

      refine C.chainE [(0, _), (1, _)] rfl [(19, .bool false)] ?_ ?_
      ·
        refine C.region <| E.mv rfl rfl <| E.bin rfl rfl rfl rfl <| E.mv rfl rfl <| ?_
        refine E.split 15 rfl (fun g15 => ?_) (fun g15 => ?_)
        ·
          try simp only [decide_eq_true_eq, decide_eq_false_iff_not, ne_eq, Decidable.not_not, Bool.not_eq_true', Bool.not_eq_false'] at g15
          refine E.on rfl rfl (E.mv rfl rfl ?_)
          refine E.on rfl rfl (E.rem rfl rfl (by omega) (remN (b := 65536)) rfl ?_)
          refine E.on rfl rfl (E.bin rfl rfl rfl rfl ?_)
          refine E.pick rfl rfl rfl <| E.nil <| X.join0 (Sub.cons (look_eq rfl (by first | rfl | (apply congrArg Value.bool; apply decide_eq_false; omega))) <| Sub.nil _) rfl rfl
        ·
          try simp only [decide_eq_true_eq, decide_eq_false_iff_not, ne_eq, Decidable.not_not, Bool.not_eq_true', Bool.not_eq_false'] at g15
          refine E.off rfl rfl rfl rfl <| E.off rfl rfl rfl rfl <| E.off rfl rfl rfl rfl <| E.pick rfl rfl rfl <| E.nil <| X.join0 (Sub.cons (look_eq rfl (by first | rfl | (apply congrArg Value.bool; apply decide_eq_false; omega))) <| Sub.nil _) rfl rfl
      refine C.cond rfl (fun hC1 => ?_) (fun hC1 => ?_)
      ·
        cases hC1
      ·

        refine C.skip <| X.join0  (Sub.nil _) rfl hM
    rintro  w0 hM
    refine C.region <| E.mv rfl rfl <| E.mv rfl rfl <| ?_
    refine E.call rfl rfl (link_ret b r a p vb l m bf _ (hM.pick [0, 1, 2] (by decide)).sep (hM.arg hp ho) ho h3 hF.len) ?_
    rintro _ w5 m5
    have hM := hM.calls [0, 1, 2] (by decide) rfl (by simp) m5
    try dsimp only [List.nil_append, List.cons_append, List.set_cons_zero, List.set_cons_succ, repl] at hM
    refine E.nil <| end0 rfl ?_
    exact ⟨_, _, hM, hF.link h3⟩

set_option maxHeartbeats 1000000 in
theorem equal_ret (b j a : Nat) (p vm vb : Value) (l : List UInt8) (w : World) (hs : Sep w [Rg.blk b 64 [p, vm, vb]]) (hp : RdL u8 w p l) (ho : Off (fpU [Rg.blk b 64 [p, vm, vb]]) p l) (hj : j < a) (hl : l.length ≤ 1000000) (ha : a ≤ l.length) :
    Ret Tryd.prog 60 #[pv b, i64 j, i64 a] w fun v w' => v = i64 (Df.eqn l j a : Int) ∧ M w (fpU [Rg.blk b 64 [p, vm, vb]]) w' [Rg.blk b 64 [p, vm, vb]] := by
  have hM := M.startS hs
  refine enter Tryd.func60 rfl (by kernel_rfl) Tryd.ntmps60 rfl ?_
  refine C.seq <| C.region <| E.asg rfl rfl <| E.nil <| X.next <| C.seq <| C.region <| E.asg rfl rfl <| E.nil <| X.next <| C.seq <| C.block <| ?_

  refine C.loop1 [(0, _), (1, _), (2, _)] rfl (fun (n : Nat) => [(7, i64 n)]) (fun (n : Nat) w' => M w (fpU [Rg.blk b 64 [p, vm, vb]]) w' [Rg.blk b 64 [p, vm, vb]] ∧ n ≤ 258 ∧ Df.ego l j a (258 - n) n = Df.eqn l j a) (fun (n : Nat) => 258 - n) 0 ?_ ?_ ?_
  · exact Sub.cons rfl <| Sub.nil _
  · exact ⟨hM, by omega, rfl⟩
  rintro n w0 ⟨hM, hn, he⟩
  refine C.seq <| ?_

  refine C.chainQ [(0, _), (1, _), (2, _), (7, _)] rfl [(41, .bool (decide (n < 258 ∧ a + n < l.length ∧ l.getD (j + n) 0 = l.getD (a + n) 0)))] ?_ ?_
  ·
    refine C.drawn (by kernel_rfl) (by kernel_rfl) <| Q.mv rfl rfl <| Q.bin rfl rfl rfl rfl <| Q.mv rfl rfl <| ?_
    refine Q.split 10 rfl (fun g10 => ?_) (fun g10 => ?_)
    ·
      try simp only [decide_eq_true_eq, decide_eq_false_iff_not, ne_eq, Decidable.not_not, Bool.not_eq_true', Bool.not_eq_false'] at g10
      refine Q.on rfl rfl (Q.mv rfl rfl ?_)
      refine Q.on rfl rfl (Q.mv rfl rfl ?_)
      refine Q.on rfl rfl (Q.addN (a := a) (b := n) rfl rfl (by omega) rfl ?_)
      refine Q.on rfl rfl (Q.mv rfl rfl ?_)
      refine Q.on rfl rfl (Q.nilc rfl rfl ?_)
      refine Q.on rfl rfl (Q.fld (o := 0) (sz := 0) rfl Tryd.underlying64 rfl rfl (by kernel_rfl) rfl ?_)
      refine Q.on rfl rfl (Q.load rfl Tryd.underlying22 rfl (hM.bcell 0 rfl rfl) rfl ?_)
      refine Q.on rfl rfl (Q.lenv rfl (Rd.shape (hM.arg hp ho)) Tryd.underlying22 rfl ?_)
      refine Q.on rfl rfl (Q.bin rfl rfl rfl rfl ?_)
      refine Q.pick rfl rfl rfl <| Q.mv rfl rfl <| ?_
      refine Q.split 21 rfl (fun g21 => ?_) (fun g21 => ?_)
      ·
        try simp only [decide_eq_true_eq, decide_eq_false_iff_not, ne_eq, Decidable.not_not, Bool.not_eq_true', Bool.not_eq_false'] at g21
        have g1 := gdU (l := l) (i := j + n) (by omega)
        have g2 := gdU (l := l) (i := a + n) (by omega)
        refine Q.on rfl rfl (Q.mv rfl rfl ?_)
        refine Q.on rfl rfl (Q.nilc rfl rfl ?_)
        refine Q.on rfl rfl (Q.fld (o := 0) (sz := 0) rfl Tryd.underlying64 rfl rfl (by kernel_rfl) rfl ?_)
        refine Q.on rfl rfl (Q.load rfl Tryd.underlying22 rfl (hM.bcell 0 rfl rfl) rfl ?_)
        refine Q.on rfl rfl (Q.mv rfl rfl ?_)
        refine Q.on rfl rfl (Q.mv rfl rfl ?_)
        refine Q.on rfl rfl (Q.addN (a := j) (b := n) rfl rfl (by omega) rfl ?_)
        refine Q.on rfl rfl (Q.idx1 (k := j + n) rfl rfl (hM.arg hp ho) rfl (by omega) Tryd.underlying22 (by kernel_rfl) rfl ?_)
        refine Q.on rfl rfl (Q.load rfl Tryd.underlying5 rfl ((hM.arg hp ho).cell (by omega)) rfl ?_)
        refine Q.on rfl rfl (Q.mv rfl rfl ?_)
        refine Q.on rfl rfl (Q.nilc rfl rfl ?_)
        refine Q.on rfl rfl (Q.fld (o := 0) (sz := 0) rfl Tryd.underlying64 rfl rfl (by kernel_rfl) rfl ?_)
        refine Q.on rfl rfl (Q.load rfl Tryd.underlying22 rfl (hM.bcell 0 rfl rfl) rfl ?_)
        refine Q.on rfl rfl (Q.mv rfl rfl ?_)
        refine Q.on rfl rfl (Q.mv rfl rfl ?_)
        refine Q.on rfl rfl (Q.addN (a := a) (b := n) rfl rfl (by omega) rfl ?_)
        refine Q.on rfl rfl (Q.idx1 (k := a + n) rfl rfl (hM.arg hp ho) rfl (by omega) Tryd.underlying22 (by kernel_rfl) rfl ?_)
        refine Q.on rfl rfl (Q.load rfl Tryd.underlying5 rfl ((hM.arg hp ho).cell (by omega)) rfl ?_)
        refine Q.on rfl rfl (Q.bin rfl rfl rfl rfl ?_)
        rw [show (decide (((l[j + n]'(by omega)).toNat : Int) = ((l[a + n]'(by omega)).toNat : Int))) = decide (l.getD (j + n) 0 = l.getD (a + n) 0) by rw [g1, g2]; exact decide_eq_decide.2 ⟨fun h => Df.u8_ext (by omega), fun h => by rw [h]⟩]
        refine Q.pick rfl rfl rfl <| Q.nil <| fun w1 hx1 => ?_
        refine X.join0 (Sub.cons (by first | exact leaf_f (by omega) | exact leaf_d ⟨fun h => ⟨by omega, by omega, h⟩, fun h => h.2.2⟩ | exact leaf_d (by omega)) <| Sub.nil _) rfl hx1
      ·
        try simp only [decide_eq_true_eq, decide_eq_false_iff_not, ne_eq, Decidable.not_not, Bool.not_eq_true', Bool.not_eq_false'] at g21
        refine Q.off rfl rfl rfl rfl <| Q.off rfl rfl rfl rfl <| Q.off rfl rfl rfl rfl <| Q.off rfl rfl rfl rfl <| Q.off rfl rfl rfl rfl <| Q.off rfl rfl rfl rfl <| Q.off rfl rfl rfl rfl <| Q.off rfl rfl rfl rfl <| Q.off rfl rfl rfl rfl <| Q.off rfl rfl rfl rfl <| Q.off rfl rfl rfl rfl <| Q.off rfl rfl rfl rfl <| Q.off rfl rfl rfl rfl <| Q.off rfl rfl rfl rfl <| Q.off rfl rfl rfl rfl <| Q.off rfl rfl rfl rfl <| Q.off rfl rfl rfl rfl <| Q.off rfl rfl rfl rfl <| Q.off rfl rfl rfl rfl <| Q.pick rfl rfl rfl <| Q.nil <| fun w2 hx2 => ?_
        refine X.join0 (Sub.cons (by first | exact leaf_f (by omega) | exact leaf_d ⟨fun h => ⟨by omega, by omega, h⟩, fun h => h.2.2⟩ | exact leaf_d (by omega)) <| Sub.nil _) rfl hx2
    ·
      try simp only [decide_eq_true_eq, decide_eq_false_iff_not, ne_eq, Decidable.not_not, Bool.not_eq_true', Bool.not_eq_false'] at g10
      refine Q.off rfl rfl rfl rfl <| Q.off rfl rfl rfl rfl <| Q.off rfl rfl rfl rfl <| Q.off rfl rfl rfl rfl <| Q.off rfl rfl rfl rfl <| Q.off rfl rfl rfl rfl <| Q.off rfl rfl rfl rfl <| Q.off rfl rfl rfl rfl <| Q.off rfl rfl rfl rfl <| Q.pick rfl rfl rfl <| Q.mv rfl rfl <| Q.off rfl rfl rfl rfl <| Q.off rfl rfl rfl rfl <| Q.off rfl rfl rfl rfl <| Q.off rfl rfl rfl rfl <| Q.off rfl rfl rfl rfl <| Q.off rfl rfl rfl rfl <| Q.off rfl rfl rfl rfl <| Q.off rfl rfl rfl rfl <| Q.off rfl rfl rfl rfl <| Q.off rfl rfl rfl rfl <| Q.off rfl rfl rfl rfl <| Q.off rfl rfl rfl rfl <| Q.off rfl rfl rfl rfl <| Q.off rfl rfl rfl rfl <| Q.off rfl rfl rfl rfl <| Q.off rfl rfl rfl rfl <| Q.off rfl rfl rfl rfl <| Q.off rfl rfl rfl rfl <| Q.off rfl rfl rfl rfl <| Q.pick rfl rfl rfl <| Q.nil <| fun w3 hx3 => ?_
      refine X.join0 (Sub.cons (by first | exact leaf_f (by omega) | exact leaf_d ⟨fun h => ⟨by omega, by omega, h⟩, fun h => h.2.2⟩ | exact leaf_d (by omega)) <| Sub.nil _) rfl hx3
  intro w4 hx4
  have hM := hM.ext hx4
  refine C.cond' rfl (fun hC0 => ?_) (fun hC0 => ?_)
  ·
    have he' : Df.ego l j a (258 - (n + 1)) (n + 1) = Df.eqn l j a := by
      rw [← he, show 258 - n = 258 - (n + 1) + 1 by omega, Df.ego, if_pos hC0.2]
    refine C.skip <| X.next <| C.block <| C.region <| E.mv rfl rfl <| ?_
    refine E.addN (a := n) (b := 1) rfl rfl (by omega) rfl ?_

    refine E.asg rfl rfl <| E.nil <| X.outN <| X.again1 (n + 1) (Sub.cons rfl <| Sub.nil _) rfl ⟨hM, by omega, he'⟩ (by omega)
  ·
    have hfin : Df.eqn l j a = n := by
      rw [← he]
      cases h : 258 - n with
      | zero => rfl
      | succ f => rw [Df.ego, if_neg (fun c => hC0 ⟨by omega, c⟩)]
    refine C.exit <| X.exitT <| X.exitT <| X.outE <| X.next <| C.seq <| C.region <| E.mv rfl rfl <| E.asg rfl rfl <| E.nil <| X.next <| C.ret <| ret1 rfl rfl ?_
    exact ⟨by rw [hfin], hM⟩

end Go.Proofs.YtcmgbjmcklfkcaaDoor
