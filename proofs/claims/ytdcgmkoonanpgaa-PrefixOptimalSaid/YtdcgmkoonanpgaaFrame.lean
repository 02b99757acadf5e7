/- From the way arguments are read to what the walks are told of them. For whatever program. -/
import Derived.Test.YtdcgmkoonanpgaaSym4
import Derived.ProofKit
import Derived.OpenShut
import Derived.ShutString
import Derived.ChangeOld
namespace Go.Proofs.Ytdcgmkoonanpgaa.Sym
set_option linter.unusedSimpArgs false
set_option linter.unusedVariables false
open Go.RowKit Go.ChangeShapes Go.WideShapes Go.ChangeAt

theorem spot_none {w : World} {a : Addr} {u : Value} (h : w.cell? a = some u) : a.spot = none := by
  unfold World.cell? at h
  split at h
  · split at h
    · cases h
    · rename_i hs; simpa using hs
  · cases h
/-- a slice of integers -/
theorem read_ints {H : Type} {enc : TypeId × Value → H} {P : Program} {w : World} {r : Reach} {base b0 : Nat} {t e : TypeId} {k : IntKind} {v : Value} {d : DataW H} {ps : List MemPlace}
    (ht : P.underlying t = some (.slice e)) (he : P.underlying e = some (.int k)) (hc : P.cellsOf e = 1) (hv : Value.okWide P w r b0 t v) (h : DataW.Trod enc P w base (fun _ => true) true t v d ps) :
    ∃ zs : List Int, Rd w 1 v zs.length (zs.map (Value.int k)) ∧ ∀ z ∈ zs, (Lit.int k z).wf = true := by
  obtain ⟨a, len, cap, rfl⟩ := okWide_slice ht hv
  obtain ⟨fuel, hf⟩ := h
  rcases open_ints ht he hc hf with ⟨hcs, _⟩ | ⟨x, l, c, zs, hcs, _, hl, hm, hz, _, hcell, hwz⟩
  · simp [Value.cells] at hcs
    obtain ⟨rfl, rfl, rfl⟩ := hcs
    exact ⟨[], ⟨none, 0, rfl, Nat.le_refl _, by unfold maxLen; omega, by simp, by simp, fun j u h => by simp at h⟩, by simp⟩
  · simp [Value.cells] at hcs
    obtain ⟨rfl, rfl, rfl⟩ := hcs
    have hzl : zs.length = cap := by simpa using hz
    have hlen : (zs.take len).length = len := by simp; omega
    refine ⟨zs.take len, ?_, fun z hz => hwz z (List.mem_of_mem_take hz)⟩
    rw [hlen]
    have key : ∀ j u, ((zs.take len).map (Value.int k))[j]? = some u → w.cell? (x.add j) = some u := by
      intro j u hu
      have hj : j < len := by have := (List.getElem?_eq_some_iff.1 hu).1; simp at this; omega
      rw [hcell j (by omega)]
      rw [List.getElem?_map, List.getElem?_take, if_pos hj, List.getElem?_eq_getElem (by omega)] at hu
      simp at hu
      rw [List.getD_eq_getElem?_getD, List.getElem?_eq_getElem (by omega)]
      simp [hu]
    refine ⟨some x, cap, rfl, hl, hm, by simp; omega, fun hpos => ?_, fun j u hu => ?_⟩
    · have h0 : 0 < len := by simp at hpos; omega
      have := key 0 (Value.int k (zs[0]'(by omega))) (by rw [List.getElem?_map, List.getElem?_take, if_pos h0, List.getElem?_eq_getElem (by omega)]; rfl)
      have hs := spot_none this
      simp [Addr.add] at hs
      exact ⟨x.block, x.off, by cases x; simp_all⟩
    · have hu' := key j u hu
      have h0 : 0 < len := by have := (List.getElem?_eq_some_iff.1 hu).1; simp at this; omega
      have := key 0 (Value.int k (zs[0]'(by omega))) (by rw [List.getElem?_map, List.getElem?_take, if_pos h0, List.getElem?_eq_getElem (by omega)]; rfl)
      have hs := spot_none this
      simp [Addr.add] at hs
      obtain ⟨b, off, sp⟩ := x
      simp at hs
      subst hs
      rw [addr_add] at hu'
      exact hu'
theorem wf_u8 {z : Int} (h : (Lit.int .u8 z).wf = true) : 0 ≤ z ∧ z ≤ 255 := by simpa [Lit.wf, IntKind.min, IntKind.max, IntKind.signed, IntKind.bits] using h
theorem wf_u16 {z : Int} (h : (Lit.int .u16 z).wf = true) : 0 ≤ z ∧ z ≤ 65535 := by simpa [Lit.wf, IntKind.min, IntKind.max, IntKind.signed, IntKind.bits] using h
theorem wf_u32 {z : Int} (h : (Lit.int .u32 z).wf = true) : 0 ≤ z ∧ z ≤ 4294967295 := by simpa [Lit.wf, IntKind.min, IntKind.max, IntKind.signed, IntKind.bits] using h
theorem wf_i64 {z : Int} (h : (Lit.int .i64 z).wf = true) : -9223372036854775808 ≤ z ∧ z ≤ 9223372036854775807 := by simpa [Lit.wf, IntKind.min, IntKind.max, IntKind.signed, IntKind.bits] using h
/-- a slice of bytes -/
theorem read_bytes {H : Type} {enc : TypeId × Value → H} {P : Program} {w : World} {r : Reach} {base b0 : Nat} {t e : TypeId} {v : Value} {d : DataW H} {ps : List MemPlace}
    (ht : P.underlying t = some (.slice e)) (he : P.underlying e = some (.int .u8)) (hc : P.cellsOf e = 1) (hv : Value.okWide P w r b0 t v) (h : DataW.Trod enc P w base (fun _ => true) true t v d ps) :
    ∃ l : List UInt8, RdL u8 w v l := by
  obtain ⟨zs, hR, hw⟩ := read_ints ht he hc hv h
  refine ⟨zs.map fun z => UInt8.ofNat z.toNat, ?_⟩
  unfold RdL
  have : (zs.map fun z => UInt8.ofNat z.toNat).map u8 = zs.map (Value.int .u8) := by
    rw [List.map_map]
    apply List.map_congr_left
    intro z hz
    have := wf_u8 (hw z hz)
    simp [u8]; omega
  rw [this]; simpa using hR
theorem u32_of {z : Int} (h : (Lit.int .u32 z).wf = true) : ∃ x : BitVec 32, z = (x.toNat : Int) := by
  have := wf_u32 h
  exact ⟨BitVec.ofNat 32 z.toNat, by simp; omega⟩
end Go.Proofs.Ytdcgmkoonanpgaa.Sym
