/- The law ChecksumDigests, for every input: the frame round its walk. -/
import Derived.Test.YtmekdfkcjhgkdaaRows
import Derived.Test.YtmekdfkcjhgkdaaFrame
import Derived.Test.YtmekdfkcjhgkdaaChecksumDigestsW
import Derived.Test.YtmekdfkcjhgkdaaTrd
namespace Go.Proofs.Ytmekdfkcjhgkdaa.checksumDigests
open Go.ChangeShapes Go.WideShapes Go.ChangeAt Go.RowKit Sym

theorem own : ownKnob Try.prog.godebug = none := by kernel_rfl
theorem laidOut : laidOutB Try.prog = true := by kernel_rfl

set_option maxRecDepth 100000 in
theorem lifted (os : Os) (started : os.Started) (H : Type) (enc : TypeId × Value → H) :
    ReturnsInHanded {} Try.checked os 12 .any (Rows.checksumDigestsSpec.pre6 enc Try.prog Try.f12 Rows.checksumDigestsRow.domain false) (Rows.checksumDigestsSpec.post enc Try.prog Try.f12 false true false false) := by
  refine returnsInHanded_of_change (C := Try.checked) own started (by kernel_rfl) Try.func12
    (ChangeSpec.witness6 (enc := enc) (C := Try.checked) false ⟨#[], #[.slice none 0 0], []⟩ 8 (by kernel_rfl) (by kernel_rfl) (by kernel_rfl) (by kernel_rfl)) ?_
  intro W base args ds gs before hval0 hW hcnd _
  have hval : ∀ (j : Nat) t v, Try.f12.params[j]? = some t → args[j]? = some v → Value.okWide Try.prog W .any base t v := hval0
  have hW' := hW
  obtain ⟨p, q, hA0, hV, rfl, hfz, hnd⟩ := hW
  have hA : DataW.TrodAll enc Try.prog W 0 (fun _ => true) true Try.f12.params.toList args.toList ds p := hA0
  rw [Try.params12] at hA hval
  obtain ⟨v0, vs0, d0, ds0, p0, q0, hargs, rfl, rfl, h0, r0⟩ := trodAll_cons hA
  obtain ⟨rfl, rfl, rfl⟩ := trodAll_nil r0
  obtain rfl : args = #[v0] := by cases args; simp_all
  obtain ⟨rfl, rfl⟩ := trodVars_none hV
  have k0 := h0
  have lt0 : ∀ x ∈ p0, x.block < W.heap.size := by obtain ⟨m, hm⟩ := k0; exact DataW.trod_lt m _ _ _ hm
  have tr := Trd.of h0
  rw [arg_slice Try.underlying40 (hval 0 40 v0 rfl rfl)] at tr
  obtain ⟨v, os, hv, hrd, hos⟩ := tr.sliceF (enc := OpV.cells) (R := fun o => RdL u8 W o.p o.l) (sz := 3) Try.underlying40 (by kernel_rfl) (by decide) (fun c hc ht => by
    obtain ⟨_, hf⟩ := ht.struct Try.underlying47
    obtain ⟨x0, t0, rfl, hl0⟩ := split1 (n := 2) hc
    obtain ⟨x1, t1, rfl, hl1⟩ := split1 (n := 1) hl0
    obtain ⟨x2, t2, rfl, hl2⟩ := split1 (n := 0) hl1
    obtain rfl := List.length_eq_zero_iff.1 hl2
    obtain ⟨n0, e0, wf0⟩ := (hf 0 _ rfl).int Try.underlying5
    obtain ⟨n1, e1, wf1⟩ := (hf 1 _ rfl).int Try.underlying5
    obtain ⟨y, l, e2, rd⟩ := (hf 2 _ rfl).bytes Try.underlying22 Try.underlying5 (by kernel_rfl)
    have e0' : x0 = .int .u8 n0 := by have : [x0] = [.int .u8 n0] := e0; simpa using this
    have e1' : x1 = .int .u8 n1 := by have : [x1] = [.int .u8 n1] := e1; simpa using this
    have e2' : x2 = y := by have : [x2] = [y] := e2; simpa using this
    have b0 := wf_u8 wf0
    have b1 := wf_u8 wf1
    subst e0' e1' e2'
    exact ⟨⟨UInt8.ofNat n0.toNat, UInt8.ofNat n1.toNat, x2, l⟩, by simp [OpV.cells, u8]; omega, rd⟩)
  obtain rfl : v0 = v := by simpa using hv
  clear hA0 hval0
  refine Calls.mono (ChecksumDigests_ret v0 os W hrd hos).2 fun e W' hq => ?_
  obtain ⟨v, rfl, rfl, bel⟩ := hq
  exact ⟨_, rfl, _, _, _, [], _, [], hW', trodAll_mk1 (shut_bool Try.underlying4 _), (trodAll_cons_mk (Below.trod laidOut (by kernel_rfl) (of_decide_eq_true (by kernel_rfl)) k0 bel lt0) trodAll_mk0), rfl, bel.frame _, fun h => by cases h⟩

theorem over : Rows.checksumDigestsRow.holds Try.pinned (OpenSpec.ofChange Rows.checksumDigestsSpec) :=
  OpenClaim.holds_of_wide 12 Try.f12 rfl rfl rfl rfl rfl rfl rfl ⟨rfl, rfl, rfl, rfl, rfl⟩ rfl rfl rfl rfl rfl (by kernel_rfl) Try.func12 (by kernel_rfl)
    (of_decide_eq_true (by kernel_rfl)) (by unfold Func.isWrapper; first | (rw [if_pos (by decide +kernel)]; kernel_rfl) | (rw [if_neg (by decide +kernel)]; exact ⟨rfl, rfl⟩))
    (fun os started H enc _ => lifted os started H enc)

theorem proved : Rows.ChecksumDigestsSaid := over
end Go.Proofs.Ytmekdfkcjhgkdaa.checksumDigests
