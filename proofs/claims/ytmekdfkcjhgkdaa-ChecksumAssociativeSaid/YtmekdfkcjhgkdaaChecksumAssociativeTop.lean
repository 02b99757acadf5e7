/- The law ChecksumAssociative, for every input: the frame round its walk. -/
import Derived.Test.YtmekdfkcjhgkdaaRows
import Derived.Test.YtmekdfkcjhgkdaaFrame
import Derived.Test.YtmekdfkcjhgkdaaChecksumAssociativeW
import Derived.Test.YtmekdfkcjhgkdaaTrd
namespace Go.Proofs.Ytmekdfkcjhgkdaa.checksumAssociative
open Go.ChangeShapes Go.WideShapes Go.ChangeAt Go.RowKit Sym

theorem own : ownKnob Try.prog.godebug = none := by kernel_rfl
theorem laidOut : laidOutB Try.prog = true := by kernel_rfl

set_option maxRecDepth 100000 in
theorem lifted (os : Os) (started : os.Started) (H : Type) (enc : TypeId × Value → H) :
    ReturnsInHanded {} Try.checked os 8 .any (Rows.checksumAssociativeSpec.pre6 enc Try.prog Try.f8 Rows.checksumAssociativeRow.domain false) (Rows.checksumAssociativeSpec.post enc Try.prog Try.f8 false true false false) := by
  refine returnsInHanded_of_change (C := Try.checked) own started (by kernel_rfl) Try.func8
    (ChangeSpec.witness6 (enc := enc) (C := Try.checked) false ⟨#[], #[.agg #[.int .u32 0, .int .u32 0, .int .u32 0], .int .u32 0, .int .u32 0], []⟩ 8 (by kernel_rfl) (by kernel_rfl) (by kernel_rfl) (by kernel_rfl)) ?_
  intro W base args ds gs before hval0 hW hcnd _
  have hval : ∀ (j : Nat) t v, Try.f8.params[j]? = some t → args[j]? = some v → Value.okWide Try.prog W .any base t v := hval0
  have hW' := hW
  obtain ⟨p, q, hA0, hV, rfl, hfz, hnd⟩ := hW
  have hA : DataW.TrodAll enc Try.prog W 0 (fun _ => true) true Try.f8.params.toList args.toList ds p := hA0
  rw [Try.params8] at hA hval
  obtain ⟨v0, vs0, d0, ds0, p0, q0, hargs, rfl, rfl, h0, r0⟩ := trodAll_cons hA
  obtain ⟨v1, vs1, d1, ds1, p1, q1, rfl, rfl, rfl, h1, r1⟩ := trodAll_cons r0
  obtain ⟨v2, vs2, d2, ds2, p2, q2, rfl, rfl, rfl, h2, r2⟩ := trodAll_cons r1
  obtain ⟨rfl, rfl, rfl⟩ := trodAll_nil r2
  obtain rfl : args = #[v0, v1, v2] := by cases args; simp_all
  obtain ⟨rfl, rfl⟩ := trodVars_none hV
  have k0 := h0
  have lt0 : ∀ x ∈ p0, x.block < W.heap.size := by obtain ⟨m, hm⟩ := k0; exact DataW.trod_lt m _ _ _ hm
  have k1 := h1
  have lt1 : ∀ x ∈ p1, x.block < W.heap.size := by obtain ⟨m, hm⟩ := k1; exact DataW.trod_lt m _ _ _ hm
  have k2 := h2
  have lt2 : ∀ x ∈ p2, x.block < W.heap.size := by obtain ⟨m, hm⟩ := k2; exact DataW.trod_lt m _ _ _ hm
  have hv0 := hval 0 34 v0 rfl rfl
  obtain ⟨cs, rfl⟩ := agg_array Try.underlying34 hv0
  have tr := Trd.of h0
  rw [agg_cells] at tr
  obtain ⟨hl, hel⟩ := tr.array Try.underlying34
  obtain ⟨a0, t0, rfl, hl0⟩ := split1 (n := 2) hl
  obtain ⟨a1, t1, rfl, hl1⟩ := split1 (n := 1) hl0
  obtain ⟨a2, t2, rfl, hl2⟩ := split1 (n := 0) hl1
  obtain rfl := List.length_eq_zero_iff.1 hl2
  obtain ⟨n0, e0, wf0⟩ := (hel 0 (by decide)).int Try.underlying23
  obtain ⟨n1, e1, wf1⟩ := (hel 1 (by decide)).int Try.underlying23
  obtain ⟨n2, e2, wf2⟩ := (hel 2 (by decide)).int Try.underlying23
  have e0' : a0 = .int .u32 n0 := by have : [a0] = [.int .u32 n0] := e0; simpa using this
  have e1' : a1 = .int .u32 n1 := by have : [a1] = [.int .u32 n1] := e1; simpa using this
  have e2' : a2 = .int .u32 n2 := by have : [a2] = [.int .u32 n2] := e2; simpa using this
  obtain ⟨y0, rfl⟩ := u32_of wf0
  obtain ⟨y1, rfl⟩ := u32_of wf1
  obtain ⟨y2, rfl⟩ := u32_of wf2
  subst e0' e1' e2'
  obtain ⟨z1, rfl, _, _, wf1⟩ := open_int Try.underlying23 (hval 1 23 v1 rfl rfl) h1
  obtain ⟨x1, rfl⟩ := u32_of wf1
  obtain ⟨z2, rfl, _, _, wf2⟩ := open_int Try.underlying23 (hval 2 23 v2 rfl rfl) h2
  obtain ⟨x2, rfl⟩ := u32_of wf2
  clear hA0 hval0
  refine Calls.mono (ChecksumAssociative_ret y0 y1 y2 x1 x2 W ).2 fun e W' hq => ?_
  obtain ⟨v, rfl, rfl, bel⟩ := hq
  exact ⟨_, rfl, _, _, _, [], _, [], hW', trodAll_mk1 (shut_bool Try.underlying4 _), (trodAll_cons_mk (Below.trod laidOut (by kernel_rfl) (of_decide_eq_true (by kernel_rfl)) k0 bel lt0) (trodAll_cons_mk (Below.trod laidOut (by kernel_rfl) (of_decide_eq_true (by kernel_rfl)) k1 bel lt1) (trodAll_cons_mk (Below.trod laidOut (by kernel_rfl) (of_decide_eq_true (by kernel_rfl)) k2 bel lt2) trodAll_mk0))), rfl, bel.frame _, fun h => by cases h⟩

theorem over : Rows.checksumAssociativeRow.holds Try.pinned (OpenSpec.ofChange Rows.checksumAssociativeSpec) :=
  OpenClaim.holds_of_wide 8 Try.f8 rfl rfl rfl rfl rfl rfl rfl ⟨rfl, rfl, rfl, rfl, rfl⟩ rfl rfl rfl rfl rfl (by kernel_rfl) Try.func8 (by kernel_rfl)
    (of_decide_eq_true (by kernel_rfl)) (by unfold Func.isWrapper; first | (rw [if_pos (by decide +kernel)]; kernel_rfl) | (rw [if_neg (by decide +kernel)]; exact ⟨rfl, rfl⟩))
    (fun os started H enc _ => lifted os started H enc)

theorem proved : Rows.ChecksumAssociativeSaid := over
end Go.Proofs.Ytmekdfkcjhgkdaa.checksumAssociative
