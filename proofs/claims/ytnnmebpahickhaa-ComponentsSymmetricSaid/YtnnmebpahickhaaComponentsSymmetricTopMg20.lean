/- Texts of the claim, laid together: Holes, ExtM. -/
import Derived.Test.YtnnmebpahickhaaComponentsSymmetricTopMg18
import Derived.Test.YtnnmebpahickhaaComponentsSymmetricTopMg19
/- components: holes, Fill, Euler. -/
namespace Go.Proofs.Ytnnmebpahickhaa
set_option linter.unusedSimpArgs false
set_option linter.unusedVariables false
open Go.RowKit Sym Uf Classical

abbrev Mb := List (Int × Bool)
/-- the pixels that holes goes through -/
def Dl (a b x y j : Nat) : Prop := (j < x ∨ ∃ t, t < x ∧ j = (b - 1) * a + t) ∨ ∃ z, z < y ∧ (j = z * a ∨ j = z * a + a - 1)
theorem div_mod_mul (a j : Nat) : j = j / a * a + j % a := (Nat.div_add_mod' j a).symm
theorem dl_bord {a b : Nat} (ha : 0 < a) (hb : 0 < b) (j : Nat) : Dl a b a b j ↔ j < a * b ∧ Bord a b j := by
  have hba : (b - 1) * a + a = b * a := by rw [← Nat.succ_mul]; congr 1; omega
  have hab : a * b = b * a := Nat.mul_comm a b
  have le : ∀ z, z < b → z * a + a ≤ b * a := fun z hz => by rw [← Nat.succ_mul]; exact Nat.mul_le_mul_right a hz
  have l0 := le 0 hb
  constructor
  · rintro ((h | ⟨t, h1, rfl⟩) | ⟨z, h1, rfl | rfl⟩)
    · exact ⟨by omega, .inr (.inr (.inl (Nat.div_eq_of_lt h)))⟩
    · obtain ⟨e1, e2⟩ := divmod_of (W := a) (j := (b - 1) * a + t) rfl h1
      exact ⟨by omega, .inr (.inr (.inr (by omega)))⟩
    · obtain ⟨e1, e2⟩ := divmod_of (W := a) (j := z * a) (x := 0) rfl ha
      have := le z h1
      exact ⟨by omega, .inl e2⟩
    · obtain ⟨e1, e2⟩ := divmod_of (W := a) (j := z * a + a - 1) (y := z) (x := a - 1) (by omega) (by omega)
      have := le z h1
      exact ⟨by omega, .inr (.inl (by omega))⟩
  · rintro ⟨h, hB⟩
    have hq : j / a < b := Nat.div_lt_of_lt_mul h
    have hm := Nat.mod_lt j ha
    have hd := div_mod_mul a j
    rcases hB with h1 | h1 | h1 | h1
    · exact .inr ⟨j / a, hq, .inl (by omega)⟩
    · exact .inr ⟨j / a, hq, .inr (by omega)⟩
    · rw [h1] at hd; exact .inl (.inl (by omega))
    · refine .inl (.inr ⟨j % a, hm, ?_⟩)
      have e : j / a = b - 1 := by omega
      rw [e] at hd; exact hd
theorem row_lt {a b x y : Nat} (hx : x < a) (hy : y < b) : y * a + x < a * b := by
  have := Nat.mul_le_mul_right a (show y + 1 ≤ b from hy)
  rw [Nat.succ_mul] at this
  rw [Nat.mul_comm a b]; omega
theorem dl_x (a b x j : Nat) : ((Dl a b x 0 j ∨ j = x) ∨ j = (b - 1) * a + x) ↔ Dl a b (x + 1) 0 j := by
  unfold Dl
  constructor
  · rintro ((((h | ⟨t, h1, h2⟩) | ⟨z, h, _⟩) | h) | h)
    · exact .inl (.inl (by omega))
    · exact .inl (.inr ⟨t, by omega, h2⟩)
    · omega
    · exact .inl (.inl (by omega))
    · exact .inl (.inr ⟨x, by omega, h⟩)
  · rintro ((h | ⟨t, h1, h2⟩) | ⟨z, h, _⟩)
    · by_cases e : j = x
      · exact .inl (.inr e)
      · exact .inl (.inl (.inl (.inl (by omega))))
    · by_cases e : t = x
      · subst e; exact .inr h2
      · exact .inl (.inl (.inl (.inr ⟨t, by omega, h2⟩)))
    · omega
theorem dl_y (a b x y j : Nat) : ((Dl a b x y j ∨ j = y * a) ∨ j = y * a + a - 1) ↔ Dl a b x (y + 1) j := by
  unfold Dl
  constructor
  · rintro (((h | ⟨z, h1, h2⟩) | h) | h)
    · exact .inl h
    · exact .inr ⟨z, by omega, h2⟩
    · exact .inr ⟨y, by omega, .inl h⟩
    · exact .inr ⟨y, by omega, .inr h⟩
  · rintro (h | ⟨z, h1, h2⟩)
    · exact .inl (.inl (.inl h))
    · by_cases e : z = y
      · subst e
        rcases h2 with h2 | h2
        · exact .inl (.inr h2)
        · exact .inr h2
      · exact .inl (.inl (.inr ⟨z, by omega, h2⟩))
set_option maxHeartbeats 2000000 in
theorem holes_ret (a b : Nat) (vd : Value) (dk : List Bool) (w : World) (hr : RdL Value.bool w vd dk) (hW : 1 ≤ a ∧ a ≤ 4096) (hH : 1 ≤ b ∧ b ≤ 4096) (hn : dk.length = a * b) (hn0 : dk.length ≤ 4194304) :
    Ret Try.prog 39 #[mat a b vd] w fun v w' => ∃ vs r s m, v = .tuple #[vs, .map (some r)] ∧ Parted a false dk false s ∧ Inn m s (DD dk false) (fun j => j < dk.length ∧ Bord a b j) ∧ M w Nn w' [Rg.sl i32 21 vs s, Rg.mp r .i32 Value.bool m] := by
  have hM := M.start w
  refine enter Try.func39 rfl (by kernel_rfl) Try.ntmps39 rfl ?_
  refine C.seq <| C.region <| ?_
  refine E.boxM hM rfl rfl rfl ?_
  intro b1 w0 hM
  try dsimp only [List.nil_append, List.cons_append, List.set_cons_zero, List.set_cons_succ, repl] at hM
  refine E.asg rfl rfl <| E.asg rfl rfl <| E.nil <| X.next <| C.seq <| C.region <| ?_
  refine E.loadA rfl Try.underlying24 rfl (by kernel_rfl) (by first | exact hM.bat 0 rfl | exact hM.bat 1 rfl | exact hM.bat 2 rfl | exact hM.bat 3 rfl | exact hM.bat 4 rfl | exact hM.bat 5 rfl | exact hM.bat 6 rfl | exact hM.bat 7 rfl) rfl ?_
  refine E.call rfl rfl (sets_ret a b vd dk false false _ (hM.arg0 hr) (by omega) (by omega) (by omega)) ?_
  rintro vs w9 ⟨s, os, hP, x9⟩
  have hM := hM.call (M.ofSl x9 os)
  have hsl := hP.len
  try dsimp only [List.nil_append, List.cons_append, List.set_cons_zero, List.set_cons_succ, repl] at hM
  refine E.asg rfl rfl <| E.nil <| X.next <| C.seq <| C.region <| ?_
  refine E.mkmapM .i32 Value.bool hM rfl ?_
  intro r12 w2 hM
  try dsimp only [List.nil_append, List.cons_append, List.set_cons_zero, List.set_cons_succ, repl] at hM
  refine E.asg rfl rfl <| E.nil <| X.next <| C.seq <| C.seq <| C.region <| E.mv rfl rfl <| ?_
  refine E.lenv rfl (Rd.shape (by first | exact hM.sl 0 rfl | exact hM.sl 1 rfl | exact hM.sl 2 rfl | exact hM.sl 3 rfl | exact hM.sl 4 rfl | exact hM.sl 5 rfl | exact hM.sl 6 rfl | exact hM.sl 7 rfl | exact hM.arg0 (by assumption) | exact hM.arg (by assumption) (by assumption) | assumption)) Try.underlying57 rfl ?_
  refine E.mv rfl rfl <| E.nil <| X.next <| C.block <| ?_

  refine C.loop2 [(1, _), (4, _), (5, _), (13, _), (14, _)] rfl (fun (i : Nat) (m : Mb) => [(15, i64 i)]) (fun (i : Nat) (m : Mb) w' => M w (Nn) w' [Rg.blk b1 24 [i64 a, i64 b, vd], Rg.sl i32 21 vs s, Rg.mp r12 .i32 Value.bool m] ∧ i ≤ s.length ∧ Inn m s (fun j => j < i ∧ DD dk false j) (fun _ => False)) (fun (i : Nat) (m : Mb) => s.length - i) 0 [] ?_ ?_ ?_
  · exact Sub.cons rfl <| Sub.nil _
  · exact ⟨hM, Nat.zero_le _, (Inn.start s).congr (fun i => by simp) (fun j => Iff.rfl)⟩
  rintro i m w3 ⟨hM, hi, hI⟩
  refine C.seq <| C.region <| E.bin rfl rfl rfl rfl <| E.nil <| X.next <| C.seq <| ?_
  refine C.cond' rfl (fun hC0 => ?_) (fun hC0 => ?_)
  ·
    have hi' : i < s.length := by omega
    have hz : s[i]? = some s[i] := List.getElem?_eq_getElem hi'
    refine C.skip <| X.next <| ?_

    refine C.cut1 [(1, _), (4, _), (5, _), (13, _), (14, _), (15, _)] rfl (fun (m : Mb) => []) (fun (m : Mb) w' => M w (Nn) w' [Rg.blk b1 24 [i64 a, i64 b, vd], Rg.sl i32 21 vs s, Rg.mp r12 .i32 Value.bool m] ∧ Inn m s (fun j => j < i + 1 ∧ DD dk false j) (fun _ => False)) ?_ ?_
    ·
      refine C.block <| C.seq <| C.region <| ?_
      refine E.get (k := _) rfl rfl (by first | exact hM.sl 0 rfl | exact hM.sl 1 rfl | exact hM.sl 2 rfl | exact hM.sl 3 rfl | exact hM.sl 4 rfl | exact hM.sl 5 rfl | exact hM.sl 6 rfl | exact hM.sl 7 rfl | exact hM.arg0 (by assumption) | exact hM.arg (by assumption) (by assumption) | assumption) rfl (by first | omega | (simp only [List.length_replicate, List.length_append, List.length_set, List.length_cons, List.length_nil, List.length_map, List.length_range, List.length_take, List.length_drop, List.length_zipWith] at *; omega)) Try.underlying57 (by kernel_rfl) Try.underlying21 rfl rfl rfl ?_
      refine E.asg rfl rfl <| E.nil <| X.next <| C.seq <| C.region <| E.mv rfl rfl <| E.bin rfl rfl rfl rfl <| E.nil <| X.next <| ?_
      refine C.cond' rfl (fun hC1 => ?_) (fun hC1 => ?_)
      ·
        have hd : DD dk false i := (dk_cases (show i < dk.length by omega)).resolve_left fun h => hC1 (by have := hP.off i h; rw [hz] at this; exact Option.some.inj this)
        refine C.region <| E.mv rfl rfl <| E.mv rfl rfl <| ?_
        first
          | refine E.mputM 0 _ hM rfl rfl rfl rfl Try.underlying64 Try.underlying21 ?_
          | refine E.mputM 1 _ hM rfl rfl rfl rfl Try.underlying64 Try.underlying21 ?_
          | refine E.mputM 2 _ hM rfl rfl rfl rfl Try.underlying64 Try.underlying21 ?_
          | refine E.mputM 3 _ hM rfl rfl rfl rfl Try.underlying64 Try.underlying21 ?_
          | refine E.mputM 4 _ hM rfl rfl rfl rfl Try.underlying64 Try.underlying21 ?_
          | refine E.mputM 5 _ hM rfl rfl rfl rfl Try.underlying64 Try.underlying21 ?_
          | refine E.mputM 6 _ hM rfl rfl rfl rfl Try.underlying64 Try.underlying21 ?_
          | refine E.mputM 7 _ hM rfl rfl rfl rfl Try.underlying64 Try.underlying21 ?_
        intro w4 hM
        try dsimp only [List.nil_append, List.cons_append, List.set_cons_zero, List.set_cons_succ, repl] at hM

        refine E.nil <| X.outN <| X.join1 (aput m s[i] true) (Sub.nil _) rfl ⟨hM, (hI.put hz).congr (fun j => ⟨fun h => h.elim (fun h => ⟨by omega, h.2⟩) (fun h => by subst h; exact ⟨by omega, hd⟩), fun h => if e : j = i then .inr e else .inl ⟨by omega, h.2⟩⟩) (fun j => Iff.rfl)⟩
      ·
        have hd : ¬ DD dk false i := fun h => by
          obtain ⟨q, _, hq⟩ := hP.on i h
          rw [hz] at hq
          have := Option.some.inj hq
          omega

        refine C.skip <| X.outN <| X.join1 m (Sub.nil _) rfl ⟨hM, hI.congr (fun j => ⟨fun h => ⟨by omega, h.2⟩, fun h => ⟨by have : j ≠ i := fun e => hd (e ▸ h.2); omega, h.2⟩⟩) (fun j => Iff.rfl)⟩
    rintro m w5 ⟨hM, hI⟩
    refine C.region <| ?_
    refine E.add rfl rfl (by omega) rfl ?_

    refine E.mv rfl rfl <| E.nil <| X.again2 (i + 1) m (Sub.cons rfl <| Sub.nil _) rfl ⟨hM, by omega, hI⟩ (by omega)
  ·
    obtain rfl : i = s.length := by omega
    have hI : Inn m s (DD dk false) (Dl a b 0 0) := hI.congr (fun j => ⟨fun h => h.2, fun h => ⟨by rw [hsl]; exact (List.getElem?_eq_some_iff.1 h).1, h⟩⟩) (fun j => by simp [Dl])
    have hb1 : ((b : Int) - 1) * (a : Int) = (((b - 1) * a : Nat) : Int) := by rw [show ((b : Int) - 1) = ((b - 1 : Nat) : Int) by omega, ← Int.natCast_mul]
    have hba : (b - 1) * a ≤ 4096 * 4096 := Nat.mul_le_mul (by omega) hW.2
    clear hi
    refine C.exit <| X.exitT <| X.exitT <| X.outE <| X.next <| C.seq <| C.seq <| C.region <| ?_
    refine E.fld (o := 0) (sz := 0) rfl Try.underlying24 rfl rfl (by kernel_rfl) rfl ?_
    refine E.load rfl Try.underlying3 rfl (by first | exact hM.bcell 0 rfl rfl | exact hM.bcell 1 rfl rfl | exact hM.bcell 2 rfl rfl | exact hM.bcell 3 rfl rfl | exact hM.bcell 4 rfl rfl | exact hM.bcell 5 rfl rfl | exact hM.bcell 6 rfl rfl | exact hM.bcell 7 rfl rfl) rfl ?_
    refine E.mv rfl rfl <| E.nil <| X.next <| C.block <| ?_

    refine C.loop2 [(1, _), (4, _), (5, _), (25, _)] rfl (fun (x : Nat) (m : Mb) => [(26, i64 x)]) (fun (x : Nat) (m : Mb) w' => M w (Nn) w' [Rg.blk b1 24 [i64 a, i64 b, vd], Rg.sl i32 21 vs s, Rg.mp r12 .i32 Value.bool m] ∧ x ≤ a ∧ Inn m s (DD dk false) (Dl a b x 0)) (fun (x : Nat) (m : Mb) => a - x) 0 m ?_ ?_ ?_
    · exact Sub.cons rfl <| Sub.nil _
    · exact ⟨hM, Nat.zero_le _, hI⟩
    rintro x m w6 ⟨hM, hx, hI⟩
    refine C.seq <| C.region <| E.bin rfl rfl rfl rfl <| E.nil <| X.next <| C.seq <| ?_
    refine C.cond' rfl (fun hC2 => ?_) (fun hC2 => ?_)
    ·
      have hx' : x < a := by omega
      have q1 : x < s.length := by have := row_lt hx' (show 0 < b by omega); omega
      have q2 : (b - 1) * a + x < s.length := by have := row_lt hx' (show b - 1 < b by omega); omega
      refine C.skip <| X.next <| C.seq <| C.block <| C.seq <| C.region <| E.mv rfl rfl <| E.asg rfl rfl <| E.nil <| X.next <| C.seq <| C.region <| E.mv rfl rfl <| E.mv rfl rfl <| E.mv rfl rfl <| ?_
      refine E.get (k := _) rfl rfl (by first | exact hM.sl 0 rfl | exact hM.sl 1 rfl | exact hM.sl 2 rfl | exact hM.sl 3 rfl | exact hM.sl 4 rfl | exact hM.sl 5 rfl | exact hM.sl 6 rfl | exact hM.sl 7 rfl | exact hM.arg0 (by assumption) | exact hM.arg (by assumption) (by assumption) | assumption) rfl (by first | omega | (simp only [List.length_replicate, List.length_append, List.length_set, List.length_cons, List.length_nil, List.length_map, List.length_range, List.length_take, List.length_drop, List.length_zipWith] at *; omega)) Try.underlying57 (by kernel_rfl) Try.underlying21 rfl rfl rfl ?_
      first
        | refine E.mdel0M 0 hM rfl rfl rfl Try.underlying64 Try.underlying21 ?_
        | refine E.mdel0M 1 hM rfl rfl rfl Try.underlying64 Try.underlying21 ?_
        | refine E.mdel0M 2 hM rfl rfl rfl Try.underlying64 Try.underlying21 ?_
        | refine E.mdel0M 3 hM rfl rfl rfl Try.underlying64 Try.underlying21 ?_
        | refine E.mdel0M 4 hM rfl rfl rfl Try.underlying64 Try.underlying21 ?_
        | refine E.mdel0M 5 hM rfl rfl rfl Try.underlying64 Try.underlying21 ?_
        | refine E.mdel0M 6 hM rfl rfl rfl Try.underlying64 Try.underlying21 ?_
        | refine E.mdel0M 7 hM rfl rfl rfl Try.underlying64 Try.underlying21 ?_
      intro w7 hM
      try dsimp only [List.nil_append, List.cons_append, List.set_cons_zero, List.set_cons_succ, repl] at hM
      refine E.nil <| X.next <| C.region <| E.mv rfl rfl <| E.mv rfl rfl <| ?_
      refine E.fld (o := 1) (sz := 0) rfl Try.underlying24 rfl rfl (by kernel_rfl) rfl ?_
      refine E.load rfl Try.underlying3 rfl (by first | exact hM.bcell 0 rfl rfl | exact hM.bcell 1 rfl rfl | exact hM.bcell 2 rfl rfl | exact hM.bcell 3 rfl rfl | exact hM.bcell 4 rfl rfl | exact hM.bcell 5 rfl rfl | exact hM.bcell 6 rfl rfl | exact hM.bcell 7 rfl rfl) rfl ?_
      refine E.sub' rfl rfl (by omega) rfl ?_
      refine E.fld (o := 0) (sz := 0) rfl Try.underlying24 rfl rfl (by kernel_rfl) rfl ?_
      refine E.load rfl Try.underlying3 rfl (by first | exact hM.bcell 0 rfl rfl | exact hM.bcell 1 rfl rfl | exact hM.bcell 2 rfl rfl | exact hM.bcell 3 rfl rfl | exact hM.bcell 4 rfl rfl | exact hM.bcell 5 rfl rfl | exact hM.bcell 6 rfl rfl | exact hM.bcell 7 rfl rfl) rfl ?_
      refine E.mul rfl rfl (by omega) rfl ?_
      rw [hb1]
      refine E.mv rfl rfl <| ?_
      refine E.addN rfl rfl (by first | omega | (simp only [List.length_replicate, List.length_append, List.length_set, List.length_cons, List.length_nil, List.length_map, List.length_range, List.length_take, List.length_drop, List.length_zipWith] at *; omega)) rfl ?_
      refine E.get (k := _) rfl rfl (by first | exact hM.sl 0 rfl | exact hM.sl 1 rfl | exact hM.sl 2 rfl | exact hM.sl 3 rfl | exact hM.sl 4 rfl | exact hM.sl 5 rfl | exact hM.sl 6 rfl | exact hM.sl 7 rfl | exact hM.arg0 (by assumption) | exact hM.arg (by assumption) (by assumption) | assumption) rfl (by first | omega | (simp only [List.length_replicate, List.length_append, List.length_set, List.length_cons, List.length_nil, List.length_map, List.length_range, List.length_take, List.length_drop, List.length_zipWith] at *; omega)) Try.underlying57 (by kernel_rfl) Try.underlying21 rfl rfl rfl ?_
      first
        | refine E.mdel0M 0 hM rfl rfl rfl Try.underlying64 Try.underlying21 ?_
        | refine E.mdel0M 1 hM rfl rfl rfl Try.underlying64 Try.underlying21 ?_
        | refine E.mdel0M 2 hM rfl rfl rfl Try.underlying64 Try.underlying21 ?_
        | refine E.mdel0M 3 hM rfl rfl rfl Try.underlying64 Try.underlying21 ?_
        | refine E.mdel0M 4 hM rfl rfl rfl Try.underlying64 Try.underlying21 ?_
        | refine E.mdel0M 5 hM rfl rfl rfl Try.underlying64 Try.underlying21 ?_
        | refine E.mdel0M 6 hM rfl rfl rfl Try.underlying64 Try.underlying21 ?_
        | refine E.mdel0M 7 hM rfl rfl rfl Try.underlying64 Try.underlying21 ?_
      intro w8 hM
      try dsimp only [List.nil_append, List.cons_append, List.set_cons_zero, List.set_cons_succ, repl] at hM
      refine E.nil <| X.outN <| X.next <| C.region <| ?_
      refine E.add rfl rfl (by omega) rfl ?_

      refine E.mv rfl rfl <| E.nil <| X.again2 (x + 1) _ (Sub.cons rfl <| Sub.nil _) rfl ⟨hM, by omega, ((hI.del (List.getElem?_eq_getElem q1)).del (List.getElem?_eq_getElem q2)).congr (fun j => Iff.rfl) (fun j => dl_x a b x j)⟩ (by omega)
    ·
      obtain rfl : a = x := by omega
      clear hx
      refine C.exit <| X.exitT <| X.exitT <| X.outE <| X.next <| C.seq <| C.seq <| C.region <| ?_
      refine E.fld (o := 1) (sz := 0) rfl Try.underlying24 rfl rfl (by kernel_rfl) rfl ?_
      refine E.load rfl Try.underlying3 rfl (by first | exact hM.bcell 0 rfl rfl | exact hM.bcell 1 rfl rfl | exact hM.bcell 2 rfl rfl | exact hM.bcell 3 rfl rfl | exact hM.bcell 4 rfl rfl | exact hM.bcell 5 rfl rfl | exact hM.bcell 6 rfl rfl | exact hM.bcell 7 rfl rfl) rfl ?_
      refine E.mv rfl rfl <| E.nil <| X.next <| C.block <| ?_

      refine C.loop2 [(1, _), (4, _), (5, _), (48, _)] rfl (fun (y : Nat) (m : Mb) => [(49, i64 y)]) (fun (y : Nat) (m : Mb) w' => M w (Nn) w' [Rg.blk b1 24 [i64 a, i64 b, vd], Rg.sl i32 21 vs s, Rg.mp r12 .i32 Value.bool m] ∧ y ≤ b ∧ Inn m s (DD dk false) (Dl a b a y)) (fun (y : Nat) (m : Mb) => b - y) 0 m ?_ ?_ ?_
      · exact Sub.cons rfl <| Sub.nil _
      · exact ⟨hM, Nat.zero_le _, hI⟩
      rintro y m w9 ⟨hM, hy, hI⟩
      refine C.seq <| C.region <| E.bin rfl rfl rfl rfl <| E.nil <| X.next <| C.seq <| ?_
      refine C.cond' rfl (fun hC3 => ?_) (fun hC3 => ?_)
      ·
        have hy' : y < b := by omega
        have q1 : y * a < s.length := by have := row_lt (show 0 < a by omega) hy'; omega
        have q2 : y * a + a - 1 < s.length := by have := row_lt (show a - 1 < a by omega) hy'; omega
        have q3 : y * a ≤ 4096 * 4096 := Nat.mul_le_mul (by omega) hW.2
        have q4 : (y : Int) * (a : Int) = ((y * a : Nat) : Int) := (Int.natCast_mul y a).symm
        refine C.skip <| X.next <| C.seq <| C.block <| C.seq <| C.region <| E.mv rfl rfl <| E.asg rfl rfl <| E.nil <| X.next <| C.seq <| C.region <| E.mv rfl rfl <| E.mv rfl rfl <| E.mv rfl rfl <| ?_
        refine E.fld (o := 0) (sz := 0) rfl Try.underlying24 rfl rfl (by kernel_rfl) rfl ?_
        refine E.load rfl Try.underlying3 rfl (by first | exact hM.bcell 0 rfl rfl | exact hM.bcell 1 rfl rfl | exact hM.bcell 2 rfl rfl | exact hM.bcell 3 rfl rfl | exact hM.bcell 4 rfl rfl | exact hM.bcell 5 rfl rfl | exact hM.bcell 6 rfl rfl | exact hM.bcell 7 rfl rfl) rfl ?_
        refine E.mulN rfl rfl (by first | omega | (simp only [List.length_replicate, List.length_append, List.length_set, List.length_cons, List.length_nil, List.length_map, List.length_range, List.length_take, List.length_drop, List.length_zipWith] at *; omega)) rfl ?_
        refine E.get (k := _) rfl rfl (by first | exact hM.sl 0 rfl | exact hM.sl 1 rfl | exact hM.sl 2 rfl | exact hM.sl 3 rfl | exact hM.sl 4 rfl | exact hM.sl 5 rfl | exact hM.sl 6 rfl | exact hM.sl 7 rfl | exact hM.arg0 (by assumption) | exact hM.arg (by assumption) (by assumption) | assumption) rfl (by first | omega | (simp only [List.length_replicate, List.length_append, List.length_set, List.length_cons, List.length_nil, List.length_map, List.length_range, List.length_take, List.length_drop, List.length_zipWith] at *; omega)) Try.underlying57 (by kernel_rfl) Try.underlying21 rfl rfl rfl ?_
        first
          | refine E.mdel0M 0 hM rfl rfl rfl Try.underlying64 Try.underlying21 ?_
          | refine E.mdel0M 1 hM rfl rfl rfl Try.underlying64 Try.underlying21 ?_
          | refine E.mdel0M 2 hM rfl rfl rfl Try.underlying64 Try.underlying21 ?_
          | refine E.mdel0M 3 hM rfl rfl rfl Try.underlying64 Try.underlying21 ?_
          | refine E.mdel0M 4 hM rfl rfl rfl Try.underlying64 Try.underlying21 ?_
          | refine E.mdel0M 5 hM rfl rfl rfl Try.underlying64 Try.underlying21 ?_
          | refine E.mdel0M 6 hM rfl rfl rfl Try.underlying64 Try.underlying21 ?_
          | refine E.mdel0M 7 hM rfl rfl rfl Try.underlying64 Try.underlying21 ?_
        intro w10 hM
        try dsimp only [List.nil_append, List.cons_append, List.set_cons_zero, List.set_cons_succ, repl] at hM
        refine E.nil <| X.next <| C.region <| E.mv rfl rfl <| E.mv rfl rfl <| E.mv rfl rfl <| ?_
        refine E.fld (o := 0) (sz := 0) rfl Try.underlying24 rfl rfl (by kernel_rfl) rfl ?_
        refine E.load rfl Try.underlying3 rfl (by first | exact hM.bcell 0 rfl rfl | exact hM.bcell 1 rfl rfl | exact hM.bcell 2 rfl rfl | exact hM.bcell 3 rfl rfl | exact hM.bcell 4 rfl rfl | exact hM.bcell 5 rfl rfl | exact hM.bcell 6 rfl rfl | exact hM.bcell 7 rfl rfl) rfl ?_
        refine E.mulN rfl rfl (by first | omega | (simp only [List.length_replicate, List.length_append, List.length_set, List.length_cons, List.length_nil, List.length_map, List.length_range, List.length_take, List.length_drop, List.length_zipWith] at *; omega)) rfl ?_
        refine E.fld (o := 0) (sz := 0) rfl Try.underlying24 rfl rfl (by kernel_rfl) rfl ?_
        refine E.load rfl Try.underlying3 rfl (by first | exact hM.bcell 0 rfl rfl | exact hM.bcell 1 rfl rfl | exact hM.bcell 2 rfl rfl | exact hM.bcell 3 rfl rfl | exact hM.bcell 4 rfl rfl | exact hM.bcell 5 rfl rfl | exact hM.bcell 6 rfl rfl | exact hM.bcell 7 rfl rfl) rfl ?_
        refine E.addN rfl rfl (by first | omega | (simp only [List.length_replicate, List.length_append, List.length_set, List.length_cons, List.length_nil, List.length_map, List.length_range, List.length_take, List.length_drop, List.length_zipWith] at *; omega)) rfl ?_
        refine E.sub' rfl rfl (by omega) rfl ?_
        refine E.get (k := y * a + a - 1) rfl rfl (by first | exact hM.sl 0 rfl | exact hM.sl 1 rfl | exact hM.sl 2 rfl | exact hM.sl 3 rfl | exact hM.sl 4 rfl | exact hM.sl 5 rfl | exact hM.sl 6 rfl | exact hM.sl 7 rfl | exact hM.arg0 (by assumption) | exact hM.arg (by assumption) (by assumption) | assumption) (by omega) q2 Try.underlying57 (by kernel_rfl) Try.underlying21 rfl rfl rfl ?_
        first
          | refine E.mdel0M 0 hM rfl rfl rfl Try.underlying64 Try.underlying21 ?_
          | refine E.mdel0M 1 hM rfl rfl rfl Try.underlying64 Try.underlying21 ?_
          | refine E.mdel0M 2 hM rfl rfl rfl Try.underlying64 Try.underlying21 ?_
          | refine E.mdel0M 3 hM rfl rfl rfl Try.underlying64 Try.underlying21 ?_
          | refine E.mdel0M 4 hM rfl rfl rfl Try.underlying64 Try.underlying21 ?_
          | refine E.mdel0M 5 hM rfl rfl rfl Try.underlying64 Try.underlying21 ?_
          | refine E.mdel0M 6 hM rfl rfl rfl Try.underlying64 Try.underlying21 ?_
          | refine E.mdel0M 7 hM rfl rfl rfl Try.underlying64 Try.underlying21 ?_
        intro w11 hM
        try dsimp only [List.nil_append, List.cons_append, List.set_cons_zero, List.set_cons_succ, repl] at hM
        refine E.nil <| X.outN <| X.next <| C.region <| ?_
        refine E.add rfl rfl (by omega) rfl ?_

        refine E.mv rfl rfl <| E.nil <| X.again2 (y + 1) _ (Sub.cons rfl <| Sub.nil _) rfl ⟨hM, by omega, ((hI.del (List.getElem?_eq_getElem q1)).del (List.getElem?_eq_getElem q2)).congr (fun j => Iff.rfl) (fun j => dl_y a b a y j)⟩ (by omega)
      ·
        obtain rfl : y = b := by omega
        refine C.exit <| X.exitT <| X.exitT <| X.outE <| X.next <| C.seq <| C.region <| E.mv rfl rfl <| E.mv rfl rfl <| E.asg rfl rfl <| E.asg rfl rfl <| E.nil <| X.next <| C.ret <| ret2 rfl rfl rfl ?_
        exact ⟨vs, r12, s, m, rfl, hP, hI.congr (fun j => Iff.rfl) (fun j => by rw [hn]; exact dl_bord (by omega) (by omega) j), hM.pick [1, 2] (by decide)⟩

end Go.Proofs.Ytnnmebpahickhaa

/- components: what Extract answers. -/
namespace Go.Proofs.Ytnnmebpahickhaa
set_option linter.unusedSimpArgs false
set_option linter.unusedVariables false
open Go.RowKit Sym Uf

def extf (labels : List Int) (a x y p : Nat) (num : Int) (t : Nat) : Bool := decide (labels.getD ((y + t / p) * a + x + t % p) 0 = num)
/-- the box lies in the bitmap -/
def InB (W Ht bx by_ bw bh : Int) : Prop := 0 ≤ bx ∧ 0 ≤ by_ ∧ 1 ≤ bw ∧ 1 ≤ bh ∧ bw ≤ W ∧ bh ≤ Ht ∧ bx ≤ W - bw ∧ by_ ≤ Ht - bh
def ExtSp (W Ht : Int) (n : Nat) (labels : List Int) (bx by_ bw bh num W1 H1 : Int) (l : List Bool) (e : Int) : Prop :=
  (¬ (okMat W Ht n ∧ (labels.length : Int) = W * Ht) ∧ W1 = 0 ∧ H1 = 0 ∧ l = [] ∧ e = 1) ∨
  ((okMat W Ht n ∧ (labels.length : Int) = W * Ht) ∧ ¬ InB W Ht bx by_ bw bh ∧ W1 = 0 ∧ H1 = 0 ∧ l = [] ∧ e = 3) ∨
  ((okMat W Ht n ∧ (labels.length : Int) = W * Ht) ∧ InB W Ht bx by_ bw bh ∧ W1 = bw ∧ H1 = bh ∧ e = 0 ∧ l = tab (bw.toNat * bh.toNat) (extf labels W.toNat bx.toNat by_.toNat bw.toNat num))
theorem ExtSp.det {W Ht : Int} {n : Nat} {labels : List Int} {bx by_ bw bh num W1 H1 W2 H2 : Int} {l m : List Bool} {e g : Int} (h : ExtSp W Ht n labels bx by_ bw bh num W1 H1 l e) (k : ExtSp W Ht n labels bx by_ bw bh num W2 H2 m g) : W1 = W2 ∧ H1 = H2 ∧ l = m ∧ e = g := by
  rcases h with ⟨h0, rfl, rfl, rfl, rfl⟩ | ⟨h0, h1, rfl, rfl, rfl, rfl⟩ | ⟨h0, h1, rfl, rfl, rfl, rfl⟩ <;> rcases k with ⟨k0, rfl, rfl, rfl, rfl⟩ | ⟨k0, k1, rfl, rfl, rfl, rfl⟩ | ⟨k0, k1, rfl, rfl, rfl, rfl⟩ <;> first | exact ⟨rfl, rfl, rfl, rfl⟩ | exact (h0 k0).elim | exact (k0 h0).elim | exact (h1 k1).elim | exact (k1 h1).elim
theorem extf_at {labels : List Int} {a x y p : Nat} {num : Int} {i j : Nat} (hi : i < p) (hl : (y + j) * a + x + i < labels.length) : extf labels a x y p num (j * p + i) = decide (labels[(y + j) * a + x + i] = num) := by
  obtain ⟨e1, e2⟩ := divmod_of (W := p) (j := j * p + i) rfl hi
  simp [extf, e1, e2, hl]
theorem ext_lt {a b x y p q i j : Nat} (hx : x + p ≤ a) (hy : y + q ≤ b) (hi : i < p) (hj : j < q) : (y + j) * a + x + i < a * b := by
  have := row_lt (a := a) (b := b) (x := x + i) (y := y + j) (by omega) (by omega)
  omega
end Go.Proofs.Ytnnmebpahickhaa
