/- finder: the path of the data of a code. -/
import Derived.Test.Ytbinlkobmlebpaax0
import Derived.Test.YtbinlkobmlebpaaFd40x
set_option linter.unusedSimpArgs false
set_option linter.unusedVariables false
namespace Go.Proofs.Ytbinlkobmlebpaa
open Go.RowKit Sym
theorem elem_Tapi_Point : Elem Try.prog 64 2 16 := elem_of (z := .agg #[.int .i64 0, .int .i64 0]) (by kernel_rfl) rfl (by decide)
open Fi
abbrev LPq := List (Int × Int)
def pe (q : Int × Int) : List Value := [i64 q.1, i64 q.2]
def PO (n : Nat) (l : LPq) : Prop := ∀ q ∈ l, 0 ≤ q.1 ∧ q.1 < n ∧ 0 ≤ q.2 ∧ q.2 < n ∧ ¬ zn n q.1 q.2
theorem PO.snoc {n : Nat} {l : LPq} {q : Int × Int} (h : PO n l) (hq : 0 ≤ q.1 ∧ q.1 < n ∧ 0 ≤ q.2 ∧ q.2 < n ∧ ¬ zn n q.1 q.2) : PO n (l ++ [q]) := fun z hz => (List.mem_append.1 hz).elim (h z) (fun hz => by rw [List.mem_singleton] at hz; subst hz; exact hq)
set_option maxHeartbeats 4000000 in
theorem path_ret (u n : Nat) (w : World) (hu : 1 ≤ u ∧ u ≤ 6) (hn : n = 17 + 4 * u) :
  Ret Try.prog 56 #[i64 u] w fun v w' => ∃ (vo : Value) (l : LPq), v = .tuple #[vo, i64 0] ∧ PO n l ∧ l.length ≤ 10000 ∧ M w Nn w' [Rg.slF pe 2 64 vo l] := by
 have hM := M.start w
 refine enter Try.func56 rfl (by kernel_rfl) Try.ntmps56 rfl ?_
 refine C.seq <| C.region <| E.asg rfl rfl <| E.asg rfl rfl <| E.nil <| X.next <| C.seq <| C.region <| E.mv rfl rfl <| ?_
 refine E.call rfl rfl (cells_ret u n _ hu hn) ?_
 rintro _ w0 ⟨vc, cl, rfl, hC, m0⟩
 have hM := hM.call m0
 have hcl := hC.1
 try dsimp only [Za, Zb, Zc, Zd, repl] at hM
 refine E.mv rfl rfl <| E.ext rfl rfl rfl <| E.ext rfl rfl rfl <| E.asg rfl rfl <| E.asg rfl rfl <| E.nil <| X.next <| C.seq <| C.seq <| C.region <| E.mv rfl rfl <| E.bin rfl rfl rfl rfl <| E.nil <| X.next <| ?_
 refine C.cond' rfl (fun hC0 => ?_) (fun hC0 => ?_)
 ·
  exact (hC0 rfl).elim
 ·
  refine C.skip <| X.next <| C.seq <| C.region <| E.mv rfl rfl <| ?_
  refine E.mulN (a := 4) (b := u) rfl rfl (by omega) rfl ?_
  refine E.addN (a := 17) (b := 4 * u) rfl rfl (by omega) rfl ?_
  rw [← hn]
  refine E.asg rfl rfl <| E.nil <| X.next <| C.seq <| C.region <| E.asg rfl rfl <| E.nil <| X.next <| C.seq <| C.region <| E.asg rfl rfl <| E.nil <| X.next <| C.seq <| C.seq <| C.region <| E.mv rfl rfl <| ?_
  refine E.sub' rfl rfl (by omega) rfl ?_
  refine E.asg rfl rfl <| E.nil <| X.next <| C.block <| ?_
  have hM := hM.nilF pe 2 64
  try dsimp only [Za, Zb, Zc, Zd, repl] at hM

  refine C.loop4 [(4, _), (6, _)] rfl (fun (r : Int) (vl : Value) (l : LPq) (up : Bool) => [(7, vl), (8, .bool up), (9, i64 r)]) (fun (r : Int) (vl : Value) (l : LPq) (up : Bool) w' => M w (Nn) w' [Rg.sl i64 118 vc cl, Rg.slF pe 2 64 vl l] ∧ -1 ≤ r ∧ r < n ∧ PO n l ∧ (l.length : Int) ≤ 41 * (n - r)) (fun (r : Int) (vl : Value) (l : LPq) (up : Bool) => (r + 1).toNat) ((n : Int) - 1) nls [] true ?_ ?_ ?_
  · exact Sub.cons rfl <| Sub.cons rfl <| Sub.cons rfl <| Sub.nil _
  · exact ⟨hM, by omega, by omega, fun q h => (by cases h), by simp only [List.length_nil]; omega⟩
  rintro r vl l up w1 ⟨hM, hr1, hr2, hP, hl⟩
  refine C.seq <| C.seq <| C.region <| E.mv rfl rfl <| E.bin rfl rfl rfl rfl <| E.nil <| X.next <| ?_
  refine C.cond' rfl (fun hC1 => ?_) (fun hC1 => ?_)
  ·
   refine C.skip <| X.next <| C.seq <| C.block <| ?_

   refine C.cut1 [(4, _), (6, _), (7, _), (8, _)] rfl (fun (r2 : Int) => [(9, i64 r2)]) (fun (r2 : Int) w' => M w (Nn) w' [Rg.sl i64 118 vc cl, Rg.slF pe 2 64 vl l] ∧ 1 ≤ r2 ∧ r2 ≤ r) ?_ ?_
   ·
    refine C.seq <| C.region <| E.mv rfl rfl <| E.bin rfl rfl rfl rfl <| E.nil <| X.next <| ?_
    refine C.cond' rfl (fun hC2 => ?_) (fun hC2 => ?_)
    ·

     refine C.region <| E.asg rfl rfl <| E.nil <| X.join1 5 (Sub.cons rfl <| Sub.nil _) rfl ⟨hM, by omega, by omega⟩
    ·

     refine C.skip <| X.join1 r (Sub.cons rfl <| Sub.nil _) rfl ⟨hM, by omega, by omega⟩
   rintro r2 w2 ⟨hM, hq1, hq2⟩
   refine C.seq <| C.seq <| C.region <| E.asg rfl rfl <| E.nil <| X.next <| C.block <| ?_

   refine C.loop3 [(4, _), (6, _), (8, _), (9, _)] rfl (fun (k : Nat) (vl : Value) (m : LPq) => [(7, vl), (10, i64 k)]) (fun (k : Nat) (vl : Value) (m : LPq) w' => M w (Nn) w' [Rg.sl i64 118 vc cl, Rg.slF pe 2 64 vl m] ∧ k ≤ n ∧ PO n m ∧ m.length ≤ l.length + 2 * k) (fun (k : Nat) (vl : Value) (m : LPq) => n - k) 0 vl l ?_ ?_ ?_
   · exact Sub.cons rfl <| Sub.cons rfl <| Sub.nil _
   · exact ⟨hM, Nat.zero_le _, hP, by omega⟩
   rintro k vl m w3 ⟨hM, hk, hPm, hlm⟩
   refine C.seq <| C.seq <| C.region <| E.mv rfl rfl <| E.mv rfl rfl <| E.bin rfl rfl rfl rfl <| E.nil <| X.next <| ?_
   refine C.cond' rfl (fun hC3 => ?_) (fun hC3 => ?_)
   ·
    have hk' : k < n := by omega
    refine C.skip <| X.next <| C.seq <| C.block <| C.seq <| C.region <| E.mv rfl rfl <| E.asg rfl rfl <| E.nil <| X.next <| ?_

    refine C.cut1 [(4, _), (6, _), (7, _), (8, _), (9, _), (10, _)] rfl (fun (y : Nat) => [(11, i64 y)]) (fun (y : Nat) w' => M w (Nn) w' [Rg.sl i64 118 vc cl, Rg.slF pe 2 64 vl m] ∧ y < n) ?_ ?_
    ·
     refine C.seq <| C.region <| E.mv rfl rfl <| E.nil <| X.next <| ?_
     refine C.cond rfl (fun hC4 => ?_) (fun hC4 => ?_)
     ·
      refine C.region <| E.mv rfl rfl <| ?_
      refine E.subN (a := n) (b := 1) rfl rfl (by omega) rfl ?_
      refine E.mv rfl rfl <| ?_
      refine E.subN (a := n - 1) (b := k) rfl rfl (by omega) rfl ?_

      refine E.asg rfl rfl <| E.nil <| X.join1 (n - 1 - k) (Sub.cons rfl <| Sub.nil _) rfl ⟨hM, by omega⟩
     ·

      refine C.skip <| X.join1 k (Sub.cons rfl <| Sub.nil _) rfl ⟨hM, hk'⟩
    rintro y w4 ⟨hM, hy⟩
    refine C.seq <| C.region <| E.mv rfl rfl <| E.asg rfl rfl <| E.nil <| X.next <| C.block <| ?_

    refine C.loop3 [(4, _), (6, _), (8, _), (9, _), (10, _), (11, _)] rfl (fun (x : Int) (vl : Value) (q : LPq) => [(7, vl), (12, i64 x)]) (fun (x : Int) (vl : Value) (q : LPq) w' => M w (Nn) w' [Rg.sl i64 118 vc cl, Rg.slF pe 2 64 vl q] ∧ r2 - 2 ≤ x ∧ x ≤ r2 ∧ PO n q ∧ (q.length : Int) ≤ m.length + (r2 - x)) (fun (x : Int) (vl : Value) (q : LPq) => (x + 2 - r2).toNat) r2 vl m ?_ ?_ ?_
    · exact Sub.cons rfl <| Sub.cons rfl <| Sub.nil _
    · exact ⟨hM, by omega, by omega, hPm, by omega⟩
    rintro x vl q w5 ⟨hM, hx1, hx2, hPq, hlq⟩
    refine C.seq <| C.seq <| C.region <| E.mv rfl rfl <| E.mv rfl rfl <| ?_
    refine E.sub' rfl rfl (by omega) rfl ?_
    refine E.bin rfl rfl rfl rfl <| E.nil <| X.next <| ?_
    refine C.cond' rfl (fun hC5 => ?_) (fun hC5 => ?_)
    ·
     obtain ⟨z, rfl⟩ : ∃ z : Nat, x = z := ⟨x.toNat, by omega⟩
     have hzn : z < n := by omega
     have hyn : y * n + z < n * n := by
      have h1 := Nat.mul_le_mul_right n (show y + 1 ≤ n by omega)
      rw [Nat.add_mul, Nat.one_mul] at h1; omega
     have hnn : n * n ≤ 41 * 41 := Nat.mul_le_mul (by omega) (by omega)
     have hinr : y * n + z < cl.length := by omega
     refine C.skip <| X.next <| ?_

     refine C.cut2 [(4, _), (6, _), (8, _), (9, _), (10, _), (11, _), (12, _)] rfl (fun (vl : Value) (q : LPq) => [(7, vl)]) (fun (vl : Value) (q : LPq) w' => M w (Nn) w' [Rg.sl i64 118 vc cl, Rg.slF pe 2 64 vl q] ∧ PO n q ∧ (q.length : Int) ≤ m.length + (r2 - z) + 1) ?_ ?_
     ·
      refine C.block <| C.seq <| C.region <| E.mv rfl rfl <| E.mv rfl rfl <| E.mv rfl rfl <| ?_
      refine E.mulN (a := y) (b := n) rfl rfl (by omega) rfl ?_
      refine E.mv rfl rfl <| ?_
      refine E.addN (a := y * n) (b := z) rfl rfl (by omega) rfl ?_
      refine E.get (k := y * n + z) rfl rfl (hM.sl 0 rfl) rfl hinr Try.underlying124 (by kernel_rfl) Try.underlying118 rfl rfl rfl ?_
      refine E.bin rfl rfl rfl rfl <| E.nil <| X.next <| ?_
      refine C.cond' rfl (fun hC6 => ?_) (fun hC6 => ?_)
      ·
       have hnz : ¬ zn (n : Int) (z : Int) (y : Int) := fun hz => by
        have h1 := hC.2 (y * n + z) hyn hyn
        rw [show (y * n + z) % n = z by rw [Nat.add_comm, Nat.add_mul_mod_self_right, Nat.mod_eq_of_lt hzn], show (y * n + z) / n = y by rw [Nat.add_comm, Nat.add_mul_div_right _ _ (by omega), Nat.div_eq_of_lt hzn, Nat.zero_add]] at h1
        have h2 := h1.2 hz
        rw [List.getD_eq_getElem?_getD, List.getElem?_eq_getElem hinr, Option.getD_some] at h2
        omega
       refine C.region <| E.mv rfl rfl <| E.mv rfl rfl <| E.mv rfl rfl <| ?_
       refine E.buildC (cs := [_, _]) [.int .i64 0, .int .i64 0] [0, 1] rfl rfl (by kernel_rfl) rfl ?_
       refine E.pushFM 1 ((z : Int), (y : Int)) hM rfl rfl rfl Try.underlying95 elem_Tapi_Point rfl (by decide) (ones rfl <| ones rfl <| ones_nil) (by omega) (by omega) (by simp) rfl rfl ?_
       intro v64 u64 w6 hM
       try dsimp only [Za, Zb, Zc, Zd, repl] at hM

       refine E.asg rfl rfl <| E.nil <| X.outN <| X.join2 _ _ (Sub.cons rfl <| Sub.nil _) rfl ⟨hM, hPq.snoc ⟨by show (0 : Int) ≤ z; omega, by show (z : Int) < n; omega, by show (0 : Int) ≤ y; omega, by show (y : Int) < n; omega, hnz⟩, by rw [List.length_append, List.length_singleton]; omega⟩
      ·

       refine C.skip <| X.outN <| X.join2 vl q (Sub.cons rfl <| Sub.nil _) rfl ⟨hM, hPq, by omega⟩
     rintro vl q w7 ⟨hM, hPq, hlq⟩
     refine C.region <| E.mv rfl rfl <| ?_
     refine E.sub' rfl rfl (by omega) rfl ?_

     refine E.asg rfl rfl <| E.nil <| X.again3 ((z : Int) - 1) _ _ (Sub.cons rfl <| Sub.cons rfl <| Sub.nil _) rfl ⟨hM, by omega, by omega, hPq, by omega⟩ (by omega)
    ·
     refine C.exit <| X.exitT <| X.exitT <| X.outE <| X.outN <| X.next <| C.region <| E.mv rfl rfl <| ?_
     refine E.addN (a := k) (b := 1) rfl rfl (by omega) rfl ?_

     refine E.asg rfl rfl <| E.nil <| X.again3 (k + 1) _ _ (Sub.cons rfl <| Sub.cons rfl <| Sub.nil _) rfl ⟨hM, by omega, hPq, by omega⟩ (by omega)
   ·
    refine C.exit <| X.exitT <| X.exitT <| X.outE <| X.next <| C.region <| E.mv rfl rfl <| E.not rfl rfl <| E.asg rfl rfl <| E.nil <| X.outN <| X.next <| C.region <| E.mv rfl rfl <| ?_
    refine E.sub' rfl rfl (by omega) rfl ?_

    refine E.asg rfl rfl <| E.nil <| X.again4 (r2 - 2) _ m (!up) (Sub.cons rfl <| Sub.cons rfl <| Sub.cons rfl <| Sub.nil _) rfl ⟨hM, by omega, by omega, hPm, by omega⟩ (by omega)
  ·
   refine C.exit <| X.exitT <| X.exitT <| X.outE <| X.next <| C.seq <| C.region <| E.mv rfl rfl <| E.asg rfl rfl <| E.asg rfl rfl <| E.nil <| X.next <| C.ret <| ret2 rfl rfl rfl ?_
   exact ⟨_, l, rfl, hP, by omega, hM.pick [1] (by decide)⟩
end Go.Proofs.Ytbinlkobmlebpaa
