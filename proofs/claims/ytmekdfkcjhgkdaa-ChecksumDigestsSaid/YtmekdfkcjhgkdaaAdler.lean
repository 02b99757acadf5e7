/- What the Adler-32 functions return. -/
import Derived.Test.YtmekdfkcjhgkdaaCrc
namespace Go.Proofs.Ytmekdfkcjhgkdaa
open Go.RowKit Sym

namespace Adler
/-- the two sums after bytes -/
def sums (l : List UInt8) : Nat × Nat := l.foldl (fun s c => ((s.1 + c.toNat) % 65521, (s.2 + (s.1 + c.toNat) % 65521) % 65521)) (1, 0)
/-- the checksum -/
def sum (l : List UInt8) : Nat := (sums l).2 * 65536 + (sums l).1
theorem sums_snoc (l : List UInt8) (c : UInt8) : sums (l ++ [c]) = (((sums l).1 + c.toNat) % 65521, ((sums l).2 + ((sums l).1 + c.toNat) % 65521) % 65521) := by simp [sums]
theorem sums_lt (l : List UInt8) : (sums l).1 < 65521 ∧ (sums l).2 < 65521 := by
  rcases List.eq_nil_or_concat l with h | ⟨m, c, h⟩
  · subst h; decide
  · rw [h, List.concat_eq_append, sums_snoc]; exact ⟨Nat.mod_lt _ (by decide), Nat.mod_lt _ (by decide)⟩
theorem sums_take (l : List UInt8) (k : Nat) (h : k < l.length) : sums (l.take (k + 1)) = (((sums (l.take k)).1 + (l[k]).toNat) % 65521, ((sums (l.take k)).2 + ((sums (l.take k)).1 + (l[k]).toNat) % 65521) % 65521) := by
  rw [List.take_succ_eq_append_getElem h, sums_snoc]
end Adler
abbrev w32 (n : Nat) : Value := .int .u32 (n : Int)
theorem rem32 (a : Nat) : (a : Int).tmod 65521 = ((a % 65521 : Nat) : Int) := by rw [Int.tmod_eq_emod_of_nonneg (by omega)]; simp
theorem add32 (a b : Nat) (h : a + b < 4294967296) : IntKind.u32.wrap ((a : Int) + (b : Int)) = ((a + b : Nat) : Int) := by rw [IntWalk.u32_in _ (by omega)]; simp
theorem join32 (a b : Nat) (ha : a < 65536) (hb : b < 65536) : bits .or .u32 ((b * 65536 : Nat) : Int) (a : Int) = ((b * 65536 + a : Nat) : Int) := by
  rw [u32_or_nat _ _ (by omega) (by omega), nat_join 16 (b * 65536) a (by simp) (by simpa using ha)]
theorem shl32 (b : Nat) (hb : b < 65536) : IntKind.u32.wrap ((b : Int) * 2 ^ min (16 : Int).toNat IntKind.u32.bits) = ((b * 65536 : Nat) : Int) := by
  rw [IntKind.wrap_u32']; simp [IntKind.bits]; omega
theorem mul32 (b : Nat) (hb : b < 65536) : IntKind.u32.wrap ((b : Int) * 65536) = ((b * 65536 : Nat) : Int) := by
  rw [IntKind.wrap_u32']; omega

theorem Adler32_ret (p : Value) (l : List UInt8) (w : World) (hp : RdL u8 w p l) :
    Ret Try.prog 19 #[p] w fun v w' => v = w32 (Adler.sum l) ∧ w = w' := by
  have hle : l.length ≤ 9223372036854775807 := Rd.le hp
  refine enter Try.func19 rfl (by kernel_rfl) Try.ntmps19 rfl ?_
  refine C.seq <| C.region <| E.asg rfl rfl <| E.nil <| X.next <| C.seq <| C.region <| E.asg rfl rfl <| E.asg rfl rfl <| E.nil <| X.next <| C.seq <| C.seq <| C.region <| E.mv rfl rfl <| ?_
  refine E.len rfl hp Try.underlying22 rfl ?_
  refine E.mv rfl rfl <| E.nil <| X.next <| C.block <| ?_

  refine C.loop (G := Nat) (fun k => [(3, w32 (Adler.sums (l.take k)).1), (4, w32 (Adler.sums (l.take k)).2), (7, p), (8, i64 l.length), (9, i64 k)]) (fun k w' => k ≤ l.length ∧ w = w') (fun k => l.length - k) 0 ?_ ?_ ?_
  · exact Sub.cons rfl <| Sub.cons rfl <| Sub.cons rfl <| Sub.cons rfl <| Sub.cons rfl <| Sub.nil _
  · exact ⟨by omega, rfl⟩
  · rintro k _ ⟨hk, rfl⟩
    refine C.seq <| C.region <| E.bin rfl rfl rfl rfl <| E.nil <| X.next <| C.seq <| ?_
    refine C.cond' rfl (fun hc => ?_) (fun hc => ?_)
    ·
      have hk' : k < l.length := by omega
      have hb := u8_lt l[k]
      have hs := Adler.sums_take l k hk'
      have hlt := Adler.sums_lt (l.take k)
      generalize Adler.sums (l.take k) = z at hs hlt
      refine C.skip <| X.next <| C.seq <| C.block <| C.seq <| C.region <| ?_
      refine E.get (k := k) rfl rfl hp rfl hk' Try.underlying22 (by kernel_rfl) Try.underlying5 rfl rfl rfl ?_
      refine E.asg rfl rfl <| E.nil <| X.next <| C.seq <| C.region <| E.mv rfl rfl <| E.mv rfl rfl <| ?_
      refine E.conv rfl Try.underlying5 Try.underlying23 (IntWalk.u32_in _ (by omega)) rfl ?_
      refine E.binw rfl rfl rfl (congrArg _ (add32 _ _ (by omega))) rfl ?_
      refine E.rem rfl rfl (by omega) (rem32 _) rfl ?_
      refine E.asg rfl rfl <| E.nil <| X.next <| C.region <| E.mv rfl rfl <| E.mv rfl rfl <| ?_
      refine E.binw rfl rfl rfl (congrArg _ (add32 _ _ (by omega))) rfl ?_
      refine E.rem rfl rfl (by omega) (rem32 _) rfl ?_
      refine E.asg rfl rfl <| E.nil <| X.outN <| X.next <| C.region <| ?_
      refine E.add rfl rfl (by omega) rfl ?_
      refine E.mv rfl rfl <| E.nil <| X.again (k + 1) (Sub.cons (by rw [hs]; rfl) <| Sub.cons (by rw [hs]; rfl) <| Sub.cons rfl <| Sub.cons rfl <| Sub.cons rfl <| Sub.nil _) ⟨by omega, rfl⟩ (by omega)
    ·
      obtain rfl : k = l.length := by omega
      have hlt := Adler.sums_lt l
      rw [List.take_length]
      refine C.exit <| X.exitT <| X.exitT <| X.outE <| X.next <| C.seq <| C.region <| E.mv rfl rfl <| ?_
      refine E.shl rfl rfl (by omega) (shl32 _ (by omega)) rfl ?_
      refine E.mv rfl rfl <| E.binw rfl rfl rfl (congrArg _ (join32 _ _ (by omega) (by omega))) rfl <| E.asg rfl rfl <| E.nil <| X.next <| C.ret <| ret1 rfl rfl ?_
      exact ⟨rfl, rfl⟩

theorem rAdler32_ret (p : Value) (l : List UInt8) (w : World) (hp : RdL u8 w p l) :
    Ret Try.prog 20 #[p] w fun v w' => v = w32 (Adler.sum l) ∧ w = w' := by
  have hle : l.length ≤ 9223372036854775807 := Rd.le hp
  refine enter Try.func20 rfl (by kernel_rfl) Try.ntmps20 rfl ?_
  refine C.seq <| C.region <| E.asg rfl rfl <| E.nil <| X.next <| C.seq <| C.region <| E.asg rfl rfl <| E.asg rfl rfl <| E.nil <| X.next <| C.seq <| C.seq <| C.region <| E.asg rfl rfl <| E.nil <| X.next <| C.block <| ?_

  refine C.loop (G := Nat) (fun k => [(0, p), (3, w32 (Adler.sums (l.take k)).1), (4, w32 (Adler.sums (l.take k)).2), (5, i64 k)]) (fun k w' => k ≤ l.length ∧ w = w') (fun k => l.length - k) 0 ?_ ?_ ?_
  · exact Sub.cons rfl <| Sub.cons rfl <| Sub.cons rfl <| Sub.cons rfl <| Sub.nil _
  · exact ⟨by omega, rfl⟩
  · rintro k _ ⟨hk, rfl⟩
    refine C.seq <| C.seq <| C.region <| E.mv rfl rfl <| E.mv rfl rfl <| ?_
    refine E.len rfl hp Try.underlying22 rfl ?_
    refine E.bin rfl rfl rfl rfl <| E.nil <| X.next <| ?_
    refine C.cond' rfl (fun hc => ?_) (fun hc => ?_)
    ·
      have hk' : k < l.length := by omega
      have hb := u8_lt l[k]
      have hs := Adler.sums_take l k hk'
      have hlt := Adler.sums_lt (l.take k)
      generalize Adler.sums (l.take k) = z at hs hlt
      refine C.skip <| X.next <| C.seq <| C.block <| C.seq <| C.region <| E.mv rfl rfl <| E.mv rfl rfl <| E.mv rfl rfl <| ?_
      refine E.get (k := k) rfl rfl hp rfl hk' Try.underlying22 (by kernel_rfl) Try.underlying5 rfl rfl rfl ?_
      refine E.conv rfl Try.underlying5 Try.underlying23 (IntWalk.u32_in _ (by omega)) rfl ?_
      refine E.binw rfl rfl rfl (congrArg _ (add32 _ _ (by omega))) rfl ?_
      refine E.rem rfl rfl (by omega) (rem32 _) rfl ?_
      refine E.asg rfl rfl <| E.nil <| X.next <| C.region <| E.mv rfl rfl <| E.mv rfl rfl <| ?_
      refine E.binw rfl rfl rfl (congrArg _ (add32 _ _ (by omega))) rfl ?_
      refine E.rem rfl rfl (by omega) (rem32 _) rfl ?_
      refine E.asg rfl rfl <| E.nil <| X.outN <| X.next <| C.region <| E.mv rfl rfl <| ?_
      refine E.add rfl rfl (by omega) rfl ?_
      refine E.asg rfl rfl <| E.nil <| X.again (k + 1) (Sub.cons rfl <| Sub.cons (by rw [hs]; rfl) <| Sub.cons (by rw [hs]; rfl) <| Sub.cons rfl <| Sub.nil _) ⟨by omega, rfl⟩ (by omega)
    ·
      obtain rfl : k = l.length := by omega
      have hlt := Adler.sums_lt l
      rw [List.take_length]
      refine C.exit <| X.exitT <| X.exitT <| X.outE <| X.next <| C.seq <| C.region <| E.mv rfl rfl <| ?_
      refine E.binw rfl rfl rfl (congrArg _ (mul32 _ (by omega))) rfl ?_
      refine E.mv rfl rfl <| ?_
      refine E.binw rfl rfl rfl (congrArg _ (add32 _ _ (by omega))) rfl ?_
      refine E.asg rfl rfl <| E.nil <| X.next <| C.ret <| ret1 rfl rfl ?_
      exact ⟨rfl, rfl⟩
end Go.Proofs.Ytmekdfkcjhgkdaa
