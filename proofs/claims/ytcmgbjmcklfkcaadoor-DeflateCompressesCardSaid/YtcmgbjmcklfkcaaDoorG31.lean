/- Texts of the claim, laid together: Adler, Df6. -/
import Derived.Test.YtcmgbjmcklfkcaaDoorG30
/- What the Adler-32 functions return. -/
namespace Go.Proofs.YtcmgbjmcklfkcaaDoor
set_option linter.unusedSimpArgs false
set_option linter.unusedVariables false
open Go.RowKit Sym

namespace Adler
/-- the two sums after bytes -/
def sums (l : List UInt8) : Nat × Nat := l.foldl (fun s c => ((s.1 + c.toNat) % 65521, (s.2 + (s.1 + c.toNat) % 65521) % 65521)) (1, 0)
/-- the checksum -/
def sum (l : List UInt8) : Nat := (sums l).2 * 65536 + (sums l).1
theorem sums_snoc (l : List UInt8) (c : UInt8) : sums (l ++ [c]) = (((sums l).1 + c.toNat) % 65521, ((sums l).2 + ((sums l).1 + c.toNat) % 65521) % 65521) := by simp [sums]
theorem sums_lt (l : List UInt8) : (sums l).1 < 65521 ∧ (sums l).2 < 65521 := by
  rcases List.eq_nil_or_concat l with h | ⟨m, c, h⟩
  · subst h; decide
  · rw [h, List.concat_eq_append, sums_snoc]; exact ⟨Nat.mod_lt _ (by decide), Nat.mod_lt _ (by decide)⟩
theorem sums_take (l : List UInt8) (k : Nat) (h : k < l.length) : sums (l.take (k + 1)) = (((sums (l.take k)).1 + (l[k]).toNat) % 65521, ((sums (l.take k)).2 + ((sums (l.take k)).1 + (l[k]).toNat) % 65521) % 65521) := by
  rw [List.take_succ_eq_append_getElem h, sums_snoc]
end Adler
abbrev w32 (n : Nat) : Value := .int .u32 (n : Int)
theorem rem32 (a : Nat) : (a : Int).tmod 65521 = ((a % 65521 : Nat) : Int) := by rw [Int.tmod_eq_emod_of_nonneg (by omega)]; simp
theorem add32 (a b : Nat) (h : a + b < 4294967296) : IntKind.u32.wrap ((a : Int) + (b : Int)) = ((a + b : Nat) : Int) := by rw [IntWalk.u32_in _ (by omega)]; simp
theorem join32 (a b : Nat) (ha : a < 65536) (hb : b < 65536) : bits .or .u32 ((b * 65536 : Nat) : Int) (a : Int) = ((b * 65536 + a : Nat) : Int) := by
  rw [u32_or_nat _ _ (by omega) (by omega), nat_join 16 (b * 65536) a (by simp) (by simpa using ha)]
theorem shl32 (b : Nat) (hb : b < 65536) : IntKind.u32.wrap ((b : Int) * 2 ^ min (16 : Int).toNat IntKind.u32.bits) = ((b * 65536 : Nat) : Int) := by
  rw [IntKind.wrap_u32']; simp [IntKind.bits]; omega
theorem mul32 (b : Nat) (hb : b < 65536) : IntKind.u32.wrap ((b : Int) * 65536) = ((b * 65536 : Nat) : Int) := by
  rw [IntKind.wrap_u32']; omega

theorem Adler32_ret (p : Value) (l : List UInt8) (w : World) (hp : RdL u8 w p l) :
    Ret Tryd.prog 68 #[p] w fun v w' => v = w32 (Adler.sum l) ∧ w = w' := by
  have hle : l.length ≤ 9223372036854775807 := Rd.le hp
  refine enter Tryd.func68 rfl (by kernel_rfl) Tryd.ntmps68 rfl ?_
  refine C.seq <| C.region <| E.asg rfl rfl <| E.nil <| X.next <| C.seq <| C.region <| E.asg rfl rfl <| E.asg rfl rfl <| E.nil <| X.next <| C.seq <| C.seq <| C.region <| E.mv rfl rfl <| ?_
  refine E.len rfl hp Tryd.underlying22 rfl ?_
  refine E.mv rfl rfl <| E.nil <| X.next <| C.block <| ?_

  refine C.loop (G := Nat) (fun k => [(3, w32 (Adler.sums (l.take k)).1), (4, w32 (Adler.sums (l.take k)).2), (7, p), (8, i64 l.length), (9, i64 k)]) (fun k w' => k ≤ l.length ∧ w = w') (fun k => l.length - k) 0 ?_ ?_ ?_
  · exact Sub.cons rfl <| Sub.cons rfl <| Sub.cons rfl <| Sub.cons rfl <| Sub.cons rfl <| Sub.nil _
  · exact ⟨by omega, rfl⟩
  · rintro k _ ⟨hk, rfl⟩
    refine C.seq <| C.region <| E.bin rfl rfl rfl rfl <| E.nil <| X.next <| C.seq <| ?_
    refine C.cond' rfl (fun hc => ?_) (fun hc => ?_)
    ·
      have hk' : k < l.length := by omega
      have hb := u8_lt l[k]
      have hs := Adler.sums_take l k hk'
      have hlt := Adler.sums_lt (l.take k)
      generalize Adler.sums (l.take k) = z at hs hlt
      refine C.skip <| X.next <| C.seq <| C.block <| C.seq <| C.region <| ?_
      refine E.get (k := k) rfl rfl hp rfl hk' Tryd.underlying22 (by kernel_rfl) Tryd.underlying5 rfl rfl rfl ?_
      refine E.asg rfl rfl <| E.nil <| X.next <| C.seq <| C.region <| E.mv rfl rfl <| E.mv rfl rfl <| ?_
      refine E.conv rfl Tryd.underlying5 Tryd.underlying98 (IntWalk.u32_in _ (by omega)) rfl ?_
      refine E.binw rfl rfl rfl (congrArg _ (add32 _ _ (by omega))) rfl ?_
      refine E.rem rfl rfl (by omega) (rem32 _) rfl ?_
      refine E.asg rfl rfl <| E.nil <| X.next <| C.region <| E.mv rfl rfl <| E.mv rfl rfl <| ?_
      refine E.binw rfl rfl rfl (congrArg _ (add32 _ _ (by omega))) rfl ?_
      refine E.rem rfl rfl (by omega) (rem32 _) rfl ?_
      refine E.asg rfl rfl <| E.nil <| X.outN <| X.next <| C.region <| ?_
      refine E.add rfl rfl (by omega) rfl ?_
      refine E.mv rfl rfl <| E.nil <| X.again (k + 1) (Sub.cons (by rw [hs]; rfl) <| Sub.cons (by rw [hs]; rfl) <| Sub.cons rfl <| Sub.cons rfl <| Sub.cons rfl <| Sub.nil _) ⟨by omega, rfl⟩ (by omega)
    ·
      obtain rfl : k = l.length := by omega
      have hlt := Adler.sums_lt l
      rw [List.take_length]
      refine C.exit <| X.exitT <| X.exitT <| X.outE <| X.next <| C.seq <| C.region <| E.mv rfl rfl <| ?_
      refine E.shl rfl rfl (by omega) (shl32 _ (by omega)) rfl ?_
      refine E.mv rfl rfl <| E.binw rfl rfl rfl (congrArg _ (join32 _ _ (by omega) (by omega))) rfl <| E.asg rfl rfl <| E.nil <| X.next <| C.ret <| ret1 rfl rfl ?_
      exact ⟨rfl, rfl⟩

end Go.Proofs.YtcmgbjmcklfkcaaDoor

/- deflate: Expand; stored data; the checksum's bytes. -/
namespace Go.Proofs.YtcmgbjmcklfkcaaDoor
set_option linter.unusedSimpArgs false
set_option linter.unusedVariables false
open Go.RowKit Sym

theorem and16 (t : Int) : bits .and .i64 t 65535 = t % 65536 := by
  show IntKind.i64.wrap (((BitVec.ofInt 64 t) &&& (BitVec.ofInt 64 65535)).toNat : Int) = _
  have e : (BitVec.ofInt 64 65535).toNat = 65535 := rfl
  rw [BitVec.toNat_and, e]
  have h2 : (BitVec.ofInt 64 t).toNat &&& 65535 = (BitVec.ofInt 64 t).toNat % 65536 := Nat.and_two_pow_sub_one_eq_mod _ 16
  rw [h2, BitVec.toNat_ofInt]
  have h3 : ((t % 18446744073709551616).toNat % 65536 : Int) = t % 65536 := by omega
  rw [IntWalk.i64_in _ (by omega)]
  have h4 : ((2 ^ 64 : Nat) : Int) = 18446744073709551616 := by decide
  rw [h4]; omega
theorem shr_u32 {c k : Nat} (hk : k ≤ 31) : (c : Int) / 2 ^ min ((k : Int)).toNat IntKind.u32.bits = ((c / 2 ^ k : Nat) : Int) := by
  have e1 : min ((k : Int)).toNat IntKind.u32.bits = k := by rw [Int.toNat_natCast]; simp [IntKind.bits]; omega
  rw [e1]; simp
theorem exv_nil (out : List UInt8) : Df.exv out [] = (out, 0) := rfl
theorem exv_lit {out : List UInt8} {t : Int} {ts : List Int} (h : 0 ≤ t ∧ t ≤ 255) : Df.exv out (t :: ts) = if 16777216 < out.length + 1 then ([], 4) else Df.exv (out ++ [UInt8.ofNat t.toNat]) ts := by rw [Df.exv, if_pos h]
theorem exv_form {out : List UInt8} {t : Int} {ts : List Int} (h : ¬ (0 ≤ t ∧ t ≤ 255)) (h2 : t / 65536 < 3 ∨ 258 < t / 65536 ∨ t % 65536 < 1 ∨ 32768 < t % 65536) : Df.exv out (t :: ts) = ([], 9) := by rw [Df.exv, if_neg h, if_pos h2]
theorem exv_dist {out : List UInt8} {t : Int} {ts : List Int} (h : ¬ (0 ≤ t ∧ t ≤ 255)) (h2 : ¬ (t / 65536 < 3 ∨ 258 < t / 65536 ∨ t % 65536 < 1 ∨ 32768 < t % 65536)) (h3 : (out.length : Int) < t % 65536) : Df.exv out (t :: ts) = ([], 28) := by rw [Df.exv, if_neg h, if_neg h2, if_pos h3]
theorem exv_mat {out : List UInt8} {t : Int} {ts : List Int} (h : ¬ (0 ≤ t ∧ t ≤ 255)) (h2 : ¬ (t / 65536 < 3 ∨ 258 < t / 65536 ∨ t % 65536 < 1 ∨ 32768 < t % 65536)) (h3 : ¬ (out.length : Int) < t % 65536) : Df.exv out (t :: ts) = if 16777216 < out.length + (t / 65536).toNat then ([], 4) else Df.exv (Df.rp (t % 65536).toNat out (t / 65536).toNat) ts := by rw [Df.exv, if_neg h, if_neg h2, if_neg h3]
theorem conv_u8 (n : Nat) : IntKind.u8.wrap (n : Int) = ((UInt8.ofNat n).toNat : Int) := by
  rw [IntKind.wrap_u8']; simp
theorem repeat_ret (p : Value) (out : List UInt8) (n d : Nat) (w : World) (hs : Sep w [Rg.sl u8 5 p out]) (hd1 : 1 ≤ d) (hd2 : d ≤ out.length) (hl : out.length + n ≤ 1099511627776) :
    Ret Tryd.prog 37 #[p, i64 n, i64 d] w fun v w' => M w (fpU [Rg.sl u8 5 p out]) w' [Rg.sl u8 5 v (Df.rp d out n)] := by
  have hM := M.startS hs
  refine enter Tryd.func37 rfl (by kernel_rfl) Tryd.ntmps37 rfl ?_
  refine C.seq <| C.region <| E.asg rfl rfl <| E.nil <| X.next <| C.seq <| C.seq <| C.region <| E.mv rfl rfl <| E.mv rfl rfl <| E.nil <| X.next <| C.block <| ?_

  refine C.loop2 [(2, _), (7, _)] rfl (fun (k : Nat) (vo : Value) => [(0, vo), (8, i64 k)]) (fun (k : Nat) (vo : Value) w' => M w (fpU [Rg.sl u8 5 p out]) w' [Rg.sl u8 5 vo (Df.rp d out k)] ∧ k ≤ n) (fun (k : Nat) (vo : Value) => n - k) 0 p ?_ ?_ ?_
  · exact Sub.cons rfl <| Sub.cons rfl <| Sub.nil _
  · exact ⟨hM, Nat.zero_le _⟩
  rintro k vo w0 ⟨hM, hk⟩
  refine C.seq <| C.region <| E.bin rfl rfl rfl rfl <| E.nil <| X.next <| C.seq <| ?_
  refine C.cond' rfl (fun hC0 => ?_) (fun hC0 => ?_)
  ·
    have hrl := Df.rp_len d out k
    refine C.skip <| X.next <| C.seq <| C.block <| C.region <| E.mv rfl rfl <| E.mv rfl rfl <| E.mv rfl rfl <| ?_
    refine E.lenv rfl (Rd.shape (hM.sl 0 rfl)) Tryd.underlying22 rfl ?_
    rw [hrl]
    refine E.mv rfl rfl <| ?_
    refine E.subN (a := out.length + k) (b := d) rfl rfl (by omega) rfl ?_
    refine E.get (k := out.length + k - d) rfl rfl (hM.sl 0 rfl) rfl (by omega) Tryd.underlying22 (by kernel_rfl) Tryd.underlying5 rfl rfl rfl ?_
    refine E.pushM (enc := u8) 0 ((Df.rp d out k).getD (out.length + k - d) 0) hM rfl rfl (look_eq rfl (by rw [gdU (by omega)])) Tryd.underlying22 elem_Tuint8 rfl (by omega) (by omega) (by simp) rfl rfl ?_
    intro v19 u19 w1 hM
    try dsimp only [List.nil_append, List.cons_append, List.set_cons_zero, List.set_cons_succ, repl] at hM
    refine E.asg rfl rfl <| E.nil <| X.outN <| X.next <| C.region <| ?_
    refine E.addN (a := k) (b := 1) rfl rfl (by omega) rfl ?_

    refine E.mv rfl rfl <| E.nil <| X.again2 (k + 1) v19 (Sub.cons rfl <| Sub.cons rfl <| Sub.nil _) rfl ⟨hM.to (by rw [Df.rp, hrl]), by omega⟩ (by omega)
  ·
    obtain rfl : k = n := by omega
    refine C.exit <| X.exitT <| X.exitT <| X.outE <| X.next <| C.seq <| C.region <| E.mv rfl rfl <| E.asg rfl rfl <| E.nil <| X.next <| C.ret <| ret1 rfl rfl ?_
    exact hM

set_option maxHeartbeats 1000000 in
theorem Expand_ret (p : Value) (zs : List Int) (w : World) (hr : RdL i64 w p zs) :
    Ret Tryd.prog 15 #[p] w fun v w' => ∃ vo, v = .tuple #[vo, i64 (Df.exv [] zs).2] ∧ M w Nn w' [Rg.sl u8 5 vo (Df.exv [] zs).1] := by
  have hM := M.start w
  refine enter Tryd.func15 rfl (by kernel_rfl) Tryd.ntmps15 rfl ?_
  refine C.seq <| C.region <| E.asg rfl rfl <| E.asg rfl rfl <| E.nil <| X.next <| C.seq <| C.region <| E.asg rfl rfl <| E.nil <| X.next <| C.seq <| C.seq <| C.region <| E.mv rfl rfl <| ?_
  refine E.lenv rfl (Rd.shape (hM.arg0 hr)) Tryd.underlying29 rfl ?_
  refine E.mv rfl rfl <| E.nil <| X.next <| C.block <| ?_
  have hM := hM.nil u8 5
  try dsimp only [List.nil_append, List.cons_append, List.set_cons_zero, List.set_cons_succ, repl] at hM
  have hle := Rd.le hr

  refine C.loop3 [(9, _), (10, _)] rfl (fun (i : Nat) (out : (List UInt8)) (vo : Value) => [(4, vo), (11, i64 i)]) (fun (i : Nat) (out : (List UInt8)) (vo : Value) w' => M w (Nn) w' [Rg.sl u8 5 vo out] ∧ i ≤ zs.length ∧ out.length ≤ 16777216 ∧ Df.exv [] zs = Df.exv out (zs.drop i)) (fun (i : Nat) (out : (List UInt8)) (vo : Value) => zs.length - i) 0 [] (.slice none 0 0) ?_ ?_ ?_
  · exact Sub.cons rfl <| Sub.cons rfl <| Sub.nil _
  · exact ⟨hM, Nat.zero_le _, by simp, rfl⟩
  rintro i out vo w0 ⟨hM, hi, hol, hE⟩
  refine C.seq <| C.region <| E.bin rfl rfl rfl rfl <| E.nil <| X.next <| C.seq <| ?_
  refine C.cond' rfl (fun hC0 => ?_) (fun hC0 => ?_)
  ·
    have hi' : i < zs.length := by omega
    rw [drop_cons hi'] at hE
    obtain ⟨t, hte⟩ : ∃ t, t = zs[i] := ⟨_, rfl⟩
    rw [← hte] at hE
    refine C.skip <| X.next <| ?_

    refine C.cut2 [(9, _), (10, _), (11, _)] rfl (fun (out : (List UInt8)) (vo : Value) => [(4, vo)]) (fun (out : (List UInt8)) (vo : Value) w' => M w (Nn) w' [Rg.sl u8 5 vo out] ∧ out.length ≤ 16777216 ∧ Df.exv [] zs = Df.exv out (zs.drop (i + 1))) ?_ ?_
    ·
      refine C.block <| C.seq <| C.region <| ?_
      refine E.get (k := i) rfl rfl (hM.arg0 hr) rfl (by omega) Tryd.underlying29 (by kernel_rfl) Tryd.underlying3 rfl rfl rfl ?_
      rw [← hte]
      refine E.asg rfl rfl <| E.nil <| X.next <| C.seq <| C.region <| E.asg rfl rfl <| E.asg rfl rfl <| E.nil <| X.next <| ?_

      refine C.cut2 [(4, _), (6, _), (9, _), (10, _), (11, _)] rfl (fun (n : Nat) (d : Nat) => [(7, i64 n), (8, i64 d)]) (fun (n : Nat) (d : Nat) w' => M w (Nn) w' [Rg.sl u8 5 vo out] ∧ ((d = 0 ∧ n = 1 ∧ 0 ≤ t ∧ t ≤ 255) ∨ (1 ≤ d ∧ d ≤ out.length ∧ n ≤ 258 ∧ ¬ (0 ≤ t ∧ t ≤ 255) ∧ ¬ (t / 65536 < 3 ∨ 258 < t / 65536 ∨ t % 65536 < 1 ∨ 32768 < t % 65536) ∧ t / 65536 = (n : Int) ∧ t % 65536 = (d : Int)))) ?_ ?_
      ·

        refine C.chainE [(4, _), (6, _), (7, _), (8, _), (9, _), (10, _), (11, _)] rfl [(20, .bool (decide (¬ (0 ≤ t ∧ t ≤ 255))))] ?_ ?_
        ·
          refine C.region <| E.mv rfl rfl <| E.bin rfl rfl rfl rfl <| E.mv rfl rfl <| ?_
          refine E.split 17 rfl (fun g17 => ?_) (fun g17 => ?_)
          ·
            try simp only [decide_eq_true_eq, decide_eq_false_iff_not, ne_eq, Decidable.not_not, Bool.not_eq_true', Bool.not_eq_false'] at g17
            refine E.off rfl rfl rfl rfl <| E.off rfl rfl rfl rfl <| E.pick rfl rfl rfl <| E.nil <| X.join0 (Sub.cons (by (first | exact leaf_f (by omega) | exact leaf_t (by omega) | exact leaf_d (by omega) | exact leaf_f (by first | (simp [*] <;> fail) | omega) | exact leaf_t (by first | (simp [*] <;> fail) | omega) | exact leaf_d (by first | (simp [*] <;> fail) | omega) | exact leaf_f (by (first | omega | ((try simp only [decide_eq_true_eq, decide_eq_false_iff_not, Bool.not_eq_true', Bool.not_eq_false'] at *); first | omega | (simp_all <;> fail) | (simp_all; omega)))) | exact leaf_t (by (first | omega | ((try simp only [decide_eq_true_eq, decide_eq_false_iff_not, Bool.not_eq_true', Bool.not_eq_false'] at *); first | omega | (simp_all <;> fail) | (simp_all; omega)))) | exact leaf_d (by (first | omega | ((try simp only [decide_eq_true_eq, decide_eq_false_iff_not, Bool.not_eq_true', Bool.not_eq_false'] at *); first | omega | (simp_all <;> fail) | (simp_all; omega)))))) <| Sub.nil _) rfl rfl
          ·
            try simp only [decide_eq_true_eq, decide_eq_false_iff_not, ne_eq, Decidable.not_not, Bool.not_eq_true', Bool.not_eq_false'] at g17
            refine E.on rfl rfl (E.mv rfl rfl ?_)
            refine E.on rfl rfl (E.bin rfl rfl rfl rfl ?_)
            refine E.pick rfl rfl rfl <| E.nil <| X.join0 (Sub.cons (by (first | exact leaf_f (by omega) | exact leaf_t (by omega) | exact leaf_d (by omega) | exact leaf_f (by first | (simp [*] <;> fail) | omega) | exact leaf_t (by first | (simp [*] <;> fail) | omega) | exact leaf_d (by first | (simp [*] <;> fail) | omega) | exact leaf_f (by (first | omega | ((try simp only [decide_eq_true_eq, decide_eq_false_iff_not, Bool.not_eq_true', Bool.not_eq_false'] at *); first | omega | (simp_all <;> fail) | (simp_all; omega)))) | exact leaf_t (by (first | omega | ((try simp only [decide_eq_true_eq, decide_eq_false_iff_not, Bool.not_eq_true', Bool.not_eq_false'] at *); first | omega | (simp_all <;> fail) | (simp_all; omega)))) | exact leaf_d (by (first | omega | ((try simp only [decide_eq_true_eq, decide_eq_false_iff_not, Bool.not_eq_true', Bool.not_eq_false'] at *); first | omega | (simp_all <;> fail) | (simp_all; omega)))))) <| Sub.nil _) rfl rfl
        refine C.cond' rfl (fun hC1 => ?_) (fun hC1 => ?_)
        ·
          have hd16 : 0 ≤ t % 65536 ∧ t % 65536 < 65536 := by omega
          refine C.seq <| C.region <| E.mv rfl rfl <| ?_
          refine E.shr rfl rfl (by decide) (c := _ / 65536) rfl rfl ?_
          refine E.mv rfl rfl <| ?_
          refine E.binw rfl rfl rfl (congrArg _ (and16 t)) rfl ?_
          refine E.asg rfl rfl <| E.asg rfl rfl <| E.nil <| X.next <| C.seq <| ?_

          refine C.chainE [(4, _), (6, _), (7, _), (8, _), (9, _), (10, _), (11, _)] rfl [(38, .bool (decide (t / 65536 < 3 ∨ 258 < t / 65536 ∨ t % 65536 < 1 ∨ 32768 < t % 65536)))] ?_ ?_
          ·
            refine C.region <| E.mv rfl rfl <| E.bin rfl rfl rfl rfl <| E.mv rfl rfl <| ?_
            refine E.split 27 rfl (fun g27 => ?_) (fun g27 => ?_)
            ·
              try simp only [decide_eq_true_eq, decide_eq_false_iff_not, ne_eq, Decidable.not_not, Bool.not_eq_true', Bool.not_eq_false'] at g27
              refine E.off rfl rfl rfl rfl <| E.off rfl rfl rfl rfl <| E.pick rfl rfl rfl <| E.mv rfl rfl <| E.off rfl rfl rfl rfl <| E.off rfl rfl rfl rfl <| E.pick rfl rfl rfl <| E.mv rfl rfl <| E.off rfl rfl rfl rfl <| E.off rfl rfl rfl rfl <| E.pick rfl rfl rfl <| E.nil <| X.join0 (Sub.cons (by (first | exact leaf_f (by omega) | exact leaf_t (by omega) | exact leaf_d (by omega) | exact leaf_f (by first | (simp [*] <;> fail) | omega) | exact leaf_t (by first | (simp [*] <;> fail) | omega) | exact leaf_d (by first | (simp [*] <;> fail) | omega) | exact leaf_f (by (first | omega | ((try simp only [decide_eq_true_eq, decide_eq_false_iff_not, Bool.not_eq_true', Bool.not_eq_false'] at *); first | omega | (simp_all <;> fail) | (simp_all; omega)))) | exact leaf_t (by (first | omega | ((try simp only [decide_eq_true_eq, decide_eq_false_iff_not, Bool.not_eq_true', Bool.not_eq_false'] at *); first | omega | (simp_all <;> fail) | (simp_all; omega)))) | exact leaf_d (by (first | omega | ((try simp only [decide_eq_true_eq, decide_eq_false_iff_not, Bool.not_eq_true', Bool.not_eq_false'] at *); first | omega | (simp_all <;> fail) | (simp_all; omega)))))) <| Sub.nil _) rfl rfl
            ·
              try simp only [decide_eq_true_eq, decide_eq_false_iff_not, ne_eq, Decidable.not_not, Bool.not_eq_true', Bool.not_eq_false'] at g27
              refine E.on rfl rfl (E.mv rfl rfl ?_)
              refine E.on rfl rfl (E.bin rfl rfl rfl rfl ?_)
              refine E.pick rfl rfl rfl <| E.mv rfl rfl <| ?_
              refine E.split 31 rfl (fun g31 => ?_) (fun g31 => ?_)
              ·
                try simp only [decide_eq_true_eq, decide_eq_false_iff_not, ne_eq, Decidable.not_not, Bool.not_eq_true', Bool.not_eq_false'] at g31
                refine E.off rfl rfl rfl rfl <| E.off rfl rfl rfl rfl <| E.pick rfl rfl rfl <| E.mv rfl rfl <| E.off rfl rfl rfl rfl <| E.off rfl rfl rfl rfl <| E.pick rfl rfl rfl <| E.nil <| X.join0 (Sub.cons (by (first | exact leaf_f (by omega) | exact leaf_t (by omega) | exact leaf_d (by omega) | exact leaf_f (by first | (simp [*] <;> fail) | omega) | exact leaf_t (by first | (simp [*] <;> fail) | omega) | exact leaf_d (by first | (simp [*] <;> fail) | omega) | exact leaf_f (by (first | omega | ((try simp only [decide_eq_true_eq, decide_eq_false_iff_not, Bool.not_eq_true', Bool.not_eq_false'] at *); first | omega | (simp_all <;> fail) | (simp_all; omega)))) | exact leaf_t (by (first | omega | ((try simp only [decide_eq_true_eq, decide_eq_false_iff_not, Bool.not_eq_true', Bool.not_eq_false'] at *); first | omega | (simp_all <;> fail) | (simp_all; omega)))) | exact leaf_d (by (first | omega | ((try simp only [decide_eq_true_eq, decide_eq_false_iff_not, Bool.not_eq_true', Bool.not_eq_false'] at *); first | omega | (simp_all <;> fail) | (simp_all; omega)))))) <| Sub.nil _) rfl rfl
              ·
                try simp only [decide_eq_true_eq, decide_eq_false_iff_not, ne_eq, Decidable.not_not, Bool.not_eq_true', Bool.not_eq_false'] at g31
                refine E.on rfl rfl (E.mv rfl rfl ?_)
                refine E.on rfl rfl (E.bin rfl rfl rfl rfl ?_)
                refine E.pick rfl rfl rfl <| E.mv rfl rfl <| ?_
                refine E.split 35 rfl (fun g35 => ?_) (fun g35 => ?_)
                ·
                  try simp only [decide_eq_true_eq, decide_eq_false_iff_not, ne_eq, Decidable.not_not, Bool.not_eq_true', Bool.not_eq_false'] at g35
                  refine E.off rfl rfl rfl rfl <| E.off rfl rfl rfl rfl <| E.pick rfl rfl rfl <| E.nil <| X.join0 (Sub.cons (by (first | exact leaf_f (by omega) | exact leaf_t (by omega) | exact leaf_d (by omega) | exact leaf_f (by first | (simp [*] <;> fail) | omega) | exact leaf_t (by first | (simp [*] <;> fail) | omega) | exact leaf_d (by first | (simp [*] <;> fail) | omega) | exact leaf_f (by (first | omega | ((try simp only [decide_eq_true_eq, decide_eq_false_iff_not, Bool.not_eq_true', Bool.not_eq_false'] at *); first | omega | (simp_all <;> fail) | (simp_all; omega)))) | exact leaf_t (by (first | omega | ((try simp only [decide_eq_true_eq, decide_eq_false_iff_not, Bool.not_eq_true', Bool.not_eq_false'] at *); first | omega | (simp_all <;> fail) | (simp_all; omega)))) | exact leaf_d (by (first | omega | ((try simp only [decide_eq_true_eq, decide_eq_false_iff_not, Bool.not_eq_true', Bool.not_eq_false'] at *); first | omega | (simp_all <;> fail) | (simp_all; omega)))))) <| Sub.nil _) rfl rfl
                ·
                  try simp only [decide_eq_true_eq, decide_eq_false_iff_not, ne_eq, Decidable.not_not, Bool.not_eq_true', Bool.not_eq_false'] at g35
                  refine E.on rfl rfl (E.mv rfl rfl ?_)
                  refine E.on rfl rfl (E.bin rfl rfl rfl rfl ?_)
                  refine E.pick rfl rfl rfl <| E.nil <| X.join0 (Sub.cons (by (first | exact leaf_f (by omega) | exact leaf_t (by omega) | exact leaf_d (by omega) | exact leaf_f (by first | (simp [*] <;> fail) | omega) | exact leaf_t (by first | (simp [*] <;> fail) | omega) | exact leaf_d (by first | (simp [*] <;> fail) | omega) | exact leaf_f (by (first | omega | ((try simp only [decide_eq_true_eq, decide_eq_false_iff_not, Bool.not_eq_true', Bool.not_eq_false'] at *); first | omega | (simp_all <;> fail) | (simp_all; omega)))) | exact leaf_t (by (first | omega | ((try simp only [decide_eq_true_eq, decide_eq_false_iff_not, Bool.not_eq_true', Bool.not_eq_false'] at *); first | omega | (simp_all <;> fail) | (simp_all; omega)))) | exact leaf_d (by (first | omega | ((try simp only [decide_eq_true_eq, decide_eq_false_iff_not, Bool.not_eq_true', Bool.not_eq_false'] at *); first | omega | (simp_all <;> fail) | (simp_all; omega)))))) <| Sub.nil _) rfl rfl
          refine C.cond' rfl (fun hC2 => ?_) (fun hC2 => ?_)
          ·
            refine C.seq <| C.region <| E.asg rfl rfl <| E.asg rfl rfl <| E.nil <| X.next <| C.ret <| X.retT <| X.retT <| X.retB <| X.retT <| X.retT <| X.retB <| X.retT <| ret2 rfl rfl rfl ?_
            exact ⟨_, by rw [hE, exv_form hC1 hC2], by rw [hE, exv_form hC1 hC2]; exact (hM.nil u8 5).pick [1] (by decide)⟩
          ·
            refine C.skip <| X.next <| C.seq <| C.region <| E.mv rfl rfl <| E.mv rfl rfl <| ?_
            refine E.lenv rfl (Rd.shape (hM.sl 0 rfl)) Tryd.underlying22 rfl ?_
            refine E.bin rfl rfl rfl rfl <| E.nil <| X.next <| ?_
            refine C.cond' rfl (fun hC3 => ?_) (fun hC3 => ?_)
            ·
              refine C.seq <| C.region <| E.asg rfl rfl <| E.asg rfl rfl <| E.nil <| X.next <| C.ret <| X.retT <| X.retB <| X.retT <| X.retT <| X.retB <| X.retT <| ret2 rfl rfl rfl ?_
              exact ⟨_, by rw [hE, exv_dist hC1 hC2 hC3], by rw [hE, exv_dist hC1 hC2 hC3]; exact (hM.nil u8 5).pick [1] (by decide)⟩
            ·

              refine C.skip <| X.join2 (t / 65536).toNat (t % 65536).toNat (Sub.cons (look_val rfl (by omega)) <| Sub.cons (look_val rfl (by omega)) <| Sub.nil _) rfl ⟨hM, .inr ⟨by omega, by omega, by omega, hC1, hC2, by omega, by omega⟩⟩
        ·

          refine C.skip <| X.join2 1 0 (Sub.cons rfl <| Sub.cons rfl <| Sub.nil _) rfl ⟨hM, .inl ⟨rfl, rfl, by omega, by omega⟩⟩
      rintro n d w1 ⟨hM, hnd⟩
      refine C.seq <| C.seq <| C.region <| E.mv rfl rfl <| ?_
      refine E.lenv rfl (Rd.shape (hM.sl 0 rfl)) Tryd.underlying22 rfl ?_
      refine E.mv rfl rfl <| ?_
      refine E.addN (a := out.length) (b := n) rfl rfl (by omega) rfl ?_
      refine E.bin rfl rfl rfl rfl <| E.nil <| X.next <| ?_
      refine C.cond' rfl (fun hC4 => ?_) (fun hC4 => ?_)
      ·
        have hL : Df.exv out (t :: zs.drop (i + 1)) = ([], 4) := by
          rcases hnd with ⟨h1, h2, h3⟩ | ⟨h1, h2, h3, h4, h5, h6, h7⟩
          · rw [exv_lit h3, if_pos (by omega)]
          · rw [exv_mat h4 h5 (by omega), if_pos (by omega)]
        refine C.seq <| C.region <| E.asg rfl rfl <| E.asg rfl rfl <| E.nil <| X.next <| C.ret <| X.retT <| X.retB <| X.retT <| X.retT <| X.retB <| X.retT <| ret2 rfl rfl rfl ?_
        exact ⟨_, by rw [hE, hL], by rw [hE, hL]; exact (hM.nil u8 5).pick [1] (by decide)⟩
      ·
        refine C.skip <| X.next <| C.seq <| C.region <| E.mv rfl rfl <| E.bin rfl rfl rfl rfl <| E.nil <| X.next <| ?_
        refine C.cond' rfl (fun hC5 => ?_) (fun hC5 => ?_)
        ·
          obtain ⟨h1, h2, h3, h4, h5, h6, h7⟩ := hnd.resolve_left (by omega)
          rw [exv_mat h4 h5 (by omega), if_neg (by omega), h6, h7, Int.toNat_natCast, Int.toNat_natCast] at hE
          refine C.region <| E.mv rfl rfl <| E.mv rfl rfl <| E.mv rfl rfl <| ?_
          refine E.call rfl rfl (repeat_ret vo out n d _ (hM.pick [0] (by decide)).sep h1 h2 (by omega)) ?_
          rintro v53 w5 m
          have hM := hM.calls [0] (by decide) rfl (by simp) m
          try dsimp only [List.nil_append, List.cons_append, List.set_cons_zero, List.set_cons_succ, repl] at hM

          refine E.asg rfl rfl <| E.nil <| X.outN <| X.join2 (Df.rp d out n) v53 (Sub.cons rfl <| Sub.nil _) rfl ⟨hM, by rw [Df.rp_len]; omega, hE⟩
        ·
          obtain ⟨h1, h2, h3⟩ := hnd.resolve_right (by omega)
          rw [exv_lit h3, if_neg (by omega)] at hE
          have ht8 : u8 (UInt8.ofNat t.toNat) = .int .u8 t := by rw [ofNat_u8 (by omega)]; congr 1; omega
          refine C.region <| E.mv rfl rfl <| E.mv rfl rfl <| ?_
          refine E.conv rfl Tryd.underlying3 Tryd.underlying5 (IntWalk.u8_in _ (by omega)) rfl ?_
          refine E.pushM (enc := u8) 0 (UInt8.ofNat t.toNat) hM rfl rfl (look_eq rfl ht8.symm) Tryd.underlying22 elem_Tuint8 rfl (by omega) (by omega) (by simp) rfl rfl ?_
          intro v58 u58 w3 hM
          try dsimp only [List.nil_append, List.cons_append, List.set_cons_zero, List.set_cons_succ, repl] at hM

          refine E.asg rfl rfl <| E.nil <| X.outN <| X.join2 (out ++ [UInt8.ofNat t.toNat]) v58 (Sub.cons rfl <| Sub.nil _) rfl ⟨hM, by rw [List.length_append, List.length_singleton]; omega, hE⟩
    rintro out vo w4 ⟨hM, hol, hE⟩
    refine C.region <| ?_
    refine E.add rfl rfl (by omega) rfl ?_

    refine E.mv rfl rfl <| E.nil <| X.again3 (i + 1) out vo (Sub.cons rfl <| Sub.cons rfl <| Sub.nil _) rfl ⟨hM, by omega, hol, hE⟩ (by omega)
  ·
    obtain rfl : i = zs.length := by omega
    rw [List.drop_length, exv_nil] at hE
    refine C.exit <| X.exitT <| X.exitT <| X.outE <| X.next <| C.seq <| C.region <| E.mv rfl rfl <| E.asg rfl rfl <| E.asg rfl rfl <| E.nil <| X.next <| C.ret <| ret2 rfl rfl rfl ?_
    exact ⟨_, by rw [hE], by rw [hE]; exact hM⟩

namespace Df
/-- stored data, of one block -/
def sto (l : List UInt8) : List UInt8 := [1, UInt8.ofNat l.length, UInt8.ofNat (l.length / 256), UInt8.ofNat (255 - l.length % 256), UInt8.ofNat (255 - l.length / 256 % 256)] ++ l
/-- the checksum's bytes -/
def ad4 (l : List UInt8) : List UInt8 := [UInt8.ofNat (Adler.sum l / 16777216), UInt8.ofNat (Adler.sum l / 65536), UInt8.ofNat (Adler.sum l / 256), UInt8.ofNat (Adler.sum l)]
end Df
theorem conv_not (n : Nat) : IntKind.u8.wrap (-1 - (n : Int)) = ((UInt8.ofNat (255 - n % 256)).toNat : Int) := by
  rw [IntKind.wrap_u8']
  have : (UInt8.ofNat (255 - n % 256)).toNat = 255 - n % 256 := by simp; omega
  rw [this]; omega
theorem shr_not (n : Nat) : (-1 - (n : Int)) / 2 ^ min (Int.toNat 8) IntKind.i64.bits = -1 - ((n / 256 : Nat) : Int) := by
  have e1 : min (Int.toNat 8) IntKind.i64.bits = 8 := rfl
  rw [e1, show (2 : Int) ^ 8 = 256 from rfl]; omega
theorem u8o {n : Nat} {z : Int} (h : z = (n : Int)) (hn : n ≤ 255) : Value.int .u8 z = u8 (UInt8.ofNat n) := by rw [ofNat_u8 hn, h]
set_option maxHeartbeats 1000000 in
theorem stored_ret (p : Value) (l : List UInt8) (w : World) (hp : RdL u8 w p l) (hl : l.length ≤ 65535) :
    Ret Tryd.prog 21 #[p] w fun v w' => M w Nn w' [Rg.sl u8 5 v (Df.sto l)] := by
  have hM := M.start w
  refine enter Tryd.func21 rfl (by kernel_rfl) Tryd.ntmps21 rfl ?_
  refine C.seq <| C.region <| E.asg rfl rfl <| E.nil <| X.next <| C.seq <| C.region <| E.asg rfl rfl <| E.nil <| X.next <| C.block <| ?_
  have hM := hM.nil u8 5
  try dsimp only [List.nil_append, List.cons_append, List.set_cons_zero, List.set_cons_succ, repl] at hM

  refine C.loop1 [] rfl (fun (z : Nat) => [(0, p), (3, .slice none 0 0)]) (fun (z : Nat) w' => M w (Nn) w' [Rg.sl u8 5 (.slice none 0 0) []]) (fun (z : Nat) => z) 0 ?_ ?_ ?_
  · exact Sub.cons rfl <| Sub.cons rfl <| Sub.nil _
  · exact hM
  rintro z w0 hM
  refine C.block <| C.seq <| C.region <| E.mv rfl rfl <| ?_
  refine E.lenv rfl (Rd.shape (hM.arg0 hp)) Tryd.underlying22 rfl ?_
  refine E.min2 rfl rfl rfl ?_
  rw [show min (l.length : Int) 65535 = (l.length : Int) by omega]
  refine E.asg rfl rfl <| E.nil <| X.next <| C.seq <| C.region <| E.asg rfl rfl <| E.nil <| X.next <| ?_

  refine C.cut0 [(0, _), (3, _), (4, _)] rfl [(5, .int .u8 1)] (fun w' => M w (Nn) w' [Rg.sl u8 5 (.slice none 0 0) []]) ?_ ?_
  ·
    refine C.seq <| C.region <| E.mv rfl rfl <| E.mv rfl rfl <| ?_
    refine E.lenv rfl (Rd.shape (hM.arg0 hp)) Tryd.underlying22 rfl ?_
    refine E.bin rfl rfl rfl rfl <| E.nil <| X.next <| ?_
    refine C.cond' rfl (fun hC0 => ?_) (fun hC0 => ?_)
    ·

      refine C.region <| E.asg rfl rfl <| E.nil <| X.join0  (Sub.cons rfl <| Sub.nil _) rfl hM
    ·
      exact (hC0 rfl).elim
  rintro  w1 hM
  refine C.seq <| C.region <| E.mv rfl rfl <| E.mv rfl rfl <| E.mv rfl rfl <| ?_
  refine E.conv rfl Tryd.underlying3 Tryd.underlying5 (conv_u8 l.length) rfl ?_
  refine E.mv rfl rfl <| ?_
  refine E.shr rfl rfl (by decide) (shr_nat (c := l.length) (k := 8) (by decide)) rfl ?_
  refine E.conv rfl Tryd.underlying3 Tryd.underlying5 (conv_u8 (l.length / 256)) rfl ?_
  refine E.mv rfl rfl <| ?_
  refine E.flip rfl (i64_not l.length (by omega)) rfl ?_
  refine E.conv rfl Tryd.underlying3 Tryd.underlying5 (conv_not l.length) rfl ?_
  refine E.mv rfl rfl <| ?_
  refine E.flip rfl (i64_not l.length (by omega)) rfl ?_
  refine E.shr rfl rfl (by decide) (shr_not l.length) rfl ?_
  refine E.conv rfl Tryd.underlying3 Tryd.underlying5 (conv_not (l.length / 256)) rfl ?_
  refine E.mkM (enc := u8) (e := 5) [1, UInt8.ofNat l.length, UInt8.ofNat (l.length / 256), UInt8.ofNat (255 - l.length % 256), UInt8.ofNat (255 - l.length / 256 % 256)] hM rfl (fun _ => by kernel_rfl) rfl rfl rfl ?_
  intro v27 w2 hM
  try dsimp only [List.nil_append, List.cons_append, List.set_cons_zero, List.set_cons_succ, repl] at hM
  refine E.appendM 0 hM rfl rfl rfl Tryd.underlying22 elem_Tuint8 (hM.sl 1 rfl) (fun _ => rfl) (by simp) (by simp) rfl ?_
  intro v28 w3 hM
  try dsimp only [List.nil_append, List.cons_append, List.set_cons_zero, List.set_cons_succ, repl] at hM
  refine E.asg rfl rfl <| E.nil <| X.next <| C.seq <| C.region <| E.mv rfl rfl <| E.mv rfl rfl <| E.mv rfl rfl <| ?_
  refine E.slcP (k := .i64) 0 l.length rfl (.inr ⟨rfl, rfl⟩) (.inl rfl) (hM.arg0 hp) Tryd.underlying22 (by kernel_rfl) (by omega) (by omega) rfl ?_
  have hc := (hM.arg0 hp).partV (a := 0) (b := l.length) (by omega) (by omega)
  rw [show cutL 0 l.length l = l by unfold cutL; rw [List.drop_zero, Nat.sub_zero, List.take_length]] at hc
  refine E.appendM 0 hM rfl rfl rfl Tryd.underlying22 elem_Tuint8 hc (fun _ => rfl) (by simp; omega) (by simp; omega) rfl ?_
  intro v33 w4 hM
  try dsimp only [List.nil_append, List.cons_append, List.set_cons_zero, List.set_cons_succ, repl] at hM
  refine E.asg rfl rfl <| E.nil <| X.next <| C.seq <| C.region <| E.mv rfl rfl <| E.mv rfl rfl <| ?_
  refine E.slcP (k' := .i64) l.length l.length rfl (.inl rfl) (.inr ⟨rfl, rfl⟩) (hM.arg0 hp) Tryd.underlying22 (by kernel_rfl) (by omega) (by omega) rfl ?_
  refine E.asg rfl rfl <| E.nil <| X.next <| C.seq <| C.region <| E.mv rfl rfl <| E.bin rfl rfl rfl rfl <| E.nil <| X.next <| ?_
  refine C.cond' rfl (fun hC1 => ?_) (fun hC1 => ?_)
  ·
    refine C.seq <| C.region <| E.mv rfl rfl <| E.asg rfl rfl <| E.nil <| X.next <| C.ret <| X.retB <| X.retT <| X.retB <| ret1 rfl rfl ?_
    exact hM.pick [0] (by decide)
  ·
    exact (hC1 rfl).elim

set_option maxHeartbeats 1000000 in
theorem sumOf_ret (p : Value) (l : List UInt8) (w : World) (hp : RdL u8 w p l) :
    Ret Tryd.prog 39 #[p] w fun v w' => v = .agg ((Df.ad4 l).map u8).toArray ∧ Ext w w' := by
  have hM := M.start w
  refine enter Tryd.func39 rfl (by kernel_rfl) Tryd.ntmps39 rfl ?_
  refine C.seq <| C.region <| ?_
  refine E.allocM (z := .agg #[.int .u8 0, .int .u8 0, .int .u8 0, .int .u8 0]) (cs := [.int .u8 0, .int .u8 0, .int .u8 0, .int .u8 0]) hM (by kernel_rfl) rfl rfl ?_
  intro b2 w0 hM
  try dsimp only [List.nil_append, List.cons_append, List.set_cons_zero, List.set_cons_succ, repl] at hM
  refine E.nil <| X.next <| C.seq <| C.region <| E.mv rfl rfl <| ?_
  refine E.call rfl rfl (Adler32_ret p l _ (hM.arg0 hp)) ?_
  rintro _ _ ⟨rfl, rfl⟩
  
  try dsimp only [List.nil_append, List.cons_append, List.set_cons_zero, List.set_cons_succ, repl] at hM
  refine E.asg rfl rfl <| E.nil <| X.next <| C.seq <| C.region <| E.mv rfl rfl <| ?_
  refine E.shr rfl rfl (by decide) (shr_u32 (c := Adler.sum l) (k := 24) (by decide)) rfl ?_
  refine E.conv rfl Tryd.underlying98 Tryd.underlying5 (conv_u8 (Adler.sum l / 16777216)) rfl ?_
  refine E.mv rfl rfl <| ?_
  refine E.shr rfl rfl (by decide) (shr_u32 (c := Adler.sum l) (k := 16) (by decide)) rfl ?_
  refine E.conv rfl Tryd.underlying98 Tryd.underlying5 (conv_u8 (Adler.sum l / 65536)) rfl ?_
  refine E.mv rfl rfl <| ?_
  refine E.shr rfl rfl (by decide) (shr_u32 (c := Adler.sum l) (k := 8) (by decide)) rfl ?_
  refine E.conv rfl Tryd.underlying98 Tryd.underlying5 (conv_u8 (Adler.sum l / 256)) rfl ?_
  refine E.mv rfl rfl <| ?_
  refine E.conv rfl Tryd.underlying98 Tryd.underlying5 (conv_u8 (Adler.sum l)) rfl ?_
  refine E.build (cs := (Df.ad4 l).map u8) rfl (by kernel_rfl) rfl ?_
  refine E.storeAM 0 (cs := (Df.ad4 l).map u8) hM rfl rfl rfl (by kernel_rfl) rfl (ones rfl <| ones rfl <| ones rfl <| ones rfl <| ones_nil) ?_
  intro w2 hM
  try dsimp only [List.nil_append, List.cons_append, List.set_cons_zero, List.set_cons_succ, repl] at hM
  refine E.nil <| X.next <| C.ret <| retA rfl rfl Tryd.underlying77 rfl (by first | exact hM.blk 0 rfl | exact hM.blk 1 rfl | exact hM.blk 2 rfl | exact hM.blk 3 rfl) (by kernel_rfl) ?_
  exact ⟨rfl, hM.toExt⟩

end Go.Proofs.YtcmgbjmcklfkcaaDoor
