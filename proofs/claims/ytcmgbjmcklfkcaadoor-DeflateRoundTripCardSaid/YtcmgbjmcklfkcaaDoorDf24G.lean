/- deflate: Inflate. -/
import Derived.Test.YtcmgbjmcklfkcaaDoorDf23G
namespace Go.Proofs.YtcmgbjmcklfkcaaDoor
set_option linter.unusedSimpArgs false
set_option linter.unusedVariables false
open Go.RowKit Sym

theorem Sym.M.callAll {w0 w w' : World} {S : Nat → Prop} {rs outs : List Rg} (h : M w0 S w rs) (k : M w (fpU rs) w' outs) : M w0 S w' outs where
  sep := k.sep
  mine := fun i r hi x hx => by
    rcases k.mine i r hi x hx with ⟨j, q, hj, hq⟩ | h1
    · exact h.mine j q hj x hq
    · exact .inr (Nat.le_trans h.size h1)
  fr := h.fr.step k.fr fun x ⟨j, q, hj, hq⟩ => h.mine j q hj x hq
namespace Df
theorem rkin_adv {lim : Nat} {p out x : List UInt8} {k a e : Nat} (ha : a ≤ (ub p).length) (h : rkin lim p out k (ub p) a = .ok (x, e)) : a ≤ e ∧ e ≤ (ub p).length := by
  unfold rkin at h
  split at h
  · have := rsto_adv ha h; exact ⟨this.1, this.2.1⟩
  · split at h
    · exact tk_adv ha h
    · split at h
      · cases h1 : rown (ub p) a with
        | error z => rw [bnd_err h1] at h; cases h
        | ok q =>
          obtain ⟨⟨L, D⟩, a1⟩ := q
          rw [bnd_ok h1] at h
          have k1 := cut_own _ _ _ _ ha h1
          have k2 := tk_adv k1.2.1 h
          exact ⟨Nat.le_trans k1.1 k2.1, k2.2⟩
      · cases h
theorem rblk_adv {lim : Nat} {p out o : List UInt8} {x a e : Nat} (ha : a ≤ (ub p).length) (h : rblk lim p out (ub p) a = .ok ((x, o), e)) : a < e ∧ e ≤ (ub p).length := by
  unfold rblk at h
  cases h1 : rbits 1 (ub p) a with
  | error z => rw [bnd_err h1] at h; cases h
  | ok q =>
    obtain ⟨y, a1⟩ := q
    rw [bnd_ok h1] at h
    obtain ⟨_, e1, b1⟩ := rbits_lt h1
    cases h2 : rbits 2 (ub p) a1 with
    | error z => rw [bnd_err h2] at h; cases h
    | ok q =>
      obtain ⟨k, a2⟩ := q
      rw [bnd_ok h2] at h
      obtain ⟨_, e2, b2⟩ := rbits_lt h2
      cases h3 : rkin lim p out k (ub p) a2 with
      | error z => rw [bnd_err h3] at h; cases h
      | ok q =>
        obtain ⟨o', a3⟩ := q
        rw [bnd_ok h3] at h
        cases h
        have := rkin_adv b2 h3
        omega
end Df
/-- what Inflate answers -/
def InfV (r : Except Int (List UInt8 × Nat)) (out : List UInt8) (n : Nat) (e : Int) (m : Nat) : Prop := (e = 0 ∧ ∃ a, r = .ok (out, a) ∧ n = (a + 7) / 8 ∧ a ≤ 8 * m) ∨ (e ≠ 0 ∧ r = .error e ∧ out = [] ∧ n = 0)
set_option maxHeartbeats 4000000 in
set_option maxRecDepth 4000 in
theorem Inflate_ret (p : Value) (l : List UInt8) (x : Int) (w : World) (hp : RdL u8 w p l) (hO : Ord w) :
    Ret Tryd.prog 18 #[p, i64 x] w fun v w' => ∃ (vo : Value) (out : List UInt8) (n : Nat) (e : Int), v = .tuple #[vo, i64 n, i64 e] ∧ M w Nn w' [Rg.sl u8 5 vo out] ∧ InfV (Df.inf l x) out n e l.length := by
  have hM := M.start w
  refine enter Tryd.func18 rfl (by kernel_rfl) Tryd.ntmps18 rfl ?_
  refine C.seq <| C.region <| E.asg rfl rfl <| E.asg rfl rfl <| E.asg rfl rfl <| E.nil <| X.next <| C.seq <| ?_

  refine C.chainE [(0, _), (1, _)] rfl [(15, .bool (decide (x < 0 ∨ 16777216 < x)))] ?_ ?_
  ·
    refine C.region <| E.mv rfl rfl <| E.bin rfl rfl rfl rfl <| E.mv rfl rfl <| ?_
    refine E.split 12 rfl (fun g12 => ?_) (fun g12 => ?_)
    ·
      try simp only [decide_eq_true_eq, decide_eq_false_iff_not, ne_eq, Decidable.not_not, Bool.not_eq_true', Bool.not_eq_false'] at g12
      refine E.off rfl rfl rfl rfl <| E.off rfl rfl rfl rfl <| E.pick rfl rfl rfl <| E.nil <| X.join0 (Sub.cons (by (first | exact leaf_f (by omega) | exact leaf_t (by omega) | exact leaf_d (by omega) | exact leaf_f (by first | (simp [*] <;> fail) | omega) | exact leaf_t (by first | (simp [*] <;> fail) | omega) | exact leaf_d (by first | (simp [*] <;> fail) | omega) | exact leaf_f (by (first | omega | ((try simp only [decide_eq_true_eq, decide_eq_false_iff_not, Bool.not_eq_true', Bool.not_eq_false'] at *); first | omega | (simp_all <;> fail) | (simp_all; omega)))) | exact leaf_t (by (first | omega | ((try simp only [decide_eq_true_eq, decide_eq_false_iff_not, Bool.not_eq_true', Bool.not_eq_false'] at *); first | omega | (simp_all <;> fail) | (simp_all; omega)))) | exact leaf_d (by (first | omega | ((try simp only [decide_eq_true_eq, decide_eq_false_iff_not, Bool.not_eq_true', Bool.not_eq_false'] at *); first | omega | (simp_all <;> fail) | (simp_all; omega)))))) <| Sub.nil _) rfl rfl
    ·
      try simp only [decide_eq_true_eq, decide_eq_false_iff_not, ne_eq, Decidable.not_not, Bool.not_eq_true', Bool.not_eq_false'] at g12
      refine E.on rfl rfl (E.mv rfl rfl ?_)
      refine E.on rfl rfl (E.bin rfl rfl rfl rfl ?_)
      refine E.pick rfl rfl rfl <| E.nil <| X.join0 (Sub.cons (by (first | exact leaf_f (by omega) | exact leaf_t (by omega) | exact leaf_d (by omega) | exact leaf_f (by first | (simp [*] <;> fail) | omega) | exact leaf_t (by first | (simp [*] <;> fail) | omega) | exact leaf_d (by first | (simp [*] <;> fail) | omega) | exact leaf_f (by (first | omega | ((try simp only [decide_eq_true_eq, decide_eq_false_iff_not, Bool.not_eq_true', Bool.not_eq_false'] at *); first | omega | (simp_all <;> fail) | (simp_all; omega)))) | exact leaf_t (by (first | omega | ((try simp only [decide_eq_true_eq, decide_eq_false_iff_not, Bool.not_eq_true', Bool.not_eq_false'] at *); first | omega | (simp_all <;> fail) | (simp_all; omega)))) | exact leaf_d (by (first | omega | ((try simp only [decide_eq_true_eq, decide_eq_false_iff_not, Bool.not_eq_true', Bool.not_eq_false'] at *); first | omega | (simp_all <;> fail) | (simp_all; omega)))))) <| Sub.nil _) rfl rfl
  refine C.cond' rfl (fun hC0 => ?_) (fun hC0 => ?_)
  ·
    refine C.seq <| C.region <| E.asg rfl rfl <| E.asg rfl rfl <| E.asg rfl rfl <| E.nil <| X.next <| C.ret <| X.retT <| ret3 rfl rfl rfl rfl ?_
    exact ⟨_, [], 0, 3, rfl, (hM.pick [] (by decide)).nil u8 5, .inr ⟨by decide, by rw [Df.inf, if_pos hC0], rfl, rfl⟩⟩
  ·
    refine C.skip <| X.next <| C.seq <| C.seq <| C.region <| E.mv rfl rfl <| ?_
    refine E.lenv rfl (Rd.shape (hM.arg0 hp)) Tryd.underlying22 rfl ?_
    refine E.bin rfl rfl rfl rfl <| E.nil <| X.next <| ?_
    refine C.cond' rfl (fun hC1 => ?_) (fun hC1 => ?_)
    ·
      refine C.seq <| C.region <| E.asg rfl rfl <| E.asg rfl rfl <| E.asg rfl rfl <| E.nil <| X.next <| C.ret <| X.retT <| ret3 rfl rfl rfl rfl ?_
      exact ⟨_, [], 0, 4, rfl, (hM.pick [] (by decide)).nil u8 5, .inr ⟨by decide, by rw [Df.inf, if_neg hC0, if_pos (by omega)], rfl, rfl⟩⟩
    ·
      have hl4 : l.length ≤ 4194304 := by omega
      obtain ⟨lim, rfl⟩ : ∃ lim : Nat, x = (lim : Int) := ⟨x.toNat, by omega⟩
      have hinf : Df.inf l lim = Df.rinf lim l [] (Df.ub l) 0 := by rw [Df.inf, if_neg hC0, if_neg (by omega), Int.toNat_natCast]
      have hul := Df.ub_len l
      refine C.skip <| X.next <| C.seq <| C.region <| E.mv rfl rfl <| E.mv rfl rfl <| ?_
      obtain ⟨pa, pcap, hpe⟩ := Rd.shape hp
      refine E.build (cs := [p, i64 0, i64 (lim : Int), .slice none 0 0, .slice none 0 0]) rfl (by rw [hpe]; kernel_rfl) rfl ?_
      refine E.boxM hM rfl rfl rfl ?_
      intro b22 w0 hM
      try dsimp only [List.nil_append, List.cons_append, List.set_cons_zero, List.set_cons_succ, repl] at hM
      refine E.asg rfl rfl <| E.nil <| X.next <| C.block <| ?_
      have hM := hM.nil u8 5
      try dsimp only [List.nil_append, List.cons_append, List.set_cons_zero, List.set_cons_succ, repl] at hM

      refine C.loop5 [(7, _)] rfl (fun (a : Nat) (out : (List UInt8)) (vo : Value) (fv : Value) (F : (List Rg)) => []) (fun (a : Nat) (out : (List UInt8)) (vo : Value) (fv : Value) (F : (List Rg)) w' => M w (Nn) w' (Rg.blk b22 74 [p, i64 ((a : Nat) : Int), i64 (lim : Int), vo, fv] :: Rg.sl u8 5 vo out :: F) ∧ Df.rinf lim l [] (Df.ub l) 0 = Df.rinf lim l out (Df.ub l) a ∧ a ≤ 8 * l.length ∧ out.length ≤ lim ∧ Fx fv F) (fun (a : Nat) (out : (List UInt8)) (vo : Value) (fv : Value) (F : (List Rg)) => 8 * l.length - a) 0 [] (.slice none 0 0) (.slice none 0 0) [] ?_ ?_ ?_
      · exact Sub.nil _
      · exact ⟨hM, rfl, Nat.zero_le _, Nat.zero_le _, .inl ⟨rfl, rfl⟩⟩
      rintro a out vo fv F w1 ⟨hM, hri, ha, hol, hF⟩
      refine C.block <| C.seq <| C.region <| E.mv rfl rfl <| ?_
      refine E.call rfl rfl (sblock_ret out F b22 a lim p vo fv l _ hM.sep (hM.arg0 hp) (hM.off0 hp) (by omega) (by omega) hol (by omega) (hM.ord0 hO) (hM.no0 hO) hF) ?_
      rintro _ w2 ⟨vo2, fv2, out2, F2, a2, x2, e2, rfl, m, hF2, hr2, hol2⟩
      have hM := hM.callAll m
      try dsimp only [List.nil_append, List.cons_append, List.set_cons_zero, List.set_cons_succ, repl] at hM
      refine E.mv rfl rfl <| E.ext rfl rfl rfl <| E.ext rfl rfl rfl <| E.asg rfl rfl <| E.asg rfl rfl <| E.nil <| X.next <| C.seq <| C.seq <| C.region <| E.mv rfl rfl <| E.bin rfl rfl rfl rfl <| E.nil <| X.next <| ?_
      refine C.cond' rfl (fun hC2 => ?_) (fun hC2 => ?_)
      ·
        refine C.seq <| C.region <| E.mv rfl rfl <| E.asg rfl rfl <| E.asg rfl rfl <| E.asg rfl rfl <| E.nil <| X.next <| C.ret <| X.retT <| X.retB <| X.retT <| X.retB <| ret3 rfl rfl rfl rfl ?_
        exact ⟨_, [], 0, e2, rfl, (hM.pick [] (by decide)).nil u8 5, .inr ⟨hC2, by rw [hinf, hri, Df.rinf_err (hr2.bad hC2)], rfl, rfl⟩⟩
      ·
        have hq2 := hr2.good hC2
        have hv2 := Df.rblk_adv (by omega) hq2
        refine C.skip <| X.next <| C.seq <| C.region <| E.mv rfl rfl <| E.nil <| X.next <| ?_
        refine C.cond rfl (fun hC3 => ?_) (fun hC3 => ?_)
        ·
          have hx2 : x2 = 1 := by have := of_decide_eq_true hC3; omega
          subst hx2
          refine C.seq <| C.drawn (by kernel_rfl) (by kernel_rfl) <| Q.mv rfl rfl <| Q.nilc rfl rfl <| ?_
          refine Q.fld (o := 3) (sz := 0) rfl Tryd.underlying74 rfl rfl (by kernel_rfl) rfl ?_
          refine Q.load rfl Tryd.underlying22 rfl (hM.bcell 0 rfl rfl) rfl ?_
          refine Q.mv rfl rfl <| Q.nilc rfl rfl <| ?_
          refine Q.fld (o := 1) (sz := 0) rfl Tryd.underlying74 rfl rfl (by kernel_rfl) rfl ?_
          refine Q.load rfl Tryd.underlying3 rfl (hM.bcell 0 rfl rfl) rfl ?_
          refine Q.addN (a := a2) (b := 7) rfl rfl (by omega) rfl ?_
          refine Q.quo rfl rfl (by omega) (quoN (a := a2 + 7) (b := 8) (by omega) (by omega)) rfl ?_
          refine Q.asg rfl rfl <| Q.asg rfl rfl <| Q.asg rfl rfl <| Q.nil <| fun w3 hx3 => ?_
          have hM := hM.ext hx3
          refine X.next <| C.ret <| X.retB <| X.retT <| X.retB <| ret3 rfl rfl rfl rfl ?_
          exact ⟨vo2, out2, (a2 + 7) / 8, 0, rfl, hM.pick [1] (by decide), .inl ⟨rfl, a2, by rw [hinf, hri, Df.rinf_last hq2], rfl, by omega⟩⟩
        ·
          have hx2 : x2 ≠ 1 := fun h => by subst h; exact absurd hC3 (by decide)
          rw [Df.rinf_more hq2 hx2 hv2] at hri

          refine C.skip <| X.outN <| X.again5 a2 out2 vo2 fv2 F2 (Sub.nil _) rfl ⟨hM, hri, by omega, hol2, hF2⟩ (by omega)

end Go.Proofs.YtcmgbjmcklfkcaaDoor
