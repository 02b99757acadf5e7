/- Texts of the claim, laid together: Df9, Df10, DfE. -/
import Derived.Test.YtcmgbjmcklfkcaaDoorG29
import Derived.Test.YtcmgbjmcklfkcaaDoorG31
import Derived.Test.YtcmgbjmcklfkcaaDoorG32
/- deflate: Compress, Wrap. -/
namespace Go.Proofs.YtcmgbjmcklfkcaaDoor
set_option linter.unusedSimpArgs false
set_option linter.unusedVariables false
open Go.RowKit Sym

namespace Df
noncomputable def blL (lv : Nat) (ts : List Nat) : List Nat := if lv = 1 then fixL else oln (fql ts) 15
noncomputable def blD (lv : Nat) (ts : List Nat) : List Nat := if lv = 1 then fixD else oln (fqd ts) 15
noncomputable def hdv (lv : Nat) (ts : List Nat) : List Bool := if lv = 1 then [] else hdr (blL lv ts) (blD lv ts)
/-- the bits of compressed data -/
noncomputable def cbits (lv : Nat) (ts : List Nat) : List Bool := low 1 1 ++ low lv 2 ++ hdv lv ts ++ tbs (blL lv ts) (blD lv ts) ts ++ btv (Pf.code (blL lv ts) 256) ((blL lv ts).getD 256 0)
/-- compressed data -/
noncomputable def cmp (l : List UInt8) (lv : Nat) : List UInt8 := if lv = 0 then sto l else pk (cbits lv (toks l 0))
noncomputable def cmv (l : List UInt8) (x : Int) : List UInt8 := if x < 0 ∨ 2 < x then [] else cmp l x.toNat
theorem fix_kr : Pf.kr fixL = 1073741824 ∧ Pf.kr fixD = 1073741824 := by decide +kernel
theorem fix_le : (∀ n ∈ fixL, n ≤ 15) ∧ ∀ n ∈ fixD, n ≤ 15 := by decide +kernel
theorem fix_len : fixL.length = 288 ∧ fixD.length = 32 := ⟨tab_len _ _, tab_len _ _⟩
theorem bl_ok (lv : Nat) {ts : List Nat} (hl : ts.length ≤ 1000000) : 286 ≤ (blL lv ts).length ∧ 30 ≤ (blD lv ts).length ∧ (∀ n ∈ blL lv ts, n ≤ 15) ∧ (∀ n ∈ blD lv ts, n ≤ 15) ∧ Pf.kr (blL lv ts) ≤ 1073741824 ∧ Pf.kr (blD lv ts) ≤ 1073741824 ∧ (blL lv ts).length ≤ 288 ∧ (blD lv ts).length ≤ 32 ∧ (lv ≠ 1 → (blL lv ts).length = 286 ∧ (blD lv ts).length = 30) := by
  unfold blL blD
  by_cases h : lv = 1
  · rw [if_pos h, if_pos h, fix_len.1, fix_len.2, fix_kr.1, fix_kr.2]
    exact ⟨by decide, by decide, fix_le.1, fix_le.2, by decide, by decide, by decide, by decide, fun c => (c h).elim⟩
  · rw [if_neg h, if_neg h]
    have g1 := oln_law (fs := fql ts) (m := 15) (by decide) (by decide) (fun n hn => by have := fql_bd ts n hn; omega) (by rw [fql_len]; decide) (by rw [fql_len]; decide)
    have g2 := oln_law (fs := fqd ts) (m := 15) (by decide) (by decide) (fun n hn => by have := fqd_bd ts n hn; omega) (by rw [fqd_len]; decide) (by rw [fqd_len]; decide)
    have k1 := oln_ok (fs := fql ts) (m := 15) (by decide) (by decide) (fun n hn => by have := fql_bd ts n hn; omega) (by rw [fql_len]; decide) (by rw [fql_len]; decide)
    have k2 := oln_ok (fs := fqd ts) (m := 15) (by decide) (by decide) (fun n hn => by have := fqd_bd ts n hn; omega) (by rw [fqd_len]; decide) (by rw [fqd_len]; decide)
    rw [g1.2.1, g2.2.1, fql_len, fqd_len]
    exact ⟨by decide, by decide, k1.1, k2.1, k1.2, k2.2, by decide, by decide, fun _ => ⟨rfl, rfl⟩⟩
theorem toks_len (p : List UInt8) (i : Nat) : (toks p i).length ≤ p.length - i := by
  by_cases h : i < p.length
  · by_cases h2 : (bst p i).1 = 0
    · rw [toks_lit h h2, List.length_cons]; have := toks_len p (i + 1); omega
    · rw [toks_mat h h2, List.length_cons]; have := toks_len p (i + (bst p i).1); have := bst_bd h; omega
  · rw [toks_end (by omega)]; simp
termination_by p.length - i
theorem toks_tok {p : List UInt8} (hp : p.length ≤ 32768) : ∀ t ∈ toks p 0, Tok t := fun t ht => by
  rcases toks_ok hp 0 t ht with h | ⟨h1, h2, h3, h4⟩
  · exact .inl h
  · exact .inr ⟨h1, h2, h3, by omega⟩
theorem hdr_len {L D : List Nat} (hL : L.length = 286) (hD : D.length = 30) (hbL : ∀ n ∈ L, n ≤ 15) (hbD : ∀ n ∈ D, n ≤ 15) : (hdr L D).length ≤ 20000 := by
  have hal := allL_len hL hD
  have hst := sq_ok (m := 15) (allL_mem hbL hbD) 0
  have hsl := sq_len (allL L D) 0
  unfold hdr
  generalize sq (allL L D) 0 = st at *
  have hcb := (oln_ok (fs := frqS st) (m := 7) (by decide) (by decide) (fun n hn => by have := frqS_bd st n hn; omega) (by rw [frqS_len]; decide) (by rw [frqS_len]; decide)).1
  generalize oln (frqS st) 7 = c at *
  have h1 := hdr3_len c (ctn (lst c) 4)
  have h2 := sbs_len (c := c) (fun n hn => Nat.le_trans (hcb n hn) (by decide)) hst
  simp only [List.length_append, low_len]; omega
end Df
theorem Sym.M.as {w0 w : World} {S : Nat → Prop} {rs rs' : List Rg} (h : M w0 S w rs) (e : rs = rs') : M w0 S w rs' := e ▸ h
set_option maxHeartbeats 8000000 in
set_option maxRecDepth 8000 in
theorem Compress_ret (p : Value) (l : List UInt8) (x : Int) (w : World) (hp : RdL u8 w p l) (hl : l.length ≤ 32768) (hO : Ord w) :
    Ret Tryd.prog 11 #[p, i64 x] w fun v w' => ∃ vo, v = .tuple #[vo, i64 (if x < 0 ∨ 2 < x then 3 else 0)] ∧ M w Nn w' [Rg.sl u8 5 vo (Df.cmv l x)] := by
  have hM := M.start w
  refine enter Tryd.func11 rfl (by kernel_rfl) Tryd.ntmps11 rfl ?_
  refine C.seq <| C.region <| E.asg rfl rfl <| E.asg rfl rfl <| E.nil <| X.next <| C.seq <| ?_

  refine C.chainE [(0, _), (1, _)] rfl [(16, .bool (decide (x < 0 ∨ 2 < x)))] ?_ ?_
  ·
    refine C.region <| E.mv rfl rfl <| E.bin rfl rfl rfl rfl <| E.mv rfl rfl <| ?_
    refine E.split 13 rfl (fun g13 => ?_) (fun g13 => ?_)
    ·
      try simp only [decide_eq_true_eq, decide_eq_false_iff_not, ne_eq, Decidable.not_not, Bool.not_eq_true', Bool.not_eq_false'] at g13
      refine E.off rfl rfl rfl rfl <| E.off rfl rfl rfl rfl <| E.pick rfl rfl rfl <| E.nil <| X.join0 (Sub.cons (by (first | exact leaf_f (by omega) | exact leaf_t (by omega) | exact leaf_d (by omega) | exact leaf_f (by first | (simp [*] <;> fail) | omega) | exact leaf_t (by first | (simp [*] <;> fail) | omega) | exact leaf_d (by first | (simp [*] <;> fail) | omega) | exact leaf_f (by (first | omega | ((try simp only [decide_eq_true_eq, decide_eq_false_iff_not, Bool.not_eq_true', Bool.not_eq_false'] at *); first | omega | (simp_all <;> fail) | (simp_all; omega)))) | exact leaf_t (by (first | omega | ((try simp only [decide_eq_true_eq, decide_eq_false_iff_not, Bool.not_eq_true', Bool.not_eq_false'] at *); first | omega | (simp_all <;> fail) | (simp_all; omega)))) | exact leaf_d (by (first | omega | ((try simp only [decide_eq_true_eq, decide_eq_false_iff_not, Bool.not_eq_true', Bool.not_eq_false'] at *); first | omega | (simp_all <;> fail) | (simp_all; omega)))))) <| Sub.nil _) rfl rfl
    ·
      try simp only [decide_eq_true_eq, decide_eq_false_iff_not, ne_eq, Decidable.not_not, Bool.not_eq_true', Bool.not_eq_false'] at g13
      refine E.on rfl rfl (E.mv rfl rfl ?_)
      refine E.on rfl rfl (E.bin rfl rfl rfl rfl ?_)
      refine E.pick rfl rfl rfl <| E.nil <| X.join0 (Sub.cons (by (first | exact leaf_f (by omega) | exact leaf_t (by omega) | exact leaf_d (by omega) | exact leaf_f (by first | (simp [*] <;> fail) | omega) | exact leaf_t (by first | (simp [*] <;> fail) | omega) | exact leaf_d (by first | (simp [*] <;> fail) | omega) | exact leaf_f (by (first | omega | ((try simp only [decide_eq_true_eq, decide_eq_false_iff_not, Bool.not_eq_true', Bool.not_eq_false'] at *); first | omega | (simp_all <;> fail) | (simp_all; omega)))) | exact leaf_t (by (first | omega | ((try simp only [decide_eq_true_eq, decide_eq_false_iff_not, Bool.not_eq_true', Bool.not_eq_false'] at *); first | omega | (simp_all <;> fail) | (simp_all; omega)))) | exact leaf_d (by (first | omega | ((try simp only [decide_eq_true_eq, decide_eq_false_iff_not, Bool.not_eq_true', Bool.not_eq_false'] at *); first | omega | (simp_all <;> fail) | (simp_all; omega)))))) <| Sub.nil _) rfl rfl
  refine C.cond' rfl (fun hC0 => ?_) (fun hC0 => ?_)
  ·
    refine C.seq <| C.region <| E.asg rfl rfl <| E.asg rfl rfl <| E.nil <| X.next <| C.ret <| X.retT <| ret2 rfl rfl rfl ?_
    exact ⟨_, by rw [if_pos hC0], by rw [Df.cmv, if_pos hC0]; exact hM.nil u8 5⟩
  ·
    obtain ⟨lv, rfl⟩ : ∃ lv : Nat, x = (lv : Int) := ⟨x.toNat, by omega⟩
    have hcv : Df.cmv l lv = Df.cmp l lv := by rw [Df.cmv, if_neg hC0, Int.toNat_natCast]
    rw [hcv, if_neg hC0]
    have hlv : lv ≤ 2 := by omega
    clear hcv
    refine C.skip <| X.next <| C.seq <| C.seq <| C.region <| E.mv rfl rfl <| ?_
    refine E.lenv rfl (Rd.shape (hM.arg0 hp)) Tryd.underlying22 rfl ?_
    refine E.bin rfl rfl rfl rfl <| E.nil <| X.next <| ?_
    refine C.cond' rfl (fun hC1 => ?_) (fun hC1 => ?_)
    ·
      omega
    ·
      refine C.skip <| X.next <| C.seq <| C.seq <| C.region <| E.mv rfl rfl <| E.bin rfl rfl rfl rfl <| E.nil <| X.next <| ?_
      refine C.cond' rfl (fun hC2 => ?_) (fun hC2 => ?_)
      ·
        obtain rfl : lv = 0 := by omega
        refine C.seq <| C.region <| E.mv rfl rfl <| ?_
        refine E.call rfl rfl (stored_ret p l _ (hM.arg0 hp) (by omega)) ?_
        rintro v23 w1 m
        have hM := hM.call m
        try dsimp only [List.nil_append, List.cons_append, List.set_cons_zero, List.set_cons_succ, repl] at hM
        refine E.asg rfl rfl <| E.asg rfl rfl <| E.nil <| X.next <| C.ret <| X.retT <| ret2 rfl rfl rfl ?_
        exact ⟨_, rfl, by rw [Df.cmp, if_pos rfl]; exact hM⟩
      ·
        have hlv0 : ¬ lv = 0 := by omega
        rw [show Df.cmp l lv = Df.pk (Df.cbits lv (Df.toks l 0)) by rw [Df.cmp, if_neg hlv0]]
        refine C.skip <| X.next <| C.seq <| C.region <| E.mv rfl rfl <| ?_
        refine E.call rfl rfl (Matches_ret p l _ (hM.arg0 hp) hl) ?_
        rintro _ w2 ⟨vt, rfl, m⟩
        have hM := hM.call m
        try dsimp only [List.nil_append, List.cons_append, List.set_cons_zero, List.set_cons_succ, repl] at hM
        have htk := Df.toks_tok hl
        have htl := Df.toks_len l 0
        obtain ⟨ts, hts⟩ : ∃ ts, ts = Df.toks l 0 := ⟨_, rfl⟩
        rw [← hts] at hM htk htl ⊢
        obtain ⟨ga, gb, gc, gd, ge, gf, gg, gh, gi⟩ := Df.bl_ok lv (ts := ts) (by omega)
        try dsimp only [List.nil_append, List.cons_append, List.set_cons_zero, List.set_cons_succ, repl] at hM
        refine E.mv rfl rfl <| E.ext rfl rfl rfl <| E.ext rfl rfl rfl <| E.asg rfl rfl <| E.asg rfl rfl <| E.nil <| X.next <| C.seq <| C.seq <| C.region <| E.mv rfl rfl <| E.bin rfl rfl rfl rfl <| E.nil <| X.next <| ?_
        refine C.cond' rfl (fun hC3 => ?_) (fun hC3 => ?_)
        ·
          exact (hC3 rfl).elim
        ·
          refine C.skip <| X.next <| C.seq <| C.region <| ?_
          refine E.buildC (cs := [_, _]) [.slice none 0 0, .int .i64 0] [] rfl rfl (by kernel_rfl) rfl ?_
          refine E.boxM hM rfl rfl rfl ?_
          intro b33 w2 hM
          try dsimp only [List.nil_append, List.cons_append, List.set_cons_zero, List.set_cons_succ, repl] at hM
          have hM := ((hM.nil u8 5).pick [1, 2, 0] (by decide)).as (show _ = [Rg.blk b33 44 [(.slice none 0 0), i64 (fr [])], Rg.sl u8 5 (.slice none 0 0) (Df.pk []), Rg.sl i64 3 vt (nz ts)] from rfl)
          refine E.asg rfl rfl <| E.nil <| X.next <| C.seq <| C.region <| E.mv rfl rfl <| ?_
          refine E.call rfl rfl (bits_ret b33 _ [] 1 1 _ (hM.pick [0, 1] (by decide)).sep (by decide) (by decide) (by decide)) ?_
          rintro _ w3 ⟨vn3, m⟩
          have hM := hM.calls [0, 1] (by decide) rfl (by simp) m
          try dsimp only [List.nil_append, List.cons_append, List.set_cons_zero, List.set_cons_succ, repl] at hM
          try dsimp only [List.nil_append, List.cons_append, List.set_cons_zero, List.set_cons_succ, repl] at hM
          refine E.nil <| X.next <| C.seq <| C.region <| E.mv rfl rfl <| E.mv rfl rfl <| ?_
          refine E.call rfl rfl (bits_ret b33 vn3 _ lv 2 _ (hM.pick [0, 1] (by decide)).sep (by omega) (by decide) (by simp only [List.length_append, Df.low_len, List.length_nil]; omega)) ?_
          rintro _ w4 ⟨vn4, m⟩
          have hM := hM.calls [0, 1] (by decide) rfl (by simp) m
          try dsimp only [List.nil_append, List.cons_append, List.set_cons_zero, List.set_cons_succ, repl] at hM
          try dsimp only [List.nil_append, List.cons_append, List.set_cons_zero, List.set_cons_succ, repl] at hM
          refine E.nil <| X.next <| C.seq <| C.region <| ?_
          refine E.call rfl rfl (fixedLengths_ret _) ?_
          rintro _ w5 ⟨fl, fd, rfl, m⟩
          have hM := hM.call m
          try dsimp only [List.nil_append, List.cons_append, List.set_cons_zero, List.set_cons_succ, repl] at hM
          try dsimp only [List.nil_append, List.cons_append, List.set_cons_zero, List.set_cons_succ, repl] at hM
          refine E.mv rfl rfl <| E.ext rfl rfl rfl <| E.ext rfl rfl rfl <| E.asg rfl rfl <| E.asg rfl rfl <| E.nil <| X.next <| ?_

          refine C.cut3 [(6, _), (8, _)] rfl (fun (vl : Value) (dl : Value) (vs : Value) => [(9, vl), (10, dl)]) (fun (vl : Value) (dl : Value) (vs : Value) w' => M w (Nn) w' [Rg.blk b33 44 [vs, i64 (fr (Df.low 1 1 ++ Df.low lv 2 ++ Df.hdv lv ts))], Rg.sl u8 5 vs (Df.pk (Df.low 1 1 ++ Df.low lv 2 ++ Df.hdv lv ts)), Rg.sl i64 3 vt (nz ts), Rg.sl i64 3 vl (nz (Df.blL lv ts)), Rg.sl i64 3 dl (nz (Df.blD lv ts))]) ?_ ?_
          ·
            refine C.seq <| C.region <| E.mv rfl rfl <| E.bin rfl rfl rfl rfl <| E.nil <| X.next <| ?_
            refine C.cond' rfl (fun hC4 => ?_) (fun hC4 => ?_)
            ·
              obtain rfl : lv = 2 := by omega
              refine C.seq <| C.region <| E.mv rfl rfl <| ?_
              refine E.call rfl rfl (ownLengths_ret vt ts _ (hM.sl 2 rfl) htk (by omega)) ?_
              rintro _ w6 ⟨ol, od, rfl, m⟩
              have hM := hM.call m
              try dsimp only [List.nil_append, List.cons_append, List.set_cons_zero, List.set_cons_succ, repl] at hM
              have hM := hM.as (show _ = [Rg.blk b33 44 [vn4, i64 (fr (Df.low 1 1 ++ Df.low 2 2))], Rg.sl u8 5 vn4 (Df.pk (Df.low 1 1 ++ Df.low 2 2)), Rg.sl i64 3 vt (nz ts), Rg.sl i64 3 fl (nz Df.fixL), Rg.sl i64 3 fd (nz Df.fixD), Rg.sl i64 3 ol (nz (Df.blL 2 ts)), Rg.sl i64 3 od (nz (Df.blD 2 ts))] from rfl)
              try dsimp only [List.nil_append, List.cons_append, List.set_cons_zero, List.set_cons_succ, repl] at hM
              refine E.mv rfl rfl <| E.ext rfl rfl rfl <| E.ext rfl rfl rfl <| E.asg rfl rfl <| E.asg rfl rfl <| E.nil <| X.next <| C.region <| E.mv rfl rfl <| E.mv rfl rfl <| E.mv rfl rfl <| ?_
              refine E.call rfl rfl (header_ret b33 vn4 ol od _ (Df.blL 2 ts) (Df.blD 2 ts) _ (hM.pick [0, 1, 5, 6] (by decide)).sep (hM.ord0 hO) ((hM.pick [0, 1, 5, 6] (by decide)).no0 hO) (gi (by decide)).1 (gi (by decide)).2 gc gd (by simp only [List.length_append, Df.low_len]; omega)) ?_
              rintro _ w7 ⟨vn7, m⟩
              have hM := hM.calls [0, 1, 5, 6] (by decide) rfl (by simp) m
              try dsimp only [List.nil_append, List.cons_append, List.set_cons_zero, List.set_cons_succ, repl] at hM
              try dsimp only [List.nil_append, List.cons_append, List.set_cons_zero, List.set_cons_succ, repl] at hM

              refine E.nil <| X.join3 ol od vn7 (Sub.cons rfl <| Sub.cons rfl <| Sub.nil _) rfl (hM.pick [0, 1, 2, 5, 6] (by decide))
            ·
              obtain rfl : lv = 1 := by omega

              refine C.skip <| X.join3 fl fd vn4 (Sub.cons rfl <| Sub.cons rfl <| Sub.nil _) rfl (hM.as (by rw [show Df.hdv 1 ts = [] from rfl, List.append_nil]; rfl))
          rintro vl dl vs w8 hM
          have hdl : (Df.hdv lv ts).length ≤ 20000 := by
            unfold Df.hdv
            split
            · simp
            · exact Df.hdr_len (gi ‹_›).1 (gi ‹_›).2 gc gd
          refine C.seq <| C.region <| E.mv rfl rfl <| E.mv rfl rfl <| E.mv rfl rfl <| ?_
          refine E.call rfl rfl (newCode_ret vl _ _ (hM.sl 3 rfl)) ?_
          rintro _ w8 ⟨vc, rfl, m⟩
          have hM := hM.call m
          try dsimp only [List.nil_append, List.cons_append, List.set_cons_zero, List.set_cons_succ, repl] at hM
          rw [cdv_ok (fun n hn => Nat.le_trans (gc n hn) (by decide)) ge (by omega)] at hM
          try dsimp only [List.nil_append, List.cons_append, List.set_cons_zero, List.set_cons_succ, repl] at hM
          refine E.mv rfl rfl <| ?_
          refine E.call rfl rfl (newCode_ret dl _ _ (hM.sl 4 rfl)) ?_
          rintro _ w9 ⟨dc, rfl, m⟩
          have hM := hM.call m
          try dsimp only [List.nil_append, List.cons_append, List.set_cons_zero, List.set_cons_succ, repl] at hM
          rw [cdv_ok (fun n hn => Nat.le_trans (gd n hn) (by decide)) gf (by omega)] at hM
          try dsimp only [List.nil_append, List.cons_append, List.set_cons_zero, List.set_cons_succ, repl] at hM
          refine E.call rfl rfl (tokens_ret b33 vs vl vc dl dc vt _ (Df.blL lv ts) (Df.blD lv ts) ts _ (hM.pick [0, 1, 3, 5, 4, 6, 2] (by decide)).sep htk ga gb (fun n hn => Nat.le_trans (gc n hn) (by decide)) (fun n hn => Nat.le_trans (gd n hn) (by decide)) ge gf (by simp only [List.length_append, Df.low_len]; omega)) ?_
          rintro _ w10 ⟨vn10, m⟩
          have hM := hM.calls [0, 1, 3, 5, 4, 6, 2] (by decide) rfl (by simp) m
          try dsimp only [List.nil_append, List.cons_append, List.set_cons_zero, List.set_cons_succ, repl] at hM
          try dsimp only [List.nil_append, List.cons_append, List.set_cons_zero, List.set_cons_succ, repl] at hM
          refine E.nil <| X.next <| C.seq <| C.region <| E.mv rfl rfl <| E.nilc rfl rfl <| ?_
          refine E.fld (o := 0) (sz := 0) rfl Tryd.underlying44 rfl rfl (by kernel_rfl) rfl ?_
          refine E.load rfl Tryd.underlying22 rfl (hM.bcell 0 rfl rfl) rfl ?_
          refine E.asg rfl rfl <| E.asg rfl rfl <| E.nil <| X.next <| C.ret <| ret2 rfl rfl rfl ?_
          exact ⟨_, rfl, hM.pick [1] (by decide)⟩

end Go.Proofs.YtcmgbjmcklfkcaaDoor

/- deflate: Wrap. -/
namespace Go.Proofs.YtcmgbjmcklfkcaaDoor
set_option linter.unusedSimpArgs false
set_option linter.unusedVariables false
open Go.RowKit Sym

namespace Sym
section
variable {P : Program} {ops : Array Oper} {Q : Exit → Act → World → Prop} {s : St} {env : Env} {w w0 : World} {S : Nat → Prop} {rs : List Rg} {rest : List Oper} {d : Nat} {ty : TypeId} {pos : String} {aft : Array Edge}
/-- x[:] of an array -/
theorem E.slcAr {t e : TypeId} {n sz b : Nat} {x : Operand} (hx : ev env x = some (pv b)) (ht : P.underlying t = some (.array n e)) (hs : (P.info? e).map (·.size) = some sz) (h0 : 0 < n) (hd : Nat.blt d s.n = true)
    (h : wpE P ops Q s rest ((d, .slice (some ⟨b, 0, none⟩) n n) :: env) w) : wpE P ops Q s (⟨some d, .slice t x none none none, ty, pos, aft, none⟩ :: rest) env w := by
  obtain ⟨i, hi, hs'⟩ := Option.map_eq_some_iff.1 hs
  refine E.op (fun a ha => ?_) hd h
  have hn : ¬ n = 0 := by omega
  simp [execOp, ha.ev hx, Instr.sliceAt, Instr.sureAddr, run_underlying ht, Instr.sliceBounds, sizeOf, typeInfo, hi, hs', hn, addr_add]
theorem M.arrL {α : Type} {enc : α → Value} {b : Nat} {T : TypeId} {l : List α} (h : M w0 S w rs) (i : Nat) (hi : rs[i]? = some (Rg.blk b T (l.map enc))) (hn : l.length ≤ 1000000) : RdL enc w (.slice (some ⟨b, 0, none⟩) l.length l.length) l :=
  ⟨some ⟨b, 0, none⟩, l.length, rfl, Nat.le_refl _, by unfold maxLen; omega, by rw [List.length_map, Nat.mul_one], fun _ => ⟨b, 0, rfl⟩, h.bat i hi⟩
end
end Sym
namespace Df
def b1 (x : Int) : UInt8 := if x = 0 then 1 else if x = 1 then 94 else 156
/-- the zlib form -/
noncomputable def wrv (l : List UInt8) (x : Int) : List UInt8 := if x < 0 ∨ 2 < x then [] else [120, b1 x] ++ cmp l x.toNat ++ ad4 l
theorem cmp_len {l : List UInt8} (hl : l.length ≤ 32768) {lv : Nat} (hlv : lv ≤ 2) : (cmp l lv).length ≤ 1000000 := by
  have htk := toks_tok hl
  have htl := toks_len l 0
  unfold cmp
  split
  · simp only [sto, List.length_append, List.length_cons, List.length_nil]; omega
  · obtain ⟨ga, gb, gc, gd, ge, gf, gg, gh, gi⟩ := bl_ok lv (ts := toks l 0) (by omega)
    have h1 := tbs_len (L := blL lv (toks l 0)) (D := blD lv (toks l 0)) (fun n hn => Nat.le_trans (gc n hn) (by decide)) (fun n hn => Nat.le_trans (gd n hn) (by decide)) htk
    have h2 := gd30 (l := blL lv (toks l 0)) (fun n hn => Nat.le_trans (gc n hn) (by decide)) 256
    have h3 : (hdv lv (toks l 0)).length ≤ 20000 := by
      unfold hdv
      split
      · simp
      · exact hdr_len (gi ‹_›).1 (gi ‹_›).2 gc gd
    rw [pk_len, cbits]
    simp only [List.length_append, low_len, btv_len]; omega
end Df
set_option maxHeartbeats 2000000 in
set_option maxRecDepth 4000 in
theorem Wrap_ret (p : Value) (l : List UInt8) (x : Int) (w : World) (hp : RdL u8 w p l) (hl : l.length ≤ 32768) (hO : Ord w) :
    Ret Tryd.prog 19 #[p, i64 x] w fun v w' => ∃ vo, v = .tuple #[vo, i64 (if x < 0 ∨ 2 < x then 3 else 0)] ∧ M w Nn w' [Rg.sl u8 5 vo (Df.wrv l x)] := by
  have hM := M.start w
  refine enter Tryd.func19 rfl (by kernel_rfl) Tryd.ntmps19 rfl ?_
  refine C.seq <| C.region <| E.asg rfl rfl <| E.asg rfl rfl <| E.nil <| X.next <| C.seq <| C.region <| E.mv rfl rfl <| E.mv rfl rfl <| ?_
  refine E.call rfl rfl (Compress_ret p l x _ (hM.arg0 hp) hl (hM.ord0 hO)) ?_
  rintro _ w1 ⟨v13, rfl, m⟩
  have hM := hM.call m
  try dsimp only [List.nil_append, List.cons_append, List.set_cons_zero, List.set_cons_succ, repl] at hM
  try dsimp only [List.nil_append, List.cons_append, List.set_cons_zero, List.set_cons_succ, repl] at hM
  refine E.mv rfl rfl <| E.ext rfl rfl rfl <| E.ext rfl rfl rfl <| E.asg rfl rfl <| E.asg rfl rfl <| E.nil <| X.next <| C.seq <| C.seq <| C.region <| E.mv rfl rfl <| E.bin rfl rfl rfl rfl <| E.nil <| X.next <| ?_
  refine C.cond' rfl (fun hC0 => ?_) (fun hC0 => ?_)
  ·
    have hx : x < 0 ∨ 2 < x := by by_cases h : x < 0 ∨ 2 < x; exact h; rw [if_neg h] at hC0; exact (hC0 rfl).elim
    refine C.seq <| C.region <| E.mv rfl rfl <| E.asg rfl rfl <| E.asg rfl rfl <| E.nil <| X.next <| C.ret <| X.retT <| ret2 rfl rfl rfl ?_
    exact ⟨_, rfl, by rw [Df.wrv, if_pos hx]; exact (hM.nil u8 5).pick [1] (by decide)⟩
  ·
    have hx : ¬ (x < 0 ∨ 2 < x) := by intro h; rw [if_pos h] at hC0; exact absurd hC0 (by decide)
    obtain ⟨lv, rfl⟩ : ∃ lv : Nat, x = (lv : Int) := ⟨x.toNat, by omega⟩
    rw [Df.cmv, if_neg hx, Int.toNat_natCast] at hM
    have hcl := Df.cmp_len hl (lv := lv) (by omega)
    obtain ⟨Cm, hCm⟩ : ∃ Cm, Cm = Df.cmp l lv := ⟨_, rfl⟩
    rw [← hCm] at hM hcl
    have hwv : Df.wrv l lv = [120, Df.b1 lv] ++ Cm ++ Df.ad4 l := by rw [Df.wrv, if_neg hx, Int.toNat_natCast, hCm]
    rw [hwv, if_neg hx]
    refine C.skip <| X.next <| C.seq <| C.region <| ?_
    refine E.mkM (enc := u8) (e := 5) [120, 156] hM rfl (fun _ => by kernel_rfl) rfl rfl rfl ?_
    intro v19 w1 hM
    try dsimp only [List.nil_append, List.cons_append, List.set_cons_zero, List.set_cons_succ, repl] at hM
    refine E.asg rfl rfl <| E.nil <| X.next <| ?_

    refine C.cut0 [(0, _), (6, _), (8, _)] rfl [] (fun w' => M w (Nn) w' [Rg.sl u8 5 v13 Cm, Rg.sl u8 5 v19 [120, Df.b1 lv]]) ?_ ?_
    ·
      refine C.seq <| C.region <| E.mv rfl rfl <| E.nil <| X.next <| C.block <| C.seq <| C.region <| E.bin rfl rfl rfl rfl <| E.asg rfl rfl <| E.nil <| X.next <| ?_
      refine C.cond' rfl (fun hC1 => ?_) (fun hC1 => ?_)
      ·
        refine C.region <| E.mv rfl rfl <| ?_
        refine E.idx1 (k := 1) rfl rfl (hM.sl 1 rfl) rfl (by simp) Tryd.underlying22 (by kernel_rfl) rfl ?_
        refine E.storeL (enc := u8) 1 1 hM rfl rfl rfl (by kernel_rfl) rfl rfl (by simp) ?_
        intro w2 hM
        try dsimp only [List.nil_append, List.cons_append, List.set_cons_zero, List.set_cons_succ, repl] at hM

        refine E.nil <| X.outN <| X.join0  (Sub.nil _) rfl (hM.as (by rw [Df.b1, if_pos hC1]))
      ·
        refine C.seq <| C.region <| E.bin rfl rfl rfl rfl <| E.asg rfl rfl <| E.nil <| X.next <| ?_
        refine C.cond' rfl (fun hC2 => ?_) (fun hC2 => ?_)
        ·
          refine C.region <| E.mv rfl rfl <| ?_
          refine E.idx1 (k := 1) rfl rfl (hM.sl 1 rfl) rfl (by simp) Tryd.underlying22 (by kernel_rfl) rfl ?_
          refine E.storeL (enc := u8) 1 94 hM rfl rfl rfl (by kernel_rfl) rfl rfl (by simp) ?_
          intro w3 hM
          try dsimp only [List.nil_append, List.cons_append, List.set_cons_zero, List.set_cons_succ, repl] at hM

          refine E.nil <| X.outN <| X.join0  (Sub.nil _) rfl (hM.as (by rw [Df.b1, if_neg hC1, if_pos hC2]))
        ·

          refine C.skip <| X.outN <| X.join0  (Sub.nil _) rfl (hM.as (by rw [Df.b1, if_neg hC1, if_neg hC2]))
    rintro  w4 hM
    refine C.seq <| C.region <| E.mv rfl rfl <| E.mv rfl rfl <| ?_
    refine E.appendM 1 hM rfl rfl rfl Tryd.underlying22 elem_Tuint8 (hM.sl 0 rfl) (fun _ => rfl) (by simp only [List.length_cons, List.length_nil]; omega) (by simp only [List.length_cons, List.length_nil]; omega) rfl ?_
    intro v31 w5 hM
    try dsimp only [List.nil_append, List.cons_append, List.set_cons_zero, List.set_cons_succ, repl] at hM
    refine E.asg rfl rfl <| E.nil <| X.next <| C.seq <| C.region <| E.mv rfl rfl <| ?_
    refine E.call rfl rfl (sumOf_ret p l _ (hM.arg0 hp)) ?_
    rintro _ w5 ⟨rfl, x5⟩
    have hM := hM.ext x5
    try dsimp only [List.nil_append, List.cons_append, List.set_cons_zero, List.set_cons_succ, repl] at hM
    refine E.allocM (z := .agg #[.int .u8 0, .int .u8 0, .int .u8 0, .int .u8 0]) (cs := [.int .u8 0, .int .u8 0, .int .u8 0, .int .u8 0]) hM (by kernel_rfl) rfl rfl ?_
    intro b9 w7 hM
    try dsimp only [List.nil_append, List.cons_append, List.set_cons_zero, List.set_cons_succ, repl] at hM
    refine E.storeAM 2 (cs := (Df.ad4 l).map u8) hM rfl rfl rfl (by kernel_rfl) rfl (ones rfl <| ones rfl <| ones rfl <| ones rfl <| ones_nil) ?_
    intro w8 hM
    try dsimp only [List.nil_append, List.cons_append, List.set_cons_zero, List.set_cons_succ, repl] at hM
    refine E.nil <| X.next <| C.seq <| C.region <| E.mv rfl rfl <| ?_
    refine E.slcAr (sz := 1) rfl Tryd.underlying77 (by kernel_rfl) (by decide) rfl ?_
    refine E.appendM 1 hM rfl rfl rfl Tryd.underlying22 elem_Tuint8 (hM.arrL (l := Df.ad4 l) 2 rfl (by simp [Df.ad4])) (fun _ => rfl) (by simp only [List.length_append, List.length_cons, List.length_nil, Df.ad4]; omega) (by simp only [List.length_append, List.length_cons, List.length_nil, Df.ad4]; omega) rfl ?_
    intro v36 w9 hM
    try dsimp only [List.nil_append, List.cons_append, List.set_cons_zero, List.set_cons_succ, repl] at hM
    refine E.asg rfl rfl <| E.asg rfl rfl <| E.nil <| X.next <| C.ret <| ret2 rfl rfl rfl ?_
    exact ⟨_, rfl, hM.pick [1] (by decide)⟩

end Go.Proofs.YtcmgbjmcklfkcaaDoor

/- Deflate, as plain mathematics: the chapter's examples. -/
namespace Go.Proofs.YtcmgbjmcklfkcaaDoor
set_option linter.unusedSimpArgs false
set_option linter.unusedVariables false
open Sym
namespace Df
theorem fix_get (i : Nat) : fixL.getD i 0 = if i < 288 then fxl i else 0 := by
  unfold fixL
  by_cases h : i < 288
  · rw [if_pos h, List.getD_eq_getElem?_getD, tab_get h]; rfl
  · rw [if_neg h, List.getD_eq_getElem?_getD, List.getElem?_eq_none (by rw [tab_len]; omega)]; rfl
def ofx : List Nat := List.range' 256 24 ++ (List.range' 0 144 ++ (List.range' 280 8 ++ List.range' 144 112))
theorem seg {a n v : Nat} (h : ∀ i, a ≤ i → i < a + n → fixL.getD i 0 = v) : (List.range' a n).Pairwise (Pf.Bf fixL) :=
  List.Pairwise.imp_of_mem (fun {x y} hx hy hlt => by
    rw [List.mem_range'_1] at hx hy
    exact .inr ⟨by rw [h x hx.1 hx.2, h y hy.1 hy.2], hlt⟩) (List.pairwise_lt_range' (s := a) (n := n))
theorem fx7 (i : Nat) (h1 : 256 ≤ i) (h2 : i < 256 + 24) : fixL.getD i 0 = 7 := by rw [fix_get, if_pos (by omega), fxl, if_neg (by omega), if_neg (by omega), if_pos (by omega)]
theorem fx8 (i : Nat) (h2 : i < 0 + 144) : fixL.getD i 0 = 8 := by rw [fix_get, if_pos (by omega), fxl, if_pos (by omega)]
theorem fx8' (i : Nat) (h1 : 280 ≤ i) (h2 : i < 280 + 8) : fixL.getD i 0 = 8 := by rw [fix_get, if_pos (by omega), fxl, if_neg (by omega), if_neg (by omega), if_neg (by omega)]
theorem fx9 (i : Nat) (h1 : 144 ≤ i) (h2 : i < 144 + 112) : fixL.getD i 0 = 9 := by rw [fix_get, if_pos (by omega), fxl, if_neg (by omega), if_pos (by omega)]
theorem od_fix : Pf.od fixL = ofx := by
  refine (Pf.od_uniq ?_ fun i => ?_).symm
  · unfold ofx
    refine List.pairwise_append.2 ⟨seg fx7, List.pairwise_append.2 ⟨seg fun i _ h => fx8 i h, List.pairwise_append.2 ⟨seg fx8', seg fx9, ?_⟩, ?_⟩, ?_⟩
    · intro a ha b hb
      rw [List.mem_range'_1] at ha hb
      exact .inl (by rw [fx8' a ha.1 ha.2, fx9 b hb.1 hb.2]; decide)
    · intro a ha b hb
      rw [List.mem_append, List.mem_range'_1, List.mem_range'_1] at hb
      rw [List.mem_range'_1] at ha
      rcases hb with hb | hb
      · exact .inr ⟨by rw [fx8 a ha.2, fx8' b hb.1 hb.2], by omega⟩
      · exact .inl (by rw [fx8 a ha.2, fx9 b hb.1 hb.2]; decide)
    · intro a ha b hb
      rw [List.mem_append, List.mem_append, List.mem_range'_1, List.mem_range'_1, List.mem_range'_1] at hb
      rw [List.mem_range'_1] at ha
      rcases hb with hb | hb | hb
      · exact .inl (by rw [fx7 a ha.1 ha.2, fx8 b hb.2]; decide)
      · exact .inl (by rw [fx7 a ha.1 ha.2, fx8' b hb.1 hb.2]; decide)
      · exact .inl (by rw [fx7 a ha.1 ha.2, fx9 b hb.1 hb.2]; decide)
  · unfold ofx
    rw [List.mem_append, List.mem_append, List.mem_append, List.mem_range'_1, List.mem_range'_1, List.mem_range'_1, List.mem_range'_1, fix_len.1, fix_get]
    by_cases h : i < 288
    · rw [if_pos h]
      have : 7 ≤ fxl i ∧ fxl i ≤ 9 := by unfold fxl; split <;> (try split) <;> (try split) <;> omega
      omega
    · rw [if_neg h]; omega
theorem code_256 : Pf.code fixL 256 = 0 ∧ fixL.getD 256 0 = 7 := by
  constructor
  · unfold Pf.code; rw [od_fix]; decide +kernel
  · exact fx7 256 (by decide) (by decide)
theorem code_97 : Pf.code fixL 97 = 145 ∧ fixL.getD 97 0 = 8 := by
  constructor
  · unfold Pf.code; rw [od_fix]; decide +kernel
  · exact fx8 97 (by decide)
theorem ex_a : cmv [] 0 = [1, 0, 0, 255, 255] := by
  rw [cmv, if_neg (by decide), cmp, if_pos (by decide)]; decide +kernel
theorem cb1 (ts : List Nat) : cbits 1 ts = low 1 1 ++ low 1 2 ++ tbs fixL fixD ts ++ btv 0 7 := by
  unfold cbits
  rw [show hdv 1 ts = [] from rfl, List.append_nil, show blL 1 ts = fixL from rfl, show blD 1 ts = fixD from rfl, code_256.1, code_256.2]
theorem tk_a : toks [97] 0 = [97] := by rw [toks_lit (by decide) (by decide +kernel), toks_end (by decide)]; rfl
theorem tb_a : tbs fixL fixD [97] = btv 145 8 := by
  unfold tbs
  rw [List.flatMap_cons, List.flatMap_nil, List.append_nil, tb, if_pos (by decide), code_97.1, code_97.2]
theorem ex_b : cmv [] 1 = [3, 0] := by
  rw [cmv, if_neg (by decide), show (1 : Int).toNat = 1 from rfl, cmp, if_neg (by decide), toks_end (by decide), cb1]; decide +kernel
theorem cmp_a : cmp [97] 1 = [75, 4, 0] := by
  rw [cmp, if_neg (by decide), tk_a, cb1, tb_a]; decide +kernel
theorem ex_c : cmv [97] 1 = [75, 4, 0] := by
  rw [cmv, if_neg (by decide), show (1 : Int).toNat = 1 from rfl, cmp_a]
theorem ex_w : wrv [97] 1 = [120, 94, 75, 4, 0, 0, 98, 0, 98] := by
  rw [wrv, if_neg (by decide), show (1 : Int).toNat = 1 from rfl, cmp_a]; decide +kernel
theorem ex_l : toks [97, 98, 99, 97, 98, 99, 97, 98, 99, 100] 0 = [97, 98, 99, 393219, 100] := by
  rw [toks_lit (by decide) (by decide +kernel), toks_lit (by decide) (by decide +kernel), toks_lit (by decide) (by decide +kernel), toks_mat (by decide) (by decide +kernel)]
  rw [show bst [97, 98, 99, 97, 98, 99, 97, 98, 99, 100] (0 + 1 + 1 + 1) = (6, 3) by decide +kernel]
  rw [toks_lit (by decide) (by decide +kernel), toks_end (by decide)]; decide +kernel
theorem ex_r : cmv [] 3 = [] := by rw [cmv, if_pos (by decide)]
end Df
end Go.Proofs.YtcmgbjmcklfkcaaDoor
