/- Texts of the claim, laid together: RLabel. -/
import Derived.Test.YtnnmebpahickhaaComponentsSymmetricTopMg16
/- reference of components: Label, hole. -/
namespace Go.Proofs.Ytnnmebpahickhaa
set_option linter.unusedSimpArgs false
set_option linter.unusedVariables false
open Go.RowKit Sym Uf

set_option maxHeartbeats 1000000 in
theorem rLabel_ret (W Ht : Int) (vd : Value) (dk : List Bool) (eight : Bool) (w : World) (hr : RdL Value.bool w vd dk) :
    Ret Try.prog 15 #[mat W Ht vd, .bool eight] w fun v w' => LabelAns W Ht dk eight v w w' ∧ Ext w w' := by
  have hM := M.start w
  refine enter Try.func15 rfl (by kernel_rfl) Try.ntmps15 rfl ?_
  refine C.seq <| C.region <| ?_
  refine E.boxM hM rfl rfl rfl ?_
  intro b2 w0 hM
  try dsimp only [List.nil_append, List.cons_append, List.set_cons_zero, List.set_cons_succ, repl] at hM
  refine E.asg rfl rfl <| E.asg rfl rfl <| E.asg rfl rfl <| E.nil <| X.next <| C.seq <| C.seq <| C.region <| ?_
  refine E.loadA rfl Try.underlying24 rfl (by kernel_rfl) (by first | exact hM.bat 0 rfl | exact hM.bat 1 rfl | exact hM.bat 2 rfl | exact hM.bat 3 rfl | exact hM.bat 4 rfl | exact hM.bat 5 rfl | exact hM.bat 6 rfl | exact hM.bat 7 rfl) rfl ?_
  refine E.call rfl rfl (rCheck_ret W Ht vd dk.length _ hr.shape) ?_
  rintro _ w9 ⟨rfl, x9⟩
  have hM := hM.ext x9
  try dsimp only [List.nil_append, List.cons_append, List.set_cons_zero, List.set_cons_succ, repl] at hM
  refine E.bin rfl rfl rfl rfl <| E.nil <| X.next <| ?_
  refine C.cond' rfl (fun hC0 => ?_) (fun hC0 => ?_)
  ·
    have hno : ¬ okMat W Ht dk.length := fun h => by rw [if_pos h] at hC0; exact hC0 rfl
    refine C.seq <| C.region <| E.asg rfl rfl <| E.asg rfl rfl <| E.asg rfl rfl <| E.nil <| X.next <| C.ret <| X.retT <| ret3 rfl rfl rfl rfl ?_
    exact ⟨.inl ⟨hno, rfl⟩, hM.toExt⟩
  ·
    have hok : okMat W Ht dk.length := Decidable.byContradiction fun h => by rw [if_neg h] at hC0; exact hC0 (by decide)
    obtain ⟨a, b, rfl, rfl, hW, hH, hn, hn0⟩ := hok.nat
    refine C.skip <| X.next <| C.seq <| C.region <| ?_
    refine E.loadA rfl Try.underlying24 rfl (by kernel_rfl) (by first | exact hM.bat 0 rfl | exact hM.bat 1 rfl | exact hM.bat 2 rfl | exact hM.bat 3 rfl | exact hM.bat 4 rfl | exact hM.bat 5 rfl | exact hM.bat 6 rfl | exact hM.bat 7 rfl) rfl ?_
    refine E.mv rfl rfl <| ?_
    refine E.call rfl rfl (rparts_ret a b vd dk true eight _ hW hH hn hn0 (hM.arg0 hr)) ?_
    rintro _ w10 ⟨va, vb, lab, bl, rfl, hL, m⟩
    have hM := hM.call m
    try dsimp only [List.nil_append, List.cons_append, List.set_cons_zero, List.set_cons_succ, repl] at hM
    have hnum := hL.num
    refine E.mv rfl rfl <| E.ext rfl rfl rfl <| E.ext rfl rfl rfl <| E.asg rfl rfl <| E.asg rfl rfl <| E.nil <| X.next <| C.seq <| C.seq <| C.region <| E.mv rfl rfl <| ?_
    refine E.lenv rfl (RdF.shape (by first | exact hM.slF 0 rfl | exact hM.slF 1 rfl | exact hM.slF 2 rfl | exact hM.slF 3 rfl | exact hM.slF 4 rfl | exact hM.slF 5 rfl | exact hM.slF 6 rfl | exact hM.slF 7 rfl | exact hM.argF0 (by assumption) | exact hM.argF (by assumption) (by assumption) | assumption)) Try.underlying28 rfl ?_
    refine E.bin rfl rfl rfl rfl <| E.nil <| X.next <| ?_
    refine C.cond' rfl (fun hC1 => ?_) (fun hC1 => ?_)
    ·
      refine C.seq <| C.region <| E.asg rfl rfl <| E.asg rfl rfl <| E.asg rfl rfl <| E.nil <| X.next <| C.ret <| X.retT <| ret3 rfl rfl rfl rfl ?_
      exact ⟨.inr (.inl ⟨hok, by show 65536 < nf _ (RR a eight dk true) _; omega, rfl⟩), hM.toExt⟩
    ·
      refine C.skip <| X.next <| C.seq <| C.region <| E.mv rfl rfl <| E.mv rfl rfl <| E.asg rfl rfl <| E.asg rfl rfl <| E.asg rfl rfl <| E.nil <| X.next <| C.ret <| ret3 rfl rfl rfl rfl ?_
      exact ⟨.inr (.inr ⟨hok, by show nf _ (RR a eight dk true) _ ≤ 65536; omega, va, vb, lab, bl, rfl, hM.pick [1, 2] (by decide), hL⟩), hM.toExt⟩

/-- its box does not touch the border -/
def Hb (W Ht : Int) (b : Bl) : Prop := 0 < b.x ∧ 0 < b.y ∧ b.x + b.w < W ∧ b.y + b.h < Ht
instance (W Ht : Int) (b : Bl) : Decidable (Hb W Ht b) := by unfold Hb; exact inferInstance
theorem hole_ret (W Ht : Int) (vd : Value) (b : Bl) (w : World) (hb : b.small) :
    Ret Try.prog 40 #[mat W Ht vd, .agg #[i64 b.x, i64 b.y, i64 b.w, i64 b.h]] w fun v w' => v = .bool (decide (Hb W Ht b)) ∧ Ext w w' := by
  have hM := M.start w
  refine enter Try.func40 rfl (by kernel_rfl) Try.ntmps40 rfl ?_
  refine C.seq <| C.region <| ?_
  refine E.boxM hM rfl rfl rfl ?_
  intro b2 w0 hM
  try dsimp only [List.nil_append, List.cons_append, List.set_cons_zero, List.set_cons_succ, repl] at hM
  refine E.boxM hM rfl rfl rfl ?_
  intro b3 w1 hM
  try dsimp only [List.nil_append, List.cons_append, List.set_cons_zero, List.set_cons_succ, repl] at hM
  refine E.asg rfl rfl <| E.nil <| X.next <| ?_

  refine C.chainE [] rfl [(4, .bool (decide (Hb W Ht b)))] ?_ ?_
  ·
    obtain ⟨s1, s2, s3, s4, s5, s6, s7, s8, s9, s10⟩ := hb
    unfold Hb
    refine C.region <| ?_
    refine E.fld (o := 0) (sz := 0) rfl Try.underlying34 rfl rfl (by kernel_rfl) rfl ?_
    refine E.load rfl Try.underlying3 rfl (by first | exact hM.bcell 0 rfl rfl | exact hM.bcell 1 rfl rfl | exact hM.bcell 2 rfl rfl | exact hM.bcell 3 rfl rfl | exact hM.bcell 4 rfl rfl | exact hM.bcell 5 rfl rfl | exact hM.bcell 6 rfl rfl | exact hM.bcell 7 rfl rfl) rfl ?_
    refine E.bin rfl rfl rfl rfl <| E.mv rfl rfl <| ?_
    refine E.split 8 rfl (fun g8 => ?_) (fun g8 => ?_)
    ·
      try simp only [decide_eq_true_eq, decide_eq_false_iff_not, ne_eq, Decidable.not_not] at g8
      refine E.on rfl rfl (E.fld (o := 1) (sz := 0) rfl Try.underlying34 rfl rfl (by kernel_rfl) rfl ?_)
      refine E.on rfl rfl (E.load rfl Try.underlying3 rfl (by first | exact hM.bcell 0 rfl rfl | exact hM.bcell 1 rfl rfl | exact hM.bcell 2 rfl rfl | exact hM.bcell 3 rfl rfl | exact hM.bcell 4 rfl rfl | exact hM.bcell 5 rfl rfl | exact hM.bcell 6 rfl rfl | exact hM.bcell 7 rfl rfl) rfl ?_)
      refine E.on rfl rfl (E.bin rfl rfl rfl rfl ?_)
      refine E.pick rfl rfl rfl <| E.mv rfl rfl <| ?_
      refine E.split 13 rfl (fun g13 => ?_) (fun g13 => ?_)
      ·
        try simp only [decide_eq_true_eq, decide_eq_false_iff_not, ne_eq, Decidable.not_not] at g13
        refine E.on rfl rfl (E.fld (o := 0) (sz := 0) rfl Try.underlying34 rfl rfl (by kernel_rfl) rfl ?_)
        refine E.on rfl rfl (E.load rfl Try.underlying3 rfl (by first | exact hM.bcell 0 rfl rfl | exact hM.bcell 1 rfl rfl | exact hM.bcell 2 rfl rfl | exact hM.bcell 3 rfl rfl | exact hM.bcell 4 rfl rfl | exact hM.bcell 5 rfl rfl | exact hM.bcell 6 rfl rfl | exact hM.bcell 7 rfl rfl) rfl ?_)
        refine E.on rfl rfl (E.fld (o := 2) (sz := 0) rfl Try.underlying34 rfl rfl (by kernel_rfl) rfl ?_)
        refine E.on rfl rfl (E.load rfl Try.underlying3 rfl (by first | exact hM.bcell 0 rfl rfl | exact hM.bcell 1 rfl rfl | exact hM.bcell 2 rfl rfl | exact hM.bcell 3 rfl rfl | exact hM.bcell 4 rfl rfl | exact hM.bcell 5 rfl rfl | exact hM.bcell 6 rfl rfl | exact hM.bcell 7 rfl rfl) rfl ?_)
        refine E.on rfl rfl (E.add rfl rfl (by omega) rfl ?_)
        refine E.on rfl rfl (E.fld (o := 0) (sz := 0) rfl Try.underlying24 rfl rfl (by kernel_rfl) rfl ?_)
        refine E.on rfl rfl (E.load rfl Try.underlying3 rfl (by first | exact hM.bcell 0 rfl rfl | exact hM.bcell 1 rfl rfl | exact hM.bcell 2 rfl rfl | exact hM.bcell 3 rfl rfl | exact hM.bcell 4 rfl rfl | exact hM.bcell 5 rfl rfl | exact hM.bcell 6 rfl rfl | exact hM.bcell 7 rfl rfl) rfl ?_)
        refine E.on rfl rfl (E.bin rfl rfl rfl rfl ?_)
        refine E.pick rfl rfl rfl <| E.mv rfl rfl <| ?_
        refine E.split 23 rfl (fun g23 => ?_) (fun g23 => ?_)
        ·
          try simp only [decide_eq_true_eq, decide_eq_false_iff_not, ne_eq, Decidable.not_not] at g23
          refine E.on rfl rfl (E.fld (o := 1) (sz := 0) rfl Try.underlying34 rfl rfl (by kernel_rfl) rfl ?_)
          refine E.on rfl rfl (E.load rfl Try.underlying3 rfl (by first | exact hM.bcell 0 rfl rfl | exact hM.bcell 1 rfl rfl | exact hM.bcell 2 rfl rfl | exact hM.bcell 3 rfl rfl | exact hM.bcell 4 rfl rfl | exact hM.bcell 5 rfl rfl | exact hM.bcell 6 rfl rfl | exact hM.bcell 7 rfl rfl) rfl ?_)
          refine E.on rfl rfl (E.fld (o := 3) (sz := 0) rfl Try.underlying34 rfl rfl (by kernel_rfl) rfl ?_)
          refine E.on rfl rfl (E.load rfl Try.underlying3 rfl (by first | exact hM.bcell 0 rfl rfl | exact hM.bcell 1 rfl rfl | exact hM.bcell 2 rfl rfl | exact hM.bcell 3 rfl rfl | exact hM.bcell 4 rfl rfl | exact hM.bcell 5 rfl rfl | exact hM.bcell 6 rfl rfl | exact hM.bcell 7 rfl rfl) rfl ?_)
          refine E.on rfl rfl (E.add rfl rfl (by omega) rfl ?_)
          refine E.on rfl rfl (E.fld (o := 1) (sz := 0) rfl Try.underlying24 rfl rfl (by kernel_rfl) rfl ?_)
          refine E.on rfl rfl (E.load rfl Try.underlying3 rfl (by first | exact hM.bcell 0 rfl rfl | exact hM.bcell 1 rfl rfl | exact hM.bcell 2 rfl rfl | exact hM.bcell 3 rfl rfl | exact hM.bcell 4 rfl rfl | exact hM.bcell 5 rfl rfl | exact hM.bcell 6 rfl rfl | exact hM.bcell 7 rfl rfl) rfl ?_)
          refine E.on rfl rfl (E.bin rfl rfl rfl rfl ?_)
          refine E.pick rfl rfl rfl <| E.asg rfl rfl <| E.nil <| X.join0 (Sub.cons (by (first | exact leaf_f (by omega) | exact leaf_t (by omega) | exact leaf_d (by omega) | exact leaf_f (by first | (simp [*] <;> fail) | omega) | exact leaf_t (by first | (simp [*] <;> fail) | omega) | exact leaf_d (by first | (simp [*] <;> fail) | omega) | exact leaf_f (by (first | omega | ((try simp only [decide_eq_true_eq, decide_eq_false_iff_not, Bool.not_eq_true', Bool.not_eq_false'] at *); first | omega | (simp_all <;> fail) | (simp_all; omega)))) | exact leaf_t (by (first | omega | ((try simp only [decide_eq_true_eq, decide_eq_false_iff_not, Bool.not_eq_true', Bool.not_eq_false'] at *); first | omega | (simp_all <;> fail) | (simp_all; omega)))) | exact leaf_d (by (first | omega | ((try simp only [decide_eq_true_eq, decide_eq_false_iff_not, Bool.not_eq_true', Bool.not_eq_false'] at *); first | omega | (simp_all <;> fail) | (simp_all; omega)))))) <| Sub.nil _) rfl rfl
        ·
          try simp only [decide_eq_true_eq, decide_eq_false_iff_not, ne_eq, Decidable.not_not] at g23
          refine E.off rfl rfl rfl rfl <| E.off rfl rfl rfl rfl <| E.off rfl rfl rfl rfl <| E.off rfl rfl rfl rfl <| E.off rfl rfl rfl rfl <| E.off rfl rfl rfl rfl <| E.off rfl rfl rfl rfl <| E.off rfl rfl rfl rfl <| E.pick rfl rfl rfl <| E.asg rfl rfl <| E.nil <| X.join0 (Sub.cons (by (first | exact leaf_f (by omega) | exact leaf_t (by omega) | exact leaf_d (by omega) | exact leaf_f (by first | (simp [*] <;> fail) | omega) | exact leaf_t (by first | (simp [*] <;> fail) | omega) | exact leaf_d (by first | (simp [*] <;> fail) | omega) | exact leaf_f (by (first | omega | ((try simp only [decide_eq_true_eq, decide_eq_false_iff_not, Bool.not_eq_true', Bool.not_eq_false'] at *); first | omega | (simp_all <;> fail) | (simp_all; omega)))) | exact leaf_t (by (first | omega | ((try simp only [decide_eq_true_eq, decide_eq_false_iff_not, Bool.not_eq_true', Bool.not_eq_false'] at *); first | omega | (simp_all <;> fail) | (simp_all; omega)))) | exact leaf_d (by (first | omega | ((try simp only [decide_eq_true_eq, decide_eq_false_iff_not, Bool.not_eq_true', Bool.not_eq_false'] at *); first | omega | (simp_all <;> fail) | (simp_all; omega)))))) <| Sub.nil _) rfl rfl
      ·
        try simp only [decide_eq_true_eq, decide_eq_false_iff_not, ne_eq, Decidable.not_not] at g13
        refine E.off rfl rfl rfl rfl <| E.off rfl rfl rfl rfl <| E.off rfl rfl rfl rfl <| E.off rfl rfl rfl rfl <| E.off rfl rfl rfl rfl <| E.off rfl rfl rfl rfl <| E.off rfl rfl rfl rfl <| E.off rfl rfl rfl rfl <| E.pick rfl rfl rfl <| E.mv rfl rfl <| E.off rfl rfl rfl rfl <| E.off rfl rfl rfl rfl <| E.off rfl rfl rfl rfl <| E.off rfl rfl rfl rfl <| E.off rfl rfl rfl rfl <| E.off rfl rfl rfl rfl <| E.off rfl rfl rfl rfl <| E.off rfl rfl rfl rfl <| E.pick rfl rfl rfl <| E.asg rfl rfl <| E.nil <| X.join0 (Sub.cons (by (first | exact leaf_f (by omega) | exact leaf_t (by omega) | exact leaf_d (by omega) | exact leaf_f (by first | (simp [*] <;> fail) | omega) | exact leaf_t (by first | (simp [*] <;> fail) | omega) | exact leaf_d (by first | (simp [*] <;> fail) | omega) | exact leaf_f (by (first | omega | ((try simp only [decide_eq_true_eq, decide_eq_false_iff_not, Bool.not_eq_true', Bool.not_eq_false'] at *); first | omega | (simp_all <;> fail) | (simp_all; omega)))) | exact leaf_t (by (first | omega | ((try simp only [decide_eq_true_eq, decide_eq_false_iff_not, Bool.not_eq_true', Bool.not_eq_false'] at *); first | omega | (simp_all <;> fail) | (simp_all; omega)))) | exact leaf_d (by (first | omega | ((try simp only [decide_eq_true_eq, decide_eq_false_iff_not, Bool.not_eq_true', Bool.not_eq_false'] at *); first | omega | (simp_all <;> fail) | (simp_all; omega)))))) <| Sub.nil _) rfl rfl
    ·
      try simp only [decide_eq_true_eq, decide_eq_false_iff_not, ne_eq, Decidable.not_not] at g8
      refine E.off rfl rfl rfl rfl <| E.off rfl rfl rfl rfl <| E.off rfl rfl rfl rfl <| E.pick rfl rfl rfl <| E.mv rfl rfl <| E.off rfl rfl rfl rfl <| E.off rfl rfl rfl rfl <| E.off rfl rfl rfl rfl <| E.off rfl rfl rfl rfl <| E.off rfl rfl rfl rfl <| E.off rfl rfl rfl rfl <| E.off rfl rfl rfl rfl <| E.off rfl rfl rfl rfl <| E.pick rfl rfl rfl <| E.mv rfl rfl <| E.off rfl rfl rfl rfl <| E.off rfl rfl rfl rfl <| E.off rfl rfl rfl rfl <| E.off rfl rfl rfl rfl <| E.off rfl rfl rfl rfl <| E.off rfl rfl rfl rfl <| E.off rfl rfl rfl rfl <| E.off rfl rfl rfl rfl <| E.pick rfl rfl rfl <| E.asg rfl rfl <| E.nil <| X.join0 (Sub.cons (by (first | exact leaf_f (by omega) | exact leaf_t (by omega) | exact leaf_d (by omega) | exact leaf_f (by first | (simp [*] <;> fail) | omega) | exact leaf_t (by first | (simp [*] <;> fail) | omega) | exact leaf_d (by first | (simp [*] <;> fail) | omega) | exact leaf_f (by (first | omega | ((try simp only [decide_eq_true_eq, decide_eq_false_iff_not, Bool.not_eq_true', Bool.not_eq_false'] at *); first | omega | (simp_all <;> fail) | (simp_all; omega)))) | exact leaf_t (by (first | omega | ((try simp only [decide_eq_true_eq, decide_eq_false_iff_not, Bool.not_eq_true', Bool.not_eq_false'] at *); first | omega | (simp_all <;> fail) | (simp_all; omega)))) | exact leaf_d (by (first | omega | ((try simp only [decide_eq_true_eq, decide_eq_false_iff_not, Bool.not_eq_true', Bool.not_eq_false'] at *); first | omega | (simp_all <;> fail) | (simp_all; omega)))))) <| Sub.nil _) rfl rfl
  refine C.ret <| ret1 rfl rfl ?_
  exact ⟨rfl, hM.toExt⟩

theorem lab_len {W : Int} {dk : List Bool} {lab : List Int} {bl : List Bl} (hL : Labelled (DD dk true) (RR W.toNat true dk true) W.toNat dk.length lab bl) : lab.length = dk.length := hL.len
set_option maxHeartbeats 2000000 in
theorem rDespeckle_ret (W Ht : Int) (vd : Value) (dk : List Bool) (area : Int) (w : World) (hr : RdL Value.bool w vd dk) :
    Ret Try.prog 18 #[mat W Ht vd, i64 area] w fun v w' => MatAns (DespSp W Ht dk area) v w w' := by
  have hM := M.start w
  refine enter Try.func18 rfl (by kernel_rfl) Try.ntmps18 rfl ?_
  refine C.seq <| C.region <| ?_
  refine E.boxM hM rfl rfl rfl ?_
  intro b2 w0 hM
  try dsimp only [List.nil_append, List.cons_append, List.set_cons_zero, List.set_cons_succ, repl] at hM
  refine E.allocM (z := .agg #[.int .i64 0, .int .i64 0, .slice none 0 0]) (cs := [.int .i64 0, .int .i64 0, .slice none 0 0]) hM (by kernel_rfl) rfl rfl ?_
  intro b4 w1 hM
  try dsimp only [List.nil_append, List.cons_append, List.set_cons_zero, List.set_cons_succ, repl] at hM
  refine E.asg rfl rfl <| E.nil <| X.next <| C.seq <| C.seq <| C.region <| ?_
  refine E.loadA rfl Try.underlying24 rfl (by kernel_rfl) (by first | exact hM.bat 0 rfl | exact hM.bat 1 rfl | exact hM.bat 2 rfl | exact hM.bat 3 rfl | exact hM.bat 4 rfl | exact hM.bat 5 rfl | exact hM.bat 6 rfl | exact hM.bat 7 rfl) rfl ?_
  refine E.call rfl rfl (rCheck_ret W Ht vd dk.length _ hr.shape) ?_
  rintro _ w9 ⟨rfl, x9⟩
  have hM := hM.ext x9
  try dsimp only [List.nil_append, List.cons_append, List.set_cons_zero, List.set_cons_succ, repl] at hM
  refine E.bin rfl rfl rfl rfl <| E.nil <| X.next <| ?_
  refine C.cond' rfl (fun hC0 => ?_) (fun hC0 => ?_)
  ·
    have hno : ¬ okMat W Ht dk.length := fun h => by rw [if_pos h] at hC0; exact hC0 rfl
    refine C.seq <| C.region <| ?_
    refine E.buildC (cs := [_, _, _]) [.int .i64 0, .int .i64 0, .slice none 0 0] [] rfl rfl (by kernel_rfl) rfl ?_
    first
      | refine E.storeAM 0 hM rfl rfl rfl (by kernel_rfl) rfl ?_ ?_
      | refine E.storeAM 1 hM rfl rfl rfl (by kernel_rfl) rfl ?_ ?_
      | refine E.storeAM 2 hM rfl rfl rfl (by kernel_rfl) rfl ?_ ?_
      | refine E.storeAM 3 hM rfl rfl rfl (by kernel_rfl) rfl ?_ ?_
      | refine E.storeAM 4 hM rfl rfl rfl (by kernel_rfl) rfl ?_ ?_
      | refine E.storeAM 5 hM rfl rfl rfl (by kernel_rfl) rfl ?_ ?_
      | refine E.storeAM 6 hM rfl rfl rfl (by kernel_rfl) rfl ?_ ?_
      | refine E.storeAM 7 hM rfl rfl rfl (by kernel_rfl) rfl ?_ ?_
    · exact ones (by first | rfl | exact (hM.sl 0 rfl).one | exact (hM.sl 1 rfl).one | exact (hM.sl 2 rfl).one | exact (hM.sl 3 rfl).one | exact (hM.sl 4 rfl).one | exact (hM.sl 5 rfl).one | exact (hM.sl 6 rfl).one | exact (hM.sl 7 rfl).one | exact (hM.slF 0 rfl).one | exact (hM.slF 1 rfl).one | exact (hM.slF 2 rfl).one | exact (hM.slF 3 rfl).one | exact (hM.slF 4 rfl).one | exact (hM.slF 5 rfl).one | exact (hM.slF 6 rfl).one | exact (hM.slF 7 rfl).one | exact RdL.one (by assumption) | exact RdF.one (by assumption) | assumption) <| ones (by first | rfl | exact (hM.sl 0 rfl).one | exact (hM.sl 1 rfl).one | exact (hM.sl 2 rfl).one | exact (hM.sl 3 rfl).one | exact (hM.sl 4 rfl).one | exact (hM.sl 5 rfl).one | exact (hM.sl 6 rfl).one | exact (hM.sl 7 rfl).one | exact (hM.slF 0 rfl).one | exact (hM.slF 1 rfl).one | exact (hM.slF 2 rfl).one | exact (hM.slF 3 rfl).one | exact (hM.slF 4 rfl).one | exact (hM.slF 5 rfl).one | exact (hM.slF 6 rfl).one | exact (hM.slF 7 rfl).one | exact RdL.one (by assumption) | exact RdF.one (by assumption) | assumption) <| ones (by first | rfl | exact (hM.sl 0 rfl).one | exact (hM.sl 1 rfl).one | exact (hM.sl 2 rfl).one | exact (hM.sl 3 rfl).one | exact (hM.sl 4 rfl).one | exact (hM.sl 5 rfl).one | exact (hM.sl 6 rfl).one | exact (hM.sl 7 rfl).one | exact (hM.slF 0 rfl).one | exact (hM.slF 1 rfl).one | exact (hM.slF 2 rfl).one | exact (hM.slF 3 rfl).one | exact (hM.slF 4 rfl).one | exact (hM.slF 5 rfl).one | exact (hM.slF 6 rfl).one | exact (hM.slF 7 rfl).one | exact RdL.one (by assumption) | exact RdF.one (by assumption) | assumption) <| ones_nil
    intro w3 hM
    try dsimp only [List.nil_append, List.cons_append, List.set_cons_zero, List.set_cons_succ, repl] at hM
    refine E.asg rfl rfl <| E.nil <| X.next <| C.ret <| X.retT <| retAT rfl rfl rfl Try.underlying24 rfl (by first | exact hM.blk 0 rfl | exact hM.blk 1 rfl | exact hM.blk 2 rfl | exact hM.blk 3 rfl | exact hM.blk 4 rfl | exact hM.blk 5 rfl | exact hM.blk 6 rfl | exact hM.blk 7 rfl) (by kernel_rfl) ?_
    exact ⟨_, _, _, [], _, rfl, .inl ⟨hno, rfl, rfl, rfl, rfl⟩, (hM.nil Value.bool 4).pick [2] (by decide)⟩
  ·
    have hok : okMat W Ht dk.length := Decidable.byContradiction fun h => by rw [if_neg h] at hC0; exact hC0 (by decide)
    refine C.skip <| X.next <| C.seq <| C.seq <| C.region <| E.mv rfl rfl <| E.bin rfl rfl rfl rfl <| E.nil <| X.next <| ?_
    refine C.cond' rfl (fun hC1 => ?_) (fun hC1 => ?_)
    ·
      refine C.seq <| C.region <| ?_
      refine E.buildC (cs := [_, _, _]) [.int .i64 0, .int .i64 0, .slice none 0 0] [] rfl rfl (by kernel_rfl) rfl ?_
      first
        | refine E.storeAM 0 hM rfl rfl rfl (by kernel_rfl) rfl ?_ ?_
        | refine E.storeAM 1 hM rfl rfl rfl (by kernel_rfl) rfl ?_ ?_
        | refine E.storeAM 2 hM rfl rfl rfl (by kernel_rfl) rfl ?_ ?_
        | refine E.storeAM 3 hM rfl rfl rfl (by kernel_rfl) rfl ?_ ?_
        | refine E.storeAM 4 hM rfl rfl rfl (by kernel_rfl) rfl ?_ ?_
        | refine E.storeAM 5 hM rfl rfl rfl (by kernel_rfl) rfl ?_ ?_
        | refine E.storeAM 6 hM rfl rfl rfl (by kernel_rfl) rfl ?_ ?_
        | refine E.storeAM 7 hM rfl rfl rfl (by kernel_rfl) rfl ?_ ?_
      · exact ones (by first | rfl | exact (hM.sl 0 rfl).one | exact (hM.sl 1 rfl).one | exact (hM.sl 2 rfl).one | exact (hM.sl 3 rfl).one | exact (hM.sl 4 rfl).one | exact (hM.sl 5 rfl).one | exact (hM.sl 6 rfl).one | exact (hM.sl 7 rfl).one | exact (hM.slF 0 rfl).one | exact (hM.slF 1 rfl).one | exact (hM.slF 2 rfl).one | exact (hM.slF 3 rfl).one | exact (hM.slF 4 rfl).one | exact (hM.slF 5 rfl).one | exact (hM.slF 6 rfl).one | exact (hM.slF 7 rfl).one | exact RdL.one (by assumption) | exact RdF.one (by assumption) | assumption) <| ones (by first | rfl | exact (hM.sl 0 rfl).one | exact (hM.sl 1 rfl).one | exact (hM.sl 2 rfl).one | exact (hM.sl 3 rfl).one | exact (hM.sl 4 rfl).one | exact (hM.sl 5 rfl).one | exact (hM.sl 6 rfl).one | exact (hM.sl 7 rfl).one | exact (hM.slF 0 rfl).one | exact (hM.slF 1 rfl).one | exact (hM.slF 2 rfl).one | exact (hM.slF 3 rfl).one | exact (hM.slF 4 rfl).one | exact (hM.slF 5 rfl).one | exact (hM.slF 6 rfl).one | exact (hM.slF 7 rfl).one | exact RdL.one (by assumption) | exact RdF.one (by assumption) | assumption) <| ones (by first | rfl | exact (hM.sl 0 rfl).one | exact (hM.sl 1 rfl).one | exact (hM.sl 2 rfl).one | exact (hM.sl 3 rfl).one | exact (hM.sl 4 rfl).one | exact (hM.sl 5 rfl).one | exact (hM.sl 6 rfl).one | exact (hM.sl 7 rfl).one | exact (hM.slF 0 rfl).one | exact (hM.slF 1 rfl).one | exact (hM.slF 2 rfl).one | exact (hM.slF 3 rfl).one | exact (hM.slF 4 rfl).one | exact (hM.slF 5 rfl).one | exact (hM.slF 6 rfl).one | exact (hM.slF 7 rfl).one | exact RdL.one (by assumption) | exact RdF.one (by assumption) | assumption) <| ones_nil
      intro w4 hM
      try dsimp only [List.nil_append, List.cons_append, List.set_cons_zero, List.set_cons_succ, repl] at hM
      refine E.asg rfl rfl <| E.nil <| X.next <| C.ret <| X.retT <| retAT rfl rfl rfl Try.underlying24 rfl (by first | exact hM.blk 0 rfl | exact hM.blk 1 rfl | exact hM.blk 2 rfl | exact hM.blk 3 rfl | exact hM.blk 4 rfl | exact hM.blk 5 rfl | exact hM.blk 6 rfl | exact hM.blk 7 rfl) (by kernel_rfl) ?_
      exact ⟨_, _, _, [], _, rfl, .inr (.inl ⟨hok, hC1, rfl, rfl, rfl, rfl⟩), (hM.nil Value.bool 4).pick [2] (by decide)⟩
    ·
      have ha0 : 0 ≤ area := by omega
      refine C.skip <| X.next <| C.seq <| C.region <| ?_
      refine E.loadA rfl Try.underlying24 rfl (by kernel_rfl) (by first | exact hM.bat 0 rfl | exact hM.bat 1 rfl | exact hM.bat 2 rfl | exact hM.bat 3 rfl | exact hM.bat 4 rfl | exact hM.bat 5 rfl | exact hM.bat 6 rfl | exact hM.bat 7 rfl) rfl ?_
      refine E.call rfl rfl (rLabel_ret W Ht vd dk true _ (hM.arg0 hr)) ?_
      rintro _ w10 ⟨hA, x10⟩
      obtain ⟨va, vb, lab, bl, e, rfl, m, hA⟩ := hA.uni x10
      have hM := hM.call m
      try dsimp only [List.nil_append, List.cons_append, List.set_cons_zero, List.set_cons_succ, repl] at hM
      refine E.mv rfl rfl <| E.ext rfl rfl rfl <| E.ext rfl rfl rfl <| E.ext rfl rfl rfl <| E.asg rfl rfl <| E.asg rfl rfl <| E.asg rfl rfl <| E.nil <| X.next <| C.seq <| C.seq <| C.region <| E.mv rfl rfl <| E.bin rfl rfl rfl rfl <| E.nil <| X.next <| ?_
      refine C.cond' rfl (fun hC2 => ?_) (fun hC2 => ?_)
      ·
        have hA' : 65536 < nf (DD dk true) (RR W.toNat true dk true) dk.length ∧ e = 4 := by
          rcases hA with ⟨h, _⟩ | ⟨_, h, he, _⟩ | ⟨_, _, h, _⟩
          · exact (h hok).elim
          · exact ⟨h, he⟩
          · omega
        obtain ⟨hlong, rfl⟩ := hA'
        refine C.seq <| C.region <| ?_
        refine E.buildC (cs := [_, _, _]) [.int .i64 0, .int .i64 0, .slice none 0 0] [] rfl rfl (by kernel_rfl) rfl ?_
        refine E.mv rfl rfl <| ?_
        first
          | refine E.storeAM 0 hM rfl rfl rfl (by kernel_rfl) rfl ?_ ?_
          | refine E.storeAM 1 hM rfl rfl rfl (by kernel_rfl) rfl ?_ ?_
          | refine E.storeAM 2 hM rfl rfl rfl (by kernel_rfl) rfl ?_ ?_
          | refine E.storeAM 3 hM rfl rfl rfl (by kernel_rfl) rfl ?_ ?_
          | refine E.storeAM 4 hM rfl rfl rfl (by kernel_rfl) rfl ?_ ?_
          | refine E.storeAM 5 hM rfl rfl rfl (by kernel_rfl) rfl ?_ ?_
          | refine E.storeAM 6 hM rfl rfl rfl (by kernel_rfl) rfl ?_ ?_
          | refine E.storeAM 7 hM rfl rfl rfl (by kernel_rfl) rfl ?_ ?_
        · exact ones (by first | rfl | exact (hM.sl 0 rfl).one | exact (hM.sl 1 rfl).one | exact (hM.sl 2 rfl).one | exact (hM.sl 3 rfl).one | exact (hM.sl 4 rfl).one | exact (hM.sl 5 rfl).one | exact (hM.sl 6 rfl).one | exact (hM.sl 7 rfl).one | exact (hM.slF 0 rfl).one | exact (hM.slF 1 rfl).one | exact (hM.slF 2 rfl).one | exact (hM.slF 3 rfl).one | exact (hM.slF 4 rfl).one | exact (hM.slF 5 rfl).one | exact (hM.slF 6 rfl).one | exact (hM.slF 7 rfl).one | exact RdL.one (by assumption) | exact RdF.one (by assumption) | assumption) <| ones (by first | rfl | exact (hM.sl 0 rfl).one | exact (hM.sl 1 rfl).one | exact (hM.sl 2 rfl).one | exact (hM.sl 3 rfl).one | exact (hM.sl 4 rfl).one | exact (hM.sl 5 rfl).one | exact (hM.sl 6 rfl).one | exact (hM.sl 7 rfl).one | exact (hM.slF 0 rfl).one | exact (hM.slF 1 rfl).one | exact (hM.slF 2 rfl).one | exact (hM.slF 3 rfl).one | exact (hM.slF 4 rfl).one | exact (hM.slF 5 rfl).one | exact (hM.slF 6 rfl).one | exact (hM.slF 7 rfl).one | exact RdL.one (by assumption) | exact RdF.one (by assumption) | assumption) <| ones (by first | rfl | exact (hM.sl 0 rfl).one | exact (hM.sl 1 rfl).one | exact (hM.sl 2 rfl).one | exact (hM.sl 3 rfl).one | exact (hM.sl 4 rfl).one | exact (hM.sl 5 rfl).one | exact (hM.sl 6 rfl).one | exact (hM.sl 7 rfl).one | exact (hM.slF 0 rfl).one | exact (hM.slF 1 rfl).one | exact (hM.slF 2 rfl).one | exact (hM.slF 3 rfl).one | exact (hM.slF 4 rfl).one | exact (hM.slF 5 rfl).one | exact (hM.slF 6 rfl).one | exact (hM.slF 7 rfl).one | exact RdL.one (by assumption) | exact RdF.one (by assumption) | assumption) <| ones_nil
        intro w6 hM
        try dsimp only [List.nil_append, List.cons_append, List.set_cons_zero, List.set_cons_succ, repl] at hM
        refine E.asg rfl rfl <| E.nil <| X.next <| C.ret <| X.retT <| retAT rfl rfl rfl Try.underlying24 rfl (by first | exact hM.blk 0 rfl | exact hM.blk 1 rfl | exact hM.blk 2 rfl | exact hM.blk 3 rfl | exact hM.blk 4 rfl | exact hM.blk 5 rfl | exact hM.blk 6 rfl | exact hM.blk 7 rfl) (by kernel_rfl) ?_
        exact ⟨_, _, _, [], _, rfl, .inr (.inr (.inl ⟨hok, ha0, hlong, rfl, rfl, rfl, rfl⟩)), (hM.nil Value.bool 4).pick [4] (by decide)⟩
      ·
        have hA' : nf (DD dk true) (RR W.toNat true dk true) dk.length ≤ 65536 ∧ e = 0 ∧ Labelled (DD dk true) (RR W.toNat true dk true) W.toNat dk.length lab bl := by
          rcases hA with ⟨h, _⟩ | ⟨_, _, h, _⟩ | ⟨_, h⟩
          · exact (h hok).elim
          · omega
          · exact h
        obtain ⟨hfew, rfl, hL⟩ := hA'
        obtain ⟨a, b, rfl, rfl, hW, hH, hn, hn0⟩ := hok.nat
        have hll := hL.len
        refine C.skip <| X.next <| C.seq <| C.region <| ?_
        refine E.fld (o := 0) (sz := 0) rfl Try.underlying24 rfl rfl (by kernel_rfl) rfl ?_
        refine E.load rfl Try.underlying3 rfl (by first | exact hM.bcell 0 rfl rfl | exact hM.bcell 1 rfl rfl | exact hM.bcell 2 rfl rfl | exact hM.bcell 3 rfl rfl | exact hM.bcell 4 rfl rfl | exact hM.bcell 5 rfl rfl | exact hM.bcell 6 rfl rfl | exact hM.bcell 7 rfl rfl) rfl ?_
        refine E.fld (o := 1) (sz := 0) rfl Try.underlying24 rfl rfl (by kernel_rfl) rfl ?_
        refine E.load rfl Try.underlying3 rfl (by first | exact hM.bcell 0 rfl rfl | exact hM.bcell 1 rfl rfl | exact hM.bcell 2 rfl rfl | exact hM.bcell 3 rfl rfl | exact hM.bcell 4 rfl rfl | exact hM.bcell 5 rfl rfl | exact hM.bcell 6 rfl rfl | exact hM.bcell 7 rfl rfl) rfl ?_
        refine E.buildC (cs := [_, _, _]) [.int .i64 0, .int .i64 0, .slice none 0 0] [0, 1] rfl rfl (by kernel_rfl) rfl ?_
        refine E.allocM (z := .agg #[.int .i64 0, .int .i64 0, .slice none 0 0]) (cs := [.int .i64 0, .int .i64 0, .slice none 0 0]) hM (by kernel_rfl) rfl rfl ?_
        intro b9 w7 hM
        try dsimp only [List.nil_append, List.cons_append, List.set_cons_zero, List.set_cons_succ, repl] at hM
        first
          | refine E.storeAM 0 hM rfl rfl rfl (by kernel_rfl) rfl ?_ ?_
          | refine E.storeAM 1 hM rfl rfl rfl (by kernel_rfl) rfl ?_ ?_
          | refine E.storeAM 2 hM rfl rfl rfl (by kernel_rfl) rfl ?_ ?_
          | refine E.storeAM 3 hM rfl rfl rfl (by kernel_rfl) rfl ?_ ?_
          | refine E.storeAM 4 hM rfl rfl rfl (by kernel_rfl) rfl ?_ ?_
          | refine E.storeAM 5 hM rfl rfl rfl (by kernel_rfl) rfl ?_ ?_
          | refine E.storeAM 6 hM rfl rfl rfl (by kernel_rfl) rfl ?_ ?_
          | refine E.storeAM 7 hM rfl rfl rfl (by kernel_rfl) rfl ?_ ?_
        · exact ones (by first | rfl | exact (hM.sl 0 rfl).one | exact (hM.sl 1 rfl).one | exact (hM.sl 2 rfl).one | exact (hM.sl 3 rfl).one | exact (hM.sl 4 rfl).one | exact (hM.sl 5 rfl).one | exact (hM.sl 6 rfl).one | exact (hM.sl 7 rfl).one | exact (hM.slF 0 rfl).one | exact (hM.slF 1 rfl).one | exact (hM.slF 2 rfl).one | exact (hM.slF 3 rfl).one | exact (hM.slF 4 rfl).one | exact (hM.slF 5 rfl).one | exact (hM.slF 6 rfl).one | exact (hM.slF 7 rfl).one | exact RdL.one (by assumption) | exact RdF.one (by assumption) | assumption) <| ones (by first | rfl | exact (hM.sl 0 rfl).one | exact (hM.sl 1 rfl).one | exact (hM.sl 2 rfl).one | exact (hM.sl 3 rfl).one | exact (hM.sl 4 rfl).one | exact (hM.sl 5 rfl).one | exact (hM.sl 6 rfl).one | exact (hM.sl 7 rfl).one | exact (hM.slF 0 rfl).one | exact (hM.slF 1 rfl).one | exact (hM.slF 2 rfl).one | exact (hM.slF 3 rfl).one | exact (hM.slF 4 rfl).one | exact (hM.slF 5 rfl).one | exact (hM.slF 6 rfl).one | exact (hM.slF 7 rfl).one | exact RdL.one (by assumption) | exact RdF.one (by assumption) | assumption) <| ones (by first | rfl | exact (hM.sl 0 rfl).one | exact (hM.sl 1 rfl).one | exact (hM.sl 2 rfl).one | exact (hM.sl 3 rfl).one | exact (hM.sl 4 rfl).one | exact (hM.sl 5 rfl).one | exact (hM.sl 6 rfl).one | exact (hM.sl 7 rfl).one | exact (hM.slF 0 rfl).one | exact (hM.slF 1 rfl).one | exact (hM.slF 2 rfl).one | exact (hM.slF 3 rfl).one | exact (hM.slF 4 rfl).one | exact (hM.slF 5 rfl).one | exact (hM.slF 6 rfl).one | exact (hM.slF 7 rfl).one | exact RdL.one (by assumption) | exact RdF.one (by assumption) | assumption) <| ones_nil
        intro w8 hM
        try dsimp only [List.nil_append, List.cons_append, List.set_cons_zero, List.set_cons_succ, repl] at hM
        refine E.nil <| X.next <| C.seq <| C.seq <| C.region <| E.asg rfl rfl <| E.nil <| X.next <| C.block <| ?_
        have hM := hM.nil Value.bool 4

        refine C.loop2 [(1, _), (2, _), (4, _), (6, _), (7, _), (9, _)] rfl (fun (vo : Value) (i : Nat) => [(10, i64 i)]) (fun (vo : Value) (i : Nat) w' => M w (Nn) w' [Rg.blk b2 24 [i64 a, i64 b, vd], Rg.blk b4 24 [i64 0, i64 0, nilS], Rg.sl i64 3 va lab, Rg.slF Bl.cells 7 38 vb bl, Rg.blk b9 24 [i64 a, i64 b, vo], Rg.sl Value.bool 4 vo (tab i (despf dk lab bl area))] ∧ i ≤ dk.length) (fun (vo : Value) (i : Nat) => dk.length - i) nilS 0 ?_ ?_ ?_
        · exact Sub.cons rfl <| Sub.nil _
        · exact ⟨hM, Nat.zero_le _⟩
        rintro vo i w9 ⟨hM, hi⟩
        refine C.seq <| C.seq <| C.region <| E.mv rfl rfl <| ?_
        refine E.fld (o := 2) (sz := 0) rfl Try.underlying24 rfl rfl (by kernel_rfl) rfl ?_
        refine E.load rfl Try.underlying22 rfl (by first | exact hM.bcell 0 rfl rfl | exact hM.bcell 1 rfl rfl | exact hM.bcell 2 rfl rfl | exact hM.bcell 3 rfl rfl | exact hM.bcell 4 rfl rfl | exact hM.bcell 5 rfl rfl | exact hM.bcell 6 rfl rfl | exact hM.bcell 7 rfl rfl) rfl ?_
        refine E.lenv rfl (Rd.shape (by first | exact hM.sl 0 rfl | exact hM.sl 1 rfl | exact hM.sl 2 rfl | exact hM.sl 3 rfl | exact hM.sl 4 rfl | exact hM.sl 5 rfl | exact hM.sl 6 rfl | exact hM.sl 7 rfl | exact hM.arg0 (by assumption) | exact hM.arg (by assumption) (by assumption) | assumption)) Try.underlying22 rfl ?_
        refine E.bin rfl rfl rfl rfl <| E.nil <| X.next <| ?_
        refine C.cond' rfl (fun hC3 => ?_) (fun hC3 => ?_)
        ·
          have hi' : i < dk.length := by omega
          have htl := tab_len i (despf dk lab bl area)
          refine C.skip <| X.next <| C.seq <| C.block <| C.heldM hM [0, 1, 2, 3] (by decide) (by kernel_rfl) fun wh10 hM hS => ?_
          refine H.takeV 0 rfl rfl (by kernel_rfl) (by kernel_rfl) (by kernel_rfl) hS (Y.fld (o := 2) (sz := 0) rfl Try.underlying24 rfl rfl (by kernel_rfl)) (fun w' hM => Y.fld (o := 2) (sz := 0) rfl Try.underlying24 rfl rfl (by kernel_rfl)) rfl ?_
          refine H.takeV 2 rfl rfl (by kernel_rfl) (by kernel_rfl) (by kernel_rfl) hS (Y.fld (o := 2) (sz := 0) rfl Try.underlying24 rfl rfl (by kernel_rfl)) (fun w' hM => Y.fld (o := 2) (sz := 0) rfl Try.underlying24 rfl rfl (by kernel_rfl)) rfl ?_
          refine H.take 4 rfl rfl (by kernel_rfl) (by kernel_rfl) (by kernel_rfl) hS (fun w' hM => Y.mv rfl) rfl ?_
          refine H.takeV 3 rfl rfl (by kernel_rfl) (by kernel_rfl) (by kernel_rfl) hS (Y.load rfl Try.underlying22 rfl (by first | exact hS.bcell 0 rfl rfl | exact hS.bcell 1 rfl rfl | exact hS.bcell 2 rfl rfl | exact hS.bcell 3 rfl rfl | exact hS.bcell 4 rfl rfl | exact hS.bcell 5 rfl rfl | exact hS.bcell 6 rfl rfl | exact hS.bcell 7 rfl rfl)) (fun w' hM => Y.load rfl Try.underlying22 rfl (by first | exact hM.bcell 0 rfl rfl | exact hM.bcell 1 rfl rfl | exact hM.bcell 2 rfl rfl | exact hM.bcell 3 rfl rfl | exact hM.bcell 4 rfl rfl | exact hM.bcell 5 rfl rfl | exact hM.bcell 6 rfl rfl | exact hM.bcell 7 rfl rfl)) rfl ?_
          refine H.takeV 5 rfl rfl (by kernel_rfl) (by kernel_rfl) (by kernel_rfl) hS (Y.idx1 (k := _) rfl rfl (by first | exact hS.sl 0 rfl | exact hS.sl 1 rfl | exact hS.sl 2 rfl | exact hS.sl 3 rfl | exact hS.sl 4 rfl | exact hS.sl 5 rfl | exact hS.sl 6 rfl | exact hS.sl 7 rfl | exact hS.arg0 (by assumption) | exact hS.arg (by assumption) (by assumption) | assumption) rfl (by first | omega | (simp only [List.length_replicate, List.length_append, List.length_set, List.length_cons, List.length_nil, List.length_map, List.length_range, List.length_take, List.length_drop, List.length_zipWith] at *; omega)) Try.underlying22 (by kernel_rfl)) (fun w' hM => Y.idx1 (k := _) rfl rfl (by first | exact hM.sl 0 rfl | exact hM.sl 1 rfl | exact hM.sl 2 rfl | exact hM.sl 3 rfl | exact hM.sl 4 rfl | exact hM.sl 5 rfl | exact hM.sl 6 rfl | exact hM.sl 7 rfl | exact hM.arg0 (by assumption) | exact hM.arg (by assumption) (by assumption) | assumption) rfl (by first | omega | (simp only [List.length_replicate, List.length_append, List.length_set, List.length_cons, List.length_nil, List.length_map, List.length_range, List.length_take, List.length_drop, List.length_zipWith] at *; omega)) Try.underlying22 (by kernel_rfl)) rfl ?_
          refine H.takeV 6 rfl rfl (by kernel_rfl) (by kernel_rfl) (by kernel_rfl) hS (Y.load rfl Try.underlying4 rfl (by first | exact (hS.sl 0 rfl).cellA rfl (by first | omega | (simp only [List.length_replicate, List.length_append, List.length_set, List.length_cons, List.length_nil, List.length_map, List.length_range, List.length_take, List.length_drop, List.length_zipWith] at *; omega)) | exact (hS.sl 1 rfl).cellA rfl (by first | omega | (simp only [List.length_replicate, List.length_append, List.length_set, List.length_cons, List.length_nil, List.length_map, List.length_range, List.length_take, List.length_drop, List.length_zipWith] at *; omega)) | exact (hS.sl 2 rfl).cellA rfl (by first | omega | (simp only [List.length_replicate, List.length_append, List.length_set, List.length_cons, List.length_nil, List.length_map, List.length_range, List.length_take, List.length_drop, List.length_zipWith] at *; omega)) | exact (hS.sl 3 rfl).cellA rfl (by first | omega | (simp only [List.length_replicate, List.length_append, List.length_set, List.length_cons, List.length_nil, List.length_map, List.length_range, List.length_take, List.length_drop, List.length_zipWith] at *; omega)) | exact (hS.sl 4 rfl).cellA rfl (by first | omega | (simp only [List.length_replicate, List.length_append, List.length_set, List.length_cons, List.length_nil, List.length_map, List.length_range, List.length_take, List.length_drop, List.length_zipWith] at *; omega)) | exact (hS.sl 5 rfl).cellA rfl (by first | omega | (simp only [List.length_replicate, List.length_append, List.length_set, List.length_cons, List.length_nil, List.length_map, List.length_range, List.length_take, List.length_drop, List.length_zipWith] at *; omega)) | exact (hS.sl 6 rfl).cellA rfl (by first | omega | (simp only [List.length_replicate, List.length_append, List.length_set, List.length_cons, List.length_nil, List.length_map, List.length_range, List.length_take, List.length_drop, List.length_zipWith] at *; omega)) | exact (hS.sl 7 rfl).cellA rfl (by first | omega | (simp only [List.length_replicate, List.length_append, List.length_set, List.length_cons, List.length_nil, List.length_map, List.length_range, List.length_take, List.length_drop, List.length_zipWith] at *; omega)) | exact (hS.arg0 (by assumption)).cellA rfl (by first | omega | (simp only [List.length_replicate, List.length_append, List.length_set, List.length_cons, List.length_nil, List.length_map, List.length_range, List.length_take, List.length_drop, List.length_zipWith] at *; omega)) | exact (hS.arg (by assumption) (by assumption)).cellA rfl (by first | omega | (simp only [List.length_replicate, List.length_append, List.length_set, List.length_cons, List.length_nil, List.length_map, List.length_range, List.length_take, List.length_drop, List.length_zipWith] at *; omega)))) (fun w' hM => Y.load rfl Try.underlying4 rfl (by first | exact (hM.sl 0 rfl).cellA rfl (by first | omega | (simp only [List.length_replicate, List.length_append, List.length_set, List.length_cons, List.length_nil, List.length_map, List.length_range, List.length_take, List.length_drop, List.length_zipWith] at *; omega)) | exact (hM.sl 1 rfl).cellA rfl (by first | omega | (simp only [List.length_replicate, List.length_append, List.length_set, List.length_cons, List.length_nil, List.length_map, List.length_range, List.length_take, List.length_drop, List.length_zipWith] at *; omega)) | exact (hM.sl 2 rfl).cellA rfl (by first | omega | (simp only [List.length_replicate, List.length_append, List.length_set, List.length_cons, List.length_nil, List.length_map, List.length_range, List.length_take, List.length_drop, List.length_zipWith] at *; omega)) | exact (hM.sl 3 rfl).cellA rfl (by first | omega | (simp only [List.length_replicate, List.length_append, List.length_set, List.length_cons, List.length_nil, List.length_map, List.length_range, List.length_take, List.length_drop, List.length_zipWith] at *; omega)) | exact (hM.sl 4 rfl).cellA rfl (by first | omega | (simp only [List.length_replicate, List.length_append, List.length_set, List.length_cons, List.length_nil, List.length_map, List.length_range, List.length_take, List.length_drop, List.length_zipWith] at *; omega)) | exact (hM.sl 5 rfl).cellA rfl (by first | omega | (simp only [List.length_replicate, List.length_append, List.length_set, List.length_cons, List.length_nil, List.length_map, List.length_range, List.length_take, List.length_drop, List.length_zipWith] at *; omega)) | exact (hM.sl 6 rfl).cellA rfl (by first | omega | (simp only [List.length_replicate, List.length_append, List.length_set, List.length_cons, List.length_nil, List.length_map, List.length_range, List.length_take, List.length_drop, List.length_zipWith] at *; omega)) | exact (hM.sl 7 rfl).cellA rfl (by first | omega | (simp only [List.length_replicate, List.length_append, List.length_set, List.length_cons, List.length_nil, List.length_map, List.length_range, List.length_take, List.length_drop, List.length_zipWith] at *; omega)) | exact (hM.arg0 (by assumption)).cellA rfl (by first | omega | (simp only [List.length_replicate, List.length_append, List.length_set, List.length_cons, List.length_nil, List.length_map, List.length_range, List.length_take, List.length_drop, List.length_zipWith] at *; omega)) | exact (hM.arg (by assumption) (by assumption)).cellA rfl (by first | omega | (simp only [List.length_replicate, List.length_append, List.length_set, List.length_cons, List.length_nil, List.length_map, List.length_range, List.length_take, List.length_drop, List.length_zipWith] at *; omega)))) rfl ?_
          refine H.take 7 rfl rfl (by kernel_rfl) (by kernel_rfl) (by kernel_rfl) hS (fun w' hM => Y.mv rfl) rfl ?_
          refine H.split 47 rfl (fun g47 => ?_) (fun g47 => ?_)
          ·
            try simp only [decide_eq_true_eq, decide_eq_false_iff_not, ne_eq, Decidable.not_not] at g47
            have hd : dk[i]? = some true := by rw [List.getElem?_eq_getElem hi', g47]
            obtain ⟨q, hq, hql⟩ := hL.at hi' hd
            have hli : lab[i] = (q : Int) := by rw [List.getElem?_eq_getElem (by omega)] at hq; exact Option.some.inj hq
            have hdf := despf_on (area := area) hd hq hql
            refine H.take 8 rfl rfl (by kernel_rfl) (by kernel_rfl) (by kernel_rfl) hS (fun w' hM => Y.on rfl rfl (Y.mv rfl)) rfl ?_
            refine H.take 9 rfl rfl (by kernel_rfl) (by kernel_rfl) (by kernel_rfl) hS (fun w' hM => Y.on rfl rfl (Y.mv rfl)) rfl ?_
            refine H.take 10 rfl rfl (by kernel_rfl) (by kernel_rfl) (by kernel_rfl) hS (fun w' hM => Y.on rfl rfl (Y.mv rfl)) rfl ?_
            refine H.takeV 11 rfl rfl (by kernel_rfl) (by kernel_rfl) (by kernel_rfl) hS (Y.on rfl rfl (Y.idx1 (k := _) rfl rfl (by first | exact hS.sl 0 rfl | exact hS.sl 1 rfl | exact hS.sl 2 rfl | exact hS.sl 3 rfl | exact hS.sl 4 rfl | exact hS.sl 5 rfl | exact hS.sl 6 rfl | exact hS.sl 7 rfl | exact hS.arg0 (by assumption) | exact hS.arg (by assumption) (by assumption) | assumption) rfl (by first | omega | (simp only [List.length_replicate, List.length_append, List.length_set, List.length_cons, List.length_nil, List.length_map, List.length_range, List.length_take, List.length_drop, List.length_zipWith] at *; omega)) Try.underlying27 (by kernel_rfl))) (fun w' hM => Y.on rfl rfl (Y.idx1 (k := _) rfl rfl (by first | exact hM.sl 0 rfl | exact hM.sl 1 rfl | exact hM.sl 2 rfl | exact hM.sl 3 rfl | exact hM.sl 4 rfl | exact hM.sl 5 rfl | exact hM.sl 6 rfl | exact hM.sl 7 rfl | exact hM.arg0 (by assumption) | exact hM.arg (by assumption) (by assumption) | assumption) rfl (by first | omega | (simp only [List.length_replicate, List.length_append, List.length_set, List.length_cons, List.length_nil, List.length_map, List.length_range, List.length_take, List.length_drop, List.length_zipWith] at *; omega)) Try.underlying27 (by kernel_rfl))) rfl ?_
            refine H.take 16 rfl rfl (by kernel_rfl) (by kernel_rfl) (by kernel_rfl) hS (fun w' hM => Y.on rfl rfl (Y.mv rfl)) rfl ?_
            refine H.takeV 12 rfl rfl (by kernel_rfl) (by kernel_rfl) (by kernel_rfl) hS (Y.on rfl rfl (Y.load rfl Try.underlying3 rfl (by first | exact (hS.sl 0 rfl).cellA rfl (by first | omega | (simp only [List.length_replicate, List.length_append, List.length_set, List.length_cons, List.length_nil, List.length_map, List.length_range, List.length_take, List.length_drop, List.length_zipWith] at *; omega)) | exact (hS.sl 1 rfl).cellA rfl (by first | omega | (simp only [List.length_replicate, List.length_append, List.length_set, List.length_cons, List.length_nil, List.length_map, List.length_range, List.length_take, List.length_drop, List.length_zipWith] at *; omega)) | exact (hS.sl 2 rfl).cellA rfl (by first | omega | (simp only [List.length_replicate, List.length_append, List.length_set, List.length_cons, List.length_nil, List.length_map, List.length_range, List.length_take, List.length_drop, List.length_zipWith] at *; omega)) | exact (hS.sl 3 rfl).cellA rfl (by first | omega | (simp only [List.length_replicate, List.length_append, List.length_set, List.length_cons, List.length_nil, List.length_map, List.length_range, List.length_take, List.length_drop, List.length_zipWith] at *; omega)) | exact (hS.sl 4 rfl).cellA rfl (by first | omega | (simp only [List.length_replicate, List.length_append, List.length_set, List.length_cons, List.length_nil, List.length_map, List.length_range, List.length_take, List.length_drop, List.length_zipWith] at *; omega)) | exact (hS.sl 5 rfl).cellA rfl (by first | omega | (simp only [List.length_replicate, List.length_append, List.length_set, List.length_cons, List.length_nil, List.length_map, List.length_range, List.length_take, List.length_drop, List.length_zipWith] at *; omega)) | exact (hS.sl 6 rfl).cellA rfl (by first | omega | (simp only [List.length_replicate, List.length_append, List.length_set, List.length_cons, List.length_nil, List.length_map, List.length_range, List.length_take, List.length_drop, List.length_zipWith] at *; omega)) | exact (hS.sl 7 rfl).cellA rfl (by first | omega | (simp only [List.length_replicate, List.length_append, List.length_set, List.length_cons, List.length_nil, List.length_map, List.length_range, List.length_take, List.length_drop, List.length_zipWith] at *; omega)) | exact (hS.arg0 (by assumption)).cellA rfl (by first | omega | (simp only [List.length_replicate, List.length_append, List.length_set, List.length_cons, List.length_nil, List.length_map, List.length_range, List.length_take, List.length_drop, List.length_zipWith] at *; omega)) | exact (hS.arg (by assumption) (by assumption)).cellA rfl (by first | omega | (simp only [List.length_replicate, List.length_append, List.length_set, List.length_cons, List.length_nil, List.length_map, List.length_range, List.length_take, List.length_drop, List.length_zipWith] at *; omega))))) (fun w' hM => Y.on rfl rfl (Y.load rfl Try.underlying3 rfl (by first | exact (hM.sl 0 rfl).cellA rfl (by first | omega | (simp only [List.length_replicate, List.length_append, List.length_set, List.length_cons, List.length_nil, List.length_map, List.length_range, List.length_take, List.length_drop, List.length_zipWith] at *; omega)) | exact (hM.sl 1 rfl).cellA rfl (by first | omega | (simp only [List.length_replicate, List.length_append, List.length_set, List.length_cons, List.length_nil, List.length_map, List.length_range, List.length_take, List.length_drop, List.length_zipWith] at *; omega)) | exact (hM.sl 2 rfl).cellA rfl (by first | omega | (simp only [List.length_replicate, List.length_append, List.length_set, List.length_cons, List.length_nil, List.length_map, List.length_range, List.length_take, List.length_drop, List.length_zipWith] at *; omega)) | exact (hM.sl 3 rfl).cellA rfl (by first | omega | (simp only [List.length_replicate, List.length_append, List.length_set, List.length_cons, List.length_nil, List.length_map, List.length_range, List.length_take, List.length_drop, List.length_zipWith] at *; omega)) | exact (hM.sl 4 rfl).cellA rfl (by first | omega | (simp only [List.length_replicate, List.length_append, List.length_set, List.length_cons, List.length_nil, List.length_map, List.length_range, List.length_take, List.length_drop, List.length_zipWith] at *; omega)) | exact (hM.sl 5 rfl).cellA rfl (by first | omega | (simp only [List.length_replicate, List.length_append, List.length_set, List.length_cons, List.length_nil, List.length_map, List.length_range, List.length_take, List.length_drop, List.length_zipWith] at *; omega)) | exact (hM.sl 6 rfl).cellA rfl (by first | omega | (simp only [List.length_replicate, List.length_append, List.length_set, List.length_cons, List.length_nil, List.length_map, List.length_range, List.length_take, List.length_drop, List.length_zipWith] at *; omega)) | exact (hM.sl 7 rfl).cellA rfl (by first | omega | (simp only [List.length_replicate, List.length_append, List.length_set, List.length_cons, List.length_nil, List.length_map, List.length_range, List.length_take, List.length_drop, List.length_zipWith] at *; omega)) | exact (hM.arg0 (by assumption)).cellA rfl (by first | omega | (simp only [List.length_replicate, List.length_append, List.length_set, List.length_cons, List.length_nil, List.length_map, List.length_range, List.length_take, List.length_drop, List.length_zipWith] at *; omega)) | exact (hM.arg (by assumption) (by assumption)).cellA rfl (by first | omega | (simp only [List.length_replicate, List.length_append, List.length_set, List.length_cons, List.length_nil, List.length_map, List.length_range, List.length_take, List.length_drop, List.length_zipWith] at *; omega))))) rfl ?_
            rw [hli]
            refine H.takeV 13 rfl rfl (by kernel_rfl) (by kernel_rfl) (by kernel_rfl) hS (Y.on rfl rfl (Y.idxF (k := _) rfl rfl (by first | exact hS.slF 0 rfl | exact hS.slF 1 rfl | exact hS.slF 2 rfl | exact hS.slF 3 rfl | exact hS.slF 4 rfl | exact hS.slF 5 rfl | exact hS.slF 6 rfl | exact hS.slF 7 rfl | exact hS.argF0 (by assumption) | exact hS.argF (by assumption) (by assumption) | assumption) rfl (by first | omega | (simp only [List.length_replicate, List.length_append, List.length_set, List.length_cons, List.length_nil, List.length_map, List.length_range, List.length_take, List.length_drop, List.length_zipWith] at *; omega)) (by decide) Try.underlying28 (by kernel_rfl))) (fun w' hM => Y.on rfl rfl (Y.idxF (k := _) rfl rfl (by first | exact hM.slF 0 rfl | exact hM.slF 1 rfl | exact hM.slF 2 rfl | exact hM.slF 3 rfl | exact hM.slF 4 rfl | exact hM.slF 5 rfl | exact hM.slF 6 rfl | exact hM.slF 7 rfl | exact hM.argF0 (by assumption) | exact hM.argF (by assumption) (by assumption) | assumption) rfl (by first | omega | (simp only [List.length_replicate, List.length_append, List.length_set, List.length_cons, List.length_nil, List.length_map, List.length_range, List.length_take, List.length_drop, List.length_zipWith] at *; omega)) (by decide) Try.underlying28 (by kernel_rfl))) rfl ?_
            refine H.takeV 14 rfl rfl (by kernel_rfl) (by kernel_rfl) (by kernel_rfl) hS (Y.on rfl rfl (Y.fld (o := 4) (sz := 0) rfl Try.underlying38 rfl rfl (by kernel_rfl))) (fun w' hM => Y.on rfl rfl (Y.fld (o := 4) (sz := 0) rfl Try.underlying38 rfl rfl (by kernel_rfl))) rfl ?_
            refine H.takeV 15 rfl rfl (by kernel_rfl) (by kernel_rfl) (by kernel_rfl) hS (Y.on rfl rfl (Y.load rfl Try.underlying3 rfl (by first | exact (hS.slF 0 rfl).atA rfl (by first | omega | (simp only [List.length_replicate, List.length_append, List.length_set, List.length_cons, List.length_nil, List.length_map, List.length_range, List.length_take, List.length_drop, List.length_zipWith] at *; omega)) rfl | exact (hS.slF 1 rfl).atA rfl (by first | omega | (simp only [List.length_replicate, List.length_append, List.length_set, List.length_cons, List.length_nil, List.length_map, List.length_range, List.length_take, List.length_drop, List.length_zipWith] at *; omega)) rfl | exact (hS.slF 2 rfl).atA rfl (by first | omega | (simp only [List.length_replicate, List.length_append, List.length_set, List.length_cons, List.length_nil, List.length_map, List.length_range, List.length_take, List.length_drop, List.length_zipWith] at *; omega)) rfl | exact (hS.slF 3 rfl).atA rfl (by first | omega | (simp only [List.length_replicate, List.length_append, List.length_set, List.length_cons, List.length_nil, List.length_map, List.length_range, List.length_take, List.length_drop, List.length_zipWith] at *; omega)) rfl | exact (hS.slF 4 rfl).atA rfl (by first | omega | (simp only [List.length_replicate, List.length_append, List.length_set, List.length_cons, List.length_nil, List.length_map, List.length_range, List.length_take, List.length_drop, List.length_zipWith] at *; omega)) rfl | exact (hS.slF 5 rfl).atA rfl (by first | omega | (simp only [List.length_replicate, List.length_append, List.length_set, List.length_cons, List.length_nil, List.length_map, List.length_range, List.length_take, List.length_drop, List.length_zipWith] at *; omega)) rfl | exact (hS.slF 6 rfl).atA rfl (by first | omega | (simp only [List.length_replicate, List.length_append, List.length_set, List.length_cons, List.length_nil, List.length_map, List.length_range, List.length_take, List.length_drop, List.length_zipWith] at *; omega)) rfl | exact (hS.slF 7 rfl).atA rfl (by first | omega | (simp only [List.length_replicate, List.length_append, List.length_set, List.length_cons, List.length_nil, List.length_map, List.length_range, List.length_take, List.length_drop, List.length_zipWith] at *; omega)) rfl | exact (hS.argF0 (by assumption)).atA rfl (by first | omega | (simp only [List.length_replicate, List.length_append, List.length_set, List.length_cons, List.length_nil, List.length_map, List.length_range, List.length_take, List.length_drop, List.length_zipWith] at *; omega)) rfl | exact (hS.argF (by assumption) (by assumption)).atA rfl (by first | omega | (simp only [List.length_replicate, List.length_append, List.length_set, List.length_cons, List.length_nil, List.length_map, List.length_range, List.length_take, List.length_drop, List.length_zipWith] at *; omega)) rfl))) (fun w' hM => Y.on rfl rfl (Y.load rfl Try.underlying3 rfl (by first | exact (hM.slF 0 rfl).atA rfl (by first | omega | (simp only [List.length_replicate, List.length_append, List.length_set, List.length_cons, List.length_nil, List.length_map, List.length_range, List.length_take, List.length_drop, List.length_zipWith] at *; omega)) rfl | exact (hM.slF 1 rfl).atA rfl (by first | omega | (simp only [List.length_replicate, List.length_append, List.length_set, List.length_cons, List.length_nil, List.length_map, List.length_range, List.length_take, List.length_drop, List.length_zipWith] at *; omega)) rfl | exact (hM.slF 2 rfl).atA rfl (by first | omega | (simp only [List.length_replicate, List.length_append, List.length_set, List.length_cons, List.length_nil, List.length_map, List.length_range, List.length_take, List.length_drop, List.length_zipWith] at *; omega)) rfl | exact (hM.slF 3 rfl).atA rfl (by first | omega | (simp only [List.length_replicate, List.length_append, List.length_set, List.length_cons, List.length_nil, List.length_map, List.length_range, List.length_take, List.length_drop, List.length_zipWith] at *; omega)) rfl | exact (hM.slF 4 rfl).atA rfl (by first | omega | (simp only [List.length_replicate, List.length_append, List.length_set, List.length_cons, List.length_nil, List.length_map, List.length_range, List.length_take, List.length_drop, List.length_zipWith] at *; omega)) rfl | exact (hM.slF 5 rfl).atA rfl (by first | omega | (simp only [List.length_replicate, List.length_append, List.length_set, List.length_cons, List.length_nil, List.length_map, List.length_range, List.length_take, List.length_drop, List.length_zipWith] at *; omega)) rfl | exact (hM.slF 6 rfl).atA rfl (by first | omega | (simp only [List.length_replicate, List.length_append, List.length_set, List.length_cons, List.length_nil, List.length_map, List.length_range, List.length_take, List.length_drop, List.length_zipWith] at *; omega)) rfl | exact (hM.slF 7 rfl).atA rfl (by first | omega | (simp only [List.length_replicate, List.length_append, List.length_set, List.length_cons, List.length_nil, List.length_map, List.length_range, List.length_take, List.length_drop, List.length_zipWith] at *; omega)) rfl | exact (hM.argF0 (by assumption)).atA rfl (by first | omega | (simp only [List.length_replicate, List.length_append, List.length_set, List.length_cons, List.length_nil, List.length_map, List.length_range, List.length_take, List.length_drop, List.length_zipWith] at *; omega)) rfl | exact (hM.argF (by assumption) (by assumption)).atA rfl (by first | omega | (simp only [List.length_replicate, List.length_append, List.length_set, List.length_cons, List.length_nil, List.length_map, List.length_range, List.length_take, List.length_drop, List.length_zipWith] at *; omega)) rfl))) rfl ?_
            refine H.take 17 rfl rfl (by kernel_rfl) (by kernel_rfl) (by kernel_rfl) hS (fun w' hM => Y.on rfl rfl (Y.bin rfl rfl rfl)) rfl ?_
            refine H.take 18 rfl rfl (by kernel_rfl) (by kernel_rfl) (by kernel_rfl) hS (fun w' hM => Y.pick rfl rfl) rfl ?_
            refine H.two 1 19 rfl rfl (by kernel_rfl) ?_ ?_
            ·
              refine E.load rfl Try.underlying22 rfl (by first | exact hM.bcell 0 rfl rfl | exact hM.bcell 1 rfl rfl | exact hM.bcell 2 rfl rfl | exact hM.bcell 3 rfl rfl | exact hM.bcell 4 rfl rfl | exact hM.bcell 5 rfl rfl | exact hM.bcell 6 rfl rfl | exact hM.bcell 7 rfl rfl) rfl ?_
              have hS := hM.pick [0, 1, 2, 3] (by decide)
              refine H.back hS ?_
              refine H.only 19 rfl (by kernel_rfl) ?_
              refine E.mk1M (enc := Value.bool) _ hM rfl Try.underlying22 elem_Tbool rfl rfl ?_
              intro v59 w11 hM
              try dsimp only [List.nil_append, List.cons_append, List.set_cons_zero, List.set_cons_succ, repl] at hM
              have hS := hM.pick [0, 1, 2, 3] (by decide)
              refine H.back hS ?_
              refine H.only 20 rfl (by kernel_rfl) ?_
              first
                | refine E.appendM 0 hM rfl rfl rfl Try.underlying22 elem_Tbool (by first | exact hM.sl 0 rfl | exact hM.sl 1 rfl | exact hM.sl 2 rfl | exact hM.sl 3 rfl | exact hM.sl 4 rfl | exact hM.sl 5 rfl | exact hM.sl 6 rfl | exact hM.sl 7 rfl | exact hM.arg0 (by assumption) | exact hM.arg (by assumption) (by assumption) | assumption) ?_ ?_ ?_ rfl ?_
                | refine E.appendM 1 hM rfl rfl rfl Try.underlying22 elem_Tbool (by first | exact hM.sl 0 rfl | exact hM.sl 1 rfl | exact hM.sl 2 rfl | exact hM.sl 3 rfl | exact hM.sl 4 rfl | exact hM.sl 5 rfl | exact hM.sl 6 rfl | exact hM.sl 7 rfl | exact hM.arg0 (by assumption) | exact hM.arg (by assumption) (by assumption) | assumption) ?_ ?_ ?_ rfl ?_
                | refine E.appendM 2 hM rfl rfl rfl Try.underlying22 elem_Tbool (by first | exact hM.sl 0 rfl | exact hM.sl 1 rfl | exact hM.sl 2 rfl | exact hM.sl 3 rfl | exact hM.sl 4 rfl | exact hM.sl 5 rfl | exact hM.sl 6 rfl | exact hM.sl 7 rfl | exact hM.arg0 (by assumption) | exact hM.arg (by assumption) (by assumption) | assumption) ?_ ?_ ?_ rfl ?_
                | refine E.appendM 3 hM rfl rfl rfl Try.underlying22 elem_Tbool (by first | exact hM.sl 0 rfl | exact hM.sl 1 rfl | exact hM.sl 2 rfl | exact hM.sl 3 rfl | exact hM.sl 4 rfl | exact hM.sl 5 rfl | exact hM.sl 6 rfl | exact hM.sl 7 rfl | exact hM.arg0 (by assumption) | exact hM.arg (by assumption) (by assumption) | assumption) ?_ ?_ ?_ rfl ?_
                | refine E.appendM 4 hM rfl rfl rfl Try.underlying22 elem_Tbool (by first | exact hM.sl 0 rfl | exact hM.sl 1 rfl | exact hM.sl 2 rfl | exact hM.sl 3 rfl | exact hM.sl 4 rfl | exact hM.sl 5 rfl | exact hM.sl 6 rfl | exact hM.sl 7 rfl | exact hM.arg0 (by assumption) | exact hM.arg (by assumption) (by assumption) | assumption) ?_ ?_ ?_ rfl ?_
                | refine E.appendM 5 hM rfl rfl rfl Try.underlying22 elem_Tbool (by first | exact hM.sl 0 rfl | exact hM.sl 1 rfl | exact hM.sl 2 rfl | exact hM.sl 3 rfl | exact hM.sl 4 rfl | exact hM.sl 5 rfl | exact hM.sl 6 rfl | exact hM.sl 7 rfl | exact hM.arg0 (by assumption) | exact hM.arg (by assumption) (by assumption) | assumption) ?_ ?_ ?_ rfl ?_
                | refine E.appendM 6 hM rfl rfl rfl Try.underlying22 elem_Tbool (by first | exact hM.sl 0 rfl | exact hM.sl 1 rfl | exact hM.sl 2 rfl | exact hM.sl 3 rfl | exact hM.sl 4 rfl | exact hM.sl 5 rfl | exact hM.sl 6 rfl | exact hM.sl 7 rfl | exact hM.arg0 (by assumption) | exact hM.arg (by assumption) (by assumption) | assumption) ?_ ?_ ?_ rfl ?_
                | refine E.appendM 7 hM rfl rfl rfl Try.underlying22 elem_Tbool (by first | exact hM.sl 0 rfl | exact hM.sl 1 rfl | exact hM.sl 2 rfl | exact hM.sl 3 rfl | exact hM.sl 4 rfl | exact hM.sl 5 rfl | exact hM.sl 6 rfl | exact hM.sl 7 rfl | exact hM.arg0 (by assumption) | exact hM.arg (by assumption) (by assumption) | assumption) ?_ ?_ ?_ rfl ?_
              · exact fun _ => rfl
              · exact (by first | omega | (simp only [List.length_replicate, List.length_append, List.length_set, List.length_cons, List.length_nil, List.length_map, List.length_range, List.length_take, List.length_drop, List.length_zipWith] at *; omega))
              · exact (by first | omega | (simp only [List.length_replicate, List.length_append, List.length_set, List.length_cons, List.length_nil, List.length_map, List.length_range, List.length_take, List.length_drop, List.length_zipWith] at *; omega))
              intro v60 w12 hM
              try dsimp only [List.nil_append, List.cons_append, List.set_cons_zero, List.set_cons_succ, repl] at hM
              have hS := hM.pick [0, 1, 2, 3] (by decide)
              refine H.back hS ?_
              refine H.takeV 21 rfl rfl (by kernel_rfl) (by kernel_rfl) (by kernel_rfl) hS (Y.fld (o := 2) (sz := 0) rfl Try.underlying24 rfl rfl (by kernel_rfl)) (fun w' hM => Y.fld (o := 2) (sz := 0) rfl Try.underlying24 rfl rfl (by kernel_rfl)) rfl ?_
              refine H.only 22 rfl (by kernel_rfl) ?_
              first
                | refine E.storeM 0 hM rfl rfl rfl (by kernel_rfl) ?_ rfl ?_
                | refine E.storeM 1 hM rfl rfl rfl (by kernel_rfl) ?_ rfl ?_
                | refine E.storeM 2 hM rfl rfl rfl (by kernel_rfl) ?_ rfl ?_
                | refine E.storeM 3 hM rfl rfl rfl (by kernel_rfl) ?_ rfl ?_
                | refine E.storeM 4 hM rfl rfl rfl (by kernel_rfl) ?_ rfl ?_
                | refine E.storeM 5 hM rfl rfl rfl (by kernel_rfl) ?_ rfl ?_
                | refine E.storeM 6 hM rfl rfl rfl (by kernel_rfl) ?_ rfl ?_
                | refine E.storeM 7 hM rfl rfl rfl (by kernel_rfl) ?_ rfl ?_
              · exact (by first | rfl | exact (hM.sl 0 rfl).one | exact (hM.sl 1 rfl).one | exact (hM.sl 2 rfl).one | exact (hM.sl 3 rfl).one | exact (hM.sl 4 rfl).one | exact (hM.sl 5 rfl).one | exact (hM.sl 6 rfl).one | exact (hM.sl 7 rfl).one | exact (hM.slF 0 rfl).one | exact (hM.slF 1 rfl).one | exact (hM.slF 2 rfl).one | exact (hM.slF 3 rfl).one | exact (hM.slF 4 rfl).one | exact (hM.slF 5 rfl).one | exact (hM.slF 6 rfl).one | exact (hM.slF 7 rfl).one | exact RdL.one (by assumption) | exact RdF.one (by assumption) | assumption)
              intro w13 hM
              try dsimp only [List.nil_append, List.cons_append, List.set_cons_zero, List.set_cons_succ, repl] at hM
              have hS := hM.pick [0, 1, 2, 3] (by decide)
              refine H.back hS ?_
              refine H.done (by kernel_rfl) ?_
              refine X.outN <| X.next <| C.region <| E.mv rfl rfl <| ?_
              refine E.add rfl rfl (by omega) rfl ?_

              refine E.asg rfl rfl <| E.nil <| X.again2 _ (i + 1) (Sub.cons rfl <| Sub.nil _) rfl ⟨by rw [tab_succ, hdf]; exact hM.pick [0, 1, 2, 3, 4, 5] (by decide), by omega⟩ (by omega)
            ·
              refine E.mk1M (enc := Value.bool) _ hM rfl Try.underlying22 elem_Tbool rfl rfl ?_
              intro v59 w14 hM
              try dsimp only [List.nil_append, List.cons_append, List.set_cons_zero, List.set_cons_succ, repl] at hM
              have hS := hM.pick [0, 1, 2, 3] (by decide)
              refine H.back hS ?_
              refine H.only 1 rfl (by kernel_rfl) ?_
              refine E.load rfl Try.underlying22 rfl (by first | exact hM.bcell 0 rfl rfl | exact hM.bcell 1 rfl rfl | exact hM.bcell 2 rfl rfl | exact hM.bcell 3 rfl rfl | exact hM.bcell 4 rfl rfl | exact hM.bcell 5 rfl rfl | exact hM.bcell 6 rfl rfl | exact hM.bcell 7 rfl rfl) rfl ?_
              have hS := hM.pick [0, 1, 2, 3] (by decide)
              refine H.back hS ?_
              refine H.only 20 rfl (by kernel_rfl) ?_
              first
                | refine E.appendM 0 hM rfl rfl rfl Try.underlying22 elem_Tbool (by first | exact hM.sl 0 rfl | exact hM.sl 1 rfl | exact hM.sl 2 rfl | exact hM.sl 3 rfl | exact hM.sl 4 rfl | exact hM.sl 5 rfl | exact hM.sl 6 rfl | exact hM.sl 7 rfl | exact hM.arg0 (by assumption) | exact hM.arg (by assumption) (by assumption) | assumption) ?_ ?_ ?_ rfl ?_
                | refine E.appendM 1 hM rfl rfl rfl Try.underlying22 elem_Tbool (by first | exact hM.sl 0 rfl | exact hM.sl 1 rfl | exact hM.sl 2 rfl | exact hM.sl 3 rfl | exact hM.sl 4 rfl | exact hM.sl 5 rfl | exact hM.sl 6 rfl | exact hM.sl 7 rfl | exact hM.arg0 (by assumption) | exact hM.arg (by assumption) (by assumption) | assumption) ?_ ?_ ?_ rfl ?_
                | refine E.appendM 2 hM rfl rfl rfl Try.underlying22 elem_Tbool (by first | exact hM.sl 0 rfl | exact hM.sl 1 rfl | exact hM.sl 2 rfl | exact hM.sl 3 rfl | exact hM.sl 4 rfl | exact hM.sl 5 rfl | exact hM.sl 6 rfl | exact hM.sl 7 rfl | exact hM.arg0 (by assumption) | exact hM.arg (by assumption) (by assumption) | assumption) ?_ ?_ ?_ rfl ?_
                | refine E.appendM 3 hM rfl rfl rfl Try.underlying22 elem_Tbool (by first | exact hM.sl 0 rfl | exact hM.sl 1 rfl | exact hM.sl 2 rfl | exact hM.sl 3 rfl | exact hM.sl 4 rfl | exact hM.sl 5 rfl | exact hM.sl 6 rfl | exact hM.sl 7 rfl | exact hM.arg0 (by assumption) | exact hM.arg (by assumption) (by assumption) | assumption) ?_ ?_ ?_ rfl ?_
                | refine E.appendM 4 hM rfl rfl rfl Try.underlying22 elem_Tbool (by first | exact hM.sl 0 rfl | exact hM.sl 1 rfl | exact hM.sl 2 rfl | exact hM.sl 3 rfl | exact hM.sl 4 rfl | exact hM.sl 5 rfl | exact hM.sl 6 rfl | exact hM.sl 7 rfl | exact hM.arg0 (by assumption) | exact hM.arg (by assumption) (by assumption) | assumption) ?_ ?_ ?_ rfl ?_
                | refine E.appendM 5 hM rfl rfl rfl Try.underlying22 elem_Tbool (by first | exact hM.sl 0 rfl | exact hM.sl 1 rfl | exact hM.sl 2 rfl | exact hM.sl 3 rfl | exact hM.sl 4 rfl | exact hM.sl 5 rfl | exact hM.sl 6 rfl | exact hM.sl 7 rfl | exact hM.arg0 (by assumption) | exact hM.arg (by assumption) (by assumption) | assumption) ?_ ?_ ?_ rfl ?_
                | refine E.appendM 6 hM rfl rfl rfl Try.underlying22 elem_Tbool (by first | exact hM.sl 0 rfl | exact hM.sl 1 rfl | exact hM.sl 2 rfl | exact hM.sl 3 rfl | exact hM.sl 4 rfl | exact hM.sl 5 rfl | exact hM.sl 6 rfl | exact hM.sl 7 rfl | exact hM.arg0 (by assumption) | exact hM.arg (by assumption) (by assumption) | assumption) ?_ ?_ ?_ rfl ?_
                | refine E.appendM 7 hM rfl rfl rfl Try.underlying22 elem_Tbool (by first | exact hM.sl 0 rfl | exact hM.sl 1 rfl | exact hM.sl 2 rfl | exact hM.sl 3 rfl | exact hM.sl 4 rfl | exact hM.sl 5 rfl | exact hM.sl 6 rfl | exact hM.sl 7 rfl | exact hM.arg0 (by assumption) | exact hM.arg (by assumption) (by assumption) | assumption) ?_ ?_ ?_ rfl ?_
              · exact fun _ => rfl
              · exact (by first | omega | (simp only [List.length_replicate, List.length_append, List.length_set, List.length_cons, List.length_nil, List.length_map, List.length_range, List.length_take, List.length_drop, List.length_zipWith] at *; omega))
              · exact (by first | omega | (simp only [List.length_replicate, List.length_append, List.length_set, List.length_cons, List.length_nil, List.length_map, List.length_range, List.length_take, List.length_drop, List.length_zipWith] at *; omega))
              intro v60 w15 hM
              try dsimp only [List.nil_append, List.cons_append, List.set_cons_zero, List.set_cons_succ, repl] at hM
              have hS := hM.pick [0, 1, 2, 3] (by decide)
              refine H.back hS ?_
              refine H.takeV 21 rfl rfl (by kernel_rfl) (by kernel_rfl) (by kernel_rfl) hS (Y.fld (o := 2) (sz := 0) rfl Try.underlying24 rfl rfl (by kernel_rfl)) (fun w' hM => Y.fld (o := 2) (sz := 0) rfl Try.underlying24 rfl rfl (by kernel_rfl)) rfl ?_
              refine H.only 22 rfl (by kernel_rfl) ?_
              first
                | refine E.storeM 0 hM rfl rfl rfl (by kernel_rfl) ?_ rfl ?_
                | refine E.storeM 1 hM rfl rfl rfl (by kernel_rfl) ?_ rfl ?_
                | refine E.storeM 2 hM rfl rfl rfl (by kernel_rfl) ?_ rfl ?_
                | refine E.storeM 3 hM rfl rfl rfl (by kernel_rfl) ?_ rfl ?_
                | refine E.storeM 4 hM rfl rfl rfl (by kernel_rfl) ?_ rfl ?_
                | refine E.storeM 5 hM rfl rfl rfl (by kernel_rfl) ?_ rfl ?_
                | refine E.storeM 6 hM rfl rfl rfl (by kernel_rfl) ?_ rfl ?_
                | refine E.storeM 7 hM rfl rfl rfl (by kernel_rfl) ?_ rfl ?_
              · exact (by first | rfl | exact (hM.sl 0 rfl).one | exact (hM.sl 1 rfl).one | exact (hM.sl 2 rfl).one | exact (hM.sl 3 rfl).one | exact (hM.sl 4 rfl).one | exact (hM.sl 5 rfl).one | exact (hM.sl 6 rfl).one | exact (hM.sl 7 rfl).one | exact (hM.slF 0 rfl).one | exact (hM.slF 1 rfl).one | exact (hM.slF 2 rfl).one | exact (hM.slF 3 rfl).one | exact (hM.slF 4 rfl).one | exact (hM.slF 5 rfl).one | exact (hM.slF 6 rfl).one | exact (hM.slF 7 rfl).one | exact RdL.one (by assumption) | exact RdF.one (by assumption) | assumption)
              intro w16 hM
              try dsimp only [List.nil_append, List.cons_append, List.set_cons_zero, List.set_cons_succ, repl] at hM
              have hS := hM.pick [0, 1, 2, 3] (by decide)
              refine H.back hS ?_
              refine H.done (by kernel_rfl) ?_
              refine X.outN <| X.next <| C.region <| E.mv rfl rfl <| ?_
              refine E.add rfl rfl (by omega) rfl ?_

              refine E.asg rfl rfl <| E.nil <| X.again2 _ (i + 1) (Sub.cons rfl <| Sub.nil _) rfl ⟨by rw [tab_succ, hdf]; exact hM.pick [0, 1, 2, 3, 4, 5] (by decide), by omega⟩ (by omega)
          ·
            try simp only [decide_eq_true_eq, decide_eq_false_iff_not, ne_eq, Decidable.not_not] at g47
            have hd : dk[i]? = some false := by rw [List.getElem?_eq_getElem hi', g47]
            have hdf := despf_off (lab := lab) (bl := bl) (area := area) hd
            refine H.take 8 rfl rfl (by kernel_rfl) (by kernel_rfl) (by kernel_rfl) hS (fun w' hM => Y.off rfl rfl rfl) rfl ?_
            refine H.take 9 rfl rfl (by kernel_rfl) (by kernel_rfl) (by kernel_rfl) hS (fun w' hM => Y.off rfl rfl rfl) rfl ?_
            refine H.take 10 rfl rfl (by kernel_rfl) (by kernel_rfl) (by kernel_rfl) hS (fun w' hM => Y.off rfl rfl rfl) rfl ?_
            refine H.take 11 rfl rfl (by kernel_rfl) (by kernel_rfl) (by kernel_rfl) hS (fun w' hM => Y.off rfl rfl rfl) rfl ?_
            refine H.take 16 rfl rfl (by kernel_rfl) (by kernel_rfl) (by kernel_rfl) hS (fun w' hM => Y.off rfl rfl rfl) rfl ?_
            refine H.take 12 rfl rfl (by kernel_rfl) (by kernel_rfl) (by kernel_rfl) hS (fun w' hM => Y.off rfl rfl rfl) rfl ?_
            refine H.take 13 rfl rfl (by kernel_rfl) (by kernel_rfl) (by kernel_rfl) hS (fun w' hM => Y.off rfl rfl rfl) rfl ?_
            refine H.take 14 rfl rfl (by kernel_rfl) (by kernel_rfl) (by kernel_rfl) hS (fun w' hM => Y.off rfl rfl rfl) rfl ?_
            refine H.take 15 rfl rfl (by kernel_rfl) (by kernel_rfl) (by kernel_rfl) hS (fun w' hM => Y.off rfl rfl rfl) rfl ?_
            refine H.take 17 rfl rfl (by kernel_rfl) (by kernel_rfl) (by kernel_rfl) hS (fun w' hM => Y.off rfl rfl rfl) rfl ?_
            refine H.take 18 rfl rfl (by kernel_rfl) (by kernel_rfl) (by kernel_rfl) hS (fun w' hM => Y.pick rfl rfl) rfl ?_
            refine H.two 1 19 rfl rfl (by kernel_rfl) ?_ ?_
            ·
              refine E.load rfl Try.underlying22 rfl (by first | exact hM.bcell 0 rfl rfl | exact hM.bcell 1 rfl rfl | exact hM.bcell 2 rfl rfl | exact hM.bcell 3 rfl rfl | exact hM.bcell 4 rfl rfl | exact hM.bcell 5 rfl rfl | exact hM.bcell 6 rfl rfl | exact hM.bcell 7 rfl rfl) rfl ?_
              have hS := hM.pick [0, 1, 2, 3] (by decide)
              refine H.back hS ?_
              refine H.only 19 rfl (by kernel_rfl) ?_
              refine E.mk1M (enc := Value.bool) _ hM rfl Try.underlying22 elem_Tbool rfl rfl ?_
              intro v59 w17 hM
              try dsimp only [List.nil_append, List.cons_append, List.set_cons_zero, List.set_cons_succ, repl] at hM
              have hS := hM.pick [0, 1, 2, 3] (by decide)
              refine H.back hS ?_
              refine H.only 20 rfl (by kernel_rfl) ?_
              first
                | refine E.appendM 0 hM rfl rfl rfl Try.underlying22 elem_Tbool (by first | exact hM.sl 0 rfl | exact hM.sl 1 rfl | exact hM.sl 2 rfl | exact hM.sl 3 rfl | exact hM.sl 4 rfl | exact hM.sl 5 rfl | exact hM.sl 6 rfl | exact hM.sl 7 rfl | exact hM.arg0 (by assumption) | exact hM.arg (by assumption) (by assumption) | assumption) ?_ ?_ ?_ rfl ?_
                | refine E.appendM 1 hM rfl rfl rfl Try.underlying22 elem_Tbool (by first | exact hM.sl 0 rfl | exact hM.sl 1 rfl | exact hM.sl 2 rfl | exact hM.sl 3 rfl | exact hM.sl 4 rfl | exact hM.sl 5 rfl | exact hM.sl 6 rfl | exact hM.sl 7 rfl | exact hM.arg0 (by assumption) | exact hM.arg (by assumption) (by assumption) | assumption) ?_ ?_ ?_ rfl ?_
                | refine E.appendM 2 hM rfl rfl rfl Try.underlying22 elem_Tbool (by first | exact hM.sl 0 rfl | exact hM.sl 1 rfl | exact hM.sl 2 rfl | exact hM.sl 3 rfl | exact hM.sl 4 rfl | exact hM.sl 5 rfl | exact hM.sl 6 rfl | exact hM.sl 7 rfl | exact hM.arg0 (by assumption) | exact hM.arg (by assumption) (by assumption) | assumption) ?_ ?_ ?_ rfl ?_
                | refine E.appendM 3 hM rfl rfl rfl Try.underlying22 elem_Tbool (by first | exact hM.sl 0 rfl | exact hM.sl 1 rfl | exact hM.sl 2 rfl | exact hM.sl 3 rfl | exact hM.sl 4 rfl | exact hM.sl 5 rfl | exact hM.sl 6 rfl | exact hM.sl 7 rfl | exact hM.arg0 (by assumption) | exact hM.arg (by assumption) (by assumption) | assumption) ?_ ?_ ?_ rfl ?_
                | refine E.appendM 4 hM rfl rfl rfl Try.underlying22 elem_Tbool (by first | exact hM.sl 0 rfl | exact hM.sl 1 rfl | exact hM.sl 2 rfl | exact hM.sl 3 rfl | exact hM.sl 4 rfl | exact hM.sl 5 rfl | exact hM.sl 6 rfl | exact hM.sl 7 rfl | exact hM.arg0 (by assumption) | exact hM.arg (by assumption) (by assumption) | assumption) ?_ ?_ ?_ rfl ?_
                | refine E.appendM 5 hM rfl rfl rfl Try.underlying22 elem_Tbool (by first | exact hM.sl 0 rfl | exact hM.sl 1 rfl | exact hM.sl 2 rfl | exact hM.sl 3 rfl | exact hM.sl 4 rfl | exact hM.sl 5 rfl | exact hM.sl 6 rfl | exact hM.sl 7 rfl | exact hM.arg0 (by assumption) | exact hM.arg (by assumption) (by assumption) | assumption) ?_ ?_ ?_ rfl ?_
                | refine E.appendM 6 hM rfl rfl rfl Try.underlying22 elem_Tbool (by first | exact hM.sl 0 rfl | exact hM.sl 1 rfl | exact hM.sl 2 rfl | exact hM.sl 3 rfl | exact hM.sl 4 rfl | exact hM.sl 5 rfl | exact hM.sl 6 rfl | exact hM.sl 7 rfl | exact hM.arg0 (by assumption) | exact hM.arg (by assumption) (by assumption) | assumption) ?_ ?_ ?_ rfl ?_
                | refine E.appendM 7 hM rfl rfl rfl Try.underlying22 elem_Tbool (by first | exact hM.sl 0 rfl | exact hM.sl 1 rfl | exact hM.sl 2 rfl | exact hM.sl 3 rfl | exact hM.sl 4 rfl | exact hM.sl 5 rfl | exact hM.sl 6 rfl | exact hM.sl 7 rfl | exact hM.arg0 (by assumption) | exact hM.arg (by assumption) (by assumption) | assumption) ?_ ?_ ?_ rfl ?_
              · exact fun _ => rfl
              · exact (by first | omega | (simp only [List.length_replicate, List.length_append, List.length_set, List.length_cons, List.length_nil, List.length_map, List.length_range, List.length_take, List.length_drop, List.length_zipWith] at *; omega))
              · exact (by first | omega | (simp only [List.length_replicate, List.length_append, List.length_set, List.length_cons, List.length_nil, List.length_map, List.length_range, List.length_take, List.length_drop, List.length_zipWith] at *; omega))
              intro v60 w18 hM
              try dsimp only [List.nil_append, List.cons_append, List.set_cons_zero, List.set_cons_succ, repl] at hM
              have hS := hM.pick [0, 1, 2, 3] (by decide)
              refine H.back hS ?_
              refine H.takeV 21 rfl rfl (by kernel_rfl) (by kernel_rfl) (by kernel_rfl) hS (Y.fld (o := 2) (sz := 0) rfl Try.underlying24 rfl rfl (by kernel_rfl)) (fun w' hM => Y.fld (o := 2) (sz := 0) rfl Try.underlying24 rfl rfl (by kernel_rfl)) rfl ?_
              refine H.only 22 rfl (by kernel_rfl) ?_
              first
                | refine E.storeM 0 hM rfl rfl rfl (by kernel_rfl) ?_ rfl ?_
                | refine E.storeM 1 hM rfl rfl rfl (by kernel_rfl) ?_ rfl ?_
                | refine E.storeM 2 hM rfl rfl rfl (by kernel_rfl) ?_ rfl ?_
                | refine E.storeM 3 hM rfl rfl rfl (by kernel_rfl) ?_ rfl ?_
                | refine E.storeM 4 hM rfl rfl rfl (by kernel_rfl) ?_ rfl ?_
                | refine E.storeM 5 hM rfl rfl rfl (by kernel_rfl) ?_ rfl ?_
                | refine E.storeM 6 hM rfl rfl rfl (by kernel_rfl) ?_ rfl ?_
                | refine E.storeM 7 hM rfl rfl rfl (by kernel_rfl) ?_ rfl ?_
              · exact (by first | rfl | exact (hM.sl 0 rfl).one | exact (hM.sl 1 rfl).one | exact (hM.sl 2 rfl).one | exact (hM.sl 3 rfl).one | exact (hM.sl 4 rfl).one | exact (hM.sl 5 rfl).one | exact (hM.sl 6 rfl).one | exact (hM.sl 7 rfl).one | exact (hM.slF 0 rfl).one | exact (hM.slF 1 rfl).one | exact (hM.slF 2 rfl).one | exact (hM.slF 3 rfl).one | exact (hM.slF 4 rfl).one | exact (hM.slF 5 rfl).one | exact (hM.slF 6 rfl).one | exact (hM.slF 7 rfl).one | exact RdL.one (by assumption) | exact RdF.one (by assumption) | assumption)
              intro w19 hM
              try dsimp only [List.nil_append, List.cons_append, List.set_cons_zero, List.set_cons_succ, repl] at hM
              have hS := hM.pick [0, 1, 2, 3] (by decide)
              refine H.back hS ?_
              refine H.done (by kernel_rfl) ?_
              refine X.outN <| X.next <| C.region <| E.mv rfl rfl <| ?_
              refine E.add rfl rfl (by omega) rfl ?_

              refine E.asg rfl rfl <| E.nil <| X.again2 _ (i + 1) (Sub.cons rfl <| Sub.nil _) rfl ⟨by rw [tab_succ, hdf]; exact hM.pick [0, 1, 2, 3, 4, 5] (by decide), by omega⟩ (by omega)
            ·
              refine E.mk1M (enc := Value.bool) _ hM rfl Try.underlying22 elem_Tbool rfl rfl ?_
              intro v59 w20 hM
              try dsimp only [List.nil_append, List.cons_append, List.set_cons_zero, List.set_cons_succ, repl] at hM
              have hS := hM.pick [0, 1, 2, 3] (by decide)
              refine H.back hS ?_
              refine H.only 1 rfl (by kernel_rfl) ?_
              refine E.load rfl Try.underlying22 rfl (by first | exact hM.bcell 0 rfl rfl | exact hM.bcell 1 rfl rfl | exact hM.bcell 2 rfl rfl | exact hM.bcell 3 rfl rfl | exact hM.bcell 4 rfl rfl | exact hM.bcell 5 rfl rfl | exact hM.bcell 6 rfl rfl | exact hM.bcell 7 rfl rfl) rfl ?_
              have hS := hM.pick [0, 1, 2, 3] (by decide)
              refine H.back hS ?_
              refine H.only 20 rfl (by kernel_rfl) ?_
              first
                | refine E.appendM 0 hM rfl rfl rfl Try.underlying22 elem_Tbool (by first | exact hM.sl 0 rfl | exact hM.sl 1 rfl | exact hM.sl 2 rfl | exact hM.sl 3 rfl | exact hM.sl 4 rfl | exact hM.sl 5 rfl | exact hM.sl 6 rfl | exact hM.sl 7 rfl | exact hM.arg0 (by assumption) | exact hM.arg (by assumption) (by assumption) | assumption) ?_ ?_ ?_ rfl ?_
                | refine E.appendM 1 hM rfl rfl rfl Try.underlying22 elem_Tbool (by first | exact hM.sl 0 rfl | exact hM.sl 1 rfl | exact hM.sl 2 rfl | exact hM.sl 3 rfl | exact hM.sl 4 rfl | exact hM.sl 5 rfl | exact hM.sl 6 rfl | exact hM.sl 7 rfl | exact hM.arg0 (by assumption) | exact hM.arg (by assumption) (by assumption) | assumption) ?_ ?_ ?_ rfl ?_
                | refine E.appendM 2 hM rfl rfl rfl Try.underlying22 elem_Tbool (by first | exact hM.sl 0 rfl | exact hM.sl 1 rfl | exact hM.sl 2 rfl | exact hM.sl 3 rfl | exact hM.sl 4 rfl | exact hM.sl 5 rfl | exact hM.sl 6 rfl | exact hM.sl 7 rfl | exact hM.arg0 (by assumption) | exact hM.arg (by assumption) (by assumption) | assumption) ?_ ?_ ?_ rfl ?_
                | refine E.appendM 3 hM rfl rfl rfl Try.underlying22 elem_Tbool (by first | exact hM.sl 0 rfl | exact hM.sl 1 rfl | exact hM.sl 2 rfl | exact hM.sl 3 rfl | exact hM.sl 4 rfl | exact hM.sl 5 rfl | exact hM.sl 6 rfl | exact hM.sl 7 rfl | exact hM.arg0 (by assumption) | exact hM.arg (by assumption) (by assumption) | assumption) ?_ ?_ ?_ rfl ?_
                | refine E.appendM 4 hM rfl rfl rfl Try.underlying22 elem_Tbool (by first | exact hM.sl 0 rfl | exact hM.sl 1 rfl | exact hM.sl 2 rfl | exact hM.sl 3 rfl | exact hM.sl 4 rfl | exact hM.sl 5 rfl | exact hM.sl 6 rfl | exact hM.sl 7 rfl | exact hM.arg0 (by assumption) | exact hM.arg (by assumption) (by assumption) | assumption) ?_ ?_ ?_ rfl ?_
                | refine E.appendM 5 hM rfl rfl rfl Try.underlying22 elem_Tbool (by first | exact hM.sl 0 rfl | exact hM.sl 1 rfl | exact hM.sl 2 rfl | exact hM.sl 3 rfl | exact hM.sl 4 rfl | exact hM.sl 5 rfl | exact hM.sl 6 rfl | exact hM.sl 7 rfl | exact hM.arg0 (by assumption) | exact hM.arg (by assumption) (by assumption) | assumption) ?_ ?_ ?_ rfl ?_
                | refine E.appendM 6 hM rfl rfl rfl Try.underlying22 elem_Tbool (by first | exact hM.sl 0 rfl | exact hM.sl 1 rfl | exact hM.sl 2 rfl | exact hM.sl 3 rfl | exact hM.sl 4 rfl | exact hM.sl 5 rfl | exact hM.sl 6 rfl | exact hM.sl 7 rfl | exact hM.arg0 (by assumption) | exact hM.arg (by assumption) (by assumption) | assumption) ?_ ?_ ?_ rfl ?_
                | refine E.appendM 7 hM rfl rfl rfl Try.underlying22 elem_Tbool (by first | exact hM.sl 0 rfl | exact hM.sl 1 rfl | exact hM.sl 2 rfl | exact hM.sl 3 rfl | exact hM.sl 4 rfl | exact hM.sl 5 rfl | exact hM.sl 6 rfl | exact hM.sl 7 rfl | exact hM.arg0 (by assumption) | exact hM.arg (by assumption) (by assumption) | assumption) ?_ ?_ ?_ rfl ?_
              · exact fun _ => rfl
              · exact (by first | omega | (simp only [List.length_replicate, List.length_append, List.length_set, List.length_cons, List.length_nil, List.length_map, List.length_range, List.length_take, List.length_drop, List.length_zipWith] at *; omega))
              · exact (by first | omega | (simp only [List.length_replicate, List.length_append, List.length_set, List.length_cons, List.length_nil, List.length_map, List.length_range, List.length_take, List.length_drop, List.length_zipWith] at *; omega))
              intro v60 w21 hM
              try dsimp only [List.nil_append, List.cons_append, List.set_cons_zero, List.set_cons_succ, repl] at hM
              have hS := hM.pick [0, 1, 2, 3] (by decide)
              refine H.back hS ?_
              refine H.takeV 21 rfl rfl (by kernel_rfl) (by kernel_rfl) (by kernel_rfl) hS (Y.fld (o := 2) (sz := 0) rfl Try.underlying24 rfl rfl (by kernel_rfl)) (fun w' hM => Y.fld (o := 2) (sz := 0) rfl Try.underlying24 rfl rfl (by kernel_rfl)) rfl ?_
              refine H.only 22 rfl (by kernel_rfl) ?_
              first
                | refine E.storeM 0 hM rfl rfl rfl (by kernel_rfl) ?_ rfl ?_
                | refine E.storeM 1 hM rfl rfl rfl (by kernel_rfl) ?_ rfl ?_
                | refine E.storeM 2 hM rfl rfl rfl (by kernel_rfl) ?_ rfl ?_
                | refine E.storeM 3 hM rfl rfl rfl (by kernel_rfl) ?_ rfl ?_
                | refine E.storeM 4 hM rfl rfl rfl (by kernel_rfl) ?_ rfl ?_
                | refine E.storeM 5 hM rfl rfl rfl (by kernel_rfl) ?_ rfl ?_
                | refine E.storeM 6 hM rfl rfl rfl (by kernel_rfl) ?_ rfl ?_
                | refine E.storeM 7 hM rfl rfl rfl (by kernel_rfl) ?_ rfl ?_
              · exact (by first | rfl | exact (hM.sl 0 rfl).one | exact (hM.sl 1 rfl).one | exact (hM.sl 2 rfl).one | exact (hM.sl 3 rfl).one | exact (hM.sl 4 rfl).one | exact (hM.sl 5 rfl).one | exact (hM.sl 6 rfl).one | exact (hM.sl 7 rfl).one | exact (hM.slF 0 rfl).one | exact (hM.slF 1 rfl).one | exact (hM.slF 2 rfl).one | exact (hM.slF 3 rfl).one | exact (hM.slF 4 rfl).one | exact (hM.slF 5 rfl).one | exact (hM.slF 6 rfl).one | exact (hM.slF 7 rfl).one | exact RdL.one (by assumption) | exact RdF.one (by assumption) | assumption)
              intro w22 hM
              try dsimp only [List.nil_append, List.cons_append, List.set_cons_zero, List.set_cons_succ, repl] at hM
              have hS := hM.pick [0, 1, 2, 3] (by decide)
              refine H.back hS ?_
              refine H.done (by kernel_rfl) ?_
              refine X.outN <| X.next <| C.region <| E.mv rfl rfl <| ?_
              refine E.add rfl rfl (by omega) rfl ?_

              refine E.asg rfl rfl <| E.nil <| X.again2 _ (i + 1) (Sub.cons rfl <| Sub.nil _) rfl ⟨by rw [tab_succ, hdf]; exact hM.pick [0, 1, 2, 3, 4, 5] (by decide), by omega⟩ (by omega)
        ·
          obtain rfl : i = dk.length := by omega
          refine C.exit <| X.exitT <| X.exitT <| X.outE <| X.next <| C.seq <| C.region <| ?_
          refine E.loadA rfl Try.underlying24 rfl (by kernel_rfl) (by first | exact hM.bat 0 rfl | exact hM.bat 1 rfl | exact hM.bat 2 rfl | exact hM.bat 3 rfl | exact hM.bat 4 rfl | exact hM.bat 5 rfl | exact hM.bat 6 rfl | exact hM.bat 7 rfl) rfl ?_
          first
            | refine E.storeAM 0 hM rfl rfl rfl (by kernel_rfl) rfl ?_ ?_
            | refine E.storeAM 1 hM rfl rfl rfl (by kernel_rfl) rfl ?_ ?_
            | refine E.storeAM 2 hM rfl rfl rfl (by kernel_rfl) rfl ?_ ?_
            | refine E.storeAM 3 hM rfl rfl rfl (by kernel_rfl) rfl ?_ ?_
            | refine E.storeAM 4 hM rfl rfl rfl (by kernel_rfl) rfl ?_ ?_
            | refine E.storeAM 5 hM rfl rfl rfl (by kernel_rfl) rfl ?_ ?_
            | refine E.storeAM 6 hM rfl rfl rfl (by kernel_rfl) rfl ?_ ?_
            | refine E.storeAM 7 hM rfl rfl rfl (by kernel_rfl) rfl ?_ ?_
          · exact ones (by first | rfl | exact (hM.sl 0 rfl).one | exact (hM.sl 1 rfl).one | exact (hM.sl 2 rfl).one | exact (hM.sl 3 rfl).one | exact (hM.sl 4 rfl).one | exact (hM.sl 5 rfl).one | exact (hM.sl 6 rfl).one | exact (hM.sl 7 rfl).one | exact (hM.slF 0 rfl).one | exact (hM.slF 1 rfl).one | exact (hM.slF 2 rfl).one | exact (hM.slF 3 rfl).one | exact (hM.slF 4 rfl).one | exact (hM.slF 5 rfl).one | exact (hM.slF 6 rfl).one | exact (hM.slF 7 rfl).one | exact RdL.one (by assumption) | exact RdF.one (by assumption) | assumption) <| ones (by first | rfl | exact (hM.sl 0 rfl).one | exact (hM.sl 1 rfl).one | exact (hM.sl 2 rfl).one | exact (hM.sl 3 rfl).one | exact (hM.sl 4 rfl).one | exact (hM.sl 5 rfl).one | exact (hM.sl 6 rfl).one | exact (hM.sl 7 rfl).one | exact (hM.slF 0 rfl).one | exact (hM.slF 1 rfl).one | exact (hM.slF 2 rfl).one | exact (hM.slF 3 rfl).one | exact (hM.slF 4 rfl).one | exact (hM.slF 5 rfl).one | exact (hM.slF 6 rfl).one | exact (hM.slF 7 rfl).one | exact RdL.one (by assumption) | exact RdF.one (by assumption) | assumption) <| ones (by first | rfl | exact (hM.sl 0 rfl).one | exact (hM.sl 1 rfl).one | exact (hM.sl 2 rfl).one | exact (hM.sl 3 rfl).one | exact (hM.sl 4 rfl).one | exact (hM.sl 5 rfl).one | exact (hM.sl 6 rfl).one | exact (hM.sl 7 rfl).one | exact (hM.slF 0 rfl).one | exact (hM.slF 1 rfl).one | exact (hM.slF 2 rfl).one | exact (hM.slF 3 rfl).one | exact (hM.slF 4 rfl).one | exact (hM.slF 5 rfl).one | exact (hM.slF 6 rfl).one | exact (hM.slF 7 rfl).one | exact RdL.one (by assumption) | exact RdF.one (by assumption) | assumption) <| ones_nil
          intro w23 hM
          try dsimp only [List.nil_append, List.cons_append, List.set_cons_zero, List.set_cons_succ, repl] at hM
          refine E.asg rfl rfl <| E.nil <| X.next <| C.ret <| retAT rfl rfl rfl Try.underlying24 rfl (by first | exact hM.blk 0 rfl | exact hM.blk 1 rfl | exact hM.blk 2 rfl | exact hM.blk 3 rfl | exact hM.blk 4 rfl | exact hM.blk 5 rfl | exact hM.blk 6 rfl | exact hM.blk 7 rfl) (by kernel_rfl) ?_
          exact ⟨_, _, _, _, _, rfl, .inr (.inr (.inr ⟨hok, ha0, hfew, rfl, rfl, rfl, lab, bl, hL, rfl⟩)), hM.pick [5] (by decide)⟩

end Go.Proofs.Ytnnmebpahickhaa
