/- chapter 35: PngInverts. -/
import Derived.Test.YtplbgehpohdmdaaDoorZ0
import Derived.Test.YtplbgehpohdmdaaDoorZ23
import Derived.Test.YtplbgehpohdmdaaDoorZ27
set_option linter.unusedSimpArgs false
set_option linter.unusedVariables false
namespace Go.Proofs.YtplbgehpohdmdaaDoor
open Go.RowKit Sym
open Pg
theorem ap_ok {k : Nat} {row prior : List UInt8} (hk : k < 5) (h : prior = [] ∨ prior.length = row.length) : apE (k : Int) row prior = 0 := by
 rw [apE, if_neg (by omega), if_neg (fun g => h.elim g.1 g.2)]
theorem ap_fil (f : Nat → List UInt8 → List UInt8 → List UInt8) {k : Nat} {row prior : List UInt8} (hk : k < 5) (h : prior = [] ∨ prior.length = row.length) : apO f (k : Int) row prior = f k row prior := by
 rw [apO, if_pos (ap_ok hk h), Int.toNat_natCast]
theorem unf_len (m : Nat) (row prior : List UInt8) : (unf m row prior).length = row.length := by unfold unf; rw [unl_len]
set_option maxHeartbeats 1000000 in
theorem PngInverts_ret (x : Int) (p : Value) (row : List UInt8) (q : Value) (prior : List UInt8) (w : World) (hx : 0 ≤ x ∧ x ≤ 255) (hp : RdL u8 w p row) (hq : RdL u8 w q prior) (hO : Ord w) :
  Ret Tryd.prog 3 #[.int .u8 x, p, q] w fun v w' => v = .bool true ∧ Ext w w' := by
 obtain ⟨xn, rfl⟩ : ∃ n : Nat, x = (n : Int) := ⟨x.toNat, by omega⟩
 obtain ⟨k, hk⟩ : ∃ k, k = xn % 5 := ⟨_, rfl⟩
 have hk5 : k < 5 := by omega
 have hM := M.start w
 refine enter Tryd.func3 rfl (by kernel_rfl) Tryd.ntmps3 rfl ?_
 refine C.seq <| C.region <| E.asg rfl rfl <| E.nil <| X.next <| C.seq <| C.region <| E.mv rfl rfl <| ?_
 refine E.rem rfl rfl (by omega) (remN (a := xn) (b := 5)) rfl ?_
 rw [← hk]
 refine E.conv rfl Tryd.underlying5 Tryd.underlying3 (IntWalk.i64_in _ (by omega)) rfl ?_
 refine E.asg rfl rfl <| E.nil <| X.next <| C.seq <| ?_

 refine C.chainE [(1, _), (2, _), (7, _)] rfl [(33, .bool (decide (300 < row.length ∨ (prior.length ≠ 0 ∧ prior.length ≠ row.length))))] ?_ ?_
 ·
  refine C.region <| E.mv rfl rfl <| ?_
  refine E.lenv rfl (Rd.shape (hM.arg0 hp)) Tryd.underlying22 rfl ?_
  refine E.bin rfl rfl rfl rfl <| E.mv rfl rfl <| ?_
  refine E.split 22 rfl (fun g22 => ?_) (fun g22 => ?_)
  ·
   try simp only [Ya, Yb, Yc, Yd, Ye, Yf] at g22
   refine E.off rfl rfl rfl rfl <| E.off rfl rfl rfl rfl <| E.off rfl rfl rfl rfl <| E.off rfl rfl rfl rfl <| E.offu rfl rfl rfl <| E.offu rfl rfl rfl <| E.offu rfl rfl rfl <| E.offu rfl rfl rfl <| E.offu rfl rfl rfl <| E.off rfl rfl rfl rfl <| E.pick rfl rfl rfl <| E.nil <| X.join0 (Sub.cons (look_eq rfl (congrArg Value.bool (by exact (decide_eq_true (p := 300 < row.length ∨ (prior.length ≠ 0 ∧ prior.length ≠ row.length)) (by omega)).symm))) <| Sub.nil _) rfl rfl
  ·
   try simp only [Ya, Yb, Yc, Yd, Ye, Yf] at g22
   refine E.on rfl rfl (E.mv rfl rfl ?_)
   refine E.on rfl rfl (E.lenv rfl (Rd.shape (hM.arg0 hq)) Tryd.underlying22 rfl ?_)
   refine E.on rfl rfl (E.bin rfl rfl rfl rfl ?_)
   refine E.on rfl rfl (E.mv rfl rfl ?_)
   refine E.split 26 rfl (fun g26 => ?_) (fun g26 => ?_)
   ·
    try simp only [Ya, Yb, Yc, Yd, Ye, Yf] at g26
    refine E.on rfl rfl (E.mv rfl rfl ?_)
    refine E.on rfl rfl (E.lenv rfl (Rd.shape (hM.arg0 hq)) Tryd.underlying22 rfl ?_)
    refine E.on rfl rfl (E.mv rfl rfl ?_)
    refine E.on rfl rfl (E.lenv rfl (Rd.shape (hM.arg0 hp)) Tryd.underlying22 rfl ?_)
    refine E.on rfl rfl (E.bin rfl rfl rfl rfl ?_)
    refine E.on rfl rfl (E.pick rfl rfl rfl ?_)
    refine E.pick rfl rfl rfl <| E.nil <| X.join0 (Sub.cons (look_eq rfl (congrArg Value.bool (by exact decide_eq_decide.2 ⟨fun h => by omega, fun h => by omega⟩))) <| Sub.nil _) rfl rfl
   ·
    try simp only [Ya, Yb, Yc, Yd, Ye, Yf] at g26
    refine E.off rfl rfl rfl rfl <| E.off rfl rfl rfl rfl <| E.off rfl rfl rfl rfl <| E.off rfl rfl rfl rfl <| E.off rfl rfl rfl rfl <| ?_
    refine E.on rfl rfl (E.pick rfl rfl rfl ?_)
    refine E.pick rfl rfl rfl <| E.nil <| X.join0 (Sub.cons (look_eq rfl (congrArg Value.bool (by exact (decide_eq_false (p := 300 < row.length ∨ (prior.length ≠ 0 ∧ prior.length ≠ row.length)) (by omega)).symm))) <| Sub.nil _) rfl rfl
 refine C.cond' rfl (fun hC0 => ?_) (fun hC0 => ?_)
 ·
  refine C.seq <| C.region <| ?_
  refine E.call rfl rfl (example_ret _ (hM.ord0 hO)) ?_
  rintro _ wz ⟨rfl, xz⟩
  have hM := hM.ext xz
  try dsimp only [Za, Zb, Zc, Zd, repl] at hM
  refine E.asg rfl rfl <| E.nil <| X.next <| C.ret <| X.retT <| ret1 rfl rfl ?_
  exact ⟨rfl, hM.toExt⟩
 ·
  have hpr : prior = [] ∨ prior.length = row.length := by
   by_cases h : prior = []
   · exact .inl h
   · exact .inr (Decidable.byContradiction fun h2 => hC0 (.inr ⟨fun e => h (List.length_eq_zero_iff.1 e), h2⟩))
  refine C.skip <| X.next <| C.seq <| C.region <| E.mv rfl rfl <| E.mv rfl rfl <| E.mv rfl rfl <| ?_
  refine E.call rfl rfl (Filter_ret k p q row prior _ (hM.arg0 hp) (hM.arg0 hq) (by omega)) ?_
  rintro _ w1 ⟨vo1, hv1, m1⟩
  rw [ap_ok hk5 hpr] at hv1
  subst hv1
  rw [ap_fil fil hk5 hpr] at m1
  have hM := hM.call m1
  try dsimp only [Za, Zb, Zc, Zd, repl] at hM
  refine E.mv rfl rfl <| E.ext rfl rfl rfl <| E.ext rfl rfl rfl <| E.asg rfl rfl <| E.asg rfl rfl <| E.nil <| X.next <| C.seq <| C.region <| E.mv rfl rfl <| E.mv rfl rfl <| E.mv rfl rfl <| ?_
  refine E.call rfl rfl (Unfilter_ret k vo1 q (fil k row prior) prior _ (hM.sl 0 rfl) (hM.arg0 hq) (by rw [fil_len]; omega)) ?_
  rintro _ w2 ⟨vo2, hv2, m2⟩
  rw [ap_ok hk5 (hpr.imp id fun h => by rw [fil_len]; exact h)] at hv2
  subst hv2
  rw [ap_fil unf hk5 (hpr.imp id fun h => by rw [fil_len]; exact h), unf_fil] at m2
  have hM := hM.call m2
  try dsimp only [Za, Zb, Zc, Zd, repl] at hM
  refine E.mv rfl rfl <| E.ext rfl rfl rfl <| E.ext rfl rfl rfl <| E.asg rfl rfl <| E.asg rfl rfl <| E.nil <| X.next <| C.seq <| C.region <| E.mv rfl rfl <| E.mv rfl rfl <| E.mv rfl rfl <| ?_
  refine E.call rfl rfl (Unfilter_ret k p q row prior _ (hM.arg0 hp) (hM.arg0 hq) (by omega)) ?_
  rintro _ w3 ⟨vo3, hv3, m3⟩
  rw [ap_ok hk5 hpr] at hv3
  subst hv3
  rw [ap_fil unf hk5 hpr] at m3
  have hM := hM.call m3
  try dsimp only [Za, Zb, Zc, Zd, repl] at hM
  refine E.mv rfl rfl <| E.ext rfl rfl rfl <| E.ext rfl rfl rfl <| E.asg rfl rfl <| E.asg rfl rfl <| E.nil <| X.next <| C.seq <| C.region <| E.mv rfl rfl <| E.mv rfl rfl <| E.mv rfl rfl <| ?_
  refine E.call rfl rfl (Filter_ret k vo3 q (unf k row prior) prior _ (hM.sl 2 rfl) (hM.arg0 hq) (by rw [unf_len]; omega)) ?_
  rintro _ w4 ⟨vo4, hv4, m4⟩
  rw [ap_ok hk5 (hpr.imp id fun h => by rw [unf_len]; exact h)] at hv4
  subst hv4
  rw [ap_fil fil hk5 (hpr.imp id fun h => by rw [unf_len]; exact h), fil_unf] at m4
  have hM := hM.call m4
  try dsimp only [Za, Zb, Zc, Zd, repl] at hM
  refine E.mv rfl rfl <| E.ext rfl rfl rfl <| E.ext rfl rfl rfl <| E.asg rfl rfl <| E.asg rfl rfl <| E.nil <| X.next <| ?_

  refine C.cut0 [] rfl [(6, .bool true)] (fun w' => M w (Nn) w' []) ?_ ?_
  ·
   refine C.region <| E.mv rfl rfl <| E.bin rfl rfl rfl rfl <| E.mv rfl rfl <| ?_
   refine E.split 65 rfl (fun g65 => ?_) (fun g65 => ?_)
   ·
    try simp only [Ya, Yb, Yc, Yd, Ye, Yf] at g65
    refine E.on rfl rfl (E.mv rfl rfl ?_)
    refine E.on rfl rfl (E.bin rfl rfl rfl rfl ?_)
    refine E.pick rfl rfl rfl <| E.mv rfl rfl <| ?_
    refine E.split 69 rfl (fun g69 => ?_) (fun g69 => ?_)
    ·
     try simp only [Ya, Yb, Yc, Yd, Ye, Yf] at g69
     refine E.on rfl rfl (E.mv rfl rfl ?_)
     refine E.on rfl rfl (E.bin rfl rfl rfl rfl ?_)
     refine E.pick rfl rfl rfl <| E.mv rfl rfl <| ?_
     refine E.split 73 rfl (fun g73 => ?_) (fun g73 => ?_)
     ·
      try simp only [Ya, Yb, Yc, Yd, Ye, Yf] at g73
      refine E.on rfl rfl (E.mv rfl rfl ?_)
      refine E.on rfl rfl (E.bin rfl rfl rfl rfl ?_)
      refine E.pick rfl rfl rfl <| E.mv rfl rfl <| ?_
      refine E.split 77 rfl (fun g77 => ?_) (fun g77 => ?_)
      ·
       try simp only [Ya, Yb, Yc, Yd, Ye, Yf] at g77
       refine E.on rfl rfl (E.mv rfl rfl ?_)
       refine E.on rfl rfl (E.bstr rfl (hM.sl 1 rfl) Tryd.underlying22 Tryd.underlying5 Tryd.underlying9 rfl ?_)
       refine E.on rfl rfl (E.mv rfl rfl ?_)
       refine E.on rfl rfl (E.bstr rfl (hM.arg0 hp) Tryd.underlying22 Tryd.underlying5 Tryd.underlying9 rfl ?_)
       refine E.on rfl rfl (E.eqstr (l := row) (m := row) rfl rfl rfl ?_)
       refine E.pick rfl rfl rfl <| E.mv rfl rfl <| ?_
       refine E.split 84 rfl (fun g84 => ?_) (fun g84 => ?_)
       ·
        try simp only [Ya, Yb, Yc, Yd, Ye, Yf] at g84
        refine E.on rfl rfl (E.mv rfl rfl ?_)
        refine E.on rfl rfl (E.bstr rfl (hM.sl 3 rfl) Tryd.underlying22 Tryd.underlying5 Tryd.underlying9 rfl ?_)
        refine E.on rfl rfl (E.mv rfl rfl ?_)
        refine E.on rfl rfl (E.bstr rfl (hM.arg0 hp) Tryd.underlying22 Tryd.underlying5 Tryd.underlying9 rfl ?_)
        refine E.on rfl rfl (E.eqstr (l := row) (m := row) rfl rfl rfl ?_)
        refine E.pick rfl rfl rfl <| E.mv rfl rfl <| ?_
        refine E.split 91 rfl (fun g91 => ?_) (fun g91 => ?_)
        ·
         try simp only [Ya, Yb, Yc, Yd, Ye, Yf] at g91
         refine E.on rfl rfl (E.call rfl rfl (example_ret _ (hM.ord0 hO)) ?_)
         rintro _ wz ⟨rfl, xz⟩
         have hM := hM.ext xz
         try dsimp only [Za, Zb, Zc, Zd, repl] at hM

         refine E.pick rfl rfl rfl <| E.asg rfl rfl <| E.nil <| X.join0  (Sub.cons rfl <| Sub.nil _) rfl (hM.pick [] (by decide))
        ·
         try simp only [Ya, Yb, Yc, Yd, Ye, Yf] at g91
         simp at g91
       ·
        try simp only [Ya, Yb, Yc, Yd, Ye, Yf] at g84
        simp at g84
      ·
       try simp only [Ya, Yb, Yc, Yd, Ye, Yf] at g77
       simp at g77
     ·
      try simp only [Ya, Yb, Yc, Yd, Ye, Yf] at g73
      simp at g73
    ·
     try simp only [Ya, Yb, Yc, Yd, Ye, Yf] at g69
     simp at g69
   ·
    try simp only [Ya, Yb, Yc, Yd, Ye, Yf] at g65
    simp at g65
  rintro  w6 hM
  refine C.ret <| ret1 rfl rfl ?_
  exact ⟨rfl, hM.toExt⟩
end Go.Proofs.YtplbgehpohdmdaaDoor
