/- finder: FinderClean. -/
import Derived.Test.YtbinlkobmlebpaaD0
import Derived.Test.YtbinlkobmlebpaaD17
import Derived.Test.YtbinlkobmlebpaaFdDD
set_option linter.unusedSimpArgs false
set_option linter.unusedVariables false
namespace Go.Proofs.Ytbinlkobmlebpaa
open Go.RowKit Sym
open Fi
theorem okPat {W H : Nat} (h1 : 1 ≤ W) (h2 : W ≤ 100) (h3 : 1 ≤ H) (h4 : H ≤ 100) : okMat W H (W * H) := by
 have h := Nat.mul_le_mul h2 h4
 refine ⟨⟨by omega, by omega, by omega, by omega, ?_⟩, ?_⟩
 · rw [← Int.natCast_mul]; omega
 · rw [Int.natCast_mul]
theorem isort_one (m : Mk) : isort key [m] = [m] := by unfold isort; rfl
set_option maxHeartbeats 4000000 in
theorem FinderClean_ret (x0 y0 s0 o1 o2 : Int) (w : World) :
  Ret Try.prog 7 #[i64 x0, i64 y0, .agg #[i64 s0, i64 o1, i64 o2]] w fun v w' => v = .bool true ∧ Ext w w' := by
 have hM := M.start w
 refine enter Try.func7 rfl (by kernel_rfl) Try.ntmps7 rfl ?_
 refine C.seq <| C.region <| ?_
 refine E.boxM hM rfl rfl rfl ?_
 intro b5 w0 hM
 try dsimp only [Za, Zb, Zc, Zd, repl] at hM
 refine E.asg rfl rfl <| E.nil <| X.next <| C.seq <| C.region <| ?_
 refine E.idxA (sz := 1) rfl rfl Try.underlying31 (by kernel_rfl) (by omega) (by omega) rfl ?_
 refine E.load rfl Try.underlying3 rfl (hM.bcell 0 rfl rfl) rfl ?_
 refine E.asg rfl rfl <| E.nil <| X.next <| C.seq <| ?_

 refine C.chainE [(0, _), (1, _), (5, _), (7, _)] rfl [(55, .bool (decide (s0 < 1 ∨ 6 < s0 ∨ x0 < 1 ∨ 20 < x0 ∨ y0 < 1 ∨ 20 < y0 ∨ o1 < 1 ∨ 20 < o1 ∨ o2 < 1 ∨ 20 < o2)))] ?_ ?_
 ·
  refine C.region <| E.mv rfl rfl <| E.bin rfl rfl rfl rfl <| E.mv rfl rfl <| ?_
  refine E.split 16 rfl (fun g16 => ?_) (fun g16 => ?_)
  ·
   try simp only [Ya, Yb, Yc, Yd, Ye, Yf] at g16
   refine E.off rfl rfl rfl rfl <| E.off rfl rfl rfl rfl <| E.pick rfl rfl rfl <| E.mv rfl rfl <| E.off rfl rfl rfl rfl <| E.off rfl rfl rfl rfl <| E.pick rfl rfl rfl <| E.mv rfl rfl <| E.off rfl rfl rfl rfl <| E.off rfl rfl rfl rfl <| E.pick rfl rfl rfl <| E.mv rfl rfl <| E.off rfl rfl rfl rfl <| E.off rfl rfl rfl rfl <| E.pick rfl rfl rfl <| E.mv rfl rfl <| E.off rfl rfl rfl rfl <| E.off rfl rfl rfl rfl <| E.pick rfl rfl rfl <| E.mv rfl rfl <| E.off rfl rfl rfl rfl <| E.off rfl rfl rfl rfl <| E.off rfl rfl rfl rfl <| E.pick rfl rfl rfl <| E.mv rfl rfl <| E.off rfl rfl rfl rfl <| E.off rfl rfl rfl rfl <| E.off rfl rfl rfl rfl <| E.pick rfl rfl rfl <| E.mv rfl rfl <| E.off rfl rfl rfl rfl <| E.off rfl rfl rfl rfl <| E.off rfl rfl rfl rfl <| E.pick rfl rfl rfl <| E.mv rfl rfl <| E.off rfl rfl rfl rfl <| E.off rfl rfl rfl rfl <| E.off rfl rfl rfl rfl <| E.pick rfl rfl rfl <| E.nil <| X.join0 (Sub.cons (by exact leaf_t (by omega)) <| Sub.nil _) rfl rfl
  ·
   try simp only [Ya, Yb, Yc, Yd, Ye, Yf] at g16
   refine E.on rfl rfl (E.mv rfl rfl ?_)
   refine E.on rfl rfl (E.bin rfl rfl rfl rfl ?_)
   refine E.pick rfl rfl rfl <| E.mv rfl rfl <| ?_
   refine E.split 20 rfl (fun g20 => ?_) (fun g20 => ?_)
   ·
    try simp only [Ya, Yb, Yc, Yd, Ye, Yf] at g20
    refine E.off rfl rfl rfl rfl <| E.off rfl rfl rfl rfl <| E.pick rfl rfl rfl <| E.mv rfl rfl <| E.off rfl rfl rfl rfl <| E.off rfl rfl rfl rfl <| E.pick rfl rfl rfl <| E.mv rfl rfl <| E.off rfl rfl rfl rfl <| E.off rfl rfl rfl rfl <| E.pick rfl rfl rfl <| E.mv rfl rfl <| E.off rfl rfl rfl rfl <| E.off rfl rfl rfl rfl <| E.pick rfl rfl rfl <| E.mv rfl rfl <| E.off rfl rfl rfl rfl <| E.off rfl rfl rfl rfl <| E.off rfl rfl rfl rfl <| E.pick rfl rfl rfl <| E.mv rfl rfl <| E.off rfl rfl rfl rfl <| E.off rfl rfl rfl rfl <| E.off rfl rfl rfl rfl <| E.pick rfl rfl rfl <| E.mv rfl rfl <| E.off rfl rfl rfl rfl <| E.off rfl rfl rfl rfl <| E.off rfl rfl rfl rfl <| E.pick rfl rfl rfl <| E.mv rfl rfl <| E.off rfl rfl rfl rfl <| E.off rfl rfl rfl rfl <| E.off rfl rfl rfl rfl <| E.pick rfl rfl rfl <| E.nil <| X.join0 (Sub.cons (by exact leaf_t (by omega)) <| Sub.nil _) rfl rfl
   ·
    try simp only [Ya, Yb, Yc, Yd, Ye, Yf] at g20
    refine E.on rfl rfl (E.mv rfl rfl ?_)
    refine E.on rfl rfl (E.bin rfl rfl rfl rfl ?_)
    refine E.pick rfl rfl rfl <| E.mv rfl rfl <| ?_
    refine E.split 24 rfl (fun g24 => ?_) (fun g24 => ?_)
    ·
     try simp only [Ya, Yb, Yc, Yd, Ye, Yf] at g24
     refine E.off rfl rfl rfl rfl <| E.off rfl rfl rfl rfl <| E.pick rfl rfl rfl <| E.mv rfl rfl <| E.off rfl rfl rfl rfl <| E.off rfl rfl rfl rfl <| E.pick rfl rfl rfl <| E.mv rfl rfl <| E.off rfl rfl rfl rfl <| E.off rfl rfl rfl rfl <| E.pick rfl rfl rfl <| E.mv rfl rfl <| E.off rfl rfl rfl rfl <| E.off rfl rfl rfl rfl <| E.off rfl rfl rfl rfl <| E.pick rfl rfl rfl <| E.mv rfl rfl <| E.off rfl rfl rfl rfl <| E.off rfl rfl rfl rfl <| E.off rfl rfl rfl rfl <| E.pick rfl rfl rfl <| E.mv rfl rfl <| E.off rfl rfl rfl rfl <| E.off rfl rfl rfl rfl <| E.off rfl rfl rfl rfl <| E.pick rfl rfl rfl <| E.mv rfl rfl <| E.off rfl rfl rfl rfl <| E.off rfl rfl rfl rfl <| E.off rfl rfl rfl rfl <| E.pick rfl rfl rfl <| E.nil <| X.join0 (Sub.cons (by exact leaf_t (by omega)) <| Sub.nil _) rfl rfl
    ·
     try simp only [Ya, Yb, Yc, Yd, Ye, Yf] at g24
     refine E.on rfl rfl (E.mv rfl rfl ?_)
     refine E.on rfl rfl (E.bin rfl rfl rfl rfl ?_)
     refine E.pick rfl rfl rfl <| E.mv rfl rfl <| ?_
     refine E.split 28 rfl (fun g28 => ?_) (fun g28 => ?_)
     ·
      try simp only [Ya, Yb, Yc, Yd, Ye, Yf] at g28
      refine E.off rfl rfl rfl rfl <| E.off rfl rfl rfl rfl <| E.pick rfl rfl rfl <| E.mv rfl rfl <| E.off rfl rfl rfl rfl <| E.off rfl rfl rfl rfl <| E.pick rfl rfl rfl <| E.mv rfl rfl <| E.off rfl rfl rfl rfl <| E.off rfl rfl rfl rfl <| E.off rfl rfl rfl rfl <| E.pick rfl rfl rfl <| E.mv rfl rfl <| E.off rfl rfl rfl rfl <| E.off rfl rfl rfl rfl <| E.off rfl rfl rfl rfl <| E.pick rfl rfl rfl <| E.mv rfl rfl <| E.off rfl rfl rfl rfl <| E.off rfl rfl rfl rfl <| E.off rfl rfl rfl rfl <| E.pick rfl rfl rfl <| E.mv rfl rfl <| E.off rfl rfl rfl rfl <| E.off rfl rfl rfl rfl <| E.off rfl rfl rfl rfl <| E.pick rfl rfl rfl <| E.nil <| X.join0 (Sub.cons (by exact leaf_t (by omega)) <| Sub.nil _) rfl rfl
     ·
      try simp only [Ya, Yb, Yc, Yd, Ye, Yf] at g28
      refine E.on rfl rfl (E.mv rfl rfl ?_)
      refine E.on rfl rfl (E.bin rfl rfl rfl rfl ?_)
      refine E.pick rfl rfl rfl <| E.mv rfl rfl <| ?_
      refine E.split 32 rfl (fun g32 => ?_) (fun g32 => ?_)
      ·
       try simp only [Ya, Yb, Yc, Yd, Ye, Yf] at g32
       refine E.off rfl rfl rfl rfl <| E.off rfl rfl rfl rfl <| E.pick rfl rfl rfl <| E.mv rfl rfl <| E.off rfl rfl rfl rfl <| E.off rfl rfl rfl rfl <| E.off rfl rfl rfl rfl <| E.pick rfl rfl rfl <| E.mv rfl rfl <| E.off rfl rfl rfl rfl <| E.off rfl rfl rfl rfl <| E.off rfl rfl rfl rfl <| E.pick rfl rfl rfl <| E.mv rfl rfl <| E.off rfl rfl rfl rfl <| E.off rfl rfl rfl rfl <| E.off rfl rfl rfl rfl <| E.pick rfl rfl rfl <| E.mv rfl rfl <| E.off rfl rfl rfl rfl <| E.off rfl rfl rfl rfl <| E.off rfl rfl rfl rfl <| E.pick rfl rfl rfl <| E.nil <| X.join0 (Sub.cons (by exact leaf_t (by omega)) <| Sub.nil _) rfl rfl
      ·
       try simp only [Ya, Yb, Yc, Yd, Ye, Yf] at g32
       refine E.on rfl rfl (E.mv rfl rfl ?_)
       refine E.on rfl rfl (E.bin rfl rfl rfl rfl ?_)
       refine E.pick rfl rfl rfl <| E.mv rfl rfl <| ?_
       refine E.split 36 rfl (fun g36 => ?_) (fun g36 => ?_)
       ·
        try simp only [Ya, Yb, Yc, Yd, Ye, Yf] at g36
        refine E.off rfl rfl rfl rfl <| E.off rfl rfl rfl rfl <| E.off rfl rfl rfl rfl <| E.pick rfl rfl rfl <| E.mv rfl rfl <| E.off rfl rfl rfl rfl <| E.off rfl rfl rfl rfl <| E.off rfl rfl rfl rfl <| E.pick rfl rfl rfl <| E.mv rfl rfl <| E.off rfl rfl rfl rfl <| E.off rfl rfl rfl rfl <| E.off rfl rfl rfl rfl <| E.pick rfl rfl rfl <| E.mv rfl rfl <| E.off rfl rfl rfl rfl <| E.off rfl rfl rfl rfl <| E.off rfl rfl rfl rfl <| E.pick rfl rfl rfl <| E.nil <| X.join0 (Sub.cons (by exact leaf_t (by omega)) <| Sub.nil _) rfl rfl
       ·
        try simp only [Ya, Yb, Yc, Yd, Ye, Yf] at g36
        refine E.on rfl rfl (E.idxA (sz := 1) rfl rfl Try.underlying31 (by kernel_rfl) (by omega) (by omega) rfl ?_)
        refine E.on rfl rfl (E.load rfl Try.underlying3 rfl (hM.bcell 0 rfl rfl) rfl ?_)
        refine E.on rfl rfl (E.bin rfl rfl rfl rfl ?_)
        refine E.pick rfl rfl rfl <| E.mv rfl rfl <| ?_
        refine E.split 41 rfl (fun g41 => ?_) (fun g41 => ?_)
        ·
         try simp only [Ya, Yb, Yc, Yd, Ye, Yf] at g41
         refine E.off rfl rfl rfl rfl <| E.off rfl rfl rfl rfl <| E.off rfl rfl rfl rfl <| E.pick rfl rfl rfl <| E.mv rfl rfl <| E.off rfl rfl rfl rfl <| E.off rfl rfl rfl rfl <| E.off rfl rfl rfl rfl <| E.pick rfl rfl rfl <| E.mv rfl rfl <| E.off rfl rfl rfl rfl <| E.off rfl rfl rfl rfl <| E.off rfl rfl rfl rfl <| E.pick rfl rfl rfl <| E.nil <| X.join0 (Sub.cons (by exact leaf_t (by omega)) <| Sub.nil _) rfl rfl
        ·
         try simp only [Ya, Yb, Yc, Yd, Ye, Yf] at g41
         refine E.on rfl rfl (E.idxA (sz := 1) rfl rfl Try.underlying31 (by kernel_rfl) (by omega) (by omega) rfl ?_)
         refine E.on rfl rfl (E.load rfl Try.underlying3 rfl (hM.bcell 0 rfl rfl) rfl ?_)
         refine E.on rfl rfl (E.bin rfl rfl rfl rfl ?_)
         refine E.pick rfl rfl rfl <| E.mv rfl rfl <| ?_
         refine E.split 46 rfl (fun g46 => ?_) (fun g46 => ?_)
         ·
          try simp only [Ya, Yb, Yc, Yd, Ye, Yf] at g46
          refine E.off rfl rfl rfl rfl <| E.off rfl rfl rfl rfl <| E.off rfl rfl rfl rfl <| E.pick rfl rfl rfl <| E.mv rfl rfl <| E.off rfl rfl rfl rfl <| E.off rfl rfl rfl rfl <| E.off rfl rfl rfl rfl <| E.pick rfl rfl rfl <| E.nil <| X.join0 (Sub.cons (by exact leaf_t (by omega)) <| Sub.nil _) rfl rfl
         ·
          try simp only [Ya, Yb, Yc, Yd, Ye, Yf] at g46
          refine E.on rfl rfl (E.idxA (sz := 1) rfl rfl Try.underlying31 (by kernel_rfl) (by omega) (by omega) rfl ?_)
          refine E.on rfl rfl (E.load rfl Try.underlying3 rfl (hM.bcell 0 rfl rfl) rfl ?_)
          refine E.on rfl rfl (E.bin rfl rfl rfl rfl ?_)
          refine E.pick rfl rfl rfl <| E.mv rfl rfl <| ?_
          refine E.split 51 rfl (fun g51 => ?_) (fun g51 => ?_)
          ·
           try simp only [Ya, Yb, Yc, Yd, Ye, Yf] at g51
           refine E.off rfl rfl rfl rfl <| E.off rfl rfl rfl rfl <| E.off rfl rfl rfl rfl <| E.pick rfl rfl rfl <| E.nil <| X.join0 (Sub.cons (by exact leaf_t (by omega)) <| Sub.nil _) rfl rfl
          ·
           try simp only [Ya, Yb, Yc, Yd, Ye, Yf] at g51
           refine E.on rfl rfl (E.idxA (sz := 1) rfl rfl Try.underlying31 (by kernel_rfl) (by omega) (by omega) rfl ?_)
           refine E.on rfl rfl (E.load rfl Try.underlying3 rfl (hM.bcell 0 rfl rfl) rfl ?_)
           refine E.on rfl rfl (E.bin rfl rfl rfl rfl ?_)
           refine E.pick rfl rfl rfl <| E.nil <| X.join0 (Sub.cons (by exact leaf_d (by omega)) <| Sub.nil _) rfl rfl
 refine C.cond' rfl (fun hC0 => ?_) (fun hC0 => ?_)
 ·
  refine C.seq <| C.region <| ?_
  refine E.call rfl rfl (alive_ret _) ?_
  rintro _ w1 ⟨rfl, x1⟩
  have hM := hM.ext x1
  try dsimp only [Za, Zb, Zc, Zd, repl] at hM
  refine E.asg rfl rfl <| E.nil <| X.next <| C.ret <| X.retT <| ret1 rfl rfl ?_
  exact ⟨rfl, hM.toExt⟩
 ·
  obtain ⟨x, rfl⟩ : ∃ n : Nat, x0 = n := ⟨x0.toNat, by omega⟩
  obtain ⟨y, rfl⟩ : ∃ n : Nat, y0 = n := ⟨y0.toNat, by omega⟩
  obtain ⟨s, rfl⟩ : ∃ n : Nat, s0 = n := ⟨s0.toNat, by omega⟩
  obtain ⟨p1, rfl⟩ : ∃ n : Nat, o1 = n := ⟨o1.toNat, by omega⟩
  obtain ⟨p2, rfl⟩ : ∃ n : Nat, o2 = n := ⟨o2.toNat, by omega⟩
  obtain ⟨W, hW⟩ : ∃ n, n = x + 7 * s + p1 := ⟨_, rfl⟩
  obtain ⟨H, hH⟩ : ∃ n, n = y + 7 * s + p2 := ⟨_, rfl⟩
  have hok := okPat (W := W) (H := H) (by omega) (by omega) (by omega) (by omega)
  have hm1 := mrk_one (W := W) (H := H) (x := x) (y := y) (s := s) ⟨by omega, by omega⟩ (by omega) (by omega) (by omega) (by omega)
  have hm2 := mrk_none (W := W) (H := H) (x := x) (y := y) (s := s) (by omega) (by omega) (by omega)
  refine C.skip <| X.next <| C.seq <| C.region <| E.mv rfl rfl <| E.mv rfl rfl <| ?_
  refine E.mulN (a := 7) (b := s) rfl rfl (by omega) rfl ?_
  refine E.addN (a := x) (b := 7 * s) rfl rfl (by omega) rfl ?_
  refine E.idxA (sz := 1) rfl rfl Try.underlying31 (by kernel_rfl) (by omega) (by omega) rfl ?_
  refine E.load rfl Try.underlying3 rfl (hM.bcell 0 rfl rfl) rfl ?_
  refine E.addN (a := x + 7 * s) (b := p1) rfl rfl (by omega) rfl ?_
  rw [← hW]
  refine E.mv rfl rfl <| E.mv rfl rfl <| ?_
  refine E.mulN (a := 7) (b := s) rfl rfl (by omega) rfl ?_
  refine E.addN (a := y) (b := 7 * s) rfl rfl (by omega) rfl ?_
  refine E.idxA (sz := 1) rfl rfl Try.underlying31 (by kernel_rfl) (by omega) (by omega) rfl ?_
  refine E.load rfl Try.underlying3 rfl (hM.bcell 0 rfl rfl) rfl ?_
  refine E.addN (a := y + 7 * s) (b := p2) rfl rfl (by omega) rfl ?_
  rw [← hH]
  refine E.mv rfl rfl <| E.mv rfl rfl <| E.mv rfl rfl <| ?_
  refine E.call rfl rfl (pattern_ret W H x y s _ ⟨by omega, by omega⟩ (by omega) (by omega) (by omega) (by omega)) ?_
  rintro _ w2 ⟨vo2, rfl, m2⟩
  have hM := hM.call m2
  try dsimp only [Za, Zb, Zc, Zd, repl] at hM
  refine E.call rfl rfl (Squares_ret W H vo2 (pat W H x y s) _ (hM.sl 1 rfl)) ?_
  rintro v76 w3 h3
  obtain ⟨va, rfl, m3⟩ := MrkV.one h3 (by rw [pat_len]; exact hok) (by rw [hm1, isort_one]) (by rw [hm1]; show 1 ≤ 256; decide)
  have hM := hM.call m3
  try dsimp only [Za, Zb, Zc, Zd, repl] at hM
  refine E.mv rfl rfl <| E.ext rfl rfl rfl <| E.ext rfl rfl rfl <| E.asg rfl rfl <| E.asg rfl rfl <| E.nil <| X.next <| C.seq <| C.region <| E.mv rfl rfl <| E.mv rfl rfl <| ?_
  refine E.mulN (a := 7) (b := s) rfl rfl (by omega) rfl ?_
  refine E.addN (a := x) (b := 7 * s) rfl rfl (by omega) rfl ?_
  refine E.idxA (sz := 1) rfl rfl Try.underlying31 (by kernel_rfl) (by omega) (by omega) rfl ?_
  refine E.load rfl Try.underlying3 rfl (hM.bcell 0 rfl rfl) rfl ?_
  refine E.addN (a := x + 7 * s) (b := p1) rfl rfl (by omega) rfl ?_
  rw [← hW]
  refine E.mv rfl rfl <| E.mv rfl rfl <| ?_
  refine E.mulN (a := 7) (b := s) rfl rfl (by omega) rfl ?_
  refine E.addN (a := y) (b := 7 * s) rfl rfl (by omega) rfl ?_
  refine E.idxA (sz := 1) rfl rfl Try.underlying31 (by kernel_rfl) (by omega) (by omega) rfl ?_
  refine E.load rfl Try.underlying3 rfl (hM.bcell 0 rfl rfl) rfl ?_
  refine E.addN (a := y + 7 * s) (b := p2) rfl rfl (by omega) rfl ?_
  rw [← hH]
  refine E.mv rfl rfl <| E.mv rfl rfl <| E.mv rfl rfl <| ?_
  refine E.call rfl rfl (pattern_ret W H x y s _ ⟨by omega, by omega⟩ (by omega) (by omega) (by omega) (by omega)) ?_
  rintro _ w4 ⟨vo4, rfl, m4⟩
  have hM := hM.call m4
  try dsimp only [Za, Zb, Zc, Zd, repl] at hM
  refine E.call rfl rfl (Bullseyes_ret W H vo4 (pat W H x y s) _ (hM.sl 3 rfl)) ?_
  rintro v98 w5 h5
  obtain ⟨vb, rfl, m5⟩ := MrkV.one h5 (l := []) (by rw [pat_len]; exact hok) (by rw [hm2]; rfl) (by rw [hm2]; decide)
  have hM := hM.call m5
  try dsimp only [Za, Zb, Zc, Zd, repl] at hM
  refine E.mv rfl rfl <| E.ext rfl rfl rfl <| E.ext rfl rfl rfl <| E.asg rfl rfl <| E.asg rfl rfl <| E.nil <| X.next <| ?_

  refine C.cut0 [] rfl [(6, .bool true)] (fun w' => M w (Nn) w' []) ?_ ?_
  ·
   refine C.region <| E.mv rfl rfl <| E.bin rfl rfl rfl rfl <| E.mv rfl rfl <| ?_
   refine E.split 103 rfl (fun g103 => ?_) (fun g103 => ?_)
   ·
    try simp only [Ya, Yb, Yc, Yd, Ye, Yf] at g103
    refine E.on rfl rfl (E.mv rfl rfl ?_)
    refine E.on rfl rfl (E.bin rfl rfl rfl rfl ?_)
    refine E.pick rfl rfl rfl <| E.mv rfl rfl <| ?_
    refine E.split 107 rfl (fun g107 => ?_) (fun g107 => ?_)
    ·
     try simp only [Ya, Yb, Yc, Yd, Ye, Yf] at g107
     refine E.on rfl rfl (E.mv rfl rfl ?_)
     refine E.on rfl rfl (E.mv rfl rfl ?_)
     refine E.on rfl rfl (E.mul rfl rfl (by omega) rfl ?_)
     refine E.on rfl rfl (E.mv rfl rfl ?_)
     refine E.on rfl rfl (E.mul rfl rfl (by omega) rfl ?_)
     refine E.on rfl rfl (E.add rfl rfl (by omega) rfl ?_)
     refine E.on rfl rfl (E.mv rfl rfl ?_)
     refine E.on rfl rfl (E.mul rfl rfl (by omega) rfl ?_)
     refine E.on rfl rfl (E.mv rfl rfl ?_)
     refine E.on rfl rfl (E.mul rfl rfl (by omega) rfl ?_)
     refine E.on rfl rfl (E.add rfl rfl (by omega) rfl ?_)
     refine E.on rfl rfl (E.mv rfl rfl ?_)
     refine E.on rfl rfl (E.mul rfl rfl (by omega) rfl ?_)
     refine E.on rfl rfl (E.mv rfl rfl ?_)
     refine E.on rfl rfl (E.mul rfl rfl (by omega) rfl ?_)
     refine E.on rfl rfl (E.buildC (cs := [_, _, _, _]) [.int .i64 0, .int .i64 0, .int .i64 0, .int .i64 0] [0, 1, 2, 3] rfl rfl (by kernel_rfl) rfl ?_)
     refine E.on rfl rfl (E.mkFF (enc := mkc) (sz := 4) (e := 24) [(⟨14 * x + 49 * s, 14 * y + 49 * s, 14 * s, 3 * s⟩ : Mk)] hM rfl (fun _ => by kernel_rfl) rfl (by decide) (fun a ha => rfl) rfl ?_)
     intro v124 w124 hM
     try dsimp only [Za, Zb, Zc, Zd, repl] at hM
     refine E.on rfl rfl (E.call rfl rfl (Marks_ret va v124 _ _ _ (hM.slF 2 rfl) (hM.slF 5 rfl) (by show 1 ≤ 1000000; decide)) ?_)
     rintro _ w6 ⟨rfl, x6⟩
     have hM := hM.ext x6
     try dsimp only [Za, Zb, Zc, Zd, repl] at hM
     refine E.pick rfl rfl rfl <| E.mv rfl rfl <| ?_
     refine E.split 127 rfl (fun g127 => ?_) (fun g127 => ?_)
     ·
      try simp only [Ya, Yb, Yc, Yd, Ye, Yf] at g127
      refine E.on rfl rfl (E.mv rfl rfl ?_)
      refine E.on rfl rfl (E.lenv rfl (RdF.shape (hM.slF 4 rfl)) Try.underlying22 rfl ?_)
      refine E.on rfl rfl (E.bin rfl rfl rfl rfl ?_)
      refine E.pick rfl rfl rfl <| E.mv rfl rfl <| ?_
      refine E.split 132 rfl (fun g132 => ?_) (fun g132 => ?_)
      ·
       try simp only [Ya, Yb, Yc, Yd, Ye, Yf] at g132
       refine E.on rfl rfl (E.call rfl rfl (alive_ret _) ?_)
       rintro _ w7 ⟨rfl, x7⟩
       have hM := hM.ext x7
       try dsimp only [Za, Zb, Zc, Zd, repl] at hM

       refine E.pick rfl rfl rfl <| E.asg rfl rfl <| E.nil <| X.join0  (Sub.cons rfl <| Sub.nil _) rfl (hM.pick [] (by decide))
      ·
       try simp only [Ya, Yb, Yc, Yd, Ye, Yf] at g132
       simp at g132
     ·
      try simp only [Ya, Yb, Yc, Yd, Ye, Yf] at g127
      simp at g127
    ·
     try simp only [Ya, Yb, Yc, Yd, Ye, Yf] at g107
     exact (g107 trivial).elim
   ·
    try simp only [Ya, Yb, Yc, Yd, Ye, Yf] at g103
    exact (g103 trivial).elim
  rintro  w8 hM
  refine C.ret <| ret1 rfl rfl ?_
  exact ⟨rfl, hM.toExt⟩
end Go.Proofs.Ytbinlkobmlebpaa
