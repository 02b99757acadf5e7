/- finder: FinderMarks. -/
import Derived.Test.YtbinlkobmlebpaaC0
import Derived.Test.YtbinlkobmlebpaaC17
import Derived.Test.YtbinlkobmlebpaaFd25C
set_option linter.unusedSimpArgs false
set_option linter.unusedVariables false
namespace Go.Proofs.Ytbinlkobmlebpaa
open Go.RowKit Sym
open Fi
def mans (W H : Int) (dk : List Bool) (kd : Bool) : Int × List Mk := if okMat W H dk.length then (if 256 < (mrk W.toNat H.toNat dk (shq kd) kd).length then (4, []) else (0, isort key (mrk W.toNat H.toNat dk (shq kd) kd))) else (1, [])
theorem MrkV.ans {W H : Int} {dk : List Bool} {kd : Bool} {w w' : World} {v : Value} (h : MrkV W H dk kd w w' v) : ∃ va : Value, v = .tuple #[va, i64 (mans W H dk kd).1] ∧ M w Nn w' [Rg.slF mkc 4 24 va (mans W H dk kd).2] := by
 unfold mans
 rcases h with ⟨h1, rfl, h3⟩ | ⟨h1, h2, rfl, h3⟩ | ⟨h1, h2, vt, rfl, h3⟩
 · rw [if_neg h1]; exact ⟨nls, rfl, (M.ofExt h3).nilF mkc 4 24⟩
 · rw [if_pos h1, if_pos h2]; exact ⟨nls, rfl, (M.ofExt h3).nilF mkc 4 24⟩
 · rw [if_pos h1, if_neg (by omega)]; exact ⟨vt, rfl, h3⟩
theorem mans_len (W H : Int) (dk : List Bool) (kd : Bool) : (mans W H dk kd).2.length ≤ 1000000 := by
  unfold mans
  split
  · split
    · simp
    · rw [isort_len]; omega
  · simp
theorem few2_ret (W H : Int) (vd : Value) (n : Nat) (w : World) (hv : ∃ a cap, vd = .slice a n cap) :
  Ret Try.prog 13 #[mat W H vd] w fun v w' => v = .bool (decide (n ≤ 6000)) ∧ Ext w w' := by
 obtain ⟨c0, cap0, rfl⟩ := hv
 have hM := M.start w
 refine enter Try.func13 rfl (by kernel_rfl) Try.ntmps13 rfl ?_
 refine C.seq <| C.region <| ?_
 refine E.boxM hM rfl rfl rfl ?_
 intro b1 w0 hM
 try dsimp only [Za, Zb, Zc, Zd, repl] at hM
 refine E.asg rfl rfl <| E.nil <| X.next <| C.seq <| C.region <| ?_
 refine E.fld (o := 2) (sz := 0) rfl Try.underlying37 rfl rfl (by kernel_rfl) rfl ?_
 refine E.load rfl Try.underlying35 rfl (by exact hM.bcell 0 rfl rfl) rfl ?_
 refine E.lenv rfl ⟨_, _, rfl⟩ Try.underlying35 rfl ?_
 refine E.bin rfl rfl rfl rfl <| E.asg rfl rfl <| E.nil <| X.next <| C.ret <| ret1 rfl rfl ?_
 exact ⟨congrArg Value.bool (decide_eq_decide.2 (by omega)), hM.toExt⟩
set_option maxHeartbeats 4000000 in
theorem FinderMarks_ret (W H : Int) (vd : Value) (dk : List Bool) (w : World) (hr : RdL Value.bool w vd dk) :
  Ret Try.prog 6 #[mat W H vd] w fun v w' => v = .bool true ∧ Ext w w' := by
 have hM := M.start w
 refine enter Try.func6 rfl (by kernel_rfl) Try.ntmps6 rfl ?_
 refine C.seq <| C.region <| ?_
 refine E.boxM (cs := [i64 W, i64 H, vd]) hM rfl (by obtain ⟨a, cap, rfl, _⟩ := hr; rfl) rfl ?_
 intro b1 w0 hM
 try dsimp only [Za, Zb, Zc, Zd, repl] at hM
 refine E.asg rfl rfl <| E.nil <| X.next <| C.seq <| C.seq <| C.region <| ?_
 refine E.loadA (cs := [i64 W, i64 H, vd]) rfl Try.underlying37 rfl (by kernel_rfl) (hM.bat 0 rfl) rfl ?_
 refine E.call rfl rfl (few2_ret W H vd dk.length _ hr.shape) ?_
 rintro _ w1 ⟨rfl, x1⟩
 have hM := hM.ext x1
 try dsimp only [Za, Zb, Zc, Zd, repl] at hM
 refine E.not rfl rfl <| E.nil <| X.next <| ?_
 refine C.cond rfl (fun hC0 => ?_) (fun hC0 => ?_)
 ·
  refine C.seq <| C.region <| ?_
  refine E.call rfl rfl (alive_ret _) ?_
  rintro _ w2 ⟨rfl, x2⟩
  have hM := hM.ext x2
  try dsimp only [Za, Zb, Zc, Zd, repl] at hM
  refine E.asg rfl rfl <| E.nil <| X.next <| C.ret <| X.retT <| ret1 rfl rfl ?_
  exact ⟨rfl, hM.toExt⟩
 ·
  refine C.skip <| X.next <| C.seq <| C.region <| ?_
  refine E.loadA (cs := [i64 W, i64 H, vd]) rfl Try.underlying37 rfl (by kernel_rfl) (hM.bat 0 rfl) rfl ?_
  refine E.call rfl rfl (Squares_ret W H vd dk _ (hM.arg0 hr)) ?_
  rintro v17 w3 h3
  obtain ⟨va3, rfl, m3⟩ := h3.ans
  have hM := hM.call m3
  try dsimp only [Za, Zb, Zc, Zd, repl] at hM
  refine E.mv rfl rfl <| E.ext rfl rfl rfl <| E.ext rfl rfl rfl <| E.asg rfl rfl <| E.asg rfl rfl <| E.nil <| X.next <| C.seq <| C.region <| ?_
  refine E.loadA (cs := [i64 W, i64 H, vd]) rfl Try.underlying37 rfl (by kernel_rfl) (hM.bat 0 rfl) rfl ?_
  refine E.call rfl rfl (rSquares_ret W H vd dk _ (hM.arg0 hr)) ?_
  rintro v22 w4 h4
  obtain ⟨va4, rfl, m4⟩ := h4.ans
  have hM := hM.call m4
  try dsimp only [Za, Zb, Zc, Zd, repl] at hM
  refine E.mv rfl rfl <| E.ext rfl rfl rfl <| E.ext rfl rfl rfl <| E.asg rfl rfl <| E.asg rfl rfl <| E.nil <| X.next <| C.seq <| C.region <| ?_
  refine E.loadA (cs := [i64 W, i64 H, vd]) rfl Try.underlying37 rfl (by kernel_rfl) (hM.bat 0 rfl) rfl ?_
  refine E.call rfl rfl (Bullseyes_ret W H vd dk _ (hM.arg0 hr)) ?_
  rintro v27 w5 h5
  obtain ⟨va5, rfl, m5⟩ := h5.ans
  have hM := hM.call m5
  try dsimp only [Za, Zb, Zc, Zd, repl] at hM
  refine E.mv rfl rfl <| E.ext rfl rfl rfl <| E.ext rfl rfl rfl <| E.asg rfl rfl <| E.asg rfl rfl <| E.nil <| X.next <| C.seq <| C.region <| ?_
  refine E.loadA (cs := [i64 W, i64 H, vd]) rfl Try.underlying37 rfl (by kernel_rfl) (hM.bat 0 rfl) rfl ?_
  refine E.call rfl rfl (rBullseyes_ret W H vd dk _ (hM.arg0 hr)) ?_
  rintro v32 w6 h6
  obtain ⟨va6, rfl, m6⟩ := h6.ans
  have hM := hM.call m6
  try dsimp only [Za, Zb, Zc, Zd, repl] at hM
  refine E.mv rfl rfl <| E.ext rfl rfl rfl <| E.ext rfl rfl rfl <| E.asg rfl rfl <| E.asg rfl rfl <| E.nil <| X.next <| ?_

  refine C.cut0 [] rfl [(2, .bool true)] (fun w' => M w (Nn) w' []) ?_ ?_
  ·
   refine C.region <| E.mv rfl rfl <| E.mv rfl rfl <| ?_
   refine E.call rfl rfl (Marks_ret _ _ _ _ _ (hM.slF 1 rfl) (hM.slF 2 rfl) (mans_len _ _ _ _)) ?_
   rintro _ w7 ⟨rfl, x7⟩
   have hM := hM.ext x7
   try dsimp only [Za, Zb, Zc, Zd, repl] at hM
   refine E.mv rfl rfl <| ?_
   refine E.split 38 rfl (fun g38 => ?_) (fun g38 => ?_)
   ·
    try simp only [Ya, Yb, Yc, Yd, Ye, Yf] at g38
    refine E.on rfl rfl (E.mv rfl rfl ?_)
    refine E.on rfl rfl (E.mv rfl rfl ?_)
    refine E.on rfl rfl (E.bin rfl rfl rfl rfl ?_)
    refine E.pick rfl rfl rfl <| E.mv rfl rfl <| ?_
    refine E.split 43 rfl (fun g43 => ?_) (fun g43 => ?_)
    ·
     try simp only [Ya, Yb, Yc, Yd, Ye, Yf] at g43
     refine E.on rfl rfl (E.mv rfl rfl ?_)
     refine E.on rfl rfl (E.mv rfl rfl ?_)
     refine E.on rfl rfl (E.call rfl rfl (Marks_ret _ _ _ _ _ (hM.slF 3 rfl) (hM.slF 4 rfl) (mans_len _ _ _ _)) ?_)
     rintro _ w8 ⟨rfl, x8⟩
     have hM := hM.ext x8
     try dsimp only [Za, Zb, Zc, Zd, repl] at hM
     refine E.pick rfl rfl rfl <| E.mv rfl rfl <| ?_
     refine E.split 48 rfl (fun g48 => ?_) (fun g48 => ?_)
     ·
      try simp only [Ya, Yb, Yc, Yd, Ye, Yf] at g48
      refine E.on rfl rfl (E.mv rfl rfl ?_)
      refine E.on rfl rfl (E.mv rfl rfl ?_)
      refine E.on rfl rfl (E.bin rfl rfl rfl rfl ?_)
      refine E.pick rfl rfl rfl <| E.mv rfl rfl <| ?_
      refine E.split 53 rfl (fun g53 => ?_) (fun g53 => ?_)
      ·
       try simp only [Ya, Yb, Yc, Yd, Ye, Yf] at g53
       refine E.on rfl rfl (E.call rfl rfl (alive_ret _) ?_)
       rintro _ w9 ⟨rfl, x9⟩
       have hM := hM.ext x9
       try dsimp only [Za, Zb, Zc, Zd, repl] at hM

       refine E.pick rfl rfl rfl <| E.asg rfl rfl <| E.nil <| X.join0  (Sub.cons rfl <| Sub.nil _) rfl (hM.pick [] (by decide))
      ·
       try simp only [Ya, Yb, Yc, Yd, Ye, Yf] at g53
       exact (g53 trivial).elim
     ·
      try simp only [Ya, Yb, Yc, Yd, Ye, Yf] at g48
      simp at g48
    ·
     try simp only [Ya, Yb, Yc, Yd, Ye, Yf] at g43
     exact (g43 trivial).elim
   ·
    try simp only [Ya, Yb, Yc, Yd, Ye, Yf] at g38
    simp at g38
  rintro  w10 hM
  refine C.ret <| ret1 rfl rfl ?_
  exact ⟨rfl, hM.toExt⟩
end Go.Proofs.Ytbinlkobmlebpaa
