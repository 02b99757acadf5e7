/- chapter 34: DeflateLimits. -/
import Derived.Test.YtcmgbjmcklfkcaaDoorDf24G
import Derived.Test.YtcmgbjmcklfkcaaDoorG34
namespace Go.Proofs.YtcmgbjmcklfkcaaDoor
set_option linter.unusedSimpArgs false
set_option linter.unusedVariables false
open Go.RowKit Sym

theorem cmvN {l : List UInt8} {lv : Nat} (h : lv ≤ 2) : Df.cmv l (lv : Int) = Df.cmp l lv := by rw [Df.cmv, if_neg (by omega), Int.toNat_natCast]
theorem Df.inf_cm {l : List UInt8} {lv lim : Nat} (hlv : lv ≤ 2) (hl : l.length ≤ 32768) (hlim : lim ≤ 16777216) : Df.inf (Df.cmp l lv) (lim : Int) = if l.length ≤ lim then .ok (l, if lv = 0 then 8 * (Df.sto l).length else (Df.cbits lv (Df.toks l 0)).length) else .error 4 := by
  have h1 := Df.cmp_len hl hlv
  have h2 := Df.inf_cmp (m := []) (lim := lim) hlv hl
  rw [List.append_nil] at h2
  rw [Df.inf, if_neg (by omega), if_neg (by omega), Int.toNat_natCast, h2]
set_option maxHeartbeats 2000000 in
set_option maxRecDepth 8000 in
theorem DeflateLimits_ret (p : Value) (l : List UInt8) (x y : Int) (w : World) (hp : RdL u8 w p l) (hx : 0 ≤ x ∧ x ≤ 255) (hy : 0 ≤ y ∧ y ≤ 65535) (hO : Ord w) :
    Ret Tryd.prog 7 #[p, .int .u8 x, .int .u16 y] w fun v w' => v = .bool true ∧ Ext w w' := by
  have hM := M.start w
  refine enter Tryd.func7 rfl (by kernel_rfl) Tryd.ntmps7 rfl ?_
  refine C.seq <| C.region <| E.asg rfl rfl <| E.nil <| X.next <| C.seq <| C.seq <| C.region <| E.mv rfl rfl <| ?_
  refine E.lenv rfl (Rd.shape (hM.arg0 hp)) Tryd.underlying22 rfl ?_
  refine E.bin rfl rfl rfl rfl <| E.nil <| X.next <| ?_
  refine C.cond' rfl (fun hC0 => ?_) (fun hC0 => ?_)
  ·
    refine C.seq <| C.region <| ?_
    refine E.call rfl rfl (examples_ret _ (hM.ord0 hO)) ?_
    rintro _ wz ⟨rfl, xz⟩
    have hM := hM.ext xz
    try dsimp only [List.nil_append, List.cons_append, List.set_cons_zero, List.set_cons_succ, repl] at hM
    refine E.asg rfl rfl <| E.nil <| X.next <| C.ret <| X.retT <| ret1 rfl rfl ?_
    exact ⟨rfl, hM.toExt⟩
  ·
    obtain ⟨lx, rfl⟩ : ∃ n : Nat, x = (n : Int) := ⟨x.toNat, by omega⟩
    obtain ⟨lim, rfl⟩ : ∃ n : Nat, y = (n : Int) := ⟨y.toNat, by omega⟩
    obtain ⟨lv, hlv⟩ : ∃ n, n = lx % 3 := ⟨_, rfl⟩
    refine C.skip <| X.next <| C.seq <| C.region <| E.mv rfl rfl <| E.mv rfl rfl <| ?_
    refine E.rem rfl rfl (by omega) (remN (a := lx) (b := 3)) rfl ?_
    rw [← hlv]
    refine E.conv rfl Tryd.underlying5 Tryd.underlying3 (IntWalk.i64_in _ (by omega)) rfl ?_
    refine E.call rfl rfl (Compress_ret p l (lv : Int) _ (hM.arg0 hp) (by omega) (hM.ord0 hO)) ?_
    rintro _ w1 ⟨v21, rfl, m⟩
    have hM := hM.call m
    try dsimp only [List.nil_append, List.cons_append, List.set_cons_zero, List.set_cons_succ, repl] at hM
    rw [cmvN (by omega)] at hM
    rw [if_neg (show ¬ ((lv : Int) < 0 ∨ 2 < (lv : Int)) by omega)]
    try dsimp only [List.nil_append, List.cons_append, List.set_cons_zero, List.set_cons_succ, repl] at hM
    refine E.mv rfl rfl <| E.ext rfl rfl rfl <| E.ext rfl rfl rfl <| E.asg rfl rfl <| E.asg rfl rfl <| E.nil <| X.next <| C.seq <| C.region <| E.mv rfl rfl <| E.mv rfl rfl <| ?_
    refine E.conv rfl Tryd.underlying35 Tryd.underlying3 (IntWalk.i64_in _ (by omega)) rfl ?_
    refine E.call rfl rfl (Inflate_ret v21 (Df.cmp l lv) (lim : Int) _ (hM.sl 0 rfl) (hM.ord0 hO)) ?_
    rintro _ w2 ⟨v28, out, n, e, rfl, m, hv⟩
    have hM := hM.call m
    try dsimp only [List.nil_append, List.cons_append, List.set_cons_zero, List.set_cons_succ, repl] at hM
    rw [Df.inf_cm (by omega) (by omega) (by omega)] at hv
    try dsimp only [List.nil_append, List.cons_append, List.set_cons_zero, List.set_cons_succ, repl] at hM
    refine E.mv rfl rfl <| E.ext rfl rfl rfl <| E.ext rfl rfl rfl <| E.ext rfl rfl rfl <| E.asg rfl rfl <| E.asg rfl rfl <| E.asg rfl rfl <| E.nil <| X.next <| C.seq <| C.seq <| C.region <| E.mv rfl rfl <| E.bin rfl rfl rfl rfl <| E.nil <| X.next <| ?_
    refine C.cond' rfl (fun hC1 => ?_) (fun hC1 => ?_)
    ·
      exact absurd rfl hC1
    ·
      refine C.skip <| X.next <| C.seq <| C.seq <| C.region <| E.mv rfl rfl <| ?_
      refine E.conv rfl Tryd.underlying35 Tryd.underlying3 (IntWalk.i64_in _ (by omega)) rfl ?_
      refine E.mv rfl rfl <| ?_
      refine E.lenv rfl (Rd.shape (hM.arg0 hp)) Tryd.underlying22 rfl ?_
      refine E.bin rfl rfl rfl rfl <| E.nil <| X.next <| ?_
      refine C.cond' rfl (fun hC2 => ?_) (fun hC2 => ?_)
      ·
        rw [if_neg (by omega)] at hv
        obtain ⟨rfl, rfl, rfl⟩ : e = 4 ∧ out = [] ∧ n = 0 := by
          rcases hv with ⟨_, a, h, _⟩ | ⟨_, h, h2, h3⟩
          · cases h
          · cases h; exact ⟨rfl, h2, h3⟩

        refine C.cut0 [] rfl [(6, .bool true)] (fun w' => M w (Nn) w' []) ?_ ?_
        ·
          refine C.region <| E.mv rfl rfl <| E.bin rfl rfl rfl rfl <| E.mv rfl rfl <| ?_
          refine E.split 41 rfl (fun g41 => ?_) (fun g41 => ?_)
          ·
            try simp only [decide_eq_true_eq, decide_eq_false_iff_not, ne_eq, Decidable.not_not, Bool.not_eq_true', Bool.not_eq_false'] at g41
            refine E.on rfl rfl (E.mv rfl rfl ?_)
            refine E.on rfl rfl (E.lenv rfl (Rd.shape (hM.sl 1 rfl)) Tryd.underlying22 rfl ?_)
            refine E.on rfl rfl (E.bin rfl rfl rfl rfl ?_)
            refine E.pick rfl rfl rfl <| E.mv rfl rfl <| ?_
            refine E.split 46 rfl (fun g46 => ?_) (fun g46 => ?_)
            ·
              try simp only [decide_eq_true_eq, decide_eq_false_iff_not, ne_eq, Decidable.not_not, Bool.not_eq_true', Bool.not_eq_false'] at g46
              refine E.on rfl rfl (E.mv rfl rfl ?_)
              refine E.on rfl rfl (E.bin rfl rfl rfl rfl ?_)
              refine E.pick rfl rfl rfl <| E.mv rfl rfl <| ?_
              refine E.split 50 rfl (fun g50 => ?_) (fun g50 => ?_)
              ·
                try simp only [decide_eq_true_eq, decide_eq_false_iff_not, ne_eq, Decidable.not_not, Bool.not_eq_true', Bool.not_eq_false'] at g50
                refine E.on rfl rfl (E.call rfl rfl (examples_ret _ (hM.ord0 hO)) ?_)
                rintro _ wz ⟨rfl, xz⟩
                have hM := hM.ext xz
                try dsimp only [List.nil_append, List.cons_append, List.set_cons_zero, List.set_cons_succ, repl] at hM

                refine E.pick rfl rfl rfl <| E.asg rfl rfl <| E.nil <| X.join0  (Sub.cons rfl <| Sub.nil _) rfl (hM.pick [] (by decide))
              ·
                try simp only [decide_eq_true_eq, decide_eq_false_iff_not, ne_eq, Decidable.not_not, Bool.not_eq_true', Bool.not_eq_false'] at g50
                simp at g50
            ·
              try simp only [decide_eq_true_eq, decide_eq_false_iff_not, ne_eq, Decidable.not_not, Bool.not_eq_true', Bool.not_eq_false'] at g46
              simp at g46
          ·
            try simp only [decide_eq_true_eq, decide_eq_false_iff_not, ne_eq, Decidable.not_not, Bool.not_eq_true', Bool.not_eq_false'] at g41
            simp at g41
        rintro  w4 hM
        refine C.ret <| X.retT <| ret1 rfl rfl ?_
        exact ⟨rfl, hM.toExt⟩
      ·
        rw [if_pos (by omega)] at hv
        obtain ⟨rfl, rfl⟩ : e = 0 ∧ out = l := by
          rcases hv with ⟨h, a, h2, _⟩ | ⟨_, h, _⟩
          · cases h2; exact ⟨h, rfl⟩
          · cases h
        refine C.skip <| X.next <| ?_

        refine C.cut0 [] rfl [(6, .bool true)] (fun w' => M w (Nn) w' []) ?_ ?_
        ·
          refine C.region <| E.mv rfl rfl <| E.bin rfl rfl rfl rfl <| E.mv rfl rfl <| ?_
          refine E.split 55 rfl (fun g55 => ?_) (fun g55 => ?_)
          ·
            try simp only [decide_eq_true_eq, decide_eq_false_iff_not, ne_eq, Decidable.not_not, Bool.not_eq_true', Bool.not_eq_false'] at g55
            refine E.on rfl rfl (E.mv rfl rfl ?_)
            refine E.on rfl rfl (E.bstr rfl (hM.arg0 hp) Tryd.underlying22 Tryd.underlying5 Tryd.underlying9 rfl ?_)
            refine E.on rfl rfl (E.mv rfl rfl ?_)
            refine E.on rfl rfl (E.bstr rfl (hM.sl 1 rfl) Tryd.underlying22 Tryd.underlying5 Tryd.underlying9 rfl ?_)
            refine E.on rfl rfl (E.eqstr rfl rfl rfl ?_)
            refine E.pick rfl rfl rfl <| E.mv rfl rfl <| ?_
            refine E.split 62 rfl (fun g62 => ?_) (fun g62 => ?_)
            ·
              try simp only [decide_eq_true_eq, decide_eq_false_iff_not, ne_eq, Decidable.not_not, Bool.not_eq_true', Bool.not_eq_false'] at g62
              refine E.on rfl rfl (E.call rfl rfl (examples_ret _ (hM.ord0 hO)) ?_)
              rintro _ wz ⟨rfl, xz⟩
              have hM := hM.ext xz
              try dsimp only [List.nil_append, List.cons_append, List.set_cons_zero, List.set_cons_succ, repl] at hM

              refine E.pick rfl rfl rfl <| E.asg rfl rfl <| E.nil <| X.join0  (Sub.cons rfl <| Sub.nil _) rfl (hM.pick [] (by decide))
            ·
              try simp only [decide_eq_true_eq, decide_eq_false_iff_not, ne_eq, Decidable.not_not, Bool.not_eq_true', Bool.not_eq_false'] at g62
              simp at g62
          ·
            try simp only [decide_eq_true_eq, decide_eq_false_iff_not, ne_eq, Decidable.not_not, Bool.not_eq_true', Bool.not_eq_false'] at g55
            simp at g55
        rintro  w6 hM
        refine C.ret <| ret1 rfl rfl ?_
        exact ⟨rfl, hM.toExt⟩

end Go.Proofs.YtcmgbjmcklfkcaaDoor
