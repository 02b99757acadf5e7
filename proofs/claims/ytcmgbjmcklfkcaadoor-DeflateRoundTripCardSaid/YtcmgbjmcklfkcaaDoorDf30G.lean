/- chapter 34: DeflateTruncates and DeflateRoundTrip in one text (a claim has at most 60 files). -/
import Derived.Test.YtcmgbjmcklfkcaaDoorDf26G
namespace Go.Proofs.YtcmgbjmcklfkcaaDoor
set_option linter.unusedSimpArgs false
set_option linter.unusedVariables false
open Go.RowKit Sym

theorem wrvN {l : List UInt8} {lv : Nat} (h : lv ≤ 2) : Df.wrv l (lv : Int) = [120, Df.b1 lv] ++ Df.cmp l lv ++ Df.ad4 l := by rw [Df.wrv, if_neg (by omega), Int.toNat_natCast]
theorem cut_take {α : Type} (k : Nat) (l : List α) : cutL 0 k l = l.take k := by unfold cutL; rw [List.drop_zero, Nat.sub_zero]
theorem Df.inf_tr {l : List UInt8} {lv : Nat} (hlv : lv ≤ 2) (hl : l.length ≤ 32768) : 1 ≤ (Df.cmp l lv).length ∧ Df.inf ((Df.cmp l lv).take ((Df.cmp l lv).length - 1)) 16777216 = .error 10 := by
  have h1 := Df.cmp_len hl hlv
  obtain ⟨h2, h3⟩ := Df.inf_trunc (lim := 16777216) hlv hl (by omega)
  refine ⟨h2, ?_⟩
  rw [Df.inf, if_neg (by omega), if_neg (by rw [List.length_take]; omega)]
  exact h3
theorem Df.unw_tr {l : List UInt8} {lv : Nat} (hlv : lv ≤ 2) (hl : l.length ≤ 32768) : 1 ≤ (Df.wrv l lv).length ∧ (Df.wrv l lv).length ≤ 1000006 ∧ Df.unw ((Df.wrv l lv).take ((Df.wrv l lv).length - 1)) 16777216 = .error 10 := by
  have h1 := Df.cmp_len hl hlv
  rw [wrvN hlv]
  have hL : ([120, Df.b1 lv] ++ Df.cmp l lv ++ Df.ad4 l).length = (Df.cmp l lv).length + 6 := by simp only [List.length_append, List.length_cons, List.length_nil, Df.ad4]; omega
  have hT : ([120, Df.b1 lv] ++ Df.cmp l lv ++ Df.ad4 l).take (([120, Df.b1 lv] ++ Df.cmp l lv ++ Df.ad4 l).length - 1) = [120, Df.b1 lv] ++ Df.cmp l lv ++ (Df.ad4 l).take 3 := by
    rw [hL, List.take_append, List.take_of_length_le (by simp only [List.length_append, List.length_cons, List.length_nil]; omega)]
    congr 2
    simp only [List.length_append, List.length_cons, List.length_nil]; omega
  refine ⟨by omega, by omega, ?_⟩
  rw [hT]
  have := Df.unw_head (l := l) (m := (Df.ad4 l).take 3) (lim := 16777216) hlv hl (by omega) (by omega) (by simp [Df.ad4])
  rw [if_pos (by simp [Df.ad4])] at this
  exact this
set_option maxHeartbeats 2000000 in
set_option maxRecDepth 8000 in
theorem DeflateTruncates_ret (p : Value) (l : List UInt8) (x : Int) (w : World) (hp : RdL u8 w p l) (hx : 0 ≤ x ∧ x ≤ 255) (hO : Ord w) :
    Ret Tryd.prog 9 #[p, .int .u8 x] w fun v w' => v = .bool true ∧ Ext w w' := by
  have hM := M.start w
  refine enter Tryd.func9 rfl (by kernel_rfl) Tryd.ntmps9 rfl ?_
  refine C.seq <| C.region <| E.asg rfl rfl <| E.nil <| X.next <| C.seq <| C.seq <| C.region <| E.mv rfl rfl <| ?_
  refine E.lenv rfl (Rd.shape (hM.arg0 hp)) Tryd.underlying22 rfl ?_
  refine E.bin rfl rfl rfl rfl <| E.nil <| X.next <| ?_
  refine C.cond' rfl (fun hC0 => ?_) (fun hC0 => ?_)
  ·
    refine C.seq <| C.region <| ?_
    refine E.call rfl rfl (examples_ret _ (hM.ord0 hO)) ?_
    rintro _ wz ⟨rfl, xz⟩
    have hM := hM.ext xz
    try dsimp only [List.nil_append, List.cons_append, List.set_cons_zero, List.set_cons_succ, repl] at hM
    refine E.asg rfl rfl <| E.nil <| X.next <| C.ret <| X.retT <| ret1 rfl rfl ?_
    exact ⟨rfl, hM.toExt⟩
  ·
    obtain ⟨lx, rfl⟩ : ∃ n : Nat, x = (n : Int) := ⟨x.toNat, by omega⟩
    obtain ⟨lv, hlv⟩ : ∃ n, n = lx % 3 := ⟨_, rfl⟩
    have hlv2 : lv ≤ 2 := by omega
    have hl32 : l.length ≤ 32768 := by omega
    obtain ⟨ht1, ht2⟩ := Df.inf_tr hlv2 hl32
    obtain ⟨hu1, hu3, hu2⟩ := Df.unw_tr hlv2 hl32
    have hcl := Df.cmp_len hl32 hlv2
    obtain ⟨W, hW⟩ : ∃ W, W = Df.wrv l lv := ⟨_, rfl⟩
    obtain ⟨Cm, hCm⟩ : ∃ Cm, Cm = Df.cmp l lv := ⟨_, rfl⟩
    rw [← hW] at hu1 hu2 hu3
    rw [← hCm] at ht1 ht2 hcl
    refine C.skip <| X.next <| C.seq <| C.region <| E.mv rfl rfl <| E.mv rfl rfl <| ?_
    refine E.rem rfl rfl (by omega) (remN (a := lx) (b := 3)) rfl ?_
    rw [← hlv]
    refine E.conv rfl Tryd.underlying5 Tryd.underlying3 (IntWalk.i64_in _ (by omega)) rfl ?_
    refine E.call rfl rfl (Compress_ret p l (lv : Int) _ (hM.arg0 hp) (by omega) (hM.ord0 hO)) ?_
    rintro _ w1 ⟨v23, rfl, m⟩
    have hM := hM.call m
    try dsimp only [List.nil_append, List.cons_append, List.set_cons_zero, List.set_cons_succ, repl] at hM
    rw [cmvN hlv2, ← hCm] at hM
    rw [if_neg (show ¬ ((lv : Int) < 0 ∨ 2 < (lv : Int)) by omega)]
    try dsimp only [List.nil_append, List.cons_append, List.set_cons_zero, List.set_cons_succ, repl] at hM
    refine E.mv rfl rfl <| E.ext rfl rfl rfl <| E.ext rfl rfl rfl <| E.asg rfl rfl <| E.asg rfl rfl <| E.nil <| X.next <| C.seq <| C.region <| E.mv rfl rfl <| E.mv rfl rfl <| ?_
    refine E.rem rfl rfl (by omega) (remN (a := lx) (b := 3)) rfl ?_
    rw [← hlv]
    refine E.conv rfl Tryd.underlying5 Tryd.underlying3 (IntWalk.i64_in _ (by omega)) rfl ?_
    refine E.call rfl rfl (Wrap_ret p l (lv : Int) _ (hM.arg0 hp) (by omega) (hM.ord0 hO)) ?_
    rintro _ w2 ⟨v31, rfl, m⟩
    have hM := hM.call m
    try dsimp only [List.nil_append, List.cons_append, List.set_cons_zero, List.set_cons_succ, repl] at hM
    rw [← hW] at hM
    rw [if_neg (show ¬ ((lv : Int) < 0 ∨ 2 < (lv : Int)) by omega)]
    try dsimp only [List.nil_append, List.cons_append, List.set_cons_zero, List.set_cons_succ, repl] at hM
    refine E.mv rfl rfl <| E.ext rfl rfl rfl <| E.ext rfl rfl rfl <| E.asg rfl rfl <| E.asg rfl rfl <| E.nil <| X.next <| C.seq <| ?_

    refine C.chainE [(5, _), (7, _)] rfl [(49, .bool (decide False))] ?_ ?_
    ·
      refine C.region <| E.mv rfl rfl <| E.bin rfl rfl rfl rfl <| E.mv rfl rfl <| ?_
      refine E.split 36 rfl (fun g36 => ?_) (fun g36 => ?_)
      ·
        try simp only [decide_eq_true_eq, decide_eq_false_iff_not, ne_eq, Decidable.not_not, Bool.not_eq_true', Bool.not_eq_false'] at g36
        simp at g36
      ·
        try simp only [decide_eq_true_eq, decide_eq_false_iff_not, ne_eq, Decidable.not_not, Bool.not_eq_true', Bool.not_eq_false'] at g36
        refine E.on rfl rfl (E.mv rfl rfl ?_)
        refine E.on rfl rfl (E.bin rfl rfl rfl rfl ?_)
        refine E.pick rfl rfl rfl <| E.mv rfl rfl <| ?_
        refine E.split 40 rfl (fun g40 => ?_) (fun g40 => ?_)
        ·
          try simp only [decide_eq_true_eq, decide_eq_false_iff_not, ne_eq, Decidable.not_not, Bool.not_eq_true', Bool.not_eq_false'] at g40
          simp at g40
        ·
          try simp only [decide_eq_true_eq, decide_eq_false_iff_not, ne_eq, Decidable.not_not, Bool.not_eq_true', Bool.not_eq_false'] at g40
          refine E.on rfl rfl (E.mv rfl rfl ?_)
          refine E.on rfl rfl (E.lenv rfl (Rd.shape (hM.sl 0 rfl)) Tryd.underlying22 rfl ?_)
          refine E.on rfl rfl (E.bin rfl rfl rfl rfl ?_)
          refine E.pick rfl rfl rfl <| E.mv rfl rfl <| ?_
          refine E.split 45 rfl (fun g45 => ?_) (fun g45 => ?_)
          ·
            try simp only [decide_eq_true_eq, decide_eq_false_iff_not, ne_eq, Decidable.not_not, Bool.not_eq_true', Bool.not_eq_false'] at g45
            omega
          ·
            try simp only [decide_eq_true_eq, decide_eq_false_iff_not, ne_eq, Decidable.not_not, Bool.not_eq_true', Bool.not_eq_false'] at g45
            refine E.on rfl rfl (E.mv rfl rfl ?_)
            refine E.on rfl rfl (E.lenv rfl (Rd.shape (hM.sl 1 rfl)) Tryd.underlying22 rfl ?_)
            refine E.on rfl rfl (E.bin rfl rfl rfl rfl ?_)
            refine E.pick rfl rfl rfl <| E.nil <| X.join0 (Sub.cons (look_eq rfl (by first | rfl | exact congrArg _ (decide_eq_decide.2 ⟨fun h => by omega, False.elim⟩))) <| Sub.nil _) rfl rfl
    refine C.cond' rfl (fun hC1 => ?_) (fun hC1 => ?_)
    ·
      exact hC1.elim
    ·
      refine C.skip <| X.next <| C.seq <| C.region <| E.mv rfl rfl <| E.mv rfl rfl <| ?_
      refine E.lenv rfl (Rd.shape (hM.sl 0 rfl)) Tryd.underlying22 rfl ?_
      refine E.subN (a := Cm.length) (b := 1) rfl rfl (by omega) rfl ?_
      refine E.slcP (k := .i64) 0 (Cm.length - 1) rfl (.inr ⟨rfl, rfl⟩) (.inl rfl) (hM.sl 0 rfl) Tryd.underlying22 (by kernel_rfl) (by omega) (by omega) rfl ?_
      refine E.call rfl rfl (Inflate_ret _ (Cm.take (Cm.length - 1)) 16777216 _ (by have := (hM.sl 0 rfl).partV (a := 0) (b := Cm.length - 1) (by omega) (by omega); rw [cut_take] at this; exact this) (hM.ord0 hO)) ?_
      rintro _ w3 ⟨v56, o1, n1, e1, rfl, m, hv1⟩
      have hM := hM.call m
      try dsimp only [List.nil_append, List.cons_append, List.set_cons_zero, List.set_cons_succ, repl] at hM
      rw [ht2] at hv1
      obtain rfl : e1 = 10 := by
        rcases hv1 with ⟨_, a, h, _⟩ | ⟨_, h, _⟩
        · cases h
        · cases h; rfl
      try dsimp only [List.nil_append, List.cons_append, List.set_cons_zero, List.set_cons_succ, repl] at hM
      refine E.mv rfl rfl <| E.ext rfl rfl rfl <| E.ext rfl rfl rfl <| E.ext rfl rfl rfl <| E.asg rfl rfl <| E.asg rfl rfl <| E.asg rfl rfl <| E.nil <| X.next <| C.seq <| C.region <| E.mv rfl rfl <| E.mv rfl rfl <| ?_
      refine E.lenv rfl (Rd.shape (hM.sl 1 rfl)) Tryd.underlying22 rfl ?_
      refine E.subN (a := W.length) (b := 1) rfl rfl (by omega) rfl ?_
      refine E.slcP (k := .i64) 0 (W.length - 1) rfl (.inr ⟨rfl, rfl⟩) (.inl rfl) (hM.sl 1 rfl) Tryd.underlying22 (by kernel_rfl) (by omega) (by omega) rfl ?_
      refine E.call rfl rfl (Unwrap_ret _ (W.take (W.length - 1)) 16777216 _ (by have := (hM.sl 1 rfl).partV (a := 0) (b := W.length - 1) (by omega) (by omega); rw [cut_take] at this; exact this) (hM.ord0 hO)) ?_
      rintro _ w4 ⟨v66, o2, e2, rfl, m, hv2⟩
      have hM := hM.call m
      try dsimp only [List.nil_append, List.cons_append, List.set_cons_zero, List.set_cons_succ, repl] at hM
      rw [hu2] at hv2
      obtain rfl : e2 = 10 := by
        rcases hv2 with ⟨_, h⟩ | ⟨_, h, _⟩
        · cases h
        · cases h; rfl
      try dsimp only [List.nil_append, List.cons_append, List.set_cons_zero, List.set_cons_succ, repl] at hM
      refine E.mv rfl rfl <| E.ext rfl rfl rfl <| E.ext rfl rfl rfl <| E.asg rfl rfl <| E.asg rfl rfl <| E.nil <| X.next <| ?_

      refine C.cut0 [] rfl [(4, .bool true)] (fun w' => M w (Nn) w' []) ?_ ?_
      ·
        refine C.region <| E.mv rfl rfl <| E.bin rfl rfl rfl rfl <| E.mv rfl rfl <| ?_
        refine E.split 71 rfl (fun g71 => ?_) (fun g71 => ?_)
        ·
          try simp only [decide_eq_true_eq, decide_eq_false_iff_not, ne_eq, Decidable.not_not, Bool.not_eq_true', Bool.not_eq_false'] at g71
          refine E.on rfl rfl (E.mv rfl rfl ?_)
          refine E.on rfl rfl (E.bin rfl rfl rfl rfl ?_)
          refine E.pick rfl rfl rfl <| E.mv rfl rfl <| ?_
          refine E.split 75 rfl (fun g75 => ?_) (fun g75 => ?_)
          ·
            try simp only [decide_eq_true_eq, decide_eq_false_iff_not, ne_eq, Decidable.not_not, Bool.not_eq_true', Bool.not_eq_false'] at g75
            refine E.on rfl rfl (E.call rfl rfl (examples_ret _ (hM.ord0 hO)) ?_)
            rintro _ wz ⟨rfl, xz⟩
            have hM := hM.ext xz
            try dsimp only [List.nil_append, List.cons_append, List.set_cons_zero, List.set_cons_succ, repl] at hM

            refine E.pick rfl rfl rfl <| E.asg rfl rfl <| E.nil <| X.join0  (Sub.cons rfl <| Sub.nil _) rfl (hM.pick [] (by decide))
          ·
            try simp only [decide_eq_true_eq, decide_eq_false_iff_not, ne_eq, Decidable.not_not, Bool.not_eq_true', Bool.not_eq_false'] at g75
            simp at g75
        ·
          try simp only [decide_eq_true_eq, decide_eq_false_iff_not, ne_eq, Decidable.not_not, Bool.not_eq_true', Bool.not_eq_false'] at g71
          simp at g71
      rintro  w6 hM
      refine C.ret <| ret1 rfl rfl ?_
      exact ⟨rfl, hM.toExt⟩

theorem Df.unw_all {l : List UInt8} {lv : Nat} (hlv : lv ≤ 2) (hl : l.length ≤ 32768) : Df.unw (Df.wrv l lv) (l.length : Int) = .ok l := by
  rw [wrvN hlv]
  have h4 : (Df.ad4 l).length = 4 := rfl
  rw [Df.unw_head hlv hl (by omega) (Nat.le_refl _) (by omega), if_neg (by omega), if_neg (by rw [List.take_of_length_le (by omega)]; simp), if_neg (by omega)]
set_option maxHeartbeats 2000000 in
set_option maxRecDepth 8000 in
theorem DeflateRoundTrip_ret (p : Value) (l : List UInt8) (x : Int) (q : Value) (mo : List UInt8) (w : World) (hp : RdL u8 w p l) (hq : RdL u8 w q mo) (hO : Ord w) :
    Ret Tryd.prog 8 #[p, i64 x, q] w fun v w' => v = .bool true ∧ Ext w w' := by
  have hM := M.start w
  refine enter Tryd.func8 rfl (by kernel_rfl) Tryd.ntmps8 rfl ?_
  refine C.seq <| C.region <| E.asg rfl rfl <| E.nil <| X.next <| C.seq <| ?_

  refine C.chainE [(0, _), (1, _), (2, _)] rfl [(24, .bool (decide (2000 < l.length ∨ 100 < mo.length)))] ?_ ?_
  ·
    refine C.region <| E.mv rfl rfl <| ?_
    refine E.lenv rfl (Rd.shape (hM.arg0 hp)) Tryd.underlying22 rfl ?_
    refine E.bin rfl rfl rfl rfl <| E.mv rfl rfl <| ?_
    refine E.split 20 rfl (fun g20 => ?_) (fun g20 => ?_)
    ·
      try simp only [decide_eq_true_eq, decide_eq_false_iff_not, ne_eq, Decidable.not_not, Bool.not_eq_true', Bool.not_eq_false'] at g20
      refine E.off rfl rfl rfl rfl <| E.off rfl rfl rfl rfl <| E.off rfl rfl rfl rfl <| E.pick rfl rfl rfl <| E.nil <| X.join0 (Sub.cons (by (first | exact leaf_f (by omega) | exact leaf_t (by omega) | exact leaf_d (by omega) | exact leaf_f (by first | (simp [*] <;> fail) | omega) | exact leaf_t (by first | (simp [*] <;> fail) | omega) | exact leaf_d (by first | (simp [*] <;> fail) | omega) | exact leaf_f (by (first | omega | ((try simp only [decide_eq_true_eq, decide_eq_false_iff_not, Bool.not_eq_true', Bool.not_eq_false'] at *); first | omega | (simp_all <;> fail) | (simp_all; omega)))) | exact leaf_t (by (first | omega | ((try simp only [decide_eq_true_eq, decide_eq_false_iff_not, Bool.not_eq_true', Bool.not_eq_false'] at *); first | omega | (simp_all <;> fail) | (simp_all; omega)))) | exact leaf_d (by (first | omega | ((try simp only [decide_eq_true_eq, decide_eq_false_iff_not, Bool.not_eq_true', Bool.not_eq_false'] at *); first | omega | (simp_all <;> fail) | (simp_all; omega)))))) <| Sub.nil _) rfl rfl
    ·
      try simp only [decide_eq_true_eq, decide_eq_false_iff_not, ne_eq, Decidable.not_not, Bool.not_eq_true', Bool.not_eq_false'] at g20
      refine E.on rfl rfl (E.mv rfl rfl ?_)
      refine E.on rfl rfl (E.lenv rfl (Rd.shape (hM.arg0 hq)) Tryd.underlying22 rfl ?_)
      refine E.on rfl rfl (E.bin rfl rfl rfl rfl ?_)
      refine E.pick rfl rfl rfl <| E.nil <| X.join0 (Sub.cons (by (first | exact leaf_f (by omega) | exact leaf_t (by omega) | exact leaf_d (by omega) | exact leaf_f (by first | (simp [*] <;> fail) | omega) | exact leaf_t (by first | (simp [*] <;> fail) | omega) | exact leaf_d (by first | (simp [*] <;> fail) | omega) | exact leaf_f (by (first | omega | ((try simp only [decide_eq_true_eq, decide_eq_false_iff_not, Bool.not_eq_true', Bool.not_eq_false'] at *); first | omega | (simp_all <;> fail) | (simp_all; omega)))) | exact leaf_t (by (first | omega | ((try simp only [decide_eq_true_eq, decide_eq_false_iff_not, Bool.not_eq_true', Bool.not_eq_false'] at *); first | omega | (simp_all <;> fail) | (simp_all; omega)))) | exact leaf_d (by (first | omega | ((try simp only [decide_eq_true_eq, decide_eq_false_iff_not, Bool.not_eq_true', Bool.not_eq_false'] at *); first | omega | (simp_all <;> fail) | (simp_all; omega)))))) <| Sub.nil _) rfl rfl
  refine C.cond' rfl (fun hC0 => ?_) (fun hC0 => ?_)
  ·
    refine C.seq <| C.region <| ?_
    refine E.call rfl rfl (examples_ret _ (hM.ord0 hO)) ?_
    rintro _ wz ⟨rfl, xz⟩
    have hM := hM.ext xz
    try dsimp only [List.nil_append, List.cons_append, List.set_cons_zero, List.set_cons_succ, repl] at hM
    refine E.asg rfl rfl <| E.nil <| X.next <| C.ret <| X.retT <| ret1 rfl rfl ?_
    exact ⟨rfl, hM.toExt⟩
  ·
    have hl32 : l.length ≤ 32768 := by omega
    refine C.skip <| X.next <| C.seq <| C.region <| E.mv rfl rfl <| E.mv rfl rfl <| ?_
    refine E.call rfl rfl (Compress_ret p l x _ (hM.arg0 hp) hl32 (hM.ord0 hO)) ?_
    rintro _ w1 ⟨v29, rfl, m⟩
    have hM := hM.call m
    try dsimp only [List.nil_append, List.cons_append, List.set_cons_zero, List.set_cons_succ, repl] at hM
    try dsimp only [List.nil_append, List.cons_append, List.set_cons_zero, List.set_cons_succ, repl] at hM
    refine E.mv rfl rfl <| E.ext rfl rfl rfl <| E.ext rfl rfl rfl <| E.asg rfl rfl <| E.asg rfl rfl <| E.nil <| X.next <| C.seq <| C.region <| E.mv rfl rfl <| E.mv rfl rfl <| ?_
    refine E.call rfl rfl (Wrap_ret p l x _ (hM.arg0 hp) hl32 (hM.ord0 hO)) ?_
    rintro _ w2 ⟨v35, rfl, m⟩
    have hM := hM.call m
    try dsimp only [List.nil_append, List.cons_append, List.set_cons_zero, List.set_cons_succ, repl] at hM
    try dsimp only [List.nil_append, List.cons_append, List.set_cons_zero, List.set_cons_succ, repl] at hM
    refine E.mv rfl rfl <| E.ext rfl rfl rfl <| E.ext rfl rfl rfl <| E.asg rfl rfl <| E.asg rfl rfl <| E.nil <| X.next <| C.seq <| ?_

    refine C.chainE [(0, _), (2, _), (7, _), (8, _), (9, _), (10, _)] rfl [(43, .bool (decide (x < 0 ∨ 2 < x)))] ?_ ?_
    ·
      refine C.region <| E.mv rfl rfl <| E.bin rfl rfl rfl rfl <| E.mv rfl rfl <| ?_
      refine E.split 40 rfl (fun g40 => ?_) (fun g40 => ?_)
      ·
        try simp only [decide_eq_true_eq, decide_eq_false_iff_not, ne_eq, Decidable.not_not, Bool.not_eq_true', Bool.not_eq_false'] at g40
        refine E.off rfl rfl rfl rfl <| E.off rfl rfl rfl rfl <| E.pick rfl rfl rfl <| E.nil <| X.join0 (Sub.cons (by (first | exact leaf_f (by omega) | exact leaf_t (by omega) | exact leaf_d (by omega) | exact leaf_f (by first | (simp [*] <;> fail) | omega) | exact leaf_t (by first | (simp [*] <;> fail) | omega) | exact leaf_d (by first | (simp [*] <;> fail) | omega) | exact leaf_f (by (first | omega | ((try simp only [decide_eq_true_eq, decide_eq_false_iff_not, Bool.not_eq_true', Bool.not_eq_false'] at *); first | omega | (simp_all <;> fail) | (simp_all; omega)))) | exact leaf_t (by (first | omega | ((try simp only [decide_eq_true_eq, decide_eq_false_iff_not, Bool.not_eq_true', Bool.not_eq_false'] at *); first | omega | (simp_all <;> fail) | (simp_all; omega)))) | exact leaf_d (by (first | omega | ((try simp only [decide_eq_true_eq, decide_eq_false_iff_not, Bool.not_eq_true', Bool.not_eq_false'] at *); first | omega | (simp_all <;> fail) | (simp_all; omega)))))) <| Sub.nil _) rfl rfl
      ·
        try simp only [decide_eq_true_eq, decide_eq_false_iff_not, ne_eq, Decidable.not_not, Bool.not_eq_true', Bool.not_eq_false'] at g40
        refine E.on rfl rfl (E.mv rfl rfl ?_)
        refine E.on rfl rfl (E.bin rfl rfl rfl rfl ?_)
        refine E.pick rfl rfl rfl <| E.nil <| X.join0 (Sub.cons (by (first | exact leaf_f (by omega) | exact leaf_t (by omega) | exact leaf_d (by omega) | exact leaf_f (by first | (simp [*] <;> fail) | omega) | exact leaf_t (by first | (simp [*] <;> fail) | omega) | exact leaf_d (by first | (simp [*] <;> fail) | omega) | exact leaf_f (by (first | omega | ((try simp only [decide_eq_true_eq, decide_eq_false_iff_not, Bool.not_eq_true', Bool.not_eq_false'] at *); first | omega | (simp_all <;> fail) | (simp_all; omega)))) | exact leaf_t (by (first | omega | ((try simp only [decide_eq_true_eq, decide_eq_false_iff_not, Bool.not_eq_true', Bool.not_eq_false'] at *); first | omega | (simp_all <;> fail) | (simp_all; omega)))) | exact leaf_d (by (first | omega | ((try simp only [decide_eq_true_eq, decide_eq_false_iff_not, Bool.not_eq_true', Bool.not_eq_false'] at *); first | omega | (simp_all <;> fail) | (simp_all; omega)))))) <| Sub.nil _) rfl rfl
    refine C.cond' rfl (fun hC1 => ?_) (fun hC1 => ?_)
    ·
      rw [if_pos hC1] at *

      refine C.cut0 [] rfl [(6, .bool true)] (fun w' => M w (Nn) w' []) ?_ ?_
      ·
        refine C.region <| E.mv rfl rfl <| E.bin rfl rfl rfl rfl <| E.mv rfl rfl <| ?_
        refine E.split 46 rfl (fun g46 => ?_) (fun g46 => ?_)
        ·
          try simp only [decide_eq_true_eq, decide_eq_false_iff_not, ne_eq, Decidable.not_not, Bool.not_eq_true', Bool.not_eq_false'] at g46
          refine E.on rfl rfl (E.mv rfl rfl ?_)
          refine E.on rfl rfl (E.mv rfl rfl ?_)
          refine E.on rfl rfl (E.bin rfl rfl rfl rfl ?_)
          refine E.pick rfl rfl rfl <| E.mv rfl rfl <| ?_
          refine E.split 51 rfl (fun g51 => ?_) (fun g51 => ?_)
          ·
            try simp only [decide_eq_true_eq, decide_eq_false_iff_not, ne_eq, Decidable.not_not, Bool.not_eq_true', Bool.not_eq_false'] at g51
            refine E.on rfl rfl (E.mv rfl rfl ?_)
            refine E.on rfl rfl (E.lenv rfl (Rd.shape (hM.sl 0 rfl)) Tryd.underlying22 rfl ?_)
            rw [show (Df.cmv l x).length = 0 by rw [Df.cmv, if_pos hC1]; rfl]
            refine E.on rfl rfl (E.mv rfl rfl ?_)
            refine E.on rfl rfl (E.lenv rfl (Rd.shape (hM.sl 1 rfl)) Tryd.underlying22 rfl ?_)
            rw [show (Df.wrv l x).length = 0 by rw [Df.wrv, if_pos hC1]; rfl]
            refine E.on rfl rfl (E.addN (a := 0) (b := 0) rfl rfl (by omega) rfl ?_)
            refine E.on rfl rfl (E.bin rfl rfl rfl rfl ?_)
            refine E.pick rfl rfl rfl <| E.mv rfl rfl <| ?_
            refine E.split 59 rfl (fun g59 => ?_) (fun g59 => ?_)
            ·
              try simp only [decide_eq_true_eq, decide_eq_false_iff_not, ne_eq, Decidable.not_not, Bool.not_eq_true', Bool.not_eq_false'] at g59
              refine E.on rfl rfl (E.call rfl rfl (examples_ret _ (hM.ord0 hO)) ?_)
              rintro _ wz ⟨rfl, xz⟩
              have hM := hM.ext xz
              try dsimp only [List.nil_append, List.cons_append, List.set_cons_zero, List.set_cons_succ, repl] at hM

              refine E.pick rfl rfl rfl <| E.asg rfl rfl <| E.nil <| X.join0  (Sub.cons rfl <| Sub.nil _) rfl (hM.pick [] (by decide))
            ·
              try simp only [decide_eq_true_eq, decide_eq_false_iff_not, ne_eq, Decidable.not_not, Bool.not_eq_true', Bool.not_eq_false'] at g59
              simp at g59
          ·
            try simp only [decide_eq_true_eq, decide_eq_false_iff_not, ne_eq, Decidable.not_not, Bool.not_eq_true', Bool.not_eq_false'] at g51
            simp at g51
        ·
          try simp only [decide_eq_true_eq, decide_eq_false_iff_not, ne_eq, Decidable.not_not, Bool.not_eq_true', Bool.not_eq_false'] at g46
          simp at g46
      rintro  w4 hM
      refine C.ret <| X.retT <| ret1 rfl rfl ?_
      exact ⟨rfl, hM.toExt⟩
    ·
      rw [if_neg hC1]
      obtain ⟨lv, rfl⟩ : ∃ lv : Nat, x = (lv : Int) := ⟨x.toNat, by omega⟩
      have hlv2 : lv ≤ 2 := by omega
      rw [cmvN hlv2] at hM
      have hcl := Df.cmp_len hl32 hlv2
      obtain ⟨hu1, hu3, _⟩ := Df.unw_tr hlv2 hl32
      have hun := Df.unw_all hlv2 hl32
      have hin := Df.inf_cm2 (l := l) (m := mo) (lim := l.length) hlv2 hl32 (by omega) (by omega)
      rw [if_pos (Nat.le_refl _)] at hin
      have hcb := Df.cmp_bytes l lv
      obtain ⟨W, hW⟩ : ∃ W, W = Df.wrv l lv := ⟨_, rfl⟩
      obtain ⟨Cm, hCm⟩ : ∃ Cm, Cm = Df.cmp l lv := ⟨_, rfl⟩
      rw [← hW] at hu1 hu3 hun hM
      rw [← hCm] at hcl hin hcb hM
      refine C.skip <| X.next <| C.seq <| C.region <| ?_
      refine E.mkM (enc := u8) (e := 5) [] hM rfl (fun _ => by kernel_rfl) rfl rfl rfl ?_
      intro v62 w5 hM
      try dsimp only [List.nil_append, List.cons_append, List.set_cons_zero, List.set_cons_succ, repl] at hM
      refine E.mv rfl rfl <| ?_
      refine E.appendM 2 hM rfl rfl rfl Tryd.underlying22 elem_Tuint8 (hM.sl 0 rfl) (fun _ => rfl) (by simp; omega) (by simp; omega) rfl ?_
      intro v64 w6 hM
      try dsimp only [List.nil_append, List.cons_append, List.set_cons_zero, List.set_cons_succ, repl] at hM
      refine E.asg rfl rfl <| E.nil <| X.next <| C.seq <| C.region <| E.mv rfl rfl <| E.mv rfl rfl <| ?_
      refine E.appendM 2 hM rfl rfl rfl Tryd.underlying22 elem_Tuint8 (hM.arg0 hq) (fun _ => rfl) (by omega) (by omega) rfl ?_
      intro v67 w7 hM
      try dsimp only [List.nil_append, List.cons_append, List.set_cons_zero, List.set_cons_succ, repl] at hM
      refine E.asg rfl rfl <| E.nil <| X.next <| C.seq <| C.region <| E.mv rfl rfl <| E.mv rfl rfl <| ?_
      refine E.lenv rfl (Rd.shape (hM.arg0 hp)) Tryd.underlying22 rfl ?_
      refine E.call rfl rfl (Inflate_ret v67 (Cm ++ mo) (l.length : Int) _ (hM.sl 2 rfl) (hM.ord0 hO)) ?_
      rintro _ w5 ⟨v72, o1, n1, e1, rfl, m, hv1⟩
      have hM := hM.call m
      try dsimp only [List.nil_append, List.cons_append, List.set_cons_zero, List.set_cons_succ, repl] at hM
      rw [hin] at hv1
      obtain ⟨rfl, rfl, rfl⟩ : 0 = e1 ∧ l = o1 ∧ Cm.length = n1 := by
        rcases hv1 with ⟨h1, a, h, h2, _⟩ | ⟨_, h, _⟩
        · cases h; exact ⟨h1.symm, rfl, (h2.trans hcb).symm⟩
        · cases h
      try dsimp only [List.nil_append, List.cons_append, List.set_cons_zero, List.set_cons_succ, repl] at hM
      refine E.mv rfl rfl <| E.ext rfl rfl rfl <| E.ext rfl rfl rfl <| E.ext rfl rfl rfl <| E.asg rfl rfl <| E.asg rfl rfl <| E.asg rfl rfl <| E.nil <| X.next <| C.seq <| C.region <| E.mv rfl rfl <| E.mv rfl rfl <| ?_
      refine E.lenv rfl (Rd.shape (hM.arg0 hp)) Tryd.underlying22 rfl ?_
      refine E.call rfl rfl (Unwrap_ret v35 W (l.length : Int) _ (hM.sl 1 rfl) (hM.ord0 hO)) ?_
      rintro _ w6 ⟨v80, o2, e2, rfl, m, hv2⟩
      have hM := hM.call m
      try dsimp only [List.nil_append, List.cons_append, List.set_cons_zero, List.set_cons_succ, repl] at hM
      rw [hun] at hv2
      obtain ⟨rfl, rfl⟩ : 0 = e2 ∧ l = o2 := by
        rcases hv2 with ⟨h1, h⟩ | ⟨_, h, _⟩
        · cases h; exact ⟨h1.symm, rfl⟩
        · cases h
      try dsimp only [List.nil_append, List.cons_append, List.set_cons_zero, List.set_cons_succ, repl] at hM
      refine E.mv rfl rfl <| E.ext rfl rfl rfl <| E.ext rfl rfl rfl <| E.asg rfl rfl <| E.asg rfl rfl <| E.nil <| X.next <| ?_

      refine C.cut0 [] rfl [(6, .bool true)] (fun w' => M w (Nn) w' []) ?_ ?_
      ·
        refine C.region <| E.mv rfl rfl <| E.bin rfl rfl rfl rfl <| E.mv rfl rfl <| ?_
        refine E.split 85 rfl (fun g85 => ?_) (fun g85 => ?_)
        ·
          try simp only [decide_eq_true_eq, decide_eq_false_iff_not, ne_eq, Decidable.not_not, Bool.not_eq_true', Bool.not_eq_false'] at g85
          refine E.on rfl rfl (E.mv rfl rfl ?_)
          refine E.on rfl rfl (E.bin rfl rfl rfl rfl ?_)
          refine E.pick rfl rfl rfl <| E.mv rfl rfl <| ?_
          refine E.split 89 rfl (fun g89 => ?_) (fun g89 => ?_)
          ·
            try simp only [decide_eq_true_eq, decide_eq_false_iff_not, ne_eq, Decidable.not_not, Bool.not_eq_true', Bool.not_eq_false'] at g89
            refine E.on rfl rfl (E.mv rfl rfl ?_)
            refine E.on rfl rfl (E.bin rfl rfl rfl rfl ?_)
            refine E.pick rfl rfl rfl <| E.mv rfl rfl <| ?_
            refine E.split 93 rfl (fun g93 => ?_) (fun g93 => ?_)
            ·
              try simp only [decide_eq_true_eq, decide_eq_false_iff_not, ne_eq, Decidable.not_not, Bool.not_eq_true', Bool.not_eq_false'] at g93
              refine E.on rfl rfl (E.mv rfl rfl ?_)
              refine E.on rfl rfl (E.bin rfl rfl rfl rfl ?_)
              refine E.pick rfl rfl rfl <| E.mv rfl rfl <| ?_
              refine E.split 97 rfl (fun g97 => ?_) (fun g97 => ?_)
              ·
                try simp only [decide_eq_true_eq, decide_eq_false_iff_not, ne_eq, Decidable.not_not, Bool.not_eq_true', Bool.not_eq_false'] at g97
                refine E.on rfl rfl (E.mv rfl rfl ?_)
                refine E.on rfl rfl (E.bstr rfl (hM.arg0 hp) Tryd.underlying22 Tryd.underlying5 Tryd.underlying9 rfl ?_)
                refine E.on rfl rfl (E.mv rfl rfl ?_)
                refine E.on rfl rfl (E.bstr rfl (hM.sl 3 rfl) Tryd.underlying22 Tryd.underlying5 Tryd.underlying9 rfl ?_)
                refine E.on rfl rfl (E.eqstr rfl rfl rfl ?_)
                refine E.pick rfl rfl rfl <| E.mv rfl rfl <| ?_
                refine E.split 104 rfl (fun g104 => ?_) (fun g104 => ?_)
                ·
                  try simp only [decide_eq_true_eq, decide_eq_false_iff_not, ne_eq, Decidable.not_not, Bool.not_eq_true', Bool.not_eq_false'] at g104
                  refine E.on rfl rfl (E.mv rfl rfl ?_)
                  refine E.on rfl rfl (E.mv rfl rfl ?_)
                  refine E.on rfl rfl (E.lenv rfl (Rd.shape (hM.sl 0 rfl)) Tryd.underlying22 rfl ?_)
                  refine E.on rfl rfl (E.bin rfl rfl rfl rfl ?_)
                  refine E.pick rfl rfl rfl <| E.mv rfl rfl <| ?_
                  refine E.split 110 rfl (fun g110 => ?_) (fun g110 => ?_)
                  ·
                    try simp only [decide_eq_true_eq, decide_eq_false_iff_not, ne_eq, Decidable.not_not, Bool.not_eq_true', Bool.not_eq_false'] at g110
                    refine E.on rfl rfl (E.mv rfl rfl ?_)
                    refine E.on rfl rfl (E.bstr rfl (hM.arg0 hp) Tryd.underlying22 Tryd.underlying5 Tryd.underlying9 rfl ?_)
                    refine E.on rfl rfl (E.mv rfl rfl ?_)
                    refine E.on rfl rfl (E.bstr rfl (hM.sl 4 rfl) Tryd.underlying22 Tryd.underlying5 Tryd.underlying9 rfl ?_)
                    refine E.on rfl rfl (E.eqstr rfl rfl rfl ?_)
                    refine E.pick rfl rfl rfl <| E.mv rfl rfl <| ?_
                    refine E.split 117 rfl (fun g117 => ?_) (fun g117 => ?_)
                    ·
                      try simp only [decide_eq_true_eq, decide_eq_false_iff_not, ne_eq, Decidable.not_not, Bool.not_eq_true', Bool.not_eq_false'] at g117
                      refine E.on rfl rfl (E.call rfl rfl (examples_ret _ (hM.ord0 hO)) ?_)
                      rintro _ wz ⟨rfl, xz⟩
                      have hM := hM.ext xz
                      try dsimp only [List.nil_append, List.cons_append, List.set_cons_zero, List.set_cons_succ, repl] at hM

                      refine E.pick rfl rfl rfl <| E.asg rfl rfl <| E.nil <| X.join0  (Sub.cons rfl <| Sub.nil _) rfl (hM.pick [] (by decide))
                    ·
                      try simp only [decide_eq_true_eq, decide_eq_false_iff_not, ne_eq, Decidable.not_not, Bool.not_eq_true', Bool.not_eq_false'] at g117
                      simp at g117
                  ·
                    try simp only [decide_eq_true_eq, decide_eq_false_iff_not, ne_eq, Decidable.not_not, Bool.not_eq_true', Bool.not_eq_false'] at g110
                    simp at g110
                ·
                  try simp only [decide_eq_true_eq, decide_eq_false_iff_not, ne_eq, Decidable.not_not, Bool.not_eq_true', Bool.not_eq_false'] at g104
                  simp at g104
              ·
                try simp only [decide_eq_true_eq, decide_eq_false_iff_not, ne_eq, Decidable.not_not, Bool.not_eq_true', Bool.not_eq_false'] at g97
                simp at g97
            ·
              try simp only [decide_eq_true_eq, decide_eq_false_iff_not, ne_eq, Decidable.not_not, Bool.not_eq_true', Bool.not_eq_false'] at g93
              simp at g93
          ·
            try simp only [decide_eq_true_eq, decide_eq_false_iff_not, ne_eq, Decidable.not_not, Bool.not_eq_true', Bool.not_eq_false'] at g89
            simp at g89
        ·
          try simp only [decide_eq_true_eq, decide_eq_false_iff_not, ne_eq, Decidable.not_not, Bool.not_eq_true', Bool.not_eq_false'] at g85
          simp at g85
      rintro  w11 hM
      refine C.ret <| ret1 rfl rfl ?_
      exact ⟨rfl, hM.toExt⟩

end Go.Proofs.YtcmgbjmcklfkcaaDoor
