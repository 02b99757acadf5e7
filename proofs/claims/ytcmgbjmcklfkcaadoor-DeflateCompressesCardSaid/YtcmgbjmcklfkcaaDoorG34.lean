/- Texts of the claim, laid together: Df11, Frame. -/
import Derived.ProofKit
import Derived.OpenShut
import Derived.ShutString
import Derived.ChangeOld
import Derived.Test.YtcmgbjmcklfkcaaDoorG1
import Derived.Test.YtcmgbjmcklfkcaaDoorG33
/- chapter 34: the examples; DeflateStores. -/
namespace Go.Proofs.YtcmgbjmcklfkcaaDoor
set_option linter.unusedSimpArgs false
set_option linter.unusedVariables false
open Go.RowKit Sym

/-- the bytes of a constant string, in new memory -/
theorem Sym.E.litM {P : Program} {ops : Array Oper} {Q : Exit → Act → World → Prop} {s : St} {env : Env} {w0 w : World} {S : Nat → Prop} {rs : List Rg} {rest : List Oper} {d : Nat} {ty : TypeId} {pos : String} {aft : Array Edge} {t e ty2 : TypeId} {n d2 : Nat} {pos2 : String} {aft2 : Array Edge} {xs : List (Nat × Operand)} {vs : List (Nat × Value)} {l : List UInt8}
    (hM : M w0 S w rs) (hx : evp env xs = some vs) (hb : ∀ w, (Instr.buildSlice t n vs.toArray).run P w = .ok (.slice (some ⟨w.heap.size, 0, none⟩) n n) (w.alloc (.cells (l.map u8).toArray e))) (ht : P.underlying t = some (.slice e)) (he : P.underlying e = some (.int .u8)) (hl : l.length = n) (hn : n ≤ maxLen) (hd : Nat.blt d s.n = true) (hd2 : Nat.blt d2 s.n = true)
    (h : ∀ v w', M w0 S w' (rs ++ [Rg.rl v l]) → wpE P ops Q s rest ((d2, v) :: (d, v) :: env) w') : wpE P ops Q s (⟨some d, .buildSlice t n xs.toArray, ty, pos, aft, none⟩ :: ⟨some d2, .convert t t (.tmp d), ty2, pos2, aft2, none⟩ :: rest) env w :=
  E.lit (cs := l.map u8) hx hb ht he (by simp [hl]) hn hd hd2 fun v w' hr hbs _ x => h v w' (hM.new x (by subst hl; exact hr) (fun k hk => by rw [hk.2, hbs]; exact Nat.le_refl _))
set_option maxHeartbeats 2000000 in
set_option maxRecDepth 8000 in
theorem examples_ret (w : World) (hO : Ord w) :
    Ret Tryd.prog 10 #[] w fun v w' => v = .bool true ∧ Ext w w' := by
  have hM := M.start w
  refine enter Tryd.func10 rfl (by kernel_rfl) Tryd.ntmps10 rfl ?_
  refine C.seq <| C.region <| E.asg rfl rfl <| E.nil <| X.next <| C.seq <| C.region <| ?_
  refine E.call rfl rfl (Compress_ret (.slice none 0 0) [] 0 _ (RdL.nil u8 _) (by decide) (hM.ord0 hO)) ?_
  rintro _ w1 ⟨v14, rfl, m⟩
  have hM := hM.call m
  try dsimp only [List.nil_append, List.cons_append, List.set_cons_zero, List.set_cons_succ, repl] at hM
  rw [Df.ex_a] at hM
  rw [if_neg (show ¬ ((0 : Int) < 0 ∨ 2 < (0 : Int)) by decide)]
  try dsimp only [List.nil_append, List.cons_append, List.set_cons_zero, List.set_cons_succ, repl] at hM
  refine E.mv rfl rfl <| E.ext rfl rfl rfl <| E.ext rfl rfl rfl <| E.asg rfl rfl <| E.asg rfl rfl <| E.nil <| X.next <| C.seq <| C.region <| ?_
  refine E.call rfl rfl (Compress_ret (.slice none 0 0) [] 1 _ (RdL.nil u8 _) (by decide) (hM.ord0 hO)) ?_
  rintro _ w2 ⟨v18, rfl, m⟩
  have hM := hM.call m
  try dsimp only [List.nil_append, List.cons_append, List.set_cons_zero, List.set_cons_succ, repl] at hM
  rw [Df.ex_b] at hM
  rw [if_neg (show ¬ ((1 : Int) < 0 ∨ 2 < (1 : Int)) by decide)]
  try dsimp only [List.nil_append, List.cons_append, List.set_cons_zero, List.set_cons_succ, repl] at hM
  refine E.mv rfl rfl <| E.ext rfl rfl rfl <| E.ext rfl rfl rfl <| E.asg rfl rfl <| E.asg rfl rfl <| E.nil <| X.next <| C.seq <| C.region <| ?_
  refine E.litM (l := [97]) hM rfl (fun _ => by kernel_rfl) Tryd.underlying22 Tryd.underlying5 rfl (by decide) rfl rfl ?_
  intro v23 w2 hM
  try dsimp only [List.nil_append, List.cons_append, List.set_cons_zero, List.set_cons_succ, repl] at hM
  refine E.call rfl rfl (Compress_ret v23 [97] 1 _ (hM.rl 2 rfl) (by decide) (hM.ord0 hO)) ?_
  rintro _ w3 ⟨v24, rfl, m⟩
  have hM := hM.call m
  try dsimp only [List.nil_append, List.cons_append, List.set_cons_zero, List.set_cons_succ, repl] at hM
  rw [Df.ex_c] at hM
  rw [if_neg (show ¬ ((1 : Int) < 0 ∨ 2 < (1 : Int)) by decide)]
  try dsimp only [List.nil_append, List.cons_append, List.set_cons_zero, List.set_cons_succ, repl] at hM
  refine E.mv rfl rfl <| E.ext rfl rfl rfl <| E.ext rfl rfl rfl <| E.asg rfl rfl <| E.asg rfl rfl <| E.nil <| X.next <| C.seq <| C.region <| ?_
  refine E.litM (l := [97, 98, 99, 97, 98, 99, 97, 98, 99, 100]) hM rfl (fun _ => by kernel_rfl) Tryd.underlying22 Tryd.underlying5 rfl (by decide) rfl rfl ?_
  intro v29 w4 hM
  try dsimp only [List.nil_append, List.cons_append, List.set_cons_zero, List.set_cons_succ, repl] at hM
  refine E.call rfl rfl (Matches_ret v29 _ _ (hM.rl 4 rfl) (by decide)) ?_
  rintro _ w5 ⟨v30, rfl, m⟩
  have hM := hM.call m
  try dsimp only [List.nil_append, List.cons_append, List.set_cons_zero, List.set_cons_succ, repl] at hM
  rw [Df.ex_l] at hM
  try dsimp only [List.nil_append, List.cons_append, List.set_cons_zero, List.set_cons_succ, repl] at hM
  refine E.mv rfl rfl <| E.ext rfl rfl rfl <| E.ext rfl rfl rfl <| E.asg rfl rfl <| E.asg rfl rfl <| E.nil <| X.next <| C.seq <| C.region <| ?_
  refine E.litM (l := [97]) hM rfl (fun _ => by kernel_rfl) Tryd.underlying22 Tryd.underlying5 rfl (by decide) rfl rfl ?_
  intro v35 w6 hM
  try dsimp only [List.nil_append, List.cons_append, List.set_cons_zero, List.set_cons_succ, repl] at hM
  refine E.call rfl rfl (Wrap_ret v35 [97] 1 _ (hM.rl 6 rfl) (by decide) (hM.ord0 hO)) ?_
  rintro _ w6 ⟨v36, rfl, m⟩
  have hM := hM.call m
  try dsimp only [List.nil_append, List.cons_append, List.set_cons_zero, List.set_cons_succ, repl] at hM
  rw [Df.ex_w] at hM
  rw [if_neg (show ¬ ((1 : Int) < 0 ∨ 2 < (1 : Int)) by decide)]
  try dsimp only [List.nil_append, List.cons_append, List.set_cons_zero, List.set_cons_succ, repl] at hM
  refine E.mv rfl rfl <| E.ext rfl rfl rfl <| E.ext rfl rfl rfl <| E.asg rfl rfl <| E.asg rfl rfl <| E.nil <| X.next <| C.seq <| C.region <| ?_
  refine E.call rfl rfl (Compress_ret (.slice none 0 0) [] 3 _ (RdL.nil u8 _) (by decide) (hM.ord0 hO)) ?_
  rintro _ w7 ⟨v40, rfl, m⟩
  have hM := hM.call m
  try dsimp only [List.nil_append, List.cons_append, List.set_cons_zero, List.set_cons_succ, repl] at hM
  rw [Df.ex_r] at hM
  rw [if_pos (show  ((3 : Int) < 0 ∨ 2 < (3 : Int)) by decide)]
  try dsimp only [List.nil_append, List.cons_append, List.set_cons_zero, List.set_cons_succ, repl] at hM
  refine E.mv rfl rfl <| E.ext rfl rfl rfl <| E.ext rfl rfl rfl <| E.asg rfl rfl <| E.asg rfl rfl <| E.nil <| X.next <| C.seq <| ?_

  refine C.chainE [(1, _), (3, _), (5, _), (7, _), (9, _)] rfl [(69, .bool false)] ?_ ?_
  ·
    refine C.region <| E.mv rfl rfl <| E.bin rfl rfl rfl rfl <| E.mv rfl rfl <| ?_
    refine E.split 45 rfl (fun g45 => ?_) (fun g45 => ?_)
    ·
      try simp only [decide_eq_true_eq, decide_eq_false_iff_not, ne_eq, Decidable.not_not, Bool.not_eq_true', Bool.not_eq_false'] at g45
      first | exact absurd g45 (by decide) | exact (g45 rfl).elim | exact (g45 trivial).elim | omega
    ·
      try simp only [decide_eq_true_eq, decide_eq_false_iff_not, ne_eq, Decidable.not_not, Bool.not_eq_true', Bool.not_eq_false'] at g45
      refine E.on rfl rfl (E.mv rfl rfl ?_)
      refine E.on rfl rfl (E.bin rfl rfl rfl rfl ?_)
      refine E.pick rfl rfl rfl <| E.mv rfl rfl <| ?_
      refine E.split 49 rfl (fun g49 => ?_) (fun g49 => ?_)
      ·
        try simp only [decide_eq_true_eq, decide_eq_false_iff_not, ne_eq, Decidable.not_not, Bool.not_eq_true', Bool.not_eq_false'] at g49
        first | exact absurd g49 (by decide) | exact (g49 rfl).elim | exact (g49 trivial).elim | omega
      ·
        try simp only [decide_eq_true_eq, decide_eq_false_iff_not, ne_eq, Decidable.not_not, Bool.not_eq_true', Bool.not_eq_false'] at g49
        refine E.on rfl rfl (E.mv rfl rfl ?_)
        refine E.on rfl rfl (E.bin rfl rfl rfl rfl ?_)
        refine E.pick rfl rfl rfl <| E.mv rfl rfl <| ?_
        refine E.split 53 rfl (fun g53 => ?_) (fun g53 => ?_)
        ·
          try simp only [decide_eq_true_eq, decide_eq_false_iff_not, ne_eq, Decidable.not_not, Bool.not_eq_true', Bool.not_eq_false'] at g53
          first | exact absurd g53 (by decide) | exact (g53 rfl).elim | exact (g53 trivial).elim | omega
        ·
          try simp only [decide_eq_true_eq, decide_eq_false_iff_not, ne_eq, Decidable.not_not, Bool.not_eq_true', Bool.not_eq_false'] at g53
          refine E.on rfl rfl (E.mv rfl rfl ?_)
          refine E.on rfl rfl (E.bin rfl rfl rfl rfl ?_)
          refine E.pick rfl rfl rfl <| E.mv rfl rfl <| ?_
          refine E.split 57 rfl (fun g57 => ?_) (fun g57 => ?_)
          ·
            try simp only [decide_eq_true_eq, decide_eq_false_iff_not, ne_eq, Decidable.not_not, Bool.not_eq_true', Bool.not_eq_false'] at g57
            first | exact absurd g57 (by decide) | exact (g57 rfl).elim | exact (g57 trivial).elim | omega
          ·
            try simp only [decide_eq_true_eq, decide_eq_false_iff_not, ne_eq, Decidable.not_not, Bool.not_eq_true', Bool.not_eq_false'] at g57
            refine E.on rfl rfl (E.mv rfl rfl ?_)
            refine E.on rfl rfl (E.bin rfl rfl rfl rfl ?_)
            refine E.pick rfl rfl rfl <| E.mv rfl rfl <| ?_
            refine E.split 61 rfl (fun g61 => ?_) (fun g61 => ?_)
            ·
              try simp only [decide_eq_true_eq, decide_eq_false_iff_not, ne_eq, Decidable.not_not, Bool.not_eq_true', Bool.not_eq_false'] at g61
              first | exact absurd g61 (by decide) | exact (g61 rfl).elim | exact (g61 trivial).elim | omega
            ·
              try simp only [decide_eq_true_eq, decide_eq_false_iff_not, ne_eq, Decidable.not_not, Bool.not_eq_true', Bool.not_eq_false'] at g61
              refine E.on rfl rfl (E.mv rfl rfl ?_)
              refine E.on rfl rfl (E.bin rfl rfl rfl rfl ?_)
              refine E.pick rfl rfl rfl <| E.mv rfl rfl <| ?_
              refine E.split 65 rfl (fun g65 => ?_) (fun g65 => ?_)
              ·
                try simp only [decide_eq_true_eq, decide_eq_false_iff_not, ne_eq, Decidable.not_not, Bool.not_eq_true', Bool.not_eq_false'] at g65
                first | exact absurd g65 (by decide) | exact (g65 rfl).elim | exact (g65 trivial).elim | omega
              ·
                try simp only [decide_eq_true_eq, decide_eq_false_iff_not, ne_eq, Decidable.not_not, Bool.not_eq_true', Bool.not_eq_false'] at g65
                refine E.on rfl rfl (E.mv rfl rfl ?_)
                refine E.on rfl rfl (E.lenv rfl (Rd.shape (hM.sl 5 rfl)) Tryd.underlying29 rfl ?_)
                rw [nz_len]
                refine E.on rfl rfl (E.bin rfl rfl rfl rfl ?_)
                refine E.pick rfl rfl rfl <| E.nil <| X.join0 (Sub.cons (look_eq rfl (by rfl)) <| Sub.nil _) rfl rfl
  refine C.cond rfl (fun hC0 => ?_) (fun hC0 => ?_)
  ·
    cases hC0
  ·
    refine C.skip <| X.next <| ?_

    refine C.chainE [] rfl [(0, .bool true)] ?_ ?_
    ·
      refine C.region <| E.mv rfl rfl <| ?_
      refine E.bstr rfl (hM.sl 0 rfl) Tryd.underlying22 Tryd.underlying5 Tryd.underlying9 rfl ?_
      refine E.eqstr rfl rfl rfl ?_
      refine E.mv rfl rfl <| ?_
      refine E.split 73 rfl (fun g73 => ?_) (fun g73 => ?_)
      ·
        try simp only [decide_eq_true_eq, decide_eq_false_iff_not, ne_eq, Decidable.not_not, Bool.not_eq_true', Bool.not_eq_false'] at g73
        refine E.on rfl rfl (E.mv rfl rfl ?_)
        refine E.on rfl rfl (E.bstr rfl (hM.sl 1 rfl) Tryd.underlying22 Tryd.underlying5 Tryd.underlying9 rfl ?_)
        refine E.on rfl rfl (E.eqstr rfl rfl rfl ?_)
        refine E.pick rfl rfl rfl <| E.mv rfl rfl <| ?_
        refine E.split 78 rfl (fun g78 => ?_) (fun g78 => ?_)
        ·
          try simp only [decide_eq_true_eq, decide_eq_false_iff_not, ne_eq, Decidable.not_not, Bool.not_eq_true', Bool.not_eq_false'] at g78
          refine E.on rfl rfl (E.mv rfl rfl ?_)
          refine E.on rfl rfl (E.bstr rfl (hM.sl 3 rfl) Tryd.underlying22 Tryd.underlying5 Tryd.underlying9 rfl ?_)
          refine E.on rfl rfl (E.eqstr rfl rfl rfl ?_)
          refine E.pick rfl rfl rfl <| E.mv rfl rfl <| ?_
          refine E.split 83 rfl (fun g83 => ?_) (fun g83 => ?_)
          ·
            try simp only [decide_eq_true_eq, decide_eq_false_iff_not, ne_eq, Decidable.not_not, Bool.not_eq_true', Bool.not_eq_false'] at g83
            refine E.on rfl rfl (E.mv rfl rfl ?_)
            refine E.on rfl rfl (E.bstr rfl (hM.sl 7 rfl) Tryd.underlying22 Tryd.underlying5 Tryd.underlying9 rfl ?_)
            refine E.on rfl rfl (E.eqstr rfl rfl rfl ?_)
            refine E.pick rfl rfl rfl <| E.mv rfl rfl <| ?_
            refine E.split 88 rfl (fun g88 => ?_) (fun g88 => ?_)
            ·
              try simp only [decide_eq_true_eq, decide_eq_false_iff_not, ne_eq, Decidable.not_not, Bool.not_eq_true', Bool.not_eq_false'] at g88
              refine E.on rfl rfl (E.mv rfl rfl ?_)
              refine E.on rfl rfl (E.idx1 (k := 2) rfl rfl (hM.sl 5 rfl) rfl (by decide) Tryd.underlying29 (by kernel_rfl) rfl ?_)
              refine E.on rfl rfl (E.load rfl Tryd.underlying3 rfl ((hM.sl 5 rfl).cellA rfl (by decide)) rfl ?_)
              refine E.on rfl rfl (E.bin rfl rfl rfl rfl ?_)
              refine E.pick rfl rfl rfl <| E.mv rfl rfl <| ?_
              refine E.split 94 rfl (fun g94 => ?_) (fun g94 => ?_)
              ·
                try simp only [decide_eq_true_eq, decide_eq_false_iff_not, ne_eq, Decidable.not_not, Bool.not_eq_true', Bool.not_eq_false'] at g94
                refine E.on rfl rfl (E.mv rfl rfl ?_)
                refine E.on rfl rfl (E.idx1 (k := 3) rfl rfl (hM.sl 5 rfl) rfl (by decide) Tryd.underlying29 (by kernel_rfl) rfl ?_)
                refine E.on rfl rfl (E.load rfl Tryd.underlying3 rfl ((hM.sl 5 rfl).cellA rfl (by decide)) rfl ?_)
                refine E.on rfl rfl (E.bin rfl rfl rfl rfl ?_)
                refine E.pick rfl rfl rfl <| E.mv rfl rfl <| ?_
                refine E.split 100 rfl (fun g100 => ?_) (fun g100 => ?_)
                ·
                  try simp only [decide_eq_true_eq, decide_eq_false_iff_not, ne_eq, Decidable.not_not, Bool.not_eq_true', Bool.not_eq_false'] at g100
                  refine E.on rfl rfl (E.mv rfl rfl ?_)
                  refine E.on rfl rfl (E.idx1 (k := 4) rfl rfl (hM.sl 5 rfl) rfl (by decide) Tryd.underlying29 (by kernel_rfl) rfl ?_)
                  refine E.on rfl rfl (E.load rfl Tryd.underlying3 rfl ((hM.sl 5 rfl).cellA rfl (by decide)) rfl ?_)
                  refine E.on rfl rfl (E.bin rfl rfl rfl rfl ?_)
                  refine E.pick rfl rfl rfl <| E.asg rfl rfl <| E.nil <| X.join0 (Sub.cons (look_eq rfl (by rfl)) <| Sub.nil _) rfl rfl
                ·
                  try simp only [decide_eq_true_eq, decide_eq_false_iff_not, ne_eq, Decidable.not_not, Bool.not_eq_true', Bool.not_eq_false'] at g100
                  first | exact absurd g100 (by decide) | exact (g100 rfl).elim | exact (g100 trivial).elim | omega
              ·
                try simp only [decide_eq_true_eq, decide_eq_false_iff_not, ne_eq, Decidable.not_not, Bool.not_eq_true', Bool.not_eq_false'] at g94
                first | exact absurd g94 (by decide) | exact (g94 rfl).elim | exact (g94 trivial).elim | omega
            ·
              try simp only [decide_eq_true_eq, decide_eq_false_iff_not, ne_eq, Decidable.not_not, Bool.not_eq_true', Bool.not_eq_false'] at g88
              first | exact absurd g88 (by decide) | exact (g88 rfl).elim | exact (g88 trivial).elim | omega
          ·
            try simp only [decide_eq_true_eq, decide_eq_false_iff_not, ne_eq, Decidable.not_not, Bool.not_eq_true', Bool.not_eq_false'] at g83
            first | exact absurd g83 (by decide) | exact (g83 rfl).elim | exact (g83 trivial).elim | omega
        ·
          try simp only [decide_eq_true_eq, decide_eq_false_iff_not, ne_eq, Decidable.not_not, Bool.not_eq_true', Bool.not_eq_false'] at g78
          first | exact absurd g78 (by decide) | exact (g78 rfl).elim | exact (g78 trivial).elim | omega
      ·
        try simp only [decide_eq_true_eq, decide_eq_false_iff_not, ne_eq, Decidable.not_not, Bool.not_eq_true', Bool.not_eq_false'] at g73
        first | exact absurd g73 (by decide) | exact (g73 rfl).elim | exact (g73 trivial).elim | omega
    refine C.ret <| ret1 rfl rfl ?_
    exact ⟨rfl, hM.toExt⟩

theorem sto_len (l : List UInt8) : (Df.sto l).length = l.length + 5 := by simp only [Df.sto, List.length_append, List.length_cons, List.length_nil]; omega
theorem sto_cut (l : List UInt8) : cutL 5 (Df.sto l).length (Df.sto l) = l := by
  unfold cutL
  rw [sto_len, List.take_of_length_le (by rw [List.length_drop, sto_len]; omega)]; rfl
theorem xor255 : ∀ a, a < 256 → a ^^^ (255 - a) = 255 := by decide +kernel
theorem oN (n : Nat) : (UInt8.ofNat n).toNat = n % 256 := by simp
theorem cmv0 (l : List UInt8) : Df.cmv l 0 = Df.sto l := by rw [Df.cmv, if_neg (by decide), Df.cmp, if_pos (by decide)]
set_option maxHeartbeats 2000000 in
set_option maxRecDepth 8000 in
theorem DeflateStores_ret (p : Value) (l : List UInt8) (w : World) (hp : RdL u8 w p l) (hO : Ord w) :
    Ret Tryd.prog 4 #[p] w fun v w' => v = .bool true ∧ Ext w w' := by
  have hM := M.start w
  refine enter Tryd.func4 rfl (by kernel_rfl) Tryd.ntmps4 rfl ?_
  refine C.seq <| C.region <| E.asg rfl rfl <| E.nil <| X.next <| C.seq <| C.seq <| C.region <| E.mv rfl rfl <| ?_
  refine E.lenv rfl (Rd.shape (hM.arg0 hp)) Tryd.underlying22 rfl ?_
  refine E.bin rfl rfl rfl rfl <| E.nil <| X.next <| ?_
  refine C.cond' rfl (fun hC0 => ?_) (fun hC0 => ?_)
  ·
    refine C.seq <| C.region <| ?_
    refine E.call rfl rfl (examples_ret _ (hM.ord0 hO)) ?_
    rintro _ wz ⟨rfl, xz⟩
    have hM := hM.ext xz
    try dsimp only [List.nil_append, List.cons_append, List.set_cons_zero, List.set_cons_succ, repl] at hM
    refine E.asg rfl rfl <| E.nil <| X.next <| C.ret <| X.retT <| ret1 rfl rfl ?_
    exact ⟨rfl, hM.toExt⟩
  ·
    refine C.skip <| X.next <| C.seq <| C.region <| E.mv rfl rfl <| ?_
    refine E.call rfl rfl (Compress_ret p l 0 _ (hM.arg0 hp) (by omega) (hM.ord0 hO)) ?_
    rintro _ w1 ⟨v11, rfl, m⟩
    have hM := hM.call m
    try dsimp only [List.nil_append, List.cons_append, List.set_cons_zero, List.set_cons_succ, repl] at hM
    rw [cmv0] at hM
    rw [if_neg (show ¬ ((0 : Int) < 0 ∨ 2 < (0 : Int)) by decide)]
    try dsimp only [List.nil_append, List.cons_append, List.set_cons_zero, List.set_cons_succ, repl] at hM
    refine E.mv rfl rfl <| E.ext rfl rfl rfl <| E.ext rfl rfl rfl <| E.asg rfl rfl <| E.asg rfl rfl <| E.nil <| X.next <| ?_

    refine C.chainQ [] rfl [(2, .bool true)] ?_ ?_
    ·
      have hcut := (hM.sl 0 rfl).partV (a := 5) (b := (Df.sto l).length) (by rw [sto_len]; omega) (Nat.le_refl _)
      rw [sto_cut] at hcut
      have e1 : ((Df.sto l)[1]'(by rw [sto_len]; omega)).toNat = l.length % 256 := oN _
      have e2 : ((Df.sto l)[2]'(by rw [sto_len]; omega)).toNat = l.length / 256 % 256 := oN _
      have e3 : ((Df.sto l)[3]'(by rw [sto_len]; omega)).toNat = 255 - l.length % 256 := (oN _).trans (by omega)
      have e4 : ((Df.sto l)[4]'(by rw [sto_len]; omega)).toNat = 255 - l.length / 256 % 256 := (oN _).trans (by omega)
      refine C.drawn (by kernel_rfl) (by kernel_rfl) <| Q.mv rfl rfl <| Q.bin rfl rfl rfl rfl <| Q.mv rfl rfl <| ?_
      refine Q.split 16 rfl (fun g16 => ?_) (fun g16 => ?_)
      ·
        try simp only [decide_eq_true_eq, decide_eq_false_iff_not, ne_eq, Decidable.not_not, Bool.not_eq_true', Bool.not_eq_false'] at g16
        refine Q.on rfl rfl (Q.mv rfl rfl ?_)
        refine Q.on rfl rfl (Q.lenv rfl (Rd.shape (hM.sl 0 rfl)) Tryd.underlying22 rfl ?_)
        refine Q.on rfl rfl (Q.mv rfl rfl ?_)
        refine Q.on rfl rfl (Q.lenv rfl (Rd.shape (hM.arg0 hp)) Tryd.underlying22 rfl ?_)
        refine Q.on rfl rfl (Q.addN (a := l.length) (b := 5) rfl rfl (by omega) rfl ?_)
        refine Q.on rfl rfl (Q.bin rfl rfl rfl rfl ?_)
        refine Q.pick rfl rfl rfl <| Q.mv rfl rfl <| ?_
        refine Q.split 24 rfl (fun g24 => ?_) (fun g24 => ?_)
        ·
          try simp only [decide_eq_true_eq, decide_eq_false_iff_not, ne_eq, Decidable.not_not, Bool.not_eq_true', Bool.not_eq_false'] at g24
          refine Q.on rfl rfl (Q.mv rfl rfl ?_)
          refine Q.on rfl rfl (Q.slcP (k' := .i64) 5 _ rfl (.inl rfl) (.inr ⟨rfl, rfl⟩) (hM.sl 0 rfl) Tryd.underlying22 (by kernel_rfl) (by rw [sto_len]; omega) (Nat.le_refl _) rfl ?_)
          refine Q.on rfl rfl (Q.bstr rfl hcut Tryd.underlying22 Tryd.underlying5 Tryd.underlying9 rfl ?_)
          refine Q.on rfl rfl (Q.mv rfl rfl ?_)
          refine Q.on rfl rfl (Q.bstr rfl (hM.arg0 hp) Tryd.underlying22 Tryd.underlying5 Tryd.underlying9 rfl ?_)
          refine Q.on rfl rfl (Q.eqstr rfl rfl rfl ?_)
          refine Q.pick rfl rfl rfl <| Q.mv rfl rfl <| ?_
          refine Q.split 32 rfl (fun g32 => ?_) (fun g32 => ?_)
          ·
            try simp only [decide_eq_true_eq, decide_eq_false_iff_not, ne_eq, Decidable.not_not, Bool.not_eq_true', Bool.not_eq_false'] at g32
            refine Q.on rfl rfl (Q.mv rfl rfl ?_)
            refine Q.on rfl rfl (Q.idx1 (k := 0) rfl rfl (hM.sl 0 rfl) rfl (by rw [sto_len]; omega) Tryd.underlying22 (by kernel_rfl) rfl ?_)
            refine Q.on rfl rfl (Q.load rfl Tryd.underlying5 rfl ((hM.sl 0 rfl).cell (by rw [sto_len]; omega)) rfl ?_)
            refine Q.on rfl rfl (Q.bin rfl rfl rfl rfl ?_)
            refine Q.pick rfl rfl rfl <| Q.mv rfl rfl <| ?_
            refine Q.split 38 rfl (fun g38 => ?_) (fun g38 => ?_)
            ·
              try simp only [decide_eq_true_eq, decide_eq_false_iff_not, ne_eq, Decidable.not_not, Bool.not_eq_true', Bool.not_eq_false'] at g38
              refine Q.on rfl rfl (Q.mv rfl rfl ?_)
              refine Q.on rfl rfl (Q.idx1 (k := 1) rfl rfl (hM.sl 0 rfl) rfl (by rw [sto_len]; omega) Tryd.underlying22 (by kernel_rfl) rfl ?_)
              refine Q.on rfl rfl (Q.load rfl Tryd.underlying5 rfl ((hM.sl 0 rfl).cell (by rw [sto_len]; omega)) rfl ?_)
              rw [show u8 ((Df.sto l)[1]'(by rw [sto_len]; omega)) = .int .u8 ((l.length % 256 : Nat) : Int) by unfold u8; rw [e1]]
              refine Q.on rfl rfl (Q.conv rfl Tryd.underlying5 Tryd.underlying3 (IntWalk.i64_in _ (by omega)) rfl ?_)
              refine Q.on rfl rfl (Q.mv rfl rfl ?_)
              refine Q.on rfl rfl (Q.idx1 (k := 2) rfl rfl (hM.sl 0 rfl) rfl (by rw [sto_len]; omega) Tryd.underlying22 (by kernel_rfl) rfl ?_)
              refine Q.on rfl rfl (Q.load rfl Tryd.underlying5 rfl ((hM.sl 0 rfl).cell (by rw [sto_len]; omega)) rfl ?_)
              rw [show u8 ((Df.sto l)[2]'(by rw [sto_len]; omega)) = .int .u8 ((l.length / 256 % 256 : Nat) : Int) by unfold u8; rw [e2]]
              refine Q.on rfl rfl (Q.conv rfl Tryd.underlying5 Tryd.underlying3 (IntWalk.i64_in _ (by omega)) rfl ?_)
              refine Q.on rfl rfl (Q.mulN (a := 256) (b := l.length / 256 % 256) rfl rfl (by omega) rfl ?_)
              refine Q.on rfl rfl (Q.addN (a := l.length % 256) (b := 256 * (l.length / 256 % 256)) rfl rfl (by omega) rfl ?_)
              refine Q.on rfl rfl (Q.mv rfl rfl ?_)
              refine Q.on rfl rfl (Q.lenv rfl (Rd.shape (hM.arg0 hp)) Tryd.underlying22 rfl ?_)
              refine Q.on rfl rfl (Q.bin rfl rfl rfl rfl ?_)
              refine Q.pick rfl rfl rfl <| Q.mv rfl rfl <| ?_
              refine Q.split 53 rfl (fun g53 => ?_) (fun g53 => ?_)
              ·
                try simp only [decide_eq_true_eq, decide_eq_false_iff_not, ne_eq, Decidable.not_not, Bool.not_eq_true', Bool.not_eq_false'] at g53
                refine Q.on rfl rfl (Q.mv rfl rfl ?_)
                refine Q.on rfl rfl (Q.idx1 (k := 1) rfl rfl (hM.sl 0 rfl) rfl (by rw [sto_len]; omega) Tryd.underlying22 (by kernel_rfl) rfl ?_)
                refine Q.on rfl rfl (Q.load rfl Tryd.underlying5 rfl ((hM.sl 0 rfl).cell (by rw [sto_len]; omega)) rfl ?_)
                refine Q.on rfl rfl (Q.mv rfl rfl ?_)
                refine Q.on rfl rfl (Q.idx1 (k := 3) rfl rfl (hM.sl 0 rfl) rfl (by rw [sto_len]; omega) Tryd.underlying22 (by kernel_rfl) rfl ?_)
                refine Q.on rfl rfl (Q.load rfl Tryd.underlying5 rfl ((hM.sl 0 rfl).cell (by rw [sto_len]; omega)) rfl ?_)
                refine Q.on rfl rfl (Q.binw (v' := .int .u8 255) rfl rfl rfl (congrArg _ (show bits .xor .u8 (((Df.sto l)[1]'(by rw [sto_len]; omega)).toNat : Int) (((Df.sto l)[3]'(by rw [sto_len]; omega)).toNat : Int) = 255 by rw [u8_xor_nat _ _ (UInt8.toNat_lt _) (UInt8.toNat_lt _), e1, e3, xor255 _ (by omega)]; rfl)) rfl ?_)
                refine Q.on rfl rfl (Q.bin rfl rfl rfl rfl ?_)
                refine Q.pick rfl rfl rfl <| Q.mv rfl rfl <| ?_
                refine Q.split 63 rfl (fun g63 => ?_) (fun g63 => ?_)
                ·
                  try simp only [decide_eq_true_eq, decide_eq_false_iff_not, ne_eq, Decidable.not_not, Bool.not_eq_true', Bool.not_eq_false'] at g63
                  refine Q.on rfl rfl (Q.mv rfl rfl ?_)
                  refine Q.on rfl rfl (Q.idx1 (k := 2) rfl rfl (hM.sl 0 rfl) rfl (by rw [sto_len]; omega) Tryd.underlying22 (by kernel_rfl) rfl ?_)
                  refine Q.on rfl rfl (Q.load rfl Tryd.underlying5 rfl ((hM.sl 0 rfl).cell (by rw [sto_len]; omega)) rfl ?_)
                  refine Q.on rfl rfl (Q.mv rfl rfl ?_)
                  refine Q.on rfl rfl (Q.idx1 (k := 4) rfl rfl (hM.sl 0 rfl) rfl (by rw [sto_len]; omega) Tryd.underlying22 (by kernel_rfl) rfl ?_)
                  refine Q.on rfl rfl (Q.load rfl Tryd.underlying5 rfl ((hM.sl 0 rfl).cell (by rw [sto_len]; omega)) rfl ?_)
                  refine Q.on rfl rfl (Q.binw (v' := .int .u8 255) rfl rfl rfl (congrArg _ (show bits .xor .u8 (((Df.sto l)[2]'(by rw [sto_len]; omega)).toNat : Int) (((Df.sto l)[4]'(by rw [sto_len]; omega)).toNat : Int) = 255 by rw [u8_xor_nat _ _ (UInt8.toNat_lt _) (UInt8.toNat_lt _), e2, e4, xor255 _ (by omega)]; rfl)) rfl ?_)
                  refine Q.on rfl rfl (Q.bin rfl rfl rfl rfl ?_)
                  refine Q.pick rfl rfl rfl <| Q.mv rfl rfl <| ?_
                  refine Q.split 73 rfl (fun g73 => ?_) (fun g73 => ?_)
                  ·
                    try simp only [decide_eq_true_eq, decide_eq_false_iff_not, ne_eq, Decidable.not_not, Bool.not_eq_true', Bool.not_eq_false'] at g73
                    refine Q.on rfl rfl (Q.call (v := .bool true) rfl rfl (fun w' hw' => examples_ret _ ((hM.ext hw').ord0 hO)) ?_)
                    refine Q.pick rfl rfl rfl <| Q.asg rfl rfl <| Q.nil <| fun w2 hx2 => ?_
                    refine X.join0 (Sub.cons (look_eq rfl (by rfl)) <| Sub.nil _) rfl hx2
                  ·
                    try simp only [decide_eq_true_eq, decide_eq_false_iff_not, ne_eq, Decidable.not_not, Bool.not_eq_true', Bool.not_eq_false'] at g73
                    first | exact absurd g73 (by decide) | exact (g73 rfl).elim | exact (g73 trivial).elim | omega
                ·
                  try simp only [decide_eq_true_eq, decide_eq_false_iff_not, ne_eq, Decidable.not_not, Bool.not_eq_true', Bool.not_eq_false'] at g63
                  first | exact absurd g63 (by decide) | exact (g63 rfl).elim | exact (g63 trivial).elim | omega
              ·
                try simp only [decide_eq_true_eq, decide_eq_false_iff_not, ne_eq, Decidable.not_not, Bool.not_eq_true', Bool.not_eq_false'] at g53
                omega
            ·
              try simp only [decide_eq_true_eq, decide_eq_false_iff_not, ne_eq, Decidable.not_not, Bool.not_eq_true', Bool.not_eq_false'] at g38
              first | exact absurd g38 (by decide) | exact (g38 rfl).elim | exact (g38 trivial).elim | omega
          ·
            try simp only [decide_eq_true_eq, decide_eq_false_iff_not, ne_eq, Decidable.not_not, Bool.not_eq_true', Bool.not_eq_false'] at g32
            first | exact absurd g32 (by decide) | exact (g32 rfl).elim | exact (g32 trivial).elim | omega
        ·
          try simp only [decide_eq_true_eq, decide_eq_false_iff_not, ne_eq, Decidable.not_not, Bool.not_eq_true', Bool.not_eq_false'] at g24
          exact (g24 (by rw [sto_len])).elim
      ·
        try simp only [decide_eq_true_eq, decide_eq_false_iff_not, ne_eq, Decidable.not_not, Bool.not_eq_true', Bool.not_eq_false'] at g16
        first | exact absurd g16 (by decide) | exact (g16 rfl).elim | exact (g16 trivial).elim | omega
    intro w3 hx3
    have hM := hM.ext hx3
    refine C.ret <| ret1 rfl rfl ?_
    exact ⟨rfl, hM.toExt⟩

end Go.Proofs.YtcmgbjmcklfkcaaDoor

/- From the way arguments are read to what the walks are told of them. For whatever program. -/
namespace Go.Proofs.YtcmgbjmcklfkcaaDoor.Sym
set_option linter.unusedSimpArgs false
set_option linter.unusedVariables false
open Go.RowKit Go.ChangeShapes Go.WideShapes Go.ChangeAt

theorem spot_none {w : World} {a : Addr} {u : Value} (h : w.cell? a = some u) : a.spot = none := by
  unfold World.cell? at h
  split at h
  · split at h
    · cases h
    · rename_i hs; simpa using hs
  · cases h
/-- a slice of integers -/
theorem read_ints {H : Type} {enc : TypeId × Value → H} {P : Program} {w : World} {r : Reach} {base b0 : Nat} {t e : TypeId} {k : IntKind} {v : Value} {d : DataW H} {ps : List MemPlace}
    (ht : P.underlying t = some (.slice e)) (he : P.underlying e = some (.int k)) (hc : P.cellsOf e = 1) (hv : Value.okWide P w r b0 t v) (h : DataW.Trod enc P w base (fun _ => true) true t v d ps) :
    ∃ zs : List Int, Rd w 1 v zs.length (zs.map (Value.int k)) ∧ ∀ z ∈ zs, (Lit.int k z).wf = true := by
  obtain ⟨a, len, cap, rfl⟩ := okWide_slice ht hv
  obtain ⟨fuel, hf⟩ := h
  rcases open_ints ht he hc hf with ⟨hcs, _⟩ | ⟨x, l, c, zs, hcs, _, hl, hm, hz, _, hcell, hwz⟩
  · simp [Value.cells] at hcs
    obtain ⟨rfl, rfl, rfl⟩ := hcs
    exact ⟨[], ⟨none, 0, rfl, Nat.le_refl _, by unfold maxLen; omega, by simp, by simp, fun j u h => by simp at h⟩, by simp⟩
  · simp [Value.cells] at hcs
    obtain ⟨rfl, rfl, rfl⟩ := hcs
    have hzl : zs.length = cap := by simpa using hz
    have hlen : (zs.take len).length = len := by simp; omega
    refine ⟨zs.take len, ?_, fun z hz => hwz z (List.mem_of_mem_take hz)⟩
    rw [hlen]
    have key : ∀ j u, ((zs.take len).map (Value.int k))[j]? = some u → w.cell? (x.add j) = some u := by
      intro j u hu
      have hj : j < len := by have := (List.getElem?_eq_some_iff.1 hu).1; simp at this; omega
      rw [hcell j (by omega)]
      rw [List.getElem?_map, List.getElem?_take, if_pos hj, List.getElem?_eq_getElem (by omega)] at hu
      simp at hu
      rw [List.getD_eq_getElem?_getD, List.getElem?_eq_getElem (by omega)]
      simp [hu]
    refine ⟨some x, cap, rfl, hl, hm, by simp; omega, fun hpos => ?_, fun j u hu => ?_⟩
    · have h0 : 0 < len := by simp at hpos; omega
      have := key 0 (Value.int k (zs[0]'(by omega))) (by rw [List.getElem?_map, List.getElem?_take, if_pos h0, List.getElem?_eq_getElem (by omega)]; rfl)
      have hs := spot_none this
      simp [Addr.add] at hs
      exact ⟨x.block, x.off, by cases x; simp_all⟩
    · have hu' := key j u hu
      have h0 : 0 < len := by have := (List.getElem?_eq_some_iff.1 hu).1; simp at this; omega
      have := key 0 (Value.int k (zs[0]'(by omega))) (by rw [List.getElem?_map, List.getElem?_take, if_pos h0, List.getElem?_eq_getElem (by omega)]; rfl)
      have hs := spot_none this
      simp [Addr.add] at hs
      obtain ⟨b, off, sp⟩ := x
      simp at hs
      subst hs
      rw [addr_add] at hu'
      exact hu'
theorem wf_u8 {z : Int} (h : (Lit.int .u8 z).wf = true) : 0 ≤ z ∧ z ≤ 255 := by simpa [Lit.wf, IntKind.min, IntKind.max, IntKind.signed, IntKind.bits] using h
theorem wf_u16 {z : Int} (h : (Lit.int .u16 z).wf = true) : 0 ≤ z ∧ z ≤ 65535 := by simpa [Lit.wf, IntKind.min, IntKind.max, IntKind.signed, IntKind.bits] using h
theorem wf_u32 {z : Int} (h : (Lit.int .u32 z).wf = true) : 0 ≤ z ∧ z ≤ 4294967295 := by simpa [Lit.wf, IntKind.min, IntKind.max, IntKind.signed, IntKind.bits] using h
theorem wf_i64 {z : Int} (h : (Lit.int .i64 z).wf = true) : -9223372036854775808 ≤ z ∧ z ≤ 9223372036854775807 := by simpa [Lit.wf, IntKind.min, IntKind.max, IntKind.signed, IntKind.bits] using h
/-- a slice of bytes -/
theorem read_bytes {H : Type} {enc : TypeId × Value → H} {P : Program} {w : World} {r : Reach} {base b0 : Nat} {t e : TypeId} {v : Value} {d : DataW H} {ps : List MemPlace}
    (ht : P.underlying t = some (.slice e)) (he : P.underlying e = some (.int .u8)) (hc : P.cellsOf e = 1) (hv : Value.okWide P w r b0 t v) (h : DataW.Trod enc P w base (fun _ => true) true t v d ps) :
    ∃ l : List UInt8, RdL u8 w v l := by
  obtain ⟨zs, hR, hw⟩ := read_ints ht he hc hv h
  refine ⟨zs.map fun z => UInt8.ofNat z.toNat, ?_⟩
  unfold RdL
  have : (zs.map fun z => UInt8.ofNat z.toNat).map u8 = zs.map (Value.int .u8) := by
    rw [List.map_map]
    apply List.map_congr_left
    intro z hz
    have := wf_u8 (hw z hz)
    simp [u8]; omega
  rw [this]; simpa using hR
theorem u32_of {z : Int} (h : (Lit.int .u32 z).wf = true) : ∃ x : BitVec 32, z = (x.toNat : Int) := by
  have := wf_u32 h
  exact ⟨BitVec.ofNat 32 z.toNat, by simp; omega⟩
end Go.Proofs.YtcmgbjmcklfkcaaDoor.Sym
