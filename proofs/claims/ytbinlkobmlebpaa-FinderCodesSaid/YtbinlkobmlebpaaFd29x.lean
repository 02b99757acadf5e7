/- finder: what a module of a code is for. -/
import Derived.Test.Ytbinlkobmlebpaax0
import Derived.Test.YtbinlkobmlebpaaFd28x
set_option linter.unusedSimpArgs false
set_option linter.unusedVariables false
namespace Go.Proofs.Ytbinlkobmlebpaa
open Go.RowKit Sym
open Fi
def zn (s x y : Int) : Prop := (x < 8 ∧ y < 8) ∨ (s - 8 ≤ x ∧ y < 8) ∨ (x < 8 ∧ s - 8 ≤ y)
instance (s x y : Int) : Decidable (zn s x y) := by unfold zn; exact inferInstance
set_option maxHeartbeats 2000000 in
theorem aligned_ret (p : Value) (l : List Int) (s x y : Int) (w : World) (hp : RdL i64 w p l) (hb : ∀ z ∈ l, -1000 ≤ z ∧ z ≤ 1000) (hs : 0 ≤ s ∧ s ≤ 1000 ∧ 0 ≤ x ∧ x ≤ 1000 ∧ 0 ≤ y ∧ y ≤ 1000) :
  Ret Try.prog 73 #[p, i64 s, i64 x, i64 y] w fun v w' => ∃ (a b : Int) (c : Bool), v = .tuple #[i64 a, i64 b, .bool c] ∧ (-1000 ≤ a ∧ a ≤ 1000 ∧ -1000 ≤ b ∧ b ≤ 1000) ∧ Ext w w' := by
 have hM := M.start w
 refine enter Try.func73 rfl (by kernel_rfl) Try.ntmps73 rfl ?_
 refine C.seq <| C.region <| E.asg rfl rfl <| E.asg rfl rfl <| E.asg rfl rfl <| E.nil <| X.next <| C.seq <| C.seq <| C.region <| E.asg rfl rfl <| E.nil <| X.next <| C.block <| ?_
 have hle := Rd.le hp

 refine C.loop1 [(0, _), (1, _), (2, _), (3, _)] rfl (fun (i : Nat) => [(11, i64 i)]) (fun (i : Nat) w' => M w (Nn) w' [] ∧ i ≤ l.length) (fun (i : Nat) => l.length - i) 0 ?_ ?_ ?_
 · exact Sub.cons rfl <| Sub.nil _
 · exact ⟨hM, Nat.zero_le _⟩
 rintro i w0 ⟨hM, hi⟩
 refine C.seq <| C.seq <| C.region <| E.mv rfl rfl <| E.mv rfl rfl <| ?_
 refine E.lenv rfl (Rd.shape (hM.arg0 hp)) Try.underlying45 rfl ?_
 refine E.bin rfl rfl rfl rfl <| E.nil <| X.next <| ?_
 refine C.cond' rfl (fun hC0 => ?_) (fun hC0 => ?_)
 ·
  have hi' : i < l.length := by omega
  have hbi := hb _ (List.getElem_mem hi')
  refine C.skip <| X.next <| C.seq <| C.block <| C.seq <| C.region <| E.asg rfl rfl <| E.nil <| X.next <| C.block <| ?_

  refine C.loop1 [(0, _), (1, _), (2, _), (3, _), (11, _)] rfl (fun (k : Nat) => [(12, i64 k)]) (fun (k : Nat) w' => M w (Nn) w' [] ∧ k ≤ l.length) (fun (k : Nat) => l.length - k) 0 ?_ ?_ ?_
  · exact Sub.cons rfl <| Sub.nil _
  · exact ⟨hM, Nat.zero_le _⟩
  rintro k w1 ⟨hM, hk⟩
  refine C.seq <| C.seq <| C.region <| E.mv rfl rfl <| E.mv rfl rfl <| ?_
  refine E.lenv rfl (Rd.shape (hM.arg0 hp)) Try.underlying45 rfl ?_
  refine E.bin rfl rfl rfl rfl <| E.nil <| X.next <| ?_
  refine C.cond' rfl (fun hC1 => ?_) (fun hC1 => ?_)
  ·
   have hk' : k < l.length := by omega
   have hbk := hb _ (List.getElem_mem hk')
   refine C.skip <| X.next <| C.seq <| C.block <| C.seq <| C.drawn (by kernel_rfl) (by kernel_rfl) <| Q.mv rfl rfl <| Q.mv rfl rfl <| ?_
   refine Q.idx1 (k := i) rfl rfl (hM.arg0 hp) rfl hi' Try.underlying45 (by kernel_rfl) rfl ?_
   refine Q.load rfl Try.underlying3 rfl ((hM.arg0 hp).cellA rfl hi') rfl ?_
   refine Q.mv rfl rfl <| Q.mv rfl rfl <| ?_
   refine Q.idx1 (k := k) rfl rfl (hM.arg0 hp) rfl hk' Try.underlying45 (by kernel_rfl) rfl ?_
   refine Q.load rfl Try.underlying3 rfl ((hM.arg0 hp).cellA rfl hk') rfl ?_
   refine Q.asg rfl rfl <| Q.asg rfl rfl <| Q.nil <| fun w2 hx2 => ?_
   have hM := hM.ext hx2
   refine X.next <| ?_

   refine C.chainE [(0, _), (1, _), (2, _), (3, _), (11, _), (12, _), (13, _), (14, _)] rfl [(15, .bool (decide ((l[i] = 6 ∧ l[k] = 6) ∨ (l[i] = 6 ∧ l[k] = s - 7) ∨ (l[i] = s - 7 ∧ l[k] = 6))))] ?_ ?_
   ·
    refine C.region <| E.mv rfl rfl <| E.bin rfl rfl rfl rfl <| E.mv rfl rfl <| ?_
    refine E.split 38 rfl (fun g38 => ?_) (fun g38 => ?_)
    ·
     try simp only [Ya, Yb, Yc, Yd, Ye, Yf] at g38
     refine E.on rfl rfl (E.mv rfl rfl ?_)
     refine E.on rfl rfl (E.bin rfl rfl rfl rfl ?_)
     refine E.pick rfl rfl rfl <| E.mv rfl rfl <| ?_
     refine E.split 42 rfl (fun g42 => ?_) (fun g42 => ?_)
     ·
      try simp only [Ya, Yb, Yc, Yd, Ye, Yf] at g42
      refine E.off rfl rfl rfl rfl <| E.off rfl rfl rfl rfl <| E.off rfl rfl rfl rfl <| E.offu rfl rfl rfl <| E.offu rfl rfl rfl <| E.offu rfl rfl rfl <| E.offu rfl rfl rfl <| E.off rfl rfl rfl rfl <| E.pick rfl rfl rfl <| E.mv rfl rfl <| E.off rfl rfl rfl rfl <| E.off rfl rfl rfl rfl <| E.off rfl rfl rfl rfl <| E.off rfl rfl rfl rfl <| E.off rfl rfl rfl rfl <| E.offu rfl rfl rfl <| E.offu rfl rfl rfl <| E.off rfl rfl rfl rfl <| E.pick rfl rfl rfl <| E.asg rfl rfl <| E.nil <| X.join0 (Sub.cons (look_eq rfl (congrArg Value.bool (by (try unfold zn); first | exact (decide_eq_true (by omega)).symm | exact (decide_eq_false (by omega)).symm | exact decide_eq_decide.2 ⟨fun h => by omega, fun h => by omega⟩))) <| Sub.nil _) rfl rfl
     ·
      try simp only [Ya, Yb, Yc, Yd, Ye, Yf] at g42
      refine E.on rfl rfl (E.mv rfl rfl ?_)
      refine E.on rfl rfl (E.bin rfl rfl rfl rfl ?_)
      refine E.on rfl rfl (E.mv rfl rfl ?_)
      refine E.split 45 rfl (fun g45 => ?_) (fun g45 => ?_)
      ·
       try simp only [Ya, Yb, Yc, Yd, Ye, Yf] at g45
       refine E.on rfl rfl (E.mv rfl rfl ?_)
       refine E.on rfl rfl (E.mv rfl rfl ?_)
       refine E.on rfl rfl (E.sub' rfl rfl (by omega) rfl ?_)
       refine E.on rfl rfl (E.bin rfl rfl rfl rfl ?_)
       refine E.on rfl rfl (E.pick rfl rfl rfl ?_)
       refine E.pick rfl rfl rfl <| E.mv rfl rfl <| ?_
       refine E.split 52 rfl (fun g52 => ?_) (fun g52 => ?_)
       ·
        try simp only [Ya, Yb, Yc, Yd, Ye, Yf] at g52
        refine E.off rfl rfl rfl rfl <| E.off rfl rfl rfl rfl <| E.off rfl rfl rfl rfl <| E.off rfl rfl rfl rfl <| E.off rfl rfl rfl rfl <| E.offu rfl rfl rfl <| E.offu rfl rfl rfl <| E.off rfl rfl rfl rfl <| E.pick rfl rfl rfl <| E.asg rfl rfl <| E.nil <| X.join0 (Sub.cons (look_eq rfl (congrArg Value.bool (by (try unfold zn); first | exact (decide_eq_true (by omega)).symm | exact (decide_eq_false (by omega)).symm | exact decide_eq_decide.2 ⟨fun h => by omega, fun h => by omega⟩))) <| Sub.nil _) rfl rfl
       ·
        try simp only [Ya, Yb, Yc, Yd, Ye, Yf] at g52
        refine E.on rfl rfl (E.mv rfl rfl ?_)
        refine E.on rfl rfl (E.mv rfl rfl ?_)
        refine E.on rfl rfl (E.sub' rfl rfl (by omega) rfl ?_)
        refine E.on rfl rfl (E.bin rfl rfl rfl rfl ?_)
        refine E.on rfl rfl (E.mv rfl rfl ?_)
        refine E.split 57 rfl (fun g57 => ?_) (fun g57 => ?_)
        ·
         try simp only [Ya, Yb, Yc, Yd, Ye, Yf] at g57
         refine E.on rfl rfl (E.mv rfl rfl ?_)
         refine E.on rfl rfl (E.bin rfl rfl rfl rfl ?_)
         refine E.on rfl rfl (E.pick rfl rfl rfl ?_)
         refine E.pick rfl rfl rfl <| E.asg rfl rfl <| E.nil <| X.join0 (Sub.cons (look_eq rfl (congrArg Value.bool (by (try unfold zn); first | exact (decide_eq_true (by omega)).symm | exact (decide_eq_false (by omega)).symm | exact decide_eq_decide.2 ⟨fun h => by omega, fun h => by omega⟩))) <| Sub.nil _) rfl rfl
        ·
         try simp only [Ya, Yb, Yc, Yd, Ye, Yf] at g57
         refine E.off rfl rfl rfl rfl <| E.off rfl rfl rfl rfl <| ?_
         refine E.on rfl rfl (E.pick rfl rfl rfl ?_)
         refine E.pick rfl rfl rfl <| E.asg rfl rfl <| E.nil <| X.join0 (Sub.cons (look_eq rfl (congrArg Value.bool (by (try unfold zn); first | exact (decide_eq_true (by omega)).symm | exact (decide_eq_false (by omega)).symm | exact decide_eq_decide.2 ⟨fun h => by omega, fun h => by omega⟩))) <| Sub.nil _) rfl rfl
      ·
       try simp only [Ya, Yb, Yc, Yd, Ye, Yf] at g45
       refine E.off rfl rfl rfl rfl <| E.off rfl rfl rfl rfl <| E.off rfl rfl rfl rfl <| E.off rfl rfl rfl rfl <| ?_
       refine E.on rfl rfl (E.pick rfl rfl rfl ?_)
       refine E.pick rfl rfl rfl <| E.mv rfl rfl <| ?_
       refine E.on rfl rfl (E.mv rfl rfl ?_)
       refine E.on rfl rfl (E.mv rfl rfl ?_)
       refine E.on rfl rfl (E.sub' rfl rfl (by omega) rfl ?_)
       refine E.on rfl rfl (E.bin rfl rfl rfl rfl ?_)
       refine E.on rfl rfl (E.mv rfl rfl ?_)
       refine E.split 57 rfl (fun g57 => ?_) (fun g57 => ?_)
       ·
        try simp only [Ya, Yb, Yc, Yd, Ye, Yf] at g57
        refine E.on rfl rfl (E.mv rfl rfl ?_)
        refine E.on rfl rfl (E.bin rfl rfl rfl rfl ?_)
        refine E.on rfl rfl (E.pick rfl rfl rfl ?_)
        refine E.pick rfl rfl rfl <| E.asg rfl rfl <| E.nil <| X.join0 (Sub.cons (look_eq rfl (congrArg Value.bool (by (try unfold zn); first | exact (decide_eq_true (by omega)).symm | exact (decide_eq_false (by omega)).symm | exact decide_eq_decide.2 ⟨fun h => by omega, fun h => by omega⟩))) <| Sub.nil _) rfl rfl
       ·
        try simp only [Ya, Yb, Yc, Yd, Ye, Yf] at g57
        refine E.off rfl rfl rfl rfl <| E.off rfl rfl rfl rfl <| ?_
        refine E.on rfl rfl (E.pick rfl rfl rfl ?_)
        refine E.pick rfl rfl rfl <| E.asg rfl rfl <| E.nil <| X.join0 (Sub.cons (look_eq rfl (congrArg Value.bool (by (try unfold zn); first | exact (decide_eq_true (by omega)).symm | exact (decide_eq_false (by omega)).symm | exact decide_eq_decide.2 ⟨fun h => by omega, fun h => by omega⟩))) <| Sub.nil _) rfl rfl
    ·
     try simp only [Ya, Yb, Yc, Yd, Ye, Yf] at g38
     refine E.off rfl rfl rfl rfl <| E.off rfl rfl rfl rfl <| E.pick rfl rfl rfl <| E.mv rfl rfl <| ?_
     refine E.on rfl rfl (E.mv rfl rfl ?_)
     refine E.on rfl rfl (E.bin rfl rfl rfl rfl ?_)
     refine E.on rfl rfl (E.mv rfl rfl ?_)
     refine E.split 45 rfl (fun g45 => ?_) (fun g45 => ?_)
     ·
      try simp only [Ya, Yb, Yc, Yd, Ye, Yf] at g45
      refine E.on rfl rfl (E.mv rfl rfl ?_)
      refine E.on rfl rfl (E.mv rfl rfl ?_)
      refine E.on rfl rfl (E.sub' rfl rfl (by omega) rfl ?_)
      refine E.on rfl rfl (E.bin rfl rfl rfl rfl ?_)
      refine E.on rfl rfl (E.pick rfl rfl rfl ?_)
      refine E.pick rfl rfl rfl <| E.mv rfl rfl <| ?_
      refine E.split 52 rfl (fun g52 => ?_) (fun g52 => ?_)
      ·
       try simp only [Ya, Yb, Yc, Yd, Ye, Yf] at g52
       refine E.off rfl rfl rfl rfl <| E.off rfl rfl rfl rfl <| E.off rfl rfl rfl rfl <| E.off rfl rfl rfl rfl <| E.off rfl rfl rfl rfl <| E.offu rfl rfl rfl <| E.offu rfl rfl rfl <| E.off rfl rfl rfl rfl <| E.pick rfl rfl rfl <| E.asg rfl rfl <| E.nil <| X.join0 (Sub.cons (look_eq rfl (congrArg Value.bool (by (try unfold zn); first | exact (decide_eq_true (by omega)).symm | exact (decide_eq_false (by omega)).symm | exact decide_eq_decide.2 ⟨fun h => by omega, fun h => by omega⟩))) <| Sub.nil _) rfl rfl
      ·
       try simp only [Ya, Yb, Yc, Yd, Ye, Yf] at g52
       refine E.on rfl rfl (E.mv rfl rfl ?_)
       refine E.on rfl rfl (E.mv rfl rfl ?_)
       refine E.on rfl rfl (E.sub' rfl rfl (by omega) rfl ?_)
       refine E.on rfl rfl (E.bin rfl rfl rfl rfl ?_)
       refine E.on rfl rfl (E.mv rfl rfl ?_)
       refine E.split 57 rfl (fun g57 => ?_) (fun g57 => ?_)
       ·
        try simp only [Ya, Yb, Yc, Yd, Ye, Yf] at g57
        refine E.on rfl rfl (E.mv rfl rfl ?_)
        refine E.on rfl rfl (E.bin rfl rfl rfl rfl ?_)
        refine E.on rfl rfl (E.pick rfl rfl rfl ?_)
        refine E.pick rfl rfl rfl <| E.asg rfl rfl <| E.nil <| X.join0 (Sub.cons (look_eq rfl (congrArg Value.bool (by (try unfold zn); first | exact (decide_eq_true (by omega)).symm | exact (decide_eq_false (by omega)).symm | exact decide_eq_decide.2 ⟨fun h => by omega, fun h => by omega⟩))) <| Sub.nil _) rfl rfl
       ·
        try simp only [Ya, Yb, Yc, Yd, Ye, Yf] at g57
        refine E.off rfl rfl rfl rfl <| E.off rfl rfl rfl rfl <| ?_
        refine E.on rfl rfl (E.pick rfl rfl rfl ?_)
        refine E.pick rfl rfl rfl <| E.asg rfl rfl <| E.nil <| X.join0 (Sub.cons (look_eq rfl (congrArg Value.bool (by (try unfold zn); first | exact (decide_eq_true (by omega)).symm | exact (decide_eq_false (by omega)).symm | exact decide_eq_decide.2 ⟨fun h => by omega, fun h => by omega⟩))) <| Sub.nil _) rfl rfl
     ·
      try simp only [Ya, Yb, Yc, Yd, Ye, Yf] at g45
      refine E.off rfl rfl rfl rfl <| E.off rfl rfl rfl rfl <| E.off rfl rfl rfl rfl <| E.off rfl rfl rfl rfl <| ?_
      refine E.on rfl rfl (E.pick rfl rfl rfl ?_)
      refine E.pick rfl rfl rfl <| E.mv rfl rfl <| ?_
      refine E.on rfl rfl (E.mv rfl rfl ?_)
      refine E.on rfl rfl (E.mv rfl rfl ?_)
      refine E.on rfl rfl (E.sub' rfl rfl (by omega) rfl ?_)
      refine E.on rfl rfl (E.bin rfl rfl rfl rfl ?_)
      refine E.on rfl rfl (E.mv rfl rfl ?_)
      refine E.split 57 rfl (fun g57 => ?_) (fun g57 => ?_)
      ·
       try simp only [Ya, Yb, Yc, Yd, Ye, Yf] at g57
       refine E.on rfl rfl (E.mv rfl rfl ?_)
       refine E.on rfl rfl (E.bin rfl rfl rfl rfl ?_)
       refine E.on rfl rfl (E.pick rfl rfl rfl ?_)
       refine E.pick rfl rfl rfl <| E.asg rfl rfl <| E.nil <| X.join0 (Sub.cons (look_eq rfl (congrArg Value.bool (by (try unfold zn); first | exact (decide_eq_true (by omega)).symm | exact (decide_eq_false (by omega)).symm | exact decide_eq_decide.2 ⟨fun h => by omega, fun h => by omega⟩))) <| Sub.nil _) rfl rfl
      ·
       try simp only [Ya, Yb, Yc, Yd, Ye, Yf] at g57
       refine E.off rfl rfl rfl rfl <| E.off rfl rfl rfl rfl <| ?_
       refine E.on rfl rfl (E.pick rfl rfl rfl ?_)
       refine E.pick rfl rfl rfl <| E.asg rfl rfl <| E.nil <| X.join0 (Sub.cons (look_eq rfl (congrArg Value.bool (by (try unfold zn); first | exact (decide_eq_true (by omega)).symm | exact (decide_eq_false (by omega)).symm | exact decide_eq_decide.2 ⟨fun h => by omega, fun h => by omega⟩))) <| Sub.nil _) rfl rfl

   refine C.chainE [(0, _), (1, _), (2, _), (3, _), (11, _), (12, _), (13, _), (14, _)] rfl [(87, .bool (decide (¬ ((l[i] = 6 ∧ l[k] = 6) ∨ (l[i] = 6 ∧ l[k] = s - 7) ∨ (l[i] = s - 7 ∧ l[k] = 6)) ∧ l[i] - 2 ≤ x ∧ x ≤ l[i] + 2 ∧ l[k] - 2 ≤ y ∧ y ≤ l[k] + 2)))] ?_ ?_
   ·
    refine C.region <| E.mv rfl rfl <| E.not rfl rfl <| E.mv rfl rfl <| ?_
    refine E.split 64 rfl (fun g64 => ?_) (fun g64 => ?_)
    ·
     try simp only [Ya, Yb, Yc, Yd, Ye, Yf] at g64
     refine E.on rfl rfl (E.mv rfl rfl ?_)
     refine E.on rfl rfl (E.mv rfl rfl ?_)
     refine E.on rfl rfl (E.sub' rfl rfl (by omega) rfl ?_)
     refine E.on rfl rfl (E.bin rfl rfl rfl rfl ?_)
     refine E.pick rfl rfl rfl <| E.mv rfl rfl <| ?_
     refine E.split 70 rfl (fun g70 => ?_) (fun g70 => ?_)
     ·
      try simp only [Ya, Yb, Yc, Yd, Ye, Yf] at g70
      refine E.on rfl rfl (E.mv rfl rfl ?_)
      refine E.on rfl rfl (E.mv rfl rfl ?_)
      refine E.on rfl rfl (E.add rfl rfl (by omega) rfl ?_)
      refine E.on rfl rfl (E.bin rfl rfl rfl rfl ?_)
      refine E.pick rfl rfl rfl <| E.mv rfl rfl <| ?_
      refine E.split 76 rfl (fun g76 => ?_) (fun g76 => ?_)
      ·
       try simp only [Ya, Yb, Yc, Yd, Ye, Yf] at g76
       refine E.on rfl rfl (E.mv rfl rfl ?_)
       refine E.on rfl rfl (E.mv rfl rfl ?_)
       refine E.on rfl rfl (E.sub' rfl rfl (by omega) rfl ?_)
       refine E.on rfl rfl (E.bin rfl rfl rfl rfl ?_)
       refine E.pick rfl rfl rfl <| E.mv rfl rfl <| ?_
       refine E.split 82 rfl (fun g82 => ?_) (fun g82 => ?_)
       ·
        try simp only [Ya, Yb, Yc, Yd, Ye, Yf] at g82
        refine E.on rfl rfl (E.mv rfl rfl ?_)
        refine E.on rfl rfl (E.mv rfl rfl ?_)
        refine E.on rfl rfl (E.add rfl rfl (by omega) rfl ?_)
        refine E.on rfl rfl (E.bin rfl rfl rfl rfl ?_)
        refine E.pick rfl rfl rfl <| E.nil <| X.join0 (Sub.cons (look_eq rfl (congrArg Value.bool (by (try unfold zn); first | exact (decide_eq_true (by omega)).symm | exact (decide_eq_false (by omega)).symm | exact decide_eq_decide.2 ⟨fun h => by omega, fun h => by omega⟩))) <| Sub.nil _) rfl rfl
       ·
        try simp only [Ya, Yb, Yc, Yd, Ye, Yf] at g82
        refine E.off rfl rfl rfl rfl <| E.off rfl rfl rfl rfl <| E.off rfl rfl rfl rfl <| E.off rfl rfl rfl rfl <| E.pick rfl rfl rfl <| E.nil <| X.join0 (Sub.cons (look_eq rfl (congrArg Value.bool (by (try unfold zn); first | exact (decide_eq_true (by omega)).symm | exact (decide_eq_false (by omega)).symm | exact decide_eq_decide.2 ⟨fun h => by omega, fun h => by omega⟩))) <| Sub.nil _) rfl rfl
      ·
       try simp only [Ya, Yb, Yc, Yd, Ye, Yf] at g76
       refine E.off rfl rfl rfl rfl <| E.off rfl rfl rfl rfl <| E.off rfl rfl rfl rfl <| E.off rfl rfl rfl rfl <| E.pick rfl rfl rfl <| E.mv rfl rfl <| E.off rfl rfl rfl rfl <| E.off rfl rfl rfl rfl <| E.off rfl rfl rfl rfl <| E.off rfl rfl rfl rfl <| E.pick rfl rfl rfl <| E.nil <| X.join0 (Sub.cons (look_eq rfl (congrArg Value.bool (by (try unfold zn); first | exact (decide_eq_true (by omega)).symm | exact (decide_eq_false (by omega)).symm | exact decide_eq_decide.2 ⟨fun h => by omega, fun h => by omega⟩))) <| Sub.nil _) rfl rfl
     ·
      try simp only [Ya, Yb, Yc, Yd, Ye, Yf] at g70
      refine E.off rfl rfl rfl rfl <| E.off rfl rfl rfl rfl <| E.off rfl rfl rfl rfl <| E.off rfl rfl rfl rfl <| E.pick rfl rfl rfl <| E.mv rfl rfl <| E.off rfl rfl rfl rfl <| E.off rfl rfl rfl rfl <| E.off rfl rfl rfl rfl <| E.off rfl rfl rfl rfl <| E.pick rfl rfl rfl <| E.mv rfl rfl <| E.off rfl rfl rfl rfl <| E.off rfl rfl rfl rfl <| E.off rfl rfl rfl rfl <| E.off rfl rfl rfl rfl <| E.pick rfl rfl rfl <| E.nil <| X.join0 (Sub.cons (look_eq rfl (congrArg Value.bool (by (try unfold zn); first | exact (decide_eq_true (by omega)).symm | exact (decide_eq_false (by omega)).symm | exact decide_eq_decide.2 ⟨fun h => by omega, fun h => by omega⟩))) <| Sub.nil _) rfl rfl
    ·
     try simp only [Ya, Yb, Yc, Yd, Ye, Yf] at g64
     refine E.off rfl rfl rfl rfl <| E.off rfl rfl rfl rfl <| E.off rfl rfl rfl rfl <| E.off rfl rfl rfl rfl <| E.pick rfl rfl rfl <| E.mv rfl rfl <| E.off rfl rfl rfl rfl <| E.off rfl rfl rfl rfl <| E.off rfl rfl rfl rfl <| E.off rfl rfl rfl rfl <| E.pick rfl rfl rfl <| E.mv rfl rfl <| E.off rfl rfl rfl rfl <| E.off rfl rfl rfl rfl <| E.off rfl rfl rfl rfl <| E.off rfl rfl rfl rfl <| E.pick rfl rfl rfl <| E.mv rfl rfl <| E.off rfl rfl rfl rfl <| E.off rfl rfl rfl rfl <| E.off rfl rfl rfl rfl <| E.off rfl rfl rfl rfl <| E.pick rfl rfl rfl <| E.nil <| X.join0 (Sub.cons (look_eq rfl (congrArg Value.bool (by (try unfold zn); first | exact (decide_eq_true (by omega)).symm | exact (decide_eq_false (by omega)).symm | exact decide_eq_decide.2 ⟨fun h => by omega, fun h => by omega⟩))) <| Sub.nil _) rfl rfl
   refine C.cond' rfl (fun hC2 => ?_) (fun hC2 => ?_)
   ·
    refine C.seq <| C.region <| E.mv rfl rfl <| E.mv rfl rfl <| E.asg rfl rfl <| E.asg rfl rfl <| E.asg rfl rfl <| E.nil <| X.next <| C.ret <| X.retB <| X.retT <| X.retT <| X.retB <| X.retB <| X.retT <| X.retT <| X.retB <| X.retT <| ret3 rfl rfl rfl rfl ?_
    exact ⟨_, _, _, rfl, by omega, hM.toExt⟩
   ·
    refine C.skip <| X.outN <| X.next <| C.region <| E.mv rfl rfl <| ?_
    refine E.addN (a := k) (b := 1) rfl rfl (by omega) rfl ?_

    refine E.asg rfl rfl <| E.nil <| X.again1 (k + 1) (Sub.cons rfl <| Sub.nil _) rfl ⟨hM, by omega⟩ (by omega)
  ·
   refine C.exit <| X.exitT <| X.exitT <| X.outE <| X.outN <| X.next <| C.region <| E.mv rfl rfl <| ?_
   refine E.addN (a := i) (b := 1) rfl rfl (by omega) rfl ?_

   refine E.asg rfl rfl <| E.nil <| X.again1 (i + 1) (Sub.cons rfl <| Sub.nil _) rfl ⟨hM, by omega⟩ (by omega)
 ·
  refine C.exit <| X.exitT <| X.exitT <| X.outE <| X.next <| C.seq <| C.region <| E.asg rfl rfl <| E.asg rfl rfl <| E.asg rfl rfl <| E.nil <| X.next <| C.ret <| ret3 rfl rfl rfl rfl ?_
  exact ⟨_, _, _, rfl, by omega, hM.toExt⟩
set_option maxHeartbeats 2000000 in
theorem purpose_ret (p : Value) (l : List Int) (s x y : Int) (w : World) (hp : RdL i64 w p l) (hb : ∀ z ∈ l, -1000 ≤ z ∧ z ≤ 1000) (hs : 0 ≤ s ∧ s ≤ 1000 ∧ 0 ≤ x ∧ x ≤ 1000 ∧ 0 ≤ y ∧ y ≤ 1000) :
  Ret Try.prog 71 #[p, i64 s, i64 x, i64 y] w fun v w' => ∃ o : Int, v = i64 o ∧ (o = 2 ↔ zn s x y) ∧ Ext w w' := by
 have hM := M.start w
 refine enter Try.func71 rfl (by kernel_rfl) Try.ntmps71 rfl ?_
 refine C.seq <| C.region <| E.asg rfl rfl <| E.nil <| X.next <| C.seq <| C.region <| E.mv rfl rfl <| E.mv rfl rfl <| E.mv rfl rfl <| E.mv rfl rfl <| ?_
 refine E.call rfl rfl (aligned_ret p l s x y _ (hM.arg0 hp) hb hs) ?_
 rintro _ w0 ⟨a, b, c, rfl, hab, x0⟩
 have hM := hM.ext x0
 try dsimp only [Za, Zb, Zc, Zd, repl] at hM
 refine E.mv rfl rfl <| E.ext rfl rfl rfl <| E.ext rfl rfl rfl <| E.ext rfl rfl rfl <| E.asg rfl rfl <| E.asg rfl rfl <| E.asg rfl rfl <| E.nil <| X.next <| C.seq <| C.block <| ?_

 refine C.chainE [(1, _), (2, _), (3, _), (11, _)] rfl [(21, .bool (decide (zn s x y)))] ?_ ?_
 ·
  refine C.region <| E.mv rfl rfl <| E.bin rfl rfl rfl rfl <| E.mv rfl rfl <| ?_
  refine E.split 24 rfl (fun g24 => ?_) (fun g24 => ?_)
  ·
   try simp only [Ya, Yb, Yc, Yd, Ye, Yf] at g24
   refine E.on rfl rfl (E.mv rfl rfl ?_)
   refine E.on rfl rfl (E.bin rfl rfl rfl rfl ?_)
   refine E.pick rfl rfl rfl <| E.mv rfl rfl <| ?_
   refine E.split 28 rfl (fun g28 => ?_) (fun g28 => ?_)
   ·
    try simp only [Ya, Yb, Yc, Yd, Ye, Yf] at g28
    refine E.off rfl rfl rfl rfl <| E.off rfl rfl rfl rfl <| E.off rfl rfl rfl rfl <| E.off rfl rfl rfl rfl <| E.off rfl rfl rfl rfl <| E.offu rfl rfl rfl <| E.offu rfl rfl rfl <| E.off rfl rfl rfl rfl <| E.pick rfl rfl rfl <| E.mv rfl rfl <| E.off rfl rfl rfl rfl <| E.off rfl rfl rfl rfl <| E.off rfl rfl rfl rfl <| E.offu rfl rfl rfl <| E.offu rfl rfl rfl <| E.offu rfl rfl rfl <| E.offu rfl rfl rfl <| E.off rfl rfl rfl rfl <| E.pick rfl rfl rfl <| E.asg rfl rfl <| E.nil <| X.join0 (Sub.cons (look_eq rfl (congrArg Value.bool (by (try unfold zn); first | exact (decide_eq_true (by omega)).symm | exact (decide_eq_false (by omega)).symm | exact decide_eq_decide.2 ⟨fun h => by omega, fun h => by omega⟩))) <| Sub.nil _) rfl rfl
   ·
    try simp only [Ya, Yb, Yc, Yd, Ye, Yf] at g28
    refine E.on rfl rfl (E.mv rfl rfl ?_)
    refine E.on rfl rfl (E.mv rfl rfl ?_)
    refine E.on rfl rfl (E.sub' rfl rfl (by omega) rfl ?_)
    refine E.on rfl rfl (E.bin rfl rfl rfl rfl ?_)
    refine E.on rfl rfl (E.mv rfl rfl ?_)
    refine E.split 33 rfl (fun g33 => ?_) (fun g33 => ?_)
    ·
     try simp only [Ya, Yb, Yc, Yd, Ye, Yf] at g33
     refine E.on rfl rfl (E.mv rfl rfl ?_)
     refine E.on rfl rfl (E.bin rfl rfl rfl rfl ?_)
     refine E.on rfl rfl (E.pick rfl rfl rfl ?_)
     refine E.pick rfl rfl rfl <| E.mv rfl rfl <| ?_
     refine E.split 38 rfl (fun g38 => ?_) (fun g38 => ?_)
     ·
      try simp only [Ya, Yb, Yc, Yd, Ye, Yf] at g38
      refine E.off rfl rfl rfl rfl <| E.off rfl rfl rfl rfl <| E.off rfl rfl rfl rfl <| E.offu rfl rfl rfl <| E.offu rfl rfl rfl <| E.offu rfl rfl rfl <| E.offu rfl rfl rfl <| E.off rfl rfl rfl rfl <| E.pick rfl rfl rfl <| E.asg rfl rfl <| E.nil <| X.join0 (Sub.cons (look_eq rfl (congrArg Value.bool (by (try unfold zn); first | exact (decide_eq_true (by omega)).symm | exact (decide_eq_false (by omega)).symm | exact decide_eq_decide.2 ⟨fun h => by omega, fun h => by omega⟩))) <| Sub.nil _) rfl rfl
     ·
      try simp only [Ya, Yb, Yc, Yd, Ye, Yf] at g38
      refine E.on rfl rfl (E.mv rfl rfl ?_)
      refine E.on rfl rfl (E.bin rfl rfl rfl rfl ?_)
      refine E.on rfl rfl (E.mv rfl rfl ?_)
      refine E.split 41 rfl (fun g41 => ?_) (fun g41 => ?_)
      ·
       try simp only [Ya, Yb, Yc, Yd, Ye, Yf] at g41
       refine E.on rfl rfl (E.mv rfl rfl ?_)
       refine E.on rfl rfl (E.mv rfl rfl ?_)
       refine E.on rfl rfl (E.sub' rfl rfl (by omega) rfl ?_)
       refine E.on rfl rfl (E.bin rfl rfl rfl rfl ?_)
       refine E.on rfl rfl (E.pick rfl rfl rfl ?_)
       refine E.pick rfl rfl rfl <| E.asg rfl rfl <| E.nil <| X.join0 (Sub.cons (look_eq rfl (congrArg Value.bool (by (try unfold zn); first | exact (decide_eq_true (by omega)).symm | exact (decide_eq_false (by omega)).symm | exact decide_eq_decide.2 ⟨fun h => by omega, fun h => by omega⟩))) <| Sub.nil _) rfl rfl
      ·
       try simp only [Ya, Yb, Yc, Yd, Ye, Yf] at g41
       refine E.off rfl rfl rfl rfl <| E.off rfl rfl rfl rfl <| E.off rfl rfl rfl rfl <| E.off rfl rfl rfl rfl <| ?_
       refine E.on rfl rfl (E.pick rfl rfl rfl ?_)
       refine E.pick rfl rfl rfl <| E.asg rfl rfl <| E.nil <| X.join0 (Sub.cons (look_eq rfl (congrArg Value.bool (by (try unfold zn); first | exact (decide_eq_true (by omega)).symm | exact (decide_eq_false (by omega)).symm | exact decide_eq_decide.2 ⟨fun h => by omega, fun h => by omega⟩))) <| Sub.nil _) rfl rfl
    ·
     try simp only [Ya, Yb, Yc, Yd, Ye, Yf] at g33
     refine E.off rfl rfl rfl rfl <| E.off rfl rfl rfl rfl <| ?_
     refine E.on rfl rfl (E.pick rfl rfl rfl ?_)
     refine E.pick rfl rfl rfl <| E.mv rfl rfl <| ?_
     refine E.on rfl rfl (E.mv rfl rfl ?_)
     refine E.on rfl rfl (E.bin rfl rfl rfl rfl ?_)
     refine E.on rfl rfl (E.mv rfl rfl ?_)
     refine E.split 41 rfl (fun g41 => ?_) (fun g41 => ?_)
     ·
      try simp only [Ya, Yb, Yc, Yd, Ye, Yf] at g41
      refine E.on rfl rfl (E.mv rfl rfl ?_)
      refine E.on rfl rfl (E.mv rfl rfl ?_)
      refine E.on rfl rfl (E.sub' rfl rfl (by omega) rfl ?_)
      refine E.on rfl rfl (E.bin rfl rfl rfl rfl ?_)
      refine E.on rfl rfl (E.pick rfl rfl rfl ?_)
      refine E.pick rfl rfl rfl <| E.asg rfl rfl <| E.nil <| X.join0 (Sub.cons (look_eq rfl (congrArg Value.bool (by (try unfold zn); first | exact (decide_eq_true (by omega)).symm | exact (decide_eq_false (by omega)).symm | exact decide_eq_decide.2 ⟨fun h => by omega, fun h => by omega⟩))) <| Sub.nil _) rfl rfl
     ·
      try simp only [Ya, Yb, Yc, Yd, Ye, Yf] at g41
      refine E.off rfl rfl rfl rfl <| E.off rfl rfl rfl rfl <| E.off rfl rfl rfl rfl <| E.off rfl rfl rfl rfl <| ?_
      refine E.on rfl rfl (E.pick rfl rfl rfl ?_)
      refine E.pick rfl rfl rfl <| E.asg rfl rfl <| E.nil <| X.join0 (Sub.cons (look_eq rfl (congrArg Value.bool (by (try unfold zn); first | exact (decide_eq_true (by omega)).symm | exact (decide_eq_false (by omega)).symm | exact decide_eq_decide.2 ⟨fun h => by omega, fun h => by omega⟩))) <| Sub.nil _) rfl rfl
  ·
   try simp only [Ya, Yb, Yc, Yd, Ye, Yf] at g24
   refine E.off rfl rfl rfl rfl <| E.off rfl rfl rfl rfl <| E.pick rfl rfl rfl <| E.mv rfl rfl <| ?_
   refine E.on rfl rfl (E.mv rfl rfl ?_)
   refine E.on rfl rfl (E.mv rfl rfl ?_)
   refine E.on rfl rfl (E.sub' rfl rfl (by omega) rfl ?_)
   refine E.on rfl rfl (E.bin rfl rfl rfl rfl ?_)
   refine E.on rfl rfl (E.mv rfl rfl ?_)
   refine E.split 33 rfl (fun g33 => ?_) (fun g33 => ?_)
   ·
    try simp only [Ya, Yb, Yc, Yd, Ye, Yf] at g33
    refine E.on rfl rfl (E.mv rfl rfl ?_)
    refine E.on rfl rfl (E.bin rfl rfl rfl rfl ?_)
    refine E.on rfl rfl (E.pick rfl rfl rfl ?_)
    refine E.pick rfl rfl rfl <| E.mv rfl rfl <| ?_
    refine E.split 38 rfl (fun g38 => ?_) (fun g38 => ?_)
    ·
     try simp only [Ya, Yb, Yc, Yd, Ye, Yf] at g38
     refine E.off rfl rfl rfl rfl <| E.off rfl rfl rfl rfl <| E.off rfl rfl rfl rfl <| E.offu rfl rfl rfl <| E.offu rfl rfl rfl <| E.offu rfl rfl rfl <| E.offu rfl rfl rfl <| E.off rfl rfl rfl rfl <| E.pick rfl rfl rfl <| E.asg rfl rfl <| E.nil <| X.join0 (Sub.cons (look_eq rfl (congrArg Value.bool (by (try unfold zn); first | exact (decide_eq_true (by omega)).symm | exact (decide_eq_false (by omega)).symm | exact decide_eq_decide.2 ⟨fun h => by omega, fun h => by omega⟩))) <| Sub.nil _) rfl rfl
    ·
     try simp only [Ya, Yb, Yc, Yd, Ye, Yf] at g38
     refine E.on rfl rfl (E.mv rfl rfl ?_)
     refine E.on rfl rfl (E.bin rfl rfl rfl rfl ?_)
     refine E.on rfl rfl (E.mv rfl rfl ?_)
     refine E.split 41 rfl (fun g41 => ?_) (fun g41 => ?_)
     ·
      try simp only [Ya, Yb, Yc, Yd, Ye, Yf] at g41
      refine E.on rfl rfl (E.mv rfl rfl ?_)
      refine E.on rfl rfl (E.mv rfl rfl ?_)
      refine E.on rfl rfl (E.sub' rfl rfl (by omega) rfl ?_)
      refine E.on rfl rfl (E.bin rfl rfl rfl rfl ?_)
      refine E.on rfl rfl (E.pick rfl rfl rfl ?_)
      refine E.pick rfl rfl rfl <| E.asg rfl rfl <| E.nil <| X.join0 (Sub.cons (look_eq rfl (congrArg Value.bool (by (try unfold zn); first | exact (decide_eq_true (by omega)).symm | exact (decide_eq_false (by omega)).symm | exact decide_eq_decide.2 ⟨fun h => by omega, fun h => by omega⟩))) <| Sub.nil _) rfl rfl
     ·
      try simp only [Ya, Yb, Yc, Yd, Ye, Yf] at g41
      refine E.off rfl rfl rfl rfl <| E.off rfl rfl rfl rfl <| E.off rfl rfl rfl rfl <| E.off rfl rfl rfl rfl <| ?_
      refine E.on rfl rfl (E.pick rfl rfl rfl ?_)
      refine E.pick rfl rfl rfl <| E.asg rfl rfl <| E.nil <| X.join0 (Sub.cons (look_eq rfl (congrArg Value.bool (by (try unfold zn); first | exact (decide_eq_true (by omega)).symm | exact (decide_eq_false (by omega)).symm | exact decide_eq_decide.2 ⟨fun h => by omega, fun h => by omega⟩))) <| Sub.nil _) rfl rfl
   ·
    try simp only [Ya, Yb, Yc, Yd, Ye, Yf] at g33
    refine E.off rfl rfl rfl rfl <| E.off rfl rfl rfl rfl <| ?_
    refine E.on rfl rfl (E.pick rfl rfl rfl ?_)
    refine E.pick rfl rfl rfl <| E.mv rfl rfl <| ?_
    refine E.on rfl rfl (E.mv rfl rfl ?_)
    refine E.on rfl rfl (E.bin rfl rfl rfl rfl ?_)
    refine E.on rfl rfl (E.mv rfl rfl ?_)
    refine E.split 41 rfl (fun g41 => ?_) (fun g41 => ?_)
    ·
     try simp only [Ya, Yb, Yc, Yd, Ye, Yf] at g41
     refine E.on rfl rfl (E.mv rfl rfl ?_)
     refine E.on rfl rfl (E.mv rfl rfl ?_)
     refine E.on rfl rfl (E.sub' rfl rfl (by omega) rfl ?_)
     refine E.on rfl rfl (E.bin rfl rfl rfl rfl ?_)
     refine E.on rfl rfl (E.pick rfl rfl rfl ?_)
     refine E.pick rfl rfl rfl <| E.asg rfl rfl <| E.nil <| X.join0 (Sub.cons (look_eq rfl (congrArg Value.bool (by (try unfold zn); first | exact (decide_eq_true (by omega)).symm | exact (decide_eq_false (by omega)).symm | exact decide_eq_decide.2 ⟨fun h => by omega, fun h => by omega⟩))) <| Sub.nil _) rfl rfl
    ·
     try simp only [Ya, Yb, Yc, Yd, Ye, Yf] at g41
     refine E.off rfl rfl rfl rfl <| E.off rfl rfl rfl rfl <| E.off rfl rfl rfl rfl <| E.off rfl rfl rfl rfl <| ?_
     refine E.on rfl rfl (E.pick rfl rfl rfl ?_)
     refine E.pick rfl rfl rfl <| E.asg rfl rfl <| E.nil <| X.join0 (Sub.cons (look_eq rfl (congrArg Value.bool (by (try unfold zn); first | exact (decide_eq_true (by omega)).symm | exact (decide_eq_false (by omega)).symm | exact decide_eq_decide.2 ⟨fun h => by omega, fun h => by omega⟩))) <| Sub.nil _) rfl rfl
 refine C.cond' rfl (fun hC0 => ?_) (fun hC0 => ?_)
 ·
  refine C.seq <| C.region <| E.asg rfl rfl <| E.nil <| X.next <| C.ret <| X.retB <| X.retT <| ret1 rfl rfl ?_
  exact ⟨_, rfl, ⟨fun _ => hC0, fun _ => rfl⟩, hM.toExt⟩
 ·
  refine C.seq <| C.region <| E.mv rfl rfl <| E.asg rfl rfl <| E.nil <| X.next <| ?_
  refine C.cond rfl (fun hC1 => ?_) (fun hC1 => ?_)
  ·
   refine C.seq <| C.region <| E.asg rfl rfl <| E.nil <| X.next <| C.ret <| X.retB <| X.retT <| ret1 rfl rfl ?_
   exact ⟨_, rfl, ⟨fun h => (by cases h), fun h => (hC0 h).elim⟩, hM.toExt⟩
  ·

   refine C.chainE [(1, _), (2, _), (3, _)] rfl [(50, .bool (decide (x = 6 ∨ y = 6)))] ?_ ?_
   ·
    refine C.region <| E.mv rfl rfl <| E.bin rfl rfl rfl rfl <| E.mv rfl rfl <| ?_
    refine E.split 53 rfl (fun g53 => ?_) (fun g53 => ?_)
    ·
     try simp only [Ya, Yb, Yc, Yd, Ye, Yf] at g53
     refine E.off rfl rfl rfl rfl <| E.off rfl rfl rfl rfl <| E.pick rfl rfl rfl <| E.asg rfl rfl <| E.nil <| X.join0 (Sub.cons (look_eq rfl (congrArg Value.bool (by (try unfold zn); first | exact (decide_eq_true (by omega)).symm | exact (decide_eq_false (by omega)).symm | exact decide_eq_decide.2 ⟨fun h => by omega, fun h => by omega⟩))) <| Sub.nil _) rfl rfl
    ·
     try simp only [Ya, Yb, Yc, Yd, Ye, Yf] at g53
     refine E.on rfl rfl (E.mv rfl rfl ?_)
     refine E.on rfl rfl (E.bin rfl rfl rfl rfl ?_)
     refine E.pick rfl rfl rfl <| E.asg rfl rfl <| E.nil <| X.join0 (Sub.cons (look_eq rfl (congrArg Value.bool (by (try unfold zn); first | exact (decide_eq_true (by omega)).symm | exact (decide_eq_false (by omega)).symm | exact decide_eq_decide.2 ⟨fun h => by omega, fun h => by omega⟩))) <| Sub.nil _) rfl rfl
   refine C.cond' rfl (fun hC2 => ?_) (fun hC2 => ?_)
   ·
    refine C.seq <| C.region <| E.asg rfl rfl <| E.nil <| X.next <| C.ret <| X.retB <| X.retT <| ret1 rfl rfl ?_
    exact ⟨_, rfl, ⟨fun h => (by cases h), fun h => (hC0 h).elim⟩, hM.toExt⟩
   ·

    refine C.chainE [(1, _), (2, _), (3, _)] rfl [(57, .bool (decide (x = 8 ∧ y = s - 8)))] ?_ ?_
    ·
     refine C.region <| E.mv rfl rfl <| E.bin rfl rfl rfl rfl <| E.mv rfl rfl <| ?_
     refine E.split 60 rfl (fun g60 => ?_) (fun g60 => ?_)
     ·
      try simp only [Ya, Yb, Yc, Yd, Ye, Yf] at g60
      refine E.on rfl rfl (E.mv rfl rfl ?_)
      refine E.on rfl rfl (E.mv rfl rfl ?_)
      refine E.on rfl rfl (E.sub' rfl rfl (by omega) rfl ?_)
      refine E.on rfl rfl (E.bin rfl rfl rfl rfl ?_)
      refine E.pick rfl rfl rfl <| E.asg rfl rfl <| E.nil <| X.join0 (Sub.cons (look_eq rfl (congrArg Value.bool (by (try unfold zn); first | exact (decide_eq_true (by omega)).symm | exact (decide_eq_false (by omega)).symm | exact decide_eq_decide.2 ⟨fun h => by omega, fun h => by omega⟩))) <| Sub.nil _) rfl rfl
     ·
      try simp only [Ya, Yb, Yc, Yd, Ye, Yf] at g60
      refine E.off rfl rfl rfl rfl <| E.off rfl rfl rfl rfl <| E.off rfl rfl rfl rfl <| E.off rfl rfl rfl rfl <| E.pick rfl rfl rfl <| E.asg rfl rfl <| E.nil <| X.join0 (Sub.cons (look_eq rfl (congrArg Value.bool (by (try unfold zn); first | exact (decide_eq_true (by omega)).symm | exact (decide_eq_false (by omega)).symm | exact decide_eq_decide.2 ⟨fun h => by omega, fun h => by omega⟩))) <| Sub.nil _) rfl rfl
    refine C.cond' rfl (fun hC3 => ?_) (fun hC3 => ?_)
    ·
     refine C.seq <| C.region <| E.asg rfl rfl <| E.nil <| X.next <| C.ret <| X.retB <| X.retT <| ret1 rfl rfl ?_
     exact ⟨_, rfl, ⟨fun h => (by cases h), fun h => (hC0 h).elim⟩, hM.toExt⟩
    ·

     refine C.chainE [(1, _), (2, _), (3, _)] rfl [(66, .bool (decide ((y = 8 ∧ (x ≤ 8 ∨ s - 8 ≤ x)) ∨ (x = 8 ∧ (y ≤ 8 ∨ s - 7 ≤ y)))))] ?_ ?_
     ·
      refine C.region <| E.mv rfl rfl <| E.bin rfl rfl rfl rfl <| E.mv rfl rfl <| ?_
      refine E.split 69 rfl (fun g69 => ?_) (fun g69 => ?_)
      ·
       try simp only [Ya, Yb, Yc, Yd, Ye, Yf] at g69
       refine E.on rfl rfl (E.mv rfl rfl ?_)
       refine E.on rfl rfl (E.bin rfl rfl rfl rfl ?_)
       refine E.on rfl rfl (E.mv rfl rfl ?_)
       refine E.split 72 rfl (fun g72 => ?_) (fun g72 => ?_)
       ·
        try simp only [Ya, Yb, Yc, Yd, Ye, Yf] at g72
        refine E.off rfl rfl rfl rfl <| E.off rfl rfl rfl rfl <| E.off rfl rfl rfl rfl <| E.off rfl rfl rfl rfl <| ?_
        refine E.on rfl rfl (E.pick rfl rfl rfl ?_)
        refine E.pick rfl rfl rfl <| E.mv rfl rfl <| E.off rfl rfl rfl rfl <| E.off rfl rfl rfl rfl <| E.off rfl rfl rfl rfl <| E.offu rfl rfl rfl <| E.offu rfl rfl rfl <| E.offu rfl rfl rfl <| E.offu rfl rfl rfl <| E.offu rfl rfl rfl <| E.offu rfl rfl rfl <| E.offu rfl rfl rfl <| E.offu rfl rfl rfl <| E.off rfl rfl rfl rfl <| E.pick rfl rfl rfl <| E.asg rfl rfl <| E.nil <| X.join0 (Sub.cons (look_eq rfl (congrArg Value.bool (by (try unfold zn); first | exact (decide_eq_true (by omega)).symm | exact (decide_eq_false (by omega)).symm | exact decide_eq_decide.2 ⟨fun h => by omega, fun h => by omega⟩))) <| Sub.nil _) rfl rfl
       ·
        try simp only [Ya, Yb, Yc, Yd, Ye, Yf] at g72
        refine E.on rfl rfl (E.mv rfl rfl ?_)
        refine E.on rfl rfl (E.mv rfl rfl ?_)
        refine E.on rfl rfl (E.sub' rfl rfl (by omega) rfl ?_)
        refine E.on rfl rfl (E.bin rfl rfl rfl rfl ?_)
        refine E.on rfl rfl (E.pick rfl rfl rfl ?_)
        refine E.pick rfl rfl rfl <| E.mv rfl rfl <| ?_
        refine E.split 79 rfl (fun g79 => ?_) (fun g79 => ?_)
        ·
         try simp only [Ya, Yb, Yc, Yd, Ye, Yf] at g79
         refine E.off rfl rfl rfl rfl <| E.off rfl rfl rfl rfl <| E.off rfl rfl rfl rfl <| E.offu rfl rfl rfl <| E.offu rfl rfl rfl <| E.offu rfl rfl rfl <| E.offu rfl rfl rfl <| E.offu rfl rfl rfl <| E.offu rfl rfl rfl <| E.offu rfl rfl rfl <| E.offu rfl rfl rfl <| E.off rfl rfl rfl rfl <| E.pick rfl rfl rfl <| E.asg rfl rfl <| E.nil <| X.join0 (Sub.cons (look_eq rfl (congrArg Value.bool (by (try unfold zn); first | exact (decide_eq_true (by omega)).symm | exact (decide_eq_false (by omega)).symm | exact decide_eq_decide.2 ⟨fun h => by omega, fun h => by omega⟩))) <| Sub.nil _) rfl rfl
        ·
         try simp only [Ya, Yb, Yc, Yd, Ye, Yf] at g79
         refine E.on rfl rfl (E.mv rfl rfl ?_)
         refine E.on rfl rfl (E.bin rfl rfl rfl rfl ?_)
         refine E.on rfl rfl (E.mv rfl rfl ?_)
         refine E.split 82 rfl (fun g82 => ?_) (fun g82 => ?_)
         ·
          try simp only [Ya, Yb, Yc, Yd, Ye, Yf] at g82
          refine E.on rfl rfl (E.mv rfl rfl ?_)
          refine E.on rfl rfl (E.bin rfl rfl rfl rfl ?_)
          refine E.on rfl rfl (E.mv rfl rfl ?_)
          refine E.split 85 rfl (fun g85 => ?_) (fun g85 => ?_)
          ·
           try simp only [Ya, Yb, Yc, Yd, Ye, Yf] at g85
           refine E.off rfl rfl rfl rfl <| E.off rfl rfl rfl rfl <| E.off rfl rfl rfl rfl <| E.off rfl rfl rfl rfl <| ?_
           refine E.on rfl rfl (E.pick rfl rfl rfl ?_)
           refine E.on rfl rfl (E.pick rfl rfl rfl ?_)
           refine E.pick rfl rfl rfl <| E.asg rfl rfl <| E.nil <| X.join0 (Sub.cons (look_eq rfl (congrArg Value.bool (by (try unfold zn); first | exact (decide_eq_true (by omega)).symm | exact (decide_eq_false (by omega)).symm | exact decide_eq_decide.2 ⟨fun h => by omega, fun h => by omega⟩))) <| Sub.nil _) rfl rfl
          ·
           try simp only [Ya, Yb, Yc, Yd, Ye, Yf] at g85
           refine E.on rfl rfl (E.mv rfl rfl ?_)
           refine E.on rfl rfl (E.mv rfl rfl ?_)
           refine E.on rfl rfl (E.sub' rfl rfl (by omega) rfl ?_)
           refine E.on rfl rfl (E.bin rfl rfl rfl rfl ?_)
           refine E.on rfl rfl (E.pick rfl rfl rfl ?_)
           refine E.on rfl rfl (E.pick rfl rfl rfl ?_)
           refine E.pick rfl rfl rfl <| E.asg rfl rfl <| E.nil <| X.join0 (Sub.cons (look_eq rfl (congrArg Value.bool (by (try unfold zn); first | exact (decide_eq_true (by omega)).symm | exact (decide_eq_false (by omega)).symm | exact decide_eq_decide.2 ⟨fun h => by omega, fun h => by omega⟩))) <| Sub.nil _) rfl rfl
         ·
          try simp only [Ya, Yb, Yc, Yd, Ye, Yf] at g82
          refine E.off rfl rfl rfl rfl <| E.off rfl rfl rfl rfl <| E.off rfl rfl rfl rfl <| E.offu rfl rfl rfl <| E.offu rfl rfl rfl <| E.offu rfl rfl rfl <| E.offu rfl rfl rfl <| E.off rfl rfl rfl rfl <| ?_
          refine E.on rfl rfl (E.pick rfl rfl rfl ?_)
          refine E.pick rfl rfl rfl <| E.asg rfl rfl <| E.nil <| X.join0 (Sub.cons (look_eq rfl (congrArg Value.bool (by (try unfold zn); first | exact (decide_eq_true (by omega)).symm | exact (decide_eq_false (by omega)).symm | exact decide_eq_decide.2 ⟨fun h => by omega, fun h => by omega⟩))) <| Sub.nil _) rfl rfl
      ·
       try simp only [Ya, Yb, Yc, Yd, Ye, Yf] at g69
       refine E.off rfl rfl rfl rfl <| E.off rfl rfl rfl rfl <| E.off rfl rfl rfl rfl <| E.offu rfl rfl rfl <| E.offu rfl rfl rfl <| E.offu rfl rfl rfl <| E.offu rfl rfl rfl <| E.off rfl rfl rfl rfl <| E.pick rfl rfl rfl <| E.mv rfl rfl <| ?_
       refine E.on rfl rfl (E.mv rfl rfl ?_)
       refine E.on rfl rfl (E.bin rfl rfl rfl rfl ?_)
       refine E.on rfl rfl (E.mv rfl rfl ?_)
       refine E.split 82 rfl (fun g82 => ?_) (fun g82 => ?_)
       ·
        try simp only [Ya, Yb, Yc, Yd, Ye, Yf] at g82
        refine E.on rfl rfl (E.mv rfl rfl ?_)
        refine E.on rfl rfl (E.bin rfl rfl rfl rfl ?_)
        refine E.on rfl rfl (E.mv rfl rfl ?_)
        refine E.split 85 rfl (fun g85 => ?_) (fun g85 => ?_)
        ·
         try simp only [Ya, Yb, Yc, Yd, Ye, Yf] at g85
         refine E.off rfl rfl rfl rfl <| E.off rfl rfl rfl rfl <| E.off rfl rfl rfl rfl <| E.off rfl rfl rfl rfl <| ?_
         refine E.on rfl rfl (E.pick rfl rfl rfl ?_)
         refine E.on rfl rfl (E.pick rfl rfl rfl ?_)
         refine E.pick rfl rfl rfl <| E.asg rfl rfl <| E.nil <| X.join0 (Sub.cons (look_eq rfl (congrArg Value.bool (by (try unfold zn); first | exact (decide_eq_true (by omega)).symm | exact (decide_eq_false (by omega)).symm | exact decide_eq_decide.2 ⟨fun h => by omega, fun h => by omega⟩))) <| Sub.nil _) rfl rfl
        ·
         try simp only [Ya, Yb, Yc, Yd, Ye, Yf] at g85
         refine E.on rfl rfl (E.mv rfl rfl ?_)
         refine E.on rfl rfl (E.mv rfl rfl ?_)
         refine E.on rfl rfl (E.sub' rfl rfl (by omega) rfl ?_)
         refine E.on rfl rfl (E.bin rfl rfl rfl rfl ?_)
         refine E.on rfl rfl (E.pick rfl rfl rfl ?_)
         refine E.on rfl rfl (E.pick rfl rfl rfl ?_)
         refine E.pick rfl rfl rfl <| E.asg rfl rfl <| E.nil <| X.join0 (Sub.cons (look_eq rfl (congrArg Value.bool (by (try unfold zn); first | exact (decide_eq_true (by omega)).symm | exact (decide_eq_false (by omega)).symm | exact decide_eq_decide.2 ⟨fun h => by omega, fun h => by omega⟩))) <| Sub.nil _) rfl rfl
       ·
        try simp only [Ya, Yb, Yc, Yd, Ye, Yf] at g82
        refine E.off rfl rfl rfl rfl <| E.off rfl rfl rfl rfl <| E.off rfl rfl rfl rfl <| E.offu rfl rfl rfl <| E.offu rfl rfl rfl <| E.offu rfl rfl rfl <| E.offu rfl rfl rfl <| E.off rfl rfl rfl rfl <| ?_
        refine E.on rfl rfl (E.pick rfl rfl rfl ?_)
        refine E.pick rfl rfl rfl <| E.asg rfl rfl <| E.nil <| X.join0 (Sub.cons (look_eq rfl (congrArg Value.bool (by (try unfold zn); first | exact (decide_eq_true (by omega)).symm | exact (decide_eq_false (by omega)).symm | exact decide_eq_decide.2 ⟨fun h => by omega, fun h => by omega⟩))) <| Sub.nil _) rfl rfl
     refine C.cond' rfl (fun hC4 => ?_) (fun hC4 => ?_)
     ·
      refine C.seq <| C.region <| E.asg rfl rfl <| E.nil <| X.next <| C.ret <| X.retB <| X.retT <| ret1 rfl rfl ?_
      exact ⟨_, rfl, ⟨fun h => (by cases h), fun h => (hC0 h).elim⟩, hM.toExt⟩
     ·

      refine C.chainE [] rfl [(93, .bool (decide (45 ≤ s ∧ ((s - 11 ≤ x ∧ x ≤ s - 9 ∧ y ≤ 5) ∨ (s - 11 ≤ y ∧ y ≤ s - 9 ∧ x ≤ 5)))))] ?_ ?_
      ·
       refine C.region <| E.mv rfl rfl <| E.bin rfl rfl rfl rfl <| E.mv rfl rfl <| ?_
       refine E.split 96 rfl (fun g96 => ?_) (fun g96 => ?_)
       ·
        try simp only [Ya, Yb, Yc, Yd, Ye, Yf] at g96
        refine E.on rfl rfl (E.mv rfl rfl ?_)
        refine E.on rfl rfl (E.mv rfl rfl ?_)
        refine E.on rfl rfl (E.sub' rfl rfl (by omega) rfl ?_)
        refine E.on rfl rfl (E.bin rfl rfl rfl rfl ?_)
        refine E.on rfl rfl (E.mv rfl rfl ?_)
        refine E.split 101 rfl (fun g101 => ?_) (fun g101 => ?_)
        ·
         try simp only [Ya, Yb, Yc, Yd, Ye, Yf] at g101
         refine E.on rfl rfl (E.mv rfl rfl ?_)
         refine E.on rfl rfl (E.mv rfl rfl ?_)
         refine E.on rfl rfl (E.sub' rfl rfl (by omega) rfl ?_)
         refine E.on rfl rfl (E.bin rfl rfl rfl rfl ?_)
         refine E.on rfl rfl (E.pick rfl rfl rfl ?_)
         refine E.on rfl rfl (E.mv rfl rfl ?_)
         refine E.split 107 rfl (fun g107 => ?_) (fun g107 => ?_)
         ·
          try simp only [Ya, Yb, Yc, Yd, Ye, Yf] at g107
          refine E.on rfl rfl (E.mv rfl rfl ?_)
          refine E.on rfl rfl (E.bin rfl rfl rfl rfl ?_)
          refine E.on rfl rfl (E.pick rfl rfl rfl ?_)
          refine E.on rfl rfl (E.mv rfl rfl ?_)
          refine E.split 111 rfl (fun g111 => ?_) (fun g111 => ?_)
          ·
           try simp only [Ya, Yb, Yc, Yd, Ye, Yf] at g111
           refine E.off rfl rfl rfl rfl <| E.off rfl rfl rfl rfl <| E.off rfl rfl rfl rfl <| E.off rfl rfl rfl rfl <| E.off rfl rfl rfl rfl <| E.offu rfl rfl rfl <| E.offu rfl rfl rfl <| E.offu rfl rfl rfl <| E.offu rfl rfl rfl <| E.off rfl rfl rfl rfl <| E.off rfl rfl rfl rfl <| E.offu rfl rfl rfl <| E.offu rfl rfl rfl <| E.off rfl rfl rfl rfl <| ?_
           refine E.on rfl rfl (E.pick rfl rfl rfl ?_)
           refine E.pick rfl rfl rfl <| E.asg rfl rfl <| E.nil <| X.join0 (Sub.cons (look_eq rfl (congrArg Value.bool (by (try unfold zn); first | exact (decide_eq_true (by omega)).symm | exact (decide_eq_false (by omega)).symm | exact decide_eq_decide.2 ⟨fun h => by omega, fun h => by omega⟩))) <| Sub.nil _) rfl rfl
          ·
           try simp only [Ya, Yb, Yc, Yd, Ye, Yf] at g111
           refine E.on rfl rfl (E.mv rfl rfl ?_)
           refine E.on rfl rfl (E.mv rfl rfl ?_)
           refine E.on rfl rfl (E.sub' rfl rfl (by omega) rfl ?_)
           refine E.on rfl rfl (E.bin rfl rfl rfl rfl ?_)
           refine E.on rfl rfl (E.mv rfl rfl ?_)
           refine E.split 116 rfl (fun g116 => ?_) (fun g116 => ?_)
           ·
            try simp only [Ya, Yb, Yc, Yd, Ye, Yf] at g116
            refine E.on rfl rfl (E.mv rfl rfl ?_)
            refine E.on rfl rfl (E.mv rfl rfl ?_)
            refine E.on rfl rfl (E.sub' rfl rfl (by omega) rfl ?_)
            refine E.on rfl rfl (E.bin rfl rfl rfl rfl ?_)
            refine E.on rfl rfl (E.pick rfl rfl rfl ?_)
            refine E.on rfl rfl (E.mv rfl rfl ?_)
            refine E.split 122 rfl (fun g122 => ?_) (fun g122 => ?_)
            ·
             try simp only [Ya, Yb, Yc, Yd, Ye, Yf] at g122
             refine E.on rfl rfl (E.mv rfl rfl ?_)
             refine E.on rfl rfl (E.bin rfl rfl rfl rfl ?_)
             refine E.on rfl rfl (E.pick rfl rfl rfl ?_)
             refine E.on rfl rfl (E.pick rfl rfl rfl ?_)
             refine E.pick rfl rfl rfl <| E.asg rfl rfl <| E.nil <| X.join0 (Sub.cons (look_eq rfl (congrArg Value.bool (by (try unfold zn); first | exact (decide_eq_true (by omega)).symm | exact (decide_eq_false (by omega)).symm | exact decide_eq_decide.2 ⟨fun h => by omega, fun h => by omega⟩))) <| Sub.nil _) rfl rfl
            ·
             try simp only [Ya, Yb, Yc, Yd, Ye, Yf] at g122
             refine E.off rfl rfl rfl rfl <| E.off rfl rfl rfl rfl <| ?_
             refine E.on rfl rfl (E.pick rfl rfl rfl ?_)
             refine E.on rfl rfl (E.pick rfl rfl rfl ?_)
             refine E.pick rfl rfl rfl <| E.asg rfl rfl <| E.nil <| X.join0 (Sub.cons (look_eq rfl (congrArg Value.bool (by (try unfold zn); first | exact (decide_eq_true (by omega)).symm | exact (decide_eq_false (by omega)).symm | exact decide_eq_decide.2 ⟨fun h => by omega, fun h => by omega⟩))) <| Sub.nil _) rfl rfl
           ·
            try simp only [Ya, Yb, Yc, Yd, Ye, Yf] at g116
            refine E.off rfl rfl rfl rfl <| E.off rfl rfl rfl rfl <| E.off rfl rfl rfl rfl <| E.off rfl rfl rfl rfl <| ?_
            refine E.on rfl rfl (E.pick rfl rfl rfl ?_)
            refine E.on rfl rfl (E.mv rfl rfl ?_)
            refine E.off rfl rfl rfl rfl <| E.off rfl rfl rfl rfl <| ?_
            refine E.on rfl rfl (E.pick rfl rfl rfl ?_)
            refine E.on rfl rfl (E.pick rfl rfl rfl ?_)
            refine E.pick rfl rfl rfl <| E.asg rfl rfl <| E.nil <| X.join0 (Sub.cons (look_eq rfl (congrArg Value.bool (by (try unfold zn); first | exact (decide_eq_true (by omega)).symm | exact (decide_eq_false (by omega)).symm | exact decide_eq_decide.2 ⟨fun h => by omega, fun h => by omega⟩))) <| Sub.nil _) rfl rfl
         ·
          try simp only [Ya, Yb, Yc, Yd, Ye, Yf] at g107
          refine E.off rfl rfl rfl rfl <| E.off rfl rfl rfl rfl <| ?_
          refine E.on rfl rfl (E.pick rfl rfl rfl ?_)
          refine E.on rfl rfl (E.mv rfl rfl ?_)
          refine E.on rfl rfl (E.mv rfl rfl ?_)
          refine E.on rfl rfl (E.mv rfl rfl ?_)
          refine E.on rfl rfl (E.sub' rfl rfl (by omega) rfl ?_)
          refine E.on rfl rfl (E.bin rfl rfl rfl rfl ?_)
          refine E.on rfl rfl (E.mv rfl rfl ?_)
          refine E.split 116 rfl (fun g116 => ?_) (fun g116 => ?_)
          ·
           try simp only [Ya, Yb, Yc, Yd, Ye, Yf] at g116
           refine E.on rfl rfl (E.mv rfl rfl ?_)
           refine E.on rfl rfl (E.mv rfl rfl ?_)
           refine E.on rfl rfl (E.sub' rfl rfl (by omega) rfl ?_)
           refine E.on rfl rfl (E.bin rfl rfl rfl rfl ?_)
           refine E.on rfl rfl (E.pick rfl rfl rfl ?_)
           refine E.on rfl rfl (E.mv rfl rfl ?_)
           refine E.split 122 rfl (fun g122 => ?_) (fun g122 => ?_)
           ·
            try simp only [Ya, Yb, Yc, Yd, Ye, Yf] at g122
            refine E.on rfl rfl (E.mv rfl rfl ?_)
            refine E.on rfl rfl (E.bin rfl rfl rfl rfl ?_)
            refine E.on rfl rfl (E.pick rfl rfl rfl ?_)
            refine E.on rfl rfl (E.pick rfl rfl rfl ?_)
            refine E.pick rfl rfl rfl <| E.asg rfl rfl <| E.nil <| X.join0 (Sub.cons (look_eq rfl (congrArg Value.bool (by (try unfold zn); first | exact (decide_eq_true (by omega)).symm | exact (decide_eq_false (by omega)).symm | exact decide_eq_decide.2 ⟨fun h => by omega, fun h => by omega⟩))) <| Sub.nil _) rfl rfl
           ·
            try simp only [Ya, Yb, Yc, Yd, Ye, Yf] at g122
            refine E.off rfl rfl rfl rfl <| E.off rfl rfl rfl rfl <| ?_
            refine E.on rfl rfl (E.pick rfl rfl rfl ?_)
            refine E.on rfl rfl (E.pick rfl rfl rfl ?_)
            refine E.pick rfl rfl rfl <| E.asg rfl rfl <| E.nil <| X.join0 (Sub.cons (look_eq rfl (congrArg Value.bool (by (try unfold zn); first | exact (decide_eq_true (by omega)).symm | exact (decide_eq_false (by omega)).symm | exact decide_eq_decide.2 ⟨fun h => by omega, fun h => by omega⟩))) <| Sub.nil _) rfl rfl
          ·
           try simp only [Ya, Yb, Yc, Yd, Ye, Yf] at g116
           refine E.off rfl rfl rfl rfl <| E.off rfl rfl rfl rfl <| E.off rfl rfl rfl rfl <| E.off rfl rfl rfl rfl <| ?_
           refine E.on rfl rfl (E.pick rfl rfl rfl ?_)
           refine E.on rfl rfl (E.mv rfl rfl ?_)
           refine E.off rfl rfl rfl rfl <| E.off rfl rfl rfl rfl <| ?_
           refine E.on rfl rfl (E.pick rfl rfl rfl ?_)
           refine E.on rfl rfl (E.pick rfl rfl rfl ?_)
           refine E.pick rfl rfl rfl <| E.asg rfl rfl <| E.nil <| X.join0 (Sub.cons (look_eq rfl (congrArg Value.bool (by (try unfold zn); first | exact (decide_eq_true (by omega)).symm | exact (decide_eq_false (by omega)).symm | exact decide_eq_decide.2 ⟨fun h => by omega, fun h => by omega⟩))) <| Sub.nil _) rfl rfl
        ·
         try simp only [Ya, Yb, Yc, Yd, Ye, Yf] at g101
         refine E.off rfl rfl rfl rfl <| E.off rfl rfl rfl rfl <| E.off rfl rfl rfl rfl <| E.off rfl rfl rfl rfl <| ?_
         refine E.on rfl rfl (E.pick rfl rfl rfl ?_)
         refine E.on rfl rfl (E.mv rfl rfl ?_)
         refine E.off rfl rfl rfl rfl <| E.off rfl rfl rfl rfl <| ?_
         refine E.on rfl rfl (E.pick rfl rfl rfl ?_)
         refine E.on rfl rfl (E.mv rfl rfl ?_)
         refine E.on rfl rfl (E.mv rfl rfl ?_)
         refine E.on rfl rfl (E.mv rfl rfl ?_)
         refine E.on rfl rfl (E.sub' rfl rfl (by omega) rfl ?_)
         refine E.on rfl rfl (E.bin rfl rfl rfl rfl ?_)
         refine E.on rfl rfl (E.mv rfl rfl ?_)
         refine E.split 116 rfl (fun g116 => ?_) (fun g116 => ?_)
         ·
          try simp only [Ya, Yb, Yc, Yd, Ye, Yf] at g116
          refine E.on rfl rfl (E.mv rfl rfl ?_)
          refine E.on rfl rfl (E.mv rfl rfl ?_)
          refine E.on rfl rfl (E.sub' rfl rfl (by omega) rfl ?_)
          refine E.on rfl rfl (E.bin rfl rfl rfl rfl ?_)
          refine E.on rfl rfl (E.pick rfl rfl rfl ?_)
          refine E.on rfl rfl (E.mv rfl rfl ?_)
          refine E.split 122 rfl (fun g122 => ?_) (fun g122 => ?_)
          ·
           try simp only [Ya, Yb, Yc, Yd, Ye, Yf] at g122
           refine E.on rfl rfl (E.mv rfl rfl ?_)
           refine E.on rfl rfl (E.bin rfl rfl rfl rfl ?_)
           refine E.on rfl rfl (E.pick rfl rfl rfl ?_)
           refine E.on rfl rfl (E.pick rfl rfl rfl ?_)
           refine E.pick rfl rfl rfl <| E.asg rfl rfl <| E.nil <| X.join0 (Sub.cons (look_eq rfl (congrArg Value.bool (by (try unfold zn); first | exact (decide_eq_true (by omega)).symm | exact (decide_eq_false (by omega)).symm | exact decide_eq_decide.2 ⟨fun h => by omega, fun h => by omega⟩))) <| Sub.nil _) rfl rfl
          ·
           try simp only [Ya, Yb, Yc, Yd, Ye, Yf] at g122
           refine E.off rfl rfl rfl rfl <| E.off rfl rfl rfl rfl <| ?_
           refine E.on rfl rfl (E.pick rfl rfl rfl ?_)
           refine E.on rfl rfl (E.pick rfl rfl rfl ?_)
           refine E.pick rfl rfl rfl <| E.asg rfl rfl <| E.nil <| X.join0 (Sub.cons (look_eq rfl (congrArg Value.bool (by (try unfold zn); first | exact (decide_eq_true (by omega)).symm | exact (decide_eq_false (by omega)).symm | exact decide_eq_decide.2 ⟨fun h => by omega, fun h => by omega⟩))) <| Sub.nil _) rfl rfl
         ·
          try simp only [Ya, Yb, Yc, Yd, Ye, Yf] at g116
          refine E.off rfl rfl rfl rfl <| E.off rfl rfl rfl rfl <| E.off rfl rfl rfl rfl <| E.off rfl rfl rfl rfl <| ?_
          refine E.on rfl rfl (E.pick rfl rfl rfl ?_)
          refine E.on rfl rfl (E.mv rfl rfl ?_)
          refine E.off rfl rfl rfl rfl <| E.off rfl rfl rfl rfl <| ?_
          refine E.on rfl rfl (E.pick rfl rfl rfl ?_)
          refine E.on rfl rfl (E.pick rfl rfl rfl ?_)
          refine E.pick rfl rfl rfl <| E.asg rfl rfl <| E.nil <| X.join0 (Sub.cons (look_eq rfl (congrArg Value.bool (by (try unfold zn); first | exact (decide_eq_true (by omega)).symm | exact (decide_eq_false (by omega)).symm | exact decide_eq_decide.2 ⟨fun h => by omega, fun h => by omega⟩))) <| Sub.nil _) rfl rfl
       ·
        try simp only [Ya, Yb, Yc, Yd, Ye, Yf] at g96
        refine E.off rfl rfl rfl rfl <| E.off rfl rfl rfl rfl <| E.off rfl rfl rfl rfl <| E.off rfl rfl rfl rfl <| E.off rfl rfl rfl rfl <| E.offu rfl rfl rfl <| E.offu rfl rfl rfl <| E.offu rfl rfl rfl <| E.offu rfl rfl rfl <| E.off rfl rfl rfl rfl <| E.off rfl rfl rfl rfl <| E.offu rfl rfl rfl <| E.offu rfl rfl rfl <| E.off rfl rfl rfl rfl <| E.off rfl rfl rfl rfl <| E.offu rfl rfl rfl <| E.offu rfl rfl rfl <| E.offu rfl rfl rfl <| E.offu rfl rfl rfl <| E.offu rfl rfl rfl <| E.offu rfl rfl rfl <| E.offu rfl rfl rfl <| E.offu rfl rfl rfl <| E.offu rfl rfl rfl <| E.offu rfl rfl rfl <| E.offu rfl rfl rfl <| E.offu rfl rfl rfl <| E.offu rfl rfl rfl <| E.offu rfl rfl rfl <| E.off rfl rfl rfl rfl <| E.pick rfl rfl rfl <| E.asg rfl rfl <| E.nil <| X.join0 (Sub.cons (look_eq rfl (congrArg Value.bool (by (try unfold zn); first | exact (decide_eq_true (by omega)).symm | exact (decide_eq_false (by omega)).symm | exact decide_eq_decide.2 ⟨fun h => by omega, fun h => by omega⟩))) <| Sub.nil _) rfl rfl
      refine C.cond' rfl (fun hC5 => ?_) (fun hC5 => ?_)
      ·
       refine C.seq <| C.region <| E.asg rfl rfl <| E.nil <| X.next <| C.ret <| X.retB <| X.retT <| ret1 rfl rfl ?_
       exact ⟨_, rfl, ⟨fun h => (by cases h), fun h => (hC0 h).elim⟩, hM.toExt⟩
      ·
       refine C.skip <| X.outN <| X.next <| C.seq <| C.region <| E.asg rfl rfl <| E.nil <| X.next <| C.ret <| ret1 rfl rfl ?_
       exact ⟨_, rfl, ⟨fun h => (by cases h), fun h => (hC0 h).elim⟩, hM.toExt⟩
end Go.Proofs.Ytbinlkobmlebpaa
