/- finder: the reference's stripes. -/
import Derived.Test.YtbinlkobmlebpaaB0
import Derived.Test.YtbinlkobmlebpaaB17
import Derived.Test.YtbinlkobmlebpaaB18
set_option linter.unusedSimpArgs false
set_option linter.unusedVariables false
namespace Go.Proofs.Ytbinlkobmlebpaa
open Go.RowKit Sym
open Fi
namespace Fi
def BI (row : List Bool) (k n a b : Nat) : Prop := n = brs row k ∧ ((n = 0 ∧ a = 0 ∧ b = 0 ∧ ∀ j, j < k → row.getD j false = false) ∨ (1 ≤ n ∧ a ≤ b ∧ b < k ∧ row.getD a false = true ∧ row.getD b false = true ∧ (∀ j, j < a → row.getD j false = false) ∧ ∀ j, b < j → j < k → row.getD j false = false))
theorem BI.light {row : List Bool} {k n a b : Nat} (h : BI row k n a b) (hk : row.getD k false = false) : BI row (k + 1) n a b := by
 obtain ⟨h1, h2⟩ := h
 refine ⟨by rw [brs_f (fun hc => by rw [hk] at hc; cases hc.1)]; exact h1, ?_⟩
 rcases h2 with ⟨a1, a2, a3, a4⟩ | ⟨a1, a2, a3, a4, a5, a6, a7⟩
 · exact .inl ⟨a1, a2, a3, fun j hj => if e : j = k then e ▸ hk else a4 j (by omega)⟩
 · exact .inr ⟨a1, a2, by omega, a4, a5, a6, fun j h1 h2 => if e : j = k then e ▸ hk else a7 j h1 (by omega)⟩
theorem BI.dark {row : List Bool} {k n a b : Nat} (h : BI row k n a b) (hk : row.getD k false = true) : BI row (k + 1) (n + if k = 0 ∨ row.getD (k - 1) false = false then 1 else 0) (if n = 0 then k else a) k := by
  obtain ⟨h1, h2⟩ := h
  refine ⟨?_, .inr ?_⟩
  · by_cases e : k = 0 ∨ row.getD (k - 1) false = false
    · rw [brs_t ⟨hk, e⟩, if_pos e, h1]
    · rw [brs_f (fun hc => e hc.2), if_neg e, h1, Nat.add_zero]
  · rcases h2 with ⟨a1, a2, a3, a4⟩ | ⟨a1, a2, a3, a4, a5, a6, a7⟩
    · have e : k = 0 ∨ row.getD (k - 1) false = false := by
        by_cases e0 : k = 0
        · exact .inl e0
        · exact .inr (a4 _ (by omega))
      rw [if_pos e, if_pos a1]
      exact ⟨by omega, Nat.le_refl _, by omega, hk, hk, a4, fun j h1 h2 => by omega⟩
    · rw [if_neg (show ¬ n = 0 by omega)]
      exact ⟨by omega, by omega, by omega, a4, hk, a6, fun j h1 h2 => by omega⟩
theorem BI.mar {row : List Bool} {n a b : Nat} (h : BI row row.length n a b) : n = brs row row.length ∧ (1 ≤ n → a = lft row ∧ a ≤ b ∧ b + 1 + rgt row = row.length) := by
 obtain ⟨h1, h2⟩ := h
 refine ⟨h1, fun hn => ?_⟩
 obtain ⟨a1, a2, a3, a4, a5, a6, a7⟩ := h2.resolve_left (by omega)
 have hm : MarP row a (row.length - 1 - b) := ⟨by omega, a6, fun _ => a4, by omega, fun j hj => a7 _ (by omega) (by omega), fun _ => by rw [show row.length - 1 - (row.length - 1 - b) = b by omega]; exact a5⟩
 obtain ⟨e1, e2⟩ := mar_one hm
 exact ⟨e1, a2, by omega⟩
theorem row_get {dk : List Bool} {W H a x : Nat} (hn : dk.length = W * H) (ha : a < H) (hx : x < W) : (rowOf dk W a)[x]? = dk[a * W + x]? := by
 unfold rowOf cutL
 rw [List.getElem?_take, if_pos (by rw [Nat.add_mul]; omega), List.getElem?_drop]
end Fi
theorem Sound_ret (W H : Int) (vd : Value) (dk : List Bool) (w : World) (hr : RdL Value.bool w vd dk) :
  Ret Try.prog 39 #[mat W H vd] w fun v w' => v = .bool (decide (okMat W H dk.length)) ∧ Ext w w' := by
 have hM := M.start w
 refine enter Try.func39 rfl (by kernel_rfl) Try.ntmps39 rfl ?_
 refine C.seq <| C.region <| ?_
 refine E.boxM (cs := [i64 W, i64 H, vd]) hM rfl (by obtain ⟨a, cap, rfl, _⟩ := hr; rfl) rfl ?_
 intro b1 w0 hM
 try dsimp only [Za, Zb, Zc, Zd, repl] at hM
 refine E.asg rfl rfl <| E.nil <| X.next <| ?_

 refine C.chainE [] rfl [(2, .bool (decide (okMat W H dk.length)))] ?_ ?_
 ·
  refine C.region <| ?_
  refine E.fld (o := 0) (sz := 0) rfl Try.underlying37 rfl rfl (by kernel_rfl) rfl ?_
  refine E.load rfl Try.underlying3 rfl (hM.bcell 0 rfl rfl) rfl ?_
  refine E.bin rfl rfl rfl rfl <| E.mv rfl rfl <| ?_
  refine E.split 6 rfl (fun g6 => ?_) (fun g6 => ?_)
  ·
   try simp only [Ya, Yb, Yc, Yd, Ye, Yf] at g6
   refine E.on rfl rfl (E.fld (o := 0) (sz := 0) rfl Try.underlying37 rfl rfl (by kernel_rfl) rfl ?_)
   refine E.on rfl rfl (E.load rfl Try.underlying3 rfl (hM.bcell 0 rfl rfl) rfl ?_)
   refine E.on rfl rfl (E.bin rfl rfl rfl rfl ?_)
   refine E.pick rfl rfl rfl <| E.mv rfl rfl <| ?_
   refine E.split 11 rfl (fun g11 => ?_) (fun g11 => ?_)
   ·
    try simp only [Ya, Yb, Yc, Yd, Ye, Yf] at g11
    refine E.on rfl rfl (E.fld (o := 1) (sz := 0) rfl Try.underlying37 rfl rfl (by kernel_rfl) rfl ?_)
    refine E.on rfl rfl (E.load rfl Try.underlying3 rfl (hM.bcell 0 rfl rfl) rfl ?_)
    refine E.on rfl rfl (E.bin rfl rfl rfl rfl ?_)
    refine E.pick rfl rfl rfl <| E.mv rfl rfl <| ?_
    refine E.split 16 rfl (fun g16 => ?_) (fun g16 => ?_)
    ·
     try simp only [Ya, Yb, Yc, Yd, Ye, Yf] at g16
     refine E.on rfl rfl (E.fld (o := 1) (sz := 0) rfl Try.underlying37 rfl rfl (by kernel_rfl) rfl ?_)
     refine E.on rfl rfl (E.load rfl Try.underlying3 rfl (hM.bcell 0 rfl rfl) rfl ?_)
     refine E.on rfl rfl (E.bin rfl rfl rfl rfl ?_)
     refine E.pick rfl rfl rfl <| E.mv rfl rfl <| ?_
     refine E.split 21 rfl (fun g21 => ?_) (fun g21 => ?_)
     ·
      try simp only [Ya, Yb, Yc, Yd, Ye, Yf] at g21
      have hmm := mul_b (a := W) (b := H) (A := 4096) (B := 4096) (by omega) (by omega)
      refine E.on rfl rfl (E.fld (o := 0) (sz := 0) rfl Try.underlying37 rfl rfl (by kernel_rfl) rfl ?_)
      refine E.on rfl rfl (E.load rfl Try.underlying3 rfl (hM.bcell 0 rfl rfl) rfl ?_)
      refine E.on rfl rfl (E.fld (o := 1) (sz := 0) rfl Try.underlying37 rfl rfl (by kernel_rfl) rfl ?_)
      refine E.on rfl rfl (E.load rfl Try.underlying3 rfl (hM.bcell 0 rfl rfl) rfl ?_)
      refine E.on rfl rfl (E.mul rfl rfl (by omega) rfl ?_)
      refine E.on rfl rfl (E.bin rfl rfl rfl rfl ?_)
      refine E.pick rfl rfl rfl <| E.mv rfl rfl <| ?_
      refine E.split 29 rfl (fun g29 => ?_) (fun g29 => ?_)
      ·
       try simp only [Ya, Yb, Yc, Yd, Ye, Yf] at g29
       refine E.on rfl rfl (E.fld (o := 2) (sz := 0) rfl Try.underlying37 rfl rfl (by kernel_rfl) rfl ?_)
       refine E.on rfl rfl (E.load rfl Try.underlying35 rfl (hM.bcell 0 rfl rfl) rfl ?_)
       refine E.on rfl rfl (E.lenv rfl (Rd.shape (hM.arg0 hr)) Try.underlying35 rfl ?_)
       refine E.on rfl rfl (E.fld (o := 0) (sz := 0) rfl Try.underlying37 rfl rfl (by kernel_rfl) rfl ?_)
       refine E.on rfl rfl (E.load rfl Try.underlying3 rfl (hM.bcell 0 rfl rfl) rfl ?_)
       refine E.on rfl rfl (E.fld (o := 1) (sz := 0) rfl Try.underlying37 rfl rfl (by kernel_rfl) rfl ?_)
       refine E.on rfl rfl (E.load rfl Try.underlying3 rfl (hM.bcell 0 rfl rfl) rfl ?_)
       refine E.on rfl rfl (E.mul rfl rfl (by omega) rfl ?_)
       refine E.on rfl rfl (E.bin rfl rfl rfl rfl ?_)
       refine E.pick rfl rfl rfl <| E.asg rfl rfl <| E.nil <| X.join0 (Sub.cons (look_eq rfl (congrArg Value.bool (by unfold okMat okSize; first | exact (decide_eq_false (by omega)).symm | exact decide_eq_decide.2 ⟨fun h => by omega, fun h => by omega⟩))) <| Sub.nil _) rfl rfl
      ·
       try simp only [Ya, Yb, Yc, Yd, Ye, Yf] at g29
       refine E.off rfl rfl rfl rfl <| E.off rfl rfl rfl rfl <| E.off rfl rfl rfl rfl <| E.off rfl rfl rfl rfl <| E.off rfl rfl rfl rfl <| E.off rfl rfl rfl rfl <| E.off rfl rfl rfl rfl <| E.off rfl rfl rfl rfl <| E.off rfl rfl rfl rfl <| E.pick rfl rfl rfl <| E.asg rfl rfl <| E.nil <| X.join0 (Sub.cons (look_eq rfl (congrArg Value.bool (by unfold okMat okSize; first | exact (decide_eq_false (by omega)).symm | exact decide_eq_decide.2 ⟨fun h => by omega, fun h => by omega⟩))) <| Sub.nil _) rfl rfl
     ·
      try simp only [Ya, Yb, Yc, Yd, Ye, Yf] at g21
      refine E.off rfl rfl rfl rfl <| E.off rfl rfl rfl rfl <| E.off rfl rfl rfl rfl <| E.off rfl rfl rfl rfl <| E.off rfl rfl rfl rfl <| E.off rfl rfl rfl rfl <| E.pick rfl rfl rfl <| E.mv rfl rfl <| E.off rfl rfl rfl rfl <| E.off rfl rfl rfl rfl <| E.off rfl rfl rfl rfl <| E.off rfl rfl rfl rfl <| E.off rfl rfl rfl rfl <| E.off rfl rfl rfl rfl <| E.off rfl rfl rfl rfl <| E.off rfl rfl rfl rfl <| E.off rfl rfl rfl rfl <| E.pick rfl rfl rfl <| E.asg rfl rfl <| E.nil <| X.join0 (Sub.cons (look_eq rfl (congrArg Value.bool (by unfold okMat okSize; first | exact (decide_eq_false (by omega)).symm | exact decide_eq_decide.2 ⟨fun h => by omega, fun h => by omega⟩))) <| Sub.nil _) rfl rfl
    ·
     try simp only [Ya, Yb, Yc, Yd, Ye, Yf] at g16
     refine E.off rfl rfl rfl rfl <| E.off rfl rfl rfl rfl <| E.off rfl rfl rfl rfl <| E.pick rfl rfl rfl <| E.mv rfl rfl <| E.off rfl rfl rfl rfl <| E.off rfl rfl rfl rfl <| E.off rfl rfl rfl rfl <| E.off rfl rfl rfl rfl <| E.off rfl rfl rfl rfl <| E.off rfl rfl rfl rfl <| E.pick rfl rfl rfl <| E.mv rfl rfl <| E.off rfl rfl rfl rfl <| E.off rfl rfl rfl rfl <| E.off rfl rfl rfl rfl <| E.off rfl rfl rfl rfl <| E.off rfl rfl rfl rfl <| E.off rfl rfl rfl rfl <| E.off rfl rfl rfl rfl <| E.off rfl rfl rfl rfl <| E.off rfl rfl rfl rfl <| E.pick rfl rfl rfl <| E.asg rfl rfl <| E.nil <| X.join0 (Sub.cons (look_eq rfl (congrArg Value.bool (by unfold okMat okSize; first | exact (decide_eq_false (by omega)).symm | exact decide_eq_decide.2 ⟨fun h => by omega, fun h => by omega⟩))) <| Sub.nil _) rfl rfl
   ·
    try simp only [Ya, Yb, Yc, Yd, Ye, Yf] at g11
    refine E.off rfl rfl rfl rfl <| E.off rfl rfl rfl rfl <| E.off rfl rfl rfl rfl <| E.pick rfl rfl rfl <| E.mv rfl rfl <| E.off rfl rfl rfl rfl <| E.off rfl rfl rfl rfl <| E.off rfl rfl rfl rfl <| E.pick rfl rfl rfl <| E.mv rfl rfl <| E.off rfl rfl rfl rfl <| E.off rfl rfl rfl rfl <| E.off rfl rfl rfl rfl <| E.off rfl rfl rfl rfl <| E.off rfl rfl rfl rfl <| E.off rfl rfl rfl rfl <| E.pick rfl rfl rfl <| E.mv rfl rfl <| E.off rfl rfl rfl rfl <| E.off rfl rfl rfl rfl <| E.off rfl rfl rfl rfl <| E.off rfl rfl rfl rfl <| E.off rfl rfl rfl rfl <| E.off rfl rfl rfl rfl <| E.off rfl rfl rfl rfl <| E.off rfl rfl rfl rfl <| E.off rfl rfl rfl rfl <| E.pick rfl rfl rfl <| E.asg rfl rfl <| E.nil <| X.join0 (Sub.cons (look_eq rfl (congrArg Value.bool (by unfold okMat okSize; first | exact (decide_eq_false (by omega)).symm | exact decide_eq_decide.2 ⟨fun h => by omega, fun h => by omega⟩))) <| Sub.nil _) rfl rfl
  ·
   try simp only [Ya, Yb, Yc, Yd, Ye, Yf] at g6
   refine E.off rfl rfl rfl rfl <| E.off rfl rfl rfl rfl <| E.off rfl rfl rfl rfl <| E.pick rfl rfl rfl <| E.mv rfl rfl <| E.off rfl rfl rfl rfl <| E.off rfl rfl rfl rfl <| E.off rfl rfl rfl rfl <| E.pick rfl rfl rfl <| E.mv rfl rfl <| E.off rfl rfl rfl rfl <| E.off rfl rfl rfl rfl <| E.off rfl rfl rfl rfl <| E.pick rfl rfl rfl <| E.mv rfl rfl <| E.off rfl rfl rfl rfl <| E.off rfl rfl rfl rfl <| E.off rfl rfl rfl rfl <| E.off rfl rfl rfl rfl <| E.off rfl rfl rfl rfl <| E.off rfl rfl rfl rfl <| E.pick rfl rfl rfl <| E.mv rfl rfl <| E.off rfl rfl rfl rfl <| E.off rfl rfl rfl rfl <| E.off rfl rfl rfl rfl <| E.off rfl rfl rfl rfl <| E.off rfl rfl rfl rfl <| E.off rfl rfl rfl rfl <| E.off rfl rfl rfl rfl <| E.off rfl rfl rfl rfl <| E.off rfl rfl rfl rfl <| E.pick rfl rfl rfl <| E.asg rfl rfl <| E.nil <| X.join0 (Sub.cons (look_eq rfl (congrArg Value.bool (by unfold okMat okSize; first | exact (decide_eq_false (by omega)).symm | exact decide_eq_decide.2 ⟨fun h => by omega, fun h => by omega⟩))) <| Sub.nil _) rfl rfl
 refine C.ret <| ret1 rfl rfl ?_
 exact ⟨rfl, hM.toExt⟩
set_option maxHeartbeats 1000000 in
theorem sameRow_ret (vd : Value) (dk : List Bool) (W H a b : Nat) (w : World) (hr : RdL Value.bool w vd dk) (hW : 1 ≤ W ∧ W ≤ 4096) (hH : 1 ≤ H ∧ H ≤ 4096) (hn : dk.length = W * H) (hn2 : dk.length ≤ 4194304) (ha : a < H) (hb : b < H) :
  Ret Try.prog 47 #[mat W H vd, i64 a, i64 b] w fun v w' => v = .bool (decide (rowOf dk W a = rowOf dk W b)) ∧ Ext w w' := by
 have hM := M.start w
 refine enter Try.func47 rfl (by kernel_rfl) Try.ntmps47 rfl ?_
 refine C.seq <| C.region <| ?_
 refine E.boxM (cs := [i64 W, i64 H, vd]) hM rfl (by obtain ⟨a, cap, rfl, _⟩ := hr; rfl) rfl ?_
 intro b3 w0 hM
 try dsimp only [Za, Zb, Zc, Zd, repl] at hM
 refine E.asg rfl rfl <| E.nil <| X.next <| C.seq <| C.seq <| C.region <| E.asg rfl rfl <| E.nil <| X.next <| C.block <| ?_
 have hrow_a : a * W + W ≤ dk.length := by
  have h1 := Nat.mul_le_mul_right W (show a + 1 ≤ H by omega)
  rw [Nat.add_mul, Nat.one_mul, Nat.mul_comm H W, ← hn] at h1; exact h1
 have hrow_b : b * W + W ≤ dk.length := by
  have h1 := Nat.mul_le_mul_right W (show b + 1 ≤ H by omega)
  rw [Nat.add_mul, Nat.one_mul, Nat.mul_comm H W, ← hn] at h1; exact h1
 have hla := rowOf_len hn ha
 have hlb := rowOf_len hn hb

 refine C.loop1 [(1, _), (2, _), (3, _)] rfl (fun (x : Nat) => [(7, i64 x)]) (fun (x : Nat) w' => M w (Nn) w' [Rg.blk b3 37 [i64 W, i64 H, vd]] ∧ x ≤ W ∧ ∀ j, j < x → (rowOf dk W a)[j]? = (rowOf dk W b)[j]?) (fun (x : Nat) => W - x) 0 ?_ ?_ ?_
 · exact Sub.cons rfl <| Sub.nil _
 · exact ⟨hM, Nat.zero_le _, fun j h => by omega⟩
 rintro x w1 ⟨hM, hx, hI⟩
 refine C.seq <| C.seq <| C.region <| E.mv rfl rfl <| ?_
 refine E.fld (o := 0) (sz := 0) rfl Try.underlying37 rfl rfl (by kernel_rfl) rfl ?_
 refine E.load rfl Try.underlying3 rfl (hM.bcell 0 rfl rfl) rfl ?_
 refine E.bin rfl rfl rfl rfl <| E.nil <| X.next <| ?_
 refine C.cond' rfl (fun hC0 => ?_) (fun hC0 => ?_)
 ·
  have hx' : x < W := by omega
  have hA : a * W + x < dk.length := by omega
  have hB : b * W + x < dk.length := by omega
  refine C.skip <| X.next <| C.seq <| C.block <| C.seq <| C.drawn (by kernel_rfl) (by kernel_rfl) <| ?_
  refine Q.fld (o := 2) (sz := 0) rfl Try.underlying37 rfl rfl (by kernel_rfl) rfl ?_
  refine Q.load rfl Try.underlying35 rfl (hM.bcell 0 rfl rfl) rfl ?_
  refine Q.mv rfl rfl <| ?_
  refine Q.fld (o := 0) (sz := 0) rfl Try.underlying37 rfl rfl (by kernel_rfl) rfl ?_
  refine Q.load rfl Try.underlying3 rfl (hM.bcell 0 rfl rfl) rfl ?_
  refine Q.mulN (a := a) (b := W) rfl rfl (by omega) rfl ?_
  refine Q.mv rfl rfl <| ?_
  refine Q.addN (a := a * W) (b := x) rfl rfl (by omega) rfl ?_
  refine Q.idx1 (k := a * W + x) rfl rfl (hM.arg0 hr) rfl hA Try.underlying35 (by kernel_rfl) rfl ?_
  refine Q.load rfl Try.underlying4 rfl ((hM.arg0 hr).cellA rfl hA) rfl ?_
  refine Q.fld (o := 2) (sz := 0) rfl Try.underlying37 rfl rfl (by kernel_rfl) rfl ?_
  refine Q.load rfl Try.underlying35 rfl (hM.bcell 0 rfl rfl) rfl ?_
  refine Q.mv rfl rfl <| ?_
  refine Q.fld (o := 0) (sz := 0) rfl Try.underlying37 rfl rfl (by kernel_rfl) rfl ?_
  refine Q.load rfl Try.underlying3 rfl (hM.bcell 0 rfl rfl) rfl ?_
  refine Q.mulN (a := b) (b := W) rfl rfl (by omega) rfl ?_
  refine Q.mv rfl rfl <| ?_
  refine Q.addN (a := b * W) (b := x) rfl rfl (by omega) rfl ?_
  refine Q.idx1 (k := b * W + x) rfl rfl (hM.arg0 hr) rfl hB Try.underlying35 (by kernel_rfl) rfl ?_
  refine Q.load rfl Try.underlying4 rfl ((hM.arg0 hr).cellA rfl hB) rfl ?_
  refine Q.neb rfl rfl Try.underlying4 rfl <| Q.nil <| fun w2 hx2 => ?_
  have hM := hM.ext hx2
  refine X.next <| ?_
  refine C.cond rfl (fun hC1 => ?_) (fun hC1 => ?_)
  ·
   have hne : dk[a * W + x] ≠ dk[b * W + x] := by simpa using hC1
   refine C.seq <| C.region <| E.asg rfl rfl <| E.nil <| X.next <| C.ret <| X.retB <| X.retT <| X.retT <| X.retB <| X.retT <| ret1 rfl rfl ?_
   exact ⟨by congr 1; exact (decide_eq_false (fun h => hne (by have h2 := congrArg (·[x]?) h; simp only [row_get hn ha hx', row_get hn hb hx', List.getElem?_eq_getElem hA, List.getElem?_eq_getElem hB] at h2; exact Option.some.inj h2))).symm, hM.toExt⟩
  ·
   have heq : dk[a * W + x] = dk[b * W + x] := by simpa using hC1
   refine C.skip <| X.outN <| X.next <| C.region <| E.mv rfl rfl <| ?_
   refine E.add rfl rfl (by omega) rfl ?_

   refine E.asg rfl rfl <| E.nil <| X.again1 (x + 1) (Sub.cons rfl <| Sub.nil _) rfl ⟨hM, by omega, fun j hj => if e : j = x then by subst e; rw [row_get hn ha hx', row_get hn hb hx', List.getElem?_eq_getElem hA, List.getElem?_eq_getElem hB, heq] else hI j (by omega)⟩ (by omega)
 ·
  obtain rfl : x = W := by omega
  refine C.exit <| X.exitT <| X.exitT <| X.outE <| X.next <| C.seq <| C.region <| E.asg rfl rfl <| E.nil <| X.next <| C.ret <| ret1 rfl rfl ?_
  exact ⟨by congr 1; exact (decide_eq_true (List.ext_getElem? fun j => by
    by_cases e : j < x
    · exact hI j e
    · rw [List.getElem?_eq_none (by omega), List.getElem?_eq_none (by omega)])).symm, hM.toExt⟩
set_option maxHeartbeats 1000000 in
theorem bars_ret (p : Value) (row : List Bool) (w : World) (hp : RdL Value.bool w p row) (hl : row.length ≤ 1000000) :
  Ret Try.prog 48 #[p] w fun v w' => ∃ n a b : Nat, v = .tuple #[i64 n, i64 a, i64 b] ∧ BI row row.length n a b ∧ Ext w w' := by
 have hM := M.start w
 refine enter Try.func48 rfl (by kernel_rfl) Try.ntmps48 rfl ?_
 refine C.seq <| C.region <| E.asg rfl rfl <| E.asg rfl rfl <| E.asg rfl rfl <| E.nil <| X.next <| C.seq <| C.region <| E.asg rfl rfl <| E.asg rfl rfl <| E.asg rfl rfl <| E.nil <| X.next <| C.seq <| C.seq <| C.region <| E.asg rfl rfl <| E.nil <| X.next <| C.block <| ?_

 refine C.loop4 [(0, _)] rfl (fun (k : Nat) (n : Nat) (a : Nat) (b : Nat) => [(5, i64 n), (6, i64 a), (7, i64 b), (8, i64 k)]) (fun (k : Nat) (n : Nat) (a : Nat) (b : Nat) w' => M w (Nn) w' [] ∧ k ≤ row.length ∧ BI row k n a b) (fun (k : Nat) (n : Nat) (a : Nat) (b : Nat) => row.length - k) 0 0 0 0 ?_ ?_ ?_
 · exact Sub.cons rfl <| Sub.cons rfl <| Sub.cons rfl <| Sub.cons rfl <| Sub.nil _
 · exact ⟨hM, Nat.zero_le _, rfl, .inl ⟨rfl, rfl, rfl, fun j h => by omega⟩⟩
 rintro k n a b w0 ⟨hM, hk, hB⟩
 refine C.seq <| C.seq <| C.region <| E.mv rfl rfl <| E.mv rfl rfl <| ?_
 refine E.lenv rfl (Rd.shape (hM.arg0 hp)) Try.underlying35 rfl ?_
 refine E.bin rfl rfl rfl rfl <| E.nil <| X.next <| ?_
 refine C.cond' rfl (fun hC0 => ?_) (fun hC0 => ?_)
 ·
  have hk' : k < row.length := by omega
  have hnb : n ≤ k := by rw [hB.1]; exact brs_le _ _
  refine C.skip <| X.next <| ?_

  refine C.cut3 [(0, _), (8, _)] rfl (fun (n : Nat) (a : Nat) (b : Nat) => [(5, i64 n), (6, i64 a), (7, i64 b)]) (fun (n : Nat) (a : Nat) (b : Nat) w' => M w (Nn) w' [] ∧ BI row (k + 1) n a b) ?_ ?_
  ·
   refine C.block <| C.seq <| C.seq <| C.region <| E.mv rfl rfl <| E.mv rfl rfl <| ?_
   refine E.get (k := k) rfl rfl (hM.arg0 hp) rfl hk' Try.underlying35 (by kernel_rfl) Try.underlying4 rfl rfl rfl ?_
   refine E.not rfl rfl <| E.nil <| X.next <| ?_
   refine C.cond rfl (fun hC1 => ?_) (fun hC1 => ?_)
   ·
    have hlt : row.getD k false = false := by rw [← gb hk']; simpa using hC1

    refine C.exit <| X.exitT <| X.outE <| X.join3 n a b (Sub.cons rfl <| Sub.cons rfl <| Sub.cons rfl <| Sub.nil _) rfl ⟨hM, hB.light hlt⟩
   ·
    have hdk : row.getD k false = true := by rw [← gb hk']; simpa using hC1
    have hB' := hB.dark hdk
    refine C.skip <| X.next <| ?_

    refine C.cut0 [(0, _), (5, _), (8, _)] rfl [(6, i64 ((if n = 0 then k else a : Nat) : Int))] (fun w' => M w (Nn) w' []) ?_ ?_
    ·
     refine C.seq <| C.region <| E.mv rfl rfl <| E.bin rfl rfl rfl rfl <| E.nil <| X.next <| ?_
     refine C.cond' rfl (fun hC2 => ?_) (fun hC2 => ?_)
     ·

      refine C.region <| E.mv rfl rfl <| E.asg rfl rfl <| E.nil <| X.join0  (Sub.cons (look_eq rfl (congrArg i64 (by rw [if_pos (by omega)]))) <| Sub.nil _) rfl hM
     ·

      refine C.skip <| X.join0  (Sub.cons (look_eq rfl (congrArg i64 (by rw [if_neg (by omega)]))) <| Sub.nil _) rfl hM
    rintro  w1 hM

    refine C.cut0 [(0, _), (6, _), (8, _)] rfl [(5, i64 (((n + if k = 0 ∨ row.getD (k - 1) false = false then 1 else 0) : Nat) : Int))] (fun w' => M w (Nn) w' []) ?_ ?_
    ·

     refine C.chainE [(0, _), (5, _), (6, _), (8, _)] rfl [(32, .bool (decide (k = 0 ∨ row.getD (k - 1) false = false)))] ?_ ?_
     ·
      refine C.region <| E.mv rfl rfl <| E.bin rfl rfl rfl rfl <| E.mv rfl rfl <| ?_
      refine E.split 25 rfl (fun g25 => ?_) (fun g25 => ?_)
      ·
       try simp only [Ya, Yb, Yc, Yd, Ye, Yf] at g25
       refine E.off rfl rfl rfl rfl <| E.off rfl rfl rfl rfl <| E.off rfl rfl rfl rfl <| E.off rfl rfl rfl rfl <| E.off rfl rfl rfl rfl <| E.off rfl rfl rfl rfl <| E.pick rfl rfl rfl <| E.nil <| X.join0 (Sub.cons (look_eq rfl (congrArg Value.bool (by exact (decide_eq_true (by omega)).symm))) <| Sub.nil _) rfl rfl
      ·
       try simp only [Ya, Yb, Yc, Yd, Ye, Yf] at g25
       refine E.on rfl rfl (E.mv rfl rfl ?_)
       refine E.on rfl rfl (E.mv rfl rfl ?_)
       refine E.on rfl rfl (E.subN (a := k) (b := 1) rfl rfl (by omega) rfl ?_)
       refine E.on rfl rfl (E.idx1 (k := k - 1) rfl rfl (hM.arg0 hp) rfl (show k - 1 < row.length by omega) Try.underlying35 (by kernel_rfl) rfl ?_)
       refine E.on rfl rfl (E.load rfl Try.underlying4 rfl ((hM.arg0 hp).cellA rfl (show k - 1 < row.length by omega)) rfl ?_)
       rw [gb (show k - 1 < row.length by omega)]
       refine E.on rfl rfl (E.not rfl rfl ?_)
       refine E.pick rfl rfl rfl <| E.nil <| X.join0 (Sub.cons (look_eq rfl (congrArg Value.bool (by (rw [Bool.eq_iff_iff, decide_eq_true_iff]; exact ⟨fun a => .inr (by simpa using a), fun a => by rw [a.resolve_left (by omega)]; rfl⟩)))) <| Sub.nil _) rfl rfl
     refine C.cond' rfl (fun hC3 => ?_) (fun hC3 => ?_)
     ·
      refine C.region <| E.mv rfl rfl <| ?_
      refine E.addN (a := n) (b := 1) rfl rfl (by omega) rfl ?_

      refine E.asg rfl rfl <| E.nil <| X.join0  (Sub.cons (look_eq rfl (congrArg i64 (by rw [if_pos hC3]))) <| Sub.nil _) rfl hM
     ·

      refine C.skip <| X.join0  (Sub.cons (look_eq rfl (congrArg i64 (by rw [if_neg hC3]; rfl))) <| Sub.nil _) rfl hM
    rintro  w2 hM

    refine C.region <| E.mv rfl rfl <| E.asg rfl rfl <| E.nil <| X.outN <| X.join3 (n + if k = 0 ∨ row.getD (k - 1) false = false then 1 else 0) (if n = 0 then k else a) k (Sub.cons rfl <| Sub.cons rfl <| Sub.cons rfl <| Sub.nil _) rfl ⟨hM, hB'⟩
  rintro n a b w3 ⟨hM, hB⟩
  refine C.region <| E.mv rfl rfl <| ?_
  refine E.addN (a := k) (b := 1) rfl rfl (by omega) rfl ?_

  refine E.asg rfl rfl <| E.nil <| X.again4 (k + 1) n a b (Sub.cons rfl <| Sub.cons rfl <| Sub.cons rfl <| Sub.cons rfl <| Sub.nil _) rfl ⟨hM, by omega, hB⟩ (by omega)
 ·
  obtain rfl : k = row.length := by omega
  refine C.exit <| X.exitT <| X.exitT <| X.outE <| X.next <| C.seq <| C.region <| E.mv rfl rfl <| E.mv rfl rfl <| E.mv rfl rfl <| E.asg rfl rfl <| E.asg rfl rfl <| E.asg rfl rfl <| E.nil <| X.next <| C.ret <| ret3 rfl rfl rfl rfl ?_
  exact ⟨n, a, b, rfl, hB, hM.toExt⟩
set_option maxHeartbeats 2000000 in
theorem rStripes_ret (W0 H0 : Int) (vd : Value) (dk : List Bool) (bars : Int) (w : World) (hr : RdL Value.bool w vd dk) :
  Ret Try.prog 17 #[mat W0 H0 vd, i64 bars] w fun v w' => StrV W0 H0 dk bars w w' v := by
 have hM := M.start w
 refine enter Try.func17 rfl (by kernel_rfl) Try.ntmps17 rfl ?_
 refine C.seq <| C.region <| ?_
 refine E.boxM (cs := [i64 W0, i64 H0, vd]) hM rfl (by obtain ⟨a, cap, rfl, _⟩ := hr; rfl) rfl ?_
 intro b2 w0 hM
 try dsimp only [Za, Zb, Zc, Zd, repl] at hM
 refine E.asg rfl rfl <| E.asg rfl rfl <| E.nil <| X.next <| C.seq <| C.seq <| C.region <| ?_
 refine E.loadA (cs := [i64 W0, i64 H0, vd]) rfl Try.underlying37 rfl (by kernel_rfl) (hM.bat 0 rfl) rfl ?_
 refine E.call rfl rfl (Sound_ret W0 H0 vd dk _ (hM.arg0 hr)) ?_
 rintro _ w1 ⟨rfl, x1⟩
 have hM := hM.ext x1
 try dsimp only [Za, Zb, Zc, Zd, repl] at hM
 refine E.not rfl rfl <| E.nil <| X.next <| ?_
 refine C.cond rfl (fun hC0 => ?_) (fun hC0 => ?_)
 ·
  have hno : ¬ okMat W0 H0 dk.length := fun h => by simp [h] at hC0
  refine C.seq <| C.region <| E.asg rfl rfl <| E.asg rfl rfl <| E.nil <| X.next <| C.ret <| X.retT <| ret2 rfl rfl rfl ?_
  exact .inl ⟨hno, rfl, hM.toExt⟩
 ·
  have hok : okMat W0 H0 dk.length := Decidable.byContradiction fun h => by simp [h] at hC0
  obtain ⟨W, H, rfl, rfl, ha1, ha2, hb1, hb2, hn, hn2⟩ := okMat_nat hok
  refine C.skip <| X.next <| C.seq <| C.seq <| C.region <| E.mv rfl rfl <| E.bin rfl rfl rfl rfl <| E.nil <| X.next <| ?_
  refine C.cond' rfl (fun hC1 => ?_) (fun hC1 => ?_)
  ·
   refine C.seq <| C.region <| E.asg rfl rfl <| E.asg rfl rfl <| E.nil <| X.next <| C.ret <| X.retT <| ret2 rfl rfl rfl ?_
   exact .inr (.inl ⟨hok, by omega, rfl, hM.toExt⟩)
  ·
   have hbars : 1 ≤ bars := by omega
   have hM := hM.nilF bxc 4 59
   refine C.skip <| X.next <| C.seq <| C.region <| E.asg rfl rfl <| E.nil <| X.next <| C.seq <| C.seq <| C.region <| E.asg rfl rfl <| E.nil <| X.next <| C.block <| ?_

   refine C.loop3 [(1, _), (2, _)] rfl (fun (y : Nat) (vl : Value) (l : (List Fi.Bx)) => [(6, vl), (7, i64 y)]) (fun (y : Nat) (vl : Value) (l : (List Fi.Bx)) w' => M w (Nn) w' [Rg.blk b2 37 [i64 W, i64 H, vd], Rg.slF bxc 4 59 vl l] ∧ y ≤ H ∧ l.length ≤ y ∧ l ++ strs dk W H bars y = strs dk W H bars 0) (fun (y : Nat) (vl : Value) (l : (List Fi.Bx)) => H - y) 0 nls [] ?_ ?_ ?_
   · exact Sub.cons rfl <| Sub.cons rfl <| Sub.nil _
   · exact ⟨hM, Nat.zero_le _, Nat.zero_le _, rfl⟩
   rintro y vl l w2 ⟨hM, hy, hl, hs⟩
   refine C.seq <| C.seq <| C.region <| E.mv rfl rfl <| ?_
   refine E.fld (o := 1) (sz := 0) rfl Try.underlying37 rfl rfl (by kernel_rfl) rfl ?_
   refine E.load rfl Try.underlying3 rfl (hM.bcell 0 rfl rfl) rfl ?_
   refine E.bin rfl rfl rfl rfl <| E.nil <| X.next <| ?_
   refine C.cond' rfl (fun hC2 => ?_) (fun hC2 => ?_)
   ·
    have hy' : y < H := by omega
    have hrow_y : y * W + W ≤ dk.length := by
     have h1 := Nat.mul_le_mul_right W (show y + 1 ≤ H by omega)
     rw [Nat.add_mul, Nat.one_mul, Nat.mul_comm H W, ← hn] at h1; exact h1
    refine C.skip <| X.next <| C.block <| C.seq <| C.region <| E.asg rfl rfl <| E.nil <| X.next <| C.seq <| C.block <| ?_

    refine C.loop1 [(1, _), (2, _), (6, _), (7, _)] rfl (fun (h : Nat) => [(8, i64 h)]) (fun (h : Nat) w' => M w (Nn) w' [Rg.blk b2 37 [i64 W, i64 H, vd], Rg.slF bxc 4 59 vl l] ∧ 1 ≤ h ∧ y + h ≤ H ∧ nx dk W H y H (y + h) = nxt dk W H y) (fun (h : Nat) => H - h) 1 ?_ ?_ ?_
    · exact Sub.cons rfl <| Sub.nil _
    · exact ⟨hM, Nat.le_refl _, by omega, rfl⟩
    rintro h w3 ⟨hM, hz1, hz2, hz3⟩
    refine C.seq <| ?_

    refine C.cut0 [(1, _), (2, _), (6, _), (7, _), (8, _)] rfl [(34, .bool (decide (y + h < H ∧ rowOf dk W (y + h) = rowOf dk W y)))] (fun w' => M w (Nn) w' [Rg.blk b2 37 [i64 W, i64 H, vd], Rg.slF bxc 4 59 vl l]) ?_ ?_
    ·
     refine C.region <| E.mv rfl rfl <| E.mv rfl rfl <| ?_
     refine E.addN (a := y) (b := h) rfl rfl (by omega) rfl ?_
     refine E.fld (o := 1) (sz := 0) rfl Try.underlying37 rfl rfl (by kernel_rfl) rfl ?_
     refine E.load rfl Try.underlying3 rfl (hM.bcell 0 rfl rfl) rfl ?_
     refine E.bin rfl rfl rfl rfl <| E.mv rfl rfl <| ?_
     refine E.split 27 rfl (fun g27 => ?_) (fun g27 => ?_)
     ·
      try simp only [Ya, Yb, Yc, Yd, Ye, Yf] at g27
      refine E.on rfl rfl (E.loadA (cs := [i64 W, i64 H, vd]) rfl Try.underlying37 rfl (by kernel_rfl) (hM.bat 0 rfl) rfl ?_)
      refine E.on rfl rfl (E.mv rfl rfl ?_)
      refine E.on rfl rfl (E.mv rfl rfl ?_)
      refine E.on rfl rfl (E.mv rfl rfl ?_)
      refine E.on rfl rfl (E.addN (a := y) (b := h) rfl rfl (by omega) rfl ?_)
      refine E.on rfl rfl (E.call rfl rfl (sameRow_ret vd dk W H y (y + h) _ (hM.arg0 hr) ⟨ha1, ha2⟩ ⟨hb1, hb2⟩ hn hn2 hy' (by omega)) ?_)
      rintro _ w4 ⟨rfl, x4⟩
      have hM := hM.ext x4
      try dsimp only [Za, Zb, Zc, Zd, repl] at hM

      refine E.pick rfl rfl rfl <| E.nil <| X.join0  (Sub.cons (look_eq rfl (congrArg Value.bool (decide_eq_decide.2 ⟨fun q => ⟨by omega, q.symm⟩, fun q => q.2.symm⟩))) <| Sub.nil _) rfl hM
     ·
      try simp only [Ya, Yb, Yc, Yd, Ye, Yf] at g27

      refine E.off rfl rfl rfl rfl <| E.off rfl rfl rfl rfl <| E.off rfl rfl rfl rfl <| E.off rfl rfl rfl rfl <| E.off rfl rfl rfl rfl <| E.off rfl rfl rfl rfl <| E.pick rfl rfl rfl <| E.nil <| X.join0  (Sub.cons (look_eq rfl (congrArg Value.bool (decide_eq_false (fun q => by omega)).symm)) <| Sub.nil _) rfl hM
    rintro  w5 hM
    refine C.cond' rfl (fun hC3 => ?_) (fun hC3 => ?_)
    ·
     refine C.skip <| X.next <| C.block <| C.region <| E.mv rfl rfl <| ?_
     refine E.addN (a := h) (b := 1) rfl rfl (by omega) rfl ?_

     refine E.asg rfl rfl <| E.nil <| X.outN <| X.again1 (h + 1) (Sub.cons rfl <| Sub.nil _) rfl ⟨hM, by omega, by omega, by rw [← Nat.add_assoc, ← nx_step hC3]; exact hz3⟩ (by omega)
    ·
     have hzn : nxt dk W H y = y + h := by rw [← hz3]; exact nx_stop hC3
     have hst := strs_step (dk := dk) (W := W) (bars := bars) hy'
     rw [hzn, Nat.add_sub_cancel_left] at hst
     have hlen := rowOf_len hn hy'
     refine C.exit <| X.exitT <| X.exitT <| X.outE <| X.next <| C.seq <| C.region <| ?_
     refine E.fld (o := 2) (sz := 0) rfl Try.underlying37 rfl rfl (by kernel_rfl) rfl ?_
     refine E.load rfl Try.underlying35 rfl (hM.bcell 0 rfl rfl) rfl ?_
     refine E.mv rfl rfl <| ?_
     refine E.fld (o := 0) (sz := 0) rfl Try.underlying37 rfl rfl (by kernel_rfl) rfl ?_
     refine E.load rfl Try.underlying3 rfl (hM.bcell 0 rfl rfl) rfl ?_
     refine E.mulN (a := y) (b := W) rfl rfl (by omega) rfl ?_
     refine E.mv rfl rfl <| ?_
     refine E.fld (o := 0) (sz := 0) rfl Try.underlying37 rfl rfl (by kernel_rfl) rfl ?_
     refine E.load rfl Try.underlying3 rfl (hM.bcell 0 rfl rfl) rfl ?_
     refine E.mulN (a := y) (b := W) rfl rfl (by omega) rfl ?_
     refine E.fld (o := 0) (sz := 0) rfl Try.underlying37 rfl rfl (by kernel_rfl) rfl ?_
     refine E.load rfl Try.underlying3 rfl (hM.bcell 0 rfl rfl) rfl ?_
     refine E.addN (a := y * W) (b := W) rfl rfl (by omega) rfl ?_
     refine E.slcP (y * W) (y * W + W) rfl (.inl rfl) (.inl rfl) (hM.arg0 hr) Try.underlying35 (by kernel_rfl) (by omega) hrow_y rfl ?_
     have hcut : rowOf dk W y = cutL (y * W) (y * W + W) dk := by unfold rowOf; rw [Nat.add_mul, Nat.one_mul]
     refine E.call rfl rfl (bars_ret _ (rowOf dk W y) _ (by rw [hcut]; exact (hM.arg0 hr).partV (a := y * W) (b := y * W + W) (by omega) hrow_y) (by omega)) ?_
     rintro _ w6 ⟨n, a, b, rfl, hBI, x6⟩
     have hM := hM.ext x6
     obtain ⟨hbn, hbm⟩ := hBI.mar
     try dsimp only [Za, Zb, Zc, Zd, repl] at hM
     refine E.mv rfl rfl <| E.ext rfl rfl rfl <| E.ext rfl rfl rfl <| E.ext rfl rfl rfl <| E.asg rfl rfl <| E.asg rfl rfl <| E.asg rfl rfl <| E.nil <| X.next <| ?_

     refine C.cut2 [(1, _), (2, _), (7, _), (8, _)] rfl (fun (vl : Value) (l : (List Fi.Bx)) => [(6, vl)]) (fun (vl : Value) (l : (List Fi.Bx)) w' => M w (Nn) w' [Rg.blk b2 37 [i64 W, i64 H, vd], Rg.slF bxc 4 59 vl l] ∧ l.length ≤ y + h ∧ l ++ strs dk W H bars (y + h) = strs dk W H bars 0) ?_ ?_
     ·
      refine C.seq <| C.region <| E.mv rfl rfl <| E.mv rfl rfl <| E.bin rfl rfl rfl rfl <| E.nil <| X.next <| ?_
      refine C.cond' rfl (fun hC4 => ?_) (fun hC4 => ?_)
      ·
       obtain ⟨hba, hbb, hbc⟩ := hbm (by omega)
       have hsb : sbx bars (rowOf dk W y) y h = some ⟨a, y, (b : Int) - a + 1, h⟩ := by
        unfold sbx; rw [if_pos (by omega), hlen]; congr 2 <;> omega
       rw [hsb] at hst
       refine C.region <| E.mv rfl rfl <| E.mv rfl rfl <| E.mv rfl rfl <| E.mv rfl rfl <| E.mv rfl rfl <| ?_
       refine E.sub' rfl rfl (by omega) rfl ?_
       refine E.add rfl rfl (by omega) rfl ?_
       refine E.mv rfl rfl <| ?_
       refine E.buildC (cs := [_, _, _, _]) [.int .i64 0, .int .i64 0, .int .i64 0, .int .i64 0] [0, 1, 2, 3] rfl rfl (by kernel_rfl) rfl ?_
       refine E.pushFM 1 (⟨a, y, (b : Int) - a + 1, h⟩ : Fi.Bx) hM rfl rfl rfl Try.underlying39 elem_Tapi_Box rfl (by decide) (ones rfl <| ones rfl <| ones rfl <| ones rfl <| ones_nil) (by omega) (by omega) (by simp) rfl rfl ?_
       intro v69 u69 w7 hM
       try dsimp only [Za, Zb, Zc, Zd, repl] at hM

       refine E.asg rfl rfl <| E.nil <| X.join2 _ _ (Sub.cons rfl <| Sub.nil _) rfl ⟨hM, by rw [List.length_append, List.length_singleton]; omega, by rw [← hs, hst]; simp⟩
      ·
       have hsb : sbx bars (rowOf dk W y) y h = none := by
        unfold sbx; rw [if_neg (by omega)]
       rw [hsb] at hst

       refine C.skip <| X.join2 vl l (Sub.cons rfl <| Sub.nil _) rfl ⟨hM, by omega, by rw [← hs, hst]; simp⟩
     rintro vl l w8 ⟨hM, hl, hs⟩
     refine C.region <| E.mv rfl rfl <| E.mv rfl rfl <| ?_
     refine E.addN (a := y) (b := h) rfl rfl (by omega) rfl ?_

     refine E.asg rfl rfl <| E.nil <| X.outN <| X.again3 (y + h) vl l (Sub.cons rfl <| Sub.cons rfl <| Sub.nil _) rfl ⟨hM, hz2, hl, hs⟩ (by omega)
   ·
    obtain rfl : y = H := by omega
    rw [strs_end (Nat.le_refl _), List.append_nil] at hs
    rw [hs] at hM hl
    refine C.exit <| X.exitT <| X.exitT <| X.outE <| X.next <| C.seq <| C.seq <| C.region <| E.mv rfl rfl <| ?_
    refine E.lenv rfl (RdF.shape (hM.slF 1 rfl)) Try.underlying39 rfl ?_
    refine E.bin rfl rfl rfl rfl <| E.nil <| X.next <| ?_
    refine C.cond' rfl (fun hC5 => ?_) (fun hC5 => ?_)
    ·
     refine C.seq <| C.region <| E.asg rfl rfl <| E.asg rfl rfl <| E.nil <| X.next <| C.ret <| X.retT <| ret2 rfl rfl rfl ?_
     exact .inr (.inr (.inl ⟨hok, hbars, by rw [Int.toNat_natCast, Int.toNat_natCast]; omega, rfl, hM.toExt⟩))
    ·
     refine C.skip <| X.next <| C.seq <| C.region <| E.mv rfl rfl <| E.asg rfl rfl <| E.asg rfl rfl <| E.nil <| X.next <| C.ret <| ret2 rfl rfl rfl ?_
     exact .inr (.inr (.inr ⟨hok, hbars, by rw [Int.toNat_natCast, Int.toNat_natCast]; omega, vl, rfl, by rw [Int.toNat_natCast, Int.toNat_natCast]; exact hM.pick [1] (by decide)⟩))
end Go.Proofs.Ytbinlkobmlebpaa
