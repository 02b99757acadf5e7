/- finder: FinderCodes. -/
import Derived.Test.Ytbinlkobmlebpaax0
import Derived.Test.Ytbinlkobmlebpaax17
import Derived.Test.YtbinlkobmlebpaaFdOx
import Derived.Test.YtbinlkobmlebpaaFd43x
set_option linter.unusedSimpArgs false
set_option linter.unusedVariables false
namespace Go.Proofs.Ytbinlkobmlebpaa
open Go.RowKit Sym
open Fi
def IMG (W Q N s n : Nat) (l : List Bool) (y x : Nat) (d : List Bool) : Prop := d.length = W * W ∧ ∀ r c, r < W → c < W → Fi.px d W r c =
 if Q ≤ r ∧ Q ≤ c ∧ c < Q + N ∧ (r < Q + y ∨ (r = Q + y ∧ c < Q + x)) then l.getD ((r - Q) / s * n + (c - Q) / s) false else false
theorem IMG.start (W Q N s n : Nat) (l : List Bool) : IMG W Q N s n l 0 0 (List.replicate (W * W) false) := by
 refine ⟨List.length_replicate, fun r c hr hc => ?_⟩
 rw [if_neg (by omega)]
 unfold Fi.px
 rw [List.getD_eq_getElem?_getD, List.getElem?_replicate]
 split <;> rfl
theorem IMG.row {W Q N s n : Nat} {l d : List Bool} {y : Nat} (h : IMG W Q N s n l y N d) : IMG W Q N s n l (y + 1) 0 d := by
 refine ⟨h.1, fun r c hr hc => ?_⟩
 rw [h.2 r c hr hc]
 by_cases z : Q ≤ r ∧ Q ≤ c ∧ c < Q + N ∧ (r < Q + y ∨ (r = Q + y ∧ c < Q + N))
 · rw [if_pos z, if_pos (by omega)]
 · rw [if_neg z, if_neg (by omega)]
theorem IMG.step {W Q N s n : Nat} {l d : List Bool} {y x : Nat} (h : IMG W Q N s n l y x d) (hx : x < N) (hy : y < N) (hW : W = N + 2 * Q) {b : Bool} (hb : b = l.getD (y / s * n + x / s) false) : IMG W Q N s n l y (x + 1) (d.set ((y + Q) * W + x + Q) b) := by
  refine ⟨by rw [List.length_set]; exact h.1, fun r c hr hc => ?_⟩
  have hlt : (y + Q) * W + x + Q < d.length := by
    have h1 := Nat.mul_le_mul_right W (show y + Q + 1 ≤ W by omega)
    rw [Nat.add_mul, Nat.one_mul] at h1; rw [h.1]; omega
  by_cases e : (y + Q) * W + x + Q = r * W + c
  · have e1 : r = y + Q := by
      have a1 : (r * W + c) / W = r := by rw [Nat.add_comm, Nat.add_mul_div_right _ _ (by omega), Nat.div_eq_of_lt hc, Nat.zero_add]
      have a2 : ((y + Q) * W + x + Q) / W = y + Q := by rw [Nat.add_assoc, Nat.add_comm, Nat.add_mul_div_right _ _ (by omega), Nat.div_eq_of_lt (by omega), Nat.zero_add]
      rw [← a1, ← e, a2]
    subst e1
    have e2 : c = x + Q := by omega
    subst e2
    rw [if_pos (by omega), show y + Q - Q = y by omega, show x + Q - Q = x by omega]
    unfold Fi.px
    rw [← e, List.getD_eq_getElem?_getD, List.getElem?_set_self hlt]; exact hb
  · have h2 := h.2 r c hr hc
    unfold Fi.px at h2 ⊢
    rw [List.getD_eq_getElem?_getD, List.getElem?_set_ne e, ← List.getD_eq_getElem?_getD, h2]
    have hne : ¬ (r = Q + y ∧ c = Q + x) := fun q => e (by rw [q.1, q.2, Nat.add_comm Q y]; omega)
    by_cases z : Q ≤ r ∧ Q ≤ c ∧ c < Q + N ∧ (r < Q + y ∨ (r = Q + y ∧ c < Q + x))
    · rw [if_pos z, if_pos (by omega)]
    · rw [if_neg z, if_neg (by omega)]
theorem IMG.done {W Q N s n q : Nat} {l d : List Bool} (h : IMG W Q N s n l N 0 d) (hQ : q * s = Q) (hN : n * s = N) : ∀ r c, r < W → c < W → Fi.px d W r c = Fi.pxc n q s l r c := fun r c hr hc => by
 rw [h.2 r c hr hc]
 unfold Fi.pxc
 rw [hQ, hN]
 by_cases z : Q ≤ r ∧ r < Q + N ∧ Q ≤ c ∧ c < Q + N
 · rw [if_pos z, if_pos (by omega)]
 · rw [if_neg z, if_neg (by omega)]
theorem MrkV.code {W Q N s n q : Nat} {l d : List Bool} {w w' : World} {v : Value} (h : MrkV W W d true w w' v) (hd : IMG W Q N s n l N 0 d) (hs : 1 ≤ s) (hq : 1 ≤ q) (hn : 21 ≤ n) (hm : MI n (n * n) l) (hQ : q * s = Q) (hN : n * s = N) (hW : W = N + 2 * Q) (hW2 : W ≤ 147) :
    ∃ (vl : Value) (e : Int) (L : List Mk), v = .tuple #[vl, i64 e] ∧ M w Nn w' [Rg.slF mkc 4 24 vl L] ∧ ((e = 4 ∧ L = []) ∨ (e = 0 ∧ L.length ≤ 256 ∧ (∀ m ∈ L, mok m) ∧
      (∃ m ∈ L, isAt m ((14 * Q + 49 * s : Nat) : Int) ((14 * Q + 49 * s : Nat) : Int) ((14 * s : Nat) : Int)) ∧ (∃ m ∈ L, isAt m ((14 * Q + 14 * N - 49 * s : Nat) : Int) ((14 * Q + 49 * s : Nat) : Int) ((14 * s : Nat) : Int)) ∧
      (∃ m ∈ L, isAt m ((14 * Q + 49 * s : Nat) : Int) ((14 * Q + 14 * N - 49 * s : Nat) : Int) ((14 * s : Nat) : Int)))) := by
  have hNs : 21 * s ≤ N := by rw [← hN]; exact Nat.mul_le_mul_right s hn
  have hN7 : (n - 7) * s = N - 7 * s := by rw [← hN, Nat.sub_mul]
  have hok : okMat (W : Int) (W : Int) d.length := by
    have h1 := Nat.mul_le_mul hW2 hW2
    refine ⟨⟨by omega, by omega, by omega, by omega, ?_⟩, ?_⟩
    · rw [← Int.natCast_mul]; omega
    · rw [hd.1, Int.natCast_mul]
  have hp := hd.done hQ hN
  have hW' : W = n * s + 2 * (q * s) := by rw [hQ, hN]; exact hW
  rcases h with ⟨h1, _⟩ | ⟨_, _, rfl, x⟩ | ⟨_, hle, vl, rfl, m⟩
  · exact (h1 hok).elim
  · exact ⟨nls, 4, [], rfl, (M.ofExt x).nilF mkc 4 24, .inl ⟨rfl, rfl⟩⟩
  · rw [Int.toNat_natCast] at hle m
    have k1 := code_ok (dk := d) (show W ≤ 4096 by omega) hle
    have f1 := code_has (mx := 0) (my := 0) (xl := true) (yl := true) hs hq hn hW' hm hp (.inl ⟨rfl, rfl⟩) (.inl ⟨rfl, rfl⟩) (.inl rfl) hle
    have f2 := code_has (mx := n - 7) (my := 0) (xl := false) (yl := true) hs hq hn hW' hm hp (.inr ⟨rfl, by omega⟩) (.inl ⟨rfl, rfl⟩) (.inr rfl) hle
    have f3 := code_has (mx := 0) (my := n - 7) (xl := true) (yl := false) hs hq hn hW' hm hp (.inl ⟨rfl, rfl⟩) (.inr ⟨rfl, by omega⟩) (.inl rfl) hle
    rw [hN7, hQ, Nat.zero_mul, Nat.add_zero] at f2 f3
    rw [hQ, Nat.zero_mul, Nat.add_zero] at f1
    have e1 : 14 * ((Q : Nat) : Int) + 49 * (s : Int) = ((14 * Q + 49 * s : Nat) : Int) := by omega
    have e2 : 14 * ((Q + (N - 7 * s) : Nat) : Int) + 49 * (s : Int) = ((14 * Q + 14 * N - 49 * s : Nat) : Int) := by omega
    have e3 : 14 * (s : Int) = ((14 * s : Nat) : Int) := by omega
    rw [e1, e3] at f1
    rw [e1, e2, e3] at f2 f3
    exact ⟨vl, 0, _, rfl, m, .inr ⟨rfl, k1.1, k1.2, f1, f2, f3⟩⟩
def tel3 (t : Nat × Nat × Nat) : List Int := [(t.1 : Nat), (t.2.1 : Nat), (t.2.2 : Nat)]
theorem tel3_of {t : Nat × Nat × Nat} {c r d : Nat} (h : t = (c, r, d)) : tel3 t = [(c : Int), (r : Int), (d : Int)] := by rw [h]; rfl
theorem MtV.at {n : Nat} {w w' : World} {v : Value} (h : MtV n w w' v) : MtV n w w' v := h
set_option maxHeartbeats 8000000 in
set_option maxRecDepth 20000 in
theorem FinderCodes_ret (o0 o1 o2 : Int) (p : Value) (ws : List Int) (lv : Int) (w : World) (hp : RdL i64 w p ws) :
  Ret Try.prog 5 #[.agg #[i64 o0, i64 o1, i64 o2], p, i64 lv] w fun v w' => v = .bool true ∧ Ext w w' := by
 have hM := M.start w
 refine enter Try.func5 rfl (by kernel_rfl) Try.ntmps5 rfl ?_
 refine C.seq <| C.region <| ?_
 refine E.boxM hM rfl rfl rfl ?_
 intro b3 w0 hM
 try dsimp only [Za, Zb, Zc, Zd, repl] at hM
 refine E.asg rfl rfl <| E.nil <| X.next <| C.seq <| C.drawn (by kernel_rfl) (by kernel_rfl) <| ?_
 refine Q.idxA (sz := 1) rfl rfl Try.underlying31 (by kernel_rfl) (by omega) (by omega) rfl ?_
 refine Q.load rfl Try.underlying3 rfl (hM.bcell 0 rfl rfl) rfl ?_
 refine Q.idxA (sz := 1) rfl rfl Try.underlying31 (by kernel_rfl) (by omega) (by omega) rfl ?_
 refine Q.load rfl Try.underlying3 rfl (hM.bcell 0 rfl rfl) rfl ?_
 refine Q.idxA (sz := 1) rfl rfl Try.underlying31 (by kernel_rfl) (by omega) (by omega) rfl ?_
 refine Q.load rfl Try.underlying3 rfl (hM.bcell 0 rfl rfl) rfl ?_
 refine Q.asg rfl rfl <| Q.asg rfl rfl <| Q.asg rfl rfl <| Q.nil <| fun w1 hx1 => ?_
 have hM := hM.ext hx1
 refine X.next <| C.seq <| ?_

 refine C.chainE [(1, _), (2, _), (7, _), (8, _), (9, _)] rfl [(61, .bool (decide (o0 < 1 ∨ 6 < o0 ∨ o1 < 1 ∨ 3 < o1 ∨ o2 < 1 ∨ 4 < o2)))] ?_ ?_
 ·
  refine C.region <| E.mv rfl rfl <| E.bin rfl rfl rfl rfl <| E.mv rfl rfl <| ?_
  refine E.split 42 rfl (fun g42 => ?_) (fun g42 => ?_)
  ·
   try simp only [Ya, Yb, Yc, Yd, Ye, Yf] at g42
   refine E.off rfl rfl rfl rfl <| E.off rfl rfl rfl rfl <| E.pick rfl rfl rfl <| E.mv rfl rfl <| E.off rfl rfl rfl rfl <| E.off rfl rfl rfl rfl <| E.pick rfl rfl rfl <| E.mv rfl rfl <| E.off rfl rfl rfl rfl <| E.off rfl rfl rfl rfl <| E.pick rfl rfl rfl <| E.mv rfl rfl <| E.off rfl rfl rfl rfl <| E.off rfl rfl rfl rfl <| E.pick rfl rfl rfl <| E.mv rfl rfl <| E.off rfl rfl rfl rfl <| E.off rfl rfl rfl rfl <| E.pick rfl rfl rfl <| E.nil <| X.join0 (Sub.cons (by exact leaf_t (by omega)) <| Sub.nil _) rfl rfl
  ·
   try simp only [Ya, Yb, Yc, Yd, Ye, Yf] at g42
   refine E.on rfl rfl (E.mv rfl rfl ?_)
   refine E.on rfl rfl (E.bin rfl rfl rfl rfl ?_)
   refine E.pick rfl rfl rfl <| E.mv rfl rfl <| ?_
   refine E.split 46 rfl (fun g46 => ?_) (fun g46 => ?_)
   ·
    try simp only [Ya, Yb, Yc, Yd, Ye, Yf] at g46
    refine E.off rfl rfl rfl rfl <| E.off rfl rfl rfl rfl <| E.pick rfl rfl rfl <| E.mv rfl rfl <| E.off rfl rfl rfl rfl <| E.off rfl rfl rfl rfl <| E.pick rfl rfl rfl <| E.mv rfl rfl <| E.off rfl rfl rfl rfl <| E.off rfl rfl rfl rfl <| E.pick rfl rfl rfl <| E.mv rfl rfl <| E.off rfl rfl rfl rfl <| E.off rfl rfl rfl rfl <| E.pick rfl rfl rfl <| E.nil <| X.join0 (Sub.cons (by exact leaf_t (by omega)) <| Sub.nil _) rfl rfl
   ·
    try simp only [Ya, Yb, Yc, Yd, Ye, Yf] at g46
    refine E.on rfl rfl (E.mv rfl rfl ?_)
    refine E.on rfl rfl (E.bin rfl rfl rfl rfl ?_)
    refine E.pick rfl rfl rfl <| E.mv rfl rfl <| ?_
    refine E.split 50 rfl (fun g50 => ?_) (fun g50 => ?_)
    ·
     try simp only [Ya, Yb, Yc, Yd, Ye, Yf] at g50
     refine E.off rfl rfl rfl rfl <| E.off rfl rfl rfl rfl <| E.pick rfl rfl rfl <| E.mv rfl rfl <| E.off rfl rfl rfl rfl <| E.off rfl rfl rfl rfl <| E.pick rfl rfl rfl <| E.mv rfl rfl <| E.off rfl rfl rfl rfl <| E.off rfl rfl rfl rfl <| E.pick rfl rfl rfl <| E.nil <| X.join0 (Sub.cons (by exact leaf_t (by omega)) <| Sub.nil _) rfl rfl
    ·
     try simp only [Ya, Yb, Yc, Yd, Ye, Yf] at g50
     refine E.on rfl rfl (E.mv rfl rfl ?_)
     refine E.on rfl rfl (E.bin rfl rfl rfl rfl ?_)
     refine E.pick rfl rfl rfl <| E.mv rfl rfl <| ?_
     refine E.split 54 rfl (fun g54 => ?_) (fun g54 => ?_)
     ·
      try simp only [Ya, Yb, Yc, Yd, Ye, Yf] at g54
      refine E.off rfl rfl rfl rfl <| E.off rfl rfl rfl rfl <| E.pick rfl rfl rfl <| E.mv rfl rfl <| E.off rfl rfl rfl rfl <| E.off rfl rfl rfl rfl <| E.pick rfl rfl rfl <| E.nil <| X.join0 (Sub.cons (by exact leaf_t (by omega)) <| Sub.nil _) rfl rfl
     ·
      try simp only [Ya, Yb, Yc, Yd, Ye, Yf] at g54
      refine E.on rfl rfl (E.mv rfl rfl ?_)
      refine E.on rfl rfl (E.bin rfl rfl rfl rfl ?_)
      refine E.pick rfl rfl rfl <| E.mv rfl rfl <| ?_
      refine E.split 58 rfl (fun g58 => ?_) (fun g58 => ?_)
      ·
       try simp only [Ya, Yb, Yc, Yd, Ye, Yf] at g58
       refine E.off rfl rfl rfl rfl <| E.off rfl rfl rfl rfl <| E.pick rfl rfl rfl <| E.nil <| X.join0 (Sub.cons (by exact leaf_t (by omega)) <| Sub.nil _) rfl rfl
      ·
       try simp only [Ya, Yb, Yc, Yd, Ye, Yf] at g58
       refine E.on rfl rfl (E.mv rfl rfl ?_)
       refine E.on rfl rfl (E.bin rfl rfl rfl rfl ?_)
       refine E.pick rfl rfl rfl <| E.nil <| X.join0 (Sub.cons (by exact leaf_d (by omega)) <| Sub.nil _) rfl rfl
 refine C.cond' rfl (fun hC0 => ?_) (fun hC0 => ?_)
 ·
  refine C.seq <| C.region <| ?_
  refine E.call rfl rfl (alive_ret _) ?_
  rintro _ w2 ⟨rfl, x2⟩
  have hM := hM.ext x2
  try dsimp only [Za, Zb, Zc, Zd, repl] at hM
  refine E.asg rfl rfl <| E.nil <| X.next <| C.ret <| X.retT <| ret1 rfl rfl ?_
  exact ⟨rfl, hM.toExt⟩
 ·
  obtain ⟨u, rfl⟩ : ∃ n : Nat, o0 = n := ⟨o0.toNat, by omega⟩
  obtain ⟨s, rfl⟩ : ∃ n : Nat, o1 = n := ⟨o1.toNat, by omega⟩
  obtain ⟨q, rfl⟩ : ∃ n : Nat, o2 = n := ⟨o2.toNat, by omega⟩
  obtain ⟨n, hn⟩ : ∃ n, n = 17 + 4 * u := ⟨_, rfl⟩
  have hu : 1 ≤ u ∧ u ≤ 6 := by omega
  have hs : 1 ≤ s := by omega
  have hq : 1 ≤ q := by omega
  have hn21 : 21 ≤ n := by omega
  have hqs : q * s ≤ 4 * 3 := Nat.mul_le_mul (by omega) (by omega)
  have hns : n * s ≤ 41 * 3 := Nat.mul_le_mul (by omega) (by omega)
  have hNs : 21 * s ≤ n * s := Nat.mul_le_mul_right s hn21
  obtain ⟨Q, hQ⟩ : ∃ Q, q * s = Q := ⟨_, rfl⟩
  obtain ⟨N, hN⟩ : ∃ N, n * s = N := ⟨_, rfl⟩
  obtain ⟨W, hW⟩ : ∃ W, W = N + 2 * Q := ⟨_, rfl⟩
  have hW2 : (n + 2 * q) * s = W := by rw [Nat.add_mul, Nat.mul_assoc, hQ, hN, hW]
  have h14q : 14 * q * s = 14 * Q := by rw [Nat.mul_assoc, hQ]
  have h14n : 14 * n * s = 14 * N := by rw [Nat.mul_assoc, hN]
  rw [hQ] at hqs
  rw [hN] at hns hNs
  have hWW : W * W ≤ 147 * 147 := Nat.mul_le_mul (by omega) (by omega)
  have hns2 : (n + 2 * q) * s ≤ 147 := by omega
  refine C.skip <| X.next <| C.seq <| C.region <| E.mv rfl rfl <| ?_
  refine E.call rfl rfl (blank_ret u n _ hu hn) ?_
  rintro _ w3 ⟨vo, l, rfl, hm, m3⟩
  have hM := hM.call m3
  try dsimp only [Za, Zb, Zc, Zd, repl] at hM
  refine E.mv rfl rfl <| E.ext rfl rfl rfl <| E.ext rfl rfl rfl <| ?_
  refine E.allocM (z := .agg #[.int .i64 0, .int .i64 0, .slice none 0 0]) (cs := [.int .i64 0, .int .i64 0, .slice none 0 0]) hM (by kernel_rfl) rfl rfl ?_
  intro b10 w4 hM
  try dsimp only [Za, Zb, Zc, Zd, repl] at hM
  refine E.storeAM 2 (cs := [i64 n, i64 n, vo]) hM rfl rfl rfl (by kernel_rfl) rfl (ones rfl <| ones rfl <| ones (by obtain ⟨a, c, rfl⟩ := Rd.shape (hM.sl 1 rfl); rfl) <| ones_nil) ?_
  intro w5 hM
  try dsimp only [Za, Zb, Zc, Zd, repl] at hM
  refine E.asg rfl rfl <| E.nil <| X.next <| ?_

  refine C.cut2 [(2, _), (7, _), (8, _), (9, _), (10, _)] rfl (fun (vo : Value) (l : LBn) => []) (fun (vo : Value) (l : LBn) w' => M w (Nn) w' [Rg.blk b3 31 [i64 u, i64 s, i64 q], Rg.sl Value.bool 4 vo l, Rg.blk b10 37 [i64 n, i64 n, vo]] ∧ MI n (n * n) l) ?_ ?_
  ·
   refine C.seq <| C.region <| ?_
   refine E.loadA (cs := [i64 n, i64 n, vo]) rfl Try.underlying37 rfl (by kernel_rfl) (hM.bat 2 rfl) rfl ?_
   refine E.mv rfl rfl <| ?_
   refine E.call rfl rfl (fill_ret u n vo p l ws _ hu hn (hM.sl 1 rfl) hm (hM.arg0 hp)) ?_
   rintro _ w6 ⟨fa, fb, fe, vf, lf, rfl, hf, m6⟩
   have hM := hM.call m6
   try dsimp only [Za, Zb, Zc, Zd, repl] at hM
   refine E.mv rfl rfl <| E.ext rfl rfl rfl <| E.ext rfl rfl rfl <| ?_
   refine E.allocM (z := .agg #[.int .i64 0, .int .i64 0, .slice none 0 0]) (cs := [.int .i64 0, .int .i64 0, .slice none 0 0]) hM (by kernel_rfl) rfl rfl ?_
   intro b12 w7 hM
   try dsimp only [Za, Zb, Zc, Zd, repl] at hM
   refine E.storeAM 4 (cs := [i64 fa, i64 fb, vf]) hM rfl rfl rfl (by kernel_rfl) rfl (ones rfl <| ones rfl <| ones (by obtain ⟨a, c, rfl⟩ := Rd.shape (hM.sl 3 rfl); rfl) <| ones_nil) ?_
   intro w8 hM
   try dsimp only [Za, Zb, Zc, Zd, repl] at hM
   refine E.asg rfl rfl <| E.nil <| X.next <| C.seq <| C.region <| E.mv rfl rfl <| E.bin rfl rfl rfl rfl <| E.nil <| X.next <| ?_
   refine C.cond' rfl (fun hC1 => ?_) (fun hC1 => ?_)
   ·
    obtain ⟨rfl, rfl, hmf⟩ := hf hC1
    refine C.region <| ?_
    refine E.loadA (cs := [i64 n, i64 n, vf]) rfl Try.underlying37 rfl (by kernel_rfl) (hM.bat 4 rfl) rfl ?_
    refine E.storeAM 2 (cs := [i64 n, i64 n, vf]) hM rfl rfl rfl (by kernel_rfl) rfl (ones rfl <| ones rfl <| ones (by obtain ⟨a, c, rfl⟩ := Rd.shape (hM.sl 3 rfl); rfl) <| ones_nil) ?_
    intro w9 hM
    try dsimp only [Za, Zb, Zc, Zd, repl] at hM

    refine E.nil <| X.join2 vf lf (Sub.nil _) rfl ⟨hM.pick [0, 3, 2] (by decide), hmf⟩
   ·

    refine C.skip <| X.join2 vo l (Sub.nil _) rfl ⟨hM.pick [0, 1, 2] (by decide), hm⟩
  rintro vo l w10 ⟨hM, hm⟩

  refine C.cut2 [(7, _), (8, _), (9, _), (10, _)] rfl (fun (vo : Value) (l : LBn) => []) (fun (vo : Value) (l : LBn) w' => M w (Nn) w' [Rg.blk b3 31 [i64 u, i64 s, i64 q], Rg.sl Value.bool 4 vo l, Rg.blk b10 37 [i64 n, i64 n, vo]] ∧ MI n (n * n) l) ?_ ?_
  ·
   refine C.seq <| C.region <| ?_
   refine E.loadA (cs := [i64 n, i64 n, vo]) rfl Try.underlying37 rfl (by kernel_rfl) (hM.bat 2 rfl) rfl ?_
   refine E.mv rfl rfl <| ?_
   refine E.call rfl rfl (sign_ret u n vo l lv _ hu hn (hM.sl 1 rfl) hm) ?_
   rintro _ w11 ⟨ga, gb, ge, vg, lg, rfl, hg, m11⟩
   have hM := hM.call m11
   try dsimp only [Za, Zb, Zc, Zd, repl] at hM
   refine E.mv rfl rfl <| E.ext rfl rfl rfl <| E.ext rfl rfl rfl <| ?_
   refine E.allocM (z := .agg #[.int .i64 0, .int .i64 0, .slice none 0 0]) (cs := [.int .i64 0, .int .i64 0, .slice none 0 0]) hM (by kernel_rfl) rfl rfl ?_
   intro b14 w12 hM
   try dsimp only [Za, Zb, Zc, Zd, repl] at hM
   refine E.storeAM 4 (cs := [i64 ga, i64 gb, vg]) hM rfl rfl rfl (by kernel_rfl) rfl (ones rfl <| ones rfl <| ones (by obtain ⟨a, c, rfl⟩ := Rd.shape (hM.sl 3 rfl); rfl) <| ones_nil) ?_
   intro w13 hM
   try dsimp only [Za, Zb, Zc, Zd, repl] at hM
   refine E.asg rfl rfl <| E.nil <| X.next <| C.seq <| C.region <| E.mv rfl rfl <| E.bin rfl rfl rfl rfl <| E.nil <| X.next <| ?_
   refine C.cond' rfl (fun hC2 => ?_) (fun hC2 => ?_)
   ·
    obtain ⟨rfl, rfl, hmg⟩ := hg hC2
    refine C.region <| ?_
    refine E.loadA (cs := [i64 n, i64 n, vg]) rfl Try.underlying37 rfl (by kernel_rfl) (hM.bat 4 rfl) rfl ?_
    refine E.storeAM 2 (cs := [i64 n, i64 n, vg]) hM rfl rfl rfl (by kernel_rfl) rfl (ones rfl <| ones rfl <| ones (by obtain ⟨a, c, rfl⟩ := Rd.shape (hM.sl 3 rfl); rfl) <| ones_nil) ?_
    intro w14 hM
    try dsimp only [Za, Zb, Zc, Zd, repl] at hM

    refine E.nil <| X.join2 vg lg (Sub.nil _) rfl ⟨hM.pick [0, 3, 2] (by decide), hmg⟩
   ·

    refine C.skip <| X.join2 vo l (Sub.nil _) rfl ⟨hM.pick [0, 1, 2] (by decide), hm⟩
  rintro vo l w15 ⟨hM, hm⟩
  refine C.seq <| C.region <| E.mv rfl rfl <| ?_
  refine E.mulN (a := 4) (b := u) rfl rfl (by omega) rfl ?_
  refine E.addN (a := 17) (b := 4 * u) rfl rfl (by omega) rfl ?_
  rw [← hn]
  refine E.asg rfl rfl <| E.nil <| X.next <| C.seq <| C.region <| E.mv rfl rfl <| E.mv rfl rfl <| ?_
  refine E.mulN (a := 2) (b := q) rfl rfl (by omega) rfl ?_
  refine E.addN (a := n) (b := 2 * q) rfl rfl (by omega) rfl ?_
  refine E.mv rfl rfl <| ?_
  refine E.mulN (a := n + 2 * q) (b := s) rfl rfl (by omega) rfl ?_
  rw [hW2]
  refine E.asg rfl rfl <| E.nil <| X.next <| C.seq <| C.region <| E.mv rfl rfl <| E.mv rfl rfl <| E.mv rfl rfl <| E.mv rfl rfl <| ?_
  refine E.mulN (a := W) (b := W) rfl rfl (by omega) rfl ?_
  refine E.makeM (by_ := 1) (enc := Value.bool) false hM (n := W * W) rfl Try.underlying35 (by kernel_rfl) rfl (by omega) (by omega) rfl ?_
  intro v100 w16 hM
  try dsimp only [Za, Zb, Zc, Zd, repl] at hM
  refine E.buildC (cs := [i64 W, i64 W, v100]) [.int .i64 0, .int .i64 0, .slice none 0 0] [0, 1, 2] rfl (by obtain ⟨a, c, rfl⟩ := Rd.shape (hM.sl 3 rfl); rfl) (by obtain ⟨a, c, rfl⟩ := Rd.shape (hM.sl 3 rfl); kernel_rfl) rfl ?_
  refine E.allocM (z := .agg #[.int .i64 0, .int .i64 0, .slice none 0 0]) (cs := [.int .i64 0, .int .i64 0, .slice none 0 0]) hM (by kernel_rfl) rfl rfl ?_
  intro b18 w17 hM
  try dsimp only [Za, Zb, Zc, Zd, repl] at hM
  refine E.storeAM 4 (cs := [i64 W, i64 W, v100]) hM rfl rfl rfl (by kernel_rfl) rfl (ones rfl <| ones rfl <| ones (by obtain ⟨a, c, rfl⟩ := Rd.shape (hM.sl 3 rfl); rfl) <| ones_nil) ?_
  intro w18 hM
  try dsimp only [Za, Zb, Zc, Zd, repl] at hM
  refine E.nil <| X.next <| C.seq <| C.seq <| C.region <| E.mv rfl rfl <| E.mv rfl rfl <| ?_
  refine E.mulN (a := n) (b := s) rfl rfl (by omega) rfl ?_
  rw [hN]
  refine E.mv rfl rfl <| E.nil <| X.next <| C.block <| ?_

  refine C.loop2 [(8, _), (9, _), (10, _), (16, _), (17, _), (18, _), (104, _)] rfl (fun (y : Nat) (d : LBn) => [(105, i64 y)]) (fun (y : Nat) (d : LBn) w' => M w (Nn) w' [Rg.blk b3 31 [i64 u, i64 s, i64 q], Rg.sl Value.bool 4 vo l, Rg.blk b10 37 [i64 n, i64 n, vo], Rg.sl Value.bool 4 v100 d, Rg.blk b18 37 [i64 W, i64 W, v100]] ∧ y ≤ N ∧ IMG W Q N s n l y 0 d) (fun (y : Nat) (d : LBn) => N - y) 0 (List.replicate (W * W) false) ?_ ?_ ?_
  · exact Sub.cons rfl <| Sub.nil _
  · exact ⟨hM, Nat.zero_le _, IMG.start W Q N s n l⟩
  rintro y d w19 ⟨hM, hy, hD⟩
  refine C.seq <| C.region <| E.bin rfl rfl rfl rfl <| E.nil <| X.next <| C.seq <| ?_
  refine C.cond' rfl (fun hC3 => ?_) (fun hC3 => ?_)
  ·
   have hy' : y < N := by omega
   refine C.skip <| X.next <| C.seq <| C.block <| C.seq <| C.region <| E.mv rfl rfl <| E.asg rfl rfl <| E.nil <| X.next <| C.seq <| C.region <| E.mv rfl rfl <| E.mv rfl rfl <| ?_
   refine E.mulN (a := n) (b := s) rfl rfl (by omega) rfl ?_
   rw [hN]
   refine E.mv rfl rfl <| E.nil <| X.next <| C.block <| ?_

   refine C.loop2 [(8, _), (9, _), (10, _), (16, _), (17, _), (18, _), (19, _), (104, _), (105, _), (110, _)] rfl (fun (x : Nat) (d : LBn) => [(111, i64 x)]) (fun (x : Nat) (d : LBn) w' => M w (Nn) w' [Rg.blk b3 31 [i64 u, i64 s, i64 q], Rg.sl Value.bool 4 vo l, Rg.blk b10 37 [i64 n, i64 n, vo], Rg.sl Value.bool 4 v100 d, Rg.blk b18 37 [i64 W, i64 W, v100]] ∧ x ≤ N ∧ IMG W Q N s n l y x d) (fun (x : Nat) (d : LBn) => N - x) 0 d ?_ ?_ ?_
   · exact Sub.cons rfl <| Sub.nil _
   · exact ⟨hM, Nat.zero_le _, hD⟩
   rintro x d w20 ⟨hM, hx, hE⟩
   refine C.seq <| C.region <| E.bin rfl rfl rfl rfl <| E.nil <| X.next <| C.seq <| ?_
   refine C.cond' rfl (fun hC4 => ?_) (fun hC4 => ?_)
   ·
    have hx' : x < N := by omega
    have hys : y / s < n := Nat.div_lt_of_lt_mul (by rw [Nat.mul_comm, hN]; exact hy')
    have hxs : x / s < n := Nat.div_lt_of_lt_mul (by rw [Nat.mul_comm, hN]; exact hx')
    have hin : y / s * n + x / s < n * n := by
     have h1 := Nat.mul_le_mul_right n (show y / s + 1 ≤ n by omega)
     rw [Nat.add_mul, Nat.one_mul] at h1; omega
    have hout : (y + Q) * W + x + Q < W * W := by
     have h1 := Nat.mul_le_mul_right W (show y + Q + 1 ≤ W by omega)
     rw [Nat.add_mul, Nat.one_mul] at h1; omega
    have hll := hm.1
    have hdl := hE.1
    have hnn : n * n ≤ 41 * 41 := Nat.mul_le_mul (by omega) (by omega)
    have hyn : y / s * n ≤ 41 * 41 := Nat.le_trans (Nat.le_trans (Nat.le_add_right _ (x / s)) (Nat.le_of_lt hin)) hnn
    refine C.skip <| X.next <| C.seq <| C.block <| C.seq <| C.region <| E.mv rfl rfl <| E.asg rfl rfl <| E.nil <| X.next <| C.drawnT 29 (by kernel_rfl) (by kernel_rfl) fun wh21 hwh21 => ?_
    have hM := hM.ext hwh21
    refine S.fld (o := 2) (sz := 0) rfl Try.underlying37 rfl rfl (by kernel_rfl) rfl ?_
    refine S.load rfl Try.underlying35 rfl (hM.bcell 4 rfl rfl) rfl ?_
    refine S.mv rfl rfl <| S.mv rfl rfl <| S.mv rfl rfl <| ?_
    refine S.mulN (a := q) (b := s) rfl rfl (by omega) rfl ?_
    rw [hQ]
    refine S.addN (a := y) (b := Q) rfl rfl (by omega) rfl ?_
    refine S.mv rfl rfl <| ?_
    refine S.mulN (a := y + Q) (b := W) rfl rfl (by omega) rfl ?_
    refine S.mv rfl rfl <| ?_
    refine S.addN (a := (y + Q) * W) (b := x) rfl rfl (by omega) rfl ?_
    refine S.mv rfl rfl <| S.mv rfl rfl <| ?_
    refine S.mulN (a := q) (b := s) rfl rfl (by omega) rfl ?_
    rw [hQ]
    refine S.addN (a := (y + Q) * W + x) (b := Q) rfl rfl (by omega) rfl ?_
    refine S.fld (o := 2) (sz := 0) rfl Try.underlying37 rfl rfl (by kernel_rfl) rfl ?_
    refine S.load rfl Try.underlying35 rfl (hM.bcell 2 rfl rfl) rfl ?_
    refine S.mv rfl rfl <| S.mv rfl rfl <| ?_
    refine S.quo rfl rfl (by omega) (quoN (a := y) (b := s) (by omega) (by omega)) rfl ?_
    refine S.mv rfl rfl <| ?_
    refine S.mulN (a := y / s) (b := n) rfl rfl (by omega) rfl ?_
    refine S.mv rfl rfl <| S.mv rfl rfl <| ?_
    refine S.quo rfl rfl (by omega) (quoN (a := x) (b := s) (by omega) (by omega)) rfl ?_
    refine S.addN (a := y / s * n) (b := x / s) rfl rfl (by omega) rfl ?_
    refine S.idx1 (k := y / s * n + x / s) rfl rfl (hM.sl 1 rfl) rfl (by omega) Try.underlying35 (by kernel_rfl) rfl ?_
    refine S.load rfl Try.underlying4 rfl ((hM.sl 1 rfl).cellA rfl (show y / s * n + x / s < l.length by omega)) rfl ?_
    refine S.idx1 (k := (y + Q) * W + x + Q) rfl rfl (hM.sl 3 rfl) rfl (by omega) Try.underlying35 (by kernel_rfl) rfl ?_
    refine S.nil ?_
    refine E.storeL 3 (l[y / s * n + x / s]'(by omega)) hM rfl rfl rfl (by kernel_rfl) rfl rfl (by omega) ?_
    intro w22 hM
    try dsimp only [Za, Zb, Zc, Zd, repl] at hM
    refine E.nil <| X.outN <| X.next <| C.region <| ?_
    refine E.addN (a := x) (b := 1) rfl rfl (by omega) rfl ?_

    refine E.mv rfl rfl <| E.nil <| X.again2 (x + 1) _ (Sub.cons rfl <| Sub.nil _) rfl ⟨hM, by omega, hE.step hx' hy' hW (by rw [List.getD_eq_getElem?_getD, List.getElem?_eq_getElem (by omega)]; rfl)⟩ (by omega)
   ·
    obtain rfl : x = N := by omega
    refine C.exit <| X.exitT <| X.exitT <| X.outE <| X.outN <| X.next <| C.region <| ?_
    refine E.addN (a := y) (b := 1) rfl rfl (by omega) rfl ?_

    refine E.mv rfl rfl <| E.nil <| X.again2 (y + 1) _ (Sub.cons rfl <| Sub.nil _) rfl ⟨hM, by omega, hE.row⟩ (by omega)
  ·
   have hyN : y = N := by omega
   rw [hyN] at hD
   refine C.exit <| X.exitT <| X.exitT <| X.outE <| X.next <| C.seq <| C.region <| ?_
   refine E.loadA (cs := [i64 W, i64 W, v100]) rfl Try.underlying37 rfl (by kernel_rfl) (hM.bat 4 rfl) rfl ?_
   refine E.call rfl rfl (Squares_ret W W v100 d _ (hM.sl 3 rfl)) ?_
   rintro v147 w23 h23
   obtain ⟨ve, e, L, rfl, m23, hL⟩ := MrkV.code h23 hD hs hq hn21 hm hQ hN hW (by omega)
   have hM := hM.call m23
   try dsimp only [Za, Zb, Zc, Zd, repl] at hM
   refine E.mv rfl rfl <| E.ext rfl rfl rfl <| E.ext rfl rfl rfl <| E.asg rfl rfl <| E.asg rfl rfl <| E.nil <| X.next <| C.seq <| C.seq <| C.region <| E.mv rfl rfl <| E.bin rfl rfl rfl rfl <| E.nil <| X.next <| ?_
   refine C.cond' rfl (fun hC5 => ?_) (fun hC5 => ?_)
   ·
    obtain ⟨rfl, rfl⟩ : e = 4 ∧ L = [] := hL.resolve_right (fun z => hC5 z.1)

    refine C.cut0 [] rfl [(6, .bool true)] (fun w' => M w (Nn) w' []) ?_ ?_
    ·
     refine C.region <| E.mv rfl rfl <| E.bin rfl rfl rfl rfl <| E.mv rfl rfl <| ?_
     refine E.split 154 rfl (fun g154 => ?_) (fun g154 => ?_)
     ·
      try simp only [Ya, Yb, Yc, Yd, Ye, Yf] at g154
      refine E.on rfl rfl (E.mv rfl rfl ?_)
      refine E.on rfl rfl (E.lenv rfl (RdF.shape (hM.slF 5 rfl)) Try.underlying22 rfl ?_)
      refine E.on rfl rfl (E.bin rfl rfl rfl rfl ?_)
      refine E.pick rfl rfl rfl <| E.mv rfl rfl <| ?_
      refine E.split 159 rfl (fun g159 => ?_) (fun g159 => ?_)
      ·
       try simp only [Ya, Yb, Yc, Yd, Ye, Yf] at g159
       refine E.on rfl rfl (E.call rfl rfl (alive_ret _) ?_)
       rintro _ w24 ⟨rfl, x24⟩
       have hM := hM.ext x24
       try dsimp only [Za, Zb, Zc, Zd, repl] at hM

       refine E.pick rfl rfl rfl <| E.asg rfl rfl <| E.nil <| X.join0  (Sub.cons rfl <| Sub.nil _) rfl (hM.pick [] (by decide))
      ·
       try simp only [Ya, Yb, Yc, Yd, Ye, Yf] at g159
       simp at g159
     ·
      try simp only [Ya, Yb, Yc, Yd, Ye, Yf] at g154
      exact (g154 trivial).elim
    rintro  w25 hM
    refine C.ret <| X.retT <| ret1 rfl rfl ?_
    exact ⟨rfl, hM.toExt⟩
   ·
    obtain ⟨hle, hok, hF1, hF2, hF3⟩ := (hL.resolve_left (fun z => by omega)).2
    refine C.skip <| X.next <| C.seq <| C.region <| E.mv rfl rfl <| ?_
    refine E.mulN (a := 14) (b := q) rfl rfl (by omega) rfl ?_
    refine E.mv rfl rfl <| ?_
    refine E.mulN (a := 14 * q) (b := s) rfl rfl (by omega) rfl ?_
    rw [h14q]
    refine E.mv rfl rfl <| ?_
    refine E.mulN (a := 49) (b := s) rfl rfl (by omega) rfl ?_
    refine E.addN (a := 14 * Q) (b := 49 * s) rfl rfl (by omega) rfl ?_
    refine E.mv rfl rfl <| ?_
    refine E.mulN (a := 14) (b := q) rfl rfl (by omega) rfl ?_
    refine E.mv rfl rfl <| ?_
    refine E.mulN (a := 14 * q) (b := s) rfl rfl (by omega) rfl ?_
    rw [h14q]
    refine E.mv rfl rfl <| ?_
    refine E.mulN (a := 14) (b := n) rfl rfl (by omega) rfl ?_
    refine E.mv rfl rfl <| ?_
    refine E.mulN (a := 14 * n) (b := s) rfl rfl (by omega) rfl ?_
    rw [h14n]
    refine E.addN (a := 14 * Q) (b := 14 * N) rfl rfl (by omega) rfl ?_
    refine E.mv rfl rfl <| ?_
    refine E.mulN (a := 49) (b := s) rfl rfl (by omega) rfl ?_
    refine E.subN (a := 14 * Q + 14 * N) (b := 49 * s) rfl rfl (by omega) rfl ?_
    refine E.asg rfl rfl <| E.asg rfl rfl <| E.nil <| X.next <| C.seq <| C.region <| E.mv rfl rfl <| E.mv rfl rfl <| E.mv rfl rfl <| E.mv rfl rfl <| ?_
    refine E.mulN (a := 14) (b := s) rfl rfl (by omega) rfl ?_
    refine E.call rfl rfl (at_ret ve L ((14 * Q + 49 * s : Nat) : Int) ((14 * Q + 49 * s : Nat) : Int) ((14 * s : Nat) : Int) _ (hM.slF 5 rfl)) ?_
    rintro _ w26 ⟨r1, rfl, hr1, x26⟩
    have hM := hM.ext x26
    obtain ⟨ic, hic, rfl, ac⟩ := hr1.resolve_right (fun z => hF1.elim fun m hm => z.2 m hm.1 hm.2)
    try dsimp only [Za, Zb, Zc, Zd, repl] at hM
    refine E.mv rfl rfl <| E.mv rfl rfl <| E.mv rfl rfl <| E.mv rfl rfl <| ?_
    refine E.mulN (a := 14) (b := s) rfl rfl (by omega) rfl ?_
    refine E.call rfl rfl (at_ret ve L ((14 * Q + 14 * N - 49 * s : Nat) : Int) ((14 * Q + 49 * s : Nat) : Int) ((14 * s : Nat) : Int) _ (hM.slF 5 rfl)) ?_
    rintro _ w27 ⟨r2, rfl, hr2, x27⟩
    have hM := hM.ext x27
    obtain ⟨ir, hir, rfl, ar⟩ := hr2.resolve_right (fun z => hF2.elim fun m hm => z.2 m hm.1 hm.2)
    try dsimp only [Za, Zb, Zc, Zd, repl] at hM
    refine E.mv rfl rfl <| E.mv rfl rfl <| E.mv rfl rfl <| E.mv rfl rfl <| ?_
    refine E.mulN (a := 14) (b := s) rfl rfl (by omega) rfl ?_
    refine E.call rfl rfl (at_ret ve L ((14 * Q + 49 * s : Nat) : Int) ((14 * Q + 14 * N - 49 * s : Nat) : Int) ((14 * s : Nat) : Int) _ (hM.slF 5 rfl)) ?_
    rintro _ w28 ⟨r3, rfl, hr3, x28⟩
    have hM := hM.ext x28
    obtain ⟨id, hid, rfl, ad⟩ := hr3.resolve_right (fun z => hF3.elim fun m hm => z.2 m hm.1 hm.2)
    try dsimp only [Za, Zb, Zc, Zd, repl] at hM
    refine E.asg rfl rfl <| E.asg rfl rfl <| E.asg rfl rfl <| E.nil <| X.next <| C.seq <| ?_

    refine C.chainE [(16, _), (21, _), (25, _), (26, _), (27, _)] rfl [(208, .bool (decide False))] ?_ ?_
    ·
     refine C.region <| E.mv rfl rfl <| E.bin rfl rfl rfl rfl <| E.mv rfl rfl <| ?_
     refine E.split 201 rfl (fun g201 => ?_) (fun g201 => ?_)
     ·
      try simp only [Ya, Yb, Yc, Yd, Ye, Yf] at g201
      refine E.off rfl rfl rfl rfl <| E.off rfl rfl rfl rfl <| E.pick rfl rfl rfl <| E.mv rfl rfl <| E.off rfl rfl rfl rfl <| E.off rfl rfl rfl rfl <| E.pick rfl rfl rfl <| E.nil <| X.join0 (Sub.cons (by exact leaf_t (by omega)) <| Sub.nil _) rfl rfl
     ·
      try simp only [Ya, Yb, Yc, Yd, Ye, Yf] at g201
      refine E.on rfl rfl (E.mv rfl rfl ?_)
      refine E.on rfl rfl (E.bin rfl rfl rfl rfl ?_)
      refine E.pick rfl rfl rfl <| E.mv rfl rfl <| ?_
      refine E.split 205 rfl (fun g205 => ?_) (fun g205 => ?_)
      ·
       try simp only [Ya, Yb, Yc, Yd, Ye, Yf] at g205
       refine E.off rfl rfl rfl rfl <| E.off rfl rfl rfl rfl <| E.pick rfl rfl rfl <| E.nil <| X.join0 (Sub.cons (by exact leaf_t (by omega)) <| Sub.nil _) rfl rfl
      ·
       try simp only [Ya, Yb, Yc, Yd, Ye, Yf] at g205
       refine E.on rfl rfl (E.mv rfl rfl ?_)
       refine E.on rfl rfl (E.bin rfl rfl rfl rfl ?_)
       refine E.pick rfl rfl rfl <| E.nil <| X.join0 (Sub.cons (by exact leaf_f (by (simp [*] <;> fail))) <| Sub.nil _) rfl rfl
    refine C.cond' rfl (fun hC6 => ?_) (fun hC6 => ?_)
    ·
     refine C.seq <| C.region <| E.asg rfl rfl <| E.nil <| X.next <| C.ret <| X.retT <| ret1 rfl rfl ?_
     exact hC6.elim
    ·
     refine C.skip <| X.next <| C.seq <| C.region <| E.mv rfl rfl <| ?_
     refine E.call rfl rfl (Triples_ret ve L _ (hM.slF 5 rfl)) ?_
     rintro v211 w29 h29
     obtain ⟨T, hT⟩ : ∃ T, trs L = T := ⟨_, rfl⟩
     obtain ⟨vt, rfl, m29⟩ := TrsV.one h29 hle hok hT
     have hM := hM.call m29
     have hhi : ((14 * Q + 14 * N - 49 * s : Nat) : Int) = ((14 * Q + 49 * s : Nat) : Int) + 14 * s * (10 + 4 * u) := by
      have h1 : N = 7 * s + s * (10 + 4 * u) := by rw [← hN, hn, Nat.mul_comm, ← Nat.mul_comm s 7, ← Nat.mul_add]; congr 1; omega
      have h2 : 14 * (s : Int) * (10 + 4 * u) = 14 * ((s * (10 + 4 * u) : Nat) : Int) := by rw [Int.natCast_mul, Int.mul_assoc]; rfl
      rw [h2]; omega
     have hz14 : ((14 * s : Nat) : Int) = 14 * (s : Int) := by omega
     rw [hz14] at ac ar ad
     have hmem := code_tri hs hu hhi hic hir hid ac ar ad
     rw [hT] at hmem
     obtain ⟨jt, hjt, hjT⟩ := List.getElem_of_mem hmem
     have hle6 := RdF.le (hM.slF 6 rfl)
     try dsimp only [Za, Zb, Zc, Zd, repl] at hM
     refine E.mv rfl rfl <| E.ext rfl rfl rfl <| E.ext rfl rfl rfl <| E.asg rfl rfl <| E.asg rfl rfl <| E.nil <| X.next <| C.seq <| C.heldE (by kernel_rfl) fun wh30 hwh30 _ => ?_
     have hS := hwh30
     have hM0 := hM
     have hM := M.ofExt hwh30
     refine H.take 0 rfl rfl (by kernel_rfl) (by kernel_rfl) (by kernel_rfl) hS (fun w' hS => by have hM := hM0.ext hS; exact Y.mv rfl) rfl ?_
     refine H.take 1 rfl rfl (by kernel_rfl) (by kernel_rfl) (by kernel_rfl) hS (fun w' hS => by have hM := hM0.ext hS; exact Y.mv rfl) rfl ?_
     refine H.takeV 2 rfl rfl (by kernel_rfl) (by kernel_rfl) (by kernel_rfl) hS (Y.idxF (k := ic) rfl rfl ((hM0.ext hS).slF 5 rfl) rfl hic (by decide) Try.underlying22 (by kernel_rfl)) (fun w' hS => by have hM := hM0.ext hS; exact Y.idxF (k := ic) rfl rfl (hM.slF 5 rfl) rfl hic (by decide) Try.underlying22 (by kernel_rfl)) rfl ?_
     refine H.take 4 rfl rfl (by kernel_rfl) (by kernel_rfl) (by kernel_rfl) hS (fun w' hS => by have hM := hM0.ext hS; exact Y.mv rfl) rfl ?_
     refine H.take 5 rfl rfl (by kernel_rfl) (by kernel_rfl) (by kernel_rfl) hS (fun w' hS => by have hM := hM0.ext hS; exact Y.mv rfl) rfl ?_
     refine H.takeV 6 rfl rfl (by kernel_rfl) (by kernel_rfl) (by kernel_rfl) hS (Y.idxF (k := ir) rfl rfl ((hM0.ext hS).slF 5 rfl) rfl hir (by decide) Try.underlying22 (by kernel_rfl)) (fun w' hS => by have hM := hM0.ext hS; exact Y.idxF (k := ir) rfl rfl (hM.slF 5 rfl) rfl hir (by decide) Try.underlying22 (by kernel_rfl)) rfl ?_
     refine H.take 8 rfl rfl (by kernel_rfl) (by kernel_rfl) (by kernel_rfl) hS (fun w' hS => by have hM := hM0.ext hS; exact Y.mv rfl) rfl ?_
     refine H.take 9 rfl rfl (by kernel_rfl) (by kernel_rfl) (by kernel_rfl) hS (fun w' hS => by have hM := hM0.ext hS; exact Y.mv rfl) rfl ?_
     refine H.takeV 10 rfl rfl (by kernel_rfl) (by kernel_rfl) (by kernel_rfl) hS (Y.idxF (k := id) rfl rfl ((hM0.ext hS).slF 5 rfl) rfl hid (by decide) Try.underlying22 (by kernel_rfl)) (fun w' hS => by have hM := hM0.ext hS; exact Y.idxF (k := id) rfl rfl (hM.slF 5 rfl) rfl hid (by decide) Try.underlying22 (by kernel_rfl)) rfl ?_
     refine H.takeV 3 rfl rfl (by kernel_rfl) (by kernel_rfl) (by kernel_rfl) hS (Y.loadA (cs := mkc L[ic]) rfl Try.underlying24 rfl (by kernel_rfl) (((hM0.ext hS).slF 5 rfl).all hic)) (fun w' hS => by have hM := hM0.ext hS; exact Y.loadA (cs := mkc L[ic]) rfl Try.underlying24 rfl (by kernel_rfl) ((hM.slF 5 rfl).all hic)) rfl ?_
     refine H.takeV 7 rfl rfl (by kernel_rfl) (by kernel_rfl) (by kernel_rfl) hS (Y.loadA (cs := mkc L[ir]) rfl Try.underlying24 rfl (by kernel_rfl) (((hM0.ext hS).slF 5 rfl).all hir)) (fun w' hS => by have hM := hM0.ext hS; exact Y.loadA (cs := mkc L[ir]) rfl Try.underlying24 rfl (by kernel_rfl) ((hM.slF 5 rfl).all hir)) rfl ?_
     refine H.only 11 rfl (by kernel_rfl) ?_
     refine E.loadA (cs := mkc L[id]) rfl Try.underlying24 rfl (by kernel_rfl) (((hM0.ext hS).slF 5 rfl).all hid) rfl ?_
     have hS := hM.toExt
     refine H.back hS ?_
     refine H.only 12 rfl (by kernel_rfl) ?_
     refine E.call rfl rfl (Dimension_ret L[ic] L[ir] L[id] _) ?_
     rintro _ w30 ⟨hdm, x30⟩
     have hM := hM.ext x30
     obtain rfl := code_dim hs hu hhi hdm ⟨hok _ (List.getElem_mem hic), hok _ (List.getElem_mem hir), hok _ (List.getElem_mem hid)⟩ ac ar ad
     have hnu : (17 : Int) + 4 * (u : Int) = (n : Int) := by omega
     rw [hnu]
     try dsimp only [Za, Zb, Zc, Zd, repl] at hM
     have hS := hM.toExt
     refine H.back hS ?_
     refine H.take 13 rfl rfl (by kernel_rfl) (by kernel_rfl) (by kernel_rfl) hS (fun w' hS => by have hM := hM0.ext hS; exact Y.mv rfl) rfl ?_
     refine H.take 14 rfl rfl (by kernel_rfl) (by kernel_rfl) (by kernel_rfl) hS (fun w' hS => by have hM := hM0.ext hS; exact Y.ext rfl rfl) rfl ?_
     refine H.take 15 rfl rfl (by kernel_rfl) (by kernel_rfl) (by kernel_rfl) hS (fun w' hS => by have hM := hM0.ext hS; exact Y.ext rfl rfl) rfl ?_
     refine H.take 16 rfl rfl (by kernel_rfl) (by kernel_rfl) (by kernel_rfl) hS (fun w' hS => by have hM := hM0.ext hS; exact Y.asg rfl) rfl ?_
     refine H.take 17 rfl rfl (by kernel_rfl) (by kernel_rfl) (by kernel_rfl) hS (fun w' hS => by have hM := hM0.ext hS; exact Y.asg rfl) rfl ?_
     refine H.done (by kernel_rfl) ?_
     have hM := hM0.call hM
     refine X.next <| C.seq <| C.region <| E.asg rfl rfl <| E.nil <| X.next <| C.seq <| C.seq <| C.region <| E.mv rfl rfl <| ?_
     refine E.lenv rfl (RdF.shape (hM.slF 6 rfl)) Try.underlying27 rfl ?_
     refine E.mv rfl rfl <| E.nil <| X.next <| C.block <| ?_

     refine C.loop2 [(16, _), (25, _), (26, _), (27, _), (28, _), (29, _), (30, _), (31, _), (231, _)] rfl (fun (k : Nat) (b : Bool) => [(32, .bool b), (232, i64 k)]) (fun (k : Nat) (b : Bool) w' => M w (Nn) w' [Rg.blk b3 31 [i64 u, i64 s, i64 q], Rg.sl Value.bool 4 vo l, Rg.blk b10 37 [i64 n, i64 n, vo], Rg.sl Value.bool 4 v100 d, Rg.blk b18 37 [i64 W, i64 W, v100], Rg.slF mkc 4 24 ve L, Rg.slF tec 3 31 vt T] ∧ k ≤ T.length ∧ ∀ j (h : j < T.length), j < k → T[j] = (ic, ir, id) → b = true) (fun (k : Nat) (b : Bool) => T.length - k) 0 false ?_ ?_ ?_
     · exact Sub.cons rfl <| Sub.cons rfl <| Sub.nil _
     · exact ⟨hM, Nat.zero_le _, fun j h h0 => absurd h0 (Nat.not_lt_zero _)⟩
     rintro k b w32 ⟨hM, hk, hb⟩
     refine C.seq <| C.region <| E.bin rfl rfl rfl rfl <| E.nil <| X.next <| C.seq <| ?_
     refine C.cond' rfl (fun hC7 => ?_) (fun hC7 => ?_)
     ·
      have hk' : k < T.length := by omega
      refine C.skip <| X.next <| C.seq <| C.block <| C.seq <| C.region <| E.mv rfl rfl <| E.asg rfl rfl <| E.nil <| X.next <| C.region <| E.mv rfl rfl <| E.mv rfl rfl <| ?_
      refine E.split 236 rfl (fun g236 => ?_) (fun g236 => ?_)
      ·
       try simp only [Ya, Yb, Yc, Yd, Ye, Yf] at g236
       refine E.off rfl rfl rfl rfl <| E.off rfl rfl rfl rfl <| E.off rfl rfl rfl rfl <| E.off rfl rfl rfl rfl <| E.off rfl rfl rfl rfl <| E.off rfl rfl rfl rfl <| E.off rfl rfl rfl rfl <| E.off rfl rfl rfl rfl <| E.off rfl rfl rfl rfl <| E.pick rfl rfl rfl <| E.asg rfl rfl <| E.nil <| X.outN <| X.next <| C.region <| ?_
       refine E.addN (a := k) (b := 1) rfl rfl (by omega) rfl ?_

       refine E.mv rfl rfl <| E.nil <| X.again2 (k + 1) true (Sub.cons rfl <| Sub.cons rfl <| Sub.nil _) rfl ⟨hM, by omega, fun _ _ _ _ => rfl⟩ (by omega)
      ·
       try simp only [Ya, Yb, Yc, Yd, Ye, Yf] at g236
       refine E.on rfl rfl (E.mv rfl rfl ?_)
       refine E.on rfl rfl (E.mv rfl rfl ?_)
       refine E.on rfl rfl (E.idxF (k := k) rfl rfl (hM.slF 6 rfl) rfl hk' (by decide) Try.underlying27 (by kernel_rfl) rfl ?_)
       refine E.on rfl rfl (E.loadA (cs := tec T[k]) rfl Try.underlying31 rfl (by kernel_rfl) ((hM.slF 6 rfl).all hk') rfl ?_)
       refine E.on rfl rfl (E.mv rfl rfl ?_)
       refine E.on rfl rfl (E.mv rfl rfl ?_)
       refine E.on rfl rfl (E.mv rfl rfl ?_)
       refine E.on rfl rfl (E.build (cs := [i64 ic, i64 ir, i64 id]) rfl (by kernel_rfl) rfl ?_)
       refine E.on rfl rfl (E.eqA (tel3 T[k]) [(ic : Int), (ir : Int), (id : Int)] eqT_ar3 rfl rfl rfl rfl rfl ?_)
       refine E.pick rfl rfl rfl <| E.asg rfl rfl <| E.nil <| X.outN <| X.next <| C.region <| ?_
       refine E.addN (a := k) (b := 1) rfl rfl (by omega) rfl ?_

       refine E.mv rfl rfl <| E.nil <| X.again2 (k + 1) _ (Sub.cons rfl <| Sub.cons rfl <| Sub.nil _) rfl ⟨hM, by omega, fun j h h0 h1 => by
        by_cases e : j = k
        · subst e; exact decide_eq_true (tel3_of h1)
        · exact absurd (hb j h (by omega) h1) (by simpa using g236)⟩ (by omega)
     ·
      have hbt : b = true := hb jt hjt (by omega) hjT
      refine C.exit <| X.exitT <| X.exitT <| X.outE <| X.next <| ?_

      refine C.cut0 [] rfl [(6, .bool true)] (fun w' => M w (Nn) w' []) ?_ ?_
      ·
       refine C.region <| E.mv rfl rfl <| E.bin rfl rfl rfl rfl <| E.mv rfl rfl <| ?_
       refine E.split 250 rfl (fun g250 => ?_) (fun g250 => ?_)
       ·
        try simp only [Ya, Yb, Yc, Yd, Ye, Yf] at g250
        refine E.on rfl rfl (E.mv rfl rfl ?_)
        refine E.on rfl rfl (E.bin rfl rfl rfl rfl ?_)
        refine E.pick rfl rfl rfl <| E.mv rfl rfl <| ?_
        refine E.split 254 rfl (fun g254 => ?_) (fun g254 => ?_)
        ·
         try simp only [Ya, Yb, Yc, Yd, Ye, Yf] at g254
         refine E.on rfl rfl (E.mv rfl rfl ?_)
         refine E.on rfl rfl (E.mv rfl rfl ?_)
         refine E.on rfl rfl (E.bin rfl rfl rfl rfl ?_)
         refine E.pick rfl rfl rfl <| E.mv rfl rfl <| ?_
         refine E.split 259 rfl (fun g259 => ?_) (fun g259 => ?_)
         ·
          try simp only [Ya, Yb, Yc, Yd, Ye, Yf] at g259
          refine E.on rfl rfl (E.mv rfl rfl ?_)
          refine E.pick rfl rfl rfl <| E.mv rfl rfl <| ?_
          refine E.split 262 rfl (fun g262 => ?_) (fun g262 => ?_)
          ·
           try simp only [Ya, Yb, Yc, Yd, Ye, Yf] at g262
           refine E.on rfl rfl (E.call rfl rfl (alive_ret _) ?_)
           rintro _ w32 ⟨rfl, x32⟩
           have hM := hM.ext x32
           try dsimp only [Za, Zb, Zc, Zd, repl] at hM

           refine E.pick rfl rfl rfl <| E.asg rfl rfl <| E.nil <| X.join0  (Sub.cons rfl <| Sub.nil _) rfl (hM.pick [] (by decide))
          ·
           try simp only [Ya, Yb, Yc, Yd, Ye, Yf] at g262
           simp [hbt] at g262
         ·
          try simp only [Ya, Yb, Yc, Yd, Ye, Yf] at g259
          simp [hbt] at g259
        ·
         try simp only [Ya, Yb, Yc, Yd, Ye, Yf] at g254
         exact (g254 trivial).elim
       ·
        try simp only [Ya, Yb, Yc, Yd, Ye, Yf] at g250
        exact (g250 trivial).elim
      rintro  w34 hM
      refine C.ret <| ret1 rfl rfl ?_
      exact ⟨rfl, hM.toExt⟩
end Go.Proofs.Ytbinlkobmlebpaa
