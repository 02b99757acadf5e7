/- Texts of the claim, laid together: Fd4, Fd5, Fd6. -/
import Derived.Test.Ytbinlkobmlebpaax0
import Derived.Test.Ytbinlkobmlebpaax5
import Derived.Test.Ytbinlkobmlebpaax6
set_option linter.unusedSimpArgs false
set_option linter.unusedVariables false
namespace Go.Proofs.Ytbinlkobmlebpaa
open Go.RowKit Sym
open Fi
theorem shr_u64 (c : Nat) : (c : Int) / 2 ^ min ((1 : Int)).toNat IntKind.u64.bits = ((c / 2 : Nat) : Int) := by
 have e1 : min ((1 : Int)).toNat IntKind.u64.bits = 1 := by decide
 rw [e1]; simp
theorem less_ret (b2 b3 : Nat) (ve : Value) (es : List Int) (x : Int) (k : Nat) (w : World) (h2 : Blk w b2 45 #[ve]) (h3 : Blk w b3 3 #[i64 x]) (he : RdL i64 w ve es) (hk : k < es.length) :
  Ret Try.prog 116 #[i64 k, pv b2, pv b3] w fun v w' => v = .bool (decide (x ≤ es[k])) ∧ Ext w w' := by
 have hM := M.start w
 refine enter Try.func116 rfl (by kernel_rfl) Try.ntmps116 rfl ?_
 refine C.seq <| C.region <| E.asg rfl rfl <| E.nil <| X.next <| C.seq <| C.drawn (by kernel_rfl) (by kernel_rfl) <| ?_
 refine Q.load rfl Try.underlying45 rfl ((h2.ext hM.toExt).cell 0) rfl ?_
 refine Q.mv rfl rfl <| ?_
 refine Q.idx1 (k := k) rfl rfl (hM.arg0 he) rfl hk Try.underlying45 (by kernel_rfl) rfl ?_
 refine Q.load rfl Try.underlying3 rfl ((hM.arg0 he).cellA rfl hk) rfl ?_
 refine Q.load rfl Try.underlying3 rfl ((h3.ext hM.toExt).cell 0) rfl ?_
 refine Q.bin rfl rfl rfl rfl <| Q.asg rfl rfl <| Q.nil <| fun w0 hx0 => ?_
 have hM := hM.ext hx0
 refine X.next <| C.ret <| ret1 rfl rfl ?_
 exact ⟨rfl, hM.toExt⟩
set_option maxHeartbeats 400000 in
theorem search_ret (b2 b3 : Nat) (ve : Value) (es : List Int) (x : Int) (w : World) (h2 : Blk w b2 45 #[ve]) (h3 : Blk w b3 3 #[i64 x]) (he : RdL i64 w ve es) (hs : es.Pairwise (· < ·)) (hl : es.length ≤ 1000000) :
  Ret Try.prog 115 #[i64 (es.length : Int), fnv 116 [pv b2, pv b3]] w fun v w' => v = i64 (es.countP (fun y => decide (y < x)) : Int) ∧ Ext w w' := by
 have hM := M.start w
 refine enter Try.func115 rfl (by kernel_rfl) Try.ntmps115 rfl ?_
 refine C.seq <| C.region <| E.asg rfl rfl <| E.nil <| X.next <| C.seq <| C.region <| E.mv rfl rfl <| E.asg rfl rfl <| E.asg rfl rfl <| E.nil <| X.next <| C.seq <| C.block <| ?_

 refine C.loop2 [(1, _)] rfl (fun (a : Nat) (b : Nat) => [(5, i64 a), (6, i64 b)]) (fun (a : Nat) (b : Nat) w' => M w (Nn) w' [] ∧ a ≤ b ∧ b ≤ es.length ∧ (∀ j (h : j < es.length), j < a → es[j] < x) ∧ ∀ j (h : j < es.length), b ≤ j → x ≤ es[j]) (fun (a : Nat) (b : Nat) => b - a) 0 es.length ?_ ?_ ?_
 · exact Sub.cons rfl <| Sub.cons rfl <| Sub.nil _
 · exact ⟨hM, Nat.zero_le _, Nat.le_refl _, fun j h h0 => absurd h0 (Nat.not_lt_zero _), fun j h h0 => absurd h (by omega)⟩
 rintro a b w0 ⟨hM, hab, hbl, h0, h1⟩
 refine C.seq <| C.seq <| C.region <| E.mv rfl rfl <| E.mv rfl rfl <| E.bin rfl rfl rfl rfl <| E.nil <| X.next <| ?_
 refine C.cond' rfl (fun hC0 => ?_) (fun hC0 => ?_)
 ·
  have hm : (a + b) / 2 < es.length := by omega
  refine C.skip <| X.next <| C.block <| C.seq <| C.region <| E.mv rfl rfl <| E.mv rfl rfl <| ?_
  refine E.addN (a := a) (b := b) rfl rfl (by omega) rfl ?_
  refine E.conv rfl Try.underlying3 Try.underlying100 (IntWalk.u64_in _ (by omega)) rfl ?_
  refine E.shr rfl rfl (by decide) (shr_u64 _) rfl ?_
  refine E.conv rfl Try.underlying100 Try.underlying3 (IntWalk.i64_in _ (by omega)) rfl ?_
  refine E.asg rfl rfl <| E.nil <| X.next <| C.seq <| C.region <| E.mv rfl rfl <| E.mv rfl rfl <| ?_
  refine E.callv rfl rfl rfl (less_ret b2 b3 ve es x ((a + b) / 2) _ (h2.ext hM.toExt) (h3.ext hM.toExt) (hM.arg0 he) hm) ?_
  rintro _ w1 ⟨rfl, x1⟩
  have hM := hM.ext x1
  try dsimp only [Za, Zb, Zc, Zd, repl] at hM
  refine E.not rfl rfl <| E.nil <| X.next <| ?_
  refine C.cond rfl (fun hC1 => ?_) (fun hC1 => ?_)
  ·
   have hlt : es[(a + b) / 2] < x := by simpa using hC1
   refine C.region <| E.mv rfl rfl <| ?_
   refine E.addN (a := (a + b) / 2) (b := 1) rfl rfl (by omega) rfl ?_

   refine E.asg rfl rfl <| E.nil <| X.outN <| X.again2 ((a + b) / 2 + 1) b (Sub.cons rfl <| Sub.cons rfl <| Sub.nil _) rfl ⟨hM, by omega, hbl, srt_lt hs hm hlt, h1⟩ (by omega)
  ·
   have hge : x ≤ es[(a + b) / 2] := by simpa using hC1

   refine C.region <| E.mv rfl rfl <| E.asg rfl rfl <| E.nil <| X.outN <| X.again2 a ((a + b) / 2) (Sub.cons rfl <| Sub.cons rfl <| Sub.nil _) rfl ⟨hM, by omega, by omega, h0, srt_ge hs hm hge⟩ (by omega)
 ·
  obtain rfl : a = b := by omega
  refine C.exit <| X.exitT <| X.exitT <| X.outE <| X.next <| C.seq <| C.region <| E.mv rfl rfl <| E.asg rfl rfl <| E.nil <| X.next <| C.ret <| ret1 rfl rfl ?_
  exact ⟨by rw [cnt_eq hbl h0 h1], hM.toExt⟩
theorem searchInts_ret (ve : Value) (es : List Int) (x : Int) (w : World) (he : RdL i64 w ve es) (hs : es.Pairwise (· < ·)) (hl : es.length ≤ 1000000) :
  Ret Try.prog 113 #[ve, i64 x] w fun v w' => v = i64 (es.countP (fun y => decide (y < x)) : Int) ∧ Ext w w' := by
 have hM := M.start w
 refine enter Try.func113 rfl (by kernel_rfl) Try.ntmps113 rfl ?_
 refine C.seq <| C.region <| ?_
 refine E.boxM (cs := [ve]) hM rfl (by obtain ⟨a, cap, rfl, _⟩ := he; rfl) rfl ?_
 intro b2 w0 hM
 try dsimp only [Za, Zb, Zc, Zd, repl] at hM
 refine E.boxM hM rfl rfl rfl ?_
 intro b3 w1 hM
 try dsimp only [Za, Zb, Zc, Zd, repl] at hM
 refine E.asg rfl rfl <| E.nil <| X.next <| C.seq <| C.region <| ?_
 refine E.load rfl Try.underlying45 rfl (hM.bcell 0 rfl rfl) rfl ?_
 refine E.lenv rfl (Rd.shape (hM.arg0 he)) Try.underlying45 rfl ?_
 refine E.mkfn rfl rfl ?_
 refine E.call rfl rfl (search_ret b2 b3 ve es x _ (hM.blk 0 rfl) (hM.blk 1 rfl) (hM.arg0 he) hs hl) ?_
 rintro _ w2 ⟨rfl, x2⟩
 have hM := hM.ext x2
 try dsimp only [Za, Zb, Zc, Zd, repl] at hM
 refine E.asg rfl rfl <| E.nil <| X.next <| C.ret <| ret1 rfl rfl ?_
 exact ⟨rfl, hM.toExt⟩
theorem lrun_ret (ve : Value) (es : List Int) (d0 : Bool) (y : Int) (w : World) (he : RdL i64 w ve es) (hs : es.Pairwise (· < ·)) (hl : es.length ≤ 5000) (hy : 0 ≤ y ∧ y ≤ 5000) :
  Ret Try.prog 108 #[.agg #[ve, .bool d0], i64 y] w fun v w' => v = i64 (rn es y) ∧ Ext w w' := by
 have hM := M.start w
 refine enter Try.func108 rfl (by kernel_rfl) Try.ntmps108 rfl ?_
 refine C.seq <| C.region <| ?_
 refine E.boxM (cs := [ve, .bool d0]) hM rfl rfl rfl ?_
 intro b2 w0 hM
 try dsimp only [Za, Zb, Zc, Zd, repl] at hM
 refine E.asg rfl rfl <| E.nil <| X.next <| C.seq <| C.region <| ?_
 refine E.fld (o := 0) (sz := 0) rfl Try.underlying153 rfl rfl (by kernel_rfl) rfl ?_
 refine E.load rfl Try.underlying45 rfl (hM.bcell 0 rfl rfl) rfl ?_
 refine E.mv rfl rfl <| ?_
 refine E.add rfl rfl (by omega) rfl ?_
 refine E.call rfl rfl (searchInts_ret ve es (y + 1) _ (hM.arg0 he) hs (by omega)) ?_
 rintro _ w1 ⟨rfl, x1⟩
 have hM := hM.ext x1
 try dsimp only [Za, Zb, Zc, Zd, repl] at hM
 have hcl := List.countP_le_length (p := fun z => decide (z < y + 1)) (l := es)
 refine E.sub' rfl rfl (by omega) rfl ?_
 refine E.asg rfl rfl <| E.nil <| X.next <| C.ret <| ret1 rfl rfl ?_
 exact ⟨rfl, hM.toExt⟩
def Cnd (o : Option Mk) (v : Value) : Prop := (o = none ∧ ∃ a b : Int, v = .iface 164 (.agg #[i64 a, i64 b])) ∨ ∃ m : Mk, o = some m ∧ m.n = 1 ∧ v = .iface 134 (.agg #[i64 m.x, i64 m.y, i64 m.s])
theorem rn_b (es : List Int) (y : Int) : -1 ≤ rn es y ∧ rn es y ≤ es.length := by
 have := List.countP_le_length (p := fun z => decide (z < y + 1)) (l := es)
 unfold rn; omega
theorem patR_ext {o : Option (Int × Int)} : ∃ b t : Int, ∃ k : Bool, patR o = .tuple #[i64 b, i64 t, .bool k] ∧ ((o = none ∧ k = false) ∨ (o = some (b, t) ∧ k = true)) := by
 cases o with
 | none => exact ⟨0, 0, false, rfl, .inl ⟨rfl, rfl⟩⟩
 | some q => exact ⟨q.1, q.2, true, rfl, .inr ⟨rfl, rfl⟩⟩
theorem half_len (n : Nat) : IntKind.i64.wrap ((n : Int).tdiv 2) = (n : Int) / 2 ∨ 1000000 < n := by
 by_cases h : n ≤ 1000000
 · left; rw [Int.tdiv_eq_ediv_of_nonneg (by omega)]; exact IntWalk.i64_in _ (by omega)
 · right; omega
set_option maxHeartbeats 1000000 in
theorem judge_ret (kv ve : Value) (sh es : List Int) (d0 kd : Bool) (b T y : Int) (w : World) (hk : Kind kv sh kd) (he : RdL i64 w ve es) (hb : ∀ x ∈ es, 0 ≤ x ∧ x ≤ 4096) (hs : es.Pairwise (· < ·)) (hl : es.length ≤ 5000) (hy : 0 ≤ y ∧ y ≤ 4096) (hbb : 0 ≤ b ∧ b ≤ 4096) (hT : -4096 ≤ T ∧ T ≤ 4096) :
    Ret Try.prog 100 #[i64 b, i64 T, i64 y, .agg #[ve, .bool d0], kv] w fun v w' => Cnd (jud b T y es d0 kd sh) v ∧ Ext w w' := by
  have hM := M.start w
  refine enter Try.func100 rfl (by kernel_rfl) Try.ntmps100 rfl ?_
  refine C.seq <| C.region <| ?_
  obtain ⟨t, kx, f1, f2, hkv, m1, c1, m2, c2⟩ := hk.is
  have hkl := hk.len
  have hrb := rn_b es y
  refine E.boxM (cs := [ve, .bool d0]) hM rfl rfl rfl ?_
  intro b8 w0 hM
  try dsimp only [Za, Zb, Zc, Zd, repl] at hM
  refine E.asg rfl rfl <| E.nil <| X.next <| C.seq <| C.region <| E.mv rfl rfl <| ?_
  refine E.mul rfl rfl (by omega) rfl ?_
  refine E.mv rfl rfl <| ?_
  refine E.mul rfl rfl (by omega) rfl ?_
  refine E.add rfl rfl (by omega) rfl ?_
  refine E.asg rfl rfl <| E.nil <| X.next <| C.seq <| C.heldE (by kernel_rfl) fun wh1 hwh1 _ => ?_
  have hS := hwh1
  have hM0 := hM
  have hM := M.ofExt hwh1
  refine H.take 2 rfl rfl (by kernel_rfl) (by kernel_rfl) (by kernel_rfl) hS (fun w' hS => by have hM := hM0.ext hS; exact Y.mv rfl) rfl ?_
  refine H.take 4 rfl rfl (by kernel_rfl) (by kernel_rfl) (by kernel_rfl) hS (fun w' hS => by have hM := hM0.ext hS; exact Y.mv rfl) rfl ?_
  refine H.take 9 rfl rfl (by kernel_rfl) (by kernel_rfl) (by kernel_rfl) hS (fun w' hS => by have hM := hM0.ext hS; exact Y.mv rfl) rfl ?_
  refine H.takeV 0 rfl rfl (by kernel_rfl) (by kernel_rfl) (by kernel_rfl) hS (Y.loadA rfl Try.underlying153 rfl (by kernel_rfl) (by exact (hM0.ext hS).bat 0 rfl)) (fun w' hS => by have hM := hM0.ext hS; exact Y.loadA rfl Try.underlying153 rfl (by kernel_rfl) (by exact hM.bat 0 rfl)) rfl ?_
  refine H.only 1 rfl (by kernel_rfl) ?_
  refine E.loadA (cs := [ve, .bool d0]) rfl Try.underlying153 rfl (by kernel_rfl) ((hM0.ext hM.toExt).bat 0 rfl) rfl ?_
  have hS := hM.toExt
  refine H.back hS ?_
  refine H.only 3 rfl (by kernel_rfl) ?_
  refine E.call rfl rfl (lrun_ret ve es d0 y _ ((hM0.ext hM.toExt).arg0 he) hs hl (by omega)) ?_
  rintro _ w2 ⟨rfl, x2⟩
  have hM := hM.ext x2
  try dsimp only [Za, Zb, Zc, Zd, repl] at hM
  have hS := hM.toExt
  refine H.back hS ?_
  refine H.only 5 rfl (by kernel_rfl) ?_
  rw [hkv]
  refine E.inv rfl rfl (m1) rfl (c1 _) ?_
  rintro v26 w3 m
  have hsh := Rd.shape (hM.call m |>.sl 0 rfl)
  have hM := hM.call m
  rw [← hkv]
  try dsimp only [Za, Zb, Zc, Zd, repl] at hM
  have hS := hM.toExt
  refine H.back hS ?_
  refine H.takeV 6 rfl rfl (by kernel_rfl) (by kernel_rfl) (by kernel_rfl) hS (Y.lenv rfl hsh Try.underlying45) (fun w' hS => by have hM := hM0.ext hS; exact Y.lenv rfl hsh Try.underlying45) rfl ?_
  refine H.take 7 rfl rfl (by kernel_rfl) (by kernel_rfl) (by kernel_rfl) hS (fun w' hS => by have hM := hM0.ext hS; exact Y.quo rfl rfl (by omega) ((half_len sh.length).resolve_right (by omega))) rfl ?_
  refine H.take 8 rfl rfl (by kernel_rfl) (by kernel_rfl) (by kernel_rfl) hS (fun w' hS => by have hM := hM0.ext hS; exact Y.sub' rfl rfl (by omega)) rfl ?_
  refine H.only 10 rfl (by kernel_rfl) ?_
  refine E.call rfl rfl (lpattern_ret kv ve sh es d0 kd (rn es y - (sh.length : Int) / 2) _ hk ((hM0.ext hM.toExt).arg0 he) hb (by omega)) ?_
  rintro _ w4 ⟨rfl, x4⟩
  have hM := hM.ext x4
  obtain ⟨pb, pt, pk, hpe, hpo⟩ := patR_ext (o := patv es d0 kd sh (rn es y - (sh.length : Int) / 2))
  rw [hpe]
  have hpq : pk = true → 0 ≤ pb ∧ pb ≤ 4096 ∧ -4096 ≤ pt ∧ pt ≤ 4096 := fun h => by
    rcases hpo with ⟨_, h0⟩ | ⟨h1, _⟩
    · rw [h0] at h; cases h
    · exact patv_b h1 hb (by decide)
  try dsimp only [Za, Zb, Zc, Zd, repl] at hM
  have hS := hM.toExt
  refine H.back hS ?_
  refine H.take 11 rfl rfl (by kernel_rfl) (by kernel_rfl) (by kernel_rfl) hS (fun w' hS => by have hM := hM0.ext hS; exact Y.mv rfl) rfl ?_
  refine H.take 12 rfl rfl (by kernel_rfl) (by kernel_rfl) (by kernel_rfl) hS (fun w' hS => by have hM := hM0.ext hS; exact Y.ext rfl rfl) rfl ?_
  refine H.take 13 rfl rfl (by kernel_rfl) (by kernel_rfl) (by kernel_rfl) hS (fun w' hS => by have hM := hM0.ext hS; exact Y.ext rfl rfl) rfl ?_
  refine H.take 14 rfl rfl (by kernel_rfl) (by kernel_rfl) (by kernel_rfl) hS (fun w' hS => by have hM := hM0.ext hS; exact Y.ext rfl rfl) rfl ?_
  refine H.take 15 rfl rfl (by kernel_rfl) (by kernel_rfl) (by kernel_rfl) hS (fun w' hS => by have hM := hM0.ext hS; exact Y.asg rfl) rfl ?_
  refine H.take 16 rfl rfl (by kernel_rfl) (by kernel_rfl) (by kernel_rfl) hS (fun w' hS => by have hM := hM0.ext hS; exact Y.asg rfl) rfl ?_
  refine H.take 17 rfl rfl (by kernel_rfl) (by kernel_rfl) (by kernel_rfl) hS (fun w' hS => by have hM := hM0.ext hS; exact Y.asg rfl) rfl ?_
  refine H.done (by kernel_rfl) ?_
  have hM := hM0.call hM
  refine X.next <| C.seq <| ?_

  refine C.chainE [(1, _), (2, _), (11, _), (12, _), (13, _)] rfl [(48, .bool (decide (pk = false ∨ T < 4 * max (T - pt) (pt - T))))] ?_ ?_
  ·
    refine C.region <| E.mv rfl rfl <| E.not rfl rfl <| E.mv rfl rfl <| ?_
    refine E.split 37 rfl (fun g37 => ?_) (fun g37 => ?_)
    ·
      try simp only [Ya, Yb, Yc, Yd, Ye, Yf] at g37
      refine E.off rfl rfl rfl rfl <| E.off rfl rfl rfl rfl <| E.off rfl rfl rfl rfl <| E.off rfl rfl rfl rfl <| E.off rfl rfl rfl rfl <| E.off rfl rfl rfl rfl <| E.off rfl rfl rfl rfl <| E.off rfl rfl rfl rfl <| E.off rfl rfl rfl rfl <| E.off rfl rfl rfl rfl <| E.pick rfl rfl rfl <| E.nil <| X.join0 (Sub.cons (look_eq rfl (congrArg Value.bool (by (exact (decide_eq_true (p := pk = false ∨ T < 4 * max (T - pt) (pt - T)) (.inl (by simpa using g37))).symm)))) <| Sub.nil _) rfl rfl
    ·
      try simp only [Ya, Yb, Yc, Yd, Ye, Yf] at g37
      have hpk : pk = true := by simpa using g37
      have hpq := hpq hpk
      refine E.on rfl rfl (E.mv rfl rfl ?_)
      refine E.on rfl rfl (E.mv rfl rfl ?_)
      refine E.on rfl rfl (E.sub' rfl rfl (by omega) rfl ?_)
      refine E.on rfl rfl (E.mv rfl rfl ?_)
      refine E.on rfl rfl (E.mv rfl rfl ?_)
      refine E.on rfl rfl (E.sub' rfl rfl (by omega) rfl ?_)
      refine E.on rfl rfl (E.max2 rfl rfl rfl ?_)
      refine E.on rfl rfl (E.mul rfl rfl (by omega) rfl ?_)
      refine E.on rfl rfl (E.mv rfl rfl ?_)
      refine E.on rfl rfl (E.bin rfl rfl rfl rfl ?_)
      refine E.pick rfl rfl rfl <| E.nil <| X.join0 (Sub.cons (look_eq rfl (congrArg Value.bool (by (rw [hpk]; simp)))) <| Sub.nil _) rfl rfl
  refine C.cond' rfl (fun hC0 => ?_) (fun hC0 => ?_)
  ·
    refine C.seq <| C.region <| E.mv rfl rfl <| E.mv rfl rfl <| ?_
    refine E.mul rfl rfl (by omega) rfl ?_
    refine E.add rfl rfl (by omega) rfl ?_
    refine E.buildC (cs := [_, _]) [.int .i64 0, .int .i64 0] [0, 1] rfl rfl (by kernel_rfl) rfl ?_
    refine E.mkI rfl Try.underlying164 rfl rfl <| E.asg rfl rfl <| E.nil <| X.next <| C.ret <| X.retT <| ret1 rfl rfl ?_
    exact ⟨.inl ⟨(by
        rcases hpo with ⟨h, _⟩ | ⟨h, hk1⟩
        · exact jud_n h
        · rcases hC0 with h0 | h0
          · rw [hk1] at h0; cases h0
          · exact jud_f h h0), _, _, rfl⟩, hM.toExt⟩
  ·
    have hpk : pk = true := by cases pk with
      | true => rfl
      | false => exact (hC0 (.inl rfl)).elim
    have hpq := hpq hpk
    have hpo := hpo.resolve_left (fun h => by rw [hpk] at h; cases h.2)
    refine C.skip <| X.next <| C.seq <| C.region <| E.mv rfl rfl <| E.mv rfl rfl <| ?_
    refine E.mul rfl rfl (by omega) rfl ?_
    refine E.mv rfl rfl <| ?_
    refine E.mul rfl rfl (by omega) rfl ?_
    refine E.add rfl rfl (by omega) rfl ?_
    refine E.mv rfl rfl <| E.mv rfl rfl <| ?_
    refine E.add rfl rfl (by omega) rfl ?_
    refine E.buildC (cs := [_, _, _]) [.int .i64 0, .int .i64 0, .int .i64 0] [0, 1, 2] rfl rfl (by kernel_rfl) rfl ?_
    refine E.mkI rfl Try.underlying134 rfl rfl <| E.asg rfl rfl <| E.nil <| X.next <| C.ret <| ret1 rfl rfl ?_
    exact ⟨.inr ⟨_, jud_t hpo.1 (fun h => hC0 (.inr h)), rfl, rfl⟩, hM.toExt⟩
theorem center_ret (a b s : Int) (w : World) :
  Ret Try.prog 137 #[.agg #[i64 a, i64 b, i64 s]] w fun v w' => v = .agg #[i64 a, i64 b] ∧ Ext w w' := by
 have hM := M.start w
 refine enter Try.func137 rfl (by kernel_rfl) Try.ntmps137 rfl ?_
 refine C.seq <| C.region <| ?_
 refine E.boxM (cs := [i64 a, i64 b, i64 s]) hM rfl rfl rfl ?_
 intro b1 w0 hM
 try dsimp only [Za, Zb, Zc, Zd, repl] at hM
 refine E.allocM (z := .agg #[.int .i64 0, .int .i64 0]) (cs := [.int .i64 0, .int .i64 0]) hM (by kernel_rfl) rfl rfl ?_
 intro b2 w1 hM
 try dsimp only [Za, Zb, Zc, Zd, repl] at hM
 refine E.nil <| X.next <| C.seq <| C.region <| ?_
 refine E.fld (o := 0) (sz := 0) rfl Try.underlying134 rfl rfl (by kernel_rfl) rfl ?_
 refine E.load rfl Try.underlying3 rfl (hM.bcell 0 rfl rfl) rfl ?_
 refine E.fld (o := 1) (sz := 0) rfl Try.underlying134 rfl rfl (by kernel_rfl) rfl ?_
 refine E.load rfl Try.underlying3 rfl (hM.bcell 0 rfl rfl) rfl ?_
 refine E.buildC (cs := [_, _]) [.int .i64 0, .int .i64 0] [0, 1] rfl rfl (by kernel_rfl) rfl ?_
 refine E.storeAM 1 (cs := [i64 a, i64 b]) hM rfl rfl rfl (by kernel_rfl) rfl (ones rfl <| ones rfl <| ones_nil) ?_
 intro w2 hM
 try dsimp only [Za, Zb, Zc, Zd, repl] at hM
 refine E.nil <| X.next <| C.ret <| retA rfl rfl Try.underlying64 rfl (by exact hM.blk 1 rfl) (by kernel_rfl) ?_
 exact ⟨rfl, hM.toExt⟩
end Go.Proofs.Ytbinlkobmlebpaa
namespace Go.Proofs.Ytbinlkobmlebpaa
open Go.RowKit Sym
theorem elem_Tapi_Mark : Elem Try.prog 24 4 32 := elem_of (z := .agg #[.int .i64 0, .int .i64 0, .int .i64 0, .int .i64 0]) (by kernel_rfl) rfl (by decide)
open Fi
theorem nearI_ret (a b d : Int) (w : World) (h : -1000000 ≤ a ∧ a ≤ 1000000 ∧ -1000000 ≤ b ∧ b ≤ 1000000) :
  Ret Try.prog 81 #[i64 a, i64 b, i64 d] w fun v w' => v = .bool (decide (max (a - b) (b - a) ≤ d)) ∧ Ext w w' := by
 have hM := M.start w
 refine enter Try.func81 rfl (by kernel_rfl) Try.ntmps81 rfl ?_
 refine C.seq <| C.region <| E.asg rfl rfl <| E.nil <| X.next <| C.seq <| C.region <| E.mv rfl rfl <| E.mv rfl rfl <| ?_
 refine E.sub' rfl rfl (by omega) rfl ?_
 refine E.mv rfl rfl <| E.mv rfl rfl <| ?_
 refine E.sub' rfl rfl (by omega) rfl ?_
 refine E.max2 rfl rfl rfl <| E.mv rfl rfl <| E.bin rfl rfl rfl rfl <| E.asg rfl rfl <| E.nil <| X.next <| C.ret <| ret1 rfl rfl ?_
 exact ⟨rfl, hM.toExt⟩
theorem nearby_ret (bp : Nat) (m : Mk) (x y : Int) (w : World) (hp : Blk w bp 64 #[i64 x, i64 y]) (hb : -1000000 ≤ m.x ∧ m.x ≤ 1000000 ∧ -1000000 ≤ m.y ∧ m.y ≤ 1000000) (hx : -1000000 ≤ x ∧ x ≤ 1000000 ∧ -1000000 ≤ y ∧ y ≤ 1000000) :
  Ret Try.prog 80 #[mkv m, pv bp] w fun v w' => v = .bool (decide (nearM m x y)) ∧ Ext w w' := by
 have hM := M.start w
 refine enter Try.func80 rfl (by kernel_rfl) Try.ntmps80 rfl ?_
 refine C.seq <| C.region <| ?_
 refine E.boxM (cs := mkc m) hM rfl rfl rfl ?_
 intro b2 w0 hM
 try dsimp only [Za, Zb, Zc, Zd, repl] at hM
 refine E.asg rfl rfl <| E.nil <| X.next <| ?_

 refine C.cut0 [] rfl [(3, .bool (decide (nearM m x y)))] (fun w' => M w (Nn) w' [Rg.blk b2 24 (Fi.mkc m)]) ?_ ?_
 ·
  refine C.region <| ?_
  refine E.fld (o := 0) (sz := 0) rfl Try.underlying24 rfl rfl (by kernel_rfl) rfl ?_
  refine E.load rfl Try.underlying3 rfl (hM.bcell 0 rfl rfl) rfl ?_
  refine E.fld (o := 0) (sz := 0) rfl Try.underlying64 rfl rfl (by kernel_rfl) rfl ?_
  refine E.load rfl Try.underlying3 rfl ((hp.ext hM.toExt).cell 0) rfl ?_
  refine E.fld (o := 2) (sz := 0) rfl Try.underlying24 rfl rfl (by kernel_rfl) rfl ?_
  refine E.load rfl Try.underlying3 rfl (hM.bcell 0 rfl rfl) rfl ?_
  refine E.call rfl rfl (nearI_ret m.x x m.s _ (by omega)) ?_
  rintro _ w1 ⟨rfl, x1⟩
  have hM := hM.ext x1
  try dsimp only [Za, Zb, Zc, Zd, repl] at hM
  refine E.mv rfl rfl <| ?_
  refine E.split 11 rfl (fun g11 => ?_) (fun g11 => ?_)
  ·
   try simp only [Ya, Yb, Yc, Yd, Ye, Yf] at g11
   refine E.on rfl rfl (E.fld (o := 1) (sz := 0) rfl Try.underlying24 rfl rfl (by kernel_rfl) rfl ?_)
   refine E.on rfl rfl (E.load rfl Try.underlying3 rfl (hM.bcell 0 rfl rfl) rfl ?_)
   refine E.on rfl rfl (E.fld (o := 1) (sz := 0) rfl Try.underlying64 rfl rfl (by kernel_rfl) rfl ?_)
   refine E.on rfl rfl (E.load rfl Try.underlying3 rfl ((hp.ext hM.toExt).cell 1) rfl ?_)
   refine E.on rfl rfl (E.fld (o := 2) (sz := 0) rfl Try.underlying24 rfl rfl (by kernel_rfl) rfl ?_)
   refine E.on rfl rfl (E.load rfl Try.underlying3 rfl (hM.bcell 0 rfl rfl) rfl ?_)
   refine E.on rfl rfl (E.call rfl rfl (nearI_ret m.y y m.s _ (by omega)) ?_)
   rintro _ w2 ⟨rfl, x2⟩
   have hM := hM.ext x2
   try dsimp only [Za, Zb, Zc, Zd, repl] at hM

   refine E.pick rfl rfl rfl <| E.asg rfl rfl <| E.nil <| X.join0  (Sub.cons (look_eq rfl (congrArg Value.bool (decide_eq_decide.2 ⟨fun h => ⟨by simpa using g11, h⟩, fun h => h.2⟩))) <| Sub.nil _) rfl hM
  ·
   try simp only [Ya, Yb, Yc, Yd, Ye, Yf] at g11

   refine E.off rfl rfl rfl rfl <| E.off rfl rfl rfl rfl <| E.off rfl rfl rfl rfl <| E.off rfl rfl rfl rfl <| E.off rfl rfl rfl rfl <| E.off rfl rfl rfl rfl <| E.off rfl rfl rfl rfl <| E.pick rfl rfl rfl <| E.asg rfl rfl <| E.nil <| X.join0  (Sub.cons (look_eq rfl (congrArg Value.bool (decide_eq_false (p := nearM m x y) (fun h => by have := h.1; simp at g11; omega)).symm)) <| Sub.nil _) rfl hM
 rintro  w3 hM
 refine C.ret <| ret1 rfl rfl ?_
 exact ⟨rfl, hM.toExt⟩
theorem indexFunc_ret (p : Value) (l : List Mk) (bp : Nat) (x y : Int) (w : World) (hr : RdF mkc 4 w p l) (hp : Blk w bp 64 #[i64 x, i64 y]) (hb : ∀ m ∈ l, -1000000 ≤ m.x ∧ m.x ≤ 1000000 ∧ -1000000 ≤ m.y ∧ m.y ≤ 1000000) (hx : -1000000 ≤ x ∧ x ≤ 1000000 ∧ -1000000 ≤ y ∧ y ≤ 1000000) :
  Ret Try.prog 79 #[p, fnv 80 [pv bp]] w fun v w' => v = i64 (if fdx x y l < l.length then (fdx x y l : Int) else -1) ∧ Ext w w' := by
 have hM := M.start w
 refine enter Try.func79 rfl (by kernel_rfl) Try.ntmps79 rfl ?_
 refine C.seq <| C.region <| E.asg rfl rfl <| E.nil <| X.next <| C.seq <| C.seq <| C.region <| E.mv rfl rfl <| ?_
 refine E.lenv rfl (RdF.shape (by exact hM.argF0 (by assumption))) Try.underlying22 rfl ?_
 refine E.mv rfl rfl <| E.nil <| X.next <| C.block <| ?_

 refine C.loop1 [(0, _), (1, _), (7, _)] rfl (fun (k : Nat) => [(8, i64 k)]) (fun (k : Nat) w' => M w (Nn) w' [] ∧ k ≤ l.length ∧ ∀ j (h : j < l.length), j < k → ¬ nearM l[j] x y) (fun (k : Nat) => l.length - k) 0 ?_ ?_ ?_
 · exact Sub.cons rfl <| Sub.nil _
 · exact ⟨hM, Nat.zero_le _, fun j h h0 => absurd h0 (Nat.not_lt_zero _)⟩
 rintro k w0 ⟨hM, hk, hno⟩
 refine C.seq <| C.region <| E.bin rfl rfl rfl rfl <| E.nil <| X.next <| C.seq <| ?_
 refine C.cond' rfl (fun hC0 => ?_) (fun hC0 => ?_)
 ·
  have hk' : k < l.length := by omega
  have hle := RdF.le hr
  refine C.skip <| X.next <| C.seq <| C.block <| C.seq <| C.region <| E.mv rfl rfl <| E.asg rfl rfl <| E.nil <| X.next <| C.seq <| C.region <| E.mv rfl rfl <| E.mv rfl rfl <| E.mv rfl rfl <| ?_
  refine E.idxF (k := k) rfl rfl (hM.argF0 hr) rfl hk' (by decide) Try.underlying22 (by kernel_rfl) rfl ?_
  refine E.loadA (cs := mkc l[k]) rfl Try.underlying24 rfl (by kernel_rfl) ((hM.argF0 hr).all hk') rfl ?_
  refine E.callv rfl rfl rfl (nearby_ret bp l[k] x y _ (hp.ext hM.toExt) (hb _ (List.getElem_mem hk')) hx) ?_
  rintro _ w1 ⟨rfl, x1⟩
  have hM := hM.ext x1
  try dsimp only [Za, Zb, Zc, Zd, repl] at hM
  refine E.nil <| X.next <| ?_
  refine C.cond' rfl (fun hC1 => ?_) (fun hC1 => ?_)
  ·
   refine C.seq <| C.region <| E.mv rfl rfl <| E.asg rfl rfl <| E.nil <| X.next <| C.ret <| X.retB <| X.retT <| X.retT <| X.retB <| X.retT <| ret1 rfl rfl ?_
   exact ⟨by rw [fdx_t hk' hno hC1, if_pos hk'], hM.toExt⟩
  ·
   refine C.skip <| X.outN <| X.next <| C.region <| ?_
   refine E.add rfl rfl (by omega) rfl ?_

   refine E.mv rfl rfl <| E.nil <| X.again1 (k + 1) (Sub.cons rfl <| Sub.nil _) rfl ⟨hM, by omega, fun j h hj => if e : j = k then by subst e; exact hC1 else hno j h (by omega)⟩ (by omega)
 ·
  obtain rfl : k = l.length := by omega
  refine C.exit <| X.exitT <| X.exitT <| X.outE <| X.next <| C.seq <| C.region <| E.asg rfl rfl <| E.nil <| X.next <| C.ret <| ret1 rfl rfl ?_
  exact ⟨by rw [fdx_f (fun j h => hno j h h), if_neg (by omega)], hM.toExt⟩
def VisV (bl : Nat) (o : Option Mk) (l : List Mk) (vl : Value) (w w' : World) (v : Value) : Prop := ∃ vl', v = .bool (decide ((stp l o).length ≤ 256)) ∧ M w (fpU [Rg.blk bl 22 [vl], Rg.slF mkc 4 24 vl l]) w' [Rg.blk bl 22 [vl'], Rg.slF mkc 4 24 vl' (stp l o)]
set_option maxHeartbeats 1000000 in
theorem visit_ret (cv vl : Value) (bl : Nat) (l : List Mk) (o : Option Mk) (N : Int) (w : World) (hs : Sep w [Rg.blk bl 22 [vl], Rg.slF mkc 4 24 vl l]) (hc : Cnd o cv) (hl : l.length ≤ 256) (hb : ∀ m ∈ l, mbd N m) (hN : N ≤ 1000000000) (ho : ∀ m, o = some m → mbd 1 m) :
    Ret Try.prog 78 #[cv, pv bl] w fun v w' => VisV bl o l vl w w' v := by
  have hM := M.startS hs
  refine enter Try.func78 rfl (by kernel_rfl) Try.ntmps78 rfl ?_
  refine C.seq <| C.region <| E.asg rfl rfl <| E.nil <| X.next <| C.seq <| C.region <| E.mv rfl rfl <| ?_
  rcases hc with ⟨rfl, a, b, rfl⟩ | ⟨m, rfl, hm1, rfl⟩
  · refine E.asF rfl Try.underlying134 rfl (by decide) (z := .agg #[i64 0, i64 0, i64 0]) (fun _ => by kernel_rfl) rfl ?_
    refine E.mv rfl rfl <| E.ext rfl rfl rfl <| E.ext rfl rfl rfl <| ?_
    refine E.allocM (z := .agg #[.int .i64 0, .int .i64 0, .int .i64 0]) (cs := [.int .i64 0, .int .i64 0, .int .i64 0]) hM (by kernel_rfl) rfl rfl ?_
    intro b4 w0 hM
    refine E.storeAM 2 (cs := [i64 0, i64 0, i64 0]) hM rfl rfl rfl (by kernel_rfl) rfl (ones rfl <| ones rfl <| ones rfl <| ones_nil) ?_
    intro w1 hM
    refine E.asg rfl rfl <| E.nil <| X.next <| C.seq <| C.seq <| C.region <| E.mv rfl rfl <| E.not rfl rfl <| E.nil <| X.next <| ?_
    refine C.cond rfl (fun hC0 => ?_) (fun hC0 => ?_)
    · refine C.seq <| C.region <| E.asg rfl rfl <| E.nil <| X.next <| C.ret <| X.retT <| ret1 rfl rfl ?_
      exact ⟨vl, by rw [show stp l none = l from rfl, decide_eq_true hl], hM.pick [0, 1] (by decide)⟩
    · cases hC0
  have hmb := ho m rfl
  refine E.asT rfl Try.underlying134 rfl rfl ?_
  have hmb' : -1000000 ≤ m.x ∧ m.x ≤ 1000000 ∧ -1000000 ≤ m.y ∧ m.y ≤ 1000000 ∧ -1000000 ≤ m.s ∧ m.s ≤ 1000000 := by unfold mbd at hmb; omega
  refine E.mv rfl rfl <| E.ext rfl rfl rfl <| E.ext rfl rfl rfl <| ?_
  refine E.allocM (z := .agg #[.int .i64 0, .int .i64 0, .int .i64 0]) (cs := [.int .i64 0, .int .i64 0, .int .i64 0]) hM (by kernel_rfl) rfl rfl ?_
  intro b4 w0 hM
  try dsimp only [Za, Zb, Zc, Zd, repl] at hM
  refine E.storeAM 2 (cs := [i64 m.x, i64 m.y, i64 m.s]) hM rfl rfl rfl (by kernel_rfl) rfl (ones rfl <| ones rfl <| ones rfl <| ones_nil) ?_
  intro w1 hM
  try dsimp only [Za, Zb, Zc, Zd, repl] at hM
  refine E.asg rfl rfl <| E.nil <| X.next <| C.seq <| C.seq <| C.region <| E.mv rfl rfl <| E.not rfl rfl <| E.nil <| X.next <| ?_
  refine C.cond rfl (fun hC0 => ?_) (fun hC0 => ?_)
  ·
    cases hC0
  ·
    refine C.skip <| X.next <| C.seq <| C.region <| E.mv rfl rfl <| ?_
    refine E.inv rfl rfl (fun _ => by kernel_rfl) rfl (center_ret m.x m.y m.s _) ?_
    rintro _ w2 ⟨rfl, x2⟩
    have hM := hM.ext x2
    try dsimp only [Za, Zb, Zc, Zd, repl] at hM
    refine E.allocM (z := .agg #[.int .i64 0, .int .i64 0]) (cs := [.int .i64 0, .int .i64 0]) hM (by kernel_rfl) rfl rfl ?_
    intro b6 w3 hM
    try dsimp only [Za, Zb, Zc, Zd, repl] at hM
    refine E.storeAM 3 (cs := [i64 m.x, i64 m.y]) hM rfl rfl rfl (by kernel_rfl) rfl (ones rfl <| ones rfl <| ones_nil) ?_
    intro w4 hM
    try dsimp only [Za, Zb, Zc, Zd, repl] at hM
    refine E.nil <| X.next <| C.seq <| C.region <| ?_
    refine E.load rfl Try.underlying22 rfl (hM.bcell 0 rfl rfl) rfl ?_
    refine E.mkfn rfl rfl ?_
    refine E.call rfl rfl (indexFunc_ret vl l b6 m.x m.y _ (hM.slF 1 rfl) (hM.blk 3 rfl) (fun q hq => by have := hb q hq; unfold mbd at this; omega) (by omega)) ?_
    rintro _ w5 ⟨rfl, x5⟩
    have hM := hM.ext x5
    try dsimp only [Za, Zb, Zc, Zd, repl] at hM
    have hfl := fdx_le m.x m.y l
    refine E.asg rfl rfl <| E.nil <| X.next <| C.seq <| C.seq <| C.region <| E.mv rfl rfl <| E.bin rfl rfl rfl rfl <| E.nil <| X.next <| ?_
    refine C.cond' rfl (fun hC1 => ?_) (fun hC1 => ?_)
    ·
      have hk : fdx m.x m.y l < l.length := Decidable.byContradiction fun h => by rw [if_neg h] at hC1; omega
      rw [if_pos hk]
      obtain ⟨k, hke⟩ : ∃ k, fdx m.x m.y l = k := ⟨_, rfl⟩
      rw [hke] at hk ⊢
      have hst : stp l (some m) = l.set k { l[k] with n := l[k].n + 1 } := addM_t hk hke
      have hbk := hb _ (List.getElem_mem hk)
      have hbn : 0 ≤ l[k].n ∧ l[k].n ≤ N := by unfold mbd at hbk; omega
      refine C.seq <| C.region <| ?_
      refine E.load rfl Try.underlying22 rfl (hM.bcell 0 rfl rfl) rfl ?_
      refine E.mv rfl rfl <| ?_
      refine E.idxF (k := k) rfl rfl (hM.slF 1 rfl) rfl hk (by decide) Try.underlying22 (by kernel_rfl) rfl ?_
      refine E.fld (o := 3) (sz := 0) rfl Try.underlying24 rfl rfl (by kernel_rfl) rfl ?_
      refine E.load rfl Try.underlying3 rfl ((hM.slF 1 rfl).atA rfl hk (o := 3) rfl) rfl ?_
      refine E.add rfl rfl (by omega) rfl ?_
      refine E.idxF (k := k) rfl rfl (hM.slF 1 rfl) rfl hk (by decide) Try.underlying22 (by kernel_rfl) rfl ?_
      refine E.fld (o := 3) (sz := 0) rfl Try.underlying24 rfl rfl (by kernel_rfl) rfl ?_
      refine E.storeFM 1 { l[k] with n := l[k].n + 1 } hM rfl rfl rfl (by kernel_rfl) rfl rfl hk rfl rfl ?_
      intro w6 hM
      try dsimp only [Za, Zb, Zc, Zd, repl] at hM
      refine E.nil <| X.next <| C.seq <| C.region <| E.asg rfl rfl <| E.nil <| X.next <| C.ret <| X.retT <| ret1 rfl rfl ?_
      exact ⟨vl, by rw [hst, List.length_set, decide_eq_true hl], by rw [hst]; exact hM.pick [0, 1] (by decide)⟩
    ·
      have hk : fdx m.x m.y l = l.length := Decidable.byContradiction fun h => by rw [if_pos (by omega)] at hC1; omega
      have hst : stp l (some m) = l ++ [m] := addM_f hk
      have hmn : ({ x := m.x, y := m.y, s := m.s, n := 1 } : Mk) = m := by cases m; simp at hm1; simp [hm1]
      refine C.skip <| X.next <| C.seq <| C.region <| ?_
      refine E.load rfl Try.underlying22 rfl (hM.bcell 0 rfl rfl) rfl ?_
      refine E.fld (o := 0) (sz := 0) rfl Try.underlying64 rfl rfl (by kernel_rfl) rfl ?_
      refine E.load rfl Try.underlying3 rfl (hM.bcell 3 rfl rfl) rfl ?_
      refine E.fld (o := 1) (sz := 0) rfl Try.underlying64 rfl rfl (by kernel_rfl) rfl ?_
      refine E.load rfl Try.underlying3 rfl (hM.bcell 3 rfl rfl) rfl ?_
      refine E.fld (o := 2) (sz := 0) rfl Try.underlying134 rfl rfl (by kernel_rfl) rfl ?_
      refine E.load rfl Try.underlying3 rfl (hM.bcell 2 rfl rfl) rfl ?_
      refine E.buildC (cs := [_, _, _, _]) [.int .i64 0, .int .i64 0, .int .i64 0, .int .i64 0] [0, 1, 2, 3] rfl rfl (by kernel_rfl) rfl ?_
      refine E.pushFM 1 { x := m.x, y := m.y, s := m.s, n := 1 } hM rfl rfl rfl Try.underlying22 elem_Tapi_Mark rfl (by decide) (ones rfl <| ones rfl <| ones rfl <| ones rfl <| ones_nil) (by omega) (by omega) (by simp) rfl rfl ?_
      intro v39 u39 w7 hM
      try dsimp only [Za, Zb, Zc, Zd, repl] at hM
      refine E.storeM 0 hM rfl rfl rfl (by kernel_rfl) (hM.slF 1 rfl).one rfl ?_
      intro w8 hM
      try dsimp only [Za, Zb, Zc, Zd, repl] at hM
      refine E.nil <| X.next <| C.seq <| C.region <| ?_
      refine E.load rfl Try.underlying22 rfl (hM.bcell 0 rfl rfl) rfl ?_
      refine E.lenv rfl (RdF.shape (hM.slF 1 rfl)) Try.underlying22 rfl ?_
      refine E.bin rfl rfl rfl rfl <| E.asg rfl rfl <| E.nil <| X.next <| C.ret <| ret1 rfl rfl ?_
      exact ⟨_, by rw [hst, hmn]; congr 1; exact decide_eq_decide.2 ⟨fun h => by omega, fun h => by omega⟩, by rw [hst]; rw [hmn] at hM; exact hM.pick [0, 1] (by decide)⟩
end Go.Proofs.Ytbinlkobmlebpaa
namespace Go.Proofs.Ytbinlkobmlebpaa
open Go.RowKit Sym
open Fi
def Sym.Rg.two (r q : Rg) : Rg where
 fp k := r.fp k ∨ q.fp k
 ok w := r.ok w ∧ q.ok w
 keep hk h := ⟨r.keep (fun k hf => hk k (.inl hf)) h.1, q.keep (fun k hf => hk k (.inr hf)) h.2⟩
 live h k hf := hf.elim (r.live h.1 k) (q.live h.2 k)
abbrev Cq := Nat × Value
abbrev Cps := List (Option Cq)
def penc (o : Option (Nat × Value)) : Value := .pointer (o.map fun q => ⟨q.1, 0, none⟩)
def CoL (W H : Nat) (dk : List Bool) (w : World) (ps : List (Option (Nat × Value))) : Prop := ∀ (x b : Nat) (ve : Value), ps[x]? = some (some (b, ve)) → Blk w b 153 [ve, .bool (lc dk x W 0)].toArray ∧ RdL i64 w ve (eds (lc dk x W) H)
def Rg.cols (W H : Nat) (dk : List Bool) (ps : List (Option (Nat × Value))) : Rg where
 fp k := ∃ (x b : Nat) (ve : Value), ps[x]? = some (some (b, ve)) ∧ (k = b ∨ k = (bs ve).1)
 ok w := CoL W H dk w ps
 keep {w w'} hk h := fun x b ve hx => by
  have h1 := h x b ve hx
  refine ⟨(Sym.Rg.blk b 153 [ve, .bool (lc dk x W 0)]).keep (fun k hf => hk k ⟨x, b, ve, hx, .inl (by cases hf; rfl)⟩) h1.1, ?_⟩
  exact (Sym.Rg.rd 1 ve (eds (lc dk x W) H).length ((eds (lc dk x W) H).map i64)).keep (fun k hf => hk k ⟨x, b, ve, hx, .inr hf.2⟩) h1.2
 live {w} h k hk := by
  obtain ⟨x, b, ve, hx, rfl | rfl⟩ := hk
  · exact (Sym.Rg.blk k 153 [ve, .bool (lc dk x W 0)]).live (h x k ve hx).1 k rfl
  · exact (h x b ve hx).2.lt (by unfold eds; simp)
theorem cols_nil (W H : Nat) (dk : List Bool) (w : World) (n : Nat) : CoL W H dk w (List.replicate n none) := fun x b ve h => by
 rw [List.getElem?_replicate] at h; split at h <;> cases h
theorem cols_nofp (W H : Nat) (dk : List Bool) (n k : Nat) : ¬ (Rg.cols W H dk (List.replicate n none)).fp k := fun ⟨x, b, ve, h, _⟩ => by
 rw [List.getElem?_replicate] at h; split at h <;> cases h
theorem cols_ok {W H : Nat} {dk : List Bool} {w : World} {ps : List (Option (Nat × Value))} {x b : Nat} {ve : Value} (h : CoL W H dk w ps) (hx : x < ps.length) (hb : Blk w b 153 [ve, .bool (lc dk x W 0)].toArray) (hr : RdL i64 w ve (eds (lc dk x W) H)) : CoL W H dk w (ps.set x (some (b, ve))) := fun x' b' ve' h' => by
  by_cases e : x = x'
  · subst e
    rw [List.getElem?_set_self hx] at h'
    cases h'
    exact ⟨hb, hr⟩
  · rw [List.getElem?_set_ne e] at h'; exact h x' b' ve' h'
theorem cols_fp {W H : Nat} {dk : List Bool} {w : World} {ps : List (Option (Nat × Value))} {x b : Nat} {ve : Value} {T e : TypeId} {cs : List Value} (hx : x < ps.length) (ho : OwnL i64 w 0 e ve (eds (lc dk x W) H)) (k : Nat) (hk : (Rg.cols W H dk (ps.set x (some (b, ve)))).fp k) : (Rg.cols W H dk ps).fp k ∨ (Sym.Rg.two (Sym.Rg.blk b T cs) (Sym.Rg.sl i64 e ve (eds (lc dk x W) H))).fp k := by
  obtain ⟨x', b', ve', h', hk⟩ := hk
  by_cases e1 : x = x'
  · subst e1
    rw [List.getElem?_set_self hx] at h'
    cases h'
    rcases hk with rfl | rfl
    · exact .inr (.inl rfl)
    · refine .inr (.inr ?_)
      rcases ho.2 with ⟨_, h3⟩ | ⟨g, cap, cur, hv, _⟩
      · unfold eds at h3; simp at h3
      · show ve.ownBlock = some (bs ve).1
        rw [hv]; rfl
  · rw [List.getElem?_set_ne e1] at h'
    exact .inl ⟨x', b', ve', h', hk⟩
set_option maxHeartbeats 4000000 in
theorem scan_ret (vd kv vl0 : Value) (bl W H : Nat) (dk : List Bool) (sh : List Int) (kd : Bool) (w : World) (hs : Sep w [Rg.blk bl 22 [vl0], Rg.slF mkc 4 24 vl0 []]) (hd : RdL Value.bool w vd dk) (ho : Off (fpU [Rg.blk bl 22 [vl0], Rg.slF mkc 4 24 vl0 []]) vd dk) (hW : 1 ≤ W ∧ W ≤ 4096) (hH : 1 ≤ H ∧ H ≤ 4096) (hl : dk.length = W * H) (hl2 : dk.length ≤ 4194304) (hk : Kind kv sh kd) :
  Ret Try.prog 77 #[mat W H vd, kv, fnv 78 [pv bl]] w fun v w' => ∃ vl, v = .tuple #[] ∧ M w (fpU [Rg.blk bl 22 [vl0], Rg.slF mkc 4 24 vl0 []]) w' [Rg.blk bl 22 [vl], Rg.slF mkc 4 24 vl (fold [] (allC W H dk sh kd H 0))] := by
 have hM := M.startS hs
 refine enter Try.func77 rfl (by kernel_rfl) Try.ntmps77 rfl ?_
 refine C.seq <| C.region <| ?_
 refine E.boxM (cs := [i64 W, i64 H, vd]) hM rfl (by obtain ⟨a, cap, rfl, _⟩ := hd; rfl) rfl ?_
 intro b3 w0 hM
 try dsimp only [Za, Zb, Zc, Zd, repl] at hM
 refine E.nil <| X.next <| C.seq <| C.region <| ?_
 refine E.fld (o := 0) (sz := 0) rfl Try.underlying37 rfl rfl (by kernel_rfl) rfl ?_
 refine E.load rfl Try.underlying3 rfl (hM.bcell 2 rfl rfl) rfl ?_
 refine E.makeM (by_ := 8) (enc := penc) none hM rfl Try.underlying151 (by kernel_rfl) rfl (by omega) (by omega) rfl ?_
 intro v17 w1 hM
 try dsimp only [Za, Zb, Zc, Zd, repl] at hM
 have hM := hM.new (Ext.refl _) (r := Rg.cols W H dk (List.replicate W none)) (cols_nil W H dk _ W) (fun k hk => (cols_nofp W H dk W k hk).elim)
 have hM := hM.pick [2, 3, 4, 0, 1] (by decide)
 refine E.asg rfl rfl <| E.nil <| X.next <| C.seq <| C.region <| ?_
 refine E.fld (o := 1) (sz := 0) rfl Try.underlying37 rfl rfl (by kernel_rfl) rfl ?_
 refine E.load rfl Try.underlying3 rfl (hM.bcell 0 rfl rfl) rfl ?_
 refine E.mv rfl rfl <| E.nil <| X.next <| C.block <| ?_

 refine C.loop3 [(1, _), (2, _), (3, _), (6, _), (19, _)] rfl (fun (y : Nat) (ps : Cps) (vl : Value) => [(20, i64 y)]) (fun (y : Nat) (ps : Cps) (vl : Value) w' => M w (fpU [Rg.blk bl 22 [vl0], Rg.slF mkc 4 24 vl0 []]) w' [Rg.blk b3 37 [i64 W, i64 H, vd], Rg.sl penc 156 v17 ps, Rg.cols W H dk ps, Rg.blk bl 22 [vl], Rg.slF mkc 4 24 vl (fold [] (allC W H dk sh kd y 0))] ∧ y ≤ H ∧ ps.length = W ∧ (fold [] (allC W H dk sh kd y 0)).length ≤ 256 ∧ ∀ m ∈ (fold [] (allC W H dk sh kd y 0)), mbd ((y : Int) * 5000 + 0) m) (fun (y : Nat) (ps : Cps) (vl : Value) => H - y) 0 (List.replicate W none) vl0 ?_ ?_ ?_
 · exact Sub.cons rfl <| Sub.nil _
 · exact ⟨hM, Nat.zero_le _, List.length_replicate, Nat.zero_le _, fun m hm => by cases hm⟩
 rintro y ps vl w2 ⟨hM, hy, hpl, hfl, hfb⟩
 refine C.seq <| C.region <| E.bin rfl rfl rfl rfl <| E.nil <| X.next <| C.seq <| ?_
 refine C.cond' rfl (fun hC0 => ?_) (fun hC0 => ?_)
 ·
  have hy' : y < H := by omega
  have hrow : ∀ k, k < W → y * W + k * 1 < dk.length := fun k hk => by have := at_lt hk hy'; rw [Nat.mul_one, hl]; omega
  have hyW := hrow 0 (by omega)
  refine C.skip <| X.next <| C.seq <| C.block <| C.seq <| C.region <| E.mv rfl rfl <| E.asg rfl rfl <| E.nil <| X.next <| C.seq <| C.region <| ?_
  refine E.fld (o := 2) (sz := 0) rfl Try.underlying37 rfl rfl (by kernel_rfl) rfl ?_
  refine E.load rfl Try.underlying35 rfl (hM.bcell 0 rfl rfl) rfl ?_
  refine E.mv rfl rfl <| ?_
  refine E.fld (o := 0) (sz := 0) rfl Try.underlying37 rfl rfl (by kernel_rfl) rfl ?_
  refine E.load rfl Try.underlying3 rfl (hM.bcell 0 rfl rfl) rfl ?_
  refine E.mulN (a := y) (b := W) rfl rfl (by omega) rfl ?_
  refine E.fld (o := 0) (sz := 0) rfl Try.underlying37 rfl rfl (by kernel_rfl) rfl ?_
  refine E.load rfl Try.underlying3 rfl (hM.bcell 0 rfl rfl) rfl ?_
  refine E.call rfl rfl (newLine_ret vd dk (y * W) 1 W _ (hM.arg hd ho) hW hrow hl2) ?_
  rintro _ w3 ⟨ve, rfl, m⟩
  have hM := hM.call m
  try dsimp only [Za, Zb, Zc, Zd, repl] at hM
  refine E.allocM (z := .agg #[.slice none 0 0, .bool false]) (cs := [.slice none 0 0, .bool false]) hM (by kernel_rfl) rfl rfl ?_
  intro b8 w4 hM
  try dsimp only [Za, Zb, Zc, Zd, repl] at hM
  refine E.storeAM 6 (cs := [ve, .bool ((lc dk (y * W) 1) 0)]) hM rfl rfl rfl (by kernel_rfl) rfl (ones (hM.sl 5 rfl).one <| ones rfl <| ones_nil) ?_
  intro w5 hM
  try dsimp only [Za, Zb, Zc, Zd, repl] at hM
  refine E.nil <| X.next <| C.seq <| C.region <| ?_
  refine E.fld (o := 0) (sz := 0) rfl Try.underlying153 rfl rfl (by kernel_rfl) rfl ?_
  refine E.load rfl Try.underlying45 rfl (hM.bcell 6 rfl rfl) rfl ?_
  refine E.lenv rfl (Rd.shape (hM.sl 5 rfl)) Try.underlying45 rfl ?_
  refine E.mv rfl rfl <| E.nil <| X.next <| C.block <| ?_
  have hM := hM.pick [0, 1, 2, 6, 5, 3, 4] (by decide)
  have hrl := eds_len (lc dk (y * W) 1) W
  have heb : ∀ x ∈ eds (lc dk (y * W) 1) W, 0 ≤ x ∧ x ≤ 4096 := fun x hx => by have := eds_mem x hx; omega

  refine C.loop3 [(1, _), (2, _), (3, _), (6, _), (7, _), (8, _), (19, _), (20, _), (34, _)] rfl (fun (k : Nat) (ps : Cps) (vl : Value) => [(35, i64 k)]) (fun (k : Nat) (ps : Cps) (vl : Value) w' => M w (fpU [Rg.blk bl 22 [vl0], Rg.slF mkc 4 24 vl0 []]) w' [Rg.blk b3 37 [i64 W, i64 H, vd], Rg.sl penc 156 v17 ps, Rg.cols W H dk ps, Rg.blk b8 153 [ve, .bool ((lc dk (y * W) 1) 0)], Rg.sl i64 3 ve (eds (lc dk (y * W) 1) W), Rg.blk bl 22 [vl], Rg.slF mkc 4 24 vl (fold [] (allC W H dk sh kd y k))] ∧ k ≤ (eds (lc dk (y * W) 1) W).length ∧ ps.length = W ∧ (fold [] (allC W H dk sh kd y k)).length ≤ 256 ∧ ∀ m ∈ (fold [] (allC W H dk sh kd y k)), mbd ((y : Int) * 5000 + k) m) (fun (k : Nat) (ps : Cps) (vl : Value) => (eds (lc dk (y * W) 1) W).length - k) 0 ps vl ?_ ?_ ?_
  · exact Sub.cons rfl <| Sub.nil _
  · exact ⟨hM, Nat.zero_le _, hpl, hfl, fun m hm => mbd_le (hfb m hm) (by omega)⟩
  rintro k ps vl w6 ⟨hM, hk1, hpl, hfl, hfb⟩
  refine C.seq <| C.region <| E.bin rfl rfl rfl rfl <| E.nil <| X.next <| C.seq <| ?_
  refine C.cond' rfl (fun hC1 => ?_) (fun hC1 => ?_)
  ·
   have hk2 : k < (eds (lc dk (y * W) 1) W).length := by omega
   refine C.skip <| X.next <| ?_

   refine C.cut2 [(1, _), (2, _), (3, _), (6, _), (7, _), (8, _), (19, _), (20, _), (34, _), (35, _)] rfl (fun (ps : Cps) (vl : Value) => []) (fun (ps : Cps) (vl : Value) w' => M w (fpU [Rg.blk bl 22 [vl0], Rg.slF mkc 4 24 vl0 []]) w' [Rg.blk b3 37 [i64 W, i64 H, vd], Rg.sl penc 156 v17 ps, Rg.cols W H dk ps, Rg.blk b8 153 [ve, .bool ((lc dk (y * W) 1) 0)], Rg.sl i64 3 ve (eds (lc dk (y * W) 1) W), Rg.blk bl 22 [vl], Rg.slF mkc 4 24 vl (fold [] (allC W H dk sh kd y (k + 1)))] ∧ ps.length = W ∧ (fold [] (allC W H dk sh kd y (k + 1))).length ≤ 256 ∧ ∀ m ∈ (fold [] (allC W H dk sh kd y (k + 1))), mbd ((y : Int) * 5000 + (k + 1)) m) ?_ ?_
   ·
    refine C.block <| C.seq <| C.region <| E.mv rfl rfl <| E.asg rfl rfl <| E.nil <| X.next <| C.seq <| C.region <| ?_
    refine E.loadA (cs := [ve, .bool ((lc dk (y * W) 1) 0)]) rfl Try.underlying153 rfl (by kernel_rfl) (hM.bat 3 rfl) rfl ?_
    refine E.mv rfl rfl <| E.mv rfl rfl <| ?_
    refine E.call rfl rfl (lpattern_ret kv ve sh (eds (lc dk (y * W) 1) W) ((lc dk (y * W) 1) 0) kd k _ hk (hM.sl 4 rfl) heb (by omega)) ?_
    rintro _ w4 ⟨rfl, x4⟩
    have hM := hM.ext x4
    obtain ⟨pb, pt, pk, hpe, hpo⟩ := patR_ext (o := patv (eds (lc dk (y * W) 1) W) ((lc dk (y * W) 1) 0) kd sh k)
    rw [hpe]
    try dsimp only [Za, Zb, Zc, Zd, repl] at hM
    refine E.mv rfl rfl <| E.ext rfl rfl rfl <| E.ext rfl rfl rfl <| E.ext rfl rfl rfl <| E.asg rfl rfl <| E.asg rfl rfl <| E.asg rfl rfl <| E.nil <| X.next <| C.seq <| C.seq <| C.region <| E.mv rfl rfl <| E.not rfl rfl <| E.nil <| X.next <| ?_
    refine C.cond rfl (fun hC2 => ?_) (fun hC2 => ?_)
    ·
     have hvn : vis W H dk sh kd y k = none := vis_n (by
      rcases hpo with ⟨h, _⟩ | ⟨_, h⟩
      · exact h
      · rw [h] at hC2; cases hC2)

     refine C.exit <| X.exitT <| X.outE <| X.join2 ps vl (Sub.nil _) rfl ⟨by rw [allC_n hvn]; exact hM, hpl, by rw [allC_n hvn]; exact hfl, fun m hm => mbd_le (hfb m (by rw [allC_n hvn] at hm; exact hm)) (by omega)⟩
    ·
     have hpv := (hpo.resolve_left (fun h => by rw [h.2] at hC2; cases hC2)).1
     have hpT := patv_T hpv hk.pos
     obtain ⟨x, hx⟩ : ∃ x : Nat, pb + pt / 2 = (x : Int) := ⟨(pb + pt / 2).toNat, by omega⟩
     have hxW : x < W := by omega
     have hxl : x < ps.length := by omega
     have hcol : ∀ k, k < H → x + k * W < dk.length := fun k hk => by rw [hl]; exact at_lt hxW hk
     have hvs := vis_s (H := H) (x := x) hpv hx
     refine C.skip <| X.next <| C.seq <| C.region <| E.mv rfl rfl <| E.mv rfl rfl <| ?_
     refine E.quo (c := pt / 2) rfl rfl (by omega) (IntWalk.i64_quo _ _ (by omega)) rfl ?_
     refine E.add rfl rfl (by omega) rfl ?_
     rw [hx]
     refine E.asg rfl rfl <| E.nil <| X.next <| ?_

     refine C.cut2 [(1, _), (2, _), (3, _), (6, _), (7, _), (8, _), (10, _), (11, _), (13, _), (19, _), (20, _), (34, _), (35, _)] rfl (fun (ps : Cps) (q : Cq) => []) (fun (ps : Cps) (q : Cq) w' => M w (fpU [Rg.blk bl 22 [vl0], Rg.slF mkc 4 24 vl0 []]) w' [Rg.blk b3 37 [i64 W, i64 H, vd], Rg.sl penc 156 v17 ps, Rg.cols W H dk ps, Rg.blk b8 153 [ve, .bool ((lc dk (y * W) 1) 0)], Rg.sl i64 3 ve (eds (lc dk (y * W) 1) W), Rg.blk bl 22 [vl], Rg.slF mkc 4 24 vl (fold [] (allC W H dk sh kd y k))] ∧ ps.length = W ∧ ps[x]? = some (some q)) ?_ ?_
     ·
      refine C.seq <| C.region <| E.mv rfl rfl <| E.mv rfl rfl <| ?_
      refine E.get (enc := penc) (k := x) rfl rfl (hM.sl 1 rfl) rfl hxl Try.underlying151 (by kernel_rfl) Try.underlying156 rfl rfl rfl ?_
      refine E.eqnil rfl rfl Try.underlying156 rfl <| E.nil <| X.next <| ?_
      refine C.cond rfl (fun hC3 => ?_) (fun hC3 => ?_)
      ·
       have hnone : ps[x] = none := by
        cases h : ps[x] with
        | none => rfl
        | some q => rw [h] at hC3; cases hC3
       refine C.seq <| C.region <| ?_
       refine E.fld (o := 2) (sz := 0) rfl Try.underlying37 rfl rfl (by kernel_rfl) rfl ?_
       refine E.load rfl Try.underlying35 rfl (hM.bcell 0 rfl rfl) rfl ?_
       refine E.mv rfl rfl <| ?_
       refine E.fld (o := 0) (sz := 0) rfl Try.underlying37 rfl rfl (by kernel_rfl) rfl ?_
       refine E.load rfl Try.underlying3 rfl (hM.bcell 0 rfl rfl) rfl ?_
       refine E.fld (o := 1) (sz := 0) rfl Try.underlying37 rfl rfl (by kernel_rfl) rfl ?_
       refine E.load rfl Try.underlying3 rfl (hM.bcell 0 rfl rfl) rfl ?_
       refine E.call rfl rfl (newLine_ret vd dk x W H _ (hM.arg hd ho) hH hcol hl2) ?_
       rintro _ w8 ⟨vc, rfl, m⟩
       have hM := hM.call m
       try dsimp only [Za, Zb, Zc, Zd, repl] at hM
       refine E.allocM (z := .agg #[.slice none 0 0, .bool false]) (cs := [.slice none 0 0, .bool false]) hM (by kernel_rfl) rfl rfl ?_
       intro b14 w9 hM
       try dsimp only [Za, Zb, Zc, Zd, repl] at hM
       refine E.storeAM 8 (cs := [vc, .bool (lc dk x W 0)]) hM rfl rfl rfl (by kernel_rfl) rfl (ones (hM.sl 7 rfl).one <| ones rfl <| ones_nil) ?_
       intro w10 hM
       try dsimp only [Za, Zb, Zc, Zd, repl] at hM
       refine E.nil <| X.next <| C.region <| E.mv rfl rfl <| E.mv rfl rfl <| ?_
       refine E.idx1 (k := x) rfl rfl (hM.sl 1 rfl) rfl hxl Try.underlying151 (by kernel_rfl) rfl ?_
       refine E.storeL 1 (some (b14, vc)) hM rfl rfl rfl (by kernel_rfl) rfl rfl hxl ?_
       intro w11 hM
       try dsimp only [Za, Zb, Zc, Zd, repl] at hM
       have hM := hM.join 8 7 (by decide) rfl rfl (p := Rg.two (Rg.blk b14 153 [vc, .bool (lc dk x W 0)]) (Rg.sl i64 3 vc (eds (lc dk x W) H))) ⟨hM.ok (i := 8) rfl, hM.ok (i := 7) rfl⟩ (fun k h => h)
       dsimp only [List.set_cons_zero, List.set_cons_succ] at hM
       have hM := hM.join 2 8 (by decide) rfl rfl (p := Rg.cols W H dk (ps.set x (some (b14, vc)))) (cols_ok (hM.ok (i := 2) rfl) hxl (hM.ok (i := 8) rfl).1 ((hM.ok (i := 8) rfl : Rg.ok _ _).2 : OwnL i64 _ 0 _ _ _).rd) (cols_fp hxl (hM.ok (i := 8) rfl).2)
       have hM := hM.pick [0, 1, 2, 3, 4, 5, 6] (by decide)

       refine E.nil <| X.join2 (ps.set x (some (b14, vc))) (b14, vc) (Sub.nil _) rfl ⟨hM, by rw [List.length_set]; exact hpl, List.getElem?_set_self hxl⟩
      ·
       obtain ⟨q, hq⟩ : ∃ q, ps[x] = some q := by
        cases h : ps[x] with
        | none => rw [h] at hC3; cases hC3
        | some q => exact ⟨q, rfl⟩

       refine C.skip <| X.join2 ps q (Sub.nil _) rfl ⟨hM, hpl, by rw [List.getElem?_eq_getElem hxl, hq]⟩
     rintro ps q w12 ⟨hM, hpl, hq⟩
     have hxl : x < ps.length := by omega
     have hqe : ps[x] = some q := by rw [List.getElem?_eq_getElem hxl] at hq; exact Option.some.inj hq
     have hcq := (hM.ok (i := 2) rfl : CoL W H dk _ ps) x q.1 q.2 hq
     refine C.seq <| C.region <| E.mv rfl rfl <| E.mv rfl rfl <| E.mv rfl rfl <| E.mv rfl rfl <| E.mv rfl rfl <| E.mv rfl rfl <| ?_
     refine E.get (enc := penc) (k := x) rfl rfl (hM.sl 1 rfl) rfl hxl Try.underlying151 (by kernel_rfl) Try.underlying156 rfl rfl rfl ?_
     rw [hqe]
     refine E.nilc rfl rfl <| ?_
     refine E.loadA (cs := [q.2, .bool (lc dk x W 0)]) rfl Try.underlying153 rfl (by kernel_rfl) (hcq.1.at 0 _ (fun j u h => by simpa using h)) rfl ?_
     refine E.mv rfl rfl <| ?_
     refine E.call rfl rfl (judge_ret kv q.2 sh (eds (lc dk x W) H) (lc dk x W 0) kd pb pt y _ hk hcq.2 (fun z hz => by have := eds_mem z hz; omega) (eds_srt _ _) (by have := eds_len (lc dk x W) H; omega) (by omega) (by omega) (by omega)) ?_
     rintro cv w5 ⟨hcv, x5⟩
     have hM := hM.ext x5
     obtain ⟨o, hoe⟩ : ∃ o, o = jud pb pt y (eds (lc dk x W) H) (lc dk x W 0) kd sh := ⟨_, rfl⟩
     rw [← hoe] at hcv hvs
     have hom : ∀ m, o = some m → mbd 1 m := fun m hm => jud_mbd (hoe.symm.trans hm) (fun z hz => by have := eds_mem z hz; omega) (by omega) (by omega)
     try dsimp only [Za, Zb, Zc, Zd, repl] at hM
     refine E.callv rfl rfl rfl (visit_ret cv vl bl (fold [] (allC W H dk sh kd y k)) o ((y : Int) * 5000 + k) _ (hM.pick [5, 6] (by decide)).sep hcv hfl hfb (by omega) hom) ?_
     rintro _ w6 ⟨vl2, rfl, m⟩
     have hM := hM.calls [5, 6] (by decide) rfl (by simp) m
     have hfs : fold [] (allC W H dk sh kd y (k + 1)) = stp (fold [] (allC W H dk sh kd y k)) o := by rw [allC_s hvs, fold_snoc hfl]
     have hfb2 := stp_mbd (o := o) hfb (fun m hm => mbd_le (hom m hm) (by omega))
     rw [← hfs] at hM hfb2 ⊢
     try dsimp only [Za, Zb, Zc, Zd, repl] at hM
     refine E.not rfl rfl <| E.nil <| X.next <| ?_
     refine C.cond rfl (fun hC4 => ?_) (fun hC4 => ?_)
     ·
      have hgt : 256 < (fold [] (allC W H dk sh kd y (k + 1))).length := by simp at hC4; omega
      obtain ⟨r, hr⟩ := allC_pre (W := W) (dk := dk) (sh := sh) (kd := kd) (k := k + 1) hy' (show k + 1 ≤ runs W dk y from hk2)
      have hfin : fold [] (allC W H dk sh kd H 0) = fold [] (allC W H dk sh kd y (k + 1)) := by rw [hr, fold_stop hgt]
      refine C.ret <| X.retB <| X.retT <| X.retT <| X.retB <| X.retB <| X.retT <| X.retT <| X.retB <| ret0 rfl ?_
      exact ⟨vl2, rfl, by rw [hfin]; exact hM.pick [5, 6] (by decide)⟩
     ·

      refine C.skip <| X.outN <| X.join2 ps vl2 (Sub.nil _) rfl ⟨hM, hpl, by simp at hC4; omega, fun m hm => mbd_le (hfb2 m hm) (by omega)⟩
   rintro ps vl w15 ⟨hM, hpl, hfl, hfb⟩
   refine C.region <| ?_
   refine E.add rfl rfl (by omega) rfl ?_

   refine E.mv rfl rfl <| E.nil <| X.again3 (k + 1) ps vl (Sub.cons rfl <| Sub.nil _) rfl ⟨hM, by omega, hpl, hfl, hfb⟩ (by omega)
  ·
   obtain rfl : k = (eds (lc dk (y * W) 1) W).length := by omega
   have hM := hM.pick [0, 1, 2, 5, 6] (by decide)
   rw [show (eds (lc dk (y * W) 1) W).length = runs W dk y from rfl, allC_y] at hM hfl hfb
   refine C.exit <| X.exitT <| X.exitT <| X.outE <| X.outN <| X.next <| C.region <| ?_
   refine E.add rfl rfl (by omega) rfl ?_

   refine E.mv rfl rfl <| E.nil <| X.again3 (y + 1) ps vl (Sub.cons rfl <| Sub.nil _) rfl ⟨hM, by omega, hpl, hfl, fun m hm => mbd_le (hfb m hm) (by have := (show runs W dk y ≤ W + 1 from hrl); omega)⟩ (by omega)
 ·
  obtain rfl : y = H := by omega
  refine C.exit <| X.exitT <| X.exitT <| X.outE <| end0 rfl ?_
  exact ⟨vl, rfl, hM.pick [3, 4] (by decide)⟩
end Go.Proofs.Ytbinlkobmlebpaa
