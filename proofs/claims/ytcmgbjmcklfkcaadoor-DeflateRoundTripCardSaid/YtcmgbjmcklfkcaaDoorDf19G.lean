/- deflate: stored data is read; lengths are judged. -/
import Derived.Test.YtcmgbjmcklfkcaaDoorDf18G
namespace Go.Proofs.YtcmgbjmcklfkcaaDoor
set_option linter.unusedSimpArgs false
set_option linter.unusedVariables false
open Go.RowKit Sym

theorem Sym.C.heldX {P : Program} {Q : Exit → Act → World → Prop} {s : St} {env : Env} {w0 w : World} {S : Nat → Prop} {rs : List Rg} {id : Nat} {l : List Oper} {Sh : World → Prop} (hM : M w0 S w rs) (hm : P.follows .mixedOrders = true) (h : ∀ w', M w0 S w' rs → wpH P l.toArray Q Sh s l.length (Array.replicate l.length false) env w') : wpC P (.region id l.toArray true) Q s env w :=
  C.held _ hm fun w' hx _ => h w' (hM.ext hx)
theorem xor_i64 {a b : Nat} (ha : a < 65536) (hb : b < 65536) : bits .xor .i64 (a : Int) (b : Int) = ((a ^^^ b : Nat) : Int) := i64_xor_nat a b (by omega) (by omega)
namespace Df
theorem us_snoc {l : List Nat} {i : Nat} (h : i < l.length) : us (l.take (i + 1)) = us (l.take i) + if 0 < l[i] then 1 else 0 := by
  unfold us
  rw [List.take_add_one, List.getElem?_eq_getElem h, List.filter_append, List.length_append]
  by_cases c : 0 < l[i]
  · simp [c]
  · simp [c]
theorem us_le (l : List Nat) : us l ≤ l.length := List.length_filter_le _ _
theorem sum_snoc {l : List Nat} {i : Nat} (h : i < l.length) : (l.take (i + 1)).sum = (l.take i).sum + l[i] := by
  rw [List.take_add_one, List.getElem?_eq_getElem h, List.sum_append]; simp
theorem sum_bd : ∀ (l : List Nat) (m : Nat), (∀ n ∈ l, n ≤ m) → l.sum ≤ l.length * m
  | [], _, _ => by simp
  | x :: l, m, h => by
    have h1 := sum_bd l m fun n hn => h n (List.mem_cons_of_mem _ hn)
    have h2 := h x (List.mem_cons_self ..)
    simp only [List.sum_cons, List.length_cons, Nat.add_mul, Nat.one_mul]; omega
end Df
set_option maxHeartbeats 4000000 in
set_option maxRecDepth 4000 in
theorem sstored_ret (out : List UInt8) (b a lim : Nat) (p vo fv : Value) (l : List UInt8) (w : World) (hs : Sep w [Rg.blk b 74 [p, i64 ((a : Nat) : Int), i64 (lim : Int), vo, fv], Rg.sl u8 5 vo out]) (hp : RdL u8 w p l) (ho : Off (fpU [Rg.blk b 74 [p, i64 ((a : Nat) : Int), i64 (lim : Int), vo, fv], Rg.sl u8 5 vo out]) p l) (ha : a ≤ 8 * l.length) (hl : l.length ≤ 1099511627776) (hol : out.length ≤ lim) (hlim : lim ≤ 16777216) :
    Ret Tryd.prog 64 #[pv b] w fun v w' => ∃ (vo' : Value) (out' : List UInt8) (a' : Nat) (e : Int), v = i64 e ∧ M w (fpU [Rg.blk b 74 [p, i64 ((a : Nat) : Int), i64 (lim : Int), vo, fv], Rg.sl u8 5 vo out]) w' [Rg.blk b 74 [p, i64 ((a' : Nat) : Int), i64 (lim : Int), vo', fv], Rg.sl u8 5 vo' out'] ∧ Rds (Df.rsto lim l out (Df.ub l) a) out' a' e ∧ out'.length ≤ lim := by
  have hM := M.startS hs
  refine enter Tryd.func64 rfl (by kernel_rfl) Tryd.ntmps64 rfl ?_
  refine C.seq <| C.region <| E.asg rfl rfl <| E.nil <| X.next <| C.seq <| C.region <| E.mv rfl rfl <| E.mv rfl rfl <| E.nilc rfl rfl <| ?_
  refine E.fld (o := 1) (sz := 0) rfl Tryd.underlying74 rfl rfl (by kernel_rfl) rfl ?_
  have hul := Df.ub_len l
  refine E.load rfl Tryd.underlying3 rfl (hM.bcell 0 rfl rfl) rfl ?_
  refine E.addN (a := a) (b := 7) rfl rfl (by omega) rfl ?_
  refine E.quo rfl rfl (by omega) (quoN (a := a + 7) (b := 8) (by omega) (by omega)) rfl ?_
  refine E.mulN (a := (a + 7) / 8) (b := 8) rfl rfl (by omega) rfl ?_
  refine E.nilc rfl rfl <| ?_
  refine E.fld (o := 1) (sz := 0) rfl Tryd.underlying74 rfl rfl (by kernel_rfl) rfl ?_
  refine E.storeM 0 hM rfl rfl rfl (by kernel_rfl) rfl rfl ?_
  intro w0 hM
  try dsimp only [List.nil_append, List.cons_append, List.set_cons_zero, List.set_cons_succ, repl] at hM
  refine E.nil <| X.next <| C.seq <| C.region <| E.mv rfl rfl <| ?_
  refine E.call rfl rfl (sbits_ret 16 b ((a + 7) / 8 * 8) lim p vo fv l _ (hM.pick [0] (by decide)).sep (hM.arg hp ho) ((hM.pick [0] (by decide)).offS hp ho) (by omega) hl (by omega)) ?_
  rintro _ w1 ⟨x1, a1, e1, rfl, m, hr1⟩
  have hM := hM.calls [0] (by decide) rfl (by simp) m
  try dsimp only [List.nil_append, List.cons_append, List.set_cons_zero, List.set_cons_succ, repl] at hM
  try dsimp only [List.nil_append, List.cons_append, List.set_cons_zero, List.set_cons_succ, repl] at hM
  refine E.mv rfl rfl <| E.ext rfl rfl rfl <| E.ext rfl rfl rfl <| E.asg rfl rfl <| E.asg rfl rfl <| E.nil <| X.next <| C.seq <| C.seq <| C.region <| E.mv rfl rfl <| E.bin rfl rfl rfl rfl <| E.nil <| X.next <| ?_
  refine C.cond' rfl (fun hC0 => ?_) (fun hC0 => ?_)
  ·
    refine C.seq <| C.region <| E.mv rfl rfl <| E.asg rfl rfl <| E.nil <| X.next <| C.ret <| X.retT <| ret1 rfl rfl ?_
    exact ⟨vo, out, a1, e1, rfl, hM, .err hC0 (by unfold Df.rsto; rw [hr1.bad hC0]), hol⟩
  ·
    have hq1 := hr1.good hC0
    obtain ⟨hx1, he1, hb1⟩ := rbits_lt hq1
    refine C.skip <| X.next <| C.seq <| C.region <| E.mv rfl rfl <| ?_
    refine E.call rfl rfl (sbits_ret 16 b a1 lim p vo fv l _ (hM.pick [0] (by decide)).sep (hM.arg hp ho) ((hM.pick [0] (by decide)).offS hp ho) (by omega) hl (by omega)) ?_
    rintro _ w2 ⟨x2, a2, e2, rfl, m, hr2⟩
    have hM := hM.calls [0] (by decide) rfl (by simp) m
    try dsimp only [List.nil_append, List.cons_append, List.set_cons_zero, List.set_cons_succ, repl] at hM
    try dsimp only [List.nil_append, List.cons_append, List.set_cons_zero, List.set_cons_succ, repl] at hM
    refine E.mv rfl rfl <| E.ext rfl rfl rfl <| E.ext rfl rfl rfl <| E.asg rfl rfl <| E.asg rfl rfl <| E.nil <| X.next <| C.seq <| C.seq <| C.region <| E.mv rfl rfl <| E.bin rfl rfl rfl rfl <| E.nil <| X.next <| ?_
    refine C.cond' rfl (fun hC1 => ?_) (fun hC1 => ?_)
    ·
      refine C.seq <| C.region <| E.mv rfl rfl <| E.asg rfl rfl <| E.nil <| X.next <| C.ret <| X.retT <| ret1 rfl rfl ?_
      exact ⟨vo, out, a2, e2, rfl, hM, .err hC1 (by unfold Df.rsto; rw [hq1]; simp only; rw [hr2.bad hC1]), hol⟩
    ·
      have hq2 := hr2.good hC1
      obtain ⟨hx2, he2, hb2⟩ := rbits_lt hq2
      have hrs : Df.rsto lim l out (Df.ub l) a = if x1 ^^^ x2 ≠ 65535 then .error 9 else if lim < out.length + x1 then .error 4 else if l.length < a2 / 8 + x1 then .error 10 else .ok (out ++ (l.drop (a2 / 8)).take x1, a2 + 8 * x1) := by unfold Df.rsto; rw [hq1]; simp only; rw [hq2]
      refine C.skip <| X.next <| C.seq <| C.seq <| C.region <| E.mv rfl rfl <| E.mv rfl rfl <| ?_
      refine E.binw rfl rfl rfl (congrArg _ (xor_i64 hx1 hx2)) rfl ?_
      refine E.bin rfl rfl rfl rfl <| E.nil <| X.next <| ?_
      refine C.cond' rfl (fun hC2 => ?_) (fun hC2 => ?_)
      ·
        refine C.seq <| C.region <| E.asg rfl rfl <| E.nil <| X.next <| C.ret <| X.retT <| ret1 rfl rfl ?_
        exact ⟨vo, out, a2, 9, rfl, hM, .err (by decide) (by rw [hrs, if_pos (by omega)]), hol⟩
      ·
        refine C.skip <| X.next <| C.seq <| C.seq <| C.drawn (by kernel_rfl) (by kernel_rfl) <| Q.mv rfl rfl <| Q.nilc rfl rfl <| ?_
        refine Q.fld (o := 3) (sz := 0) rfl Tryd.underlying74 rfl rfl (by kernel_rfl) rfl ?_
        refine Q.load rfl Tryd.underlying22 rfl (hM.bcell 0 rfl rfl) rfl ?_
        refine Q.lenv rfl (Rd.shape (hM.sl 1 rfl)) Tryd.underlying22 rfl ?_
        refine Q.mv rfl rfl <| ?_
        refine Q.addN (a := out.length) (b := x1) rfl rfl (by omega) rfl ?_
        refine Q.mv rfl rfl <| Q.nilc rfl rfl <| ?_
        refine Q.fld (o := 2) (sz := 0) rfl Tryd.underlying74 rfl rfl (by kernel_rfl) rfl ?_
        refine Q.load rfl Tryd.underlying3 rfl (hM.bcell 0 rfl rfl) rfl ?_
        refine Q.bin rfl rfl rfl rfl <| Q.nil <| fun w3 hx3 => ?_
        have hM := hM.ext hx3
        refine X.next <| ?_
        refine C.cond' rfl (fun hC3 => ?_) (fun hC3 => ?_)
        ·
          refine C.seq <| C.region <| E.asg rfl rfl <| E.nil <| X.next <| C.ret <| X.retT <| ret1 rfl rfl ?_
          exact ⟨vo, out, a2, 4, rfl, hM, .err (by decide) (by rw [hrs, if_neg (by omega), if_pos (by omega)]), hol⟩
        ·
          refine C.skip <| X.next <| C.seq <| C.region <| E.mv rfl rfl <| E.nilc rfl rfl <| ?_
          refine E.fld (o := 1) (sz := 0) rfl Tryd.underlying74 rfl rfl (by kernel_rfl) rfl ?_
          refine E.load rfl Tryd.underlying3 rfl (hM.bcell 0 rfl rfl) rfl ?_
          refine E.quo rfl rfl (by omega) (quoN (a := a2) (b := 8) (by omega) (by omega)) rfl ?_
          refine E.asg rfl rfl <| E.nil <| X.next <| C.seq <| C.seq <| C.region <| E.mv rfl rfl <| E.mv rfl rfl <| ?_
          refine E.addN (a := a2 / 8) (b := x1) rfl rfl (by omega) rfl ?_
          refine E.mv rfl rfl <| E.nilc rfl rfl <| ?_
          refine E.fld (o := 0) (sz := 0) rfl Tryd.underlying74 rfl rfl (by kernel_rfl) rfl ?_
          refine E.load rfl Tryd.underlying22 rfl (hM.bcell 0 rfl rfl) rfl ?_
          refine E.lenv rfl (Rd.shape (hM.arg hp ho)) Tryd.underlying22 rfl ?_
          refine E.bin rfl rfl rfl rfl <| E.nil <| X.next <| ?_
          refine C.cond' rfl (fun hC4 => ?_) (fun hC4 => ?_)
          ·
            refine C.seq <| C.region <| E.asg rfl rfl <| E.nil <| X.next <| C.ret <| X.retT <| ret1 rfl rfl ?_
            exact ⟨vo, out, a2, 10, rfl, hM, .err (by decide) (by rw [hrs, if_neg (by omega), if_neg (by omega), if_pos (by omega)]), hol⟩
          ·
            refine C.skip <| X.next <| C.seq <| C.heldX (Sh := fun w' => ∃ (vx : Value), M w (fpU [Rg.blk b 74 [p, i64 ((a : Nat) : Int), i64 (lim : Int), vo, fv], Rg.sl u8 5 vo out]) w' [Rg.blk b 74 [p, i64 ((a2 : Nat) : Int), i64 (lim : Int), vx, fv]]) hM (by kernel_rfl) fun wh4 hM => ?_
            have hS : ∃ (vx : Value), M w (fpU [Rg.blk b 74 [p, i64 ((a : Nat) : Int), i64 (lim : Int), vo, fv], Rg.sl u8 5 vo out]) wh4 [Rg.blk b 74 [p, i64 ((a2 : Nat) : Int), i64 (lim : Int), vx, fv]] := ⟨_, hM.pick [0] (by decide)⟩
            refine H.take 0 rfl rfl (by kernel_rfl) (by kernel_rfl) (by kernel_rfl) hS (fun w' ⟨vx, hM⟩ => Y.mv rfl) rfl ?_
            refine H.take 1 rfl rfl (by kernel_rfl) (by kernel_rfl) (by kernel_rfl) hS (fun w' ⟨vx, hM⟩ => Y.mv rfl) rfl ?_
            refine H.take 2 rfl rfl (by kernel_rfl) (by kernel_rfl) (by kernel_rfl) hS (fun w' ⟨vx, hM⟩ => Y.nilc rfl) rfl ?_
            refine H.takeV 3 rfl rfl (by kernel_rfl) (by kernel_rfl) (by kernel_rfl) hS (Y.fld (o := 3) (sz := 0) rfl Tryd.underlying74 rfl rfl (by kernel_rfl)) (fun w' ⟨vx, hM⟩ => Y.fld (o := 3) (sz := 0) rfl Tryd.underlying74 rfl rfl (by kernel_rfl)) rfl ?_
            refine H.take 5 rfl rfl (by kernel_rfl) (by kernel_rfl) (by kernel_rfl) hS (fun w' ⟨vx, hM⟩ => Y.mv rfl) rfl ?_
            refine H.take 6 rfl rfl (by kernel_rfl) (by kernel_rfl) (by kernel_rfl) hS (fun w' ⟨vx, hM⟩ => Y.nilc rfl) rfl ?_
            refine H.takeV 7 rfl rfl (by kernel_rfl) (by kernel_rfl) (by kernel_rfl) hS (Y.fld (o := 0) (sz := 0) rfl Tryd.underlying74 rfl rfl (by kernel_rfl)) (fun w' ⟨vx, hM⟩ => Y.fld (o := 0) (sz := 0) rfl Tryd.underlying74 rfl rfl (by kernel_rfl)) rfl ?_
            refine H.take 9 rfl rfl (by kernel_rfl) (by kernel_rfl) (by kernel_rfl) hS (fun w' ⟨vx, hM⟩ => Y.mv rfl) rfl ?_
            refine H.take 10 rfl rfl (by kernel_rfl) (by kernel_rfl) (by kernel_rfl) hS (fun w' ⟨vx, hM⟩ => Y.mv rfl) rfl ?_
            refine H.take 11 rfl rfl (by kernel_rfl) (by kernel_rfl) (by kernel_rfl) hS (fun w' ⟨vx, hM⟩ => Y.mv rfl) rfl ?_
            refine H.take 12 rfl rfl (by kernel_rfl) (by kernel_rfl) (by kernel_rfl) hS (fun w' ⟨vx, hM⟩ => Y.addN (a := a2 / 8) (b := x1) rfl rfl (by omega)) rfl ?_
            refine H.takeV 8 rfl rfl (by kernel_rfl) (by kernel_rfl) (by kernel_rfl) hS (Y.load rfl Tryd.underlying22 rfl (hM.bcell 0 rfl rfl)) (fun w' ⟨vx, hM⟩ => Y.load rfl Tryd.underlying22 rfl (hM.bcell 0 rfl rfl)) rfl ?_
            refine H.takeV 13 rfl rfl (by kernel_rfl) (by kernel_rfl) (by kernel_rfl) hS (Y.slcP (a2 / 8) (a2 / 8 + x1) rfl (.inl rfl) (.inl rfl) (hM.arg hp ho) Tryd.underlying22 (by kernel_rfl) (by omega) (by omega)) (fun w' ⟨vx, hM⟩ => Y.slcP (a2 / 8) (a2 / 8 + x1) rfl (.inl rfl) (.inl rfl) (hM.arg hp ho) Tryd.underlying22 (by kernel_rfl) (by omega) (by omega)) rfl ?_
            have hc := (hM.arg hp ho).partV (a := a2 / 8) (b := a2 / 8 + x1) (by omega) (by omega)
            have hcl : (cutL (a2 / 8) (a2 / 8 + x1) l).length = x1 := by unfold cutL; rw [List.length_take, List.length_drop]; omega
            refine H.only 4 rfl (by kernel_rfl) ?_
            refine E.load rfl Tryd.underlying22 rfl (hM.bcell 0 rfl rfl) rfl ?_
            have hS : ∃ (vx : Value), M w (fpU [Rg.blk b 74 [p, i64 ((a : Nat) : Int), i64 (lim : Int), vo, fv], Rg.sl u8 5 vo out]) _ [Rg.blk b 74 [p, i64 ((a2 : Nat) : Int), i64 (lim : Int), vx, fv]] := ⟨_, hM.pick [0] (by decide)⟩
            refine H.back hS ?_
            refine H.only 14 rfl (by kernel_rfl) ?_
            refine E.appendM 1 hM rfl rfl rfl Tryd.underlying22 elem_Tuint8 hc (fun _ => rfl) (by omega) (by omega) rfl ?_
            intro v77 w5 hM
            try dsimp only [List.nil_append, List.cons_append, List.set_cons_zero, List.set_cons_succ, repl] at hM
            have hS : ∃ (vx : Value), M w (fpU [Rg.blk b 74 [p, i64 ((a : Nat) : Int), i64 (lim : Int), vo, fv], Rg.sl u8 5 vo out]) _ [Rg.blk b 74 [p, i64 ((a2 : Nat) : Int), i64 (lim : Int), vx, fv]] := ⟨_, hM.pick [0] (by decide)⟩
            refine H.back hS ?_
            refine H.take 15 rfl rfl (by kernel_rfl) (by kernel_rfl) (by kernel_rfl) hS (fun w' ⟨vx, hM⟩ => Y.nilc rfl) rfl ?_
            refine H.takeV 16 rfl rfl (by kernel_rfl) (by kernel_rfl) (by kernel_rfl) hS (Y.fld (o := 3) (sz := 0) rfl Tryd.underlying74 rfl rfl (by kernel_rfl)) (fun w' ⟨vx, hM⟩ => Y.fld (o := 3) (sz := 0) rfl Tryd.underlying74 rfl rfl (by kernel_rfl)) rfl ?_
            refine H.only 17 rfl (by kernel_rfl) ?_
            refine E.storeM 0 hM rfl rfl rfl (by kernel_rfl) (hM.sl 1 rfl).one rfl ?_
            intro w6 hM
            try dsimp only [List.nil_append, List.cons_append, List.set_cons_zero, List.set_cons_succ, repl] at hM
            have hS : ∃ (vx : Value), M w (fpU [Rg.blk b 74 [p, i64 ((a : Nat) : Int), i64 (lim : Int), vo, fv], Rg.sl u8 5 vo out]) _ [Rg.blk b 74 [p, i64 ((a2 : Nat) : Int), i64 (lim : Int), vx, fv]] := ⟨_, hM.pick [0] (by decide)⟩
            refine H.back hS ?_
            refine H.done (by kernel_rfl) ?_
            refine X.next <| C.seq <| C.region <| E.mv rfl rfl <| E.nilc rfl rfl <| ?_
            refine E.fld (o := 1) (sz := 0) rfl Tryd.underlying74 rfl rfl (by kernel_rfl) rfl ?_
            refine E.load rfl Tryd.underlying3 rfl (hM.bcell 0 rfl rfl) rfl ?_
            refine E.mv rfl rfl <| ?_
            refine E.mulN (a := 8) (b := x1) rfl rfl (by omega) rfl ?_
            refine E.addN (a := a2) (b := 8 * x1) rfl rfl (by omega) rfl ?_
            refine E.nilc rfl rfl <| ?_
            refine E.fld (o := 1) (sz := 0) rfl Tryd.underlying74 rfl rfl (by kernel_rfl) rfl ?_
            refine E.storeM 0 hM rfl rfl rfl (by kernel_rfl) rfl rfl ?_
            intro w7 hM
            try dsimp only [List.nil_append, List.cons_append, List.set_cons_zero, List.set_cons_succ, repl] at hM
            refine E.nil <| X.next <| C.seq <| C.region <| E.asg rfl rfl <| E.nil <| X.next <| C.ret <| ret1 rfl rfl ?_
            exact ⟨v77, _, a2 + 8 * x1, 0, rfl, hM, .ok (by rw [hrs, if_neg (by omega), if_neg (by omega), if_neg (by omega)]; unfold cutL; rw [Nat.add_sub_cancel_left]), by rw [List.length_append, hcl]; omega⟩

theorem used_ret (p : Value) (l : List Nat) (w : World) (hr : RdL i64 w p (nz l)) (hlen : l.length ≤ 4096) :
    Ret Tryd.prog 94 #[p] w fun v w' => v = i64 (Df.us l : Int) ∧ Ext w w' := by
  have hM := M.start w
  refine enter Tryd.func94 rfl (by kernel_rfl) Tryd.ntmps94 rfl ?_
  refine C.seq <| C.region <| E.asg rfl rfl <| E.nil <| X.next <| C.seq <| C.region <| E.asg rfl rfl <| E.nil <| X.next <| C.seq <| C.seq <| C.region <| E.mv rfl rfl <| ?_
  refine E.lenv rfl (Rd.shape (hM.arg0 hr)) Tryd.underlying29 rfl ?_
  rw [nz_len]
  refine E.mv rfl rfl <| E.nil <| X.next <| C.block <| ?_

  refine C.loop1 [(6, _), (7, _)] rfl (fun (i : Nat) => [(3, i64 (Df.us (l.take i) : Int)), (8, i64 i)]) (fun (i : Nat) w' => M w (Nn) w' [] ∧ i ≤ l.length) (fun (i : Nat) => l.length - i) 0 ?_ ?_ ?_
  · exact Sub.cons rfl <| Sub.cons rfl <| Sub.nil _
  · exact ⟨hM, Nat.zero_le _⟩
  rintro i w0 ⟨hM, hi⟩
  refine C.seq <| C.region <| E.bin rfl rfl rfl rfl <| E.nil <| X.next <| C.seq <| ?_
  refine C.cond' rfl (fun hC0 => ?_) (fun hC0 => ?_)
  ·
    have hi' : i < l.length := by omega
    have hus := Df.us_snoc hi'
    have hul := Df.us_le (l.take i)
    rw [List.length_take] at hul
    have hnl := nz_len l
    refine C.skip <| X.next <| ?_

    refine C.cut0 [(6, _), (7, _), (8, _)] rfl [(3, i64 (Df.us (l.take (i + 1)) : Int))] (fun w' => M w (Nn) w' []) ?_ ?_
    ·
      refine C.block <| C.seq <| C.region <| ?_
      refine E.get (k := i) rfl rfl (hM.arg0 hr) rfl (by omega) Tryd.underlying29 (by kernel_rfl) Tryd.underlying3 rfl rfl rfl ?_
      rw [nz_get hi']
      refine E.asg rfl rfl <| E.nil <| X.next <| C.seq <| C.region <| E.mv rfl rfl <| E.bin rfl rfl rfl rfl <| E.nil <| X.next <| ?_
      refine C.cond' rfl (fun hC1 => ?_) (fun hC1 => ?_)
      ·
        refine C.region <| E.mv rfl rfl <| ?_
        refine E.addN (a := Df.us (l.take i)) (b := 1) rfl rfl (by omega) rfl ?_

        refine E.asg rfl rfl <| E.nil <| X.outN <| X.join0  (Sub.cons (look_val rfl (by rw [hus, if_pos (by omega)])) <| Sub.nil _) rfl hM
      ·

        refine C.skip <| X.outN <| X.join0  (Sub.cons (look_val rfl (by rw [hus, if_neg (by omega)]; rfl)) <| Sub.nil _) rfl hM
    rintro  w1 hM
    refine C.region <| ?_
    refine E.addN (a := i) (b := 1) rfl rfl (by omega) rfl ?_

    refine E.mv rfl rfl <| E.nil <| X.again1 (i + 1) (Sub.cons rfl <| Sub.cons rfl <| Sub.nil _) rfl ⟨hM, by omega⟩ (by omega)
  ·
    obtain rfl : i = l.length := by omega
    rw [List.take_length]
    refine C.exit <| X.exitT <| X.exitT <| X.outE <| X.next <| C.seq <| C.region <| E.mv rfl rfl <| E.asg rfl rfl <| E.nil <| X.next <| C.ret <| ret1 rfl rfl ?_
    exact ⟨rfl, hM.toExt⟩

theorem sum_ret (p : Value) (l : List Nat) (w : World) (hr : RdL i64 w p (nz l)) (hlen : l.length ≤ 4096) (hb : ∀ n ∈ l, n ≤ 15) :
    Ret Tryd.prog 99 #[p] w fun v w' => v = i64 ((l.sum : Nat) : Int) ∧ Ext w w' := by
  have hM := M.start w
  refine enter Tryd.func99 rfl (by kernel_rfl) Tryd.ntmps99 rfl ?_
  refine C.seq <| C.region <| E.asg rfl rfl <| E.nil <| X.next <| C.seq <| C.region <| E.asg rfl rfl <| E.nil <| X.next <| C.seq <| C.seq <| C.region <| E.mv rfl rfl <| ?_
  refine E.lenv rfl (Rd.shape (hM.arg0 hr)) Tryd.underlying29 rfl ?_
  rw [nz_len]
  refine E.mv rfl rfl <| E.nil <| X.next <| C.block <| ?_

  refine C.loop1 [(6, _), (7, _)] rfl (fun (i : Nat) => [(3, i64 ((l.take i).sum : Int)), (8, i64 i)]) (fun (i : Nat) w' => M w (Nn) w' [] ∧ i ≤ l.length) (fun (i : Nat) => l.length - i) 0 ?_ ?_ ?_
  · exact Sub.cons rfl <| Sub.cons rfl <| Sub.nil _
  · exact ⟨hM, Nat.zero_le _⟩
  rintro i w0 ⟨hM, hi⟩
  refine C.seq <| C.region <| E.bin rfl rfl rfl rfl <| E.nil <| X.next <| C.seq <| ?_
  refine C.cond' rfl (fun hC0 => ?_) (fun hC0 => ?_)
  ·
    have hi' : i < l.length := by omega
    have hus := Df.sum_snoc hi'
    have hbi := hb _ (List.getElem_mem hi')
    have hul := Df.sum_bd (l.take i) 15 fun n hn => hb n (List.mem_of_mem_take hn)
    rw [List.length_take] at hul
    have hnl := nz_len l
    refine C.skip <| X.next <| C.seq <| C.block <| C.seq <| C.region <| ?_
    refine E.get (k := i) rfl rfl (hM.arg0 hr) rfl (by omega) Tryd.underlying29 (by kernel_rfl) Tryd.underlying3 rfl rfl rfl ?_
    rw [nz_get hi']
    refine E.asg rfl rfl <| E.nil <| X.next <| C.region <| E.mv rfl rfl <| E.mv rfl rfl <| ?_
    refine E.addN (a := (l.take i).sum) (b := l[i]) rfl rfl (by omega) rfl ?_
    rw [← hus]
    refine E.asg rfl rfl <| E.nil <| X.outN <| X.next <| C.region <| ?_
    refine E.addN (a := i) (b := 1) rfl rfl (by omega) rfl ?_

    refine E.mv rfl rfl <| E.nil <| X.again1 (i + 1) (Sub.cons rfl <| Sub.cons rfl <| Sub.nil _) rfl ⟨hM, by omega⟩ (by omega)
  ·
    obtain rfl : i = l.length := by omega
    rw [List.take_length]
    refine C.exit <| X.exitT <| X.exitT <| X.outE <| X.next <| C.seq <| C.region <| E.mv rfl rfl <| E.asg rfl rfl <| E.nil <| X.next <| C.ret <| ret1 rfl rfl ?_
    exact ⟨rfl, hM.toExt⟩

theorem acceptable_ret (p : Value) (l : List Nat) (w : World) (hr : RdL i64 w p (nz l)) (hlen : l.length ≤ 4096) (hb : ∀ n ∈ l, n ≤ 15) :
    Ret Tryd.prog 93 #[p] w fun v w' => v = .bool (Df.acc l) ∧ Ext w w' := by
  have hM := M.start w
  refine enter Tryd.func93 rfl (by kernel_rfl) Tryd.ntmps93 rfl ?_
  refine C.seq <| C.region <| E.asg rfl rfl <| E.nil <| X.next <| ?_

  refine C.cut0 [] rfl [(2, .bool (Df.acc l))] (fun w' => M w (Nn) w' []) ?_ ?_
  ·
    refine C.region <| E.mv rfl rfl <| ?_
    refine E.call rfl rfl (Check_ret p _ _ (hM.arg0 hr)) ?_
    rintro _ w1 ⟨rfl, x1⟩
    have hM := hM.ext x1
    try dsimp only [List.nil_append, List.cons_append, List.set_cons_zero, List.set_cons_succ, repl] at hM
    refine E.bin rfl rfl rfl rfl <| E.mv rfl rfl <| ?_
    refine E.split 6 rfl (fun g6 => ?_) (fun g6 => ?_)
    ·
      try simp only [decide_eq_true_eq, decide_eq_false_iff_not, ne_eq, Decidable.not_not, Bool.not_eq_true', Bool.not_eq_false'] at g6

      refine E.off rfl rfl rfl rfl <| E.off rfl rfl rfl rfl <| E.off rfl rfl rfl rfl <| E.off rfl rfl rfl rfl <| E.offu rfl rfl rfl <| E.offu rfl rfl rfl <| E.offu rfl rfl rfl <| E.off rfl rfl rfl rfl <| E.pick rfl rfl rfl <| E.asg rfl rfl <| E.nil <| X.join0  (Sub.cons (look_eq rfl (by rw [Df.acc, decide_eq_true (.inl (by omega))])) <| Sub.nil _) rfl hM
    ·
      try simp only [decide_eq_true_eq, decide_eq_false_iff_not, ne_eq, Decidable.not_not, Bool.not_eq_true', Bool.not_eq_false'] at g6
      refine E.on rfl rfl (E.mv rfl rfl ?_)
      refine E.on rfl rfl (E.call rfl rfl (used_ret p l _ (hM.arg0 hr) hlen) ?_)
      rintro _ w2 ⟨rfl, x2⟩
      have hM := hM.ext x2
      try dsimp only [List.nil_append, List.cons_append, List.set_cons_zero, List.set_cons_succ, repl] at hM
      refine E.on rfl rfl (E.bin rfl rfl rfl rfl ?_)
      refine E.on rfl rfl (E.mv rfl rfl ?_)
      refine E.split 10 rfl (fun g10 => ?_) (fun g10 => ?_)
      ·
        try simp only [decide_eq_true_eq, decide_eq_false_iff_not, ne_eq, Decidable.not_not, Bool.not_eq_true', Bool.not_eq_false'] at g10
        refine E.on rfl rfl (E.mv rfl rfl ?_)
        refine E.on rfl rfl (E.call rfl rfl (sum_ret p l _ (hM.arg0 hr) hlen hb) ?_)
        rintro _ w3 ⟨rfl, x3⟩
        have hM := hM.ext x3
        try dsimp only [List.nil_append, List.cons_append, List.set_cons_zero, List.set_cons_succ, repl] at hM
        refine E.on rfl rfl (E.bin rfl rfl rfl rfl ?_)
        refine E.on rfl rfl (E.pick rfl rfl rfl ?_)

        refine E.pick rfl rfl rfl <| E.asg rfl rfl <| E.nil <| X.join0  (Sub.cons (look_eq rfl (by rw [Df.acc]; exact congrArg _ (decide_eq_decide.2 (by omega)))) <| Sub.nil _) rfl hM
      ·
        try simp only [decide_eq_true_eq, decide_eq_false_iff_not, ne_eq, Decidable.not_not, Bool.not_eq_true', Bool.not_eq_false'] at g10
        refine E.off rfl rfl rfl rfl <| E.off rfl rfl rfl rfl <| E.off rfl rfl rfl rfl <| ?_
        refine E.on rfl rfl (E.pick rfl rfl rfl ?_)

        refine E.pick rfl rfl rfl <| E.asg rfl rfl <| E.nil <| X.join0  (Sub.cons (look_eq rfl (by rw [Df.acc, decide_eq_false (by omega)])) <| Sub.nil _) rfl hM
  rintro  w3 hM
  refine C.ret <| ret1 rfl rfl ?_
  exact ⟨rfl, hM.toExt⟩

end Go.Proofs.YtcmgbjmcklfkcaaDoor
