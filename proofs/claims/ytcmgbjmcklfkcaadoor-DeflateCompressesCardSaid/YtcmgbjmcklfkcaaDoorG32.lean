/- Texts of the claim, laid together: Df5. -/
import Derived.Test.YtcmgbjmcklfkcaaDoorG30
/- deflate: the matches of data. -/
namespace Go.Proofs.YtcmgbjmcklfkcaaDoor
set_option linter.unusedSimpArgs false
set_option linter.unusedVariables false
open Go.RowKit Sym

theorem Fs.look {l : List UInt8} {a : Nat} {m : List (Int × Int)} {bf : List Int} (h : Fs l a m bf) (k : Nat) : (aget m (k : Int) = none ∧ Df.pv l k a = -1) ∨ (aget m (k : Int) = some (Df.pv l k a) ∧ 0 ≤ Df.pv l k a) := by
  rw [h.last k]
  rcases Df.pv_spec l k a with ⟨h1, _⟩ | ⟨q, h1, _⟩
  · left; rw [if_pos h1]; exact ⟨rfl, h1⟩
  · right; rw [if_neg (by omega)]; exact ⟨rfl, by omega⟩
theorem bgo_none {l : List UInt8} {a m len dist seen : Nat} (ha : a + 3 ≤ l.length) (hm : m ≤ a) (h : Df.pv l (Df.key l a) m < 0) : Df.bgo l a m len dist seen = (len, dist) := by
  rcases Df.bgo_pv (len := len) (dist := dist) (seen := seen) ha hm with ⟨_, h2⟩ | ⟨q, h1, _⟩
  · exact h2
  · omega
theorem bgo_some {l : List UInt8} {a m len dist seen : Nat} (ha : a + 3 ≤ l.length) (hm : m ≤ a) (h : 0 ≤ Df.pv l (Df.key l a) m) (hs : seen < 32) : ∃ q : Nat, Df.pv l (Df.key l a) m = (q : Int) ∧ q < m ∧ q + 3 ≤ l.length ∧ Df.key l q = Df.key l a ∧
    Df.bgo l a m len dist seen = if len < Df.eqn l q a then Df.bgo l a q (Df.eqn l q a) (a - q) (seen + 1) else Df.bgo l a q len dist (seen + 1) := by
  rcases Df.bgo_pv (len := len) (dist := dist) (seen := seen) ha hm with ⟨h1, _⟩ | ⟨q, h1, h2, h3, h4, h5, h6⟩
  · omega
  · refine ⟨q, h1, h2, h3, h4, ?_⟩
    rw [h6, Df.bgo, if_neg (by omega), if_pos h5]
set_option maxHeartbeats 2000000 in
theorem best_ret (b r a : Nat) (p vb : Value) (l : List UInt8) (m : List (Int × Int)) (bf : List Int) (w : World) (hs : Sep w [Rg.blk b 64 [p, .map (some r), vb], Rg.mp r .u32 i64 m, Rg.sl i64 3 vb bf]) (hp : RdL u8 w p l) (ho : Off (fpU [Rg.blk b 64 [p, .map (some r), vb], Rg.mp r .u32 i64 m, Rg.sl i64 3 vb bf]) p l) (hF : Fs l a m bf) (ha : a < l.length) (hl : l.length ≤ 32768) :
    Ret Tryd.prog 34 #[pv b, i64 a] w fun v w' => v = .tuple #[i64 ((Df.bst l a).1 : Int), i64 ((Df.bst l a).2 : Int)] ∧ M w (fpU [Rg.blk b 64 [p, .map (some r), vb], Rg.mp r .u32 i64 m, Rg.sl i64 3 vb bf]) w' [Rg.blk b 64 [p, .map (some r), vb], Rg.mp r .u32 i64 m, Rg.sl i64 3 vb bf] := by
  have hM := M.startS hs
  refine enter Tryd.func34 rfl (by kernel_rfl) Tryd.ntmps34 rfl ?_
  refine C.seq <| C.region <| E.asg rfl rfl <| E.asg rfl rfl <| E.nil <| X.next <| C.seq <| C.seq <| C.region <| E.mv rfl rfl <| ?_
  refine E.addN (a := a) (b := 3) rfl rfl (by omega) rfl ?_
  refine E.mv rfl rfl <| E.nilc rfl rfl <| ?_
  refine E.fld (o := 0) (sz := 0) rfl Tryd.underlying64 rfl rfl (by kernel_rfl) rfl ?_
  refine E.load rfl Tryd.underlying22 rfl (hM.bcell 0 rfl rfl) rfl ?_
  refine E.lenv rfl (Rd.shape (hM.arg hp ho)) Tryd.underlying22 rfl ?_
  refine E.bin rfl rfl rfl rfl <| E.nil <| X.next <| ?_
  refine C.cond' rfl (fun hC0 => ?_) (fun hC0 => ?_)
  ·
    refine C.seq <| C.region <| E.asg rfl rfl <| E.asg rfl rfl <| E.nil <| X.next <| C.ret <| X.retT <| ret2 rfl rfl rfl ?_
    exact ⟨by rw [Df.bst_short (by omega)]; rfl, hM⟩
  ·
    have h3 : a + 3 ≤ l.length := by omega
    refine C.skip <| X.next <| C.seq <| C.drawn (by kernel_rfl) (by kernel_rfl) <| Q.mv rfl rfl <| Q.nilc rfl rfl <| ?_
    refine Q.fld (o := 1) (sz := 0) rfl Tryd.underlying64 rfl rfl (by kernel_rfl) rfl ?_
    refine Q.load rfl Tryd.underlying62 rfl (hM.bcell 0 rfl rfl) rfl ?_
    refine Q.mv rfl rfl <| Q.mv rfl rfl <| ?_
    refine Q.call (v := .int .u32 (Df.key l a : Int)) rfl rfl (fun w' hw' => key_ret b a p l _ ((hM.ext hw').bcell 0 rfl rfl) ((hM.ext hw').arg hp ho) h3) ?_
    refine Q.lookup2 (z := .int .i64 0) rfl rfl Tryd.underlying62 Tryd.underlying98 (by kernel_rfl) (hM.mp 1 rfl) rfl ?_
    refine Q.mv rfl rfl <| Q.ext rfl rfl rfl <| Q.ext rfl rfl rfl <| Q.asg rfl rfl <| Q.asg rfl rfl <| Q.nil <| fun w0 hx0 => ?_
    have hM := hM.ext hx0
    refine X.next <| C.seq <| C.seq <| C.region <| E.mv rfl rfl <| E.not rfl rfl <| E.nil <| X.next <| ?_
    refine C.cond rfl (fun hC1 => ?_) (fun hC1 => ?_)
    ·
      have hz : aget m (Df.key l a : Int) = none := by simpa using hC1
      refine C.seq <| C.region <| E.asg rfl rfl <| E.asg rfl rfl <| E.nil <| X.next <| C.ret <| X.retT <| ret2 rfl rfl rfl ?_
      exact ⟨(by
          rcases hF.look (Df.key l a) with ⟨_, h1⟩ | ⟨h1, _⟩
          · rw [Df.bst, bgo_none h3 (Nat.le_refl _) (by omega)]; rfl
          · rw [hz] at h1; cases h1), hM⟩
    ·
      have hz : aget m (Df.key l a : Int) = some (Df.pv l (Df.key l a) a) := by
        rcases hF.look (Df.key l a) with ⟨h1, _⟩ | ⟨h1, _⟩
        · rw [h1] at hC1; simp at hC1
        · exact h1
      rw [hz]
      refine C.skip <| X.next <| C.seq <| C.seq <| C.region <| E.asg rfl rfl <| E.nil <| X.next <| C.block <| ?_

      refine C.loop4 [(0, _), (1, _)] rfl (fun (n : Nat) (len : Nat) (dist : Nat) (k : Nat) => [(4, i64 len), (5, i64 dist), (6, i64 (Df.pv l (Df.key l a) k)), (8, i64 n)]) (fun (n : Nat) (len : Nat) (dist : Nat) (k : Nat) w' => M w (fpU [Rg.blk b 64 [p, .map (some r), vb], Rg.mp r .u32 i64 m, Rg.sl i64 3 vb bf]) w' [Rg.blk b 64 [p, .map (some r), vb], Rg.mp r .u32 i64 m, Rg.sl i64 3 vb bf] ∧ n ≤ 32 ∧ k ≤ a ∧ len ≤ 258 ∧ dist ≤ a ∧ Df.bgo l a k len dist n = Df.bst l a) (fun (n : Nat) (len : Nat) (dist : Nat) (k : Nat) => 32 - n) 0 0 0 a ?_ ?_ ?_
      · exact Sub.cons rfl <| Sub.cons rfl <| Sub.cons rfl <| Sub.cons rfl <| Sub.nil _
      · exact ⟨hM, by omega, Nat.le_refl _, by omega, by omega, rfl⟩
      rintro n len dist k w1 ⟨hM, hn, hk, hle, hdi, hbg⟩
      obtain ⟨j, hj⟩ : ∃ j, j = Df.pv l (Df.key l a) k := ⟨_, rfl⟩
      rw [← hj]
      have hjk : j < k := by rcases Df.pv_spec l (Df.key l a) k with ⟨h1, _⟩ | ⟨q, h1, h2, _⟩ <;> omega
      have hj1 : -1 ≤ j := by rcases Df.pv_spec l (Df.key l a) k with ⟨h1, _⟩ | ⟨q, h1, h2, _⟩ <;> omega
      refine C.seq <| ?_

      refine C.chainE [(0, _), (1, _), (4, _), (5, _), (6, _), (8, _)] rfl [(42, .bool (decide (n < 32 ∧ 0 ≤ j)))] ?_ ?_
      ·
        refine C.region <| E.mv rfl rfl <| E.bin rfl rfl rfl rfl <| E.mv rfl rfl <| ?_
        refine E.split 33 rfl (fun g33 => ?_) (fun g33 => ?_)
        ·
          try simp only [decide_eq_true_eq, decide_eq_false_iff_not, ne_eq, Decidable.not_not, Bool.not_eq_true', Bool.not_eq_false'] at g33
          refine E.on rfl rfl (E.mv rfl rfl ?_)
          refine E.on rfl rfl (E.bin rfl rfl rfl rfl ?_)
          refine E.pick rfl rfl rfl <| E.mv rfl rfl <| ?_
          refine E.split 37 rfl (fun g37 => ?_) (fun g37 => ?_)
          ·
            try simp only [decide_eq_true_eq, decide_eq_false_iff_not, ne_eq, Decidable.not_not, Bool.not_eq_true', Bool.not_eq_false'] at g37
            refine E.on rfl rfl (E.mv rfl rfl ?_)
            refine E.on rfl rfl (E.mv rfl rfl ?_)
            refine E.on rfl rfl (E.sub' rfl rfl (by omega) rfl ?_)
            refine E.on rfl rfl (E.bin rfl rfl rfl rfl ?_)
            refine E.pick rfl rfl rfl <| E.nil <| X.join0 (Sub.cons (by (first | exact leaf_f (by omega) | exact leaf_t (by omega) | exact leaf_d (by omega) | exact leaf_f (by first | (simp [*] <;> fail) | omega) | exact leaf_t (by first | (simp [*] <;> fail) | omega) | exact leaf_d (by first | (simp [*] <;> fail) | omega) | exact leaf_f (by (first | omega | ((try simp only [decide_eq_true_eq, decide_eq_false_iff_not, Bool.not_eq_true', Bool.not_eq_false'] at *); first | omega | (simp_all <;> fail) | (simp_all; omega)))) | exact leaf_t (by (first | omega | ((try simp only [decide_eq_true_eq, decide_eq_false_iff_not, Bool.not_eq_true', Bool.not_eq_false'] at *); first | omega | (simp_all <;> fail) | (simp_all; omega)))) | exact leaf_d (by (first | omega | ((try simp only [decide_eq_true_eq, decide_eq_false_iff_not, Bool.not_eq_true', Bool.not_eq_false'] at *); first | omega | (simp_all <;> fail) | (simp_all; omega)))))) <| Sub.nil _) rfl rfl
          ·
            try simp only [decide_eq_true_eq, decide_eq_false_iff_not, ne_eq, Decidable.not_not, Bool.not_eq_true', Bool.not_eq_false'] at g37
            refine E.off rfl rfl rfl rfl <| E.off rfl rfl rfl rfl <| E.off rfl rfl rfl rfl <| E.off rfl rfl rfl rfl <| E.pick rfl rfl rfl <| E.nil <| X.join0 (Sub.cons (by (first | exact leaf_f (by omega) | exact leaf_t (by omega) | exact leaf_d (by omega) | exact leaf_f (by first | (simp [*] <;> fail) | omega) | exact leaf_t (by first | (simp [*] <;> fail) | omega) | exact leaf_d (by first | (simp [*] <;> fail) | omega) | exact leaf_f (by (first | omega | ((try simp only [decide_eq_true_eq, decide_eq_false_iff_not, Bool.not_eq_true', Bool.not_eq_false'] at *); first | omega | (simp_all <;> fail) | (simp_all; omega)))) | exact leaf_t (by (first | omega | ((try simp only [decide_eq_true_eq, decide_eq_false_iff_not, Bool.not_eq_true', Bool.not_eq_false'] at *); first | omega | (simp_all <;> fail) | (simp_all; omega)))) | exact leaf_d (by (first | omega | ((try simp only [decide_eq_true_eq, decide_eq_false_iff_not, Bool.not_eq_true', Bool.not_eq_false'] at *); first | omega | (simp_all <;> fail) | (simp_all; omega)))))) <| Sub.nil _) rfl rfl
        ·
          try simp only [decide_eq_true_eq, decide_eq_false_iff_not, ne_eq, Decidable.not_not, Bool.not_eq_true', Bool.not_eq_false'] at g33
          refine E.off rfl rfl rfl rfl <| E.off rfl rfl rfl rfl <| E.pick rfl rfl rfl <| E.mv rfl rfl <| E.off rfl rfl rfl rfl <| E.off rfl rfl rfl rfl <| E.off rfl rfl rfl rfl <| E.off rfl rfl rfl rfl <| E.pick rfl rfl rfl <| E.nil <| X.join0 (Sub.cons (by (first | exact leaf_f (by omega) | exact leaf_t (by omega) | exact leaf_d (by omega) | exact leaf_f (by first | (simp [*] <;> fail) | omega) | exact leaf_t (by first | (simp [*] <;> fail) | omega) | exact leaf_d (by first | (simp [*] <;> fail) | omega) | exact leaf_f (by (first | omega | ((try simp only [decide_eq_true_eq, decide_eq_false_iff_not, Bool.not_eq_true', Bool.not_eq_false'] at *); first | omega | (simp_all <;> fail) | (simp_all; omega)))) | exact leaf_t (by (first | omega | ((try simp only [decide_eq_true_eq, decide_eq_false_iff_not, Bool.not_eq_true', Bool.not_eq_false'] at *); first | omega | (simp_all <;> fail) | (simp_all; omega)))) | exact leaf_d (by (first | omega | ((try simp only [decide_eq_true_eq, decide_eq_false_iff_not, Bool.not_eq_true', Bool.not_eq_false'] at *); first | omega | (simp_all <;> fail) | (simp_all; omega)))))) <| Sub.nil _) rfl rfl
      refine C.cond' rfl (fun hC2 => ?_) (fun hC2 => ?_)
      ·
        rw [hj] at hC2
        obtain ⟨q, hq1, hq2, hq3, hq4, hq5⟩ := bgo_some (len := len) (dist := dist) h3 hk hC2.2 hC2.1
        rw [hbg] at hq5
        rw [hj, hq1]
        have hbl := hF.len
        have hgq := hF.bef q (by omega) hq3
        rw [hq4, List.getD_eq_getElem?_getD, List.getElem?_eq_getElem (by omega)] at hgq
        have hgq : bf[q] = Df.pv l (Df.key l a) q := hgq
        have heq := (Df.eqn_spec l q a).1
        refine C.skip <| X.next <| C.seq <| C.block <| ?_

        refine C.cut2 [(0, _), (1, _), (6, _), (8, _)] rfl (fun (len : Nat) (dist : Nat) => [(4, i64 len), (5, i64 dist)]) (fun (len : Nat) (dist : Nat) w' => M w (fpU [Rg.blk b 64 [p, .map (some r), vb], Rg.mp r .u32 i64 m, Rg.sl i64 3 vb bf]) w' [Rg.blk b 64 [p, .map (some r), vb], Rg.mp r .u32 i64 m, Rg.sl i64 3 vb bf] ∧ len ≤ 258 ∧ dist ≤ a ∧ Df.bgo l a q len dist (n + 1) = Df.bst l a) ?_ ?_
        ·
          refine C.seq <| C.region <| E.mv rfl rfl <| E.mv rfl rfl <| E.mv rfl rfl <| ?_
          refine E.call rfl rfl (equal_ret b q a p (.map (some r)) vb l _ (hM.pick [0] (by decide)).sep (hM.arg hp ho) (offB ho) (by omega) (by omega) (by omega)) ?_
          rintro _ w3 ⟨rfl, m3⟩
          have hM := hM.calls [0] (by decide) rfl (by simp) m3
          try dsimp only [List.nil_append, List.cons_append, List.set_cons_zero, List.set_cons_succ, repl] at hM
          refine E.asg rfl rfl <| E.nil <| X.next <| C.seq <| C.region <| E.mv rfl rfl <| E.mv rfl rfl <| E.bin rfl rfl rfl rfl <| E.nil <| X.next <| ?_
          refine C.cond' rfl (fun hC3 => ?_) (fun hC3 => ?_)
          ·
            rw [if_pos (by omega)] at hq5
            refine C.region <| E.mv rfl rfl <| E.mv rfl rfl <| E.mv rfl rfl <| ?_
            refine E.subN (a := a) (b := q) rfl rfl (by omega) rfl ?_

            refine E.asg rfl rfl <| E.asg rfl rfl <| E.nil <| X.join2 (Df.eqn l q a) (a - q) (Sub.cons rfl <| Sub.cons rfl <| Sub.nil _) rfl ⟨hM, heq, by omega, hq5.symm⟩
          ·
            rw [if_neg (by omega)] at hq5

            refine C.skip <| X.join2 len dist (Sub.cons rfl <| Sub.cons rfl <| Sub.nil _) rfl ⟨hM, hle, hdi, hq5.symm⟩
        rintro len dist w3 ⟨hM, hle, hdi, hbg⟩
        refine C.region <| E.mv rfl rfl <| E.nilc rfl rfl <| ?_
        refine E.fld (o := 2) (sz := 0) rfl Tryd.underlying64 rfl rfl (by kernel_rfl) rfl ?_
        refine E.load rfl Tryd.underlying29 rfl (hM.bcell 0 rfl rfl) rfl ?_
        refine E.mv rfl rfl <| ?_
        refine E.get (k := q) rfl rfl (hM.sl 2 rfl) rfl (by omega) Tryd.underlying29 (by kernel_rfl) Tryd.underlying3 rfl rfl rfl ?_
        rw [hgq]
        refine E.asg rfl rfl <| E.nil <| X.outN <| X.next <| C.region <| E.mv rfl rfl <| ?_
        refine E.addN (a := n) (b := 1) rfl rfl (by omega) rfl ?_

        refine E.asg rfl rfl <| E.nil <| X.again4 (n + 1) len dist q (Sub.cons rfl <| Sub.cons rfl <| Sub.cons rfl <| Sub.cons rfl <| Sub.nil _) rfl ⟨hM, by omega, by omega, hle, hdi, hbg⟩ (by omega)
      ·
        have hfin : Df.bst l a = (len, dist) := by
          rw [← hbg]
          by_cases h32 : n < 32
          · exact bgo_none h3 hk (by rw [← hj]; omega)
          · exact Df.bgo_full (by omega) k
        refine C.exit <| X.exitT <| X.exitT <| X.outE <| X.next <| C.seq <| C.region <| E.mv rfl rfl <| E.mv rfl rfl <| E.asg rfl rfl <| E.asg rfl rfl <| E.nil <| X.next <| C.ret <| ret2 rfl rfl rfl ?_
        exact ⟨by rw [hfin], hM⟩

abbrev AL := List (Int × Int)
theorem nz_snoc (ts : List Nat) (t : Nat) : nz ts ++ [(t : Int)] = nz (ts ++ [t]) := by unfold nz; rw [List.map_append]; rfl
set_option maxHeartbeats 4000000 in
set_option maxRecDepth 4000 in
theorem Matches_ret (p : Value) (l : List UInt8) (w : World) (hp : RdL u8 w p l) (hl : l.length ≤ 32768) :
    Ret Tryd.prog 13 #[p] w fun v w' => ∃ vt, v = .tuple #[vt, i64 0] ∧ M w Nn w' [Rg.sl i64 3 vt (nz (Df.toks l 0))] := by
  have hM := M.start w
  refine enter Tryd.func13 rfl (by kernel_rfl) Tryd.ntmps13 rfl ?_
  refine C.seq <| C.region <| E.asg rfl rfl <| E.asg rfl rfl <| E.nil <| X.next <| C.seq <| C.seq <| C.region <| E.mv rfl rfl <| ?_
  refine E.lenv rfl (Rd.shape (hM.arg0 hp)) Tryd.underlying22 rfl ?_
  refine E.bin rfl rfl rfl rfl <| E.nil <| X.next <| ?_
  refine C.cond' rfl (fun hC0 => ?_) (fun hC0 => ?_)
  ·
    omega
  ·
    refine C.skip <| X.next <| C.seq <| C.region <| E.mv rfl rfl <| ?_
    refine E.mkmapM .u32 i64 hM rfl ?_
    intro r13 w0 hM
    try dsimp only [List.nil_append, List.cons_append, List.set_cons_zero, List.set_cons_succ, repl] at hM
    refine E.mv rfl rfl <| ?_
    refine E.lenv rfl (Rd.shape (hM.arg0 hp)) Tryd.underlying22 rfl ?_
    refine E.makeM (by_ := 8) (enc := i64) 0 hM rfl Tryd.underlying29 (by kernel_rfl) rfl (by first | omega | (simp only [List.length_replicate, List.length_append, List.length_set, List.length_cons, List.length_nil, List.length_map, List.length_range, List.length_take, List.length_drop, List.length_zipWith] at *; omega)) (by first | omega | (simp only [List.length_replicate, List.length_append, List.length_set, List.length_cons, List.length_nil, List.length_map, List.length_range, List.length_take, List.length_drop, List.length_zipWith] at *; omega)) rfl ?_
    intro v16 w1 hM
    try dsimp only [List.nil_append, List.cons_append, List.set_cons_zero, List.set_cons_succ, repl] at hM
    obtain ⟨pa, pc, rfl⟩ := Rd.shape hp
    obtain ⟨qa, qc, rfl⟩ := Rd.shape (hM.sl 1 rfl)
    refine E.buildC (cs := [_, _, _]) [.slice none 0 0, .map none, .slice none 0 0] [0, 1, 2] rfl rfl (by kernel_rfl) rfl ?_
    refine E.boxM hM rfl rfl rfl ?_
    intro b18 w2 hM
    try dsimp only [List.nil_append, List.cons_append, List.set_cons_zero, List.set_cons_succ, repl] at hM
    refine E.asg rfl rfl <| E.nil <| X.next <| C.seq <| C.region <| E.asg rfl rfl <| E.nil <| X.next <| C.seq <| C.seq <| C.region <| E.asg rfl rfl <| E.nil <| X.next <| C.block <| ?_
    obtain ⟨p, hpe⟩ : ∃ p, p = Value.slice pa l.length pc := ⟨_, rfl⟩
    rw [← hpe] at hM hp ⊢
    obtain ⟨v16, hve⟩ : ∃ v16, v16 = Value.slice qa (List.replicate l.length (0 : Int)).length qc := ⟨_, rfl⟩
    rw [← hve] at hM
    have hM := hM.nil i64 3
    try dsimp only [List.nil_append, List.cons_append, List.set_cons_zero, List.set_cons_succ, repl] at hM

    refine C.loop5 [(0, _), (4, _)] rfl (fun (a : Nat) (ts : (List Nat)) (m : AL) (bf : (List Int)) (vt : Value) => [(5, vt), (6, i64 a)]) (fun (a : Nat) (ts : (List Nat)) (m : AL) (bf : (List Int)) (vt : Value) w' => M w (Nn) w' [Rg.mp r13 .u32 i64 m, Rg.sl i64 3 v16 bf, Rg.blk b18 64 [p, .map (some r13), v16], Rg.sl i64 3 vt (nz ts)] ∧ a ≤ l.length ∧ Df.toks l 0 = ts ++ Df.toks l a ∧ Fs l a m bf ∧ ts.length ≤ a) (fun (a : Nat) (ts : (List Nat)) (m : AL) (bf : (List Int)) (vt : Value) => l.length - a) 0 [] [] (List.replicate l.length 0) (.slice none 0 0) ?_ ?_ ?_
    · exact Sub.cons rfl <| Sub.cons rfl <| Sub.nil _
    · exact ⟨hM, Nat.zero_le _, rfl, Fs.zero l, Nat.le_refl _⟩
    rintro a ts m bf vt w3 ⟨hM, ha, htk, hF, htl⟩
    refine C.seq <| C.seq <| C.region <| E.mv rfl rfl <| E.mv rfl rfl <| ?_
    refine E.lenv rfl (Rd.shape (hM.arg0 hp)) Tryd.underlying22 rfl ?_
    refine E.bin rfl rfl rfl rfl <| E.nil <| X.next <| ?_
    refine C.cond' rfl (fun hC1 => ?_) (fun hC1 => ?_)
    ·
      have ha' : a < l.length := by omega
      obtain ⟨gb1, gb2, gb3⟩ := Df.bst_bd ha'
      have hnl := nz_len ts
      refine C.skip <| X.next <| C.block <| C.seq <| C.region <| E.mv rfl rfl <| E.mv rfl rfl <| ?_
      refine E.call rfl rfl (best_ret b18 r13 a p v16 l m bf _ (hM.pick [2, 0, 1] (by decide)).sep (hM.arg0 hp) ((hM.pick [2, 0, 1] (by decide)).off0 hp) hF ha' hl) ?_
      rintro _ w4 ⟨rfl, m4⟩
      have hM := hM.calls [2, 0, 1] (by decide) rfl (by simp) m4
      try dsimp only [List.nil_append, List.cons_append, List.set_cons_zero, List.set_cons_succ, repl] at hM
      refine E.mv rfl rfl <| E.ext rfl rfl rfl <| E.ext rfl rfl rfl <| E.asg rfl rfl <| E.asg rfl rfl <| E.nil <| X.next <| ?_

      refine C.cut3 [(0, _), (4, _), (6, _)] rfl (fun (n : Nat) (ts : (List Nat)) (vt : Value) => [(5, vt), (7, i64 n)]) (fun (n : Nat) (ts : (List Nat)) (vt : Value) w' => M w (Nn) w' [Rg.mp r13 .u32 i64 m, Rg.sl i64 3 v16 bf, Rg.blk b18 64 [p, .map (some r13), v16], Rg.sl i64 3 vt (nz ts)] ∧ 1 ≤ n ∧ a + n ≤ l.length ∧ Df.toks l 0 = ts ++ Df.toks l (a + n) ∧ ts.length ≤ a + 1) ?_ ?_
      ·
        refine C.seq <| C.region <| E.mv rfl rfl <| E.bin rfl rfl rfl rfl <| E.nil <| X.next <| ?_
        refine C.cond' rfl (fun hC2 => ?_) (fun hC2 => ?_)
        ·
          have h0 : (Df.bst l a).1 = 0 := by omega
          have hb8 := l[a].toNat_lt
          rw [Df.toks_lit ha' h0, gdU ha'] at htk
          refine C.seq <| C.region <| E.mv rfl rfl <| E.mv rfl rfl <| E.mv rfl rfl <| ?_
          refine E.get (k := a) rfl rfl (hM.arg0 hp) rfl (by omega) Tryd.underlying22 (by kernel_rfl) Tryd.underlying5 rfl rfl rfl ?_
          refine E.conv rfl Tryd.underlying5 Tryd.underlying3 (IntWalk.i64_in _ (by omega)) rfl ?_
          refine E.pushM (enc := i64) 3 (l[a].toNat : Int) hM rfl rfl rfl Tryd.underlying29 elem_Tint rfl (by omega) (by omega) (by simp) rfl rfl ?_
          intro v38 u38 w5 hM
          try dsimp only [List.nil_append, List.cons_append, List.set_cons_zero, List.set_cons_succ, repl] at hM
          rw [nz_snoc] at hM

          refine E.asg rfl rfl <| E.nil <| X.next <| C.region <| E.asg rfl rfl <| E.nil <| X.join3 1 (ts ++ [l[a].toNat]) v38 (Sub.cons rfl <| Sub.cons rfl <| Sub.nil _) rfl ⟨hM, by omega, by omega, by rw [htk, List.append_assoc]; rfl, by rw [List.length_append, List.length_singleton]; omega⟩
        ·
          have h0 : ¬ (Df.bst l a).1 = 0 := by omega
          rw [Df.toks_mat ha' h0] at htk
          refine C.region <| E.mv rfl rfl <| E.mv rfl rfl <| ?_
          refine E.shl rfl rfl (by decide) (shl_nat (k := 16) (c := (Df.bst l a).1 * 65536) (by decide) (by omega) (by omega)) rfl ?_
          refine E.mv rfl rfl <| ?_
          refine E.addN (a := (Df.bst l a).1 * 65536) (b := (Df.bst l a).2) rfl rfl (by omega) rfl ?_
          refine E.pushM (enc := i64) 3 (((Df.bst l a).1 * 65536 + (Df.bst l a).2 : Nat) : Int) hM rfl rfl rfl Tryd.underlying29 elem_Tint rfl (by omega) (by omega) (by simp) rfl rfl ?_
          intro v45 u45 w6 hM
          try dsimp only [List.nil_append, List.cons_append, List.set_cons_zero, List.set_cons_succ, repl] at hM
          rw [nz_snoc] at hM

          refine E.asg rfl rfl <| E.nil <| X.join3 (Df.bst l a).1 (ts ++ [(Df.bst l a).1 * 65536 + (Df.bst l a).2]) v45 (Sub.cons rfl <| Sub.cons rfl <| Sub.nil _) rfl ⟨hM, by omega, gb3, by rw [htk, List.append_assoc]; rfl, by rw [List.length_append, List.length_singleton]; omega⟩
      rintro n ts vt w7 ⟨hM, hn1, han, htk, htl⟩
      refine C.seq <| C.region <| E.mv rfl rfl <| E.mv rfl rfl <| E.nil <| X.next <| C.block <| ?_

      refine C.loop3 [(0, _), (4, _), (5, _), (46, _)] rfl (fun (k : Nat) (m : AL) (bf : (List Int)) => [(6, i64 ((a + k : Nat) : Int)), (47, i64 k)]) (fun (k : Nat) (m : AL) (bf : (List Int)) w' => M w (Nn) w' [Rg.mp r13 .u32 i64 m, Rg.sl i64 3 v16 bf, Rg.blk b18 64 [p, .map (some r13), v16], Rg.sl i64 3 vt (nz ts)] ∧ k ≤ n ∧ Fs l (a + k) m bf) (fun (k : Nat) (m : AL) (bf : (List Int)) => n - k) 0 m bf ?_ ?_ ?_
      · exact Sub.cons rfl <| Sub.cons rfl <| Sub.nil _
      · exact ⟨hM, Nat.zero_le _, hF⟩
      rintro k m bf w8 ⟨hM, hk, hF⟩
      refine C.seq <| C.region <| E.bin rfl rfl rfl rfl <| E.nil <| X.next <| C.seq <| ?_
      refine C.cond' rfl (fun hC3 => ?_) (fun hC3 => ?_)
      ·
        refine C.skip <| X.next <| C.seq <| C.block <| C.seq <| C.region <| E.mv rfl rfl <| E.mv rfl rfl <| ?_
        refine E.call rfl rfl (add_ret b18 r13 (a + k) p v16 l m bf _ (hM.pick [2, 0, 1] (by decide)).sep (hM.arg0 hp) ((hM.pick [2, 0, 1] (by decide)).off0 hp) hF (by omega)) ?_
        rintro _ w6 ⟨m', bf', m6, hF'⟩
        have hM := hM.calls [2, 0, 1] (by decide) rfl (by simp) m6
        try dsimp only [List.nil_append, List.cons_append, List.set_cons_zero, List.set_cons_succ, repl] at hM
        refine E.nil <| X.next <| C.region <| E.mv rfl rfl <| ?_
        refine E.addN (a := a + k) (b := 1) rfl rfl (by omega) rfl ?_
        refine E.asg rfl rfl <| E.nil <| X.outN <| X.next <| C.region <| ?_
        refine E.addN (a := k) (b := 1) rfl rfl (by omega) rfl ?_

        refine E.mv rfl rfl <| E.nil <| X.again3 (k + 1) m' bf' (Sub.cons rfl <| Sub.cons rfl <| Sub.nil _) rfl ⟨hM, by omega, hF'⟩ (by omega)
      ·
        obtain rfl : k = n := by omega

        refine C.exit <| X.exitT <| X.exitT <| X.outE <| X.outN <| X.again5 (a + k) ts m bf vt (Sub.cons rfl <| Sub.cons rfl <| Sub.nil _) rfl ⟨hM, han, htk, hF, by omega⟩ (by omega)
    ·
      rw [Df.toks_end (show l.length ≤ a by omega), List.append_nil] at htk
      refine C.exit <| X.exitT <| X.exitT <| X.outE <| X.next <| C.seq <| C.region <| E.mv rfl rfl <| E.asg rfl rfl <| E.asg rfl rfl <| E.nil <| X.next <| C.ret <| ret2 rfl rfl rfl ?_
      exact ⟨vt, rfl, by rw [htk]; exact hM.pick [3] (by decide)⟩

end Go.Proofs.YtcmgbjmcklfkcaaDoor
