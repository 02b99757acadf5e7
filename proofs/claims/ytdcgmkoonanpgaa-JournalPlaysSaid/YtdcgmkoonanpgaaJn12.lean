/- law 53: Plays. -/
import Derived.Test.YtdcgmkoonanpgaaJn11
namespace Go.Proofs.Ytdcgmkoonanpgaa
set_option linter.unusedSimpArgs false
set_option linter.unusedVariables false
open Go.RowKit Sym Go.Conc.Locks

section
variable {P : Program} {Q : Exit → Act → World → Prop} {s : St} {env : Env} {w : World}
def Sym.Again8 {A0 A1 A2 A3 A4 A5 A6 A7 : Type} (s : St) (mods : A0 → A1 → A2 → A3 → A4 → A5 → A6 → A7 → Env) (φ : A0 → A1 → A2 → A3 → A4 → A5 → A6 → A7 → World → Prop) (μ : A0 → A1 → A2 → A3 → A4 → A5 → A6 → A7 → Nat) (E0 : Env) (m : Nat) (a : Act) (w : World) : Prop := ∃ x0 x1 x2 x3 x4 x5 x6 x7, Sat s a (mods x0 x1 x2 x3 x4 x5 x6 x7 ++ E0) ∧ φ x0 x1 x2 x3 x4 x5 x6 x7 w ∧ μ x0 x1 x2 x3 x4 x5 x6 x7 < m
theorem Sym.C.loop8 {A0 A1 A2 A3 A4 A5 A6 A7 : Type} (E0 : Env) (hE : now E0 env = E0) (mods : A0 → A1 → A2 → A3 → A4 → A5 → A6 → A7 → Env) (φ : A0 → A1 → A2 → A3 → A4 → A5 → A6 → A7 → World → Prop) (μ : A0 → A1 → A2 → A3 → A4 → A5 → A6 → A7 → Nat) (x0 : A0) (x1 : A1) (x2 : A2) (x3 : A3) (x4 : A4) (x5 : A5) (x6 : A6) (x7 : A7) {c : Code} (h0 : Sub (mods x0 x1 x2 x3 x4 x5 x6 x7) env) (hφ : φ x0 x1 x2 x3 x4 x5 x6 x7 w)
    (round : ∀ x0 x1 x2 x3 x4 x5 x6 x7 w, φ x0 x1 x2 x3 x4 x5 x6 x7 w → wpC P c (Exit.then (Sym.Again8 s mods φ μ E0 (μ x0 x1 x2 x3 x4 x5 x6 x7)) Q) s (mods x0 x1 x2 x3 x4 x5 x6 x7 ++ E0) w) : wpC P (.loop c) Q s env w :=
  C.loop (G := A0 × A1 × A2 × A3 × A4 × A5 × A6 × A7) (fun g => mods g.1 g.2.1 g.2.2.1 g.2.2.2.1 g.2.2.2.2.1 g.2.2.2.2.2.1 g.2.2.2.2.2.2.1 g.2.2.2.2.2.2.2 ++ E0) (fun g w => φ g.1 g.2.1 g.2.2.1 g.2.2.2.1 g.2.2.2.2.1 g.2.2.2.2.2.1 g.2.2.2.2.2.2.1 g.2.2.2.2.2.2.2 w) (fun g => μ g.1 g.2.1 g.2.2.1 g.2.2.2.1 g.2.2.2.2.1 g.2.2.2.2.2.1 g.2.2.2.2.2.2.1 g.2.2.2.2.2.2.2) (x0, x1, x2, x3, x4, x5, x6, x7) (Sub.app h0 (Sub.same hE)) hφ fun g w hg a ha => wp_mono (round g.1 g.2.1 g.2.2.1 g.2.2.2.1 g.2.2.2.2.1 g.2.2.2.2.2.1 g.2.2.2.2.2.2.1 g.2.2.2.2.2.2.2 w hg a ha) fun e a' w' h => by
    cases e with
    | normal => obtain ⟨x0, x1, x2, x3, x4, x5, x6, x7, h1, h2, h3⟩ := h; exact ⟨(x0, x1, x2, x3, x4, x5, x6, x7), h1, h2, h3⟩
    | _ => exact h
theorem Sym.X.again8 {A0 A1 A2 A3 A4 A5 A6 A7 : Type} {mods : A0 → A1 → A2 → A3 → A4 → A5 → A6 → A7 → Env} {φ : A0 → A1 → A2 → A3 → A4 → A5 → A6 → A7 → World → Prop} {μ : A0 → A1 → A2 → A3 → A4 → A5 → A6 → A7 → Nat} {E0 : Env} {m : Nat} (x0 : A0) (x1 : A1) (x2 : A2) (x3 : A3) (x4 : A4) (x5 : A5) (x6 : A6) (x7 : A7) (r : Sub (mods x0 x1 x2 x3 x4 x5 x6 x7) env) (hs : now E0 env = E0) (h : φ x0 x1 x2 x3 x4 x5 x6 x7 w) (hm : μ x0 x1 x2 x3 x4 x5 x6 x7 < m) : wpX .normal (Exit.then (Sym.Again8 s mods φ μ E0 m) Q) s env w := fun _ ha => ⟨x0, x1, x2, x3, x4, x5, x6, x7, ha.sub (Sub.app r (Sub.same hs)), h, hm⟩
end
/-- a call that the law makes -/
structure Ac where
  kind : Int
  n : Int
  ph : Hd
  p : List UInt8
  lh : Hd
  lhs : List Hd
  l : LL
def Ac.cells (a : Ac) : List Value := [i64 a.kind, i64 a.n, slv a.ph, slv a.lh]
def Ac.tot (a : Ac) : Nat := min (Jn.siz a.l) 1048576 + min a.p.length 1048576
def tots (l : List Ac) : Nat := (l.map Ac.tot).sum
theorem tots_snoc (l : List Ac) (a : Ac) : tots (l ++ [a]) = tots l + a.tot := by simp [tots]
theorem tots_le (l : List Ac) : tots l ≤ 2097152 * l.length := by
  induction l with
  | nil => simp [tots]
  | cons a l ih =>
    have h : a.tot ≤ 2097152 := by unfold Ac.tot; omega
    simp only [tots, List.map_cons, List.sum_cons, List.length_cons] at *; omega
theorem tots_mem {l : List Ac} {a : Ac} (h : a ∈ l) : a.tot ≤ tots l := by
  induction l with
  | nil => simp at h
  | cons b l ih =>
    simp only [tots, List.map_cons, List.sum_cons] at *
    rcases List.mem_cons.1 h with rfl | h
    · omega
    · have := ih h; omega
theorem upd {w w1 w2 : World} {a b c d rx : Rg} {vB vB' : Value} {ls ls' : LL} (hM : M w Nn w1 [a, b, c, d, rx]) (hX : ∀ w2, Ext w w2 → rx.ok w2 → RdL u8 w2 vB (Jn.encs ls)) (h : (vB' = vB ∧ ls' = ls ∧ Ext w1 w2) ∨ M w1 Nn w2 [Rg.sl u8 5 vB' (Jn.encs ls')]) :
    ∃ rx', M w Nn w2 [a, b, c, d, rx'] ∧ ∀ w2, Ext w w2 → rx'.ok w2 → RdL u8 w2 vB' (Jn.encs ls') := by
  rcases h with ⟨rfl, rfl, x⟩ | m
  · exact ⟨rx, hM.ext x, hX⟩
  · exact ⟨Rg.sl u8 5 vB' _, (hM.call m).pick [0, 1, 2, 3, 5] (by decide), fun w2 _ h => OwnL.rd h⟩
theorem part_all {w : World} {vB : Value} {ls : LL} (h : RdL u8 w vB (Jn.encs ls)) : RdL u8 w (partV vB 0 (Jn.siz ls)) (Jn.encs ls) := by
  have hel := Jn.encs_len ls
  have := h.partV (a := 0) (b := Jn.siz ls) (by omega) (by omega)
  rw [cut_take, List.take_of_length_le (by omega)] at this; exact this
set_option maxHeartbeats 8000000 in
set_option maxRecDepth 20000 in
theorem JournalPlays_ret (p : Value) (l : List UInt8) (va : Value) (acts : List Ac) (w : World) (hl : RdL u8 w p l) (hA : RdF Ac.cells 4 w va acts) (hF : ∀ a ∈ acts, RdL u8 w (slv a.ph) a.p ∧ RdL slv w (slv a.lh) a.lhs ∧ Bag w a.lhs a.l) :
    Ret Try.prog 6 #[p, va] w fun v w' => v = .bool true ∧ Ext w w' := by
  have hM := M.start w
  refine enter Try.func6 rfl (by kernel_rfl) Try.ntmps6 rfl ?_
  refine C.seq <| C.region <| E.asg rfl rfl <| E.nil <| X.next <| C.seq <| ?_

  refine C.chainE [(0, _), (1, _)] rfl [(21, .bool (decide (2000 < l.length ∨ 30 < acts.length)))] ?_ ?_
  ·
    refine C.region <| E.mv rfl rfl <| ?_
    refine E.lenv rfl (Rd.shape (hM.arg0 hl)) Try.underlying22 rfl ?_
    refine E.bin rfl rfl rfl rfl <| E.mv rfl rfl <| ?_
    refine E.split 17 rfl (fun g17 => ?_) (fun g17 => ?_)
    ·
      try simp only [decide_eq_true_eq, decide_eq_false_iff_not, ne_eq, Decidable.not_not, Bool.not_eq_true', Bool.not_eq_false'] at g17
      refine E.off rfl rfl rfl rfl <| E.off rfl rfl rfl rfl <| E.off rfl rfl rfl rfl <| E.pick rfl rfl rfl <| E.nil <| X.join0 (Sub.cons (by (first | exact leaf_f (by omega) | exact leaf_t (by omega) | exact leaf_d (by omega) | exact leaf_f (by first | (simp [*] <;> fail) | omega) | exact leaf_t (by first | (simp [*] <;> fail) | omega) | exact leaf_d (by first | (simp [*] <;> fail) | omega) | exact leaf_f (by (first | omega | ((try simp only [decide_eq_true_eq, decide_eq_false_iff_not, Bool.not_eq_true', Bool.not_eq_false'] at *); first | omega | (simp_all <;> fail) | (simp_all; omega)))) | exact leaf_t (by (first | omega | ((try simp only [decide_eq_true_eq, decide_eq_false_iff_not, Bool.not_eq_true', Bool.not_eq_false'] at *); first | omega | (simp_all <;> fail) | (simp_all; omega)))) | exact leaf_d (by (first | omega | ((try simp only [decide_eq_true_eq, decide_eq_false_iff_not, Bool.not_eq_true', Bool.not_eq_false'] at *); first | omega | (simp_all <;> fail) | (simp_all; omega)))))) <| Sub.nil _) rfl rfl
    ·
      try simp only [decide_eq_true_eq, decide_eq_false_iff_not, ne_eq, Decidable.not_not, Bool.not_eq_true', Bool.not_eq_false'] at g17
      refine E.on rfl rfl (E.mv rfl rfl ?_)
      refine E.on rfl rfl (E.lenv rfl (RdF.shape (hM.argF0 hA)) Try.underlying43 rfl ?_)
      refine E.on rfl rfl (E.bin rfl rfl rfl rfl ?_)
      refine E.pick rfl rfl rfl <| E.nil <| X.join0 (Sub.cons (by (first | exact leaf_f (by omega) | exact leaf_t (by omega) | exact leaf_d (by omega) | exact leaf_f (by first | (simp [*] <;> fail) | omega) | exact leaf_t (by first | (simp [*] <;> fail) | omega) | exact leaf_d (by first | (simp [*] <;> fail) | omega) | exact leaf_f (by (first | omega | ((try simp only [decide_eq_true_eq, decide_eq_false_iff_not, Bool.not_eq_true', Bool.not_eq_false'] at *); first | omega | (simp_all <;> fail) | (simp_all; omega)))) | exact leaf_t (by (first | omega | ((try simp only [decide_eq_true_eq, decide_eq_false_iff_not, Bool.not_eq_true', Bool.not_eq_false'] at *); first | omega | (simp_all <;> fail) | (simp_all; omega)))) | exact leaf_d (by (first | omega | ((try simp only [decide_eq_true_eq, decide_eq_false_iff_not, Bool.not_eq_true', Bool.not_eq_false'] at *); first | omega | (simp_all <;> fail) | (simp_all; omega)))))) <| Sub.nil _) rfl rfl
  refine C.cond' rfl (fun hC0 => ?_) (fun hC0 => ?_)
  ·
    refine C.seq <| C.region <| ?_
    refine E.call rfl rfl (alive_ret _) ?_
    rintro _ wz ⟨rfl, xz⟩
    have hM := hM.ext xz
    try dsimp only [List.nil_append, List.cons_append, List.set_cons_zero, List.set_cons_succ, repl] at hM
    refine E.asg rfl rfl <| E.nil <| X.next <| C.ret <| X.retT <| ret1 rfl rfl ?_
    exact ⟨rfl, hM.toExt⟩
  ·
    refine C.skip <| X.next <| C.seq <| C.region <| E.asg rfl rfl <| E.nil <| X.next <| C.seq <| C.seq <| C.region <| E.mv rfl rfl <| ?_
    refine E.lenv rfl (RdF.shape (by first | exact hM.slF 0 rfl | exact hM.slF 1 rfl | exact hM.slF 2 rfl | exact hM.slF 3 rfl | exact hM.slF 4 rfl | exact hM.slF 5 rfl | exact hM.slF 6 rfl | exact hM.slF 7 rfl | exact hM.slF 8 rfl | exact hM.argF0 (by assumption) | exact hM.argF (by assumption) (by assumption) | assumption)) Try.underlying43 rfl ?_
    refine E.mv rfl rfl <| E.nil <| X.next <| C.block <| ?_

    refine C.loop1 [(0, _), (1, _), (24, _)] rfl (fun (i : Nat) => [(5, i64 (tots (acts.take i) : Int)), (25, i64 i)]) (fun (i : Nat) w' => M w (Nn) w' [] ∧ i ≤ acts.length) (fun (i : Nat) => acts.length - i) 0 ?_ ?_ ?_
    · exact Sub.cons rfl <| Sub.cons rfl <| Sub.nil _
    · exact ⟨hM, Nat.zero_le _⟩
    rintro i w1 ⟨hM, hi⟩
    refine C.seq <| C.region <| E.bin rfl rfl rfl rfl <| E.nil <| X.next <| C.seq <| ?_
    refine C.cond' rfl (fun hC1 => ?_) (fun hC1 => ?_)
    ·
      have hi' : i < acts.length := by omega
      obtain ⟨hAp, hAl, hAb⟩ := hF acts[i] (List.getElem_mem hi')
      have htl := tots_le (acts.take i)
      have hlt : (acts.take i).length = i := by rw [List.length_take]; omega
      refine C.skip <| X.next <| C.seq <| C.block <| C.seq <| C.region <| E.mv rfl rfl <| E.asg rfl rfl <| E.nil <| X.next <| C.drawn (by kernel_rfl) (by kernel_rfl) <| Q.mv rfl rfl <| Q.mv rfl rfl <| Q.mv rfl rfl <| ?_
      refine Q.idxF (k := _) rfl rfl (by first | exact hM.slF 0 rfl | exact hM.slF 1 rfl | exact hM.slF 2 rfl | exact hM.slF 3 rfl | exact hM.slF 4 rfl | exact hM.slF 5 rfl | exact hM.slF 6 rfl | exact hM.slF 7 rfl | exact hM.slF 8 rfl | exact hM.argF0 (by assumption) | exact hM.argF (by assumption) (by assumption) | assumption) rfl (by first | omega | (simp only [List.length_replicate, List.length_append, List.length_set, List.length_cons, List.length_nil, List.length_map, List.length_range, List.length_take, List.length_drop, List.length_zipWith] at *; omega)) (by decide) Try.underlying43 (by kernel_rfl) rfl ?_
      refine Q.fld (o := 3) (sz := 0) rfl Try.underlying45 rfl rfl (by kernel_rfl) rfl ?_
      refine Q.load rfl Try.underlying27 rfl (by first | exact (hM.slF 0 rfl).atA rfl (by first | omega | (simp only [List.length_replicate, List.length_append, List.length_set, List.length_cons, List.length_nil, List.length_map, List.length_range, List.length_take, List.length_drop, List.length_zipWith] at *; omega)) rfl | exact (hM.slF 1 rfl).atA rfl (by first | omega | (simp only [List.length_replicate, List.length_append, List.length_set, List.length_cons, List.length_nil, List.length_map, List.length_range, List.length_take, List.length_drop, List.length_zipWith] at *; omega)) rfl | exact (hM.slF 2 rfl).atA rfl (by first | omega | (simp only [List.length_replicate, List.length_append, List.length_set, List.length_cons, List.length_nil, List.length_map, List.length_range, List.length_take, List.length_drop, List.length_zipWith] at *; omega)) rfl | exact (hM.slF 3 rfl).atA rfl (by first | omega | (simp only [List.length_replicate, List.length_append, List.length_set, List.length_cons, List.length_nil, List.length_map, List.length_range, List.length_take, List.length_drop, List.length_zipWith] at *; omega)) rfl | exact (hM.slF 4 rfl).atA rfl (by first | omega | (simp only [List.length_replicate, List.length_append, List.length_set, List.length_cons, List.length_nil, List.length_map, List.length_range, List.length_take, List.length_drop, List.length_zipWith] at *; omega)) rfl | exact (hM.slF 5 rfl).atA rfl (by first | omega | (simp only [List.length_replicate, List.length_append, List.length_set, List.length_cons, List.length_nil, List.length_map, List.length_range, List.length_take, List.length_drop, List.length_zipWith] at *; omega)) rfl | exact (hM.slF 6 rfl).atA rfl (by first | omega | (simp only [List.length_replicate, List.length_append, List.length_set, List.length_cons, List.length_nil, List.length_map, List.length_range, List.length_take, List.length_drop, List.length_zipWith] at *; omega)) rfl | exact (hM.slF 7 rfl).atA rfl (by first | omega | (simp only [List.length_replicate, List.length_append, List.length_set, List.length_cons, List.length_nil, List.length_map, List.length_range, List.length_take, List.length_drop, List.length_zipWith] at *; omega)) rfl | exact (hM.slF 8 rfl).atA rfl (by first | omega | (simp only [List.length_replicate, List.length_append, List.length_set, List.length_cons, List.length_nil, List.length_map, List.length_range, List.length_take, List.length_drop, List.length_zipWith] at *; omega)) rfl | exact (hM.argF0 (by assumption)).atA rfl (by first | omega | (simp only [List.length_replicate, List.length_append, List.length_set, List.length_cons, List.length_nil, List.length_map, List.length_range, List.length_take, List.length_drop, List.length_zipWith] at *; omega)) rfl | exact (hM.argF (by assumption) (by assumption)).atA rfl (by first | omega | (simp only [List.length_replicate, List.length_append, List.length_set, List.length_cons, List.length_nil, List.length_map, List.length_range, List.length_take, List.length_drop, List.length_zipWith] at *; omega)) rfl) rfl ?_
      refine Q.call (v := i64 ((min (Jn.siz acts[i].l) 1048576 : Nat) : Int)) rfl rfl (fun w' hw' => size_ret _ acts[i].lhs acts[i].l w' (hAl.ext (hM.toExt.trans hw')) (hAb.ext (hM.toExt.trans hw'))) ?_
      refine Q.add rfl rfl (by omega) rfl ?_
      refine Q.mv rfl rfl <| Q.mv rfl rfl <| ?_
      refine Q.idxF (k := _) rfl rfl (by first | exact hM.slF 0 rfl | exact hM.slF 1 rfl | exact hM.slF 2 rfl | exact hM.slF 3 rfl | exact hM.slF 4 rfl | exact hM.slF 5 rfl | exact hM.slF 6 rfl | exact hM.slF 7 rfl | exact hM.slF 8 rfl | exact hM.argF0 (by assumption) | exact hM.argF (by assumption) (by assumption) | assumption) rfl (by first | omega | (simp only [List.length_replicate, List.length_append, List.length_set, List.length_cons, List.length_nil, List.length_map, List.length_range, List.length_take, List.length_drop, List.length_zipWith] at *; omega)) (by decide) Try.underlying43 (by kernel_rfl) rfl ?_
      refine Q.fld (o := 2) (sz := 0) rfl Try.underlying45 rfl rfl (by kernel_rfl) rfl ?_
      refine Q.load rfl Try.underlying22 rfl (by first | exact (hM.slF 0 rfl).atA rfl (by first | omega | (simp only [List.length_replicate, List.length_append, List.length_set, List.length_cons, List.length_nil, List.length_map, List.length_range, List.length_take, List.length_drop, List.length_zipWith] at *; omega)) rfl | exact (hM.slF 1 rfl).atA rfl (by first | omega | (simp only [List.length_replicate, List.length_append, List.length_set, List.length_cons, List.length_nil, List.length_map, List.length_range, List.length_take, List.length_drop, List.length_zipWith] at *; omega)) rfl | exact (hM.slF 2 rfl).atA rfl (by first | omega | (simp only [List.length_replicate, List.length_append, List.length_set, List.length_cons, List.length_nil, List.length_map, List.length_range, List.length_take, List.length_drop, List.length_zipWith] at *; omega)) rfl | exact (hM.slF 3 rfl).atA rfl (by first | omega | (simp only [List.length_replicate, List.length_append, List.length_set, List.length_cons, List.length_nil, List.length_map, List.length_range, List.length_take, List.length_drop, List.length_zipWith] at *; omega)) rfl | exact (hM.slF 4 rfl).atA rfl (by first | omega | (simp only [List.length_replicate, List.length_append, List.length_set, List.length_cons, List.length_nil, List.length_map, List.length_range, List.length_take, List.length_drop, List.length_zipWith] at *; omega)) rfl | exact (hM.slF 5 rfl).atA rfl (by first | omega | (simp only [List.length_replicate, List.length_append, List.length_set, List.length_cons, List.length_nil, List.length_map, List.length_range, List.length_take, List.length_drop, List.length_zipWith] at *; omega)) rfl | exact (hM.slF 6 rfl).atA rfl (by first | omega | (simp only [List.length_replicate, List.length_append, List.length_set, List.length_cons, List.length_nil, List.length_map, List.length_range, List.length_take, List.length_drop, List.length_zipWith] at *; omega)) rfl | exact (hM.slF 7 rfl).atA rfl (by first | omega | (simp only [List.length_replicate, List.length_append, List.length_set, List.length_cons, List.length_nil, List.length_map, List.length_range, List.length_take, List.length_drop, List.length_zipWith] at *; omega)) rfl | exact (hM.slF 8 rfl).atA rfl (by first | omega | (simp only [List.length_replicate, List.length_append, List.length_set, List.length_cons, List.length_nil, List.length_map, List.length_range, List.length_take, List.length_drop, List.length_zipWith] at *; omega)) rfl | exact (hM.argF0 (by assumption)).atA rfl (by first | omega | (simp only [List.length_replicate, List.length_append, List.length_set, List.length_cons, List.length_nil, List.length_map, List.length_range, List.length_take, List.length_drop, List.length_zipWith] at *; omega)) rfl | exact (hM.argF (by assumption) (by assumption)).atA rfl (by first | omega | (simp only [List.length_replicate, List.length_append, List.length_set, List.length_cons, List.length_nil, List.length_map, List.length_range, List.length_take, List.length_drop, List.length_zipWith] at *; omega)) rfl) rfl ?_
      refine Q.lenv rfl (Rd.shape hAp) Try.underlying22 rfl ?_
      refine Q.min2 rfl rfl rfl <| ?_
      refine Q.add rfl rfl (by omega) rfl ?_
      refine Q.asg rfl rfl <| Q.nil <| fun w2 hx2 => ?_
      have hM := hM.ext hx2
      refine X.outN <| X.next <| C.region <| ?_
      refine E.addN (b := 1) rfl rfl (by first | omega | (simp only [List.length_replicate, List.length_append, List.length_set, List.length_cons, List.length_nil, List.length_map, List.length_range, List.length_take, List.length_drop, List.length_zipWith] at *; omega)) rfl ?_

      refine E.mv rfl rfl <| E.nil <| X.again1 (i + 1) (Sub.cons (look_val rfl (by rw [← List.take_append_getElem hi', tots_snoc, Ac.tot]; omega)) <| Sub.cons rfl <| Sub.nil _) rfl ⟨hM, by omega⟩ (by omega)
    ·
      obtain rfl : i = acts.length := by omega
      rw [List.take_length]
      refine C.exit <| X.exitT <| X.exitT <| X.outE <| X.next <| C.seq <| C.seq <| C.region <| E.mv rfl rfl <| E.bin rfl rfl rfl rfl <| E.nil <| X.next <| ?_
      refine C.cond' rfl (fun hC2 => ?_) (fun hC2 => ?_)
      ·
        refine C.seq <| C.region <| ?_
        refine E.call rfl rfl (alive_ret _) ?_
        rintro _ wz ⟨rfl, xz⟩
        have hM := hM.ext xz
        try dsimp only [List.nil_append, List.cons_append, List.set_cons_zero, List.set_cons_succ, repl] at hM
        refine E.asg rfl rfl <| E.nil <| X.next <| C.ret <| X.retT <| ret1 rfl rfl ?_
        exact ⟨rfl, hM.toExt⟩
      ·
        have hsm : ∀ a ∈ acts, Jn.siz a.l ≤ 3000 ∧ a.p.length ≤ 3000 := fun a ha => by
          have := tots_mem ha
          unfold Ac.tot at this; omega
        refine C.skip <| X.next <| C.seq <| C.region <| E.mv rfl rfl <| ?_
        refine E.call rfl rfl (Open_ret p l _ (hM.arg0 hl) (by omega)) ?_
        rintro _ w1 ⟨b0, rfl, vr0, hs0, m0⟩
        have hM := hM.call m0
        try dsimp only [List.nil_append, List.cons_append, List.set_cons_zero, List.set_cons_succ, repl] at hM
        refine E.mv rfl rfl <| E.ext rfl rfl rfl <| E.ext rfl rfl rfl <| E.asg rfl rfl <| E.asg rfl rfl <| E.nil <| X.next <| C.seq <| C.region <| E.mv rfl rfl <| ?_
        refine E.call rfl rfl (rOpen_ret p l _ (hM.arg0 hl) (by omega)) ?_
        rintro _ w2 ⟨rfl, x2⟩
        have hM := hM.ext x2
        have hX0 : ∀ w2, Ext w w2 → Rg.emp.ok w2 → RdL u8 w2 (partV p 0 (Jn.siz (Jn.recs 65536 l))) (Jn.encs (Jn.recs 65536 l)) := fun w2 x _ => by
          have := (hl.ext x).partV (a := 0) (b := Jn.siz (Jn.recs 65536 l)) (by omega) (Jn.encs_recs 65536 l).2
          rw [cut_take, encs_take] at this; exact this
        obtain ⟨x55, hx55⟩ := shape_hd (hX0 _ hM.toExt trivial)
        rw [hx55] at hX0 ⊢
        try dsimp only [List.nil_append, List.cons_append, List.set_cons_zero, List.set_cons_succ, repl] at hM
        refine E.mv rfl rfl <| E.ext rfl rfl rfl <| E.ext rfl rfl rfl <| ?_
        refine E.allocM (z := .agg #[.slice none 0 0]) (cs := [.slice none 0 0]) hM (by kernel_rfl) rfl rfl ?_
        intro b9 w6 hM
        try dsimp only [List.nil_append, List.cons_append, List.set_cons_zero, List.set_cons_succ, repl] at hM
        first
          | refine E.storeAM 0 hM rfl rfl rfl (by kernel_rfl) rfl ?_ ?_
          | refine E.storeAM 1 hM rfl rfl rfl (by kernel_rfl) rfl ?_ ?_
          | refine E.storeAM 2 hM rfl rfl rfl (by kernel_rfl) rfl ?_ ?_
          | refine E.storeAM 3 hM rfl rfl rfl (by kernel_rfl) rfl ?_ ?_
          | refine E.storeAM 4 hM rfl rfl rfl (by kernel_rfl) rfl ?_ ?_
          | refine E.storeAM 5 hM rfl rfl rfl (by kernel_rfl) rfl ?_ ?_
          | refine E.storeAM 6 hM rfl rfl rfl (by kernel_rfl) rfl ?_ ?_
          | refine E.storeAM 7 hM rfl rfl rfl (by kernel_rfl) rfl ?_ ?_
          | refine E.storeAM 8 hM rfl rfl rfl (by kernel_rfl) rfl ?_ ?_
        · exact ones (by first | rfl | exact (hM.sl 0 rfl).one | exact (hM.sl 1 rfl).one | exact (hM.sl 2 rfl).one | exact (hM.sl 3 rfl).one | exact (hM.sl 4 rfl).one | exact (hM.sl 5 rfl).one | exact (hM.sl 6 rfl).one | exact (hM.sl 7 rfl).one | exact (hM.sl 8 rfl).one | exact (hM.slF 0 rfl).one | exact (hM.slF 1 rfl).one | exact (hM.slF 2 rfl).one | exact (hM.slF 3 rfl).one | exact (hM.slF 4 rfl).one | exact (hM.slF 5 rfl).one | exact (hM.slF 6 rfl).one | exact (hM.slF 7 rfl).one | exact (hM.slF 8 rfl).one | exact RdL.one (by assumption) | exact RdF.one (by assumption) | assumption) <| ones_nil
        intro w7 hM
        try dsimp only [List.nil_append, List.cons_append, List.set_cons_zero, List.set_cons_succ, repl] at hM
        refine E.asg rfl rfl <| E.nil <| X.next <| C.seq <| ?_

        refine C.chainE [(1, _), (7, _), (8, _), (9, _), (10, _)] rfl [(67, .bool (decide False))] ?_ ?_
        ·
          refine C.region <| E.mv rfl rfl <| E.bin rfl rfl rfl rfl <| E.mv rfl rfl <| ?_
          refine E.split 60 rfl (fun g60 => ?_) (fun g60 => ?_)
          ·
            try simp only [decide_eq_true_eq, decide_eq_false_iff_not, ne_eq, Decidable.not_not, Bool.not_eq_true', Bool.not_eq_false'] at g60
            exact absurd g60 (by first | decide | (simp; done))
          ·
            try simp only [decide_eq_true_eq, decide_eq_false_iff_not, ne_eq, Decidable.not_not, Bool.not_eq_true', Bool.not_eq_false'] at g60
            refine E.on rfl rfl (E.mv rfl rfl ?_)
            refine E.on rfl rfl (E.bin rfl rfl rfl rfl ?_)
            refine E.pick rfl rfl rfl <| E.mv rfl rfl <| ?_
            refine E.split 64 rfl (fun g64 => ?_) (fun g64 => ?_)
            ·
              try simp only [decide_eq_true_eq, decide_eq_false_iff_not, ne_eq, Decidable.not_not, Bool.not_eq_true', Bool.not_eq_false'] at g64
              exact absurd g64 (by first | decide | (simp; done))
            ·
              try simp only [decide_eq_true_eq, decide_eq_false_iff_not, ne_eq, Decidable.not_not, Bool.not_eq_true', Bool.not_eq_false'] at g64
              refine E.on rfl rfl (E.mv rfl rfl ?_)
              refine E.on rfl rfl (E.eqnil rfl rfl Try.underlying33 rfl ?_)
              refine E.pick rfl rfl rfl <| E.nil <| X.join0 (Sub.cons (by (first | exact leaf_f (by omega) | exact leaf_t (by omega) | exact leaf_d (by omega) | exact leaf_f (by first | (simp [*] <;> fail) | omega) | exact leaf_t (by first | (simp [*] <;> fail) | omega) | exact leaf_d (by first | (simp [*] <;> fail) | omega) | exact leaf_f (by (first | omega | ((try simp only [decide_eq_true_eq, decide_eq_false_iff_not, Bool.not_eq_true', Bool.not_eq_false'] at *); first | omega | (simp_all <;> fail) | (simp_all; omega)))) | exact leaf_t (by (first | omega | ((try simp only [decide_eq_true_eq, decide_eq_false_iff_not, Bool.not_eq_true', Bool.not_eq_false'] at *); first | omega | (simp_all <;> fail) | (simp_all; omega)))) | exact leaf_d (by (first | omega | ((try simp only [decide_eq_true_eq, decide_eq_false_iff_not, Bool.not_eq_true', Bool.not_eq_false'] at *); first | omega | (simp_all <;> fail) | (simp_all; omega)))))) <| Sub.nil _) rfl rfl
        refine C.cond' rfl (fun hC3 => ?_) (fun hC3 => ?_)
        ·
          refine C.seq <| C.region <| E.asg rfl rfl <| E.nil <| X.next <| C.ret <| X.retT <| ret1 rfl rfl ?_
          exact hC3.elim
        ·
          refine C.skip <| X.next <| C.seq <| C.seq <| C.region <| E.mv rfl rfl <| ?_
          refine E.lenv rfl (RdF.shape (hM.argF0 hA)) Try.underlying43 rfl ?_
          refine E.mv rfl rfl <| E.nil <| X.next <| C.block <| ?_
          have hM : M w Nn _ [jb b0 0 vr0 (Jn.siz (Jn.recs 65536 l)), Rg.sl slv 22 vr0 hs0, Rg.bag hs0 (Jn.recs 65536 l), Rg.blk b9 47 [slv x55], Rg.emp] := hM.new (Ext.refl _) (r := Rg.emp) trivial (fun _ h => h.elim)

          refine C.loop8 [(1, _), (9, _), (69, _)] rfl (fun (i : Nat) (b : Nat) (vr : Value) (hs : (List Hd)) (ls : LL) (vB : Value) (rx : Rg) (e : Int) => [(7, jp b), (8, i64 e), (10, i64 e), (70, i64 i)]) (fun (i : Nat) (b : Nat) (vr : Value) (hs : (List Hd)) (ls : LL) (vB : Value) (rx : Rg) (e : Int) w' => M w (Nn) w' [jb b 0 vr (Jn.siz ls), Rg.sl slv 22 vr hs, Rg.bag hs ls, Rg.blk b9 47 [vB], rx] ∧ Jok ls ∧ (∀ w2, Ext w w2 → rx.ok w2 → RdL u8 w2 vB (Jn.encs ls)) ∧ i ≤ acts.length) (fun (i : Nat) (b : Nat) (vr : Value) (hs : (List Hd)) (ls : LL) (vB : Value) (rx : Rg) (e : Int) => acts.length - i) 0 b0 vr0 hs0 (Jn.recs 65536 l) (slv x55) Rg.emp 0 ?_ ?_ ?_
          · exact Sub.cons rfl <| Sub.cons rfl <| Sub.cons rfl <| Sub.cons rfl <| Sub.nil _
          · exact ⟨hM, jok_recs (by omega), hX0, Nat.zero_le _⟩
          rintro i b vr hs ls vB rx e w8 ⟨hM, hok, hX, hi⟩
          refine C.seq <| C.region <| E.bin rfl rfl rfl rfl <| E.nil <| X.next <| C.seq <| ?_
          refine C.cond' rfl (fun hC4 => ?_) (fun hC4 => ?_)
          ·
            have hi' : i < acts.length := by omega
            obtain ⟨hAp, hAl, hAb⟩ := hF acts[i] (List.getElem_mem hi')
            obtain ⟨hs3, hs4⟩ := hsm acts[i] (List.getElem_mem hi')
            have hel := Jn.encs_len ls
            refine C.skip <| X.next <| C.seq <| C.block <| C.seq <| C.region <| E.mv rfl rfl <| E.asg rfl rfl <| E.nil <| X.next <| ?_

            refine C.cut7 [(1, _), (9, _), (69, _), (70, _)] rfl (fun (b : Nat) (vr : Value) (hs : (List Hd)) (ls : LL) (vB : Value) (rx : Rg) (e : Int) => [(7, jp b), (8, i64 e), (10, i64 e)]) (fun (b : Nat) (vr : Value) (hs : (List Hd)) (ls : LL) (vB : Value) (rx : Rg) (e : Int) w' => M w (Nn) w' [jb b 0 vr (Jn.siz ls), Rg.sl slv 22 vr hs, Rg.bag hs ls, Rg.blk b9 47 [vB], rx] ∧ Jok ls ∧ (∀ w2, Ext w w2 → rx.ok w2 → RdL u8 w2 vB (Jn.encs ls))) ?_ ?_
            ·
              refine C.seq <| C.region <| E.mv rfl rfl <| E.mv rfl rfl <| ?_
              refine E.idxF (k := _) rfl rfl (by first | exact hM.slF 0 rfl | exact hM.slF 1 rfl | exact hM.slF 2 rfl | exact hM.slF 3 rfl | exact hM.slF 4 rfl | exact hM.slF 5 rfl | exact hM.slF 6 rfl | exact hM.slF 7 rfl | exact hM.slF 8 rfl | exact hM.argF0 (by assumption) | exact hM.argF (by assumption) (by assumption) | assumption) rfl (by first | omega | (simp only [List.length_replicate, List.length_append, List.length_set, List.length_cons, List.length_nil, List.length_map, List.length_range, List.length_take, List.length_drop, List.length_zipWith] at *; omega)) (by decide) Try.underlying43 (by kernel_rfl) rfl ?_
              refine E.fld (o := 0) (sz := 0) rfl Try.underlying45 rfl rfl (by kernel_rfl) rfl ?_
              refine E.load rfl Try.underlying3 rfl (by first | exact (hM.slF 0 rfl).atA rfl (by first | omega | (simp only [List.length_replicate, List.length_append, List.length_set, List.length_cons, List.length_nil, List.length_map, List.length_range, List.length_take, List.length_drop, List.length_zipWith] at *; omega)) rfl | exact (hM.slF 1 rfl).atA rfl (by first | omega | (simp only [List.length_replicate, List.length_append, List.length_set, List.length_cons, List.length_nil, List.length_map, List.length_range, List.length_take, List.length_drop, List.length_zipWith] at *; omega)) rfl | exact (hM.slF 2 rfl).atA rfl (by first | omega | (simp only [List.length_replicate, List.length_append, List.length_set, List.length_cons, List.length_nil, List.length_map, List.length_range, List.length_take, List.length_drop, List.length_zipWith] at *; omega)) rfl | exact (hM.slF 3 rfl).atA rfl (by first | omega | (simp only [List.length_replicate, List.length_append, List.length_set, List.length_cons, List.length_nil, List.length_map, List.length_range, List.length_take, List.length_drop, List.length_zipWith] at *; omega)) rfl | exact (hM.slF 4 rfl).atA rfl (by first | omega | (simp only [List.length_replicate, List.length_append, List.length_set, List.length_cons, List.length_nil, List.length_map, List.length_range, List.length_take, List.length_drop, List.length_zipWith] at *; omega)) rfl | exact (hM.slF 5 rfl).atA rfl (by first | omega | (simp only [List.length_replicate, List.length_append, List.length_set, List.length_cons, List.length_nil, List.length_map, List.length_range, List.length_take, List.length_drop, List.length_zipWith] at *; omega)) rfl | exact (hM.slF 6 rfl).atA rfl (by first | omega | (simp only [List.length_replicate, List.length_append, List.length_set, List.length_cons, List.length_nil, List.length_map, List.length_range, List.length_take, List.length_drop, List.length_zipWith] at *; omega)) rfl | exact (hM.slF 7 rfl).atA rfl (by first | omega | (simp only [List.length_replicate, List.length_append, List.length_set, List.length_cons, List.length_nil, List.length_map, List.length_range, List.length_take, List.length_drop, List.length_zipWith] at *; omega)) rfl | exact (hM.slF 8 rfl).atA rfl (by first | omega | (simp only [List.length_replicate, List.length_append, List.length_set, List.length_cons, List.length_nil, List.length_map, List.length_range, List.length_take, List.length_drop, List.length_zipWith] at *; omega)) rfl | exact (hM.argF0 (by assumption)).atA rfl (by first | omega | (simp only [List.length_replicate, List.length_append, List.length_set, List.length_cons, List.length_nil, List.length_map, List.length_range, List.length_take, List.length_drop, List.length_zipWith] at *; omega)) rfl | exact (hM.argF (by assumption) (by assumption)).atA rfl (by first | omega | (simp only [List.length_replicate, List.length_append, List.length_set, List.length_cons, List.length_nil, List.length_map, List.length_range, List.length_take, List.length_drop, List.length_zipWith] at *; omega)) rfl) rfl ?_
              refine E.nil <| X.next <| C.block <| C.seq <| C.region <| E.bin rfl rfl rfl rfl <| E.asg rfl rfl <| E.nil <| X.next <| ?_
              refine C.cond rfl (fun hC5 => ?_) (fun hC5 => ?_)
              ·
                refine C.seq <| C.region <| E.mv rfl rfl <| E.mv rfl rfl <| E.mv rfl rfl <| ?_
                refine E.idxF (k := _) rfl rfl (by first | exact hM.slF 0 rfl | exact hM.slF 1 rfl | exact hM.slF 2 rfl | exact hM.slF 3 rfl | exact hM.slF 4 rfl | exact hM.slF 5 rfl | exact hM.slF 6 rfl | exact hM.slF 7 rfl | exact hM.slF 8 rfl | exact hM.argF0 (by assumption) | exact hM.argF (by assumption) (by assumption) | assumption) rfl (by first | omega | (simp only [List.length_replicate, List.length_append, List.length_set, List.length_cons, List.length_nil, List.length_map, List.length_range, List.length_take, List.length_drop, List.length_zipWith] at *; omega)) (by decide) Try.underlying43 (by kernel_rfl) rfl ?_
                refine E.fld (o := 2) (sz := 0) rfl Try.underlying45 rfl rfl (by kernel_rfl) rfl ?_
                refine E.load rfl Try.underlying22 rfl (by first | exact (hM.slF 0 rfl).atA rfl (by first | omega | (simp only [List.length_replicate, List.length_append, List.length_set, List.length_cons, List.length_nil, List.length_map, List.length_range, List.length_take, List.length_drop, List.length_zipWith] at *; omega)) rfl | exact (hM.slF 1 rfl).atA rfl (by first | omega | (simp only [List.length_replicate, List.length_append, List.length_set, List.length_cons, List.length_nil, List.length_map, List.length_range, List.length_take, List.length_drop, List.length_zipWith] at *; omega)) rfl | exact (hM.slF 2 rfl).atA rfl (by first | omega | (simp only [List.length_replicate, List.length_append, List.length_set, List.length_cons, List.length_nil, List.length_map, List.length_range, List.length_take, List.length_drop, List.length_zipWith] at *; omega)) rfl | exact (hM.slF 3 rfl).atA rfl (by first | omega | (simp only [List.length_replicate, List.length_append, List.length_set, List.length_cons, List.length_nil, List.length_map, List.length_range, List.length_take, List.length_drop, List.length_zipWith] at *; omega)) rfl | exact (hM.slF 4 rfl).atA rfl (by first | omega | (simp only [List.length_replicate, List.length_append, List.length_set, List.length_cons, List.length_nil, List.length_map, List.length_range, List.length_take, List.length_drop, List.length_zipWith] at *; omega)) rfl | exact (hM.slF 5 rfl).atA rfl (by first | omega | (simp only [List.length_replicate, List.length_append, List.length_set, List.length_cons, List.length_nil, List.length_map, List.length_range, List.length_take, List.length_drop, List.length_zipWith] at *; omega)) rfl | exact (hM.slF 6 rfl).atA rfl (by first | omega | (simp only [List.length_replicate, List.length_append, List.length_set, List.length_cons, List.length_nil, List.length_map, List.length_range, List.length_take, List.length_drop, List.length_zipWith] at *; omega)) rfl | exact (hM.slF 7 rfl).atA rfl (by first | omega | (simp only [List.length_replicate, List.length_append, List.length_set, List.length_cons, List.length_nil, List.length_map, List.length_range, List.length_take, List.length_drop, List.length_zipWith] at *; omega)) rfl | exact (hM.slF 8 rfl).atA rfl (by first | omega | (simp only [List.length_replicate, List.length_append, List.length_set, List.length_cons, List.length_nil, List.length_map, List.length_range, List.length_take, List.length_drop, List.length_zipWith] at *; omega)) rfl | exact (hM.argF0 (by assumption)).atA rfl (by first | omega | (simp only [List.length_replicate, List.length_append, List.length_set, List.length_cons, List.length_nil, List.length_map, List.length_range, List.length_take, List.length_drop, List.length_zipWith] at *; omega)) rfl | exact (hM.argF (by assumption) (by assumption)).atA rfl (by first | omega | (simp only [List.length_replicate, List.length_append, List.length_set, List.length_cons, List.length_nil, List.length_map, List.length_range, List.length_take, List.length_drop, List.length_zipWith] at *; omega)) rfl) rfl ?_
                refine E.call rfl rfl (Append_ret b vr hs ls _ acts[i].p _ (hM.pick [0, 1, 2] (by decide)).sep hok (hM.stb0 [0, 1, 2] rfl (fun w' x => hAp.ext x))) ?_
                rintro _ wb ⟨e2, ls2, rfl, hsp2, vr2, hs2, m2⟩
                have hM := hM.calls [0, 1, 2] (by decide) rfl (by simp) m2
                have hok2 := hsp2.ok hok
                try dsimp only [List.nil_append, List.cons_append, List.set_cons_zero, List.set_cons_succ, repl] at hM
                refine E.asg rfl rfl <| E.nil <| X.next <| C.heldM hM [0, 1, 2] (by decide) (by kernel_rfl) fun wh10 hM hS => ?_
                refine H.take 1 rfl rfl (by kernel_rfl) (by kernel_rfl) (by kernel_rfl) hS (fun w' hM => Y.mv rfl) rfl ?_
                refine H.take 2 rfl rfl (by kernel_rfl) (by kernel_rfl) (by kernel_rfl) hS (fun w' hM => Y.mv rfl) rfl ?_
                refine H.takeV 3 rfl rfl (by kernel_rfl) (by kernel_rfl) (by kernel_rfl) hS (Y.idxF (k := _) rfl rfl (by first | exact hS.slF 0 rfl | exact hS.slF 1 rfl | exact hS.slF 2 rfl | exact hS.slF 3 rfl | exact hS.slF 4 rfl | exact hS.slF 5 rfl | exact hS.slF 6 rfl | exact hS.slF 7 rfl | exact hS.slF 8 rfl | exact hS.argF0 (by assumption) | exact hS.argF (by assumption) (by assumption) | assumption) rfl (by first | omega | (simp only [List.length_replicate, List.length_append, List.length_set, List.length_cons, List.length_nil, List.length_map, List.length_range, List.length_take, List.length_drop, List.length_zipWith] at *; omega)) (by decide) Try.underlying43 (by kernel_rfl)) (fun w' hM => Y.idxF (k := _) rfl rfl (by first | exact hM.slF 0 rfl | exact hM.slF 1 rfl | exact hM.slF 2 rfl | exact hM.slF 3 rfl | exact hM.slF 4 rfl | exact hM.slF 5 rfl | exact hM.slF 6 rfl | exact hM.slF 7 rfl | exact hM.slF 8 rfl | exact hM.argF0 (by assumption) | exact hM.argF (by assumption) (by assumption) | assumption) rfl (by first | omega | (simp only [List.length_replicate, List.length_append, List.length_set, List.length_cons, List.length_nil, List.length_map, List.length_range, List.length_take, List.length_drop, List.length_zipWith] at *; omega)) (by decide) Try.underlying43 (by kernel_rfl)) rfl ?_
                refine H.takeV 4 rfl rfl (by kernel_rfl) (by kernel_rfl) (by kernel_rfl) hS (Y.fld (o := 2) (sz := 0) rfl Try.underlying45 rfl rfl (by kernel_rfl)) (fun w' hM => Y.fld (o := 2) (sz := 0) rfl Try.underlying45 rfl rfl (by kernel_rfl)) rfl ?_
                refine H.takeV 5 rfl rfl (by kernel_rfl) (by kernel_rfl) (by kernel_rfl) hS (Y.load rfl Try.underlying22 rfl (by first | exact (hS.slF 0 rfl).atA rfl (by first | omega | (simp only [List.length_replicate, List.length_append, List.length_set, List.length_cons, List.length_nil, List.length_map, List.length_range, List.length_take, List.length_drop, List.length_zipWith] at *; omega)) rfl | exact (hS.slF 1 rfl).atA rfl (by first | omega | (simp only [List.length_replicate, List.length_append, List.length_set, List.length_cons, List.length_nil, List.length_map, List.length_range, List.length_take, List.length_drop, List.length_zipWith] at *; omega)) rfl | exact (hS.slF 2 rfl).atA rfl (by first | omega | (simp only [List.length_replicate, List.length_append, List.length_set, List.length_cons, List.length_nil, List.length_map, List.length_range, List.length_take, List.length_drop, List.length_zipWith] at *; omega)) rfl | exact (hS.slF 3 rfl).atA rfl (by first | omega | (simp only [List.length_replicate, List.length_append, List.length_set, List.length_cons, List.length_nil, List.length_map, List.length_range, List.length_take, List.length_drop, List.length_zipWith] at *; omega)) rfl | exact (hS.slF 4 rfl).atA rfl (by first | omega | (simp only [List.length_replicate, List.length_append, List.length_set, List.length_cons, List.length_nil, List.length_map, List.length_range, List.length_take, List.length_drop, List.length_zipWith] at *; omega)) rfl | exact (hS.slF 5 rfl).atA rfl (by first | omega | (simp only [List.length_replicate, List.length_append, List.length_set, List.length_cons, List.length_nil, List.length_map, List.length_range, List.length_take, List.length_drop, List.length_zipWith] at *; omega)) rfl | exact (hS.slF 6 rfl).atA rfl (by first | omega | (simp only [List.length_replicate, List.length_append, List.length_set, List.length_cons, List.length_nil, List.length_map, List.length_range, List.length_take, List.length_drop, List.length_zipWith] at *; omega)) rfl | exact (hS.slF 7 rfl).atA rfl (by first | omega | (simp only [List.length_replicate, List.length_append, List.length_set, List.length_cons, List.length_nil, List.length_map, List.length_range, List.length_take, List.length_drop, List.length_zipWith] at *; omega)) rfl | exact (hS.slF 8 rfl).atA rfl (by first | omega | (simp only [List.length_replicate, List.length_append, List.length_set, List.length_cons, List.length_nil, List.length_map, List.length_range, List.length_take, List.length_drop, List.length_zipWith] at *; omega)) rfl | exact (hS.argF0 (by assumption)).atA rfl (by first | omega | (simp only [List.length_replicate, List.length_append, List.length_set, List.length_cons, List.length_nil, List.length_map, List.length_range, List.length_take, List.length_drop, List.length_zipWith] at *; omega)) rfl | exact (hS.argF (by assumption) (by assumption)).atA rfl (by first | omega | (simp only [List.length_replicate, List.length_append, List.length_set, List.length_cons, List.length_nil, List.length_map, List.length_range, List.length_take, List.length_drop, List.length_zipWith] at *; omega)) rfl)) (fun w' hM => Y.load rfl Try.underlying22 rfl (by first | exact (hM.slF 0 rfl).atA rfl (by first | omega | (simp only [List.length_replicate, List.length_append, List.length_set, List.length_cons, List.length_nil, List.length_map, List.length_range, List.length_take, List.length_drop, List.length_zipWith] at *; omega)) rfl | exact (hM.slF 1 rfl).atA rfl (by first | omega | (simp only [List.length_replicate, List.length_append, List.length_set, List.length_cons, List.length_nil, List.length_map, List.length_range, List.length_take, List.length_drop, List.length_zipWith] at *; omega)) rfl | exact (hM.slF 2 rfl).atA rfl (by first | omega | (simp only [List.length_replicate, List.length_append, List.length_set, List.length_cons, List.length_nil, List.length_map, List.length_range, List.length_take, List.length_drop, List.length_zipWith] at *; omega)) rfl | exact (hM.slF 3 rfl).atA rfl (by first | omega | (simp only [List.length_replicate, List.length_append, List.length_set, List.length_cons, List.length_nil, List.length_map, List.length_range, List.length_take, List.length_drop, List.length_zipWith] at *; omega)) rfl | exact (hM.slF 4 rfl).atA rfl (by first | omega | (simp only [List.length_replicate, List.length_append, List.length_set, List.length_cons, List.length_nil, List.length_map, List.length_range, List.length_take, List.length_drop, List.length_zipWith] at *; omega)) rfl | exact (hM.slF 5 rfl).atA rfl (by first | omega | (simp only [List.length_replicate, List.length_append, List.length_set, List.length_cons, List.length_nil, List.length_map, List.length_range, List.length_take, List.length_drop, List.length_zipWith] at *; omega)) rfl | exact (hM.slF 6 rfl).atA rfl (by first | omega | (simp only [List.length_replicate, List.length_append, List.length_set, List.length_cons, List.length_nil, List.length_map, List.length_range, List.length_take, List.length_drop, List.length_zipWith] at *; omega)) rfl | exact (hM.slF 7 rfl).atA rfl (by first | omega | (simp only [List.length_replicate, List.length_append, List.length_set, List.length_cons, List.length_nil, List.length_map, List.length_range, List.length_take, List.length_drop, List.length_zipWith] at *; omega)) rfl | exact (hM.slF 8 rfl).atA rfl (by first | omega | (simp only [List.length_replicate, List.length_append, List.length_set, List.length_cons, List.length_nil, List.length_map, List.length_range, List.length_take, List.length_drop, List.length_zipWith] at *; omega)) rfl | exact (hM.argF0 (by assumption)).atA rfl (by first | omega | (simp only [List.length_replicate, List.length_append, List.length_set, List.length_cons, List.length_nil, List.length_map, List.length_range, List.length_take, List.length_drop, List.length_zipWith] at *; omega)) rfl | exact (hM.argF (by assumption) (by assumption)).atA rfl (by first | omega | (simp only [List.length_replicate, List.length_append, List.length_set, List.length_cons, List.length_nil, List.length_map, List.length_range, List.length_take, List.length_drop, List.length_zipWith] at *; omega)) rfl)) rfl ?_
                refine H.only 0 rfl (by kernel_rfl) ?_
                refine E.loadA rfl Try.underlying47 rfl (by kernel_rfl) (by first | exact hM.bat 0 rfl | exact hM.bat 1 rfl | exact hM.bat 2 rfl | exact hM.bat 3 rfl | exact hM.bat 4 rfl | exact hM.bat 5 rfl | exact hM.bat 6 rfl | exact hM.bat 7 rfl | exact hM.bat 8 rfl) rfl ?_
                have hS := hM.pick [0, 1, 2] (by decide)
                refine H.back hS ?_
                refine H.only 6 rfl (by kernel_rfl) ?_
                refine E.call rfl rfl (rAppend_ret vB ls _ acts[i].p _ (hX _ hM.toExt (hM.ok (i := 4) rfl)) hok (hAp.ext hM.toExt)) ?_
                rintro _ wc ⟨vB3, e3, ls3, rfl, hsp3, h3⟩
                obtain ⟨rfl, rfl⟩ := hsp2.det hsp3
                obtain ⟨rx3, hM, hX3⟩ := upd hM hX h3
                have hR3 := hX3 _ hM.toExt (hM.ok (i := 4) rfl)
                try dsimp only [List.nil_append, List.cons_append, List.set_cons_zero, List.set_cons_succ, repl] at hM
                have hS := hM.pick [0, 1, 2] (by decide)
                refine H.back hS ?_
                refine H.take 7 rfl rfl (by kernel_rfl) (by kernel_rfl) (by kernel_rfl) hS (fun w' hM => Y.mv rfl) rfl ?_
                refine H.take 8 rfl rfl (by kernel_rfl) (by kernel_rfl) (by kernel_rfl) hS (fun w' hM => Y.ext rfl rfl) rfl ?_
                refine H.take 9 rfl rfl (by kernel_rfl) (by kernel_rfl) (by kernel_rfl) hS (fun w' hM => Y.ext rfl rfl) rfl ?_
                refine H.only 10 rfl (by kernel_rfl) ?_
                first
                  | refine E.storeAM 0 hM rfl rfl rfl (by kernel_rfl) rfl ?_ ?_
                  | refine E.storeAM 1 hM rfl rfl rfl (by kernel_rfl) rfl ?_ ?_
                  | refine E.storeAM 2 hM rfl rfl rfl (by kernel_rfl) rfl ?_ ?_
                  | refine E.storeAM 3 hM rfl rfl rfl (by kernel_rfl) rfl ?_ ?_
                  | refine E.storeAM 4 hM rfl rfl rfl (by kernel_rfl) rfl ?_ ?_
                  | refine E.storeAM 5 hM rfl rfl rfl (by kernel_rfl) rfl ?_ ?_
                  | refine E.storeAM 6 hM rfl rfl rfl (by kernel_rfl) rfl ?_ ?_
                  | refine E.storeAM 7 hM rfl rfl rfl (by kernel_rfl) rfl ?_ ?_
                  | refine E.storeAM 8 hM rfl rfl rfl (by kernel_rfl) rfl ?_ ?_
                · exact ones (by first | rfl | exact (hM.sl 0 rfl).one | exact (hM.sl 1 rfl).one | exact (hM.sl 2 rfl).one | exact (hM.sl 3 rfl).one | exact (hM.sl 4 rfl).one | exact (hM.sl 5 rfl).one | exact (hM.sl 6 rfl).one | exact (hM.sl 7 rfl).one | exact (hM.sl 8 rfl).one | exact (hM.slF 0 rfl).one | exact (hM.slF 1 rfl).one | exact (hM.slF 2 rfl).one | exact (hM.slF 3 rfl).one | exact (hM.slF 4 rfl).one | exact (hM.slF 5 rfl).one | exact (hM.slF 6 rfl).one | exact (hM.slF 7 rfl).one | exact (hM.slF 8 rfl).one | exact RdL.one (by assumption) | exact RdF.one (by assumption) | assumption) <| ones_nil
                intro w12 hM
                try dsimp only [List.nil_append, List.cons_append, List.set_cons_zero, List.set_cons_succ, repl] at hM
                have hS := hM.pick [0, 1, 2] (by decide)
                refine H.back hS ?_
                refine H.take 11 rfl rfl (by kernel_rfl) (by kernel_rfl) (by kernel_rfl) hS (fun w' hM => Y.asg rfl) rfl ?_
                refine H.done (by kernel_rfl) ?_

                refine X.outN <| X.join7 b vr2 hs2 ls2 vB3 rx3 _ (Sub.cons rfl <| Sub.cons rfl <| Sub.cons rfl <| Sub.nil _) rfl ⟨hM, hok2, hX3⟩
              ·
                refine C.seq <| C.region <| E.bin rfl rfl rfl rfl <| E.asg rfl rfl <| E.nil <| X.next <| ?_
                refine C.cond rfl (fun hC6 => ?_) (fun hC6 => ?_)
                ·
                  refine C.seq <| C.region <| E.mv rfl rfl <| E.mv rfl rfl <| E.mv rfl rfl <| ?_
                  refine E.idxF (k := _) rfl rfl (by first | exact hM.slF 0 rfl | exact hM.slF 1 rfl | exact hM.slF 2 rfl | exact hM.slF 3 rfl | exact hM.slF 4 rfl | exact hM.slF 5 rfl | exact hM.slF 6 rfl | exact hM.slF 7 rfl | exact hM.slF 8 rfl | exact hM.argF0 (by assumption) | exact hM.argF (by assumption) (by assumption) | assumption) rfl (by first | omega | (simp only [List.length_replicate, List.length_append, List.length_set, List.length_cons, List.length_nil, List.length_map, List.length_range, List.length_take, List.length_drop, List.length_zipWith] at *; omega)) (by decide) Try.underlying43 (by kernel_rfl) rfl ?_
                  refine E.fld (o := 1) (sz := 0) rfl Try.underlying45 rfl rfl (by kernel_rfl) rfl ?_
                  refine E.load rfl Try.underlying3 rfl (by first | exact (hM.slF 0 rfl).atA rfl (by first | omega | (simp only [List.length_replicate, List.length_append, List.length_set, List.length_cons, List.length_nil, List.length_map, List.length_range, List.length_take, List.length_drop, List.length_zipWith] at *; omega)) rfl | exact (hM.slF 1 rfl).atA rfl (by first | omega | (simp only [List.length_replicate, List.length_append, List.length_set, List.length_cons, List.length_nil, List.length_map, List.length_range, List.length_take, List.length_drop, List.length_zipWith] at *; omega)) rfl | exact (hM.slF 2 rfl).atA rfl (by first | omega | (simp only [List.length_replicate, List.length_append, List.length_set, List.length_cons, List.length_nil, List.length_map, List.length_range, List.length_take, List.length_drop, List.length_zipWith] at *; omega)) rfl | exact (hM.slF 3 rfl).atA rfl (by first | omega | (simp only [List.length_replicate, List.length_append, List.length_set, List.length_cons, List.length_nil, List.length_map, List.length_range, List.length_take, List.length_drop, List.length_zipWith] at *; omega)) rfl | exact (hM.slF 4 rfl).atA rfl (by first | omega | (simp only [List.length_replicate, List.length_append, List.length_set, List.length_cons, List.length_nil, List.length_map, List.length_range, List.length_take, List.length_drop, List.length_zipWith] at *; omega)) rfl | exact (hM.slF 5 rfl).atA rfl (by first | omega | (simp only [List.length_replicate, List.length_append, List.length_set, List.length_cons, List.length_nil, List.length_map, List.length_range, List.length_take, List.length_drop, List.length_zipWith] at *; omega)) rfl | exact (hM.slF 6 rfl).atA rfl (by first | omega | (simp only [List.length_replicate, List.length_append, List.length_set, List.length_cons, List.length_nil, List.length_map, List.length_range, List.length_take, List.length_drop, List.length_zipWith] at *; omega)) rfl | exact (hM.slF 7 rfl).atA rfl (by first | omega | (simp only [List.length_replicate, List.length_append, List.length_set, List.length_cons, List.length_nil, List.length_map, List.length_range, List.length_take, List.length_drop, List.length_zipWith] at *; omega)) rfl | exact (hM.slF 8 rfl).atA rfl (by first | omega | (simp only [List.length_replicate, List.length_append, List.length_set, List.length_cons, List.length_nil, List.length_map, List.length_range, List.length_take, List.length_drop, List.length_zipWith] at *; omega)) rfl | exact (hM.argF0 (by assumption)).atA rfl (by first | omega | (simp only [List.length_replicate, List.length_append, List.length_set, List.length_cons, List.length_nil, List.length_map, List.length_range, List.length_take, List.length_drop, List.length_zipWith] at *; omega)) rfl | exact (hM.argF (by assumption) (by assumption)).atA rfl (by first | omega | (simp only [List.length_replicate, List.length_append, List.length_set, List.length_cons, List.length_nil, List.length_map, List.length_range, List.length_take, List.length_drop, List.length_zipWith] at *; omega)) rfl) rfl ?_
                  refine E.call rfl rfl (Truncate_ret b vr hs ls acts[i].n _ (hM.pick [0, 1, 2] (by decide)).sep hok) ?_
                  rintro _ wb ⟨e2, ls2, rfl, hsp2, vr2, hs2, m2⟩
                  have hM := hM.calls [0, 1, 2] (by decide) rfl (by simp) m2
                  have hok2 := hsp2.ok hok
                  try dsimp only [List.nil_append, List.cons_append, List.set_cons_zero, List.set_cons_succ, repl] at hM
                  refine E.asg rfl rfl <| E.nil <| X.next <| C.heldM hM [0, 1, 2] (by decide) (by kernel_rfl) fun wh14 hM hS => ?_
                  refine H.take 1 rfl rfl (by kernel_rfl) (by kernel_rfl) (by kernel_rfl) hS (fun w' hM => Y.mv rfl) rfl ?_
                  refine H.take 2 rfl rfl (by kernel_rfl) (by kernel_rfl) (by kernel_rfl) hS (fun w' hM => Y.mv rfl) rfl ?_
                  refine H.takeV 3 rfl rfl (by kernel_rfl) (by kernel_rfl) (by kernel_rfl) hS (Y.idxF (k := _) rfl rfl (by first | exact hS.slF 0 rfl | exact hS.slF 1 rfl | exact hS.slF 2 rfl | exact hS.slF 3 rfl | exact hS.slF 4 rfl | exact hS.slF 5 rfl | exact hS.slF 6 rfl | exact hS.slF 7 rfl | exact hS.slF 8 rfl | exact hS.argF0 (by assumption) | exact hS.argF (by assumption) (by assumption) | assumption) rfl (by first | omega | (simp only [List.length_replicate, List.length_append, List.length_set, List.length_cons, List.length_nil, List.length_map, List.length_range, List.length_take, List.length_drop, List.length_zipWith] at *; omega)) (by decide) Try.underlying43 (by kernel_rfl)) (fun w' hM => Y.idxF (k := _) rfl rfl (by first | exact hM.slF 0 rfl | exact hM.slF 1 rfl | exact hM.slF 2 rfl | exact hM.slF 3 rfl | exact hM.slF 4 rfl | exact hM.slF 5 rfl | exact hM.slF 6 rfl | exact hM.slF 7 rfl | exact hM.slF 8 rfl | exact hM.argF0 (by assumption) | exact hM.argF (by assumption) (by assumption) | assumption) rfl (by first | omega | (simp only [List.length_replicate, List.length_append, List.length_set, List.length_cons, List.length_nil, List.length_map, List.length_range, List.length_take, List.length_drop, List.length_zipWith] at *; omega)) (by decide) Try.underlying43 (by kernel_rfl)) rfl ?_
                  refine H.takeV 4 rfl rfl (by kernel_rfl) (by kernel_rfl) (by kernel_rfl) hS (Y.fld (o := 1) (sz := 0) rfl Try.underlying45 rfl rfl (by kernel_rfl)) (fun w' hM => Y.fld (o := 1) (sz := 0) rfl Try.underlying45 rfl rfl (by kernel_rfl)) rfl ?_
                  refine H.takeV 5 rfl rfl (by kernel_rfl) (by kernel_rfl) (by kernel_rfl) hS (Y.load rfl Try.underlying3 rfl (by first | exact (hS.slF 0 rfl).atA rfl (by first | omega | (simp only [List.length_replicate, List.length_append, List.length_set, List.length_cons, List.length_nil, List.length_map, List.length_range, List.length_take, List.length_drop, List.length_zipWith] at *; omega)) rfl | exact (hS.slF 1 rfl).atA rfl (by first | omega | (simp only [List.length_replicate, List.length_append, List.length_set, List.length_cons, List.length_nil, List.length_map, List.length_range, List.length_take, List.length_drop, List.length_zipWith] at *; omega)) rfl | exact (hS.slF 2 rfl).atA rfl (by first | omega | (simp only [List.length_replicate, List.length_append, List.length_set, List.length_cons, List.length_nil, List.length_map, List.length_range, List.length_take, List.length_drop, List.length_zipWith] at *; omega)) rfl | exact (hS.slF 3 rfl).atA rfl (by first | omega | (simp only [List.length_replicate, List.length_append, List.length_set, List.length_cons, List.length_nil, List.length_map, List.length_range, List.length_take, List.length_drop, List.length_zipWith] at *; omega)) rfl | exact (hS.slF 4 rfl).atA rfl (by first | omega | (simp only [List.length_replicate, List.length_append, List.length_set, List.length_cons, List.length_nil, List.length_map, List.length_range, List.length_take, List.length_drop, List.length_zipWith] at *; omega)) rfl | exact (hS.slF 5 rfl).atA rfl (by first | omega | (simp only [List.length_replicate, List.length_append, List.length_set, List.length_cons, List.length_nil, List.length_map, List.length_range, List.length_take, List.length_drop, List.length_zipWith] at *; omega)) rfl | exact (hS.slF 6 rfl).atA rfl (by first | omega | (simp only [List.length_replicate, List.length_append, List.length_set, List.length_cons, List.length_nil, List.length_map, List.length_range, List.length_take, List.length_drop, List.length_zipWith] at *; omega)) rfl | exact (hS.slF 7 rfl).atA rfl (by first | omega | (simp only [List.length_replicate, List.length_append, List.length_set, List.length_cons, List.length_nil, List.length_map, List.length_range, List.length_take, List.length_drop, List.length_zipWith] at *; omega)) rfl | exact (hS.slF 8 rfl).atA rfl (by first | omega | (simp only [List.length_replicate, List.length_append, List.length_set, List.length_cons, List.length_nil, List.length_map, List.length_range, List.length_take, List.length_drop, List.length_zipWith] at *; omega)) rfl | exact (hS.argF0 (by assumption)).atA rfl (by first | omega | (simp only [List.length_replicate, List.length_append, List.length_set, List.length_cons, List.length_nil, List.length_map, List.length_range, List.length_take, List.length_drop, List.length_zipWith] at *; omega)) rfl | exact (hS.argF (by assumption) (by assumption)).atA rfl (by first | omega | (simp only [List.length_replicate, List.length_append, List.length_set, List.length_cons, List.length_nil, List.length_map, List.length_range, List.length_take, List.length_drop, List.length_zipWith] at *; omega)) rfl)) (fun w' hM => Y.load rfl Try.underlying3 rfl (by first | exact (hM.slF 0 rfl).atA rfl (by first | omega | (simp only [List.length_replicate, List.length_append, List.length_set, List.length_cons, List.length_nil, List.length_map, List.length_range, List.length_take, List.length_drop, List.length_zipWith] at *; omega)) rfl | exact (hM.slF 1 rfl).atA rfl (by first | omega | (simp only [List.length_replicate, List.length_append, List.length_set, List.length_cons, List.length_nil, List.length_map, List.length_range, List.length_take, List.length_drop, List.length_zipWith] at *; omega)) rfl | exact (hM.slF 2 rfl).atA rfl (by first | omega | (simp only [List.length_replicate, List.length_append, List.length_set, List.length_cons, List.length_nil, List.length_map, List.length_range, List.length_take, List.length_drop, List.length_zipWith] at *; omega)) rfl | exact (hM.slF 3 rfl).atA rfl (by first | omega | (simp only [List.length_replicate, List.length_append, List.length_set, List.length_cons, List.length_nil, List.length_map, List.length_range, List.length_take, List.length_drop, List.length_zipWith] at *; omega)) rfl | exact (hM.slF 4 rfl).atA rfl (by first | omega | (simp only [List.length_replicate, List.length_append, List.length_set, List.length_cons, List.length_nil, List.length_map, List.length_range, List.length_take, List.length_drop, List.length_zipWith] at *; omega)) rfl | exact (hM.slF 5 rfl).atA rfl (by first | omega | (simp only [List.length_replicate, List.length_append, List.length_set, List.length_cons, List.length_nil, List.length_map, List.length_range, List.length_take, List.length_drop, List.length_zipWith] at *; omega)) rfl | exact (hM.slF 6 rfl).atA rfl (by first | omega | (simp only [List.length_replicate, List.length_append, List.length_set, List.length_cons, List.length_nil, List.length_map, List.length_range, List.length_take, List.length_drop, List.length_zipWith] at *; omega)) rfl | exact (hM.slF 7 rfl).atA rfl (by first | omega | (simp only [List.length_replicate, List.length_append, List.length_set, List.length_cons, List.length_nil, List.length_map, List.length_range, List.length_take, List.length_drop, List.length_zipWith] at *; omega)) rfl | exact (hM.slF 8 rfl).atA rfl (by first | omega | (simp only [List.length_replicate, List.length_append, List.length_set, List.length_cons, List.length_nil, List.length_map, List.length_range, List.length_take, List.length_drop, List.length_zipWith] at *; omega)) rfl | exact (hM.argF0 (by assumption)).atA rfl (by first | omega | (simp only [List.length_replicate, List.length_append, List.length_set, List.length_cons, List.length_nil, List.length_map, List.length_range, List.length_take, List.length_drop, List.length_zipWith] at *; omega)) rfl | exact (hM.argF (by assumption) (by assumption)).atA rfl (by first | omega | (simp only [List.length_replicate, List.length_append, List.length_set, List.length_cons, List.length_nil, List.length_map, List.length_range, List.length_take, List.length_drop, List.length_zipWith] at *; omega)) rfl)) rfl ?_
                  refine H.only 0 rfl (by kernel_rfl) ?_
                  refine E.loadA rfl Try.underlying47 rfl (by kernel_rfl) (by first | exact hM.bat 0 rfl | exact hM.bat 1 rfl | exact hM.bat 2 rfl | exact hM.bat 3 rfl | exact hM.bat 4 rfl | exact hM.bat 5 rfl | exact hM.bat 6 rfl | exact hM.bat 7 rfl | exact hM.bat 8 rfl) rfl ?_
                  have hS := hM.pick [0, 1, 2] (by decide)
                  refine H.back hS ?_
                  refine H.only 6 rfl (by kernel_rfl) ?_
                  refine E.call rfl rfl (rTruncate_ret vB ls acts[i].n _ (hX _ hM.toExt (hM.ok (i := 4) rfl)) hok) ?_
                  rintro _ wc ⟨vB3, e3, ls3, rfl, hsp3, x3, hr3⟩
                  obtain ⟨rfl, rfl⟩ := hsp2.det hsp3
                  have hM := hM.ext x3
                  have hX3 : ∀ w2, Ext w w2 → rx.ok w2 → RdL u8 w2 vB3 (Jn.encs ls2) := fun w2 x h => hr3 w2 (hX w2 x h)
                  have hR3 := hX3 _ hM.toExt (hM.ok (i := 4) rfl)
                  try dsimp only [List.nil_append, List.cons_append, List.set_cons_zero, List.set_cons_succ, repl] at hM
                  have hS := hM.pick [0, 1, 2] (by decide)
                  refine H.back hS ?_
                  refine H.take 7 rfl rfl (by kernel_rfl) (by kernel_rfl) (by kernel_rfl) hS (fun w' hM => Y.mv rfl) rfl ?_
                  refine H.take 8 rfl rfl (by kernel_rfl) (by kernel_rfl) (by kernel_rfl) hS (fun w' hM => Y.ext rfl rfl) rfl ?_
                  refine H.take 9 rfl rfl (by kernel_rfl) (by kernel_rfl) (by kernel_rfl) hS (fun w' hM => Y.ext rfl rfl) rfl ?_
                  refine H.only 10 rfl (by kernel_rfl) ?_
                  first
                    | refine E.storeAM 0 hM rfl rfl rfl (by kernel_rfl) rfl ?_ ?_
                    | refine E.storeAM 1 hM rfl rfl rfl (by kernel_rfl) rfl ?_ ?_
                    | refine E.storeAM 2 hM rfl rfl rfl (by kernel_rfl) rfl ?_ ?_
                    | refine E.storeAM 3 hM rfl rfl rfl (by kernel_rfl) rfl ?_ ?_
                    | refine E.storeAM 4 hM rfl rfl rfl (by kernel_rfl) rfl ?_ ?_
                    | refine E.storeAM 5 hM rfl rfl rfl (by kernel_rfl) rfl ?_ ?_
                    | refine E.storeAM 6 hM rfl rfl rfl (by kernel_rfl) rfl ?_ ?_
                    | refine E.storeAM 7 hM rfl rfl rfl (by kernel_rfl) rfl ?_ ?_
                    | refine E.storeAM 8 hM rfl rfl rfl (by kernel_rfl) rfl ?_ ?_
                  · exact ones (by first | rfl | exact (hM.sl 0 rfl).one | exact (hM.sl 1 rfl).one | exact (hM.sl 2 rfl).one | exact (hM.sl 3 rfl).one | exact (hM.sl 4 rfl).one | exact (hM.sl 5 rfl).one | exact (hM.sl 6 rfl).one | exact (hM.sl 7 rfl).one | exact (hM.sl 8 rfl).one | exact (hM.slF 0 rfl).one | exact (hM.slF 1 rfl).one | exact (hM.slF 2 rfl).one | exact (hM.slF 3 rfl).one | exact (hM.slF 4 rfl).one | exact (hM.slF 5 rfl).one | exact (hM.slF 6 rfl).one | exact (hM.slF 7 rfl).one | exact (hM.slF 8 rfl).one | exact RdL.one (by assumption) | exact RdF.one (by assumption) | assumption) <| ones_nil
                  intro w16 hM
                  try dsimp only [List.nil_append, List.cons_append, List.set_cons_zero, List.set_cons_succ, repl] at hM
                  have hS := hM.pick [0, 1, 2] (by decide)
                  refine H.back hS ?_
                  refine H.take 11 rfl rfl (by kernel_rfl) (by kernel_rfl) (by kernel_rfl) hS (fun w' hM => Y.asg rfl) rfl ?_
                  refine H.done (by kernel_rfl) ?_

                  refine X.outN <| X.join7 b vr2 hs2 ls2 vB3 rx _ (Sub.cons rfl <| Sub.cons rfl <| Sub.cons rfl <| Sub.nil _) rfl ⟨hM, hok2, hX3⟩
                ·
                  refine C.seq <| C.region <| E.bin rfl rfl rfl rfl <| E.asg rfl rfl <| E.nil <| X.next <| ?_
                  refine C.cond rfl (fun hC7 => ?_) (fun hC7 => ?_)
                  ·
                    refine C.seq <| C.region <| E.mv rfl rfl <| E.mv rfl rfl <| E.mv rfl rfl <| ?_
                    refine E.idxF (k := _) rfl rfl (by first | exact hM.slF 0 rfl | exact hM.slF 1 rfl | exact hM.slF 2 rfl | exact hM.slF 3 rfl | exact hM.slF 4 rfl | exact hM.slF 5 rfl | exact hM.slF 6 rfl | exact hM.slF 7 rfl | exact hM.slF 8 rfl | exact hM.argF0 (by assumption) | exact hM.argF (by assumption) (by assumption) | assumption) rfl (by first | omega | (simp only [List.length_replicate, List.length_append, List.length_set, List.length_cons, List.length_nil, List.length_map, List.length_range, List.length_take, List.length_drop, List.length_zipWith] at *; omega)) (by decide) Try.underlying43 (by kernel_rfl) rfl ?_
                    refine E.fld (o := 3) (sz := 0) rfl Try.underlying45 rfl rfl (by kernel_rfl) rfl ?_
                    refine E.load rfl Try.underlying27 rfl (by first | exact (hM.slF 0 rfl).atA rfl (by first | omega | (simp only [List.length_replicate, List.length_append, List.length_set, List.length_cons, List.length_nil, List.length_map, List.length_range, List.length_take, List.length_drop, List.length_zipWith] at *; omega)) rfl | exact (hM.slF 1 rfl).atA rfl (by first | omega | (simp only [List.length_replicate, List.length_append, List.length_set, List.length_cons, List.length_nil, List.length_map, List.length_range, List.length_take, List.length_drop, List.length_zipWith] at *; omega)) rfl | exact (hM.slF 2 rfl).atA rfl (by first | omega | (simp only [List.length_replicate, List.length_append, List.length_set, List.length_cons, List.length_nil, List.length_map, List.length_range, List.length_take, List.length_drop, List.length_zipWith] at *; omega)) rfl | exact (hM.slF 3 rfl).atA rfl (by first | omega | (simp only [List.length_replicate, List.length_append, List.length_set, List.length_cons, List.length_nil, List.length_map, List.length_range, List.length_take, List.length_drop, List.length_zipWith] at *; omega)) rfl | exact (hM.slF 4 rfl).atA rfl (by first | omega | (simp only [List.length_replicate, List.length_append, List.length_set, List.length_cons, List.length_nil, List.length_map, List.length_range, List.length_take, List.length_drop, List.length_zipWith] at *; omega)) rfl | exact (hM.slF 5 rfl).atA rfl (by first | omega | (simp only [List.length_replicate, List.length_append, List.length_set, List.length_cons, List.length_nil, List.length_map, List.length_range, List.length_take, List.length_drop, List.length_zipWith] at *; omega)) rfl | exact (hM.slF 6 rfl).atA rfl (by first | omega | (simp only [List.length_replicate, List.length_append, List.length_set, List.length_cons, List.length_nil, List.length_map, List.length_range, List.length_take, List.length_drop, List.length_zipWith] at *; omega)) rfl | exact (hM.slF 7 rfl).atA rfl (by first | omega | (simp only [List.length_replicate, List.length_append, List.length_set, List.length_cons, List.length_nil, List.length_map, List.length_range, List.length_take, List.length_drop, List.length_zipWith] at *; omega)) rfl | exact (hM.slF 8 rfl).atA rfl (by first | omega | (simp only [List.length_replicate, List.length_append, List.length_set, List.length_cons, List.length_nil, List.length_map, List.length_range, List.length_take, List.length_drop, List.length_zipWith] at *; omega)) rfl | exact (hM.argF0 (by assumption)).atA rfl (by first | omega | (simp only [List.length_replicate, List.length_append, List.length_set, List.length_cons, List.length_nil, List.length_map, List.length_range, List.length_take, List.length_drop, List.length_zipWith] at *; omega)) rfl | exact (hM.argF (by assumption) (by assumption)).atA rfl (by first | omega | (simp only [List.length_replicate, List.length_append, List.length_set, List.length_cons, List.length_nil, List.length_map, List.length_range, List.length_take, List.length_drop, List.length_zipWith] at *; omega)) rfl) rfl ?_
                    refine E.call rfl rfl (Compact_ret b vr hs ls _ acts[i].lhs acts[i].l _ (hM.pick [0, 1, 2] (by decide)).sep hok (hM.stb0 [0, 1, 2] rfl (fun w' x => ⟨hAl.ext x, hAb.ext x⟩)) (by have := (small_le hs3).1; omega)) ?_
                    rintro _ wb ⟨e2, ls2, rfl, hsp2, vr2, hs2, m2⟩
                    have hM := hM.calls [0, 1, 2] (by decide) rfl (by simp) m2
                    have hok2 := hsp2.ok hok
                    obtain ⟨rfl, rfl⟩ := hsp2.fine hs3
                    try dsimp only [List.nil_append, List.cons_append, List.set_cons_zero, List.set_cons_succ, repl] at hM
                    refine E.asg rfl rfl <| E.nil <| X.next <| C.heldM hM [0, 1, 2] (by decide) (by kernel_rfl) fun wh18 hM hS => ?_
                    refine H.take 1 rfl rfl (by kernel_rfl) (by kernel_rfl) (by kernel_rfl) hS (fun w' hM => Y.mv rfl) rfl ?_
                    refine H.take 2 rfl rfl (by kernel_rfl) (by kernel_rfl) (by kernel_rfl) hS (fun w' hM => Y.mv rfl) rfl ?_
                    refine H.takeV 3 rfl rfl (by kernel_rfl) (by kernel_rfl) (by kernel_rfl) hS (Y.idxF (k := _) rfl rfl (by first | exact hS.slF 0 rfl | exact hS.slF 1 rfl | exact hS.slF 2 rfl | exact hS.slF 3 rfl | exact hS.slF 4 rfl | exact hS.slF 5 rfl | exact hS.slF 6 rfl | exact hS.slF 7 rfl | exact hS.slF 8 rfl | exact hS.argF0 (by assumption) | exact hS.argF (by assumption) (by assumption) | assumption) rfl (by first | omega | (simp only [List.length_replicate, List.length_append, List.length_set, List.length_cons, List.length_nil, List.length_map, List.length_range, List.length_take, List.length_drop, List.length_zipWith] at *; omega)) (by decide) Try.underlying43 (by kernel_rfl)) (fun w' hM => Y.idxF (k := _) rfl rfl (by first | exact hM.slF 0 rfl | exact hM.slF 1 rfl | exact hM.slF 2 rfl | exact hM.slF 3 rfl | exact hM.slF 4 rfl | exact hM.slF 5 rfl | exact hM.slF 6 rfl | exact hM.slF 7 rfl | exact hM.slF 8 rfl | exact hM.argF0 (by assumption) | exact hM.argF (by assumption) (by assumption) | assumption) rfl (by first | omega | (simp only [List.length_replicate, List.length_append, List.length_set, List.length_cons, List.length_nil, List.length_map, List.length_range, List.length_take, List.length_drop, List.length_zipWith] at *; omega)) (by decide) Try.underlying43 (by kernel_rfl)) rfl ?_
                    refine H.takeV 4 rfl rfl (by kernel_rfl) (by kernel_rfl) (by kernel_rfl) hS (Y.fld (o := 3) (sz := 0) rfl Try.underlying45 rfl rfl (by kernel_rfl)) (fun w' hM => Y.fld (o := 3) (sz := 0) rfl Try.underlying45 rfl rfl (by kernel_rfl)) rfl ?_
                    refine H.takeV 5 rfl rfl (by kernel_rfl) (by kernel_rfl) (by kernel_rfl) hS (Y.load rfl Try.underlying27 rfl (by first | exact (hS.slF 0 rfl).atA rfl (by first | omega | (simp only [List.length_replicate, List.length_append, List.length_set, List.length_cons, List.length_nil, List.length_map, List.length_range, List.length_take, List.length_drop, List.length_zipWith] at *; omega)) rfl | exact (hS.slF 1 rfl).atA rfl (by first | omega | (simp only [List.length_replicate, List.length_append, List.length_set, List.length_cons, List.length_nil, List.length_map, List.length_range, List.length_take, List.length_drop, List.length_zipWith] at *; omega)) rfl | exact (hS.slF 2 rfl).atA rfl (by first | omega | (simp only [List.length_replicate, List.length_append, List.length_set, List.length_cons, List.length_nil, List.length_map, List.length_range, List.length_take, List.length_drop, List.length_zipWith] at *; omega)) rfl | exact (hS.slF 3 rfl).atA rfl (by first | omega | (simp only [List.length_replicate, List.length_append, List.length_set, List.length_cons, List.length_nil, List.length_map, List.length_range, List.length_take, List.length_drop, List.length_zipWith] at *; omega)) rfl | exact (hS.slF 4 rfl).atA rfl (by first | omega | (simp only [List.length_replicate, List.length_append, List.length_set, List.length_cons, List.length_nil, List.length_map, List.length_range, List.length_take, List.length_drop, List.length_zipWith] at *; omega)) rfl | exact (hS.slF 5 rfl).atA rfl (by first | omega | (simp only [List.length_replicate, List.length_append, List.length_set, List.length_cons, List.length_nil, List.length_map, List.length_range, List.length_take, List.length_drop, List.length_zipWith] at *; omega)) rfl | exact (hS.slF 6 rfl).atA rfl (by first | omega | (simp only [List.length_replicate, List.length_append, List.length_set, List.length_cons, List.length_nil, List.length_map, List.length_range, List.length_take, List.length_drop, List.length_zipWith] at *; omega)) rfl | exact (hS.slF 7 rfl).atA rfl (by first | omega | (simp only [List.length_replicate, List.length_append, List.length_set, List.length_cons, List.length_nil, List.length_map, List.length_range, List.length_take, List.length_drop, List.length_zipWith] at *; omega)) rfl | exact (hS.slF 8 rfl).atA rfl (by first | omega | (simp only [List.length_replicate, List.length_append, List.length_set, List.length_cons, List.length_nil, List.length_map, List.length_range, List.length_take, List.length_drop, List.length_zipWith] at *; omega)) rfl | exact (hS.argF0 (by assumption)).atA rfl (by first | omega | (simp only [List.length_replicate, List.length_append, List.length_set, List.length_cons, List.length_nil, List.length_map, List.length_range, List.length_take, List.length_drop, List.length_zipWith] at *; omega)) rfl | exact (hS.argF (by assumption) (by assumption)).atA rfl (by first | omega | (simp only [List.length_replicate, List.length_append, List.length_set, List.length_cons, List.length_nil, List.length_map, List.length_range, List.length_take, List.length_drop, List.length_zipWith] at *; omega)) rfl)) (fun w' hM => Y.load rfl Try.underlying27 rfl (by first | exact (hM.slF 0 rfl).atA rfl (by first | omega | (simp only [List.length_replicate, List.length_append, List.length_set, List.length_cons, List.length_nil, List.length_map, List.length_range, List.length_take, List.length_drop, List.length_zipWith] at *; omega)) rfl | exact (hM.slF 1 rfl).atA rfl (by first | omega | (simp only [List.length_replicate, List.length_append, List.length_set, List.length_cons, List.length_nil, List.length_map, List.length_range, List.length_take, List.length_drop, List.length_zipWith] at *; omega)) rfl | exact (hM.slF 2 rfl).atA rfl (by first | omega | (simp only [List.length_replicate, List.length_append, List.length_set, List.length_cons, List.length_nil, List.length_map, List.length_range, List.length_take, List.length_drop, List.length_zipWith] at *; omega)) rfl | exact (hM.slF 3 rfl).atA rfl (by first | omega | (simp only [List.length_replicate, List.length_append, List.length_set, List.length_cons, List.length_nil, List.length_map, List.length_range, List.length_take, List.length_drop, List.length_zipWith] at *; omega)) rfl | exact (hM.slF 4 rfl).atA rfl (by first | omega | (simp only [List.length_replicate, List.length_append, List.length_set, List.length_cons, List.length_nil, List.length_map, List.length_range, List.length_take, List.length_drop, List.length_zipWith] at *; omega)) rfl | exact (hM.slF 5 rfl).atA rfl (by first | omega | (simp only [List.length_replicate, List.length_append, List.length_set, List.length_cons, List.length_nil, List.length_map, List.length_range, List.length_take, List.length_drop, List.length_zipWith] at *; omega)) rfl | exact (hM.slF 6 rfl).atA rfl (by first | omega | (simp only [List.length_replicate, List.length_append, List.length_set, List.length_cons, List.length_nil, List.length_map, List.length_range, List.length_take, List.length_drop, List.length_zipWith] at *; omega)) rfl | exact (hM.slF 7 rfl).atA rfl (by first | omega | (simp only [List.length_replicate, List.length_append, List.length_set, List.length_cons, List.length_nil, List.length_map, List.length_range, List.length_take, List.length_drop, List.length_zipWith] at *; omega)) rfl | exact (hM.slF 8 rfl).atA rfl (by first | omega | (simp only [List.length_replicate, List.length_append, List.length_set, List.length_cons, List.length_nil, List.length_map, List.length_range, List.length_take, List.length_drop, List.length_zipWith] at *; omega)) rfl | exact (hM.argF0 (by assumption)).atA rfl (by first | omega | (simp only [List.length_replicate, List.length_append, List.length_set, List.length_cons, List.length_nil, List.length_map, List.length_range, List.length_take, List.length_drop, List.length_zipWith] at *; omega)) rfl | exact (hM.argF (by assumption) (by assumption)).atA rfl (by first | omega | (simp only [List.length_replicate, List.length_append, List.length_set, List.length_cons, List.length_nil, List.length_map, List.length_range, List.length_take, List.length_drop, List.length_zipWith] at *; omega)) rfl)) rfl ?_
                    refine H.only 0 rfl (by kernel_rfl) ?_
                    refine E.loadA rfl Try.underlying47 rfl (by kernel_rfl) (by first | exact hM.bat 0 rfl | exact hM.bat 1 rfl | exact hM.bat 2 rfl | exact hM.bat 3 rfl | exact hM.bat 4 rfl | exact hM.bat 5 rfl | exact hM.bat 6 rfl | exact hM.bat 7 rfl | exact hM.bat 8 rfl) rfl ?_
                    have hS := hM.pick [0, 1, 2] (by decide)
                    refine H.back hS ?_
                    refine H.only 6 rfl (by kernel_rfl) ?_
                    refine E.call rfl rfl (rCompact_ret vB _ acts[i].lhs acts[i].l _ (hAl.ext hM.toExt) (hAb.ext hM.toExt) hs3) ?_
                    rintro _ wc ⟨vB3, rfl, m3⟩
                    obtain ⟨rx3, hM, hX3⟩ := upd hM hX (.inr m3)
                    have hR3 := hX3 _ hM.toExt (hM.ok (i := 4) rfl)
                    try dsimp only [List.nil_append, List.cons_append, List.set_cons_zero, List.set_cons_succ, repl] at hM
                    have hS := hM.pick [0, 1, 2] (by decide)
                    refine H.back hS ?_
                    refine H.take 7 rfl rfl (by kernel_rfl) (by kernel_rfl) (by kernel_rfl) hS (fun w' hM => Y.mv rfl) rfl ?_
                    refine H.take 8 rfl rfl (by kernel_rfl) (by kernel_rfl) (by kernel_rfl) hS (fun w' hM => Y.ext rfl rfl) rfl ?_
                    refine H.take 9 rfl rfl (by kernel_rfl) (by kernel_rfl) (by kernel_rfl) hS (fun w' hM => Y.ext rfl rfl) rfl ?_
                    refine H.only 10 rfl (by kernel_rfl) ?_
                    first
                      | refine E.storeAM 0 hM rfl rfl rfl (by kernel_rfl) rfl ?_ ?_
                      | refine E.storeAM 1 hM rfl rfl rfl (by kernel_rfl) rfl ?_ ?_
                      | refine E.storeAM 2 hM rfl rfl rfl (by kernel_rfl) rfl ?_ ?_
                      | refine E.storeAM 3 hM rfl rfl rfl (by kernel_rfl) rfl ?_ ?_
                      | refine E.storeAM 4 hM rfl rfl rfl (by kernel_rfl) rfl ?_ ?_
                      | refine E.storeAM 5 hM rfl rfl rfl (by kernel_rfl) rfl ?_ ?_
                      | refine E.storeAM 6 hM rfl rfl rfl (by kernel_rfl) rfl ?_ ?_
                      | refine E.storeAM 7 hM rfl rfl rfl (by kernel_rfl) rfl ?_ ?_
                      | refine E.storeAM 8 hM rfl rfl rfl (by kernel_rfl) rfl ?_ ?_
                    · exact ones (by first | rfl | exact (hM.sl 0 rfl).one | exact (hM.sl 1 rfl).one | exact (hM.sl 2 rfl).one | exact (hM.sl 3 rfl).one | exact (hM.sl 4 rfl).one | exact (hM.sl 5 rfl).one | exact (hM.sl 6 rfl).one | exact (hM.sl 7 rfl).one | exact (hM.sl 8 rfl).one | exact (hM.slF 0 rfl).one | exact (hM.slF 1 rfl).one | exact (hM.slF 2 rfl).one | exact (hM.slF 3 rfl).one | exact (hM.slF 4 rfl).one | exact (hM.slF 5 rfl).one | exact (hM.slF 6 rfl).one | exact (hM.slF 7 rfl).one | exact (hM.slF 8 rfl).one | exact RdL.one (by assumption) | exact RdF.one (by assumption) | assumption) <| ones_nil
                    intro w20 hM
                    try dsimp only [List.nil_append, List.cons_append, List.set_cons_zero, List.set_cons_succ, repl] at hM
                    have hS := hM.pick [0, 1, 2] (by decide)
                    refine H.back hS ?_
                    refine H.take 11 rfl rfl (by kernel_rfl) (by kernel_rfl) (by kernel_rfl) hS (fun w' hM => Y.asg rfl) rfl ?_
                    refine H.done (by kernel_rfl) ?_

                    refine X.outN <| X.join7 b vr2 hs2 _ vB3 rx3 _ (Sub.cons rfl <| Sub.cons rfl <| Sub.cons rfl <| Sub.nil _) rfl ⟨hM, hok2, hX3⟩
                  ·
                    refine C.seq <| C.region <| E.bin rfl rfl rfl rfl <| E.asg rfl rfl <| E.nil <| X.next <| ?_
                    refine C.cond rfl (fun hC8 => ?_) (fun hC8 => ?_)
                    ·
                      refine C.seq <| C.region <| E.mv rfl rfl <| ?_
                      refine E.call rfl rfl (BytesE_ret b vr hs ls _ (hM.pick [0, 1, 2] (by decide)).sep hok) ?_
                      rintro v139 wb m
                      have hM := hM.call m
                      try dsimp only [List.nil_append, List.cons_append, List.set_cons_zero, List.set_cons_succ, repl] at hM
                      refine E.call rfl rfl (Open_ret v139 (Jn.encs ls) _ (hM.sl 5 rfl) (by have := hok.2.1; omega)) ?_
                      rintro _ wc ⟨b6, rfl, vr6, hs6, m6⟩
                      rw [recs_encs hok] at m6
                      have hM := hM.call m6
                      try dsimp only [List.nil_append, List.cons_append, List.set_cons_zero, List.set_cons_succ, repl] at hM
                      refine E.mv rfl rfl <| E.ext rfl rfl rfl <| E.ext rfl rfl rfl <| E.asg rfl rfl <| E.asg rfl rfl <| E.nil <| X.next <| C.region <| ?_
                      refine E.fld (o := 0) (sz := 0) rfl Try.underlying47 rfl rfl (by kernel_rfl) rfl ?_
                      refine E.load rfl Try.underlying22 rfl (by first | exact hM.bcell 0 rfl rfl | exact hM.bcell 1 rfl rfl | exact hM.bcell 2 rfl rfl | exact hM.bcell 3 rfl rfl | exact hM.bcell 4 rfl rfl | exact hM.bcell 5 rfl rfl | exact hM.bcell 6 rfl rfl | exact hM.bcell 7 rfl rfl | exact hM.bcell 8 rfl rfl) rfl ?_
                      refine E.call rfl rfl (rOpen_ret vB (Jn.encs ls) _ (hX _ hM.toExt (hM.ok (i := 4) rfl)) (by have := hok.2.1; omega)) ?_
                      rintro _ wd ⟨rfl, xd⟩
                      have hM := hM.ext xd
                      rw [recs_encs hok]
                      have hX3 : ∀ w2, Ext w w2 → rx.ok w2 → RdL u8 w2 (partV vB 0 (Jn.siz ls)) (Jn.encs ls) := fun w2 x h => part_all (hX w2 x h)
                      obtain ⟨x46, hx46⟩ := shape_hd (hX3 _ hM.toExt (hM.ok (i := 4) rfl))
                      rw [hx46] at hX3 ⊢
                      try dsimp only [List.nil_append, List.cons_append, List.set_cons_zero, List.set_cons_succ, repl] at hM
                      refine E.mv rfl rfl <| E.ext rfl rfl rfl <| E.ext rfl rfl rfl <| ?_
                      first
                        | refine E.storeAM 0 hM rfl rfl rfl (by kernel_rfl) rfl ?_ ?_
                        | refine E.storeAM 1 hM rfl rfl rfl (by kernel_rfl) rfl ?_ ?_
                        | refine E.storeAM 2 hM rfl rfl rfl (by kernel_rfl) rfl ?_ ?_
                        | refine E.storeAM 3 hM rfl rfl rfl (by kernel_rfl) rfl ?_ ?_
                        | refine E.storeAM 4 hM rfl rfl rfl (by kernel_rfl) rfl ?_ ?_
                        | refine E.storeAM 5 hM rfl rfl rfl (by kernel_rfl) rfl ?_ ?_
                        | refine E.storeAM 6 hM rfl rfl rfl (by kernel_rfl) rfl ?_ ?_
                        | refine E.storeAM 7 hM rfl rfl rfl (by kernel_rfl) rfl ?_ ?_
                        | refine E.storeAM 8 hM rfl rfl rfl (by kernel_rfl) rfl ?_ ?_
                      · exact ones (by first | rfl | exact (hM.sl 0 rfl).one | exact (hM.sl 1 rfl).one | exact (hM.sl 2 rfl).one | exact (hM.sl 3 rfl).one | exact (hM.sl 4 rfl).one | exact (hM.sl 5 rfl).one | exact (hM.sl 6 rfl).one | exact (hM.sl 7 rfl).one | exact (hM.sl 8 rfl).one | exact (hM.slF 0 rfl).one | exact (hM.slF 1 rfl).one | exact (hM.slF 2 rfl).one | exact (hM.slF 3 rfl).one | exact (hM.slF 4 rfl).one | exact (hM.slF 5 rfl).one | exact (hM.slF 6 rfl).one | exact (hM.slF 7 rfl).one | exact (hM.slF 8 rfl).one | exact RdL.one (by assumption) | exact RdF.one (by assumption) | assumption) <| ones_nil
                      intro w24 hM
                      try dsimp only [List.nil_append, List.cons_append, List.set_cons_zero, List.set_cons_succ, repl] at hM

                      refine E.asg rfl rfl <| E.nil <| X.outN <| X.join7 b6 vr6 hs6 ls _ rx _ (Sub.cons rfl <| Sub.cons rfl <| Sub.cons rfl <| Sub.nil _) rfl ⟨hM.pick [6, 7, 8, 3, 4] (by decide), hok, hX3⟩
                    ·

                      refine C.skip <| X.outN <| X.join7 b vr hs ls vB rx e (Sub.cons rfl <| Sub.cons rfl <| Sub.cons rfl <| Sub.nil _) rfl ⟨hM, hok, hX⟩
            rintro b vr hs ls vB rx e w25 ⟨hM, hok, hX⟩
            have hel := Jn.encs_len ls
            refine C.seq <| ?_

            refine C.chainE [(1, _), (7, _), (8, _), (9, _), (10, _), (69, _), (70, _)] rfl [(155, .bool (decide False))] ?_ ?_
            ·
              refine C.region <| E.mv rfl rfl <| E.mv rfl rfl <| E.bin rfl rfl rfl rfl <| E.mv rfl rfl <| ?_
              refine E.split 152 rfl (fun g152 => ?_) (fun g152 => ?_)
              ·
                try simp only [decide_eq_true_eq, decide_eq_false_iff_not, ne_eq, Decidable.not_not, Bool.not_eq_true', Bool.not_eq_false'] at g152
                exact (g152 (by trivial)).elim
              ·
                try simp only [decide_eq_true_eq, decide_eq_false_iff_not, ne_eq, Decidable.not_not, Bool.not_eq_true', Bool.not_eq_false'] at g152
                refine E.on rfl rfl (E.mv rfl rfl ?_)
                refine E.on rfl rfl (E.eqnil rfl rfl Try.underlying33 rfl ?_)
                refine E.pick rfl rfl rfl <| E.nil <| X.join0 (Sub.cons (by (first | exact leaf_f (by omega) | exact leaf_t (by omega) | exact leaf_d (by omega) | exact leaf_f (by first | (simp [*] <;> fail) | omega) | exact leaf_t (by first | (simp [*] <;> fail) | omega) | exact leaf_d (by first | (simp [*] <;> fail) | omega) | exact leaf_f (by (first | omega | ((try simp only [decide_eq_true_eq, decide_eq_false_iff_not, Bool.not_eq_true', Bool.not_eq_false'] at *); first | omega | (simp_all <;> fail) | (simp_all; omega)))) | exact leaf_t (by (first | omega | ((try simp only [decide_eq_true_eq, decide_eq_false_iff_not, Bool.not_eq_true', Bool.not_eq_false'] at *); first | omega | (simp_all <;> fail) | (simp_all; omega)))) | exact leaf_d (by (first | omega | ((try simp only [decide_eq_true_eq, decide_eq_false_iff_not, Bool.not_eq_true', Bool.not_eq_false'] at *); first | omega | (simp_all <;> fail) | (simp_all; omega)))))) <| Sub.nil _) rfl rfl
            refine C.cond' rfl (fun hC9 => ?_) (fun hC9 => ?_)
            ·
              refine C.seq <| C.region <| E.asg rfl rfl <| E.nil <| X.next <| C.ret <| X.retT <| X.retB <| X.retT <| X.retT <| X.retB <| X.retT <| ret1 rfl rfl ?_
              exact hC9.elim
            ·
              refine C.skip <| X.next <| C.seq <| C.region <| ?_
              refine E.fld (o := 0) (sz := 0) rfl Try.underlying47 rfl rfl (by kernel_rfl) rfl ?_
              refine E.load rfl Try.underlying22 rfl (by first | exact hM.bcell 0 rfl rfl | exact hM.bcell 1 rfl rfl | exact hM.bcell 2 rfl rfl | exact hM.bcell 3 rfl rfl | exact hM.bcell 4 rfl rfl | exact hM.bcell 5 rfl rfl | exact hM.bcell 6 rfl rfl | exact hM.bcell 7 rfl rfl | exact hM.bcell 8 rfl rfl) rfl ?_
              refine E.call rfl rfl (rRecover_ret vB (Jn.encs ls) _ (hX _ hM.toExt (hM.ok (i := 4) rfl))) ?_
              rintro _ wb ⟨u5, hs5, rfl, m⟩
              rw [recs_encs hok] at m ⊢
              have hM := hM.call m
              try dsimp only [List.nil_append, List.cons_append, List.set_cons_zero, List.set_cons_succ, repl] at hM
              refine E.mv rfl rfl <| E.ext rfl rfl rfl <| E.ext rfl rfl rfl <| E.asg rfl rfl <| E.asg rfl rfl <| E.nil <| X.next <| ?_

              refine C.cut0 [(1, _), (7, _), (8, _), (9, _), (10, _), (69, _), (70, _)] rfl [(175, .bool false)] (fun w' => M w (Nn) w' [jb b 0 vr (Jn.siz ls), Rg.sl slv 22 vr hs, Rg.bag hs ls, Rg.blk b9 47 [vB], rx]) ?_ ?_
              ·
                refine C.heldE (by kernel_rfl) fun wh27 hwh27 _ => ?_
                have hS := hwh27
                have hM0 := hM
                have hM := M.ofExt hwh27
                refine H.take 0 rfl rfl (by kernel_rfl) (by kernel_rfl) (by kernel_rfl) hS (fun w' hS => by have hM := hM0.ext hS; exact Y.mv rfl) rfl ?_
                refine H.takeV 3 rfl rfl (by kernel_rfl) (by kernel_rfl) (by kernel_rfl) hS (Y.fld (o := 0) (sz := 0) rfl Try.underlying47 rfl rfl (by kernel_rfl)) (fun w' hS => by have hM := hM0.ext hS; exact Y.fld (o := 0) (sz := 0) rfl Try.underlying47 rfl rfl (by kernel_rfl)) rfl ?_
                refine H.takeV 4 rfl rfl (by kernel_rfl) (by kernel_rfl) (by kernel_rfl) hS (Y.load rfl Try.underlying22 rfl (by first | exact (hM0.ext hS).bcell 0 rfl rfl | exact (hM0.ext hS).bcell 1 rfl rfl | exact (hM0.ext hS).bcell 2 rfl rfl | exact (hM0.ext hS).bcell 3 rfl rfl | exact (hM0.ext hS).bcell 4 rfl rfl | exact (hM0.ext hS).bcell 5 rfl rfl | exact (hM0.ext hS).bcell 6 rfl rfl | exact (hM0.ext hS).bcell 7 rfl rfl | exact (hM0.ext hS).bcell 8 rfl rfl)) (fun w' hS => by have hM := hM0.ext hS; exact Y.load rfl Try.underlying22 rfl (by first | exact hM.bcell 0 rfl rfl | exact hM.bcell 1 rfl rfl | exact hM.bcell 2 rfl rfl | exact hM.bcell 3 rfl rfl | exact hM.bcell 4 rfl rfl | exact hM.bcell 5 rfl rfl | exact hM.bcell 6 rfl rfl | exact hM.bcell 7 rfl rfl | exact hM.bcell 8 rfl rfl)) rfl ?_
                refine H.takeV 5 rfl rfl (by kernel_rfl) (by kernel_rfl) (by kernel_rfl) hS (Y.bstr rfl (hX _ (hM0.ext hS).toExt ((hM0.ext hS).ok (i := 4) rfl)) Try.underlying22 Try.underlying5 Try.underlying9) (fun w' hS => by have hM := hM0.ext hS; exact Y.bstr rfl (hX _ (hM0.ext hS).toExt ((hM0.ext hS).ok (i := 4) rfl)) Try.underlying22 Try.underlying5 Try.underlying9) rfl ?_
                refine H.only 1 rfl (by kernel_rfl) ?_
                refine E.call rfl rfl (BytesE_ret b vr hs ls _ ((hM0.call hM).pick [0, 1, 2] (by decide)).sep hok) ?_
                rintro v163 wc mc
                have hM := hM.call mc
                try dsimp only [List.nil_append, List.cons_append, List.set_cons_zero, List.set_cons_succ, repl] at hM
                have hS := hM.toExt
                refine H.back hS ?_
                refine H.only 2 rfl (by kernel_rfl) ?_
                refine E.bstr rfl (hM.sl 0 rfl) Try.underlying22 Try.underlying5 Try.underlying9 rfl ?_
                have hS := hM.toExt
                refine H.back hS ?_
                refine H.take 6 rfl rfl (by kernel_rfl) (by kernel_rfl) (by kernel_rfl) hS (fun w' hS => by have hM := hM0.ext hS; exact Y.nestr rfl rfl) rfl ?_
                refine H.take 7 rfl rfl (by kernel_rfl) (by kernel_rfl) (by kernel_rfl) hS (fun w' hS => by have hM := hM0.ext hS; exact Y.mv rfl) rfl ?_
                refine H.split 169 rfl (fun g169 => ?_) (fun g169 => ?_)
                ·
                  try simp only [decide_eq_true_eq, decide_eq_false_iff_not, ne_eq, Decidable.not_not, Bool.not_eq_true', Bool.not_eq_false'] at g169
                  exact absurd g169 (by first | decide | (simp; done))
                ·
                  try simp only [decide_eq_true_eq, decide_eq_false_iff_not, ne_eq, Decidable.not_not, Bool.not_eq_true', Bool.not_eq_false'] at g169
                  refine H.take 8 rfl rfl (by kernel_rfl) (by kernel_rfl) (by kernel_rfl) hS (fun w' hS => by have hM := hM0.ext hS; exact Y.on rfl rfl (Y.mv rfl)) rfl ?_
                  refine H.take 10 rfl rfl (by kernel_rfl) (by kernel_rfl) (by kernel_rfl) hS (fun w' hS => by have hM := hM0.ext hS; exact Y.on rfl rfl (Y.mv rfl)) rfl ?_
                  refine H.only 9 rfl (by kernel_rfl) ?_
                  refine E.on rfl rfl (E.call rfl rfl (RecordsE_ret b vr hs ls _ ((hM0.call hM).pick [0, 1, 2] (by decide)).sep hok) ?_)
                  rintro v171 wd ⟨hsd, md⟩
                  have hM := hM.call md
                  try dsimp only [List.nil_append, List.cons_append, List.set_cons_zero, List.set_cons_succ, repl] at hM
                  have hS := hM.toExt
                  refine H.back hS ?_
                  refine H.only 11 rfl (by kernel_rfl) ?_
                  refine E.on rfl rfl (E.call rfl rfl (Same_ret v171 u5 hsd hs5 _ _ _ (hM.sl 1 rfl) (hM.bag 2 rfl) ((hM0.call hM).sl 5 rfl) ((hM0.call hM).bag 6 rfl)) ?_)
                  rintro _ we ⟨rfl, xe⟩
                  have hM := hM.ext xe
                  rw [decide_eq_true rfl]
                  try dsimp only [List.nil_append, List.cons_append, List.set_cons_zero, List.set_cons_succ, repl] at hM
                  have hS := hM.toExt
                  refine H.back hS ?_
                  refine H.take 12 rfl rfl (by kernel_rfl) (by kernel_rfl) (by kernel_rfl) hS (fun w' hS => by have hM := hM0.ext hS; exact Y.on rfl rfl (Y.not rfl)) rfl ?_
                  refine H.take 13 rfl rfl (by kernel_rfl) (by kernel_rfl) (by kernel_rfl) hS (fun w' hS => by have hM := hM0.ext hS; exact Y.pick rfl rfl) rfl ?_
                  refine H.done (by kernel_rfl) ?_
                  have hM := hM0.call hM

                  refine X.join0  (Sub.cons rfl <| Sub.nil _) rfl (hM.pick [0, 1, 2, 3, 4] (by decide))
              rintro  w31 hM
              refine C.cond rfl (fun hC10 => ?_) (fun hC10 => ?_)
              ·
                cases hC10
              ·
                refine C.skip <| X.outN <| X.next <| C.region <| ?_
                refine E.add rfl rfl (by omega) rfl ?_

                refine E.mv rfl rfl <| E.nil <| X.again8 (i + 1) b vr hs ls vB rx e (Sub.cons rfl <| Sub.cons rfl <| Sub.cons rfl <| Sub.cons rfl <| Sub.nil _) rfl ⟨hM, hok, hX, by omega⟩ (by omega)
          ·
            refine C.exit <| X.exitT <| X.exitT <| X.outE <| X.next <| C.seq <| C.region <| ?_
            refine E.call rfl rfl (alive_ret _) ?_
            rintro _ wz ⟨rfl, xz⟩
            have hM := hM.ext xz
            try dsimp only [List.nil_append, List.cons_append, List.set_cons_zero, List.set_cons_succ, repl] at hM
            refine E.asg rfl rfl <| E.nil <| X.next <| C.ret <| ret1 rfl rfl ?_
            exact ⟨rfl, hM.toExt⟩

end Go.Proofs.Ytdcgmkoonanpgaa
