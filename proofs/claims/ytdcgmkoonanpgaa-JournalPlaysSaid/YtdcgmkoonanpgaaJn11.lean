/- the reference's journal: Open, Append, Truncate, Compact. -/
import Derived.Test.YtdcgmkoonanpgaaJn8
namespace Go.Proofs.Ytdcgmkoonanpgaa
set_option linter.unusedSimpArgs false
set_option linter.unusedVariables false
open Go.RowKit Sym Go.Conc.Locks

theorem shape_hd {w : World} {v : Value} {l : List UInt8} (h : RdL u8 w v l) : ∃ x : Hd, v = slv x := by
  obtain ⟨a, cap, hv, _⟩ := h; exact ⟨(a, _, cap), hv⟩
theorem encs_take {l : List UInt8} : l.take (Jn.siz (Jn.recs 65536 l)) = Jn.encs (Jn.recs 65536 l) := (Jn.encs_recs 65536 l).1.symm
theorem recs_encs {ls : LL} (hok : Jok ls) : Jn.recs 65536 (Jn.encs ls) = ls := by
  have h := Jn.recs_app ls 65536 [] hok.2.2 hok.1
  rw [List.append_nil, recs_nil, List.append_nil] at h; exact h
theorem rOpen_ret (p : Value) (l : List UInt8) (w : World) (hl : RdL u8 w p l) (hlen : l.length ≤ 16777216) :
    Ret Try.prog 26 #[p] w fun v w' => v = .tuple #[.agg #[partV p 0 (Jn.siz (Jn.recs 65536 l))], i64 0] ∧ Ext w w' := by
  have hM := M.start w
  refine enter Try.func26 rfl (by kernel_rfl) Try.ntmps26 rfl ?_
  refine C.seq <| C.region <| ?_
  refine E.allocM (z := .agg #[.slice none 0 0]) (cs := [.slice none 0 0]) hM (by kernel_rfl) rfl rfl ?_
  intro b2 w0 hM
  try dsimp only [List.nil_append, List.cons_append, List.set_cons_zero, List.set_cons_succ, repl] at hM
  refine E.asg rfl rfl <| E.nil <| X.next <| C.seq <| C.seq <| C.region <| E.mv rfl rfl <| ?_
  refine E.lenv rfl (Rd.shape (by first | exact hM.sl 0 rfl | exact hM.sl 1 rfl | exact hM.sl 2 rfl | exact hM.sl 3 rfl | exact hM.sl 4 rfl | exact hM.sl 5 rfl | exact hM.arg0 (by assumption) | exact hM.arg (by assumption) (by assumption) | assumption)) Try.underlying22 rfl ?_
  refine E.bin rfl rfl rfl rfl <| E.nil <| X.next <| ?_
  refine C.cond' rfl (fun hC0 => ?_) (fun hC0 => ?_)
  ·
    omega
  ·
    refine C.skip <| X.next <| C.seq <| C.region <| E.mv rfl rfl <| ?_
    refine E.call rfl rfl (rRecover_ret p l _ (hM.arg0 hl)) ?_
    rintro _ w1 ⟨u1, hs1, rfl, m⟩
    have hM := hM.call m
    have hen := (Jn.encs_recs 65536 l).2
    try dsimp only [List.nil_append, List.cons_append, List.set_cons_zero, List.set_cons_succ, repl] at hM
    refine E.mv rfl rfl <| E.ext rfl rfl rfl <| E.ext rfl rfl rfl <| E.asg rfl rfl <| E.asg rfl rfl <| E.nil <| X.next <| C.seq <| C.region <| E.mv rfl rfl <| E.mv rfl rfl <| ?_
    refine E.slcP (k := .i64) 0 (Jn.siz (Jn.recs 65536 l)) rfl (.inr ⟨rfl, rfl⟩) (.inl rfl) (hM.arg0 hl) Try.underlying22 (by kernel_rfl) (by omega) (by omega) rfl ?_
    obtain ⟨x17, hx17⟩ := shape_hd ((hM.arg0 hl).partV (a := 0) (b := (Jn.siz (Jn.recs 65536 l))) (by omega) (by omega))
    rw [hx17]
    refine E.buildC (cs := [_]) [.slice none 0 0] [0] rfl rfl (by kernel_rfl) rfl ?_
    first
      | refine E.storeAM 0 hM rfl rfl rfl (by kernel_rfl) rfl ?_ ?_
      | refine E.storeAM 1 hM rfl rfl rfl (by kernel_rfl) rfl ?_ ?_
      | refine E.storeAM 2 hM rfl rfl rfl (by kernel_rfl) rfl ?_ ?_
      | refine E.storeAM 3 hM rfl rfl rfl (by kernel_rfl) rfl ?_ ?_
      | refine E.storeAM 4 hM rfl rfl rfl (by kernel_rfl) rfl ?_ ?_
      | refine E.storeAM 5 hM rfl rfl rfl (by kernel_rfl) rfl ?_ ?_
    · exact ones (by first | rfl | exact (hM.sl 0 rfl).one | exact (hM.sl 1 rfl).one | exact (hM.sl 2 rfl).one | exact (hM.sl 3 rfl).one | exact (hM.sl 4 rfl).one | exact (hM.sl 5 rfl).one | exact (hM.slF 0 rfl).one | exact (hM.slF 1 rfl).one | exact (hM.slF 2 rfl).one | exact (hM.slF 3 rfl).one | exact (hM.slF 4 rfl).one | exact (hM.slF 5 rfl).one | exact RdL.one (by assumption) | exact RdF.one (by assumption) | assumption) <| ones_nil
    intro w2 hM
    try dsimp only [List.nil_append, List.cons_append, List.set_cons_zero, List.set_cons_succ, repl] at hM
    refine E.asg rfl rfl <| E.nil <| X.next <| C.ret <| retAT rfl rfl rfl Try.underlying47 rfl (by first | exact hM.blk 0 rfl | exact hM.blk 1 rfl | exact hM.blk 2 rfl | exact hM.blk 3 rfl | exact hM.blk 4 rfl | exact hM.blk 5 rfl) (by kernel_rfl) ?_
    exact ⟨rfl, hM.toExt⟩

set_option maxHeartbeats 2000000 in
theorem rAppend_ret (vB : Value) (ls : LL) (q : Value) (m : List UInt8) (w : World) (hB : RdL u8 w vB (Jn.encs ls)) (hok : Jok ls) (hq : RdL u8 w q m) :
    Ret Try.prog 28 #[.agg #[vB], q] w fun v w' => ∃ vB' e ls', v = .tuple #[.agg #[vB'], i64 e] ∧ AppSp ls m e ls' ∧ ((vB' = vB ∧ ls' = ls ∧ Ext w w') ∨ M w Nn w' [Rg.sl u8 5 vB' (Jn.encs ls')]) := by
  have hM := M.start w
  refine enter Try.func28 rfl (by kernel_rfl) Try.ntmps28 rfl ?_
  refine C.seq <| C.region <| ?_
  refine E.boxM hM rfl rfl rfl ?_
  intro b2 w0 hM
  try dsimp only [List.nil_append, List.cons_append, List.set_cons_zero, List.set_cons_succ, repl] at hM
  refine E.allocM (z := .agg #[.slice none 0 0]) (cs := [.slice none 0 0]) hM (by kernel_rfl) rfl rfl ?_
  intro b4 w1 hM
  try dsimp only [List.nil_append, List.cons_append, List.set_cons_zero, List.set_cons_succ, repl] at hM
  refine E.asg rfl rfl <| E.nil <| X.next <| C.seq <| C.region <| E.mv rfl rfl <| ?_
  refine E.call rfl rfl (rRecord_ret q m _ (hM.arg0 hq)) ?_
  rintro _ w1 ⟨u1, m1, e1, rfl, m', h1⟩
  have hM := hM.call m'
  have hlen := hok.1
  have hsz := hok.2.1
  have hel := Jn.encs_len ls
  try dsimp only [List.nil_append, List.cons_append, List.set_cons_zero, List.set_cons_succ, repl] at hM
  refine E.mv rfl rfl <| E.ext rfl rfl rfl <| E.ext rfl rfl rfl <| E.asg rfl rfl <| E.asg rfl rfl <| E.nil <| X.next <| C.seq <| C.seq <| C.region <| E.mv rfl rfl <| E.bin rfl rfl rfl rfl <| E.nil <| X.next <| ?_
  refine C.cond' rfl (fun hC0 => ?_) (fun hC0 => ?_)
  ·
    obtain ⟨hh, _, rfl⟩ : 4194304 < m.length ∧ m1 = [] ∧ e1 = 4 := by
      rcases h1 with h1 | ⟨_, _, h1⟩
      · exact h1
      · exact (hC0 h1).elim
    refine C.seq <| C.region <| ?_
    refine E.loadA rfl Try.underlying47 rfl (by kernel_rfl) (by first | exact hM.bat 0 rfl | exact hM.bat 1 rfl | exact hM.bat 2 rfl | exact hM.bat 3 rfl | exact hM.bat 4 rfl | exact hM.bat 5 rfl) rfl ?_
    refine E.mv rfl rfl <| ?_
    first
      | refine E.storeAM 0 hM rfl rfl rfl (by kernel_rfl) rfl ?_ ?_
      | refine E.storeAM 1 hM rfl rfl rfl (by kernel_rfl) rfl ?_ ?_
      | refine E.storeAM 2 hM rfl rfl rfl (by kernel_rfl) rfl ?_ ?_
      | refine E.storeAM 3 hM rfl rfl rfl (by kernel_rfl) rfl ?_ ?_
      | refine E.storeAM 4 hM rfl rfl rfl (by kernel_rfl) rfl ?_ ?_
      | refine E.storeAM 5 hM rfl rfl rfl (by kernel_rfl) rfl ?_ ?_
    · exact ones (by first | rfl | exact (hM.sl 0 rfl).one | exact (hM.sl 1 rfl).one | exact (hM.sl 2 rfl).one | exact (hM.sl 3 rfl).one | exact (hM.sl 4 rfl).one | exact (hM.sl 5 rfl).one | exact (hM.slF 0 rfl).one | exact (hM.slF 1 rfl).one | exact (hM.slF 2 rfl).one | exact (hM.slF 3 rfl).one | exact (hM.slF 4 rfl).one | exact (hM.slF 5 rfl).one | exact RdL.one (by assumption) | exact RdF.one (by assumption) | assumption) <| ones_nil
    intro w3 hM
    try dsimp only [List.nil_append, List.cons_append, List.set_cons_zero, List.set_cons_succ, repl] at hM
    refine E.asg rfl rfl <| E.nil <| X.next <| C.ret <| X.retT <| retAT rfl rfl rfl Try.underlying47 rfl (by first | exact hM.blk 0 rfl | exact hM.blk 1 rfl | exact hM.blk 2 rfl | exact hM.blk 3 rfl | exact hM.blk 4 rfl | exact hM.blk 5 rfl) (by kernel_rfl) ?_
    exact ⟨_, _, _, rfl, .inl ⟨hh, rfl, rfl⟩, .inl ⟨rfl, rfl, hM.toExt⟩⟩
  ·
    obtain ⟨hh, rfl, rfl⟩ : m.length ≤ 4194304 ∧ m1 = Jn.rec m ∧ e1 = 0 := by
      rcases h1 with ⟨_, _, h1⟩ | h1
      · omega
      · exact h1
    have hrl := Jn.rec_len m
    refine C.skip <| X.next <| C.seq <| C.region <| ?_
    refine E.fld (o := 0) (sz := 0) rfl Try.underlying47 rfl rfl (by kernel_rfl) rfl ?_
    refine E.load rfl Try.underlying22 rfl (by first | exact hM.bcell 0 rfl rfl | exact hM.bcell 1 rfl rfl | exact hM.bcell 2 rfl rfl | exact hM.bcell 3 rfl rfl | exact hM.bcell 4 rfl rfl | exact hM.bcell 5 rfl rfl) rfl ?_
    refine E.call rfl rfl (rRecover_ret vB _ _ (hM.arg0 hB)) ?_
    rintro _ w2 ⟨u2, hs2, rfl, m2⟩
    rw [recs_encs hok] at m2 ⊢
    have hM := hM.call m2
    have hb2 := (hM.bag 4 rfl).1
    try dsimp only [List.nil_append, List.cons_append, List.set_cons_zero, List.set_cons_succ, repl] at hM
    refine E.mv rfl rfl <| E.ext rfl rfl rfl <| E.ext rfl rfl rfl <| E.asg rfl rfl <| E.asg rfl rfl <| E.nil <| X.next <| C.seq <| ?_

    refine C.chainE [(2, _), (4, _), (6, _)] rfl [(37, .bool (decide (ls.length = 65536 ∨ 16777216 < Jn.siz ls + m.length + 8)))] ?_ ?_
    ·
      refine C.region <| E.mv rfl rfl <| ?_
      refine E.lenv rfl (Rd.shape (by first | exact hM.sl 0 rfl | exact hM.sl 1 rfl | exact hM.sl 2 rfl | exact hM.sl 3 rfl | exact hM.sl 4 rfl | exact hM.sl 5 rfl | exact hM.arg0 (by assumption) | exact hM.arg (by assumption) (by assumption) | assumption)) Try.underlying27 rfl ?_
      refine E.bin rfl rfl rfl rfl <| E.mv rfl rfl <| ?_
      refine E.split 29 rfl (fun g29 => ?_) (fun g29 => ?_)
      ·
        try simp only [decide_eq_true_eq, decide_eq_false_iff_not, ne_eq, Decidable.not_not, Bool.not_eq_true', Bool.not_eq_false'] at g29
        refine E.off rfl rfl rfl rfl <| E.off rfl rfl rfl rfl <| E.off rfl rfl rfl rfl <| E.off rfl rfl rfl rfl <| E.off rfl rfl rfl rfl <| E.off rfl rfl rfl rfl <| E.off rfl rfl rfl rfl <| E.pick rfl rfl rfl <| E.nil <| X.join0 (Sub.cons (by (first | exact leaf_f (by omega) | exact leaf_t (by omega) | exact leaf_d (by omega) | exact leaf_f (by first | (simp [*] <;> fail) | omega) | exact leaf_t (by first | (simp [*] <;> fail) | omega) | exact leaf_d (by first | (simp [*] <;> fail) | omega) | exact leaf_f (by (first | omega | ((try simp only [decide_eq_true_eq, decide_eq_false_iff_not, Bool.not_eq_true', Bool.not_eq_false'] at *); first | omega | (simp_all <;> fail) | (simp_all; omega)))) | exact leaf_t (by (first | omega | ((try simp only [decide_eq_true_eq, decide_eq_false_iff_not, Bool.not_eq_true', Bool.not_eq_false'] at *); first | omega | (simp_all <;> fail) | (simp_all; omega)))) | exact leaf_d (by (first | omega | ((try simp only [decide_eq_true_eq, decide_eq_false_iff_not, Bool.not_eq_true', Bool.not_eq_false'] at *); first | omega | (simp_all <;> fail) | (simp_all; omega)))))) <| Sub.nil _) rfl rfl
      ·
        try simp only [decide_eq_true_eq, decide_eq_false_iff_not, ne_eq, Decidable.not_not, Bool.not_eq_true', Bool.not_eq_false'] at g29
        refine E.on rfl rfl (E.fld (o := 0) (sz := 0) rfl Try.underlying47 rfl rfl (by kernel_rfl) rfl ?_)
        refine E.on rfl rfl (E.load rfl Try.underlying22 rfl (by first | exact hM.bcell 0 rfl rfl | exact hM.bcell 1 rfl rfl | exact hM.bcell 2 rfl rfl | exact hM.bcell 3 rfl rfl | exact hM.bcell 4 rfl rfl | exact hM.bcell 5 rfl rfl) rfl ?_)
        refine E.on rfl rfl (E.lenv rfl (Rd.shape (by first | exact hM.sl 0 rfl | exact hM.sl 1 rfl | exact hM.sl 2 rfl | exact hM.sl 3 rfl | exact hM.sl 4 rfl | exact hM.sl 5 rfl | exact hM.arg0 (by assumption) | exact hM.arg (by assumption) (by assumption) | assumption)) Try.underlying22 rfl ?_)
        rw [hel]
        refine E.on rfl rfl (E.mv rfl rfl ?_)
        refine E.on rfl rfl (E.lenv rfl (Rd.shape (hM.sl 2 rfl)) Try.underlying22 rfl ?_)
        rw [hrl]
        refine E.on rfl rfl (E.addN rfl rfl (by first | omega | (simp only [List.length_replicate, List.length_append, List.length_set, List.length_cons, List.length_nil, List.length_map, List.length_range, List.length_take, List.length_drop, List.length_zipWith] at *; omega)) rfl ?_)
        refine E.on rfl rfl (E.bin rfl rfl rfl rfl ?_)
        refine E.pick rfl rfl rfl <| E.nil <| X.join0 (Sub.cons (by (first | exact leaf_f (by omega) | exact leaf_t (by omega) | exact leaf_d (by omega) | exact leaf_f (by first | (simp [*] <;> fail) | omega) | exact leaf_t (by first | (simp [*] <;> fail) | omega) | exact leaf_d (by first | (simp [*] <;> fail) | omega) | exact leaf_f (by (first | omega | ((try simp only [decide_eq_true_eq, decide_eq_false_iff_not, Bool.not_eq_true', Bool.not_eq_false'] at *); first | omega | (simp_all <;> fail) | (simp_all; omega)))) | exact leaf_t (by (first | omega | ((try simp only [decide_eq_true_eq, decide_eq_false_iff_not, Bool.not_eq_true', Bool.not_eq_false'] at *); first | omega | (simp_all <;> fail) | (simp_all; omega)))) | exact leaf_d (by (first | omega | ((try simp only [decide_eq_true_eq, decide_eq_false_iff_not, Bool.not_eq_true', Bool.not_eq_false'] at *); first | omega | (simp_all <;> fail) | (simp_all; omega)))))) <| Sub.nil _) rfl rfl
    refine C.cond' rfl (fun hC1 => ?_) (fun hC1 => ?_)
    ·
      refine C.seq <| C.region <| ?_
      refine E.loadA rfl Try.underlying47 rfl (by kernel_rfl) (by first | exact hM.bat 0 rfl | exact hM.bat 1 rfl | exact hM.bat 2 rfl | exact hM.bat 3 rfl | exact hM.bat 4 rfl | exact hM.bat 5 rfl) rfl ?_
      first
        | refine E.storeAM 0 hM rfl rfl rfl (by kernel_rfl) rfl ?_ ?_
        | refine E.storeAM 1 hM rfl rfl rfl (by kernel_rfl) rfl ?_ ?_
        | refine E.storeAM 2 hM rfl rfl rfl (by kernel_rfl) rfl ?_ ?_
        | refine E.storeAM 3 hM rfl rfl rfl (by kernel_rfl) rfl ?_ ?_
        | refine E.storeAM 4 hM rfl rfl rfl (by kernel_rfl) rfl ?_ ?_
        | refine E.storeAM 5 hM rfl rfl rfl (by kernel_rfl) rfl ?_ ?_
      · exact ones (by first | rfl | exact (hM.sl 0 rfl).one | exact (hM.sl 1 rfl).one | exact (hM.sl 2 rfl).one | exact (hM.sl 3 rfl).one | exact (hM.sl 4 rfl).one | exact (hM.sl 5 rfl).one | exact (hM.slF 0 rfl).one | exact (hM.slF 1 rfl).one | exact (hM.slF 2 rfl).one | exact (hM.slF 3 rfl).one | exact (hM.slF 4 rfl).one | exact (hM.slF 5 rfl).one | exact RdL.one (by assumption) | exact RdF.one (by assumption) | assumption) <| ones_nil
      intro w5 hM
      try dsimp only [List.nil_append, List.cons_append, List.set_cons_zero, List.set_cons_succ, repl] at hM
      refine E.asg rfl rfl <| E.nil <| X.next <| C.ret <| X.retT <| retAT rfl rfl rfl Try.underlying47 rfl (by first | exact hM.blk 0 rfl | exact hM.blk 1 rfl | exact hM.blk 2 rfl | exact hM.blk 3 rfl | exact hM.blk 4 rfl | exact hM.blk 5 rfl) (by kernel_rfl) ?_
      exact ⟨_, _, _, rfl, .inr (.inl ⟨hh, hC1, rfl, rfl⟩), .inl ⟨rfl, rfl, hM.toExt⟩⟩
    ·
      refine C.skip <| X.next <| C.seq <| C.region <| E.asg rfl rfl <| E.nil <| X.next <| C.seq <| C.region <| E.mv rfl rfl <| ?_
      refine E.fld (o := 0) (sz := 0) rfl Try.underlying47 rfl rfl (by kernel_rfl) rfl ?_
      refine E.load rfl Try.underlying22 rfl (by first | exact hM.bcell 0 rfl rfl | exact hM.bcell 1 rfl rfl | exact hM.bcell 2 rfl rfl | exact hM.bcell 3 rfl rfl | exact hM.bcell 4 rfl rfl | exact hM.bcell 5 rfl rfl) rfl ?_
      have hM := hM.nil u8 5
      try dsimp only [List.nil_append, List.cons_append, List.set_cons_zero, List.set_cons_succ, repl] at hM
      refine E.appendM 5 hM rfl rfl rfl Try.underlying22 elem_Tuint8 (hM.arg0 hB) (fun _ => rfl) (by simp only [List.length_nil]; omega) (by simp only [List.length_nil]; omega) rfl ?_
      intro v42 w6 hM
      try dsimp only [List.nil_append, List.cons_append, List.set_cons_zero, List.set_cons_succ, repl] at hM
      refine E.asg rfl rfl <| E.nil <| X.next <| C.seq <| C.region <| E.mv rfl rfl <| E.mv rfl rfl <| ?_
      refine E.appendM 5 hM rfl rfl rfl Try.underlying22 elem_Tuint8 (hM.sl 2 rfl) (fun _ => rfl) (by omega) (by omega) rfl ?_
      intro v45 w7 hM
      try dsimp only [List.nil_append, List.cons_append, List.set_cons_zero, List.set_cons_succ, repl] at hM
      obtain ⟨x45, rfl⟩ := own_head (hM.own 5 rfl)
      rw [show Jn.encs ls ++ Jn.rec m = Jn.encs (ls ++ [m]) from by rw [Jn.encs_app]; simp [Jn.encs]] at hM
      refine E.asg rfl rfl <| E.nil <| X.next <| C.seq <| C.region <| E.mv rfl rfl <| ?_
      refine E.buildC (cs := [_]) [.slice none 0 0] [0] rfl rfl (by kernel_rfl) rfl ?_
      first
        | refine E.storeAM 0 hM rfl rfl rfl (by kernel_rfl) rfl ?_ ?_
        | refine E.storeAM 1 hM rfl rfl rfl (by kernel_rfl) rfl ?_ ?_
        | refine E.storeAM 2 hM rfl rfl rfl (by kernel_rfl) rfl ?_ ?_
        | refine E.storeAM 3 hM rfl rfl rfl (by kernel_rfl) rfl ?_ ?_
        | refine E.storeAM 4 hM rfl rfl rfl (by kernel_rfl) rfl ?_ ?_
        | refine E.storeAM 5 hM rfl rfl rfl (by kernel_rfl) rfl ?_ ?_
      · exact ones (by first | rfl | exact (hM.sl 0 rfl).one | exact (hM.sl 1 rfl).one | exact (hM.sl 2 rfl).one | exact (hM.sl 3 rfl).one | exact (hM.sl 4 rfl).one | exact (hM.sl 5 rfl).one | exact (hM.slF 0 rfl).one | exact (hM.slF 1 rfl).one | exact (hM.slF 2 rfl).one | exact (hM.slF 3 rfl).one | exact (hM.slF 4 rfl).one | exact (hM.slF 5 rfl).one | exact RdL.one (by assumption) | exact RdF.one (by assumption) | assumption) <| ones_nil
      intro w8 hM
      try dsimp only [List.nil_append, List.cons_append, List.set_cons_zero, List.set_cons_succ, repl] at hM
      refine E.asg rfl rfl <| E.nil <| X.next <| C.ret <| retAT rfl rfl rfl Try.underlying47 rfl (by first | exact hM.blk 0 rfl | exact hM.blk 1 rfl | exact hM.blk 2 rfl | exact hM.blk 3 rfl | exact hM.blk 4 rfl | exact hM.blk 5 rfl) (by kernel_rfl) ?_
      exact ⟨_, _, _, rfl, .inr (.inr ⟨hh, by omega, by omega, rfl, rfl⟩), .inr (hM.pick [5] (by decide))⟩

set_option maxHeartbeats 2000000 in
theorem rTruncate_ret (vB : Value) (ls : LL) (n : Int) (w : World) (hB : RdL u8 w vB (Jn.encs ls)) (hok : Jok ls) :
    Ret Try.prog 29 #[.agg #[vB], i64 n] w fun v w' => ∃ vB' e ls', v = .tuple #[.agg #[vB'], i64 e] ∧ TruSp ls n e ls' ∧ Ext w w' ∧ ∀ w2, RdL u8 w2 vB (Jn.encs ls) → RdL u8 w2 vB' (Jn.encs ls') := by
  have hM := M.start w
  refine enter Try.func29 rfl (by kernel_rfl) Try.ntmps29 rfl ?_
  refine C.seq <| C.region <| ?_
  refine E.boxM hM rfl rfl rfl ?_
  intro b2 w0 hM
  try dsimp only [List.nil_append, List.cons_append, List.set_cons_zero, List.set_cons_succ, repl] at hM
  refine E.allocM (z := .agg #[.slice none 0 0]) (cs := [.slice none 0 0]) hM (by kernel_rfl) rfl rfl ?_
  intro b4 w1 hM
  try dsimp only [List.nil_append, List.cons_append, List.set_cons_zero, List.set_cons_succ, repl] at hM
  refine E.asg rfl rfl <| E.nil <| X.next <| C.seq <| ?_

  refine C.chainE [(1, _), (2, _), (4, _)] rfl [(14, .bool (decide (n < 0 ∨ (Jn.siz ls : Int) < n)))] ?_ ?_
  ·
    have hel := Jn.encs_len ls
    refine C.region <| E.mv rfl rfl <| E.bin rfl rfl rfl rfl <| E.mv rfl rfl <| ?_
    refine E.split 8 rfl (fun g8 => ?_) (fun g8 => ?_)
    ·
      try simp only [decide_eq_true_eq, decide_eq_false_iff_not, ne_eq, Decidable.not_not, Bool.not_eq_true', Bool.not_eq_false'] at g8
      refine E.off rfl rfl rfl rfl <| E.off rfl rfl rfl rfl <| E.off rfl rfl rfl rfl <| E.off rfl rfl rfl rfl <| E.off rfl rfl rfl rfl <| E.pick rfl rfl rfl <| E.nil <| X.join0 (Sub.cons (by (first | exact leaf_f (by omega) | exact leaf_t (by omega) | exact leaf_d (by omega) | exact leaf_f (by first | (simp [*] <;> fail) | omega) | exact leaf_t (by first | (simp [*] <;> fail) | omega) | exact leaf_d (by first | (simp [*] <;> fail) | omega) | exact leaf_f (by (first | omega | ((try simp only [decide_eq_true_eq, decide_eq_false_iff_not, Bool.not_eq_true', Bool.not_eq_false'] at *); first | omega | (simp_all <;> fail) | (simp_all; omega)))) | exact leaf_t (by (first | omega | ((try simp only [decide_eq_true_eq, decide_eq_false_iff_not, Bool.not_eq_true', Bool.not_eq_false'] at *); first | omega | (simp_all <;> fail) | (simp_all; omega)))) | exact leaf_d (by (first | omega | ((try simp only [decide_eq_true_eq, decide_eq_false_iff_not, Bool.not_eq_true', Bool.not_eq_false'] at *); first | omega | (simp_all <;> fail) | (simp_all; omega)))))) <| Sub.nil _) rfl rfl
    ·
      try simp only [decide_eq_true_eq, decide_eq_false_iff_not, ne_eq, Decidable.not_not, Bool.not_eq_true', Bool.not_eq_false'] at g8
      refine E.on rfl rfl (E.mv rfl rfl ?_)
      refine E.on rfl rfl (E.fld (o := 0) (sz := 0) rfl Try.underlying47 rfl rfl (by kernel_rfl) rfl ?_)
      refine E.on rfl rfl (E.load rfl Try.underlying22 rfl (by first | exact hM.bcell 0 rfl rfl | exact hM.bcell 1 rfl rfl | exact hM.bcell 2 rfl rfl | exact hM.bcell 3 rfl rfl | exact hM.bcell 4 rfl rfl | exact hM.bcell 5 rfl rfl) rfl ?_)
      refine E.on rfl rfl (E.lenv rfl (Rd.shape (hM.arg0 hB)) Try.underlying22 rfl ?_)
      rw [hel]
      refine E.on rfl rfl (E.bin rfl rfl rfl rfl ?_)
      refine E.pick rfl rfl rfl <| E.nil <| X.join0 (Sub.cons (by (first | exact leaf_f (by omega) | exact leaf_t (by omega) | exact leaf_d (by omega) | exact leaf_f (by first | (simp [*] <;> fail) | omega) | exact leaf_t (by first | (simp [*] <;> fail) | omega) | exact leaf_d (by first | (simp [*] <;> fail) | omega) | exact leaf_f (by (first | omega | ((try simp only [decide_eq_true_eq, decide_eq_false_iff_not, Bool.not_eq_true', Bool.not_eq_false'] at *); first | omega | (simp_all <;> fail) | (simp_all; omega)))) | exact leaf_t (by (first | omega | ((try simp only [decide_eq_true_eq, decide_eq_false_iff_not, Bool.not_eq_true', Bool.not_eq_false'] at *); first | omega | (simp_all <;> fail) | (simp_all; omega)))) | exact leaf_d (by (first | omega | ((try simp only [decide_eq_true_eq, decide_eq_false_iff_not, Bool.not_eq_true', Bool.not_eq_false'] at *); first | omega | (simp_all <;> fail) | (simp_all; omega)))))) <| Sub.nil _) rfl rfl
  refine C.cond' rfl (fun hC0 => ?_) (fun hC0 => ?_)
  ·
    refine C.seq <| C.region <| ?_
    refine E.loadA rfl Try.underlying47 rfl (by kernel_rfl) (by first | exact hM.bat 0 rfl | exact hM.bat 1 rfl | exact hM.bat 2 rfl | exact hM.bat 3 rfl | exact hM.bat 4 rfl | exact hM.bat 5 rfl) rfl ?_
    first
      | refine E.storeAM 0 hM rfl rfl rfl (by kernel_rfl) rfl ?_ ?_
      | refine E.storeAM 1 hM rfl rfl rfl (by kernel_rfl) rfl ?_ ?_
      | refine E.storeAM 2 hM rfl rfl rfl (by kernel_rfl) rfl ?_ ?_
      | refine E.storeAM 3 hM rfl rfl rfl (by kernel_rfl) rfl ?_ ?_
      | refine E.storeAM 4 hM rfl rfl rfl (by kernel_rfl) rfl ?_ ?_
      | refine E.storeAM 5 hM rfl rfl rfl (by kernel_rfl) rfl ?_ ?_
    · exact ones (by first | rfl | exact (hM.sl 0 rfl).one | exact (hM.sl 1 rfl).one | exact (hM.sl 2 rfl).one | exact (hM.sl 3 rfl).one | exact (hM.sl 4 rfl).one | exact (hM.sl 5 rfl).one | exact (hM.slF 0 rfl).one | exact (hM.slF 1 rfl).one | exact (hM.slF 2 rfl).one | exact (hM.slF 3 rfl).one | exact (hM.slF 4 rfl).one | exact (hM.slF 5 rfl).one | exact RdL.one (by assumption) | exact RdF.one (by assumption) | assumption) <| ones_nil
    intro w2 hM
    try dsimp only [List.nil_append, List.cons_append, List.set_cons_zero, List.set_cons_succ, repl] at hM
    refine E.asg rfl rfl <| E.nil <| X.next <| C.ret <| X.retT <| retAT rfl rfl rfl Try.underlying47 rfl (by first | exact hM.blk 0 rfl | exact hM.blk 1 rfl | exact hM.blk 2 rfl | exact hM.blk 3 rfl | exact hM.blk 4 rfl | exact hM.blk 5 rfl) (by kernel_rfl) ?_
    exact ⟨_, _, _, rfl, .inl ⟨hC0, rfl, rfl⟩, hM.toExt, fun _ h => h⟩
  ·
    obtain ⟨n, rfl⟩ : ∃ n' : Nat, n = (n' : Int) := ⟨n.toNat, by omega⟩
    have hn : n ≤ Jn.siz ls := by omega
    have hel := Jn.encs_len ls
    have hsz := hok.2.1
    refine C.skip <| X.next <| C.seq <| C.region <| ?_
    refine E.fld (o := 0) (sz := 0) rfl Try.underlying47 rfl rfl (by kernel_rfl) rfl ?_
    refine E.load rfl Try.underlying22 rfl (by first | exact hM.bcell 0 rfl rfl | exact hM.bcell 1 rfl rfl | exact hM.bcell 2 rfl rfl | exact hM.bcell 3 rfl rfl | exact hM.bcell 4 rfl rfl | exact hM.bcell 5 rfl rfl) rfl ?_
    refine E.fld (o := 0) (sz := 0) rfl Try.underlying47 rfl rfl (by kernel_rfl) rfl ?_
    refine E.load rfl Try.underlying22 rfl (by first | exact hM.bcell 0 rfl rfl | exact hM.bcell 1 rfl rfl | exact hM.bcell 2 rfl rfl | exact hM.bcell 3 rfl rfl | exact hM.bcell 4 rfl rfl | exact hM.bcell 5 rfl rfl) rfl ?_
    refine E.lenv rfl (Rd.shape (hM.arg0 hB)) Try.underlying22 rfl ?_
    rw [hel]
    refine E.mv rfl rfl <| ?_
    refine E.subN (a := Jn.siz ls) (b := n) rfl rfl (by omega) rfl ?_
    refine E.slcP (k := .i64) 0 (Jn.siz ls - n) rfl (.inr ⟨rfl, rfl⟩) (.inl rfl) (hM.arg0 hB) Try.underlying22 (by kernel_rfl) (by omega) (by omega) rfl ?_
    have r23 : ∀ w', RdL u8 w' vB (Jn.encs ls) → RdL u8 w' (partV vB 0 (Jn.siz ls - n)) ((Jn.encs ls).take (Jn.siz ls - n)) := fun w' x => by
      have := x.partV (a := 0) (b := Jn.siz ls - n) (by omega) (by omega)
      rw [cut_take] at this; exact this
    have hrt := Jn.recs_take ls 65536 (Jn.siz ls - n) hok.2.2 hok.1
    refine E.call rfl rfl (rOpen_ret _ _ _ (r23 _ (hM.arg0 hB)) (by rw [List.length_take]; omega)) ?_
    rintro _ w2 ⟨rfl, x2⟩
    have hM := hM.ext x2
    have r24 : ∀ w', RdL u8 w' vB (Jn.encs ls) → RdL u8 w' (partV (partV vB 0 (Jn.siz ls - n)) 0 (Jn.siz (ls.take (Jn.fit (Jn.siz ls - n) ls)))) (Jn.encs (ls.take (Jn.fit (Jn.siz ls - n) ls))) := fun w' x => by
      have := (r23 _ x).partV (a := 0) (b := Jn.siz (Jn.recs 65536 ((Jn.encs ls).take (Jn.siz ls - n)))) (by omega) (Jn.encs_recs _ _).2
      rw [cut_take, encs_take, hrt] at this; exact this
    rw [hrt]
    obtain ⟨x24, hx24⟩ := shape_hd (r24 _ (hM.arg0 hB))
    rw [hx24]
    try dsimp only [List.nil_append, List.cons_append, List.set_cons_zero, List.set_cons_succ, repl] at hM
    refine E.ext rfl rfl rfl <| E.ext rfl rfl rfl <| ?_
    first
      | refine E.storeAM 0 hM rfl rfl rfl (by kernel_rfl) rfl ?_ ?_
      | refine E.storeAM 1 hM rfl rfl rfl (by kernel_rfl) rfl ?_ ?_
      | refine E.storeAM 2 hM rfl rfl rfl (by kernel_rfl) rfl ?_ ?_
      | refine E.storeAM 3 hM rfl rfl rfl (by kernel_rfl) rfl ?_ ?_
      | refine E.storeAM 4 hM rfl rfl rfl (by kernel_rfl) rfl ?_ ?_
      | refine E.storeAM 5 hM rfl rfl rfl (by kernel_rfl) rfl ?_ ?_
    · exact ones (by first | rfl | exact (hM.sl 0 rfl).one | exact (hM.sl 1 rfl).one | exact (hM.sl 2 rfl).one | exact (hM.sl 3 rfl).one | exact (hM.sl 4 rfl).one | exact (hM.sl 5 rfl).one | exact (hM.slF 0 rfl).one | exact (hM.slF 1 rfl).one | exact (hM.slF 2 rfl).one | exact (hM.slF 3 rfl).one | exact (hM.slF 4 rfl).one | exact (hM.slF 5 rfl).one | exact RdL.one (by assumption) | exact RdF.one (by assumption) | assumption) <| ones_nil
    intro w4 hM
    try dsimp only [List.nil_append, List.cons_append, List.set_cons_zero, List.set_cons_succ, repl] at hM
    refine E.asg rfl rfl <| E.nil <| X.next <| C.ret <| retAT rfl rfl rfl Try.underlying47 rfl (by first | exact hM.blk 0 rfl | exact hM.blk 1 rfl | exact hM.blk 2 rfl | exact hM.blk 3 rfl | exact hM.blk 4 rfl | exact hM.blk 5 rfl) (by kernel_rfl) ?_
    exact ⟨_, _, _, rfl, .inr ⟨by omega, by omega, rfl, rfl⟩, hM.toExt, fun w2 h2 => by rw [Int.toNat_natCast, ← hx24]; exact r24 _ h2⟩

theorem AppSp.det {ls ls' ls2 : LL} {m : List UInt8} {e e2 : Int} (h : AppSp ls m e ls') (k : AppSp ls m e2 ls2) : e = e2 ∧ ls' = ls2 := by
  rcases h with ⟨h, rfl, rfl⟩ | ⟨h, h', rfl, rfl⟩ | ⟨h, h', h2, rfl, rfl⟩ <;> rcases k with ⟨k, rfl, rfl⟩ | ⟨k, k', rfl, rfl⟩ | ⟨k, k', k2, rfl, rfl⟩ <;> first | exact ⟨rfl, rfl⟩ | omega
theorem TruSp.det {ls ls' ls2 : LL} {n e e2 : Int} (h : TruSp ls n e ls') (k : TruSp ls n e2 ls2) : e = e2 ∧ ls' = ls2 := by
  rcases h with ⟨h, rfl, rfl⟩ | ⟨h, h', rfl, rfl⟩ <;> rcases k with ⟨k, rfl, rfl⟩ | ⟨k, k', rfl, rfl⟩ <;> first | exact ⟨rfl, rfl⟩ | omega
theorem small_le {m : LL} (h : Jn.siz m ≤ 3000) : m.length ≤ 375 ∧ ∀ p ∈ m, p.length ≤ 3000 := by
  have := Jn.siz_len m
  refine ⟨by omega, fun p hp => ?_⟩
  obtain ⟨i, hi, rfl⟩ := List.getElem_of_mem hp
  have := siz_take_succ hi
  have := Jn.siz_mono m (i + 1)
  omega
theorem CmpSp.fine {ls m ls' : LL} {e : Int} (h : CmpSp ls m e ls') (hm : Jn.siz m ≤ 3000) : e = 0 ∧ ls' = m := by
  obtain ⟨h1, h2⟩ := small_le hm
  rcases h with ⟨⟨p, hp, h⟩, _⟩ | ⟨_, h, _⟩ | ⟨_, _, _, h3, h4⟩
  · have := h2 p hp; omega
  · omega
  · exact ⟨h3, h4⟩
set_option maxHeartbeats 4000000 in
theorem rCompact_ret (vB q : Value) (hm : List Hd) (m : LL) (w : World) (hq : RdL slv w q hm) (hb : Bag w hm m) (hsm : Jn.siz m ≤ 3000) :
    Ret Try.prog 31 #[.agg #[vB], q] w fun v w' => ∃ vB', v = .tuple #[.agg #[vB'], i64 0] ∧ M w Nn w' [Rg.sl u8 5 vB' (Jn.encs m)] := by
  have hM := M.start w
  refine enter Try.func31 rfl (by kernel_rfl) Try.ntmps31 rfl ?_
  refine C.seq <| C.region <| ?_
  refine E.boxM hM rfl rfl rfl ?_
  intro b2 w0 hM
  try dsimp only [List.nil_append, List.cons_append, List.set_cons_zero, List.set_cons_succ, repl] at hM
  refine E.allocM (z := .agg #[.slice none 0 0]) (cs := [.slice none 0 0]) hM (by kernel_rfl) rfl rfl ?_
  intro b4 w1 hM
  try dsimp only [List.nil_append, List.cons_append, List.set_cons_zero, List.set_cons_succ, repl] at hM
  refine E.asg rfl rfl <| E.nil <| X.next <| C.seq <| C.seq <| C.region <| E.asg rfl rfl <| E.nil <| X.next <| C.block <| ?_
  have hbl := hb.1
  obtain ⟨hml, hpl⟩ := small_le hsm

  refine C.loop1 [(1, _), (2, _), (4, _)] rfl (fun (i : Nat) => [(6, i64 i)]) (fun (i : Nat) w' => M w (Nn) w' [Rg.blk b2 47 [vB], Rg.blk b4 47 [.slice none 0 0]] ∧ i ≤ m.length) (fun (i : Nat) => m.length - i) 0 ?_ ?_ ?_
  · exact Sub.cons rfl <| Sub.nil _
  · exact ⟨hM, Nat.zero_le _⟩
  rintro i w2 ⟨hM, hi⟩
  refine C.seq <| C.seq <| C.region <| E.mv rfl rfl <| E.mv rfl rfl <| ?_
  refine E.lenv rfl (Rd.shape (by first | exact hM.sl 0 rfl | exact hM.sl 1 rfl | exact hM.sl 2 rfl | exact hM.sl 3 rfl | exact hM.sl 4 rfl | exact hM.sl 5 rfl | exact hM.arg0 (by assumption) | exact hM.arg (by assumption) (by assumption) | assumption)) Try.underlying27 rfl ?_
  refine E.bin rfl rfl rfl rfl <| E.nil <| X.next <| ?_
  refine C.cond' rfl (fun hC0 => ?_) (fun hC0 => ?_)
  ·
    have hi' : i < m.length := by omega
    have hpi := hpl m[i] (List.getElem_mem hi')
    refine C.skip <| X.next <| C.seq <| C.block <| C.seq <| C.region <| E.mv rfl rfl <| E.mv rfl rfl <| ?_
    refine E.get (k := i) rfl rfl (hM.arg0 hq) rfl (by omega) Try.underlying27 (by kernel_rfl) Try.underlying22 rfl rfl rfl ?_
    refine E.lenv rfl (Rd.shape ((hb.at hi').ext hM.toExt)) Try.underlying22 rfl ?_
    refine E.bin rfl rfl rfl rfl <| E.nil <| X.next <| ?_
    refine C.cond' rfl (fun hC1 => ?_) (fun hC1 => ?_)
    ·
      omega
    ·
      refine C.skip <| X.outN <| X.next <| C.region <| E.mv rfl rfl <| ?_
      refine E.addN (b := 1) rfl rfl (by first | omega | (simp only [List.length_replicate, List.length_append, List.length_set, List.length_cons, List.length_nil, List.length_map, List.length_range, List.length_take, List.length_drop, List.length_zipWith] at *; omega)) rfl ?_

      refine E.asg rfl rfl <| E.nil <| X.again1 (i + 1) (Sub.cons rfl <| Sub.nil _) rfl ⟨hM, by omega⟩ (by omega)
  ·
    refine C.exit <| X.exitT <| X.exitT <| X.outE <| X.next <| C.seq <| C.region <| ?_
    refine E.buildC (cs := [_]) [.slice none 0 0] [] rfl rfl (by kernel_rfl) rfl ?_
    refine E.allocM (z := .agg #[.slice none 0 0]) (cs := [.slice none 0 0]) hM (by kernel_rfl) rfl rfl ?_
    intro b7 w3 hM
    try dsimp only [List.nil_append, List.cons_append, List.set_cons_zero, List.set_cons_succ, repl] at hM
    first
      | refine E.storeAM 0 hM rfl rfl rfl (by kernel_rfl) rfl ?_ ?_
      | refine E.storeAM 1 hM rfl rfl rfl (by kernel_rfl) rfl ?_ ?_
      | refine E.storeAM 2 hM rfl rfl rfl (by kernel_rfl) rfl ?_ ?_
      | refine E.storeAM 3 hM rfl rfl rfl (by kernel_rfl) rfl ?_ ?_
      | refine E.storeAM 4 hM rfl rfl rfl (by kernel_rfl) rfl ?_ ?_
      | refine E.storeAM 5 hM rfl rfl rfl (by kernel_rfl) rfl ?_ ?_
    · exact ones (by first | rfl | exact (hM.sl 0 rfl).one | exact (hM.sl 1 rfl).one | exact (hM.sl 2 rfl).one | exact (hM.sl 3 rfl).one | exact (hM.sl 4 rfl).one | exact (hM.sl 5 rfl).one | exact (hM.slF 0 rfl).one | exact (hM.slF 1 rfl).one | exact (hM.slF 2 rfl).one | exact (hM.slF 3 rfl).one | exact (hM.slF 4 rfl).one | exact (hM.slF 5 rfl).one | exact RdL.one (by assumption) | exact RdF.one (by assumption) | assumption) <| ones_nil
    intro w4 hM
    try dsimp only [List.nil_append, List.cons_append, List.set_cons_zero, List.set_cons_succ, repl] at hM
    refine E.nil <| X.next <| C.seq <| C.seq <| C.region <| E.asg rfl rfl <| E.nil <| X.next <| C.block <| ?_
    have hM := hM.nil u8 5
    try dsimp only [List.nil_append, List.cons_append, List.set_cons_zero, List.set_cons_succ, repl] at hM

    refine C.loop2 [(1, _), (2, _), (4, _), (7, _)] rfl (fun (i : Nat) (vO : Value) => [(8, i64 i)]) (fun (i : Nat) (vO : Value) w' => M w (Nn) w' [Rg.blk b2 47 [vB], Rg.blk b4 47 [.slice none 0 0], Rg.blk b7 47 [vO], Rg.sl u8 5 vO (Jn.encs (m.take i))] ∧ i ≤ m.length) (fun (i : Nat) (vO : Value) => m.length - i) 0 nilS ?_ ?_ ?_
    · exact Sub.cons rfl <| Sub.nil _
    · exact ⟨hM, Nat.zero_le _⟩
    rintro i vO w5 ⟨hM, hi2⟩
    refine C.seq <| C.seq <| C.region <| E.mv rfl rfl <| E.mv rfl rfl <| ?_
    refine E.lenv rfl (Rd.shape (by first | exact hM.sl 0 rfl | exact hM.sl 1 rfl | exact hM.sl 2 rfl | exact hM.sl 3 rfl | exact hM.sl 4 rfl | exact hM.sl 5 rfl | exact hM.arg0 (by assumption) | exact hM.arg (by assumption) (by assumption) | assumption)) Try.underlying27 rfl ?_
    refine E.bin rfl rfl rfl rfl <| E.nil <| X.next <| ?_
    refine C.cond' rfl (fun hC2 => ?_) (fun hC2 => ?_)
    ·
      have hi' : i < m.length := by omega
      have hok : Jok (m.take i) := ⟨by rw [List.length_take]; omega, Nat.le_trans (Jn.siz_mono m i) (by omega), fun p hp => Nat.le_trans (hpl p (List.mem_of_mem_take hp)) (by decide)⟩
      have hss := siz_take_succ hi'
      have hmo := Jn.siz_mono m (i + 1)
      have htl : (m.take i).length = i := by rw [List.length_take]; omega
      refine C.skip <| X.next <| C.seq <| C.block <| ?_

      refine C.cut2 [(1, _), (2, _), (4, _), (7, _), (8, _)] rfl (fun (b9 : Nat) (vN : Value) => [(9, pv b9), (10, i64 0)]) (fun (b9 : Nat) (vN : Value) w' => M w (Nn) w' [Rg.blk b2 47 [vB], Rg.blk b4 47 [.slice none 0 0], Rg.blk b7 47 [vO], Rg.sl u8 5 vN (Jn.encs (m.take (i + 1))), Rg.blk b9 47 [vN]]) ?_ ?_
      ·
        refine C.heldM hM [0, 1, 2, 3] (by decide) (by kernel_rfl) fun wh6 hM hS => ?_
        refine H.take 1 rfl rfl (by kernel_rfl) (by kernel_rfl) (by kernel_rfl) hS (fun w' hM => Y.mv rfl) rfl ?_
        refine H.take 2 rfl rfl (by kernel_rfl) (by kernel_rfl) (by kernel_rfl) hS (fun w' hM => Y.mv rfl) rfl ?_
        refine H.takeV 3 rfl rfl (by kernel_rfl) (by kernel_rfl) (by kernel_rfl) hS (Y.idx1 (k := i) rfl rfl (hM.arg0 hq) rfl (by omega) Try.underlying27 (by kernel_rfl)) (fun w' hM => Y.idx1 (k := i) rfl rfl (hM.arg0 hq) rfl (by omega) Try.underlying27 (by kernel_rfl)) rfl ?_
        refine H.takeV 0 rfl rfl (by kernel_rfl) (by kernel_rfl) (by kernel_rfl) hS (Y.loadA rfl Try.underlying47 rfl (by kernel_rfl) (by first | exact hS.bat 0 rfl | exact hS.bat 1 rfl | exact hS.bat 2 rfl | exact hS.bat 3 rfl | exact hS.bat 4 rfl | exact hS.bat 5 rfl)) (fun w' hM => Y.loadA rfl Try.underlying47 rfl (by kernel_rfl) (by first | exact hM.bat 0 rfl | exact hM.bat 1 rfl | exact hM.bat 2 rfl | exact hM.bat 3 rfl | exact hM.bat 4 rfl | exact hM.bat 5 rfl)) rfl ?_
        refine H.takeV 4 rfl rfl (by kernel_rfl) (by kernel_rfl) (by kernel_rfl) hS (Y.load rfl Try.underlying22 rfl ((hM.arg0 hq).cellA rfl (by omega))) (fun w' hM => Y.load rfl Try.underlying22 rfl ((hM.arg0 hq).cellA rfl (by omega))) rfl ?_
        refine H.two 5 9 rfl rfl (by kernel_rfl) ?_ ?_
        ·
          refine E.call rfl rfl (rAppend_ret vO _ _ m[i] _ (hM.sl 3 rfl) hok ((hb.at hi').ext hM.toExt)) ?_
          rintro _ w5 ⟨vN, e5, ls5, rfl, hsp, h5⟩
          obtain ⟨rfl, rfl⟩ := app_fine hsp (by omega) (by omega) (by omega)
          have m5 := h5.resolve_left (fun h => by have := congrArg List.length h.2.1; rw [List.length_append, List.length_singleton] at this; omega)
          rw [List.take_append_getElem hi'] at m5
          have hM := hM.call m5
          try dsimp only [List.nil_append, List.cons_append, List.set_cons_zero, List.set_cons_succ, repl] at hM
          have hS := hM.pick [0, 1, 2, 3] (by decide)
          refine H.back hS ?_
          refine H.take 6 rfl rfl (by kernel_rfl) (by kernel_rfl) (by kernel_rfl) hS (fun w' hM => Y.mv rfl) rfl ?_
          refine H.take 7 rfl rfl (by kernel_rfl) (by kernel_rfl) (by kernel_rfl) hS (fun w' hM => Y.ext rfl rfl) rfl ?_
          refine H.take 8 rfl rfl (by kernel_rfl) (by kernel_rfl) (by kernel_rfl) hS (fun w' hM => Y.ext rfl rfl) rfl ?_
          refine H.only 9 rfl (by kernel_rfl) ?_
          refine E.allocM (z := .agg #[.slice none 0 0]) (cs := [.slice none 0 0]) hM (by kernel_rfl) rfl rfl ?_
          intro b9 w8 hM
          try dsimp only [List.nil_append, List.cons_append, List.set_cons_zero, List.set_cons_succ, repl] at hM
          have hS := hM.pick [0, 1, 2, 3] (by decide)
          refine H.back hS ?_
          refine H.only 10 rfl (by kernel_rfl) ?_
          first
            | refine E.storeAM 0 hM rfl rfl rfl (by kernel_rfl) rfl ?_ ?_
            | refine E.storeAM 1 hM rfl rfl rfl (by kernel_rfl) rfl ?_ ?_
            | refine E.storeAM 2 hM rfl rfl rfl (by kernel_rfl) rfl ?_ ?_
            | refine E.storeAM 3 hM rfl rfl rfl (by kernel_rfl) rfl ?_ ?_
            | refine E.storeAM 4 hM rfl rfl rfl (by kernel_rfl) rfl ?_ ?_
            | refine E.storeAM 5 hM rfl rfl rfl (by kernel_rfl) rfl ?_ ?_
          · exact ones (by first | rfl | exact (hM.sl 0 rfl).one | exact (hM.sl 1 rfl).one | exact (hM.sl 2 rfl).one | exact (hM.sl 3 rfl).one | exact (hM.sl 4 rfl).one | exact (hM.sl 5 rfl).one | exact (hM.slF 0 rfl).one | exact (hM.slF 1 rfl).one | exact (hM.slF 2 rfl).one | exact (hM.slF 3 rfl).one | exact (hM.slF 4 rfl).one | exact (hM.slF 5 rfl).one | exact RdL.one (by assumption) | exact RdF.one (by assumption) | assumption) <| ones_nil
          intro w9 hM
          try dsimp only [List.nil_append, List.cons_append, List.set_cons_zero, List.set_cons_succ, repl] at hM
          have hS := hM.pick [0, 1, 2, 3] (by decide)
          refine H.back hS ?_
          refine H.take 11 rfl rfl (by kernel_rfl) (by kernel_rfl) (by kernel_rfl) hS (fun w' hM => Y.asg rfl) rfl ?_
          refine H.done (by kernel_rfl) ?_

          refine X.join2 _ vN (Sub.cons rfl <| Sub.cons rfl <| Sub.nil _) rfl (hM.pick [0, 1, 2, 4, 5] (by decide))
        ·
          refine E.allocM (z := .agg #[.slice none 0 0]) (cs := [.slice none 0 0]) hM (by kernel_rfl) rfl rfl ?_
          intro b9 w10 hM
          try dsimp only [List.nil_append, List.cons_append, List.set_cons_zero, List.set_cons_succ, repl] at hM
          have hS := hM.pick [0, 1, 2, 3] (by decide)
          refine H.back hS ?_
          refine H.only 5 rfl (by kernel_rfl) ?_
          refine E.call rfl rfl (rAppend_ret vO _ _ m[i] _ (hM.sl 3 rfl) hok ((hb.at hi').ext hM.toExt)) ?_
          rintro _ w5 ⟨vN, e5, ls5, rfl, hsp, h5⟩
          obtain ⟨rfl, rfl⟩ := app_fine hsp (by omega) (by omega) (by omega)
          have m5 := h5.resolve_left (fun h => by have := congrArg List.length h.2.1; rw [List.length_append, List.length_singleton] at this; omega)
          rw [List.take_append_getElem hi'] at m5
          have hM := hM.call m5
          try dsimp only [List.nil_append, List.cons_append, List.set_cons_zero, List.set_cons_succ, repl] at hM
          have hS := hM.pick [0, 1, 2, 3] (by decide)
          refine H.back hS ?_
          refine H.take 6 rfl rfl (by kernel_rfl) (by kernel_rfl) (by kernel_rfl) hS (fun w' hM => Y.mv rfl) rfl ?_
          refine H.take 7 rfl rfl (by kernel_rfl) (by kernel_rfl) (by kernel_rfl) hS (fun w' hM => Y.ext rfl rfl) rfl ?_
          refine H.take 8 rfl rfl (by kernel_rfl) (by kernel_rfl) (by kernel_rfl) hS (fun w' hM => Y.ext rfl rfl) rfl ?_
          refine H.only 10 rfl (by kernel_rfl) ?_
          first
            | refine E.storeAM 0 hM rfl rfl rfl (by kernel_rfl) rfl ?_ ?_
            | refine E.storeAM 1 hM rfl rfl rfl (by kernel_rfl) rfl ?_ ?_
            | refine E.storeAM 2 hM rfl rfl rfl (by kernel_rfl) rfl ?_ ?_
            | refine E.storeAM 3 hM rfl rfl rfl (by kernel_rfl) rfl ?_ ?_
            | refine E.storeAM 4 hM rfl rfl rfl (by kernel_rfl) rfl ?_ ?_
            | refine E.storeAM 5 hM rfl rfl rfl (by kernel_rfl) rfl ?_ ?_
          · exact ones (by first | rfl | exact (hM.sl 0 rfl).one | exact (hM.sl 1 rfl).one | exact (hM.sl 2 rfl).one | exact (hM.sl 3 rfl).one | exact (hM.sl 4 rfl).one | exact (hM.sl 5 rfl).one | exact (hM.slF 0 rfl).one | exact (hM.slF 1 rfl).one | exact (hM.slF 2 rfl).one | exact (hM.slF 3 rfl).one | exact (hM.slF 4 rfl).one | exact (hM.slF 5 rfl).one | exact RdL.one (by assumption) | exact RdF.one (by assumption) | assumption) <| ones_nil
          intro w12 hM
          try dsimp only [List.nil_append, List.cons_append, List.set_cons_zero, List.set_cons_succ, repl] at hM
          have hS := hM.pick [0, 1, 2, 3] (by decide)
          refine H.back hS ?_
          refine H.take 11 rfl rfl (by kernel_rfl) (by kernel_rfl) (by kernel_rfl) hS (fun w' hM => Y.asg rfl) rfl ?_
          refine H.done (by kernel_rfl) ?_

          refine X.join2 _ vN (Sub.cons rfl <| Sub.cons rfl <| Sub.nil _) rfl (hM.pick [0, 1, 2, 5, 4] (by decide))
      rintro b9 vN w13 hM
      refine C.seq <| C.seq <| C.region <| E.mv rfl rfl <| E.bin rfl rfl rfl rfl <| E.nil <| X.next <| ?_
      refine C.cond' rfl (fun hC3 => ?_) (fun hC3 => ?_)
      ·
        exact absurd rfl hC3
      ·
        refine C.skip <| X.next <| C.region <| ?_
        refine E.loadA rfl Try.underlying47 rfl (by kernel_rfl) (by first | exact hM.bat 0 rfl | exact hM.bat 1 rfl | exact hM.bat 2 rfl | exact hM.bat 3 rfl | exact hM.bat 4 rfl | exact hM.bat 5 rfl) rfl ?_
        first
          | refine E.storeAM 0 hM rfl rfl rfl (by kernel_rfl) rfl ?_ ?_
          | refine E.storeAM 1 hM rfl rfl rfl (by kernel_rfl) rfl ?_ ?_
          | refine E.storeAM 2 hM rfl rfl rfl (by kernel_rfl) rfl ?_ ?_
          | refine E.storeAM 3 hM rfl rfl rfl (by kernel_rfl) rfl ?_ ?_
          | refine E.storeAM 4 hM rfl rfl rfl (by kernel_rfl) rfl ?_ ?_
          | refine E.storeAM 5 hM rfl rfl rfl (by kernel_rfl) rfl ?_ ?_
        · exact ones (by first | rfl | exact (hM.sl 0 rfl).one | exact (hM.sl 1 rfl).one | exact (hM.sl 2 rfl).one | exact (hM.sl 3 rfl).one | exact (hM.sl 4 rfl).one | exact (hM.sl 5 rfl).one | exact (hM.slF 0 rfl).one | exact (hM.slF 1 rfl).one | exact (hM.slF 2 rfl).one | exact (hM.slF 3 rfl).one | exact (hM.slF 4 rfl).one | exact (hM.slF 5 rfl).one | exact RdL.one (by assumption) | exact RdF.one (by assumption) | assumption) <| ones_nil
        intro w14 hM
        try dsimp only [List.nil_append, List.cons_append, List.set_cons_zero, List.set_cons_succ, repl] at hM
        refine E.nil <| X.outN <| X.next <| C.region <| E.mv rfl rfl <| ?_
        refine E.addN (b := 1) rfl rfl (by first | omega | (simp only [List.length_replicate, List.length_append, List.length_set, List.length_cons, List.length_nil, List.length_map, List.length_range, List.length_take, List.length_drop, List.length_zipWith] at *; omega)) rfl ?_

        refine E.asg rfl rfl <| E.nil <| X.again2 (i + 1) _ (Sub.cons rfl <| Sub.nil _) rfl ⟨hM.pick [0, 1, 2, 3] (by decide), by omega⟩ (by omega)
    ·
      obtain rfl : i = m.length := by omega
      rw [List.take_length] at hM
      refine C.exit <| X.exitT <| X.exitT <| X.outE <| X.next <| C.seq <| C.region <| ?_
      refine E.loadA rfl Try.underlying47 rfl (by kernel_rfl) (by first | exact hM.bat 0 rfl | exact hM.bat 1 rfl | exact hM.bat 2 rfl | exact hM.bat 3 rfl | exact hM.bat 4 rfl | exact hM.bat 5 rfl) rfl ?_
      first
        | refine E.storeAM 0 hM rfl rfl rfl (by kernel_rfl) rfl ?_ ?_
        | refine E.storeAM 1 hM rfl rfl rfl (by kernel_rfl) rfl ?_ ?_
        | refine E.storeAM 2 hM rfl rfl rfl (by kernel_rfl) rfl ?_ ?_
        | refine E.storeAM 3 hM rfl rfl rfl (by kernel_rfl) rfl ?_ ?_
        | refine E.storeAM 4 hM rfl rfl rfl (by kernel_rfl) rfl ?_ ?_
        | refine E.storeAM 5 hM rfl rfl rfl (by kernel_rfl) rfl ?_ ?_
      · exact ones (by first | rfl | exact (hM.sl 0 rfl).one | exact (hM.sl 1 rfl).one | exact (hM.sl 2 rfl).one | exact (hM.sl 3 rfl).one | exact (hM.sl 4 rfl).one | exact (hM.sl 5 rfl).one | exact (hM.slF 0 rfl).one | exact (hM.slF 1 rfl).one | exact (hM.slF 2 rfl).one | exact (hM.slF 3 rfl).one | exact (hM.slF 4 rfl).one | exact (hM.slF 5 rfl).one | exact RdL.one (by assumption) | exact RdF.one (by assumption) | assumption) <| ones_nil
      intro w15 hM
      try dsimp only [List.nil_append, List.cons_append, List.set_cons_zero, List.set_cons_succ, repl] at hM
      refine E.asg rfl rfl <| E.nil <| X.next <| C.ret <| retAT rfl rfl rfl Try.underlying47 rfl (by first | exact hM.blk 0 rfl | exact hM.blk 1 rfl | exact hM.blk 2 rfl | exact hM.blk 3 rfl | exact hM.blk 4 rfl | exact hM.blk 5 rfl) (by kernel_rfl) ?_
      exact ⟨_, rfl, hM.pick [3] (by decide)⟩

end Go.Proofs.Ytdcgmkoonanpgaa
