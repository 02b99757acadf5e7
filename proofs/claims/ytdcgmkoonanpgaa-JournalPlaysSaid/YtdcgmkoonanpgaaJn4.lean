/- journal: a journal's methods. -/
import Derived.Test.YtdcgmkoonanpgaaJn3
namespace Go.Proofs.Ytdcgmkoonanpgaa
set_option linter.unusedSimpArgs false
set_option linter.unusedVariables false
open Go.RowKit Sym Go.Conc.Locks

theorem Sym.M.offBag {w0 w : World} {S : Nat → Prop} {rs : List Rg} {hs : List Hd} {ls : List (List UInt8)} {q : Rg} (h : M w0 S w rs) (i j : Nat) (hne : i ≠ j) (hi : rs[i]? = some (Rg.bag hs ls)) (hj : rs[j]? = some q) {k : Nat} (hk : k < ls.length) : Off (fpU [q]) (slv (hs[k]'(by rw [(h.bag i hi).1]; exact hk))) ls[k] := by
  by_cases e : ls[k] = []
  · exact .inl e
  · exact .inr fun hf => h.sep.apart i j _ q hi hj hne _ ⟨k, _, _, List.getElem?_eq_getElem _, List.getElem?_eq_getElem hk, e, rfl⟩ (fp1.1 hf)
theorem lock_ret (b : Nat) (vr : Value) (n : Nat) (w : World) (hs : Sep w [jb b 0 vr n]) :
    Ret Try.prog 53 #[jp b] w fun v w' => v = .bool true ∧ M w (fpU [jb b 0 vr n]) w' [jb b 1 vr n] := by
  have hM := M.startS hs
  refine enter Try.func53 rfl (by kernel_rfl) Try.ntmps53 rfl ?_
  refine C.seq <| C.region <| E.asg rfl rfl <| E.nil <| X.next <| C.seq <| C.seq <| C.region <| E.mv rfl rfl <| E.eqnil rfl rfl Try.underlying33 rfl <| E.nil <| X.next <| ?_
  refine C.cond rfl (fun hC0 => ?_) (fun hC0 => ?_)
  ·
    cases hC0
  ·
    refine C.skip <| X.next <| C.seq <| C.region <| E.mv rfl rfl <| E.nilc rfl rfl <| ?_
    refine E.fld (o := 0) (sz := 1) rfl Try.underlying64 rfl rfl (by kernel_rfl) rfl ?_
    refine E.call rfl rfl (lockR muLib lockC 0 hM rfl rfl) ?_
    rintro _ w1 ⟨rfl, hM⟩
    skip
    try dsimp only [List.nil_append, List.cons_append, List.set_cons_zero, List.set_cons_succ, repl] at hM
    refine E.nil <| X.next <| C.seq <| C.seq <| C.region <| E.mv rfl rfl <| E.nilc rfl rfl <| ?_
    refine E.fld (o := 2) (sz := 0) rfl Try.underlying64 rfl rfl (by kernel_rfl) rfl ?_
    refine E.load rfl Try.underlying4 rfl (by first | exact hM.bcell 0 rfl rfl | exact hM.bcell 1 rfl rfl | exact hM.bcell 2 rfl rfl | exact hM.bcell 3 rfl rfl | exact hM.bcell 4 rfl rfl | exact hM.bcell 5 rfl rfl) rfl ?_
    refine E.not rfl rfl <| E.nil <| X.next <| ?_
    refine C.cond rfl (fun hC1 => ?_) (fun hC1 => ?_)
    ·
      cases hC1
    ·
      refine C.skip <| X.next <| C.seq <| C.region <| E.asg rfl rfl <| E.nil <| X.next <| C.ret <| ret1 rfl rfl ?_
      exact ⟨rfl, hM⟩

/-- what Append answers -/
def AppSp (ls : LL) (m : List UInt8) (e : Int) (ls' : LL) : Prop :=
  (4194304 < m.length ∧ e = 4 ∧ ls' = ls) ∨ (m.length ≤ 4194304 ∧ (ls.length = 65536 ∨ 16777216 < Jn.siz ls + m.length + 8) ∧ e = 16 ∧ ls' = ls) ∨
  (m.length ≤ 4194304 ∧ ls.length < 65536 ∧ Jn.siz ls + m.length + 8 ≤ 16777216 ∧ e = 0 ∧ ls' = ls ++ [m])
theorem AppSp.ok {ls ls' : LL} {m : List UInt8} {e : Int} (h : AppSp ls m e ls') (hok : Jok ls) : Jok ls' := by
  rcases h with ⟨_, _, rfl⟩ | ⟨_, _, _, rfl⟩ | ⟨h1, h2, h3, _, rfl⟩
  · exact hok
  · exact hok
  · refine ⟨by rw [List.length_append, List.length_singleton]; omega, by rw [Jn.siz_app, Jn.siz_one]; omega, fun p hp => ?_⟩
    rcases List.mem_append.1 hp with hp | hp
    · exact hok.2.2 p hp
    · rw [List.mem_singleton] at hp; rw [hp]; exact h1
set_option maxHeartbeats 2000000 in
theorem Append_ret (b : Nat) (vr : Value) (hs : List Hd) (ls : LL) (q : Value) (m : List UInt8) (w : World) (hJ : Sep w (J3 b vr hs ls)) (hok : Jok ls) (hq : ∀ w', FrS (fpU (J3 b vr hs ls)) w w' → RdL u8 w' q m) :
    Ret Try.prog 27 #[jp b, q] w fun v w' => ∃ e ls', v = i64 e ∧ AppSp ls m e ls' ∧ Jout b ls' w (fpU (J3 b vr hs ls)) w' [] := by
  have hM := M.startS hJ
  refine enterD Try.func27 rfl (by kernel_rfl) Try.ntmps27 rfl ?_
  refine C.seq <| C.region <| E.asg rfl rfl <| E.nil <| X.next <| C.seq <| C.seq <| C.region <| E.mv rfl rfl <| ?_
  refine E.call rfl rfl (lock_ret b _ _ _ (hM.sep1 0 rfl)) ?_
  rintro _ w1 ⟨rfl, m1⟩
  have hM := hM.call1 0 rfl (by simp) m1
  try dsimp only [List.nil_append, List.cons_append, List.set_cons_zero, List.set_cons_succ, repl] at hM
  have hsl := (hM.bag 2 rfl).1
  have hlen := hok.1
  have hsz := hok.2.1
  have hml := Rd.le (hq _ hM.fr)
  refine E.not rfl rfl <| E.nil <| X.next <| ?_
  refine C.cond rfl (fun hC0 => ?_) (fun hC0 => ?_)
  ·
    cases hC0
  ·
    clear hC0
    refine C.skip <| X.next <| C.seq <| C.region <| E.mv rfl rfl <| E.nilc rfl rfl <| ?_
    refine E.fld (o := 0) (sz := 1) rfl Try.underlying64 rfl rfl (by kernel_rfl) rfl ?_
    refine E.defer rfl ?_
    refine E.nil <| X.next <| C.seq <| C.seq <| C.region <| E.mv rfl rfl <| ?_
    refine E.lenv rfl (Rd.shape (hq _ hM.fr)) Try.underlying22 rfl ?_
    refine E.bin rfl rfl rfl rfl <| E.nil <| X.next <| ?_
    refine C.cond' rfl (fun hC1 => ?_) (fun hC1 => ?_)
    ·
      refine C.seq <| C.region <| E.asg rfl rfl <| E.nil <| X.next <| C.ret <| X.retT <| retU muLib unlockC 0 hM rfl rfl (fun a w' ha => res1 rfl rfl a ha) ?_
      exact fun w' hM => ⟨_, _, rfl, .inl ⟨by omega, rfl, rfl⟩, _, _, hM⟩
    ·
      refine C.skip <| X.next <| C.seq <| ?_

      refine C.chainE [(0, _), (1, _)] rfl [(30, .bool (decide (ls.length = 65536 ∨ 16777216 < Jn.siz ls + m.length + 8)))] ?_ ?_
      ·
        refine C.region <| E.mv rfl rfl <| E.nilc rfl rfl <| ?_
        refine E.fld (o := 3) (sz := 0) rfl Try.underlying64 rfl rfl (by kernel_rfl) rfl ?_
        refine E.load rfl Try.underlying27 rfl (by first | exact hM.bcell 0 rfl rfl | exact hM.bcell 1 rfl rfl | exact hM.bcell 2 rfl rfl | exact hM.bcell 3 rfl rfl | exact hM.bcell 4 rfl rfl | exact hM.bcell 5 rfl rfl) rfl ?_
        refine E.lenv rfl (Rd.shape (by first | exact hM.sl 0 rfl | exact hM.sl 1 rfl | exact hM.sl 2 rfl | exact hM.sl 3 rfl | exact hM.sl 4 rfl | exact hM.sl 5 rfl | exact hM.arg0 (by assumption) | exact hM.arg (by assumption) (by assumption) | assumption)) Try.underlying27 rfl ?_
        refine E.bin rfl rfl rfl rfl <| E.mv rfl rfl <| ?_
        refine E.split 20 rfl (fun g20 => ?_) (fun g20 => ?_)
        ·
          try simp only [decide_eq_true_eq, decide_eq_false_iff_not, ne_eq, Decidable.not_not, Bool.not_eq_true', Bool.not_eq_false'] at g20
          refine E.off rfl rfl rfl rfl <| E.off rfl rfl rfl rfl <| E.off rfl rfl rfl rfl <| E.off rfl rfl rfl rfl <| E.off rfl rfl rfl rfl <| E.off rfl rfl rfl rfl <| E.off rfl rfl rfl rfl <| E.off rfl rfl rfl rfl <| E.off rfl rfl rfl rfl <| E.pick rfl rfl rfl <| E.nil <| X.join0 (Sub.cons (by (first | exact leaf_f (by omega) | exact leaf_t (by omega) | exact leaf_d (by omega) | exact leaf_f (by first | (simp [*] <;> fail) | omega) | exact leaf_t (by first | (simp [*] <;> fail) | omega) | exact leaf_d (by first | (simp [*] <;> fail) | omega) | exact leaf_f (by (first | omega | ((try simp only [decide_eq_true_eq, decide_eq_false_iff_not, Bool.not_eq_true', Bool.not_eq_false'] at *); first | omega | (simp_all <;> fail) | (simp_all; omega)))) | exact leaf_t (by (first | omega | ((try simp only [decide_eq_true_eq, decide_eq_false_iff_not, Bool.not_eq_true', Bool.not_eq_false'] at *); first | omega | (simp_all <;> fail) | (simp_all; omega)))) | exact leaf_d (by (first | omega | ((try simp only [decide_eq_true_eq, decide_eq_false_iff_not, Bool.not_eq_true', Bool.not_eq_false'] at *); first | omega | (simp_all <;> fail) | (simp_all; omega)))))) <| Sub.nil _) rfl rfl
        ·
          try simp only [decide_eq_true_eq, decide_eq_false_iff_not, ne_eq, Decidable.not_not, Bool.not_eq_true', Bool.not_eq_false'] at g20
          refine E.on rfl rfl (E.mv rfl rfl ?_)
          refine E.on rfl rfl (E.nilc rfl rfl ?_)
          refine E.on rfl rfl (E.fld (o := 4) (sz := 0) rfl Try.underlying64 rfl rfl (by kernel_rfl) rfl ?_)
          refine E.on rfl rfl (E.load rfl Try.underlying3 rfl (by first | exact hM.bcell 0 rfl rfl | exact hM.bcell 1 rfl rfl | exact hM.bcell 2 rfl rfl | exact hM.bcell 3 rfl rfl | exact hM.bcell 4 rfl rfl | exact hM.bcell 5 rfl rfl) rfl ?_)
          refine E.on rfl rfl (E.mv rfl rfl ?_)
          refine E.on rfl rfl (E.lenv rfl (Rd.shape (hq _ hM.fr)) Try.underlying22 rfl ?_)
          refine E.on rfl rfl (E.addN rfl rfl (by first | omega | (simp only [List.length_replicate, List.length_append, List.length_set, List.length_cons, List.length_nil, List.length_map, List.length_range, List.length_take, List.length_drop, List.length_zipWith] at *; omega)) rfl ?_)
          refine E.on rfl rfl (E.addN (b := 8) rfl rfl (by first | omega | (simp only [List.length_replicate, List.length_append, List.length_set, List.length_cons, List.length_nil, List.length_map, List.length_range, List.length_take, List.length_drop, List.length_zipWith] at *; omega)) rfl ?_)
          refine E.on rfl rfl (E.bin rfl rfl rfl rfl ?_)
          refine E.pick rfl rfl rfl <| E.nil <| X.join0 (Sub.cons (by (first | exact leaf_f (by omega) | exact leaf_t (by omega) | exact leaf_d (by omega) | exact leaf_f (by first | (simp [*] <;> fail) | omega) | exact leaf_t (by first | (simp [*] <;> fail) | omega) | exact leaf_d (by first | (simp [*] <;> fail) | omega) | exact leaf_f (by (first | omega | ((try simp only [decide_eq_true_eq, decide_eq_false_iff_not, Bool.not_eq_true', Bool.not_eq_false'] at *); first | omega | (simp_all <;> fail) | (simp_all; omega)))) | exact leaf_t (by (first | omega | ((try simp only [decide_eq_true_eq, decide_eq_false_iff_not, Bool.not_eq_true', Bool.not_eq_false'] at *); first | omega | (simp_all <;> fail) | (simp_all; omega)))) | exact leaf_d (by (first | omega | ((try simp only [decide_eq_true_eq, decide_eq_false_iff_not, Bool.not_eq_true', Bool.not_eq_false'] at *); first | omega | (simp_all <;> fail) | (simp_all; omega)))))) <| Sub.nil _) rfl rfl
      refine C.cond' rfl (fun hC2 => ?_) (fun hC2 => ?_)
      ·
        refine C.seq <| C.region <| E.asg rfl rfl <| E.nil <| X.next <| C.ret <| X.retT <| retU muLib unlockC 0 hM rfl rfl (fun a w' ha => res1 rfl rfl a ha) ?_
        exact fun w' hM => ⟨_, _, rfl, .inr (.inl ⟨by omega, hC2, rfl, rfl⟩), _, _, hM⟩
      ·
        refine C.skip <| X.next <| ?_

        refine C.cut2 [(0, _), (1, _)] rfl (fun (vn : Value) (hn : (List Hd)) => []) (fun (vn : Value) (hn : (List Hd)) w' => M w (fpU (J3 b vr hs ls)) w' [jb b 1 vn (Jn.siz ls), Rg.sl slv 22 vn hn, Rg.bag hn (ls ++ [m])]) ?_ ?_
        ·
          refine C.heldM hM [2] (by decide) (by kernel_rfl) fun wh1 hM hS => ?_
          refine H.take 0 rfl rfl (by kernel_rfl) (by kernel_rfl) (by kernel_rfl) hS (fun w' hM => Y.mv rfl) rfl ?_
          refine H.take 1 rfl rfl (by kernel_rfl) (by kernel_rfl) (by kernel_rfl) hS (fun w' hM => Y.mv rfl) rfl ?_
          refine H.take 2 rfl rfl (by kernel_rfl) (by kernel_rfl) (by kernel_rfl) hS (fun w' hM => Y.nilc rfl) rfl ?_
          refine H.takeV 3 rfl rfl (by kernel_rfl) (by kernel_rfl) (by kernel_rfl) hS (Y.fld (o := 3) (sz := 0) rfl Try.underlying64 rfl rfl (by kernel_rfl)) (fun w' hM => Y.fld (o := 3) (sz := 0) rfl Try.underlying64 rfl rfl (by kernel_rfl)) rfl ?_
          refine H.take 5 rfl rfl (by kernel_rfl) (by kernel_rfl) (by kernel_rfl) hS (fun w' hM => Y.mv rfl) rfl ?_
          refine H.two 4 6 rfl rfl (by kernel_rfl) ?_ ?_
          ·
            refine E.load rfl Try.underlying27 rfl (by first | exact hM.bcell 0 rfl rfl | exact hM.bcell 1 rfl rfl | exact hM.bcell 2 rfl rfl | exact hM.bcell 3 rfl rfl | exact hM.bcell 4 rfl rfl | exact hM.bcell 5 rfl rfl) rfl ?_
            have hS := hM.pick [2] (by decide)
            refine H.back hS ?_
            refine H.only 6 rfl (by kernel_rfl) ?_
            have hM := hM.nil u8 5
            try dsimp only [List.nil_append, List.cons_append, List.set_cons_zero, List.set_cons_succ, repl] at hM
            refine E.appendM 3 hM rfl rfl rfl Try.underlying22 elem_Tuint8 (hq _ hM.fr) (fun _ => rfl) (by simp only [List.length_nil]; omega) (by simp only [List.length_nil]; omega) rfl ?_
            intro v37 w2 hM
            try dsimp only [List.nil_append, List.cons_append, List.set_cons_zero, List.set_cons_succ, repl] at hM
            obtain ⟨x37, rfl⟩ := own_head (hM.own 3 rfl)
            have hS := hM.pick [2] (by decide)
            refine H.back hS ?_
            refine H.only 7 rfl (by kernel_rfl) ?_
            refine E.mk1M (enc := slv) x37 hM rfl Try.underlying27 elem_Tsl_uint8 rfl rfl ?_
            intro v38 w3 hM
            try dsimp only [List.nil_append, List.cons_append, List.set_cons_zero, List.set_cons_succ, repl] at hM
            have hS := hM.pick [2] (by decide)
            refine H.back hS ?_
            refine H.only 8 rfl (by kernel_rfl) ?_
            refine E.appendM 1 hM rfl rfl rfl Try.underlying27 elem_Tsl_uint8 (hM.sl 4 rfl) (fun _ => rfl) (by simp only [List.length_singleton]; omega) (by simp only [List.length_singleton]; omega) rfl ?_
            intro v39 w4 hM
            try dsimp only [List.nil_append, List.cons_append, List.set_cons_zero, List.set_cons_succ, repl] at hM
            have hS := hM.pick [2] (by decide)
            refine H.back hS ?_
            refine H.take 9 rfl rfl (by kernel_rfl) (by kernel_rfl) (by kernel_rfl) hS (fun w' hM => Y.nilc rfl) rfl ?_
            refine H.takeV 10 rfl rfl (by kernel_rfl) (by kernel_rfl) (by kernel_rfl) hS (Y.fld (o := 3) (sz := 0) rfl Try.underlying64 rfl rfl (by kernel_rfl)) (fun w' hM => Y.fld (o := 3) (sz := 0) rfl Try.underlying64 rfl rfl (by kernel_rfl)) rfl ?_
            refine H.only 11 rfl (by kernel_rfl) ?_
            first
              | refine E.storeM 0 hM rfl rfl rfl (by kernel_rfl) ?_ rfl ?_
              | refine E.storeM 1 hM rfl rfl rfl (by kernel_rfl) ?_ rfl ?_
              | refine E.storeM 2 hM rfl rfl rfl (by kernel_rfl) ?_ rfl ?_
              | refine E.storeM 3 hM rfl rfl rfl (by kernel_rfl) ?_ rfl ?_
              | refine E.storeM 4 hM rfl rfl rfl (by kernel_rfl) ?_ rfl ?_
              | refine E.storeM 5 hM rfl rfl rfl (by kernel_rfl) ?_ rfl ?_
            · exact (by first | rfl | exact (hM.sl 0 rfl).one | exact (hM.sl 1 rfl).one | exact (hM.sl 2 rfl).one | exact (hM.sl 3 rfl).one | exact (hM.sl 4 rfl).one | exact (hM.sl 5 rfl).one | exact (hM.slF 0 rfl).one | exact (hM.slF 1 rfl).one | exact (hM.slF 2 rfl).one | exact (hM.slF 3 rfl).one | exact (hM.slF 4 rfl).one | exact (hM.slF 5 rfl).one | exact RdL.one (by assumption) | exact RdF.one (by assumption) | assumption)
            intro w5 hM
            try dsimp only [List.nil_append, List.cons_append, List.set_cons_zero, List.set_cons_succ, repl] at hM
            have hS := hM.pick [2] (by decide)
            refine H.back hS ?_
            refine H.done (by kernel_rfl) ?_
            have hM := hM.bagPush 2 3 (by decide) rfl rfl
            try dsimp only [List.nil_append, List.cons_append, List.set_cons_zero, List.set_cons_succ, repl] at hM

            refine X.join2 _ _ (Sub.nil _) rfl (hM.pick [0, 1, 2] (by decide))
          ·
            have hM := hM.nil u8 5
            try dsimp only [List.nil_append, List.cons_append, List.set_cons_zero, List.set_cons_succ, repl] at hM
            refine E.appendM 3 hM rfl rfl rfl Try.underlying22 elem_Tuint8 (hq _ hM.fr) (fun _ => rfl) (by simp only [List.length_nil]; omega) (by simp only [List.length_nil]; omega) rfl ?_
            intro v37 w6 hM
            try dsimp only [List.nil_append, List.cons_append, List.set_cons_zero, List.set_cons_succ, repl] at hM
            obtain ⟨x37, rfl⟩ := own_head (hM.own 3 rfl)
            have hS := hM.pick [2] (by decide)
            refine H.back hS ?_
            refine H.two 4 7 rfl rfl (by kernel_rfl) ?_ ?_
            ·
              refine E.load rfl Try.underlying27 rfl (by first | exact hM.bcell 0 rfl rfl | exact hM.bcell 1 rfl rfl | exact hM.bcell 2 rfl rfl | exact hM.bcell 3 rfl rfl | exact hM.bcell 4 rfl rfl | exact hM.bcell 5 rfl rfl) rfl ?_
              have hS := hM.pick [2] (by decide)
              refine H.back hS ?_
              refine H.only 7 rfl (by kernel_rfl) ?_
              refine E.mk1M (enc := slv) x37 hM rfl Try.underlying27 elem_Tsl_uint8 rfl rfl ?_
              intro v38 w7 hM
              try dsimp only [List.nil_append, List.cons_append, List.set_cons_zero, List.set_cons_succ, repl] at hM
              have hS := hM.pick [2] (by decide)
              refine H.back hS ?_
              refine H.only 8 rfl (by kernel_rfl) ?_
              refine E.appendM 1 hM rfl rfl rfl Try.underlying27 elem_Tsl_uint8 (hM.sl 4 rfl) (fun _ => rfl) (by simp only [List.length_singleton]; omega) (by simp only [List.length_singleton]; omega) rfl ?_
              intro v39 w8 hM
              try dsimp only [List.nil_append, List.cons_append, List.set_cons_zero, List.set_cons_succ, repl] at hM
              have hS := hM.pick [2] (by decide)
              refine H.back hS ?_
              refine H.take 9 rfl rfl (by kernel_rfl) (by kernel_rfl) (by kernel_rfl) hS (fun w' hM => Y.nilc rfl) rfl ?_
              refine H.takeV 10 rfl rfl (by kernel_rfl) (by kernel_rfl) (by kernel_rfl) hS (Y.fld (o := 3) (sz := 0) rfl Try.underlying64 rfl rfl (by kernel_rfl)) (fun w' hM => Y.fld (o := 3) (sz := 0) rfl Try.underlying64 rfl rfl (by kernel_rfl)) rfl ?_
              refine H.only 11 rfl (by kernel_rfl) ?_
              first
                | refine E.storeM 0 hM rfl rfl rfl (by kernel_rfl) ?_ rfl ?_
                | refine E.storeM 1 hM rfl rfl rfl (by kernel_rfl) ?_ rfl ?_
                | refine E.storeM 2 hM rfl rfl rfl (by kernel_rfl) ?_ rfl ?_
                | refine E.storeM 3 hM rfl rfl rfl (by kernel_rfl) ?_ rfl ?_
                | refine E.storeM 4 hM rfl rfl rfl (by kernel_rfl) ?_ rfl ?_
                | refine E.storeM 5 hM rfl rfl rfl (by kernel_rfl) ?_ rfl ?_
              · exact (by first | rfl | exact (hM.sl 0 rfl).one | exact (hM.sl 1 rfl).one | exact (hM.sl 2 rfl).one | exact (hM.sl 3 rfl).one | exact (hM.sl 4 rfl).one | exact (hM.sl 5 rfl).one | exact (hM.slF 0 rfl).one | exact (hM.slF 1 rfl).one | exact (hM.slF 2 rfl).one | exact (hM.slF 3 rfl).one | exact (hM.slF 4 rfl).one | exact (hM.slF 5 rfl).one | exact RdL.one (by assumption) | exact RdF.one (by assumption) | assumption)
              intro w9 hM
              try dsimp only [List.nil_append, List.cons_append, List.set_cons_zero, List.set_cons_succ, repl] at hM
              have hS := hM.pick [2] (by decide)
              refine H.back hS ?_
              refine H.done (by kernel_rfl) ?_
              have hM := hM.bagPush 2 3 (by decide) rfl rfl
              try dsimp only [List.nil_append, List.cons_append, List.set_cons_zero, List.set_cons_succ, repl] at hM

              refine X.join2 _ _ (Sub.nil _) rfl (hM.pick [0, 1, 2] (by decide))
            ·
              refine E.mk1M (enc := slv) x37 hM rfl Try.underlying27 elem_Tsl_uint8 rfl rfl ?_
              intro v38 w10 hM
              try dsimp only [List.nil_append, List.cons_append, List.set_cons_zero, List.set_cons_succ, repl] at hM
              have hS := hM.pick [2] (by decide)
              refine H.back hS ?_
              refine H.only 4 rfl (by kernel_rfl) ?_
              refine E.load rfl Try.underlying27 rfl (by first | exact hM.bcell 0 rfl rfl | exact hM.bcell 1 rfl rfl | exact hM.bcell 2 rfl rfl | exact hM.bcell 3 rfl rfl | exact hM.bcell 4 rfl rfl | exact hM.bcell 5 rfl rfl) rfl ?_
              have hS := hM.pick [2] (by decide)
              refine H.back hS ?_
              refine H.only 8 rfl (by kernel_rfl) ?_
              refine E.appendM 1 hM rfl rfl rfl Try.underlying27 elem_Tsl_uint8 (hM.sl 4 rfl) (fun _ => rfl) (by simp only [List.length_singleton]; omega) (by simp only [List.length_singleton]; omega) rfl ?_
              intro v39 w11 hM
              try dsimp only [List.nil_append, List.cons_append, List.set_cons_zero, List.set_cons_succ, repl] at hM
              have hS := hM.pick [2] (by decide)
              refine H.back hS ?_
              refine H.take 9 rfl rfl (by kernel_rfl) (by kernel_rfl) (by kernel_rfl) hS (fun w' hM => Y.nilc rfl) rfl ?_
              refine H.takeV 10 rfl rfl (by kernel_rfl) (by kernel_rfl) (by kernel_rfl) hS (Y.fld (o := 3) (sz := 0) rfl Try.underlying64 rfl rfl (by kernel_rfl)) (fun w' hM => Y.fld (o := 3) (sz := 0) rfl Try.underlying64 rfl rfl (by kernel_rfl)) rfl ?_
              refine H.only 11 rfl (by kernel_rfl) ?_
              first
                | refine E.storeM 0 hM rfl rfl rfl (by kernel_rfl) ?_ rfl ?_
                | refine E.storeM 1 hM rfl rfl rfl (by kernel_rfl) ?_ rfl ?_
                | refine E.storeM 2 hM rfl rfl rfl (by kernel_rfl) ?_ rfl ?_
                | refine E.storeM 3 hM rfl rfl rfl (by kernel_rfl) ?_ rfl ?_
                | refine E.storeM 4 hM rfl rfl rfl (by kernel_rfl) ?_ rfl ?_
                | refine E.storeM 5 hM rfl rfl rfl (by kernel_rfl) ?_ rfl ?_
              · exact (by first | rfl | exact (hM.sl 0 rfl).one | exact (hM.sl 1 rfl).one | exact (hM.sl 2 rfl).one | exact (hM.sl 3 rfl).one | exact (hM.sl 4 rfl).one | exact (hM.sl 5 rfl).one | exact (hM.slF 0 rfl).one | exact (hM.slF 1 rfl).one | exact (hM.slF 2 rfl).one | exact (hM.slF 3 rfl).one | exact (hM.slF 4 rfl).one | exact (hM.slF 5 rfl).one | exact RdL.one (by assumption) | exact RdF.one (by assumption) | assumption)
              intro w12 hM
              try dsimp only [List.nil_append, List.cons_append, List.set_cons_zero, List.set_cons_succ, repl] at hM
              have hS := hM.pick [2] (by decide)
              refine H.back hS ?_
              refine H.done (by kernel_rfl) ?_
              have hM := hM.bagPush 2 3 (by decide) rfl rfl
              try dsimp only [List.nil_append, List.cons_append, List.set_cons_zero, List.set_cons_succ, repl] at hM

              refine X.join2 _ _ (Sub.nil _) rfl (hM.pick [0, 1, 2] (by decide))
        rintro vn hn w13 hM
        refine C.seq <| C.region <| E.mv rfl rfl <| E.nilc rfl rfl <| ?_
        refine E.fld (o := 4) (sz := 0) rfl Try.underlying64 rfl rfl (by kernel_rfl) rfl ?_
        refine E.load rfl Try.underlying3 rfl (by first | exact hM.bcell 0 rfl rfl | exact hM.bcell 1 rfl rfl | exact hM.bcell 2 rfl rfl | exact hM.bcell 3 rfl rfl | exact hM.bcell 4 rfl rfl | exact hM.bcell 5 rfl rfl) rfl ?_
        refine E.mv rfl rfl <| ?_
        refine E.lenv rfl (Rd.shape (hq _ hM.fr)) Try.underlying22 rfl ?_
        refine E.addN (b := 8) rfl rfl (by first | omega | (simp only [List.length_replicate, List.length_append, List.length_set, List.length_cons, List.length_nil, List.length_map, List.length_range, List.length_take, List.length_drop, List.length_zipWith] at *; omega)) rfl ?_
        refine E.addN rfl rfl (by first | omega | (simp only [List.length_replicate, List.length_append, List.length_set, List.length_cons, List.length_nil, List.length_map, List.length_range, List.length_take, List.length_drop, List.length_zipWith] at *; omega)) rfl ?_
        rw [show Jn.siz ls + (m.length + 8) = Jn.siz (ls ++ [m]) from by rw [Jn.siz_app, Jn.siz_one]]
        refine E.nilc rfl rfl <| ?_
        refine E.fld (o := 4) (sz := 0) rfl Try.underlying64 rfl rfl (by kernel_rfl) rfl ?_
        first
          | refine E.storeM 0 hM rfl rfl rfl (by kernel_rfl) ?_ rfl ?_
          | refine E.storeM 1 hM rfl rfl rfl (by kernel_rfl) ?_ rfl ?_
          | refine E.storeM 2 hM rfl rfl rfl (by kernel_rfl) ?_ rfl ?_
          | refine E.storeM 3 hM rfl rfl rfl (by kernel_rfl) ?_ rfl ?_
          | refine E.storeM 4 hM rfl rfl rfl (by kernel_rfl) ?_ rfl ?_
          | refine E.storeM 5 hM rfl rfl rfl (by kernel_rfl) ?_ rfl ?_
        · exact (by first | rfl | exact (hM.sl 0 rfl).one | exact (hM.sl 1 rfl).one | exact (hM.sl 2 rfl).one | exact (hM.sl 3 rfl).one | exact (hM.sl 4 rfl).one | exact (hM.sl 5 rfl).one | exact (hM.slF 0 rfl).one | exact (hM.slF 1 rfl).one | exact (hM.slF 2 rfl).one | exact (hM.slF 3 rfl).one | exact (hM.slF 4 rfl).one | exact (hM.slF 5 rfl).one | exact RdL.one (by assumption) | exact RdF.one (by assumption) | assumption)
        intro w14 hM
        try dsimp only [List.nil_append, List.cons_append, List.set_cons_zero, List.set_cons_succ, repl] at hM
        refine E.nil <| X.next <| C.seq <| C.region <| E.asg rfl rfl <| E.nil <| X.next <| C.ret <| retU muLib unlockC 0 hM rfl rfl (fun a w' ha => res1 rfl rfl a ha) ?_
        exact fun w' hM => ⟨_, _, rfl, .inr (.inr ⟨by omega, by omega, by omega, rfl, rfl⟩), _, _, hM⟩

theorem Records_ret (b : Nat) (vr : Value) (hs : List Hd) (ls : LL) (w : World) (hJ : Sep w (J3 b vr hs ls)) (hok : Jok ls) :
    Ret Try.prog 24 #[jp b] w fun v w' => ∃ hs', Jout b ls w (fpU (J3 b vr hs ls)) w' [Rg.sl slv 22 v hs', Rg.bag hs' ls] := by
  have hM := M.startS hJ
  refine enterD Try.func24 rfl (by kernel_rfl) Try.ntmps24 rfl ?_
  refine C.seq <| C.region <| E.asg rfl rfl <| E.nil <| X.next <| C.seq <| C.seq <| C.region <| E.mv rfl rfl <| ?_
  refine E.call rfl rfl (lock_ret b _ _ _ (hM.sep1 0 rfl)) ?_
  rintro _ w1 ⟨rfl, m1⟩
  have hM := hM.call1 0 rfl (by simp) m1
  try dsimp only [List.nil_append, List.cons_append, List.set_cons_zero, List.set_cons_succ, repl] at hM
  refine E.not rfl rfl <| E.nil <| X.next <| ?_
  refine C.cond rfl (fun hC0 => ?_) (fun hC0 => ?_)
  ·
    cases hC0
  ·
    clear hC0
    refine C.skip <| X.next <| C.seq <| C.region <| E.mv rfl rfl <| E.nilc rfl rfl <| ?_
    refine E.fld (o := 0) (sz := 1) rfl Try.underlying64 rfl rfl (by kernel_rfl) rfl ?_
    refine E.defer rfl ?_
    refine E.nil <| X.next <| C.seq <| C.region <| E.mv rfl rfl <| E.nilc rfl rfl <| ?_
    refine E.fld (o := 3) (sz := 0) rfl Try.underlying64 rfl rfl (by kernel_rfl) rfl ?_
    refine E.load rfl Try.underlying27 rfl (by first | exact hM.bcell 0 rfl rfl | exact hM.bcell 1 rfl rfl | exact hM.bcell 2 rfl rfl | exact hM.bcell 3 rfl rfl | exact hM.bcell 4 rfl rfl | exact hM.bcell 5 rfl rfl) rfl ?_
    refine E.call rfl rfl (copies_ret vr hs ls _ (hM.sl 1 rfl) (hM.bag 2 rfl) (by have := hok.1; omega) (fun q hq => by have := hok.2.2 q hq; omega)) ?_
    rintro v13 w2 ⟨hs', m⟩
    have hM := hM.call m
    try dsimp only [List.nil_append, List.cons_append, List.set_cons_zero, List.set_cons_succ, repl] at hM
    refine E.asg rfl rfl <| E.nil <| X.next <| C.ret <| retU muLib unlockC 0 hM rfl rfl (fun a w' ha => res1 rfl rfl a ha) ?_
    exact fun w' hM => ⟨hs', _, _, hM⟩

set_option maxHeartbeats 1000000 in
theorem Bytes_ret (b : Nat) (vr : Value) (hs : List Hd) (ls : LL) (w : World) (hJ : Sep w (J3 b vr hs ls)) (hok : Jok ls) :
    Ret Try.prog 22 #[jp b] w fun v w' => Jout b ls w (fpU (J3 b vr hs ls)) w' [Rg.sl u8 5 v (Jn.encs ls)] := by
  have hM := M.startS hJ
  refine enterD Try.func22 rfl (by kernel_rfl) Try.ntmps22 rfl ?_
  refine C.seq <| C.region <| E.asg rfl rfl <| E.nil <| X.next <| C.seq <| C.seq <| C.region <| E.mv rfl rfl <| ?_
  refine E.call rfl rfl (lock_ret b _ _ _ (hM.sep1 0 rfl)) ?_
  rintro _ w1 ⟨rfl, m1⟩
  have hM := hM.call1 0 rfl (by simp) m1
  try dsimp only [List.nil_append, List.cons_append, List.set_cons_zero, List.set_cons_succ, repl] at hM
  have hsl := (hM.bag 2 rfl).1
  have hlen := hok.1
  have hsz := hok.2.1
  refine E.not rfl rfl <| E.nil <| X.next <| ?_
  refine C.cond rfl (fun hC0 => ?_) (fun hC0 => ?_)
  ·
    cases hC0
  ·
    clear hC0
    refine C.skip <| X.next <| C.seq <| C.region <| E.mv rfl rfl <| E.nilc rfl rfl <| ?_
    refine E.fld (o := 0) (sz := 1) rfl Try.underlying64 rfl rfl (by kernel_rfl) rfl ?_
    refine E.defer rfl ?_
    refine E.nil <| X.next <| C.seq <| C.region <| E.mv rfl rfl <| E.nilc rfl rfl <| ?_
    refine E.fld (o := 4) (sz := 0) rfl Try.underlying64 rfl rfl (by kernel_rfl) rfl ?_
    refine E.load rfl Try.underlying3 rfl (by first | exact hM.bcell 0 rfl rfl | exact hM.bcell 1 rfl rfl | exact hM.bcell 2 rfl rfl | exact hM.bcell 3 rfl rfl | exact hM.bcell 4 rfl rfl | exact hM.bcell 5 rfl rfl) rfl ?_
    refine E.make0M (by_ := 1) (enc := u8) 0 hM rfl rfl Try.underlying22 (by kernel_rfl) rfl (by first | omega | (simp only [List.length_replicate, List.length_append, List.length_set, List.length_cons, List.length_nil, List.length_map, List.length_range, List.length_take, List.length_drop, List.length_zipWith] at *; omega)) (by first | omega | (simp only [List.length_replicate, List.length_append, List.length_set, List.length_cons, List.length_nil, List.length_map, List.length_range, List.length_take, List.length_drop, List.length_zipWith] at *; omega)) rfl ?_
    intro v16 w1 hM
    try dsimp only [List.nil_append, List.cons_append, List.set_cons_zero, List.set_cons_succ, repl] at hM
    refine E.asg rfl rfl <| E.nil <| X.next <| C.seq <| C.seq <| C.region <| E.mv rfl rfl <| E.nilc rfl rfl <| ?_
    refine E.fld (o := 3) (sz := 0) rfl Try.underlying64 rfl rfl (by kernel_rfl) rfl ?_
    refine E.load rfl Try.underlying27 rfl (by first | exact hM.bcell 0 rfl rfl | exact hM.bcell 1 rfl rfl | exact hM.bcell 2 rfl rfl | exact hM.bcell 3 rfl rfl | exact hM.bcell 4 rfl rfl | exact hM.bcell 5 rfl rfl) rfl ?_
    refine E.lenv rfl (Rd.shape (by first | exact hM.sl 0 rfl | exact hM.sl 1 rfl | exact hM.sl 2 rfl | exact hM.sl 3 rfl | exact hM.sl 4 rfl | exact hM.sl 5 rfl | exact hM.arg0 (by assumption) | exact hM.arg (by assumption) (by assumption) | assumption)) Try.underlying27 rfl ?_
    refine E.mv rfl rfl <| E.nil <| X.next <| C.block <| ?_

    refine C.loop2 [(20, _), (21, _)] rfl (fun (v3 : Value) (i : Nat) => [(3, v3), (22, i64 i)]) (fun (v3 : Value) (i : Nat) w' => M w (fpU (J3 b vr hs ls)) w' [jb b 1 vr (Jn.siz ls), Rg.sl slv 22 vr hs, Rg.bag hs ls, Rg.sl u8 5 v3 (Jn.encs (ls.take i))] ∧ i ≤ ls.length) (fun (v3 : Value) (i : Nat) => ls.length - i) v16 0 ?_ ?_ ?_
    · exact Sub.cons rfl <| Sub.cons rfl <| Sub.nil _
    · exact ⟨hM, Nat.zero_le _⟩
    rintro v3 i w2 ⟨hM, hi⟩
    refine C.seq <| C.region <| E.bin rfl rfl rfl rfl <| E.nil <| X.next <| C.seq <| ?_
    refine C.cond' rfl (fun hC1 => ?_) (fun hC1 => ?_)
    ·
      have hi' : i < ls.length := by omega
      have hsm := hok.2.2 ls[i] (List.getElem_mem hi')
      have hel := Jn.encs_len (ls.take i)
      have hmo := Jn.siz_mono ls i
      refine C.skip <| X.next <| C.seq <| C.block <| C.seq <| C.region <| ?_
      refine E.get (k := _) rfl rfl (by first | exact hM.sl 0 rfl | exact hM.sl 1 rfl | exact hM.sl 2 rfl | exact hM.sl 3 rfl | exact hM.sl 4 rfl | exact hM.sl 5 rfl | exact hM.arg0 (by assumption) | exact hM.arg (by assumption) (by assumption) | assumption) rfl (by first | omega | (simp only [List.length_replicate, List.length_append, List.length_set, List.length_cons, List.length_nil, List.length_map, List.length_range, List.length_take, List.length_drop, List.length_zipWith] at *; omega)) Try.underlying27 (by kernel_rfl) Try.underlying22 rfl rfl rfl ?_
      refine E.asg rfl rfl <| E.nil <| X.next <| C.region <| E.mv rfl rfl <| E.mv rfl rfl <| ?_
      refine E.call rfl rfl (appendRecord_ret v3 _ _ ls[i] _ (hM.sep1 3 rfl) ((hM.bag 2 rfl).at hi') (hM.offBag 2 3 (by decide) rfl rfl hi') (by omega) (by omega)) ?_
      rintro v28 w3 m3
      have hM := hM.call1 3 rfl (by simp) m3
      try dsimp only [List.nil_append, List.cons_append, List.set_cons_zero, List.set_cons_succ, repl] at hM
      refine E.asg rfl rfl <| E.nil <| X.outN <| X.next <| C.region <| ?_
      refine E.add rfl rfl (by omega) rfl ?_

      refine E.mv rfl rfl <| E.nil <| X.again2 _ (i + 1) (Sub.cons rfl <| Sub.cons rfl <| Sub.nil _) rfl ⟨by rw [← List.take_append_getElem hi', Jn.encs_app, show Jn.encs [ls[i]] = Jn.rec ls[i] from by simp [Jn.encs]]; exact hM, by omega⟩ (by omega)
    ·
      obtain rfl : i = ls.length := by omega
      rw [List.take_length] at hM
      refine C.exit <| X.exitT <| X.exitT <| X.outE <| X.next <| C.seq <| C.region <| E.mv rfl rfl <| E.asg rfl rfl <| E.nil <| X.next <| C.ret <| retU muLib unlockC 0 hM rfl rfl (fun a w' ha => res1 rfl rfl a ha) ?_
      exact fun w' hM => ⟨_, _, hM⟩

/-- what Truncate answers -/
def TruSp (ls : LL) (n e : Int) (ls' : LL) : Prop := ((n < 0 ∨ (Jn.siz ls : Int) < n) ∧ e = 3 ∧ ls' = ls) ∨ (0 ≤ n ∧ n ≤ (Jn.siz ls : Int) ∧ e = 0 ∧ ls' = ls.take (Jn.fit (Jn.siz ls - n.toNat) ls))
theorem Jok.take {ls : LL} (h : Jok ls) (k : Nat) : Jok (ls.take k) := ⟨by rw [List.length_take]; have := h.1; omega, Nat.le_trans (Jn.siz_mono ls k) h.2.1, fun p hp => h.2.2 p (List.mem_of_mem_take hp)⟩
theorem TruSp.ok {ls ls' : LL} {n e : Int} (h : TruSp ls n e ls') (hok : Jok ls) : Jok ls' := by
  rcases h with ⟨_, _, rfl⟩ | ⟨_, _, _, rfl⟩
  · exact hok
  · exact hok.take _
theorem siz_take_succ {ls : LL} {j : Nat} (h : j < ls.length) : Jn.siz (ls.take (j + 1)) = Jn.siz (ls.take j) + (ls[j].length + 8) := by
  rw [← List.take_append_getElem h, Jn.siz_app, Jn.siz_one]
set_option maxHeartbeats 2000000 in
set_option maxRecDepth 20000 in
theorem Truncate_ret (b : Nat) (vr : Value) (hs : List Hd) (ls : LL) (n : Int) (w : World) (hJ : Sep w (J3 b vr hs ls)) (hok : Jok ls) :
    Ret Try.prog 23 #[jp b, i64 n] w fun v w' => ∃ e ls', v = i64 e ∧ TruSp ls n e ls' ∧ Jout b ls' w (fpU (J3 b vr hs ls)) w' [] := by
  have hM := M.startS hJ
  refine enterD Try.func23 rfl (by kernel_rfl) Try.ntmps23 rfl ?_
  refine C.seq <| C.region <| E.asg rfl rfl <| E.nil <| X.next <| C.seq <| C.seq <| C.region <| E.mv rfl rfl <| ?_
  refine E.call rfl rfl (lock_ret b _ _ _ (hM.sep1 0 rfl)) ?_
  rintro _ w1 ⟨rfl, m1⟩
  have hM := hM.call1 0 rfl (by simp) m1
  try dsimp only [List.nil_append, List.cons_append, List.set_cons_zero, List.set_cons_succ, repl] at hM
  have hsl := (hM.bag 2 rfl).1
  have hlen := hok.1
  have hsz := hok.2.1
  refine E.not rfl rfl <| E.nil <| X.next <| ?_
  refine C.cond rfl (fun hC0 => ?_) (fun hC0 => ?_)
  ·
    cases hC0
  ·
    clear hC0
    refine C.skip <| X.next <| C.seq <| C.region <| E.mv rfl rfl <| E.nilc rfl rfl <| ?_
    refine E.fld (o := 0) (sz := 1) rfl Try.underlying64 rfl rfl (by kernel_rfl) rfl ?_
    refine E.defer rfl ?_
    refine E.nil <| X.next <| C.seq <| ?_

    refine C.chainE [(0, _), (1, _)] rfl [(22, .bool (decide (n < 0 ∨ (Jn.siz ls : Int) < n)))] ?_ ?_
    ·
      refine C.region <| E.mv rfl rfl <| E.bin rfl rfl rfl rfl <| E.mv rfl rfl <| ?_
      refine E.split 15 rfl (fun g15 => ?_) (fun g15 => ?_)
      ·
        try simp only [decide_eq_true_eq, decide_eq_false_iff_not, ne_eq, Decidable.not_not, Bool.not_eq_true', Bool.not_eq_false'] at g15
        refine E.off rfl rfl rfl rfl <| E.off rfl rfl rfl rfl <| E.off rfl rfl rfl rfl <| E.off rfl rfl rfl rfl <| E.off rfl rfl rfl rfl <| E.off rfl rfl rfl rfl <| E.pick rfl rfl rfl <| E.nil <| X.join0 (Sub.cons (by (first | exact leaf_f (by omega) | exact leaf_t (by omega) | exact leaf_d (by omega) | exact leaf_f (by first | (simp [*] <;> fail) | omega) | exact leaf_t (by first | (simp [*] <;> fail) | omega) | exact leaf_d (by first | (simp [*] <;> fail) | omega) | exact leaf_f (by (first | omega | ((try simp only [decide_eq_true_eq, decide_eq_false_iff_not, Bool.not_eq_true', Bool.not_eq_false'] at *); first | omega | (simp_all <;> fail) | (simp_all; omega)))) | exact leaf_t (by (first | omega | ((try simp only [decide_eq_true_eq, decide_eq_false_iff_not, Bool.not_eq_true', Bool.not_eq_false'] at *); first | omega | (simp_all <;> fail) | (simp_all; omega)))) | exact leaf_d (by (first | omega | ((try simp only [decide_eq_true_eq, decide_eq_false_iff_not, Bool.not_eq_true', Bool.not_eq_false'] at *); first | omega | (simp_all <;> fail) | (simp_all; omega)))))) <| Sub.nil _) rfl rfl
      ·
        try simp only [decide_eq_true_eq, decide_eq_false_iff_not, ne_eq, Decidable.not_not, Bool.not_eq_true', Bool.not_eq_false'] at g15
        refine E.on rfl rfl (E.mv rfl rfl ?_)
        refine E.on rfl rfl (E.mv rfl rfl ?_)
        refine E.on rfl rfl (E.nilc rfl rfl ?_)
        refine E.on rfl rfl (E.fld (o := 4) (sz := 0) rfl Try.underlying64 rfl rfl (by kernel_rfl) rfl ?_)
        refine E.on rfl rfl (E.load rfl Try.underlying3 rfl (by first | exact hM.bcell 0 rfl rfl | exact hM.bcell 1 rfl rfl | exact hM.bcell 2 rfl rfl | exact hM.bcell 3 rfl rfl | exact hM.bcell 4 rfl rfl | exact hM.bcell 5 rfl rfl) rfl ?_)
        refine E.on rfl rfl (E.bin rfl rfl rfl rfl ?_)
        refine E.pick rfl rfl rfl <| E.nil <| X.join0 (Sub.cons (by (first | exact leaf_f (by omega) | exact leaf_t (by omega) | exact leaf_d (by omega) | exact leaf_f (by first | (simp [*] <;> fail) | omega) | exact leaf_t (by first | (simp [*] <;> fail) | omega) | exact leaf_d (by first | (simp [*] <;> fail) | omega) | exact leaf_f (by (first | omega | ((try simp only [decide_eq_true_eq, decide_eq_false_iff_not, Bool.not_eq_true', Bool.not_eq_false'] at *); first | omega | (simp_all <;> fail) | (simp_all; omega)))) | exact leaf_t (by (first | omega | ((try simp only [decide_eq_true_eq, decide_eq_false_iff_not, Bool.not_eq_true', Bool.not_eq_false'] at *); first | omega | (simp_all <;> fail) | (simp_all; omega)))) | exact leaf_d (by (first | omega | ((try simp only [decide_eq_true_eq, decide_eq_false_iff_not, Bool.not_eq_true', Bool.not_eq_false'] at *); first | omega | (simp_all <;> fail) | (simp_all; omega)))))) <| Sub.nil _) rfl rfl
    refine C.cond' rfl (fun hC1 => ?_) (fun hC1 => ?_)
    ·
      refine C.seq <| C.region <| E.asg rfl rfl <| E.nil <| X.next <| C.ret <| X.retT <| retU muLib unlockC 0 hM rfl rfl (fun a w' ha => res1 rfl rfl a ha) ?_
      exact fun w' hM => ⟨_, _, rfl, .inl ⟨hC1, rfl, rfl⟩, _, _, hM⟩
    ·
      obtain ⟨n, rfl⟩ : ∃ n' : Nat, n = (n' : Int) := ⟨n.toNat, by omega⟩
      have hn : n ≤ Jn.siz ls := by omega
      refine C.skip <| X.next <| C.seq <| C.region <| E.mv rfl rfl <| E.nilc rfl rfl <| ?_
      refine E.fld (o := 4) (sz := 0) rfl Try.underlying64 rfl rfl (by kernel_rfl) rfl ?_
      refine E.load rfl Try.underlying3 rfl (by first | exact hM.bcell 0 rfl rfl | exact hM.bcell 1 rfl rfl | exact hM.bcell 2 rfl rfl | exact hM.bcell 3 rfl rfl | exact hM.bcell 4 rfl rfl | exact hM.bcell 5 rfl rfl) rfl ?_
      refine E.mv rfl rfl <| ?_
      refine E.subN rfl rfl (by first | omega | (simp only [List.length_replicate, List.length_append, List.length_set, List.length_cons, List.length_nil, List.length_map, List.length_range, List.length_take, List.length_drop, List.length_zipWith] at *; omega)) rfl ?_
      refine E.asg rfl rfl <| E.nil <| X.next <| C.seq <| C.block <| ?_

      refine C.loop2 [(0, _), (5, _)] rfl (fun (k : Nat) (vk : Value) => []) (fun (k : Nat) (vk : Value) w' => M w (fpU (J3 b vr hs ls)) w' [jb b 1 vk (Jn.siz (ls.take k)), Rg.sl slv 22 vk (hs.take k), Rg.bag (hs.take k) (ls.take k)] ∧ k ≤ ls.length ∧ ∀ h : k < ls.length, Jn.siz ls - n < Jn.siz (ls.take (k + 1))) (fun (k : Nat) (vk : Value) => k) ls.length vr ?_ ?_ ?_
      · exact Sub.nil _
      · exact ⟨by rw [List.take_length, List.take_of_length_le (by omega)]; exact hM, Nat.le_refl _, fun h => by omega⟩
      rintro k vk w1 ⟨hM, hk, hnx⟩
      refine C.seq <| C.seq <| C.region <| E.mv rfl rfl <| E.nilc rfl rfl <| ?_
      refine E.fld (o := 4) (sz := 0) rfl Try.underlying64 rfl rfl (by kernel_rfl) rfl ?_
      refine E.load rfl Try.underlying3 rfl (by first | exact hM.bcell 0 rfl rfl | exact hM.bcell 1 rfl rfl | exact hM.bcell 2 rfl rfl | exact hM.bcell 3 rfl rfl | exact hM.bcell 4 rfl rfl | exact hM.bcell 5 rfl rfl) rfl ?_
      refine E.mv rfl rfl <| E.bin rfl rfl rfl rfl <| E.nil <| X.next <| ?_
      refine C.cond' rfl (fun hC2 => ?_) (fun hC2 => ?_)
      ·
        obtain ⟨j, rfl⟩ : ∃ j, k = j + 1 := by
          cases k with
          | zero => rw [List.take_zero, Jn.siz_nil] at hC2; omega
          | succ j => exact ⟨j, rfl⟩
        have hj : j < ls.length := by omega
        have hjl : (hs.take (j + 1)).length = j + 1 := by rw [List.length_take]; omega
        have hjm : (ls.take (j + 1)).length = j + 1 := by rw [List.length_take]; omega
        have hss := siz_take_succ hj
        have hjg : (ls.take (j + 1))[j] = ls[j] := List.getElem_take
        have hjm2 := Jn.siz_mono ls (j + 1)
        refine C.skip <| X.next <| C.block <| C.seq <| C.region <| E.mv rfl rfl <| E.nilc rfl rfl <| ?_
        refine E.fld (o := 3) (sz := 0) rfl Try.underlying64 rfl rfl (by kernel_rfl) rfl ?_
        refine E.load rfl Try.underlying27 rfl (by first | exact hM.bcell 0 rfl rfl | exact hM.bcell 1 rfl rfl | exact hM.bcell 2 rfl rfl | exact hM.bcell 3 rfl rfl | exact hM.bcell 4 rfl rfl | exact hM.bcell 5 rfl rfl) rfl ?_
        refine E.lenv rfl (Rd.shape (by first | exact hM.sl 0 rfl | exact hM.sl 1 rfl | exact hM.sl 2 rfl | exact hM.sl 3 rfl | exact hM.sl 4 rfl | exact hM.sl 5 rfl | exact hM.arg0 (by assumption) | exact hM.arg (by assumption) (by assumption) | assumption)) Try.underlying27 rfl ?_
        rw [hjl]
        refine E.subN (a := j + 1) (b := 1) rfl rfl (by omega) rfl ?_
        rw [Nat.add_sub_cancel]
        refine E.asg rfl rfl <| E.nil <| X.next <| C.seq <| C.drawnT 16 (by kernel_rfl) (by kernel_rfl) fun wh2 hwh2 => ?_
        have hM := hM.ext hwh2
        refine S.mv rfl rfl <| S.nilc rfl rfl <| ?_
        refine S.fld (o := 4) (sz := 0) rfl Try.underlying64 rfl rfl (by kernel_rfl) rfl ?_
        refine S.load rfl Try.underlying3 rfl (by first | exact hM.bcell 0 rfl rfl | exact hM.bcell 1 rfl rfl | exact hM.bcell 2 rfl rfl | exact hM.bcell 3 rfl rfl | exact hM.bcell 4 rfl rfl | exact hM.bcell 5 rfl rfl) rfl ?_
        refine S.mv rfl rfl <| S.nilc rfl rfl <| ?_
        refine S.fld (o := 3) (sz := 0) rfl Try.underlying64 rfl rfl (by kernel_rfl) rfl ?_
        refine S.load rfl Try.underlying27 rfl (by first | exact hM.bcell 0 rfl rfl | exact hM.bcell 1 rfl rfl | exact hM.bcell 2 rfl rfl | exact hM.bcell 3 rfl rfl | exact hM.bcell 4 rfl rfl | exact hM.bcell 5 rfl rfl) rfl ?_
        refine S.mv rfl rfl <| ?_
        refine S.idx1 (k := _) rfl rfl (by first | exact hM.sl 0 rfl | exact hM.sl 1 rfl | exact hM.sl 2 rfl | exact hM.sl 3 rfl | exact hM.sl 4 rfl | exact hM.sl 5 rfl | exact hM.arg0 (by assumption) | exact hM.arg (by assumption) (by assumption) | assumption) rfl (by first | omega | (simp only [List.length_replicate, List.length_append, List.length_set, List.length_cons, List.length_nil, List.length_map, List.length_range, List.length_take, List.length_drop, List.length_zipWith] at *; omega)) Try.underlying27 (by kernel_rfl) rfl ?_
        refine S.load rfl Try.underlying22 rfl (by first | exact (hM.sl 0 rfl).cellA rfl (by first | omega | (simp only [List.length_replicate, List.length_append, List.length_set, List.length_cons, List.length_nil, List.length_map, List.length_range, List.length_take, List.length_drop, List.length_zipWith] at *; omega)) | exact (hM.sl 1 rfl).cellA rfl (by first | omega | (simp only [List.length_replicate, List.length_append, List.length_set, List.length_cons, List.length_nil, List.length_map, List.length_range, List.length_take, List.length_drop, List.length_zipWith] at *; omega)) | exact (hM.sl 2 rfl).cellA rfl (by first | omega | (simp only [List.length_replicate, List.length_append, List.length_set, List.length_cons, List.length_nil, List.length_map, List.length_range, List.length_take, List.length_drop, List.length_zipWith] at *; omega)) | exact (hM.sl 3 rfl).cellA rfl (by first | omega | (simp only [List.length_replicate, List.length_append, List.length_set, List.length_cons, List.length_nil, List.length_map, List.length_range, List.length_take, List.length_drop, List.length_zipWith] at *; omega)) | exact (hM.sl 4 rfl).cellA rfl (by first | omega | (simp only [List.length_replicate, List.length_append, List.length_set, List.length_cons, List.length_nil, List.length_map, List.length_range, List.length_take, List.length_drop, List.length_zipWith] at *; omega)) | exact (hM.sl 5 rfl).cellA rfl (by first | omega | (simp only [List.length_replicate, List.length_append, List.length_set, List.length_cons, List.length_nil, List.length_map, List.length_range, List.length_take, List.length_drop, List.length_zipWith] at *; omega)) | exact (hM.arg0 (by assumption)).cellA rfl (by first | omega | (simp only [List.length_replicate, List.length_append, List.length_set, List.length_cons, List.length_nil, List.length_map, List.length_range, List.length_take, List.length_drop, List.length_zipWith] at *; omega)) | exact (hM.arg (by assumption) (by assumption)).cellA rfl (by first | omega | (simp only [List.length_replicate, List.length_append, List.length_set, List.length_cons, List.length_nil, List.length_map, List.length_range, List.length_take, List.length_drop, List.length_zipWith] at *; omega))) rfl ?_
        refine S.lenv rfl (Rd.shape ((hM.bag 2 rfl).at (i := j) (by omega))) Try.underlying22 rfl ?_
        rw [hjg]
        refine S.addN (a := ls[j].length) (b := 8) rfl rfl (by omega) rfl ?_
        refine S.subN (a := Jn.siz (ls.take (j + 1))) (b := ls[j].length + 8) rfl rfl (by omega) rfl ?_
        rw [show Jn.siz (ls.take (j + 1)) - (ls[j].length + 8) = Jn.siz (ls.take j) by omega]
        refine S.nilc rfl rfl <| ?_
        refine S.fld (o := 4) (sz := 0) rfl Try.underlying64 rfl rfl (by kernel_rfl) rfl ?_
        refine S.nil ?_
        first
          | refine E.storeM 0 hM rfl rfl rfl (by kernel_rfl) ?_ rfl ?_
          | refine E.storeM 1 hM rfl rfl rfl (by kernel_rfl) ?_ rfl ?_
          | refine E.storeM 2 hM rfl rfl rfl (by kernel_rfl) ?_ rfl ?_
          | refine E.storeM 3 hM rfl rfl rfl (by kernel_rfl) ?_ rfl ?_
          | refine E.storeM 4 hM rfl rfl rfl (by kernel_rfl) ?_ rfl ?_
          | refine E.storeM 5 hM rfl rfl rfl (by kernel_rfl) ?_ rfl ?_
        · exact (by first | rfl | exact (hM.sl 0 rfl).one | exact (hM.sl 1 rfl).one | exact (hM.sl 2 rfl).one | exact (hM.sl 3 rfl).one | exact (hM.sl 4 rfl).one | exact (hM.sl 5 rfl).one | exact (hM.slF 0 rfl).one | exact (hM.slF 1 rfl).one | exact (hM.slF 2 rfl).one | exact (hM.slF 3 rfl).one | exact (hM.slF 4 rfl).one | exact (hM.slF 5 rfl).one | exact RdL.one (by assumption) | exact RdF.one (by assumption) | assumption)
        intro w3 hM
        try dsimp only [List.nil_append, List.cons_append, List.set_cons_zero, List.set_cons_succ, repl] at hM
        refine E.nil <| X.next <| C.region <| E.mv rfl rfl <| E.mv rfl rfl <| E.nilc rfl rfl <| ?_
        refine E.fld (o := 3) (sz := 0) rfl Try.underlying64 rfl rfl (by kernel_rfl) rfl ?_
        refine E.load rfl Try.underlying27 rfl (by first | exact hM.bcell 0 rfl rfl | exact hM.bcell 1 rfl rfl | exact hM.bcell 2 rfl rfl | exact hM.bcell 3 rfl rfl | exact hM.bcell 4 rfl rfl | exact hM.bcell 5 rfl rfl) rfl ?_
        refine E.mv rfl rfl <| ?_
        refine E.slcP (k := .i64) 0 j rfl (.inr ⟨rfl, rfl⟩) (.inl rfl) (hM.sl 1 rfl) Try.underlying27 (by kernel_rfl) (by omega) (by omega) rfl ?_
        refine E.nilc rfl rfl <| ?_
        refine E.fld (o := 3) (sz := 0) rfl Try.underlying64 rfl rfl (by kernel_rfl) rfl ?_
        obtain ⟨xk, hxk⟩ := own_headG (hM.own 1 rfl)
        subst hxk
        have pp := Rd.partP (a := 0) (b := j) (hM.sl 1 rfl) (by omega) (by omega)
        first
          | refine E.storeM 0 hM rfl rfl rfl (by kernel_rfl) ?_ rfl ?_
          | refine E.storeM 1 hM rfl rfl rfl (by kernel_rfl) ?_ rfl ?_
          | refine E.storeM 2 hM rfl rfl rfl (by kernel_rfl) ?_ rfl ?_
          | refine E.storeM 3 hM rfl rfl rfl (by kernel_rfl) ?_ rfl ?_
          | refine E.storeM 4 hM rfl rfl rfl (by kernel_rfl) ?_ rfl ?_
          | refine E.storeM 5 hM rfl rfl rfl (by kernel_rfl) ?_ rfl ?_
        · exact (by first | rfl | exact (hM.sl 0 rfl).one | exact (hM.sl 1 rfl).one | exact (hM.sl 2 rfl).one | exact (hM.sl 3 rfl).one | exact (hM.sl 4 rfl).one | exact (hM.sl 5 rfl).one | exact (hM.slF 0 rfl).one | exact (hM.slF 1 rfl).one | exact (hM.slF 2 rfl).one | exact (hM.slF 3 rfl).one | exact (hM.slF 4 rfl).one | exact (hM.slF 5 rfl).one | exact RdL.one (by assumption) | exact RdF.one (by assumption) | assumption)
        intro w4 hM
        try dsimp only [List.nil_append, List.cons_append, List.set_cons_zero, List.set_cons_succ, repl] at hM
        refine E.nil <| X.outN <| ?_
        have hM := hM.slTake 1 rfl (n := j) (by omega) pp
        have hM := hM.bagTake 2 rfl j
        try dsimp only [List.nil_append, List.cons_append, List.set_cons_zero, List.set_cons_succ, repl] at hM
        rw [List.take_take, List.take_take, Nat.min_eq_left (by omega)] at hM

        refine X.again2 j _ (Sub.nil _) rfl ⟨hM, by omega, fun _ => by omega⟩ (by omega)
      ·
        have hfit := Jn.fit_eq (ls := ls) (n := Jn.siz ls - n) hk (by omega) hnx
        refine C.exit <| X.exitT <| X.exitT <| X.outE <| X.next <| C.seq <| C.region <| E.asg rfl rfl <| E.nil <| X.next <| C.ret <| retU muLib unlockC 0 hM rfl rfl (fun a w' ha => res1 rfl rfl a ha) ?_
        exact fun w' hM => ⟨_, _, rfl, .inr ⟨by omega, by omega, rfl, by rw [Int.toNat_natCast, hfit]⟩, _, _, hM⟩

end Go.Proofs.Ytdcgmkoonanpgaa
