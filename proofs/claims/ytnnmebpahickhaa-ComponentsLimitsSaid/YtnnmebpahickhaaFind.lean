/- components: find, the inner function of sets. -/
import Derived.Test.YtnnmebpahickhaaProg
import Derived.Test.YtnnmebpahickhaaSymH
import Derived.Test.YtnnmebpahickhaaSym7
import Derived.Test.YtnnmebpahickhaaUf
namespace Go.Proofs.Ytnnmebpahickhaa
set_option linter.unusedSimpArgs false
set_option linter.unusedVariables false
open Go.RowKit Sym Uf

abbrev i32 (n : Int) : Value := .int .i32 n

/-- the variables of find: the parents and find itself -/
structure UW (w : World) (B bp bf : Nat) (vp : Value) (par : List Int) : Prop where
  hp : Blk w bp 57 #[vp]
  hf : Blk w bf 71 #[fnv 46 [pv bp, pv bf]]
  own : OwnL i32 w B 21 vp par
  np : vp.ownBlock ≠ some bp
  nf : vp.ownBlock ≠ some bf
theorem UW.ext {w w' : World} {B bp bf : Nat} {vp : Value} {par : List Int} (h : UW w B bp bf vp par) (k : Ext w w') : UW w' B bp bf vp par := ⟨h.hp.ext k, h.hf.ext k, h.own.kept k, h.np, h.nf⟩
theorem UW.set {w : World} {B bp bf : Nat} {vp : Value} {par : List Int} (h : UW w B bp bf vp par) {i : Nat} (hi : i < par.length) (z : Int) : UW (w.setCell (el vp i) (i32 z)) B bp bf vp (par.set i z) := by
  obtain ⟨_, _, c3⟩ := h.own.cellAt hi
  have g := grown_set w (el vp i) (i32 z)
  rw [← c3] at g
  exact ⟨Blk.apart h.hp g h.np, Blk.apart h.hf g h.nf, h.own.set hi z, h.np, h.nf⟩
theorem UW.grow {w : World} {B bp bf : Nat} {vp : Value} {par : List Int} (h : UW w B bp bf vp par) {i : Nat} (hi : i < par.length) (z : Int) : w.grownBy (w.setCell (el vp i) (i32 z)) vp.ownBlock := by
  obtain ⟨_, _, c3⟩ := h.own.cellAt hi
  rw [c3]; exact grown_set w (el vp i) (i32 z)

theorem find_ret0 (B bp bf : Nat) (vp : Value) : ∀ (i r : Nat) (par : List Int) (w : World), PathN par 0 i r → UW w B bp bf vp par →
    Ret Try.prog 46 #[i32 i, pv bp, pv bf] w fun v w' => v = i32 r ∧ ∃ par', UW w' B bp bf vp par' ∧ Comp 0 i par par' ∧ w.grownBy w' vp.ownBlock := by
  rintro i _ par w ⟨rfl, h1⟩ hu
  have hi : i < par.length := (List.getElem?_eq_some_iff.1 h1).1
  have hij : par[i] = (i : Int) := by have := List.getElem?_eq_getElem hi; rw [h1] at this; exact (Option.some.inj this).symm
  refine enter Try.func46 rfl (by kernel_rfl) Try.ntmps46 rfl ?_
  refine C.seq <| C.region <| E.asg rfl rfl <| E.nil <| X.next <| ?_

  refine C.seq ?_
  ·
    refine C.seq <| C.region <| ?_
    refine E.load rfl Try.underlying57 rfl (hu.hp.cell 0) rfl ?_
    refine E.mv rfl rfl <| ?_
    refine E.get (k := i) rfl rfl hu.own.rd rfl hi Try.underlying57 (by kernel_rfl) Try.underlying21 rfl rfl rfl ?_
    refine E.mv rfl rfl <| E.bin rfl rfl rfl rfl <| E.nil <| X.next <| ?_
    refine C.cond' rfl (fun hc => absurd (by rw [hij]) hc) (fun hc => ?_)
    refine C.skip <| X.next <| ?_
    refine C.seq <| C.region <| ?_
    refine E.load rfl Try.underlying57 rfl (hu.hp.cell 0) rfl ?_
    refine E.mv rfl rfl <| ?_
    refine E.get (k := i) rfl rfl hu.own.rd rfl hi Try.underlying57 (by kernel_rfl) Try.underlying21 rfl rfl rfl ?_
    refine E.asg rfl rfl <| E.nil <| X.next <| C.ret <| ret1 rfl rfl ?_
    exact ⟨by rw [hij], par, hu, Comp.refl _ _ _, grown_refl _ _⟩
theorem find_ret (B bp bf : Nat) (vp : Value) (n : Nat) : ∀ (i r : Nat) (par : List Int) (w : World), PathN par n i r → UW w B bp bf vp par →
    Ret Try.prog 46 #[i32 i, pv bp, pv bf] w fun v w' => v = i32 r ∧ ∃ par', UW w' B bp bf vp par' ∧ Comp n i par par' ∧ w.grownBy w' vp.ownBlock := by
  induction n with
  | zero => exact find_ret0 B bp bf vp
  | succ n ih =>
  intro i r par w hpath hu
  have hpath' := hpath
  obtain ⟨j, h1, h2, h3⟩ := hpath
  have hi : i < par.length := hpath'.lt
  have hij : par[i] = (j : Int) := by have := List.getElem?_eq_getElem hi; rw [h1] at this; exact (Option.some.inj this).symm
  refine enter Try.func46 rfl (by kernel_rfl) Try.ntmps46 rfl ?_
  refine C.seq <| C.region <| E.asg rfl rfl <| E.nil <| X.next <| ?_

  refine C.cut (G := List Int) (fun _ => [(0, i32 i), (1, pv bp)]) (fun par' w' => UW w' B bp bf vp par' ∧ Comp (n + 1) i par par' ∧ w.grownBy w' vp.ownBlock ∧ par'[i]? = some (r : Int)) ?_ ?_
  ·
    refine C.seq <| C.region <| ?_
    refine E.load rfl Try.underlying57 rfl (hu.hp.cell 0) rfl ?_
    refine E.mv rfl rfl <| ?_
    refine E.get (k := i) rfl rfl hu.own.rd rfl hi Try.underlying57 (by kernel_rfl) Try.underlying21 rfl rfl rfl ?_
    refine E.mv rfl rfl <| E.bin rfl rfl rfl rfl <| E.nil <| X.next <| ?_
    refine C.cond' rfl (fun hc => ?_) (fun hc => ?_)
    ·

      refine C.held (fun w' => ∃ par', UW w' B bp bf vp par' ∧ par'.length = par.length) (by kernel_rfl) fun wh hwh hhh => ?_
      have hu1 := hu.ext hwh
      have hS : ∃ par', UW wh B bp bf vp par' ∧ par'.length = par.length := ⟨par, hu1, rfl⟩
      refine H.take 1 rfl rfl (by kernel_rfl) (by kernel_rfl) (by kernel_rfl) hS (fun w' hS => Y.mv rfl) rfl ?_
      refine H.take 4 rfl rfl (by kernel_rfl) (by kernel_rfl) (by kernel_rfl) hS (fun w' hS => Y.mv rfl) rfl ?_
      refine H.take 0 rfl rfl (by kernel_rfl) (by kernel_rfl) (by kernel_rfl) hS (fun w' hS => Y.load rfl Try.underlying57 rfl (hS.choose_spec.1.hp.cell 0)) rfl ?_
      refine H.take 2 rfl rfl (by kernel_rfl) (by kernel_rfl) (by kernel_rfl) hS (fun w' hS => Y.load rfl Try.underlying71 rfl (hS.choose_spec.1.hf.cell 0)) rfl ?_
      refine H.only 3 rfl (by kernel_rfl) ?_
      refine E.load rfl Try.underlying57 rfl (hu1.hp.cell 0) rfl ?_
      refine H.back hS ?_
      refine H.take 5 rfl rfl (by kernel_rfl) (by kernel_rfl) (by kernel_rfl) hS (fun w' hS => Y.idx (sz := 1) rfl rfl hS.choose_spec.1.own.rd Try.underlying57 (by kernel_rfl) (by omega) (by have := hS.choose_spec.2; omega) (by decide)) rfl ?_
      rw [show (i : Int).toNat * 1 = i from by omega]
      refine H.only 6 rfl (by kernel_rfl) ?_
      refine E.load rfl Try.underlying21 rfl (hu1.own.cellAt hi).1 rfl ?_
      rw [hij]
      refine H.back hS ?_
      refine H.only 7 rfl (by kernel_rfl) ?_
      refine E.callv rfl rfl rfl (ih j r par wh h3 hu1) ?_
      rintro _ w1 ⟨rfl, par1, hu2, hc2, hg2⟩
      obtain ⟨hc3, hc4⟩ := Comp.step h1 h2 h3 hc2
      have hi1 : i < par1.length := by rw [hc2.1]; exact hi
      have hS : ∃ par', UW w1 B bp bf vp par' ∧ par'.length = par.length := ⟨par1, hu2, hc2.1⟩
      refine H.back hS ?_
      refine H.take 8 rfl rfl (by kernel_rfl) (by kernel_rfl) (by kernel_rfl) hS (fun w' hS => Y.idx (sz := 1) rfl rfl hS.choose_spec.1.own.rd Try.underlying57 (by kernel_rfl) (by omega) (by have := hS.choose_spec.2; omega) (by decide)) rfl ?_
      rw [show (i : Int).toNat * 1 = i from by omega]
      refine H.only 9 rfl (by kernel_rfl) ?_
      refine E.store rfl rfl (by kernel_rfl) rfl (hu2.own.cellAt hi1).1 (hu2.own.cellAt hi1).2.1 ?_
      have hu3 := hu2.set hi1 (r : Int)
      have hg3 := hu2.grow hi1 (r : Int)
      have hS : ∃ par', UW (w1.setCell (el vp i) (i32 r)) B bp bf vp par' ∧ par'.length = par.length := ⟨_, hu3, by rw [List.length_set]; exact hc2.1⟩
      refine H.back hS ?_
      refine H.done (by kernel_rfl) <| X.join (par1.set i (r : Int)) (Sub.cons rfl <| Sub.cons rfl <| Sub.nil _) ⟨hu3, hc4, grown_trans (grown_trans (hwh.toGrown _) hg2) hg3, by rw [List.getElem?_set_self hi1]⟩
    ·
      exact absurd (by rw [hij] at hc; omega) hc
  ·
    rintro par' w' ⟨hu', hc', hg', hr'⟩
    have hi' : i < par'.length := by rw [hc'.1]; exact hi
    have hir : par'[i] = (r : Int) := by have := List.getElem?_eq_getElem hi'; rw [hr'] at this; exact (Option.some.inj this).symm
    refine C.seq <| C.region <| ?_
    refine E.load rfl Try.underlying57 rfl (hu'.hp.cell 0) rfl ?_
    refine E.mv rfl rfl <| ?_
    refine E.get (k := i) rfl rfl hu'.own.rd rfl hi' Try.underlying57 (by kernel_rfl) Try.underlying21 rfl rfl rfl ?_
    refine E.asg rfl rfl <| E.nil <| X.next <| C.ret <| ret1 rfl rfl ?_
    exact ⟨by rw [hir], par', hu', hc', hg'⟩
end Go.Proofs.Ytnnmebpahickhaa
