/- Texts of the claim, laid together: Fd11, Uf, Find, Unite, Grid, Near, Nb, Grow. -/
import Derived.Test.YtbinlkobmlebpaaProg
import Derived.Test.Ytbinlkobmlebpaax0
import Derived.Test.Ytbinlkobmlebpaax1
import Derived.Test.Ytbinlkobmlebpaax2
import Derived.Test.Ytbinlkobmlebpaax5
import Derived.Test.Ytbinlkobmlebpaax6
import Derived.Test.Ytbinlkobmlebpaax10
set_option linter.unusedSimpArgs false
set_option linter.unusedVariables false
namespace Go.Proofs.Ytbinlkobmlebpaa
open Go.RowKit Sym
open Fi
def MrkV (W H : Int) (dk : List Bool) (kd : Bool) (w w' : World) (v : Value) : Prop :=
 (¬ okMat W H dk.length ∧ v = .tuple #[nls, i64 1] ∧ Ext w w') ∨
 (okMat W H dk.length ∧ 256 < (mrk W.toNat H.toNat dk (shq kd) kd).length ∧ v = .tuple #[nls, i64 4] ∧ Ext w w') ∨
 (okMat W H dk.length ∧ (mrk W.toNat H.toNat dk (shq kd) kd).length ≤ 256 ∧ ∃ vl, v = .tuple #[vl, i64 0] ∧ M w Nn w' [Rg.slF mkc 4 24 vl (isort key (mrk W.toNat H.toNat dk (shq kd) kd))])
theorem okMat_nat {W H : Int} {n : Nat} (h : okMat W H n) : ∃ a b : Nat, W = a ∧ H = b ∧ 1 ≤ a ∧ a ≤ 4096 ∧ 1 ≤ b ∧ b ≤ 4096 ∧ n = a * b ∧ n ≤ 4194304 := by
 obtain ⟨⟨h1, h2, h3, h4, h5⟩, h6⟩ := h
 refine ⟨W.toNat, H.toNat, by omega, by omega, by omega, by omega, by omega, by omega, ?_, by omega⟩
 have e1 : (W.toNat : Int) = W := by omega
 have e2 : (H.toNat : Int) = H := by omega
 have : (n : Int) = ((W.toNat * H.toNat : Nat) : Int) := by rw [Int.natCast_mul, e1, e2]; exact h6
 exact Int.ofNat_inj.1 this
set_option maxHeartbeats 1000000 in
theorem marks_ret (W H : Int) (vd kv : Value) (dk : List Bool) (kd : Bool) (w : World) (hr : RdL Value.bool w vd dk) (hk : Kind kv (shq kd) kd) :
  Ret Try.prog 61 #[mat W H vd, kv] w fun v w' => MrkV W H dk kd w w' v := by
 have hM := M.start w
 refine enter Try.func61 rfl (by kernel_rfl) Try.ntmps61 rfl ?_
 refine C.seq <| C.region <| ?_
 refine E.boxM (cs := [i64 W, i64 H, vd]) hM rfl (by obtain ⟨a, cap, rfl, _⟩ := hr; rfl) rfl ?_
 intro b2 w0 hM
 try dsimp only [Za, Zb, Zc, Zd, repl] at hM
 refine E.asg rfl rfl <| E.asg rfl rfl <| E.nil <| X.next <| C.seq <| C.seq <| C.region <| ?_
 refine E.loadA (cs := [i64 W, i64 H, vd]) rfl Try.underlying37 rfl (by kernel_rfl) (hM.bat 0 rfl) rfl ?_
 refine E.call rfl rfl (Check_ret W H vd dk.length _ hr.shape) ?_
 rintro _ w1 ⟨rfl, x1⟩
 have hM := hM.ext x1
 try dsimp only [Za, Zb, Zc, Zd, repl] at hM
 refine E.asg rfl rfl <| E.nil <| X.next <| C.seq <| C.region <| E.mv rfl rfl <| E.bin rfl rfl rfl rfl <| E.nil <| X.next <| ?_
 refine C.cond' rfl (fun hC0 => ?_) (fun hC0 => ?_)
 ·
  have hno : ¬ okMat W H dk.length := fun h => by rw [if_pos h] at hC0; exact hC0 rfl
  refine C.seq <| C.region <| E.mv rfl rfl <| E.asg rfl rfl <| E.asg rfl rfl <| E.nil <| X.next <| C.ret <| X.retT <| ret2 rfl rfl rfl ?_
  exact (by rw [if_neg hno]; exact .inl ⟨hno, rfl, hM.toExt⟩)
 ·
  have hok : okMat W H dk.length := Decidable.byContradiction fun h => by rw [if_neg h] at hC0; exact hC0 (by decide)
  obtain ⟨a, b, rfl, rfl, ha1, ha2, hb1, hb2, hn, hn2⟩ := okMat_nat hok
  refine C.skip <| X.next <| C.seq <| C.region <| ?_
  refine E.allocM (z := .slice none 0 0) (cs := [.slice none 0 0]) hM (by kernel_rfl) rfl rfl ?_
  intro b7 w2 hM
  try dsimp only [Za, Zb, Zc, Zd, repl] at hM
  have hM := hM.nilF mkc 4 24
  try dsimp only [Za, Zb, Zc, Zd, repl] at hM
  refine E.nil <| X.next <| C.seq <| C.region <| ?_
  refine E.loadA (cs := [i64 a, i64 b, vd]) rfl Try.underlying37 rfl (by kernel_rfl) (hM.bat 0 rfl) rfl ?_
  refine E.mv rfl rfl <| ?_
  refine E.mkfn rfl rfl ?_
  refine E.call rfl rfl (scan_ret vd kv nls b7 a b dk (shq kd) kd _ (hM.pick [1, 2] (by decide)).sep (hM.arg0 hr) ((hM.pick [1, 2] (by decide)).offA hr) ⟨ha1, ha2⟩ ⟨hb1, hb2⟩ hn hn2 hk) ?_
  rintro _ w3 ⟨vl, rfl, m⟩
  have hM := hM.calls [1, 2] (by decide) rfl (by simp) m
  obtain ⟨ms, hms⟩ : ∃ ms, ms = mrk a b dk (shq kd) kd := ⟨_, rfl⟩
  rw [show fold [] (allC a b dk (shq kd) kd b 0) = ms from hms.symm] at hM
  try dsimp only [Za, Zb, Zc, Zd, repl] at hM
  refine E.nil <| X.next <| C.seq <| C.seq <| C.region <| ?_
  refine E.load rfl Try.underlying22 rfl (hM.bcell 1 rfl rfl) rfl ?_
  refine E.lenv rfl (RdF.shape (hM.slF 2 rfl)) Try.underlying22 rfl ?_
  refine E.bin rfl rfl rfl rfl <| E.nil <| X.next <| ?_
  refine C.cond' rfl (fun hC1 => ?_) (fun hC1 => ?_)
  ·
   refine C.seq <| C.region <| E.asg rfl rfl <| E.asg rfl rfl <| E.nil <| X.next <| C.ret <| X.retT <| ret2 rfl rfl rfl ?_
   exact .inr (.inl ⟨hok, by rw [Int.toNat_natCast, Int.toNat_natCast, ← hms]; omega, rfl, hM.toExt⟩)
  ·
   refine C.skip <| X.next <| C.seq <| C.region <| ?_
   refine E.load rfl Try.underlying22 rfl (hM.bcell 1 rfl rfl) rfl ?_
   refine E.call rfl rfl (sort_ret vl ms _ (hM.pick [2] (by decide)).sep (by rw [hms]; exact mrk_bd ha2 hb2 hk.pos) (by omega)) ?_
   rintro _ w4 m
   have hM := hM.calls [2] (by decide) rfl (by simp) m
   try dsimp only [Za, Zb, Zc, Zd, repl] at hM
   refine E.nil <| X.next <| C.seq <| C.region <| ?_
   refine E.load rfl Try.underlying22 rfl (hM.bcell 1 rfl rfl) rfl ?_
   refine E.asg rfl rfl <| E.asg rfl rfl <| E.nil <| X.next <| C.ret <| ret2 rfl rfl rfl ?_
   exact .inr (.inr ⟨hok, by rw [Int.toNat_natCast, Int.toNat_natCast, ← hms]; omega, _, rfl, by rw [Int.toNat_natCast, Int.toNat_natCast, ← hms]; exact hM.pick [2] (by decide)⟩)
theorem MrkV_two {W H : Int} {dk : List Bool} {kd : Bool} {w w' : World} {v : Value} (h : MrkV W H dk kd w w' v) : ∃ a b : Value, v = .tuple #[a, b] := by
 rcases h with ⟨_, rfl, _⟩ | ⟨_, _, rfl, _⟩ | ⟨_, _, vl, rfl, _⟩ <;> exact ⟨_, _, rfl⟩
theorem Sym.M.pre {w0 w w' : World} {rs : List Rg} (x : Ext w0 w) (h : M w Nn w' rs) : M w0 Nn w' rs := by
 have := (M.ofExt x).call h
 simpa using this
theorem MrkV_pre {W H : Int} {dk : List Bool} {kd : Bool} {w0 w w' : World} {v : Value} (x : Ext w0 w) (h : MrkV W H dk kd w w' v) : MrkV W H dk kd w0 w' v := by
 rcases h with ⟨h1, h2, h3⟩ | ⟨h1, h2, h3, h4⟩ | ⟨h1, h2, vl, h3, h4⟩
 · exact .inl ⟨h1, h2, x.trans h3⟩
 · exact .inr (.inl ⟨h1, h2, h3, x.trans h4⟩)
 · exact .inr (.inr ⟨h1, h2, vl, h3, Sym.M.pre x h4⟩)
theorem Squares_ret (W H : Int) (vd : Value) (dk : List Bool) (w : World) (hr : RdL Value.bool w vd dk) :
  Ret Try.prog 22 #[mat W H vd] w fun v w' => MrkV W H dk true w w' v := by
 have hM := M.start w
 refine enter Try.func22 rfl (by kernel_rfl) Try.ntmps22 rfl ?_
 refine C.seq <| C.region <| ?_
 refine E.boxM (cs := [i64 W, i64 H, vd]) hM rfl (by obtain ⟨a, cap, rfl, _⟩ := hr; rfl) rfl ?_
 intro b1 w0 hM
 try dsimp only [Za, Zb, Zc, Zd, repl] at hM
 refine E.asg rfl rfl <| E.asg rfl rfl <| E.nil <| X.next <| C.seq <| C.region <| ?_
 refine E.loadA (cs := [i64 W, i64 H, vd]) rfl Try.underlying37 rfl (by kernel_rfl) (hM.bat 0 rfl) rfl ?_
 refine E.buildC (cs := []) [] [] rfl rfl (by kernel_rfl) rfl ?_
 refine E.mkI rfl Try.underlying103 rfl rfl <| ?_
 refine E.call rfl rfl (marks_ret W H vd _ dk true _ (hM.arg0 hr) kind_sq) ?_
 rintro v7 w1 h7
 obtain ⟨va, vb, rfl⟩ := MrkV_two h7
 try dsimp only [Za, Zb, Zc, Zd, repl] at hM
 refine E.ext rfl rfl rfl <| E.ext rfl rfl rfl <| E.asg rfl rfl <| E.asg rfl rfl <| E.nil <| X.next <| C.ret <| ret2 rfl rfl rfl ?_
 exact MrkV_pre hM.toExt h7
end Go.Proofs.Ytbinlkobmlebpaa
namespace Go.Proofs.Ytbinlkobmlebpaa.Uf
def PathN (par : List Int) : Nat → Nat → Nat → Prop
 | 0, i, r => i = r ∧ par[i]? = some (i : Int)
 | n + 1, i, r => ∃ j : Nat, par[i]? = some (j : Int) ∧ i ≠ j ∧ PathN par n j r
theorem PathN.det {par : List Int} : ∀ {n m i r s}, PathN par n i r → PathN par m i s → n = m ∧ r = s
 | 0, 0, i, r, s, h, k => ⟨rfl, h.1.symm.trans k.1⟩
 | 0, m + 1, i, r, s, h, k => by
  obtain ⟨j, h1, h2, _⟩ := k
  rw [h.2] at h1; have := Option.some.inj h1; omega
 | n + 1, 0, i, r, s, h, k => by
  obtain ⟨j, h1, h2, _⟩ := h
  rw [k.2] at h1; have := Option.some.inj h1; omega
 | n + 1, m + 1, i, r, s, h, k => by
  obtain ⟨j, h1, h2, h3⟩ := h
  obtain ⟨j', k1, k2, k3⟩ := k
  rw [h1] at k1
  have : j = j' := by have := Option.some.inj k1; omega
  subst this
  have := PathN.det h3 k3
  exact ⟨by omega, this.2⟩
theorem PathN.root {par : List Int} : ∀ {n i r}, PathN par n i r → par[r]? = some (r : Int)
 | 0, i, r, h => by rw [← h.1]; exact h.2
 | n + 1, i, r, h => by obtain ⟨j, _, _, h3⟩ := h; exact h3.root
theorem PathN.lt {par : List Int} : ∀ {n i r}, PathN par n i r → i < par.length
 | 0, i, r, h => (List.getElem?_eq_some_iff.1 h.2).1
 | n + 1, i, r, h => by obtain ⟨j, h1, _⟩ := h; exact (List.getElem?_eq_some_iff.1 h1).1
theorem PathN.lt' {par : List Int} {n i r : Nat} (h : PathN par n i r) : r < par.length := (List.getElem?_eq_some_iff.1 h.root).1
def Root (par : List Int) (i r : Nat) : Prop := ∃ n, PathN par n i r
theorem Root.det {par : List Int} {i r s : Nat} (h : Root par i r) (k : Root par i s) : r = s := by
 obtain ⟨n, h⟩ := h; obtain ⟨m, k⟩ := k; exact (h.det k).2
theorem Root.lt {par : List Int} {i r : Nat} (h : Root par i r) : i < par.length := h.choose_spec.lt
theorem Root.lt' {par : List Int} {i r : Nat} (h : Root par i r) : r < par.length := h.choose_spec.lt'
theorem Root.self {par : List Int} {i r : Nat} (h : Root par i r) : Root par r r := ⟨0, rfl, h.choose_spec.root⟩
def Closed (par : List Int) (D : Nat → Prop) : Prop := ∀ (x y : Nat), D x → par[x]? = some (y : Int) → D y
def Comp (n i : Nat) (par par' : List Int) : Prop := par'.length = par.length ∧ ∀ k : Nat, par'[k]? = par[k]? ∨ ∃ m r : Nat, m ≤ n ∧ PathN par m k r ∧ par'[k]? = some (r : Int) ∧ ∀ D : Nat → Prop, D i → Closed par D → D k
theorem Comp.refl (n i : Nat) (par : List Int) : Comp n i par par := ⟨rfl, fun _ => .inl rfl⟩
theorem Comp.path {n o : Nat} {par par' : List Int} (h : Comp n o par par') : ∀ {m i r}, PathN par m i r → Root par' i r
  | 0, i, r, k => by
    obtain ⟨rfl, k⟩ := k
    refine ⟨0, rfl, ?_⟩
    rcases h.2 i with h1 | ⟨m, s, _, h2, h3, _⟩
    · rw [h1]; exact k
    · have := (h2.det (m := 0) ⟨rfl, k⟩).2; subst this; exact h3
  | m + 1, i, r, k => by
    have hk := k
    obtain ⟨j, h1, h2, h3⟩ := k
    obtain ⟨q, hq⟩ := h.path h3
    rcases h.2 i with h4 | ⟨m', s, _, h5, h6, _⟩
    · exact ⟨q + 1, j, by rw [h4]; exact h1, h2, hq⟩
    · have := (h5.det hk).2; subst this
      have hs := hq.root
      by_cases e : i = s
      · subst e; exact ⟨0, rfl, hs⟩
      · exact ⟨1, s, h6, e, rfl, hs⟩
theorem Comp.root {n o : Nat} {par par' : List Int} (h : Comp n o par par') {i r : Nat} (k : Root par i r) : Root par' i r := by
 obtain ⟨m, k⟩ := k; exact h.path k
theorem Comp.out {n o : Nat} {par par' : List Int} (h : Comp n o par par') {D : Nat → Prop} (ho : D o) (hc : Closed par D) {k : Nat} (hk : ¬ D k) : par'[k]? = par[k]? := by
 rcases h.2 k with h1 | ⟨_, _, _, _, _, h2⟩
 · exact h1
 · exact (hk (h2 D ho hc)).elim
theorem Comp.step {n i j r : Nat} {par par1 : List Int} (h1 : par[i]? = some (j : Int)) (h2 : i ≠ j) (h3 : PathN par n j r) (h : Comp n j par par1) : par1[i]? = some (j : Int) ∧ Comp (n + 1) i par (par1.set i (r : Int)) := by
  have hp : PathN par (n + 1) i r := ⟨j, h1, h2, h3⟩
  refine ⟨?_, by simpa using h.1, fun k => ?_⟩
  · rcases h.2 i with h4 | ⟨m, s, hm, h5, _⟩
    · rw [h4]; exact h1
    · have := (h5.det hp).1; omega
  · by_cases e : i = k
    · subst e
      have hlt : i < par1.length := by rw [h.1]; exact hp.lt
      exact .inr ⟨n + 1, r, Nat.le_refl _, hp, by rw [List.getElem?_set_self hlt], fun D hD _ => hD⟩
    · rw [List.getElem?_set_ne e]
      rcases h.2 k with h4 | ⟨m, s, hm, h5, h6, h7⟩
      · exact .inl h4
      · exact .inr ⟨m, s, by omega, h5, h6, fun D hD hc => h7 D (hc i j hD h1) hc⟩
theorem Root.hang {par : List Int} {a b : Nat} (ha : Root par a a) (hb : Root par b b) (hne : a ≠ b) {i r : Nat} (h : Root par i r) : Root (par.set b (a : Int)) i (if r = b then a else r) := by
  have hbl : b < par.length := hb.lt
  have ha0 : par[a]? = some (a : Int) := ha.choose_spec.root
  have hb0 : par[b]? = some (b : Int) := hb.choose_spec.root
  obtain ⟨n, h⟩ := h
  induction n generalizing i with
  | zero =>
    obtain ⟨rfl, h⟩ := h
    by_cases e : i = b
    · subst e
      rw [if_pos rfl]
      exact ⟨1, a, by rw [List.getElem?_set_self hbl], fun e => hne e.symm, rfl, by rw [List.getElem?_set_ne (fun e => hne e.symm)]; exact ha0⟩
    · rw [if_neg e]
      exact ⟨0, rfl, by rw [List.getElem?_set_ne (fun e' => e e'.symm)]; exact h⟩
  | succ n ih =>
    obtain ⟨j, h1, h2, h3⟩ := h
    obtain ⟨m, hm⟩ := ih h3
    refine ⟨m + 1, j, ?_, h2, hm⟩
    by_cases e : b = i
    · subst e; rw [hb0] at h1; have := Option.some.inj h1; omega
    · rw [List.getElem?_set_ne e]; exact h1
inductive Cl (E : Nat → Nat → Prop) : Nat → Nat → Prop
 | refl (i) : Cl E i i
 | edge {i j} : E i j → Cl E i j
 | symm {i j} : Cl E i j → Cl E j i
 | trans {i j k} : Cl E i j → Cl E j k → Cl E i k
theorem Cl.mono {E F : Nat → Nat → Prop} (h : ∀ i j, E i j → Cl F i j) {i j : Nat} (k : Cl E i j) : Cl F i j := by
 induction k with
 | refl i => exact .refl i
 | edge e => exact h _ _ e
 | symm _ ih => exact .symm ih
 | trans _ _ ih1 ih2 => exact .trans ih1 ih2
theorem Cl.add {E : Nat → Nat → Prop} {a b i j : Nat} : Cl (fun x y => E x y ∨ (x = a ∧ y = b)) i j ↔ Cl E i j ∨ (Cl E i a ∧ Cl E b j) ∨ (Cl E i b ∧ Cl E a j) := by
  constructor
  · intro h
    induction h with
    | refl i => exact .inl (.refl i)
    | edge e =>
      rcases e with e | ⟨rfl, rfl⟩
      · exact .inl (.edge e)
      · exact .inr (.inl ⟨.refl _, .refl _⟩)
    | symm _ ih =>
      rcases ih with h | ⟨h1, h2⟩ | ⟨h1, h2⟩
      · exact .inl h.symm
      · exact .inr (.inr ⟨h2.symm, h1.symm⟩)
      · exact .inr (.inl ⟨h2.symm, h1.symm⟩)
    | trans _ _ ih1 ih2 =>
      rcases ih1 with h | ⟨h1, h2⟩ | ⟨h1, h2⟩ <;> rcases ih2 with k | ⟨k1, k2⟩ | ⟨k1, k2⟩
      · exact .inl (h.trans k)
      · exact .inr (.inl ⟨h.trans k1, k2⟩)
      · exact .inr (.inr ⟨h.trans k1, k2⟩)
      · exact .inr (.inl ⟨h1, h2.trans k⟩)
      · exact .inr (.inl ⟨h1, k2⟩)
      · exact .inl (h1.trans k2)
      · exact .inr (.inr ⟨h1, h2.trans k⟩)
      · exact .inl (h1.trans k2)
      · exact .inr (.inr ⟨h1, k2⟩)
  · rintro (h | ⟨h1, h2⟩ | ⟨h1, h2⟩)
    · exact h.mono fun _ _ e => .edge (.inl e)
    · exact ((h1.mono fun _ _ e => .edge (.inl e)).trans (.edge (.inr ⟨rfl, rfl⟩))).trans (h2.mono fun _ _ e => .edge (.inl e))
    · exact ((h1.mono fun _ _ e => .edge (.inl e)).trans (.symm (.edge (.inr ⟨rfl, rfl⟩)))).trans (h2.mono fun _ _ e => .edge (.inl e))
structure Says (par : List Int) (D : Nat → Prop) (E : Nat → Nat → Prop) : Prop where
 root : ∀ i, D i → ∃ r, D r ∧ Root par i r
 step : Closed par D
 same : ∀ i j r s, D i → D j → Root par i r → Root par j s → (r = s ↔ Cl E i j)
theorem Says.comp {n o : Nat} {par par' : List Int} {D : Nat → Prop} {E : Nat → Nat → Prop} (h : Says par D E) (k : Comp n o par par') : Says par' D E where
  root i hi := let ⟨r, h1, h2⟩ := h.root i hi; ⟨r, h1, k.root h2⟩
  step i j hi hj := by
    rcases k.2 i with e | ⟨m, r, _, h2, h3, _⟩
    · exact h.step i j hi (e ▸ hj)
    · rw [h3] at hj
      have : r = j := by have := Option.some.inj hj; omega
      subst this
      obtain ⟨s, h4, h5⟩ := h.root i hi
      have := h5.det ⟨m, h2⟩; subst this; exact h4
  same i j r s hi hj hr hs := by
    obtain ⟨r', _, h1⟩ := h.root i hi
    obtain ⟨s', _, h2⟩ := h.root j hj
    have e1 := (k.root h1).det hr; have e2 := (k.root h2).det hs
    subst e1 e2
    exact h.same i j _ _ hi hj h1 h2
theorem Says.cl {par : List Int} {D : Nat → Prop} {E F : Nat → Nat → Prop} (h : Says par D E) (k : ∀ i j, Cl E i j ↔ Cl F i j) : Says par D F where
 root := h.root
 step := h.step
 same i j r s hi hj hr hs := (h.same i j r s hi hj hr hs).trans (k i j)
theorem Says.hang {par : List Int} {D : Nat → Prop} {E : Nat → Nat → Prop} {a b ra rb : Nat} (h : Says par D E) (ha : D a) (hb : D b) (hra : Root par a ra) (hrb : Root par b rb) (hne : ra ≠ rb) (x y : Nat) (hxy : (x = ra ∧ y = rb) ∨ (x = rb ∧ y = ra)) :
    Says (par.set y (x : Int)) D (fun i j => E i j ∨ (i = a ∧ j = b)) := by
  have hx : Root par x x := hxy.elim (fun e => e.1 ▸ hra.self) (fun e => e.1 ▸ hrb.self)
  have hy : Root par y y := hxy.elim (fun e => e.2 ▸ hrb.self) (fun e => e.2 ▸ hra.self)
  have hxy' : x ≠ y := by omega
  have hDx : D x := by
    rcases hxy with ⟨rfl, _⟩ | ⟨rfl, _⟩
    · obtain ⟨r, h1, h2⟩ := h.root a ha; have := h2.det hra; subst this; exact h1
    · obtain ⟨r, h1, h2⟩ := h.root b hb; have := h2.det hrb; subst this; exact h1
  refine ⟨fun i hi => ?_, fun i j hi hj => ?_, fun i j r s hi hj hr hs => ?_⟩
  · obtain ⟨r, h1, h2⟩ := h.root i hi
    refine ⟨if r = y then x else r, ?_, Root.hang hx hy hxy' h2⟩
    split
    · exact hDx
    · exact h1
  · by_cases e : y = i
    · subst e
      rw [List.getElem?_set_self hy.lt] at hj
      have : x = j := by have := Option.some.inj hj; omega
      subst this; exact hDx
    · rw [List.getElem?_set_ne e] at hj; exact h.step i j hi hj
  · obtain ⟨r', _, h1⟩ := h.root i hi
    obtain ⟨s', _, h2⟩ := h.root j hj
    have e1 := (Root.hang hx hy hxy' h1).det hr
    have e2 := (Root.hang hx hy hxy' h2).det hs
    rw [Cl.add, ← h.same i j _ _ hi hj h1 h2, ← h.same i a _ _ hi ha h1 hra, ← h.same b j _ _ hb hj hrb h2, ← h.same i b _ _ hi hb h1 hrb, ← h.same a j _ _ ha hj hra h2, ← e1, ← e2]
    clear e1 e2 hr hs h1 h2 hra hrb hx hy hDx ha hb hi hj
    by_cases c1 : r' = y <;> by_cases c2 : s' = y
    · rw [if_pos c1, if_pos c2]; omega
    · rw [if_pos c1, if_neg c2]; omega
    · rw [if_neg c1, if_pos c2]; omega
    · rw [if_neg c1, if_neg c2]; omega
theorem Says.already {par : List Int} {D : Nat → Prop} {E : Nat → Nat → Prop} {a b r : Nat} (h : Says par D E) (ha : D a) (hb : D b) (hra : Root par a r) (hrb : Root par b r) : Says par D (fun i j => E i j ∨ (i = a ∧ j = b)) :=
 h.cl fun i j => by
  have hab : Cl E a b := (h.same a b r r ha hb hra hrb).1 rfl
  rw [Cl.add]
  exact ⟨.inl, fun h => h.elim id fun h => h.elim (fun h => (h.1.trans hab).trans h.2) (fun h => (h.1.trans hab.symm).trans h.2)⟩
theorem Cl.in {D : Nat → Prop} {E : Nat → Nat → Prop} (hE : ∀ i j, E i j → D i ∧ D j) {i j : Nat} (h : Cl E i j) : i = j ∨ (D i ∧ D j) := by
  induction h with
  | refl i => exact .inl rfl
  | edge e => exact .inr (hE _ _ e)
  | symm _ ih => exact ih.elim (fun e => .inl e.symm) (fun e => .inr ⟨e.2, e.1⟩)
  | trans _ _ ih1 ih2 =>
    rcases ih1 with rfl | h1
    · exact ih2
    · rcases ih2 with rfl | h2
      · exact .inr h1
      · exact .inr ⟨h1.1, h2.2⟩
theorem Root.away {par : List Int} {D : Nat → Prop} (hstep : Closed par D) {a : Nat} (hD : ∀ i, D i → i ≠ a) (z : Int) {i r : Nat} (hi : D i) (h : Root par i r) : Root (par.set a z) i r := by
 obtain ⟨n, hn⟩ := h
 induction n generalizing i with
 | zero =>
  obtain ⟨rfl, hn⟩ := hn
  exact ⟨0, rfl, by rw [List.getElem?_set_ne (fun e => hD i hi e.symm)]; exact hn⟩
 | succ n ih =>
  obtain ⟨j, h1, h2, h3⟩ := hn
  obtain ⟨m, hm⟩ := ih (hstep i j hi h1) h3
  exact ⟨m + 1, j, by rw [List.getElem?_set_ne (fun e => hD i hi e.symm)]; exact h1, h2, hm⟩
theorem Says.away {par : List Int} {D : Nat → Prop} {E : Nat → Nat → Prop} {a : Nat} (h : Says par D E) (hD : ∀ i, D i → i ≠ a) (z : Int) : Says (par.set a z) D E where
 root i hi := let ⟨r, h1, h2⟩ := h.root i hi; ⟨r, h1, Root.away h.step hD z hi h2⟩
 step i j hi hj := h.step i j hi (by rw [List.getElem?_set_ne (fun e => hD i hi e.symm)] at hj; exact hj)
 same i j r s hi hj hr hs := by
  obtain ⟨r', _, h1⟩ := h.root i hi
  obtain ⟨s', _, h2⟩ := h.root j hj
  have e1 := (Root.away h.step hD z hi h1).det hr; have e2 := (Root.away h.step hD z hj h2).det hs
  subst e1 e2
  exact h.same i j _ _ hi hj h1 h2
theorem Says.one {par : List Int} {D : Nat → Prop} {E : Nat → Nat → Prop} {a : Nat} (h : Says par D E) (hlt : a < par.length) (hD : ∀ i, D i → i ≠ a) (hE : ∀ i j, E i j → D i ∧ D j) : Says (par.set a (a : Int)) (fun i => D i ∨ i = a) E := by
  have h' := h.away hD (a : Int)
  have ha : Root (par.set a (a : Int)) a a := ⟨0, rfl, by rw [List.getElem?_set_self hlt]⟩
  have hno : ∀ i, D i → ¬ Cl E i a := fun i hi hc => (hc.in hE).elim (fun e => hD i hi e) (fun e => hD a e.2 rfl)
  have hrt : ∀ i r, D i → Root (par.set a (a : Int)) i r → r ≠ a := fun i r hi hr => by
    obtain ⟨s, h1, h2⟩ := h'.root i hi
    have := h2.det hr; subst this; exact hD s h1
  refine ⟨fun i hi => ?_, fun i j hi hj => ?_, fun i j r s hi hj hr hs => ?_⟩
  · rcases hi with hi | rfl
    · obtain ⟨r, h1, h2⟩ := h'.root i hi; exact ⟨r, .inl h1, h2⟩
    · exact ⟨i, .inr rfl, ha⟩
  · rcases hi with hi | rfl
    · exact .inl (h'.step i j hi hj)
    · rw [List.getElem?_set_self hlt] at hj
      exact .inr (by have := Option.some.inj hj; omega)
  · rcases hi with hi | rfl <;> rcases hj with hj | rfl
    · exact h'.same i j r s hi hj hr hs
    · have := ha.det hs; subst this
      exact ⟨fun e => (hrt i r hi hr e).elim, fun c => (hno i hi c).elim⟩
    · have := ha.det hr; subst this
      exact ⟨fun e => (hrt j s hj hs e.symm).elim, fun c => (hno j hj c.symm).elim⟩
    · have e1 := ha.det hr; have e2 := ha.det hs
      exact ⟨fun _ => .refl _, fun _ => by omega⟩
end Go.Proofs.Ytbinlkobmlebpaa.Uf
namespace Go.Proofs.Ytbinlkobmlebpaa
open Go.RowKit Sym Uf
abbrev i32 (n : Int) : Value := .int .i32 n
structure UW (w : World) (B bp bf : Nat) (vp : Value) (par : List Int) : Prop where
 hp : Blk w bp 107 #[vp]
 hf : Blk w bf 144 #[fnv 88 [pv bp, pv bf]]
 own : OwnL i32 w B 21 vp par
 np : vp.ownBlock ≠ some bp
 nf : vp.ownBlock ≠ some bf
theorem UW.ext {w w' : World} {B bp bf : Nat} {vp : Value} {par : List Int} (h : UW w B bp bf vp par) (k : Ext w w') : UW w' B bp bf vp par := ⟨h.hp.ext k, h.hf.ext k, h.own.kept k, h.np, h.nf⟩
theorem UW.set {w : World} {B bp bf : Nat} {vp : Value} {par : List Int} (h : UW w B bp bf vp par) {i : Nat} (hi : i < par.length) (z : Int) : UW (w.setCell (el vp i) (i32 z)) B bp bf vp (par.set i z) := by
 obtain ⟨_, _, c3⟩ := h.own.cellAt hi
 have g := grown_set w (el vp i) (i32 z)
 rw [← c3] at g
 exact ⟨Blk.apart h.hp g h.np, Blk.apart h.hf g h.nf, h.own.set hi z, h.np, h.nf⟩
theorem UW.grow {w : World} {B bp bf : Nat} {vp : Value} {par : List Int} (h : UW w B bp bf vp par) {i : Nat} (hi : i < par.length) (z : Int) : w.grownBy (w.setCell (el vp i) (i32 z)) vp.ownBlock := by
 obtain ⟨_, _, c3⟩ := h.own.cellAt hi
 rw [c3]; exact grown_set w (el vp i) (i32 z)
theorem find_ret0 (B bp bf : Nat) (vp : Value) : ∀ (i r : Nat) (par : List Int) (w : World), PathN par 0 i r → UW w B bp bf vp par →
  Ret Try.prog 88 #[i32 i, pv bp, pv bf] w fun v w' => v = i32 r ∧ ∃ par', UW w' B bp bf vp par' ∧ Comp 0 i par par' ∧ w.grownBy w' vp.ownBlock := by
 rintro i _ par w ⟨rfl, h1⟩ hu
 have hi : i < par.length := (List.getElem?_eq_some_iff.1 h1).1
 have hij : par[i] = (i : Int) := by have := List.getElem?_eq_getElem hi; rw [h1] at this; exact (Option.some.inj this).symm
 refine enter Try.func88 rfl (by kernel_rfl) Try.ntmps88 rfl ?_
 refine C.seq <| C.region <| E.asg rfl rfl <| E.nil <| X.next <| ?_

 refine C.seq ?_
 ·
  refine C.seq <| C.region <| ?_
  refine E.load rfl Try.underlying107 rfl (hu.hp.cell 0) rfl ?_
  refine E.mv rfl rfl <| ?_
  refine E.get (k := i) rfl rfl hu.own.rd rfl hi Try.underlying107 (by kernel_rfl) Try.underlying21 rfl rfl rfl ?_
  refine E.mv rfl rfl <| E.bin rfl rfl rfl rfl <| E.nil <| X.next <| ?_
  refine C.cond' rfl (fun hc => absurd (by rw [hij]) hc) (fun hc => ?_)
  refine C.skip <| X.next <| ?_
  refine C.seq <| C.region <| ?_
  refine E.load rfl Try.underlying107 rfl (hu.hp.cell 0) rfl ?_
  refine E.mv rfl rfl <| ?_
  refine E.get (k := i) rfl rfl hu.own.rd rfl hi Try.underlying107 (by kernel_rfl) Try.underlying21 rfl rfl rfl ?_
  refine E.asg rfl rfl <| E.nil <| X.next <| C.ret <| ret1 rfl rfl ?_
  exact ⟨by rw [hij], par, hu, Comp.refl _ _ _, grown_refl _ _⟩
theorem find_ret (B bp bf : Nat) (vp : Value) (n : Nat) : ∀ (i r : Nat) (par : List Int) (w : World), PathN par n i r → UW w B bp bf vp par →
  Ret Try.prog 88 #[i32 i, pv bp, pv bf] w fun v w' => v = i32 r ∧ ∃ par', UW w' B bp bf vp par' ∧ Comp n i par par' ∧ w.grownBy w' vp.ownBlock := by
 induction n with
 | zero => exact find_ret0 B bp bf vp
 | succ n ih =>
 intro i r par w hpath hu
 have hpath' := hpath
 obtain ⟨j, h1, h2, h3⟩ := hpath
 have hi : i < par.length := hpath'.lt
 have hij : par[i] = (j : Int) := by have := List.getElem?_eq_getElem hi; rw [h1] at this; exact (Option.some.inj this).symm
 refine enter Try.func88 rfl (by kernel_rfl) Try.ntmps88 rfl ?_
 refine C.seq <| C.region <| E.asg rfl rfl <| E.nil <| X.next <| ?_

 refine C.cut (G := List Int) (fun _ => [(0, i32 i), (1, pv bp)]) (fun par' w' => UW w' B bp bf vp par' ∧ Comp (n + 1) i par par' ∧ w.grownBy w' vp.ownBlock ∧ par'[i]? = some (r : Int)) ?_ ?_
 ·
  refine C.seq <| C.region <| ?_
  refine E.load rfl Try.underlying107 rfl (hu.hp.cell 0) rfl ?_
  refine E.mv rfl rfl <| ?_
  refine E.get (k := i) rfl rfl hu.own.rd rfl hi Try.underlying107 (by kernel_rfl) Try.underlying21 rfl rfl rfl ?_
  refine E.mv rfl rfl <| E.bin rfl rfl rfl rfl <| E.nil <| X.next <| ?_
  refine C.cond' rfl (fun hc => ?_) (fun hc => ?_)
  ·

   refine C.held (fun w' => ∃ par', UW w' B bp bf vp par' ∧ par'.length = par.length) (by kernel_rfl) fun wh hwh hhh => ?_
   have hu1 := hu.ext hwh
   have hS : ∃ par', UW wh B bp bf vp par' ∧ par'.length = par.length := ⟨par, hu1, rfl⟩
   refine H.take 1 rfl rfl (by kernel_rfl) (by kernel_rfl) (by kernel_rfl) hS (fun w' hS => Y.mv rfl) rfl ?_
   refine H.take 4 rfl rfl (by kernel_rfl) (by kernel_rfl) (by kernel_rfl) hS (fun w' hS => Y.mv rfl) rfl ?_
   refine H.take 0 rfl rfl (by kernel_rfl) (by kernel_rfl) (by kernel_rfl) hS (fun w' hS => Y.load rfl Try.underlying107 rfl (hS.choose_spec.1.hp.cell 0)) rfl ?_
   refine H.take 2 rfl rfl (by kernel_rfl) (by kernel_rfl) (by kernel_rfl) hS (fun w' hS => Y.load rfl Try.underlying144 rfl (hS.choose_spec.1.hf.cell 0)) rfl ?_
   refine H.only 3 rfl (by kernel_rfl) ?_
   refine E.load rfl Try.underlying107 rfl (hu1.hp.cell 0) rfl ?_
   refine H.back hS ?_
   refine H.take 5 rfl rfl (by kernel_rfl) (by kernel_rfl) (by kernel_rfl) hS (fun w' hS => Y.idx (sz := 1) rfl rfl hS.choose_spec.1.own.rd Try.underlying107 (by kernel_rfl) (by omega) (by have := hS.choose_spec.2; omega) (by decide)) rfl ?_
   rw [show (i : Int).toNat * 1 = i from by omega]
   refine H.only 6 rfl (by kernel_rfl) ?_
   refine E.load rfl Try.underlying21 rfl (hu1.own.cellAt hi).1 rfl ?_
   rw [hij]
   refine H.back hS ?_
   refine H.only 7 rfl (by kernel_rfl) ?_
   refine E.callv rfl rfl rfl (ih j r par wh h3 hu1) ?_
   rintro _ w1 ⟨rfl, par1, hu2, hc2, hg2⟩
   obtain ⟨hc3, hc4⟩ := Comp.step h1 h2 h3 hc2
   have hi1 : i < par1.length := by rw [hc2.1]; exact hi
   have hS : ∃ par', UW w1 B bp bf vp par' ∧ par'.length = par.length := ⟨par1, hu2, hc2.1⟩
   refine H.back hS ?_
   refine H.take 8 rfl rfl (by kernel_rfl) (by kernel_rfl) (by kernel_rfl) hS (fun w' hS => Y.idx (sz := 1) rfl rfl hS.choose_spec.1.own.rd Try.underlying107 (by kernel_rfl) (by omega) (by have := hS.choose_spec.2; omega) (by decide)) rfl ?_
   rw [show (i : Int).toNat * 1 = i from by omega]
   refine H.only 9 rfl (by kernel_rfl) ?_
   refine E.store rfl rfl (by kernel_rfl) rfl (hu2.own.cellAt hi1).1 (hu2.own.cellAt hi1).2.1 ?_
   have hu3 := hu2.set hi1 (r : Int)
   have hg3 := hu2.grow hi1 (r : Int)
   have hS : ∃ par', UW (w1.setCell (el vp i) (i32 r)) B bp bf vp par' ∧ par'.length = par.length := ⟨_, hu3, by rw [List.length_set]; exact hc2.1⟩
   refine H.back hS ?_
   refine H.done (by kernel_rfl) <| X.join (par1.set i (r : Int)) (Sub.cons rfl <| Sub.cons rfl <| Sub.nil _) ⟨hu3, hc4, grown_trans (grown_trans (hwh.toGrown _) hg2) hg3, by rw [List.getElem?_set_self hi1]⟩
  ·
   exact absurd (by rw [hij] at hc; omega) hc
 ·
  rintro par' w' ⟨hu', hc', hg', hr'⟩
  have hi' : i < par'.length := by rw [hc'.1]; exact hi
  have hir : par'[i] = (r : Int) := by have := List.getElem?_eq_getElem hi'; rw [hr'] at this; exact (Option.some.inj this).symm
  refine C.seq <| C.region <| ?_
  refine E.load rfl Try.underlying107 rfl (hu'.hp.cell 0) rfl ?_
  refine E.mv rfl rfl <| ?_
  refine E.get (k := i) rfl rfl hu'.own.rd rfl hi' Try.underlying107 (by kernel_rfl) Try.underlying21 rfl rfl rfl ?_
  refine E.asg rfl rfl <| E.nil <| X.next <| C.ret <| ret1 rfl rfl ?_
  exact ⟨by rw [hir], par', hu', hc', hg'⟩
end Go.Proofs.Ytbinlkobmlebpaa
namespace Go.Proofs.Ytbinlkobmlebpaa
open Go.RowKit Sym Uf
def Fr (B : Nat) (w w' : World) : Prop := ∀ a, Ext a w → a.heap.size ≤ B → Ext a w'
theorem Fr.trans {B : Nat} {w w' w'' : World} (h : Fr B w w') (k : Fr B w' w'') : Fr B w w'' := fun a h0 hB => k a (h a h0 hB) hB
theorem Fr.ext {B : Nat} {w w' : World} (h : Ext w w') : Fr B w w' := fun _ h0 _ => h0.trans h
theorem Fr.own {B : Nat} {w w' : World} {e : TypeId} {sz n : Nat} {v : Value} {cs : List Value} (ho : Own w B e sz v n cs) (g : w.grownBy w' v.ownBlock) : Fr B w w' := fun _ h0 hB => h0.own ho g hB
structure SV where
 bm : Nat
 bd : Nat
 bp : Nat
 bf : Nat
 bz : Nat
 vp : Value
 vz : Value
 vd : Value
 W : Int
 H : Int
 dark : Bool
 dk : List Bool
structure SW (w : World) (B : Nat) (c : SV) (par siz : List Int) : Prop where
 u : UW w B c.bp c.bf c.vp par
 hm : Blk w c.bm 37 #[i64 c.W, i64 c.H, c.vd]
 hd : Blk w c.bd 4 #[.bool c.dark]
 hz : Blk w c.bz 107 #[c.vz]
 oz : OwnL i32 w B 21 c.vz siz
 rd : RdL Value.bool w c.vd c.dk
 rb : c.dk = [] ∨ (bs c.vd).1 < B
 ap : Apart c.vp c.vz
 n1 : c.vp.ownBlock ≠ some c.bm
 n2 : c.vp.ownBlock ≠ some c.bd
 n3 : c.vp.ownBlock ≠ some c.bz
 m1 : c.vz.ownBlock ≠ some c.bm
 m2 : c.vz.ownBlock ≠ some c.bd
 m3 : c.vz.ownBlock ≠ some c.bz
 m4 : c.vz.ownBlock ≠ some c.bp
 m5 : c.vz.ownBlock ≠ some c.bf
section
variable {w w' : World} {B : Nat} {c : SV} {par par' siz : List Int}
theorem SW.ext (h : SW w B c par siz) (k : Ext w w') : SW w' B c par siz := { h with u := h.u.ext k, hm := h.hm.ext k, hd := h.hd.ext k, hz := h.hz.ext k, oz := h.oz.kept k, rd := h.rd.ext k }
theorem SW.rdGrown {e : TypeId} {l : List Int} {v : Value} (h : SW w B c par siz) (ho : OwnL i32 w B e v l) (g : w.grownBy w' v.ownBlock) : RdL Value.bool w' c.vd c.dk := by
 rcases h.rb with hb | hb
 · exact Rd.grown h.rd g (.inl (by rw [hb]; rfl))
 · exact Rd.grown h.rd g (.inr fun e => by have := (World.ownsRow.lt ho _ e.symm).1; omega)
theorem SW.parG (h : SW w B c par siz) (g : w.grownBy w' c.vp.ownBlock) (u' : UW w' B c.bp c.bf c.vp par') : SW w' B c par' siz :=
 { h with u := u', hm := Blk.apart h.hm g h.n1, hd := Blk.apart h.hd g h.n2, hz := Blk.apart h.hz g h.n3, oz := Own.apart h.oz g h.ap, rd := h.rdGrown h.u.own g }
theorem SW.setP (h : SW w B c par siz) {i : Nat} (hi : i < par.length) (z : Int) : SW (w.setCell (el c.vp i) (i32 z)) B c (par.set i z) siz ∧ Fr B w (w.setCell (el c.vp i) (i32 z)) :=
 ⟨h.parG (h.u.grow hi z) (h.u.set hi z), Fr.own h.u.own (h.u.grow hi z)⟩
theorem SW.setZ (h : SW w B c par siz) {i : Nat} (hi : i < siz.length) (z : Int) : SW (w.setCell (el c.vz i) (i32 z)) B c par (siz.set i z) ∧ Fr B w (w.setCell (el c.vz i) (i32 z)) := by
 obtain ⟨_, _, c3⟩ := h.oz.cellAt hi
 have g := grown_set w (el c.vz i) (i32 z)
 rw [← c3] at g
 exact ⟨{ h with u := ⟨Blk.apart h.u.hp g h.m4, Blk.apart h.u.hf g h.m5, Own.apart h.u.own g h.ap.symm, h.u.np, h.u.nf⟩, hm := Blk.apart h.hm g h.m1, hd := Blk.apart h.hd g h.m2, hz := Blk.apart h.hz g h.m3, oz := h.oz.set hi z, rd := h.rdGrown h.oz g }, Fr.own h.oz g⟩
end
structure UPost (w w' : World) (B : Nat) (c : SV) (par : List Int) (n : Nat) (D : Nat → Prop) (E : Nat → Nat → Prop) (a b : Nat) (par' siz' : List Int) : Prop where
 sw : SW w' B c par' siz'
 pl : par'.length = n
 zl : siz'.length = n
 fr : Fr B w w'
 says : Says par' D (fun i j => E i j ∨ (c.dk[b]? = some c.dark ∧ i = a ∧ j = b))
 out : ∀ k, ¬ D k → par'[k]? = par[k]?
set_option maxHeartbeats 1000000 in
theorem unite_ret (B : Nat) (c : SV) (n a b : Nat) (par siz : List Int) (D : Nat → Prop) (Eg : Nat → Nat → Prop) (w : World) (h : SW w B c par siz) (hs : Says par D Eg) (ha : D a) (hb : c.dk[b]? = some c.dark → D b) (hbn : b < n) (han : a < n) (hdn : c.dk.length = n) (hpl : par.length = n) (hzl : siz.length = n) (hn : n ≤ 2147483647) :
  Ret Try.prog 89 #[i64 a, i64 b, pv c.bm, pv c.bd, pv c.bf, pv c.bz, pv c.bp] w fun _ w' => ∃ par' siz', UPost w w' B c par n D Eg a b par' siz' := by
 have hbl : b < c.dk.length := by omega
 have hbg : c.dk[b]? = some c.dk[b] := List.getElem?_eq_getElem hbl
 refine enter Try.func89 rfl (by kernel_rfl) Try.ntmps89 rfl ?_

 refine C.seq <| C.seq <| C.drawn (by kernel_rfl) (by kernel_rfl) <| ?_
 refine Q.fld (o := 2) (sz := 0) rfl Try.underlying37 rfl rfl (by kernel_rfl) rfl ?_
 refine Q.load rfl Try.underlying35 rfl (h.hm.cell 2) rfl ?_
 refine Q.mv rfl rfl ?_
 refine Q.idx (sz := 1) rfl rfl h.rd Try.underlying35 (by kernel_rfl) (by omega) (by omega) (by decide) rfl ?_
 rw [show (b : Int).toNat * 1 = b from by omega]
 refine Q.load rfl Try.underlying4 rfl (h.rd.cell hbl) rfl ?_
 refine Q.load rfl Try.underlying4 rfl (h.hd.cell 0) rfl ?_
 refine Q.neb rfl rfl Try.underlying4 rfl ?_
 refine Q.nil <| fun w1 hx1 => X.next <| ?_
 refine C.cond rfl (fun hc => ?_) (fun hc => ?_)
 ·
  refine C.ret <| X.retT <| ret0 rfl ?_
  have hne : c.dk[b]? ≠ some c.dark := by
   rw [hbg]; intro e; have := Option.some.inj e; rw [this] at hc; simp at hc
  exact ⟨par, siz, h.ext hx1, hpl, hzl, Fr.ext hx1, hs.cl fun i j => ⟨fun k => k.mono fun _ _ e => .edge (.inl e), fun k => k.mono fun _ _ e => e.elim .edge (fun e => (hne e.1).elim)⟩, fun _ _ => rfl⟩
 ·

  have heq : c.dk[b]? = some c.dark := by
   rw [hbg]; simpa using hc
  have hDb := hb heq
  obtain ⟨ra, hDra, na, hpa⟩ := hs.root a ha
  obtain ⟨rb, hDrb, hrb⟩ := hs.root b hDb
  have h1 := h.ext hx1
  refine C.skip <| X.next <| C.seq <| C.held (fun w' => ∃ par', UW w' B c.bp c.bf c.vp par') (by kernel_rfl) fun wh hwh hhh => ?_
  have h2 := h1.ext hwh
  have hS : ∃ par', UW wh B c.bp c.bf c.vp par' := ⟨par, h2.u⟩
  refine H.take 1 rfl rfl (by kernel_rfl) (by kernel_rfl) (by kernel_rfl) hS (fun w' hS => Y.mv rfl) rfl ?_
  refine H.take 2 rfl rfl (by kernel_rfl) (by kernel_rfl) (by kernel_rfl) hS (fun w' hS => Y.conv rfl Try.underlying3 Try.underlying21 (IntWalk.i32_in _ (by omega))) rfl ?_
  refine H.take 5 rfl rfl (by kernel_rfl) (by kernel_rfl) (by kernel_rfl) hS (fun w' hS => Y.mv rfl) rfl ?_
  refine H.take 6 rfl rfl (by kernel_rfl) (by kernel_rfl) (by kernel_rfl) hS (fun w' hS => Y.conv rfl Try.underlying3 Try.underlying21 (IntWalk.i32_in _ (by omega))) rfl ?_
  refine H.take 0 rfl rfl (by kernel_rfl) (by kernel_rfl) (by kernel_rfl) hS (fun w' hS => Y.load rfl Try.underlying144 rfl (hS.choose_spec.hf.cell 0)) rfl ?_
  refine H.take 4 rfl rfl (by kernel_rfl) (by kernel_rfl) (by kernel_rfl) hS (fun w' hS => Y.load rfl Try.underlying144 rfl (hS.choose_spec.hf.cell 0)) rfl ?_
  refine H.only 3 rfl (by kernel_rfl) ?_
  refine E.callv rfl rfl rfl (find_ret B c.bp c.bf c.vp na a ra par _ hpa h2.u) ?_
  rintro _ w3 ⟨rfl, par3, hu3, hc3, hg3⟩
  have h3 := h2.parG hg3 hu3
  have hs3 := hs.comp hc3
  have hrb3 := hc3.root hrb
  obtain ⟨nb, hpb⟩ := hrb3
  have hS : ∃ par', UW w3 B c.bp c.bf c.vp par' := ⟨par3, hu3⟩
  refine H.back hS ?_
  refine H.only 7 rfl (by kernel_rfl) ?_
  refine E.callv rfl rfl rfl (find_ret B c.bp c.bf c.vp nb b rb par3 _ hpb hu3) ?_
  rintro _ w4 ⟨rfl, par4, hu4, hc4, hg4⟩
  have h4 := h3.parG hg4 hu4
  have hs4 := hs3.comp hc4
  have hra4 : Root par4 a ra := hc4.root (hc3.root ⟨na, hpa⟩)
  have hrb4 : Root par4 b rb := hc4.root ⟨nb, hpb⟩
  have hl4 : par4.length = n := by rw [hc4.1, hc3.1, hpl]
  have hfr4 : Fr B w w4 := ((Fr.ext (hx1.trans hwh)).trans (Fr.own h2.u.own hg3)).trans (Fr.own hu3.own hg4)
  have hout4 : ∀ k, ¬ D k → par4[k]? = par[k]? := fun k hk => by rw [hc4.out hDb hs3.step hk, hc3.out ha hs.step hk]
  have hS : ∃ par', UW w4 B c.bp c.bf c.vp par' := ⟨par4, hu4⟩
  have hra_lt := hra4.lt'
  have hrb_lt := hrb4.lt'
  have fin : ∀ {w' par' siz'}, SW w' B c par' siz' → par'.length = n → siz'.length = n → Fr B w w' → Says par' D (fun i j => Eg i j ∨ (i = a ∧ j = b)) → (∀ k, ¬ D k → par'[k]? = par[k]?) → ∃ par' siz', UPost w w' B c par n D Eg a b par' siz' := fun a1 a2 a3 a4 a5 a6 =>
   ⟨_, _, a1, a2, a3, a4, a5.cl fun i j => ⟨fun k => k.mono fun _ _ e => .edge (e.imp id fun e => ⟨heq, e⟩), fun k => k.mono fun _ _ e => .edge (e.imp id fun e => e.2)⟩, a6⟩
  refine H.back hS ?_
  refine H.take 8 rfl rfl (by kernel_rfl) (by kernel_rfl) (by kernel_rfl) hS (fun w' hS => Y.asg rfl) rfl ?_
  refine H.take 9 rfl rfl (by kernel_rfl) (by kernel_rfl) (by kernel_rfl) hS (fun w' hS => Y.asg rfl) rfl ?_
  refine H.done (by kernel_rfl) <| X.next <| C.seq <| C.seq <| C.region <| E.mv rfl rfl <| E.mv rfl rfl <| E.bin rfl rfl rfl rfl <| E.nil <| X.next <| ?_
  refine C.cond' rfl (fun hc => ?_) (fun hc => ?_)
  ·
   refine C.ret <| X.retT <| ret0 rfl ?_
   have hrr : ra = rb := by omega
   subst hrr
   exact fin h4 hl4 hzl hfr4 (hs4.already ha hDb hra4 hrb4) hout4
  ·
   have hrr : ra ≠ rb := by omega
   refine C.skip <| X.next <| ?_

   refine C.cut (G := Nat × Nat) (fun g => [(5, pv c.bz), (6, pv c.bp), (9, i32 (g.1 : Nat)), (10, i32 (g.2 : Nat))]) (fun g w' => Ext w4 w' ∧ ((g.1 = ra ∧ g.2 = rb) ∨ (g.1 = rb ∧ g.2 = ra))) ?_ ?_
   ·

    refine C.seq <| C.drawn (by kernel_rfl) (by kernel_rfl) <| ?_
    refine Q.load rfl Try.underlying107 rfl (h4.hz.cell 0) rfl ?_
    refine Q.mv rfl rfl ?_
    refine Q.idx (sz := 1) rfl rfl h4.oz.rd Try.underlying107 (by kernel_rfl) (by omega) (by omega) (by decide) rfl ?_
    rw [show (ra : Int).toNat * 1 = ra from by omega]
    refine Q.load rfl Try.underlying21 rfl (h4.oz.rd.cell (show ra < siz.length by omega)) rfl ?_
    refine Q.load rfl Try.underlying107 rfl (h4.hz.cell 0) rfl ?_
    refine Q.mv rfl rfl ?_
    refine Q.idx (sz := 1) rfl rfl h4.oz.rd Try.underlying107 (by kernel_rfl) (by omega) (by omega) (by decide) rfl ?_
    rw [show (rb : Int).toNat * 1 = rb from by omega]
    refine Q.load rfl Try.underlying21 rfl (h4.oz.rd.cell (show rb < siz.length by omega)) rfl ?_
    refine Q.bin rfl rfl rfl rfl ?_
    refine Q.nil <| fun w5 hx5 => X.next <| ?_
    refine C.cond' rfl (fun hc => ?_) (fun hc => ?_)
    ·
     refine C.region <| E.mv rfl rfl <| E.mv rfl rfl <| E.asg rfl rfl <| E.asg rfl rfl <| E.nil <| X.join (rb, ra) (Sub.cons rfl <| Sub.cons rfl <| Sub.cons rfl <| Sub.cons rfl <| Sub.nil _) ⟨hx5, .inr ⟨rfl, rfl⟩⟩
    ·
     refine C.skip <| X.join (ra, rb) (Sub.cons rfl <| Sub.cons rfl <| Sub.cons rfl <| Sub.cons rfl <| Sub.nil _) ⟨hx5, .inl ⟨rfl, rfl⟩⟩
   ·
    rintro ⟨x, y⟩ w5 ⟨hx5, hxy⟩
    simp only at hxy
    have h5 := h4.ext hx5
    have hxl : x < n := by omega
    have hyl : y < n := by omega
    have hy5 : y < par4.length := by omega
    refine C.seq <| C.region <| ?_
    refine E.load rfl Try.underlying107 rfl (h5.u.hp.cell 0) rfl ?_
    refine E.mv rfl rfl <| E.mv rfl rfl <| ?_
    refine E.idx (sz := 1) rfl rfl h5.u.own.rd Try.underlying107 (by kernel_rfl) (by omega) (by omega) (by decide) rfl ?_
    rw [show (y : Int).toNat * 1 = y from by omega]
    refine E.store rfl rfl (by kernel_rfl) rfl (h5.u.own.cellAt hy5).1 (h5.u.own.cellAt hy5).2.1 ?_
    obtain ⟨h6, hf6⟩ := h5.setP hy5 (x : Int)
    have hs6 := hs4.hang ha hDb hra4 hrb4 hrr x y hxy
    have hDy : D y := hxy.elim (fun e => e.2 ▸ hDrb) (fun e => e.2 ▸ hDra)
    have hout6 : ∀ k, ¬ D k → (par4.set y (x : Int))[k]? = par[k]? := fun k hk => by
     rw [List.getElem?_set_ne (show y ≠ k from fun e => hk (e ▸ hDy))]; exact hout4 k hk
    have hx6 : x < siz.length := by omega
    have hy6 : y < siz.length := by omega

    refine E.nil <| X.next <| C.drawnT 10 (by kernel_rfl) (by kernel_rfl) fun wh hwh => ?_
    have h7 := h6.ext hwh
    refine S.load rfl Try.underlying107 rfl (h7.hz.cell 0) rfl ?_
    refine S.mv rfl rfl ?_
    refine S.idx (sz := 1) rfl rfl h7.oz.rd Try.underlying107 (by kernel_rfl) (by omega) (by omega) (by decide) rfl ?_
    rw [show (x : Int).toNat * 1 = x from by omega]
    refine S.load rfl Try.underlying21 rfl (h7.oz.rd.cell hx6) rfl ?_
    refine S.load rfl Try.underlying107 rfl (h7.hz.cell 0) rfl ?_
    refine S.mv rfl rfl ?_
    refine S.idx (sz := 1) rfl rfl h7.oz.rd Try.underlying107 (by kernel_rfl) (by omega) (by omega) (by decide) rfl ?_
    rw [show (y : Int).toNat * 1 = y from by omega]
    refine S.load rfl Try.underlying21 rfl (h7.oz.rd.cell hy6) rfl ?_
    refine S.bin rfl rfl rfl rfl ?_
    refine S.idx (sz := 1) rfl rfl h7.oz.rd Try.underlying107 (by kernel_rfl) (by omega) (by omega) (by decide) rfl ?_
    rw [show (x : Int).toNat * 1 = x from by omega]
    refine S.nil ?_
    refine E.store rfl rfl (by kernel_rfl) rfl (h7.oz.cellAt hx6).1 (h7.oz.cellAt hx6).2.1 ?_
    obtain ⟨h8, hf8⟩ := h7.setZ hx6 (IntKind.i32.wrap (siz[x] + siz[y]))
    refine E.nil <| end0 rfl ?_
    exact fin h8 (by rw [List.length_set]; exact hl4) (by rw [List.length_set]; exact hzl) ((((hfr4.trans (Fr.ext hx5)).trans hf6).trans (Fr.ext hwh)).trans hf8) hs6 hout6
end Go.Proofs.Ytbinlkobmlebpaa
namespace Go.Proofs.Ytbinlkobmlebpaa
open Go.RowKit Sym Uf
def Back (W : Nat) (eight : Bool) (i j : Nat) : Prop := ((0 < i % W ∧ j + 1 = i) ∨ (0 < i / W ∧ j + W = i)) ∨ (eight = true ∧ 0 < i / W ∧ 0 < i % W ∧ j + W + 1 = i) ∨ (eight = true ∧ 0 < i / W ∧ i % W + 1 < W ∧ j + W = i + 1)
def Ed (W : Nat) (eight : Bool) (dk : List Bool) (dark : Bool) (k i j : Nat) : Prop := i < k ∧ dk[i]? = some dark ∧ dk[j]? = some dark ∧ Back W eight i j
def Dm (dk : List Bool) (dark : Bool) (k i : Nat) : Prop := i < k ∧ dk[i]? = some dark
theorem Back.le {W : Nat} {eight : Bool} {i j : Nat} (h : Back W eight i j) : j ≤ i := by
 rcases h with (⟨_, h⟩ | ⟨_, h⟩) | ⟨_, _, _, h⟩ | ⟨_, _, h1, h⟩ <;> omega
theorem Ed.in {W : Nat} {eight : Bool} {dk : List Bool} {dark : Bool} {k i j : Nat} (h : Ed W eight dk dark k i j) : Dm dk dark k i ∧ Dm dk dark k j := ⟨⟨h.1, h.2.1⟩, ⟨by have := h.2.2.2.le; have := h.1; omega, h.2.2.1⟩⟩
def Es (W : Nat) (eight : Bool) (dk : List Bool) (dark : Bool) (k : Nat) (p : Nat → Prop) (i j : Nat) : Prop := Ed W eight dk dark k i j ∨ (i = k ∧ dk[j]? = some dark ∧ p j)
theorem Says.iff {par : List Int} {D D' : Nat → Prop} {E F : Nat → Nat → Prop} (h : Says par D E) (hD : ∀ i, D i ↔ D' i) (hE : ∀ i j, E i j ↔ F i j) : Says par D' F := by
 have e1 : D = D' := funext fun i => propext (hD i)
 have e2 : E = F := funext fun i => funext fun j => propext (hE i j)
 rw [← e1, ← e2]; exact h
structure Stg (wk w' : World) (B : Nat) (c : SV) (n W : Nat) (eight : Bool) (k : Nat) (p : Nat → Prop) (par siz : List Int) : Prop where
 sw : SW w' B c par siz
 pl : par.length = n
 zl : siz.length = n
 fr : Fr B wk w'
 says : Says par (Dm c.dk c.dark (k + 1)) (Es W eight c.dk c.dark k p)
 light : ∀ i : Nat, i < k → c.dk[i]? ≠ some c.dark → par[i]? = some (-1)
section
variable {wk w' w'' : World} {B : Nat} {c : SV} {n W : Nat} {eight : Bool} {k : Nat} {p q : Nat → Prop} {par par' siz siz' : List Int}
theorem Stg.iff (h : Stg wk w' B c n W eight k p par siz) (hp : ∀ j, p j ↔ q j) : Stg wk w' B c n W eight k q par siz :=
 { h with says := Says.iff h.says (fun _ => Iff.rfl) (fun i j => by unfold Es; rw [hp j]) }
theorem Stg.step {b : Nat} (h : Stg wk w' B c n W eight k p par siz) (u : UPost w' w'' B c par n (Dm c.dk c.dark (k + 1)) (Es W eight c.dk c.dark k p) k b par' siz') : Stg wk w'' B c n W eight k (fun j => p j ∨ j = b) par' siz' where
  sw := u.sw
  pl := u.pl
  zl := u.zl
  fr := h.fr.trans u.fr
  says := Says.iff u.says (fun _ => Iff.rfl) fun i j => by
    unfold Es
    constructor
    · rintro ((h1 | ⟨h1, h2, h3⟩) | ⟨h1, h2, rfl⟩)
      · exact .inl h1
      · exact .inr ⟨h1, h2, .inl h3⟩
      · exact .inr ⟨h2, h1, .inr rfl⟩
    · rintro (h1 | ⟨h1, h2, h3 | rfl⟩)
      · exact .inl (.inl h1)
      · exact .inl (.inr ⟨h1, h2, h3⟩)
      · exact .inr ⟨h2, h1, rfl⟩
  light i hi hd := by rw [u.out i (fun hD => hd hD.2)]; exact h.light i hi hd
theorem Stg.ext (h : Stg wk w' B c n W eight k p par siz) (x : Ext w' w'') : Stg wk w'' B c n W eight k p par siz := { h with sw := h.sw.ext x, fr := h.fr.trans (Fr.ext x) }
end
theorem row_lo {k W : Nat} (h : 0 < k / W) : W + k % W ≤ k := by
 have h1 := Nat.div_add_mod k W
 have h2 := Nat.mul_le_mul_left W (show 1 ≤ k / W from h)
 omega
theorem Comp.last {n i r : Nat} {par par1 : List Int} (h : Comp n i par par1) (hr : Root par i r) : ∃ m, Comp m i par (par1.set i (r : Int)) := by
  obtain ⟨m, hm⟩ := hr
  refine ⟨max n m, by simpa using h.1, fun k => ?_⟩
  by_cases e : i = k
  · subst e
    exact .inr ⟨m, r, by omega, hm, by rw [List.getElem?_set_self (by rw [h.1]; exact hm.lt)], fun D hD _ => hD⟩
  · rw [List.getElem?_set_ne e]
    rcases h.2 k with h1 | ⟨a, b, h2, h3⟩
    · exact .inl h1
    · exact .inr ⟨a, b, by omega, h3⟩
theorem Comp.val {n o : Nat} {par par' : List Int} (h : Comp n o par par') {j r : Nat} (hv : par[j]? = some (r : Int)) (hr : Root par j r) : par'[j]? = some (r : Int) := by
  rcases h.2 j with h1 | ⟨a, b, _, h3, h4, _⟩
  · rw [h1]; exact hv
  · have : b = r := Root.det ⟨a, h3⟩ hr
    rw [h4, this]
structure Parted (W : Nat) (eight : Bool) (dk : List Bool) (dark : Bool) (s : List Int) : Prop where
 len : s.length = dk.length
 off : ∀ i : Nat, dk[i]? = some (!dark) → s[i]? = some (-1)
 on : ∀ i : Nat, dk[i]? = some dark → ∃ r : Nat, dk[r]? = some dark ∧ s[i]? = some (r : Int)
 same : ∀ (i j : Nat) (z : Int), dk[i]? = some dark → dk[j]? = some dark → s[i]? = some z → (s[j]? = some z ↔ Cl (Ed W eight dk dark dk.length) i j)
end Go.Proofs.Ytbinlkobmlebpaa
namespace Go.Proofs.Ytbinlkobmlebpaa
open Go.RowKit Sym Uf
def Step (W Ht : Int) (eight : Bool) (x y dx dy : Int) : Prop := ¬ ((dx = 0 ∧ dy = 0) ∨ (eight = false ∧ dx ≠ 0 ∧ dy ≠ 0)) ∧ 0 ≤ x + dx ∧ x + dx < W ∧ 0 ≤ y + dy ∧ y + dy < Ht
end Go.Proofs.Ytbinlkobmlebpaa
namespace Go.Proofs.Ytbinlkobmlebpaa
open Go.RowKit Sym Uf
def Nb (W H : Nat) (eight : Bool) (i j : Nat) : Prop := ∃ a b : Int, -1 ≤ a ∧ a ≤ 1 ∧ -1 ≤ b ∧ b ≤ 1 ∧ Step W H eight ((i % W : Nat) : Int) ((i / W : Nat) : Int) a b ∧ (j : Int) = (((i / W : Nat) : Int) + b) * W + ((i % W : Nat) : Int) + a
end Go.Proofs.Ytbinlkobmlebpaa
namespace Go.Proofs.Ytbinlkobmlebpaa
open Go.RowKit Sym
structure Bl where
 x : Int
 y : Int
 w : Int
 h : Int
 area : Int
 fx : Int
 fy : Int
def Bl.cells (b : Bl) : List Value := [i64 b.x, i64 b.y, i64 b.w, i64 b.h, i64 b.area, i64 b.fx, i64 b.fy]
def Bl.add (b : Bl) (px py : Int) : Bl := ⟨min b.x px, b.y, max (b.x + b.w) (px + 1) - min b.x px, max b.h (py - b.y + 1), b.area + 1, b.fx, b.fy⟩
def Bl.small (b : Bl) : Prop := 0 ≤ b.x ∧ b.x ≤ 5000000 ∧ 0 ≤ b.y ∧ b.y ≤ 5000000 ∧ 0 ≤ b.w ∧ b.w ≤ 5000000 ∧ 0 ≤ b.h ∧ b.h ≤ 5000000 ∧ 0 ≤ b.area ∧ b.area ≤ 5000000
set_option maxRecDepth 10000 in
set_option maxHeartbeats 1000000 in
theorem grow_ret (B : Nat) (v : Value) (l : List Bl) (q : Nat) (px py : Int) (w : World) (hO : OwnF Bl.cells 7 w B 73 v l) (hq : q < l.length) (hsm : l[q].small) (hx : 0 ≤ px ∧ px ≤ 5000000) (hy : 0 ≤ py ∧ py ≤ 5000000) :
  Ret Try.prog 65 #[.pointer (some (el v (q * 7))), .agg #[i64 px, i64 py]] w fun _ w' => OwnF Bl.cells 7 w' B 73 v (l.set q (l[q].add px py)) ∧ w.grownBy w' v.ownBlock := by
 obtain ⟨b, hb⟩ : ∃ b, b = l[q] := ⟨_, rfl⟩
 rw [← hb] at hsm ⊢
 obtain ⟨s1, s2, s3, s4, s5, s6, s7, s8, s9, s10⟩ := hsm
 have cb : Bl.cells l[q] = b.cells := by rw [hb]
 refine enter Try.func65 rfl (by kernel_rfl) Try.ntmps65 rfl ?_
 refine C.seq <| C.region <| ?_
 refine E.boxB (cs := [i64 px, i64 py]) rfl rfl rfl ?_
 intro w1 b1 x1 _
 have O1 := hO.kept x1
 have nv : v.ownBlock ≠ some w.heap.size := fun e => by have := (World.ownsRow.lt hO.2 _ e).2; omega

 refine E.nil <| X.next <| C.seq <| C.drawn (by kernel_rfl) (by kernel_rfl) <| ?_
 refine Q.mv rfl rfl ?_
 refine Q.nilc rfl rfl ?_
 refine Q.fld (o := 0) (sz := 3) rfl Try.underlying73 rfl rfl (by kernel_rfl) rfl ?_
 refine Q.fld (o := 0) (sz := 0) rfl Try.underlying59 rfl rfl (by kernel_rfl) rfl ?_
 refine Q.load rfl Try.underlying3 rfl (O1.cellF hq 0 (by rw [cb]; rfl) rfl) rfl ?_
 refine Q.mv rfl rfl ?_
 refine Q.nilc rfl rfl ?_
 refine Q.fld (o := 0) (sz := 3) rfl Try.underlying73 rfl rfl (by kernel_rfl) rfl ?_
 refine Q.fld (o := 2) (sz := 0) rfl Try.underlying59 rfl rfl (by kernel_rfl) rfl ?_
 refine Q.load rfl Try.underlying3 rfl (O1.cellF hq 2 (by rw [cb]; rfl) rfl) rfl ?_
 refine Q.add rfl rfl (by omega) rfl ?_
 refine Q.fld (o := 0) (sz := 0) rfl Try.underlying64 rfl rfl (by kernel_rfl) rfl ?_
 refine Q.load rfl Try.underlying3 rfl (b1.cell 0) rfl ?_
 refine Q.add rfl rfl (by omega) rfl ?_
 refine Q.max2 rfl rfl rfl ?_
 refine Q.asg rfl rfl ?_

 refine Q.nil <| fun w2 x2 => X.next <| C.seq <| C.drawnT 12 (by kernel_rfl) (by kernel_rfl) fun w3 x3 => ?_
 have O3 := O1.kept (x2.trans x3)
 have b3 := b1.ext (x2.trans x3)
 refine S.mv rfl rfl ?_
 refine S.mv rfl rfl ?_
 refine S.nilc rfl rfl ?_
 refine S.fld (o := 0) (sz := 3) rfl Try.underlying73 rfl rfl (by kernel_rfl) rfl ?_
 refine S.fld (o := 0) (sz := 0) rfl Try.underlying59 rfl rfl (by kernel_rfl) rfl ?_
 refine S.load rfl Try.underlying3 rfl (O3.cellF hq 0 (by rw [cb]; rfl) rfl) rfl ?_
 refine S.fld (o := 0) (sz := 0) rfl Try.underlying64 rfl rfl (by kernel_rfl) rfl ?_
 refine S.load rfl Try.underlying3 rfl (b3.cell 0) rfl ?_
 refine S.min2 rfl rfl rfl ?_
 refine S.nilc rfl rfl ?_
 refine S.fld (o := 0) (sz := 3) rfl Try.underlying73 rfl rfl (by kernel_rfl) rfl ?_
 refine S.fld (o := 0) (sz := 0) rfl Try.underlying59 rfl rfl (by kernel_rfl) rfl ?_
 refine S.nil ?_
 refine E.storeF 0 ⟨min b.x px, b.y, b.w, b.h, b.area, b.fx, b.fy⟩ rfl rfl (by kernel_rfl) rfl O3 hq rfl (by rw [cb]; rfl) (by rw [cb]; rfl) ?_
 intro w4 O4 g4 _
 have q4 : q < (l.set q ⟨min b.x px, b.y, b.w, b.h, b.area, b.fx, b.fy⟩).length := by rw [List.length_set]; exact hq
 have c4 : Bl.cells (l.set q ⟨min b.x px, b.y, b.w, b.h, b.area, b.fx, b.fy⟩)[q] = Bl.cells ⟨min b.x px, b.y, b.w, b.h, b.area, b.fx, b.fy⟩ := by rw [List.getElem_set_self]
 have b4 := Blk.apart b3 g4 nv
 refine E.nil <| X.next <| C.seq <| C.region <| E.mv rfl rfl <| E.mv rfl rfl <| E.mv rfl rfl <| E.nilc rfl rfl <| ?_
 refine E.fld (o := 0) (sz := 3) rfl Try.underlying73 rfl rfl (by kernel_rfl) rfl ?_
 refine E.fld (o := 0) (sz := 0) rfl Try.underlying59 rfl rfl (by kernel_rfl) rfl ?_
 refine E.load rfl Try.underlying3 rfl (O4.cellF q4 0 (by rw [c4]; rfl) rfl) rfl ?_
 refine E.sub' rfl rfl (by simp only; omega) rfl ?_
 refine E.nilc rfl rfl <| ?_
 refine E.fld (o := 0) (sz := 3) rfl Try.underlying73 rfl rfl (by kernel_rfl) rfl ?_
 refine E.fld (o := 2) (sz := 0) rfl Try.underlying59 rfl rfl (by kernel_rfl) rfl ?_
 refine E.storeF 2 ⟨min b.x px, b.y, max (b.x + b.w) (px + 1) - min b.x px, b.h, b.area, b.fx, b.fy⟩ rfl rfl (by kernel_rfl) rfl O4 q4 rfl (by rw [c4]; rfl) (by rw [c4]; rfl) ?_
 intro w5 O5 g5 _
 rw [List.set_set] at O5
 have q5 : q < (l.set q ⟨min b.x px, b.y, max (b.x + b.w) (px + 1) - min b.x px, b.h, b.area, b.fx, b.fy⟩).length := by rw [List.length_set]; exact hq
 have c5 : Bl.cells (l.set q ⟨min b.x px, b.y, max (b.x + b.w) (px + 1) - min b.x px, b.h, b.area, b.fx, b.fy⟩)[q] = Bl.cells ⟨min b.x px, b.y, max (b.x + b.w) (px + 1) - min b.x px, b.h, b.area, b.fx, b.fy⟩ := by rw [List.getElem_set_self]
 have b5 := Blk.apart b4 g5 nv

 refine E.nil <| X.next <| C.seq <| C.drawnT 19 (by kernel_rfl) (by kernel_rfl) fun w6 x6 => ?_
 have O6 := O5.kept x6
 have b6 := b5.ext x6
 refine S.mv rfl rfl ?_
 refine S.mv rfl rfl ?_
 refine S.nilc rfl rfl ?_
 refine S.fld (o := 0) (sz := 3) rfl Try.underlying73 rfl rfl (by kernel_rfl) rfl ?_
 refine S.fld (o := 3) (sz := 0) rfl Try.underlying59 rfl rfl (by kernel_rfl) rfl ?_
 refine S.load rfl Try.underlying3 rfl (O6.cellF q5 3 (by rw [c5]; rfl) rfl) rfl ?_
 refine S.fld (o := 1) (sz := 0) rfl Try.underlying64 rfl rfl (by kernel_rfl) rfl ?_
 refine S.load rfl Try.underlying3 rfl (b6.cell 1) rfl ?_
 refine S.mv rfl rfl ?_
 refine S.nilc rfl rfl ?_
 refine S.fld (o := 0) (sz := 3) rfl Try.underlying73 rfl rfl (by kernel_rfl) rfl ?_
 refine S.fld (o := 1) (sz := 0) rfl Try.underlying59 rfl rfl (by kernel_rfl) rfl ?_
 refine S.load rfl Try.underlying3 rfl (O6.cellF q5 1 (by rw [c5]; rfl) rfl) rfl ?_
 refine S.sub' rfl rfl (by simp only; omega) rfl ?_
 refine S.add rfl rfl (by simp only; omega) rfl ?_
 refine S.max2 rfl rfl rfl ?_
 refine S.nilc rfl rfl ?_
 refine S.fld (o := 0) (sz := 3) rfl Try.underlying73 rfl rfl (by kernel_rfl) rfl ?_
 refine S.fld (o := 3) (sz := 0) rfl Try.underlying59 rfl rfl (by kernel_rfl) rfl ?_
 refine S.nil ?_
 refine E.storeF 3 ⟨min b.x px, b.y, max (b.x + b.w) (px + 1) - min b.x px, max b.h (py - b.y + 1), b.area, b.fx, b.fy⟩ rfl rfl (by kernel_rfl) rfl O6 q5 rfl (by rw [c5]; rfl) (by rw [c5]; rfl) ?_
 intro w7 O7 g7 _
 rw [List.set_set] at O7
 have q7 : q < (l.set q ⟨min b.x px, b.y, max (b.x + b.w) (px + 1) - min b.x px, max b.h (py - b.y + 1), b.area, b.fx, b.fy⟩).length := by rw [List.length_set]; exact hq
 have c7 : Bl.cells (l.set q ⟨min b.x px, b.y, max (b.x + b.w) (px + 1) - min b.x px, max b.h (py - b.y + 1), b.area, b.fx, b.fy⟩)[q] = Bl.cells ⟨min b.x px, b.y, max (b.x + b.w) (px + 1) - min b.x px, max b.h (py - b.y + 1), b.area, b.fx, b.fy⟩ := by rw [List.getElem_set_self]
 refine E.nil <| X.next <| C.region <| E.mv rfl rfl <| E.nilc rfl rfl <| ?_
 refine E.fld (o := 4) (sz := 0) rfl Try.underlying73 rfl rfl (by kernel_rfl) rfl ?_
 refine E.load rfl Try.underlying3 rfl (O7.cellF q7 4 (by rw [c7]; rfl) rfl) rfl ?_
 refine E.add rfl rfl (by simp only; omega) rfl ?_
 refine E.nilc rfl rfl <| ?_
 refine E.fld (o := 4) (sz := 0) rfl Try.underlying73 rfl rfl (by kernel_rfl) rfl ?_
 refine E.storeF 4 (b.add px py) rfl rfl (by kernel_rfl) rfl O7 q7 rfl (by rw [c7]; rfl) (by rw [c7]; rfl) ?_
 intro w8 O8 g8 _
 rw [List.set_set] at O8
 have q8 : q < (l.set q (b.add px py)).length := by rw [List.length_set]; exact hq
 have c8 : Bl.cells (l.set q (b.add px py))[q] = Bl.cells (b.add px py) := by rw [List.getElem_set_self]
 refine E.nil <| end0 rfl ?_
 exact ⟨O8, grown_trans (grown_trans (grown_trans (grown_trans (grown_trans ((x1.trans (x2.trans x3)).toGrown _) g4) g5) (x6.toGrown _)) g7) g8⟩
end Go.Proofs.Ytbinlkobmlebpaa
