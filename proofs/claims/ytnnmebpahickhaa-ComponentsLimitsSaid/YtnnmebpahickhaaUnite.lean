/- components: unite, the inner function of sets. -/
import Derived.Test.YtnnmebpahickhaaFind
import Derived.Test.YtnnmebpahickhaaSymQ
import Derived.Test.YtnnmebpahickhaaSymS
namespace Go.Proofs.Ytnnmebpahickhaa
set_option linter.unusedSimpArgs false
set_option linter.unusedVariables false
open Go.RowKit Sym Uf

/-- nothing that stood at the entry, below B, has changed -/
def Fr (B : Nat) (w w' : World) : Prop := ∀ a, Ext a w → a.heap.size ≤ B → Ext a w'
theorem Fr.refl (B : Nat) (w : World) : Fr B w w := fun _ h _ => h
theorem Fr.trans {B : Nat} {w w' w'' : World} (h : Fr B w w') (k : Fr B w' w'') : Fr B w w'' := fun a h0 hB => k a (h a h0 hB) hB
theorem Fr.ext {B : Nat} {w w' : World} (h : Ext w w') : Fr B w w' := fun _ h0 _ => h0.trans h
theorem Fr.own {B : Nat} {w w' : World} {e : TypeId} {sz n : Nat} {v : Value} {cs : List Value} (ho : Own w B e sz v n cs) (g : w.grownBy w' v.ownBlock) : Fr B w w' := fun _ h0 hB => h0.own ho g hB
/-- the variables of sets, and the bitmap -/
structure SV where
  bm : Nat
  bd : Nat
  bp : Nat
  bf : Nat
  bz : Nat
  vp : Value
  vz : Value
  vd : Value
  W : Int
  H : Int
  dark : Bool
  dk : List Bool
structure SW (w : World) (B : Nat) (c : SV) (par siz : List Int) : Prop where
  u : UW w B c.bp c.bf c.vp par
  hm : Blk w c.bm 24 #[i64 c.W, i64 c.H, c.vd]
  hd : Blk w c.bd 4 #[.bool c.dark]
  hz : Blk w c.bz 57 #[c.vz]
  oz : OwnL i32 w B 21 c.vz siz
  rd : RdL Value.bool w c.vd c.dk
  rb : c.dk = [] ∨ (bs c.vd).1 < B
  ap : Apart c.vp c.vz
  n1 : c.vp.ownBlock ≠ some c.bm
  n2 : c.vp.ownBlock ≠ some c.bd
  n3 : c.vp.ownBlock ≠ some c.bz
  m1 : c.vz.ownBlock ≠ some c.bm
  m2 : c.vz.ownBlock ≠ some c.bd
  m3 : c.vz.ownBlock ≠ some c.bz
  m4 : c.vz.ownBlock ≠ some c.bp
  m5 : c.vz.ownBlock ≠ some c.bf
section
variable {w w' : World} {B : Nat} {c : SV} {par par' siz : List Int}
theorem SW.ext (h : SW w B c par siz) (k : Ext w w') : SW w' B c par siz := { h with u := h.u.ext k, hm := h.hm.ext k, hd := h.hd.ext k, hz := h.hz.ext k, oz := h.oz.kept k, rd := h.rd.ext k }
theorem SW.rdGrown {e : TypeId} {l : List Int} {v : Value} (h : SW w B c par siz) (ho : OwnL i32 w B e v l) (g : w.grownBy w' v.ownBlock) : RdL Value.bool w' c.vd c.dk := by
  rcases h.rb with hb | hb
  · exact Rd.grown h.rd g (.inl (by rw [hb]; rfl))
  · exact Rd.grown h.rd g (.inr fun e => by have := (World.ownsRow.lt ho _ e.symm).1; omega)
theorem SW.parG (h : SW w B c par siz) (g : w.grownBy w' c.vp.ownBlock) (u' : UW w' B c.bp c.bf c.vp par') : SW w' B c par' siz :=
  { h with u := u', hm := Blk.apart h.hm g h.n1, hd := Blk.apart h.hd g h.n2, hz := Blk.apart h.hz g h.n3, oz := Own.apart h.oz g h.ap, rd := h.rdGrown h.u.own g }
theorem SW.setP (h : SW w B c par siz) {i : Nat} (hi : i < par.length) (z : Int) : SW (w.setCell (el c.vp i) (i32 z)) B c (par.set i z) siz ∧ Fr B w (w.setCell (el c.vp i) (i32 z)) :=
  ⟨h.parG (h.u.grow hi z) (h.u.set hi z), Fr.own h.u.own (h.u.grow hi z)⟩
theorem SW.setZ (h : SW w B c par siz) {i : Nat} (hi : i < siz.length) (z : Int) : SW (w.setCell (el c.vz i) (i32 z)) B c par (siz.set i z) ∧ Fr B w (w.setCell (el c.vz i) (i32 z)) := by
  obtain ⟨_, _, c3⟩ := h.oz.cellAt hi
  have g := grown_set w (el c.vz i) (i32 z)
  rw [← c3] at g
  exact ⟨{ h with u := ⟨Blk.apart h.u.hp g h.m4, Blk.apart h.u.hf g h.m5, Own.apart h.u.own g h.ap.symm, h.u.np, h.u.nf⟩, hm := Blk.apart h.hm g h.m1, hd := Blk.apart h.hd g h.m2, hz := Blk.apart h.hz g h.m3, oz := h.oz.set hi z, rd := h.rdGrown h.oz g }, Fr.own h.oz g⟩
end
/-- what unite leaves -/
structure UPost (w w' : World) (B : Nat) (c : SV) (par : List Int) (n : Nat) (D : Nat → Prop) (E : Nat → Nat → Prop) (a b : Nat) (par' siz' : List Int) : Prop where
  sw : SW w' B c par' siz'
  pl : par'.length = n
  zl : siz'.length = n
  fr : Fr B w w'
  says : Says par' D (fun i j => E i j ∨ (c.dk[b]? = some c.dark ∧ i = a ∧ j = b))
  out : ∀ k, ¬ D k → par'[k]? = par[k]?

set_option maxHeartbeats 1000000 in
theorem unite_ret (B : Nat) (c : SV) (n a b : Nat) (par siz : List Int) (D : Nat → Prop) (Eg : Nat → Nat → Prop) (w : World) (h : SW w B c par siz) (hs : Says par D Eg) (ha : D a) (hb : c.dk[b]? = some c.dark → D b) (hbn : b < n) (han : a < n) (hdn : c.dk.length = n) (hpl : par.length = n) (hzl : siz.length = n) (hn : n ≤ 2147483647) :
    Ret Try.prog 47 #[i64 a, i64 b, pv c.bm, pv c.bd, pv c.bf, pv c.bz, pv c.bp] w fun _ w' => ∃ par' siz', UPost w w' B c par n D Eg a b par' siz' := by
  have hbl : b < c.dk.length := by omega
  have hbg : c.dk[b]? = some c.dk[b] := List.getElem?_eq_getElem hbl
  refine enter Try.func47 rfl (by kernel_rfl) Try.ntmps47 rfl ?_

  refine C.seq <| C.seq <| C.drawn (by kernel_rfl) (by kernel_rfl) <| ?_
  refine Q.fld (o := 2) (sz := 0) rfl Try.underlying24 rfl rfl (by kernel_rfl) rfl ?_
  refine Q.load rfl Try.underlying22 rfl (h.hm.cell 2) rfl ?_
  refine Q.mv rfl rfl ?_
  refine Q.idx (sz := 1) rfl rfl h.rd Try.underlying22 (by kernel_rfl) (by omega) (by omega) (by decide) rfl ?_
  rw [show (b : Int).toNat * 1 = b from by omega]
  refine Q.load rfl Try.underlying4 rfl (h.rd.cell hbl) rfl ?_
  refine Q.load rfl Try.underlying4 rfl (h.hd.cell 0) rfl ?_
  refine Q.neb rfl rfl Try.underlying4 rfl ?_
  refine Q.nil <| fun w1 hx1 => X.next <| ?_
  refine C.cond rfl (fun hc => ?_) (fun hc => ?_)
  ·
    refine C.ret <| X.retT <| ret0 rfl ?_
    have hne : c.dk[b]? ≠ some c.dark := by
      rw [hbg]; intro e; have := Option.some.inj e; rw [this] at hc; simp at hc
    exact ⟨par, siz, h.ext hx1, hpl, hzl, Fr.ext hx1, hs.cl fun i j => ⟨fun k => k.mono fun _ _ e => .edge (.inl e), fun k => k.mono fun _ _ e => e.elim .edge (fun e => (hne e.1).elim)⟩, fun _ _ => rfl⟩
  ·

    have heq : c.dk[b]? = some c.dark := by
      rw [hbg]; simpa using hc
    have hDb := hb heq
    obtain ⟨ra, hDra, na, hpa⟩ := hs.root a ha
    obtain ⟨rb, hDrb, hrb⟩ := hs.root b hDb
    have h1 := h.ext hx1
    refine C.skip <| X.next <| C.seq <| C.held (fun w' => ∃ par', UW w' B c.bp c.bf c.vp par') (by kernel_rfl) fun wh hwh hhh => ?_
    have h2 := h1.ext hwh
    have hS : ∃ par', UW wh B c.bp c.bf c.vp par' := ⟨par, h2.u⟩
    refine H.take 1 rfl rfl (by kernel_rfl) (by kernel_rfl) (by kernel_rfl) hS (fun w' hS => Y.mv rfl) rfl ?_
    refine H.take 2 rfl rfl (by kernel_rfl) (by kernel_rfl) (by kernel_rfl) hS (fun w' hS => Y.conv rfl Try.underlying3 Try.underlying21 (IntWalk.i32_in _ (by omega))) rfl ?_
    refine H.take 5 rfl rfl (by kernel_rfl) (by kernel_rfl) (by kernel_rfl) hS (fun w' hS => Y.mv rfl) rfl ?_
    refine H.take 6 rfl rfl (by kernel_rfl) (by kernel_rfl) (by kernel_rfl) hS (fun w' hS => Y.conv rfl Try.underlying3 Try.underlying21 (IntWalk.i32_in _ (by omega))) rfl ?_
    refine H.take 0 rfl rfl (by kernel_rfl) (by kernel_rfl) (by kernel_rfl) hS (fun w' hS => Y.load rfl Try.underlying71 rfl (hS.choose_spec.hf.cell 0)) rfl ?_
    refine H.take 4 rfl rfl (by kernel_rfl) (by kernel_rfl) (by kernel_rfl) hS (fun w' hS => Y.load rfl Try.underlying71 rfl (hS.choose_spec.hf.cell 0)) rfl ?_
    refine H.only 3 rfl (by kernel_rfl) ?_
    refine E.callv rfl rfl rfl (find_ret B c.bp c.bf c.vp na a ra par _ hpa h2.u) ?_
    rintro _ w3 ⟨rfl, par3, hu3, hc3, hg3⟩
    have h3 := h2.parG hg3 hu3
    have hs3 := hs.comp hc3
    have hrb3 := hc3.root hrb
    obtain ⟨nb, hpb⟩ := hrb3
    have hS : ∃ par', UW w3 B c.bp c.bf c.vp par' := ⟨par3, hu3⟩
    refine H.back hS ?_
    refine H.only 7 rfl (by kernel_rfl) ?_
    refine E.callv rfl rfl rfl (find_ret B c.bp c.bf c.vp nb b rb par3 _ hpb hu3) ?_
    rintro _ w4 ⟨rfl, par4, hu4, hc4, hg4⟩
    have h4 := h3.parG hg4 hu4
    have hs4 := hs3.comp hc4
    have hra4 : Root par4 a ra := hc4.root (hc3.root ⟨na, hpa⟩)
    have hrb4 : Root par4 b rb := hc4.root ⟨nb, hpb⟩
    have hl4 : par4.length = n := by rw [hc4.1, hc3.1, hpl]
    have hfr4 : Fr B w w4 := ((Fr.ext (hx1.trans hwh)).trans (Fr.own h2.u.own hg3)).trans (Fr.own hu3.own hg4)
    have hout4 : ∀ k, ¬ D k → par4[k]? = par[k]? := fun k hk => by rw [hc4.out hDb hs3.step hk, hc3.out ha hs.step hk]
    have hS : ∃ par', UW w4 B c.bp c.bf c.vp par' := ⟨par4, hu4⟩
    have hra_lt := hra4.lt'
    have hrb_lt := hrb4.lt'
    have fin : ∀ {w' par' siz'}, SW w' B c par' siz' → par'.length = n → siz'.length = n → Fr B w w' → Says par' D (fun i j => Eg i j ∨ (i = a ∧ j = b)) → (∀ k, ¬ D k → par'[k]? = par[k]?) → ∃ par' siz', UPost w w' B c par n D Eg a b par' siz' := fun a1 a2 a3 a4 a5 a6 =>
      ⟨_, _, a1, a2, a3, a4, a5.cl fun i j => ⟨fun k => k.mono fun _ _ e => .edge (e.imp id fun e => ⟨heq, e⟩), fun k => k.mono fun _ _ e => .edge (e.imp id fun e => e.2)⟩, a6⟩
    refine H.back hS ?_
    refine H.take 8 rfl rfl (by kernel_rfl) (by kernel_rfl) (by kernel_rfl) hS (fun w' hS => Y.asg rfl) rfl ?_
    refine H.take 9 rfl rfl (by kernel_rfl) (by kernel_rfl) (by kernel_rfl) hS (fun w' hS => Y.asg rfl) rfl ?_
    refine H.done (by kernel_rfl) <| X.next <| C.seq <| C.seq <| C.region <| E.mv rfl rfl <| E.mv rfl rfl <| E.bin rfl rfl rfl rfl <| E.nil <| X.next <| ?_
    refine C.cond' rfl (fun hc => ?_) (fun hc => ?_)
    ·
      refine C.ret <| X.retT <| ret0 rfl ?_
      have hrr : ra = rb := by omega
      subst hrr
      exact fin h4 hl4 hzl hfr4 (hs4.already ha hDb hra4 hrb4) hout4
    ·
      have hrr : ra ≠ rb := by omega
      refine C.skip <| X.next <| ?_

      refine C.cut (G := Nat × Nat) (fun g => [(5, pv c.bz), (6, pv c.bp), (9, i32 (g.1 : Nat)), (10, i32 (g.2 : Nat))]) (fun g w' => Ext w4 w' ∧ ((g.1 = ra ∧ g.2 = rb) ∨ (g.1 = rb ∧ g.2 = ra))) ?_ ?_
      ·

        refine C.seq <| C.drawn (by kernel_rfl) (by kernel_rfl) <| ?_
        refine Q.load rfl Try.underlying57 rfl (h4.hz.cell 0) rfl ?_
        refine Q.mv rfl rfl ?_
        refine Q.idx (sz := 1) rfl rfl h4.oz.rd Try.underlying57 (by kernel_rfl) (by omega) (by omega) (by decide) rfl ?_
        rw [show (ra : Int).toNat * 1 = ra from by omega]
        refine Q.load rfl Try.underlying21 rfl (h4.oz.rd.cell (show ra < siz.length by omega)) rfl ?_
        refine Q.load rfl Try.underlying57 rfl (h4.hz.cell 0) rfl ?_
        refine Q.mv rfl rfl ?_
        refine Q.idx (sz := 1) rfl rfl h4.oz.rd Try.underlying57 (by kernel_rfl) (by omega) (by omega) (by decide) rfl ?_
        rw [show (rb : Int).toNat * 1 = rb from by omega]
        refine Q.load rfl Try.underlying21 rfl (h4.oz.rd.cell (show rb < siz.length by omega)) rfl ?_
        refine Q.bin rfl rfl rfl rfl ?_
        refine Q.nil <| fun w5 hx5 => X.next <| ?_
        refine C.cond' rfl (fun hc => ?_) (fun hc => ?_)
        ·
          refine C.region <| E.mv rfl rfl <| E.mv rfl rfl <| E.asg rfl rfl <| E.asg rfl rfl <| E.nil <| X.join (rb, ra) (Sub.cons rfl <| Sub.cons rfl <| Sub.cons rfl <| Sub.cons rfl <| Sub.nil _) ⟨hx5, .inr ⟨rfl, rfl⟩⟩
        ·
          refine C.skip <| X.join (ra, rb) (Sub.cons rfl <| Sub.cons rfl <| Sub.cons rfl <| Sub.cons rfl <| Sub.nil _) ⟨hx5, .inl ⟨rfl, rfl⟩⟩
      ·
        rintro ⟨x, y⟩ w5 ⟨hx5, hxy⟩
        simp only at hxy
        have h5 := h4.ext hx5
        have hxl : x < n := by omega
        have hyl : y < n := by omega
        have hy5 : y < par4.length := by omega
        refine C.seq <| C.region <| ?_
        refine E.load rfl Try.underlying57 rfl (h5.u.hp.cell 0) rfl ?_
        refine E.mv rfl rfl <| E.mv rfl rfl <| ?_
        refine E.idx (sz := 1) rfl rfl h5.u.own.rd Try.underlying57 (by kernel_rfl) (by omega) (by omega) (by decide) rfl ?_
        rw [show (y : Int).toNat * 1 = y from by omega]
        refine E.store rfl rfl (by kernel_rfl) rfl (h5.u.own.cellAt hy5).1 (h5.u.own.cellAt hy5).2.1 ?_
        obtain ⟨h6, hf6⟩ := h5.setP hy5 (x : Int)
        have hs6 := hs4.hang ha hDb hra4 hrb4 hrr x y hxy
        have hDy : D y := hxy.elim (fun e => e.2 ▸ hDrb) (fun e => e.2 ▸ hDra)
        have hout6 : ∀ k, ¬ D k → (par4.set y (x : Int))[k]? = par[k]? := fun k hk => by
          rw [List.getElem?_set_ne (show y ≠ k from fun e => hk (e ▸ hDy))]; exact hout4 k hk
        have hx6 : x < siz.length := by omega
        have hy6 : y < siz.length := by omega

        refine E.nil <| X.next <| C.drawnT 10 (by kernel_rfl) (by kernel_rfl) fun wh hwh => ?_
        have h7 := h6.ext hwh
        refine S.load rfl Try.underlying57 rfl (h7.hz.cell 0) rfl ?_
        refine S.mv rfl rfl ?_
        refine S.idx (sz := 1) rfl rfl h7.oz.rd Try.underlying57 (by kernel_rfl) (by omega) (by omega) (by decide) rfl ?_
        rw [show (x : Int).toNat * 1 = x from by omega]
        refine S.load rfl Try.underlying21 rfl (h7.oz.rd.cell hx6) rfl ?_
        refine S.load rfl Try.underlying57 rfl (h7.hz.cell 0) rfl ?_
        refine S.mv rfl rfl ?_
        refine S.idx (sz := 1) rfl rfl h7.oz.rd Try.underlying57 (by kernel_rfl) (by omega) (by omega) (by decide) rfl ?_
        rw [show (y : Int).toNat * 1 = y from by omega]
        refine S.load rfl Try.underlying21 rfl (h7.oz.rd.cell hy6) rfl ?_
        refine S.bin rfl rfl rfl rfl ?_
        refine S.idx (sz := 1) rfl rfl h7.oz.rd Try.underlying57 (by kernel_rfl) (by omega) (by omega) (by decide) rfl ?_
        rw [show (x : Int).toNat * 1 = x from by omega]
        refine S.nil ?_
        refine E.store rfl rfl (by kernel_rfl) rfl (h7.oz.cellAt hx6).1 (h7.oz.cellAt hx6).2.1 ?_
        obtain ⟨h8, hf8⟩ := h7.setZ hx6 (IntKind.i32.wrap (siz[x] + siz[y]))
        refine E.nil <| end0 rfl ?_
        exact fin h8 (by rw [List.length_set]; exact hl4) (by rw [List.length_set]; exact hzl) ((((hfr4.trans (Fr.ext hx5)).trans hf6).trans (Fr.ext hwh)).trans hf8) hs6 hout6
end Go.Proofs.Ytnnmebpahickhaa
