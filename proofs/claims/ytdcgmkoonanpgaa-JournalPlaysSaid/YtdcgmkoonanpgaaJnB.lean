/- journal: Records and Bytes leave the journal as it was. -/
import Derived.Test.YtdcgmkoonanpgaaJn6
namespace Go.Proofs.Ytdcgmkoonanpgaa
set_option linter.unusedSimpArgs false
set_option linter.unusedVariables false
open Go.RowKit Sym Go.Conc.Locks

/-- a variable that is at the end what it was at the beginning -/
theorem Sym.M.quiet {w w' : World} {b : Nat} {T : TypeId} {cs : List Value} {ns : List Rg} (h0 : (Rg.blk b T cs).ok w) (h : M w (fpU [Rg.blk b T cs]) w' (Rg.blk b T cs :: ns)) : M w Nn w' ns := by
  have hfr : FrS Nn w w' := ⟨h.fr.os, h.fr.tape, h.fr.output, h.fr.size, fun k hk _ => by
    by_cases e : k = b
    · subst e
      have h1 : w'.heap[k]? = some (.cells cs.toArray T (0, 0)) := h.blk 0 rfl
      have h2 : w.heap[k]? = some (.cells cs.toArray T (0, 0)) := h0
      rw [h1, h2]
    · exact h.fr.block k hk (fun hf => e (fp1.1 hf))⟩
  refine ⟨⟨fun i r hi => h.sep.ok (i + 1) r hi, fun i j r q hi hj hne => h.sep.apart (i + 1) (j + 1) r q hi hj (by omega)⟩, fun i r hi k hk => ?_, hfr⟩
  rcases h.mine (i + 1) r hi k hk with h1 | h1
  · exact (h.sep.apart (i + 1) 0 r _ hi rfl (by omega) k hk (fp1.1 h1)).elim
  · exact .inr h1
theorem Sym.Sep.stb {w : World} {b : Nat} {vr : Value} {hs : List Hd} {ls : LL} (hJ : Sep w (J3 b vr hs ls)) : ∀ w', FrS (fpU [jb b 0 vr (Jn.siz ls)]) w w' → RdL slv w' vr hs ∧ Bag w' hs ls := fun w' g =>
  ⟨OwnL.rd ((M.startS hJ).stb [0] rfl 1 (by decide) rfl w' g), (M.startS hJ).stb [0] rfl 2 (by decide) rfl w' g⟩
theorem RecordsE_ret (b : Nat) (vr : Value) (hs : List Hd) (ls : LL) (w : World) (hJ : Sep w (J3 b vr hs ls)) (hok : Jok ls) :
    Ret Try.prog 24 #[jp b] w fun v w' => ∃ hs', M w Nn w' [Rg.sl slv 22 v hs', Rg.bag hs' ls] := by
  have hst := hJ.stb
  have hJ0 : (jb b 0 vr (Jn.siz ls)).ok w := hJ.ok 0 _ rfl
  have hM := M.startS (Sep.one hJ0)
  refine enterD Try.func24 rfl (by kernel_rfl) Try.ntmps24 rfl ?_
  refine C.seq <| C.region <| E.asg rfl rfl <| E.nil <| X.next <| C.seq <| C.seq <| C.region <| E.mv rfl rfl <| ?_
  refine E.call rfl rfl (lock_ret b _ _ _ (hM.sep1 0 rfl)) ?_
  rintro _ w1 ⟨rfl, m1⟩
  have hM := hM.call1 0 rfl (by simp) m1
  try dsimp only [List.nil_append, List.cons_append, List.set_cons_zero, List.set_cons_succ, repl] at hM
  refine E.not rfl rfl <| E.nil <| X.next <| ?_
  refine C.cond rfl (fun hC0 => ?_) (fun hC0 => ?_)
  ·
    cases hC0
  ·
    clear hC0
    refine C.skip <| X.next <| C.seq <| C.region <| E.mv rfl rfl <| E.nilc rfl rfl <| ?_
    refine E.fld (o := 0) (sz := 1) rfl Try.underlying64 rfl rfl (by kernel_rfl) rfl ?_
    refine E.defer rfl ?_
    refine E.nil <| X.next <| C.seq <| C.region <| E.mv rfl rfl <| E.nilc rfl rfl <| ?_
    refine E.fld (o := 3) (sz := 0) rfl Try.underlying64 rfl rfl (by kernel_rfl) rfl ?_
    refine E.load rfl Try.underlying27 rfl (by first | exact hM.bcell 0 rfl rfl | exact hM.bcell 1 rfl rfl | exact hM.bcell 2 rfl rfl | exact hM.bcell 3 rfl rfl | exact hM.bcell 4 rfl rfl | exact hM.bcell 5 rfl rfl) rfl ?_
    refine E.call rfl rfl (copies_ret vr hs ls _ (hst _ hM.fr).1 (hst _ hM.fr).2 (by have := hok.1; omega) (fun q hq => by have := hok.2.2 q hq; omega)) ?_
    rintro v13 w2 ⟨hs', m⟩
    have hM := hM.call m
    try dsimp only [List.nil_append, List.cons_append, List.set_cons_zero, List.set_cons_succ, repl] at hM
    refine E.asg rfl rfl <| E.nil <| X.next <| C.ret <| retU muLib unlockC 0 hM rfl rfl (fun a w' ha => res1 rfl rfl a ha) ?_
    exact fun w' hM => ⟨hs', M.quiet hJ0 hM⟩

/-- what a record holds lies apart from what the call has made -/
theorem Sym.M.offArg {w w' : World} {b : Nat} {vr : Value} {hs : List Hd} {ls : LL} {rs : List Rg} {q : Rg} (h : M w (fpU [jb b 0 vr (Jn.siz ls)]) w' rs) (hJ : Sep w (J3 b vr hs ls)) {k : Nat} (hk : k < ls.length) (j : Nat) (hj : rs[j]? = some q) : Off (fpU [q]) (slv (hs[k]'(by rw [(hJ.ok 2 _ rfl : Bag w hs ls).1]; exact hk))) ls[k] := by
  have hb : Bag w hs ls := hJ.ok 2 _ rfl
  by_cases e : ls[k] = []
  · exact .inl e
  · refine .inr fun hf => ?_
    have hfp : (Rg.bag hs ls).fp (bs (slv (hs[k]'(by rw [hb.1]; exact hk)))).1 := ⟨k, _, _, List.getElem?_eq_getElem _, List.getElem?_eq_getElem hk, e, rfl⟩
    have hlt := (Rg.bag hs ls).live (w := w) hb _ hfp
    rcases h.mine j q hj _ (fp1.1 hf) with h1 | h1
    · exact hJ.apart 2 0 _ _ rfl rfl (by decide) _ hfp (fp1.1 h1)
    · omega
set_option maxHeartbeats 1000000 in
theorem BytesE_ret (b : Nat) (vr : Value) (hs : List Hd) (ls : LL) (w : World) (hJ : Sep w (J3 b vr hs ls)) (hok : Jok ls) :
    Ret Try.prog 22 #[jp b] w fun v w' => M w Nn w' [Rg.sl u8 5 v (Jn.encs ls)] := by
  have hst := hJ.stb
  have hJ0 : (jb b 0 vr (Jn.siz ls)).ok w := hJ.ok 0 _ rfl
  have hM := M.startS (Sep.one hJ0)
  refine enterD Try.func22 rfl (by kernel_rfl) Try.ntmps22 rfl ?_
  refine C.seq <| C.region <| E.asg rfl rfl <| E.nil <| X.next <| C.seq <| C.seq <| C.region <| E.mv rfl rfl <| ?_
  refine E.call rfl rfl (lock_ret b _ _ _ (hM.sep1 0 rfl)) ?_
  rintro _ w1 ⟨rfl, m1⟩
  have hM := hM.call1 0 rfl (by simp) m1
  try dsimp only [List.nil_append, List.cons_append, List.set_cons_zero, List.set_cons_succ, repl] at hM
  have hsl := (hst _ hM.fr).2.1
  have hlen := hok.1
  have hsz := hok.2.1
  refine E.not rfl rfl <| E.nil <| X.next <| ?_
  refine C.cond rfl (fun hC0 => ?_) (fun hC0 => ?_)
  ·
    cases hC0
  ·
    clear hC0
    refine C.skip <| X.next <| C.seq <| C.region <| E.mv rfl rfl <| E.nilc rfl rfl <| ?_
    refine E.fld (o := 0) (sz := 1) rfl Try.underlying64 rfl rfl (by kernel_rfl) rfl ?_
    refine E.defer rfl ?_
    refine E.nil <| X.next <| C.seq <| C.region <| E.mv rfl rfl <| E.nilc rfl rfl <| ?_
    refine E.fld (o := 4) (sz := 0) rfl Try.underlying64 rfl rfl (by kernel_rfl) rfl ?_
    refine E.load rfl Try.underlying3 rfl (by first | exact hM.bcell 0 rfl rfl | exact hM.bcell 1 rfl rfl | exact hM.bcell 2 rfl rfl | exact hM.bcell 3 rfl rfl | exact hM.bcell 4 rfl rfl | exact hM.bcell 5 rfl rfl) rfl ?_
    refine E.make0M (by_ := 1) (enc := u8) 0 hM rfl rfl Try.underlying22 (by kernel_rfl) rfl (by first | omega | (simp only [List.length_replicate, List.length_append, List.length_set, List.length_cons, List.length_nil, List.length_map, List.length_range, List.length_take, List.length_drop, List.length_zipWith] at *; omega)) (by first | omega | (simp only [List.length_replicate, List.length_append, List.length_set, List.length_cons, List.length_nil, List.length_map, List.length_range, List.length_take, List.length_drop, List.length_zipWith] at *; omega)) rfl ?_
    intro v16 w1 hM
    try dsimp only [List.nil_append, List.cons_append, List.set_cons_zero, List.set_cons_succ, repl] at hM
    refine E.asg rfl rfl <| E.nil <| X.next <| C.seq <| C.seq <| C.region <| E.mv rfl rfl <| E.nilc rfl rfl <| ?_
    refine E.fld (o := 3) (sz := 0) rfl Try.underlying64 rfl rfl (by kernel_rfl) rfl ?_
    refine E.load rfl Try.underlying27 rfl (by first | exact hM.bcell 0 rfl rfl | exact hM.bcell 1 rfl rfl | exact hM.bcell 2 rfl rfl | exact hM.bcell 3 rfl rfl | exact hM.bcell 4 rfl rfl | exact hM.bcell 5 rfl rfl) rfl ?_
    refine E.lenv rfl (Rd.shape (hst _ hM.fr).1) Try.underlying27 rfl ?_
    refine E.mv rfl rfl <| E.nil <| X.next <| C.block <| ?_

    refine C.loop2 [(20, _), (21, _)] rfl (fun (v3 : Value) (i : Nat) => [(3, v3), (22, i64 i)]) (fun (v3 : Value) (i : Nat) w' => M w (fpU [jb b 0 vr (Jn.siz ls)]) w' [jb b 1 vr (Jn.siz ls), Rg.sl u8 5 v3 (Jn.encs (ls.take i))] ∧ i ≤ ls.length) (fun (v3 : Value) (i : Nat) => ls.length - i) v16 0 ?_ ?_ ?_
    · exact Sub.cons rfl <| Sub.cons rfl <| Sub.nil _
    · exact ⟨hM, Nat.zero_le _⟩
    rintro v3 i w2 ⟨hM, hi⟩
    refine C.seq <| C.region <| E.bin rfl rfl rfl rfl <| E.nil <| X.next <| C.seq <| ?_
    refine C.cond' rfl (fun hC1 => ?_) (fun hC1 => ?_)
    ·
      have hi' : i < ls.length := by omega
      have hsm := hok.2.2 ls[i] (List.getElem_mem hi')
      have hel := Jn.encs_len (ls.take i)
      have hmo := Jn.siz_mono ls i
      refine C.skip <| X.next <| C.seq <| C.block <| C.seq <| C.region <| ?_
      refine E.get (k := i) rfl rfl (hst _ hM.fr).1 rfl (by omega) Try.underlying27 (by kernel_rfl) Try.underlying22 rfl rfl rfl ?_
      refine E.asg rfl rfl <| E.nil <| X.next <| C.region <| E.mv rfl rfl <| E.mv rfl rfl <| ?_
      refine E.call rfl rfl (appendRecord_ret v3 _ _ ls[i] _ (hM.sep1 1 rfl) ((hst _ hM.fr).2.at hi') (hM.offArg hJ hi' 1 rfl) (by omega) (by omega)) ?_
      rintro v28 w3 m3
      have hM := hM.call1 1 rfl (by simp) m3
      try dsimp only [List.nil_append, List.cons_append, List.set_cons_zero, List.set_cons_succ, repl] at hM
      refine E.asg rfl rfl <| E.nil <| X.outN <| X.next <| C.region <| ?_
      refine E.add rfl rfl (by omega) rfl ?_

      refine E.mv rfl rfl <| E.nil <| X.again2 _ (i + 1) (Sub.cons rfl <| Sub.cons rfl <| Sub.nil _) rfl ⟨by rw [← List.take_append_getElem hi', Jn.encs_app, show Jn.encs [ls[i]] = Jn.rec ls[i] from by simp [Jn.encs]]; exact hM, by omega⟩ (by omega)
    ·
      obtain rfl : i = ls.length := by omega
      rw [List.take_length] at hM
      refine C.exit <| X.exitT <| X.exitT <| X.outE <| X.next <| C.seq <| C.region <| E.mv rfl rfl <| E.asg rfl rfl <| E.nil <| X.next <| C.ret <| retU muLib unlockC 0 hM rfl rfl (fun a w' ha => res1 rfl rfl a ha) ?_
      exact fun w' hM => M.quiet hJ0 hM

end Go.Proofs.Ytdcgmkoonanpgaa
