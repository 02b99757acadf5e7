/- Texts of the claim, laid together: Df8. -/
import Derived.Test.YtcmgbjmcklfkcaaDoorG27
import Derived.Test.YtcmgbjmcklfkcaaDoorG28
/- deflate: the header of a block. -/
namespace Go.Proofs.YtcmgbjmcklfkcaaDoor
set_option linter.unusedSimpArgs false
set_option linter.unusedVariables false
open Go.RowKit Sym

open Df (Stp)
namespace Sym
section
variable {P : Program} {ops : Array Oper} {Q : Exit → Act → World → Prop} {s : St} {env : Env} {w : World} {rest : List Oper} {d : Nat} {ty : TypeId} {pos : String} {aft : Array Edge}
/-- an element of an array of numbers that is a value -/
theorem run_idxV {t e : TypeId} {n k : Nat} {cs : List Value} {kd kk : IntKind} {v : Value} (ht : P.underlying t = some (.array n e)) (he : P.underlying e = some (.int kk)) (hs : (P.info? e).map (·.size) = some 1) (hk : k < n) (hv : cs[k]? = some v) : (Instr.index t (.agg cs.toArray) (.int kd (k : Int))).run P w = .ok v w := by
  obtain ⟨i, hi, hs'⟩ := Option.map_eq_some_iff.1 hs
  have h1 : (0 : Int) ≤ (k : Int) ∧ (k : Int) < (n : Int) := by omega
  have hagg : (isAgg e).run P w = .ok false w := by unfold isAgg; rw [Sem.run_bind, run_underlying he w]; rfl
  have h2 : ¬ n ≤ k := by omega
  simp [Instr.index, asIntOf, run_underlying ht, h1, hk, h2, sizeOf, typeInfo, hi, hs', part, hagg, hv]
theorem E.idxV {t e : TypeId} {n : Nat} {x ix : Operand} {cs : List Value} {i : Int} {kd kk : IntKind} {v : Value} (k : Nat) (hx : ev env x = some (.agg cs.toArray)) (hi : ev env ix = some (.int kd i)) (hik : i = (k : Int)) (ht : P.underlying t = some (.array n e)) (he : P.underlying e = some (.int kk)) (hs : (P.info? e).map (·.size) = some 1) (hk : k < n) (hv : cs[k]? = some v) (hd : Nat.blt d s.n = true)
    (h : wpE P ops Q s rest ((d, v) :: env) w) : wpE P ops Q s (⟨some d, .index t x ix, ty, pos, aft, none⟩ :: rest) env w := by
  subst hik
  exact E.op (fun a ha => by simp only [execOp, ha.ev hx, ha.ev hi]; rw [Sem.run_bind, run_idxV ht he hs hk hv]; rfl) hd h
end
end Sym
/-- the package's variable: the order of the lengths -/
structure Ord (w : World) : Prop where
  at_ : At w 0 0 (Df.ordL.map fun n : Nat => i64 (n : Int))
  lt : 0 < w.heap.size
theorem Ord.step {S : Nat → Prop} {w0 w : World} (h : Ord w0) (k : FrS S w0 w) (hn : ¬ S 0) : Ord w := by
  refine ⟨fun j u hu => ?_, Nat.lt_of_lt_of_le h.lt k.size⟩
  have h1 := h.at_ j u hu
  have h2 := k.block 0 h.lt hn
  unfold World.cell? at h1 ⊢
  rw [h2]; exact h1
theorem Sym.M.ord {S : Nat → Prop} {w0 w : World} {rs : List Rg} (h : M w0 S w rs) (hO : Ord w0) (hn : ¬ S 0) : Ord w := hO.step h.fr hn
theorem Sym.M.ord0 {w0 w : World} {rs : List Rg} (h : M w0 Nn w rs) (hO : Ord w0) : Ord w := hO.step h.fr (fun h => h)
theorem Sym.M.no0 {w0 w : World} {rs : List Rg} (h : M w0 Nn w rs) (hO : Ord w0) : ¬ fpU rs 0 := fun ⟨i, r, hi, hk⟩ => by
  rcases h.mine i r hi 0 hk with h1 | h1
  · exact h1
  · have := hO.lt; omega
theorem nz_app' (a b : List Nat) : nz (a ++ b) = nz a ++ nz b := List.map_append
theorem nz_cut {w : World} {p : Value} {l : List Nat} {n : Nat} (h : RdL i64 w p (nz l)) (hn : n ≤ l.length) : RdL i64 w (partV p 0 n) (nz (l.take n)) := by
  have := h.partV (a := 0) (b := n) (Nat.zero_le _) (by rw [nz_len]; exact hn)
  rw [show cutL 0 n (nz l) = nz (l.take n) by unfold cutL nz; rw [List.drop_zero, Nat.sub_zero, List.map_take]] at this; exact this
abbrev lsf (c : List Nat) (i : Nat) : Int := ((c.getD (Df.ordL.getD i 0) 0 : Nat) : Int)
theorem lsf_all (c : List Nat) : tab 19 (lsf c) = nz (Df.lst c) := rfl
theorem ord_lt : ∀ i, i < 19 → Df.ordL.getD i 0 < 19 := by decide
theorem ord_at {i : Nat} (h : i < 19) : (Df.ordL.map fun n : Nat => i64 (n : Int))[i]? = some (i64 ((Df.ordL.getD i 0 : Nat) : Int)) := by
  rw [List.getElem?_map, List.getElem?_eq_getElem (show i < Df.ordL.length from h), Pf.getD_eq (show i < Df.ordL.length from h)]; rfl
namespace Df
theorem hdr3_snoc {c : List Nat} {i : Nat} (h : i < 19) : hdr3 c (i + 1) = hdr3 c i ++ low ((lst c).getD i 0) 3 := by
  unfold hdr3
  rw [← List.take_append_getElem (show i < (lst c).length from h), List.flatMap_append, Pf.getD_eq (show i < (lst c).length from h)]; simp
theorem hdr3_len (c : List Nat) (i : Nat) : (hdr3 c i).length ≤ 3 * 19 := by
  unfold hdr3
  have : ∀ l : List Nat, (l.flatMap fun n => low n 3).length = 3 * l.length := fun l => by
    induction l with
    | nil => rfl
    | cons a l ih => rw [List.flatMap_cons, List.length_append, low_len, ih, List.length_cons]; omega
  rw [this, List.length_take, lst_len]; omega
theorem sbits_len {c : List Nat} (hc : ∀ n ∈ c, n ≤ 30) {m : Nat} (x : Stp) (hx : Sok m x) : (sbits c x).length ≤ 40 := by
  have := gd30 hc x.1
  unfold sbits
  rw [List.length_append, btv_len, low_len]
  rcases hx with h | h | h | h
  · rw [h.2]; show _ + 0 ≤ 40; omega
  · omega
  · omega
  · omega
theorem sbs_len {c : List Nat} (hc : ∀ n ∈ c, n ≤ 30) {m : Nat} : ∀ {st : List Stp}, (∀ x ∈ st, Sok m x) → (st.flatMap (sbits c)).length ≤ 40 * st.length
  | [], _ => by simp
  | x :: st, h => by
    have h1 := sbits_len hc x (h x (by simp))
    have h2 := sbs_len hc (st := st) fun y hy => h y (by simp [hy])
    rw [List.flatMap_cons, List.length_append, List.length_cons]; omega
theorem sbs_snoc {c : List Nat} {st : List Stp} {i : Nat} (h : i < st.length) : (st.take (i + 1)).flatMap (sbits c) = (st.take i).flatMap (sbits c) ++ sbits c st[i] := by
  rw [← List.take_append_getElem h, List.flatMap_append]; simp
theorem ordL_all : ∀ s, s < 19 → s ∈ ordL := by decide
theorem allL_len {L D : List Nat} (hL : L.length = 286) (hD : D.length = 30) : (allL L D).length ≤ 316 := by
  have h1 := ctn_le L 257; have h2 := ctn_le D 1
  unfold allL; rw [List.length_append, List.length_take, List.length_take]; omega
theorem allL_mem {L D : List Nat} {m : Nat} (hL : ∀ n ∈ L, n ≤ m) (hD : ∀ n ∈ D, n ≤ m) : ∀ n ∈ allL L D, n ≤ m := fun n hn => by
  rcases List.mem_append.1 hn with h | h
  · exact hL n (List.mem_of_mem_take h)
  · exact hD n (List.mem_of_mem_take h)
end Df
set_option maxHeartbeats 8000000 in
set_option maxRecDepth 8000 in
theorem header_ret (b : Nat) (vo vl dl : Value) (B : List Bool) (L D : List Nat) (w : World) (hs : Sep w [Rg.blk b 44 [vo, i64 (fr B)], Rg.sl u8 5 vo (Df.pk B), Rg.sl i64 3 vl (nz L), Rg.sl i64 3 dl (nz D)]) (hO : Ord w) (hn0 : ¬ fpU [Rg.blk b 44 [vo, i64 (fr B)], Rg.sl u8 5 vo (Df.pk B), Rg.sl i64 3 vl (nz L), Rg.sl i64 3 dl (nz D)] 0) (hL : L.length = 286) (hD : D.length = 30) (hbL : ∀ n ∈ L, n ≤ 15) (hbD : ∀ n ∈ D, n ≤ 15) (hl : B.length ≤ 1000) :
    Ret Tryd.prog 25 #[pv b, vl, dl] w fun v w' => ∃ vn, M w (fpU [Rg.blk b 44 [vo, i64 (fr B)], Rg.sl u8 5 vo (Df.pk B), Rg.sl i64 3 vl (nz L), Rg.sl i64 3 dl (nz D)]) w' [Rg.blk b 44 [vn, i64 (fr (B ++ Df.hdr L D))], Rg.sl u8 5 vn (Df.pk (B ++ Df.hdr L D)), Rg.sl i64 3 vl (nz L), Rg.sl i64 3 dl (nz D)] := by
  have hM := M.startS hs
  refine enter Tryd.func25 rfl (by kernel_rfl) Tryd.ntmps25 rfl ?_
  refine C.seq <| C.region <| E.mv rfl rfl <| ?_
  have hc1 := Df.ctn_le L 257
  have hc2 := Df.ctn_le D 1
  have hc3 := Df.ctn_ge (l := L) (least := 257) (by omega)
  have hc4 := Df.ctn_ge (l := D) (least := 1) (by omega)
  have hal := Df.allL_len hL hD
  have hst := Df.sq_ok (m := 15) (Df.allL_mem hbL hbD) 0
  have hsl := Df.sq_len (Df.allL L D) 0
  obtain ⟨st, hste⟩ : ∃ x, x = Df.sq (Df.allL L D) 0 := ⟨_, rfl⟩
  rw [← hste] at hst hsl
  obtain ⟨hlw, hll, hlp, _, _⟩ := Df.oln_law (fs := Df.frqS st) (m := 7) (by decide) (by decide) (fun n hn => by have := Df.frqS_bd st n hn; omega) (by rw [Df.frqS_len]; decide) (by rw [Df.frqS_len]; decide)
  obtain ⟨hcb, hck⟩ := Df.oln_ok (fs := Df.frqS st) (m := 7) (by decide) (by decide) (fun n hn => by have := Df.frqS_bd st n hn; omega) (by rw [Df.frqS_len]; decide) (by rw [Df.frqS_len]; decide)
  obtain ⟨c, hce⟩ : ∃ x, x = Df.oln (Df.frqS st) 7 := ⟨_, rfl⟩
  rw [← hce] at hlw hll hlp hcb hck
  rw [Df.frqS_len] at hll
  have hc30 : ∀ n ∈ c, n ≤ 30 := fun n hn => Nat.le_trans (hcb n hn) (by decide)
  have hhd : Df.hdr L D = Df.low (Df.ctn L 257 - 257) 5 ++ Df.low (Df.ctn D 1 - 1) 5 ++ Df.low (Df.ctn (Df.lst c) 4 - 4) 4 ++ Df.hdr3 c (Df.ctn (Df.lst c) 4) ++ st.flatMap (Df.sbits c) := by rw [hce, hste]; rfl
  have hk1 := Df.ctn_le (Df.lst c) 4
  have hk2 := Df.ctn_ge (l := Df.lst c) (least := 4) (by rw [Df.lst_len]; decide)
  rw [Df.lst_len] at hk1
  refine E.call rfl rfl (cut_ret vl L 257 _ (hM.sl 2 rfl)) ?_
  rintro _ w1 ⟨rfl, x1⟩
  have hM := hM.ext x1
  try dsimp only [List.nil_append, List.cons_append, List.set_cons_zero, List.set_cons_succ, repl] at hM
  refine E.mv rfl rfl <| ?_
  refine E.call rfl rfl (cut_ret dl D 1 _ (hM.sl 3 rfl)) ?_
  rintro _ w2 ⟨rfl, x2⟩
  have hM := hM.ext x2
  try dsimp only [List.nil_append, List.cons_append, List.set_cons_zero, List.set_cons_succ, repl] at hM
  refine E.asg rfl rfl <| E.asg rfl rfl <| E.nil <| X.next <| C.seq <| C.region <| ?_
  refine E.mkM (enc := i64) (e := 3) [] hM rfl (fun _ => by kernel_rfl) rfl rfl rfl ?_
  intro v25 w2 hM
  try dsimp only [List.nil_append, List.cons_append, List.set_cons_zero, List.set_cons_succ, repl] at hM
  refine E.mv rfl rfl <| ?_
  refine E.appendM 4 hM rfl rfl rfl Tryd.underlying29 elem_Tint (nz_cut (hM.sl 2 rfl) hc1) (fun _ => rfl) (by simp only [nz_len, List.length_take, List.length_nil]; omega) (by simp only [nz_len, List.length_take, List.length_nil]; omega) rfl ?_
  intro v27 w3 hM
  try dsimp only [List.nil_append, List.cons_append, List.set_cons_zero, List.set_cons_succ, repl] at hM
  refine E.mv rfl rfl <| ?_
  refine E.appendM 4 hM rfl rfl rfl Tryd.underlying29 elem_Tint (nz_cut (hM.sl 3 rfl) hc2) (fun _ => rfl) (by simp only [nz_len, List.length_take]; omega) (by simp only [nz_len, List.length_take]; omega) rfl ?_
  intro v29 w4 hM
  try dsimp only [List.nil_append, List.cons_append, List.set_cons_zero, List.set_cons_succ, repl] at hM
  rw [← nz_app'] at hM
  refine E.asg rfl rfl <| E.nil <| X.next <| C.seq <| C.region <| E.mv rfl rfl <| ?_
  refine E.call rfl rfl (sequence_ret v29 (Df.allL L D) _ (hM.sl 4 rfl) (by omega)) ?_
  rintro v31 w3 m
  have hM := hM.call m
  try dsimp only [List.nil_append, List.cons_append, List.set_cons_zero, List.set_cons_succ, repl] at hM
  rw [← hste] at hM
  try dsimp only [List.nil_append, List.cons_append, List.set_cons_zero, List.set_cons_succ, repl] at hM
  refine E.asg rfl rfl <| E.nil <| X.next <| C.seq <| C.region <| ?_
  refine E.makeM (by_ := 8) (enc := i64) 0 hM rfl Tryd.underlying29 (by kernel_rfl) rfl (by first | omega | (simp only [List.length_replicate, List.length_append, List.length_set, List.length_cons, List.length_nil, List.length_map, List.length_range, List.length_take, List.length_drop, List.length_zipWith] at *; omega)) (by first | omega | (simp only [List.length_replicate, List.length_append, List.length_set, List.length_cons, List.length_nil, List.length_map, List.length_range, List.length_take, List.length_drop, List.length_zipWith] at *; omega)) rfl ?_
  intro v32 w6 hM
  try dsimp only [List.nil_append, List.cons_append, List.set_cons_zero, List.set_cons_succ, repl] at hM
  refine E.asg rfl rfl <| E.nil <| X.next <| C.seq <| C.seq <| C.region <| E.mv rfl rfl <| ?_
  refine E.lenv rfl (RdF.shape (hM.slF 5 rfl)) Tryd.underlying82 rfl ?_
  refine E.mv rfl rfl <| E.nil <| X.next <| C.block <| ?_

  refine C.loop1 [(0, _), (1, _), (2, _), (7, _), (8, _), (33, _), (34, _)] rfl (fun (i : Nat) => [(35, i64 i)]) (fun (i : Nat) w' => M w (fpU [Rg.blk b 44 [vo, i64 (fr B)], Rg.sl u8 5 vo (Df.pk B), Rg.sl i64 3 vl (nz L), Rg.sl i64 3 dl (nz D)]) w' [Rg.blk b 44 [vo, i64 (fr B)], Rg.sl u8 5 vo (Df.pk B), Rg.sl i64 3 vl (nz L), Rg.sl i64 3 dl (nz D), Rg.sl i64 3 v29 (nz (Df.allL L D)), Rg.slF es 3 85 v31 st, Rg.sl i64 3 v32 (nz (Df.frqS (st.take i)))] ∧ i ≤ st.length) (fun (i : Nat) => st.length - i) 0 ?_ ?_ ?_
  · exact Sub.cons rfl <| Sub.nil _
  · exact ⟨hM, Nat.zero_le _⟩
  rintro i w7 ⟨hM, hi⟩
  refine C.seq <| C.region <| E.bin rfl rfl rfl rfl <| E.nil <| X.next <| C.seq <| ?_
  refine C.cond' rfl (fun hC0 => ?_) (fun hC0 => ?_)
  ·
    have hi' : i < st.length := by omega
    have hfl := Df.frqS_len (st.take i)
    have hfb := Df.frqS_bd (st.take i)
    have htl : (st.take i).length ≤ 316 := by rw [List.length_take]; omega
    have hx1 : st[i].1 < 19 := by rcases hst _ (List.getElem_mem hi') with h | h | h | h <;> omega
    have hfs := Df.frqS_snoc hi'
    refine C.skip <| X.next <| C.seq <| C.block <| C.seq <| C.region <| ?_
    refine E.idxF (k := i) rfl rfl (hM.slF 5 rfl) rfl hi' (by decide) Tryd.underlying82 (by kernel_rfl) rfl ?_
    refine E.loadA (cs := es st[i]) rfl Tryd.underlying85 rfl (by kernel_rfl) ((hM.slF 5 rfl).all hi') rfl ?_
    refine E.allocM (z := .agg #[.int .i64 0, .int .i64 0, .int .i64 0]) (cs := [.int .i64 0, .int .i64 0, .int .i64 0]) hM (by kernel_rfl) rfl rfl ?_
    intro b10 w8 hM
    try dsimp only [List.nil_append, List.cons_append, List.set_cons_zero, List.set_cons_succ, repl] at hM
    refine E.storeAM 7 (cs := es st[i]) hM rfl rfl rfl (by kernel_rfl) rfl (es_one _) ?_
    intro w9 hM
    try dsimp only [List.nil_append, List.cons_append, List.set_cons_zero, List.set_cons_succ, repl] at hM
    refine E.nil <| X.next <| C.region <| E.mv rfl rfl <| ?_
    refine E.fld (o := 0) (sz := 0) rfl Tryd.underlying85 rfl rfl (by kernel_rfl) rfl ?_
    refine E.load rfl Tryd.underlying3 rfl (hM.bcell 7 rfl rfl) rfl ?_
    refine E.get (k := st[i].1) rfl rfl (hM.sl 6 rfl) rfl (by rw [nz_len]; omega) Tryd.underlying29 (by kernel_rfl) Tryd.underlying3 rfl rfl rfl ?_
    rw [nz_gd]
    refine E.addN (a := (Df.frqS (st.take i)).getD st[i].1 0) (b := 1) rfl rfl (by have := gdB hfb st[i].1; omega) rfl ?_
    refine E.idx1 (k := st[i].1) rfl rfl (hM.sl 6 rfl) rfl (by rw [nz_len]; omega) Tryd.underlying29 (by kernel_rfl) rfl ?_
    refine E.storeL (enc := i64) 6 (((Df.frqS (st.take i)).getD st[i].1 0 + 1 : Nat) : Int) hM rfl rfl rfl (by kernel_rfl) rfl rfl (by rw [nz_len]; omega) ?_
    intro w10 hM
    try dsimp only [List.nil_append, List.cons_append, List.set_cons_zero, List.set_cons_succ, repl] at hM
    rw [Df.nz_bmp, ← hfs] at hM
    refine E.nil <| X.outN <| X.next <| C.region <| ?_
    refine E.addN (a := i) (b := 1) rfl rfl (by omega) rfl ?_

    refine E.mv rfl rfl <| E.nil <| X.again1 (i + 1) (Sub.cons rfl <| Sub.nil _) rfl ⟨hM.pick [0, 1, 2, 3, 4, 5, 6] (by decide), by omega⟩ (by omega)
  ·
    obtain rfl : i = st.length := by omega
    rw [List.take_length] at hM
    refine C.exit <| X.exitT <| X.exitT <| X.outE <| X.next <| C.seq <| C.region <| E.mv rfl rfl <| ?_
    refine E.call rfl rfl (Lengths_ret v32 (nz (Df.frqS st)) 7 _ (hM.sl 6 rfl)) ?_
    rintro _ w5 ⟨v49, rfl, m⟩
    have hM := hM.call m
    try dsimp only [List.nil_append, List.cons_append, List.set_cons_zero, List.set_cons_succ, repl] at hM
    rw [show lnv (nz (Df.frqS st)) 7 = _ from hlw] at hM
    try dsimp only [List.nil_append, List.cons_append, List.set_cons_zero, List.set_cons_succ, repl] at hM
    refine E.mv rfl rfl <| E.ext rfl rfl rfl <| E.ext rfl rfl rfl <| E.asg rfl rfl <| E.asg rfl rfl <| E.nil <| X.next <| C.seq <| C.region <| ?_
    refine E.makeM (by_ := 8) (enc := i64) 0 hM rfl Tryd.underlying29 (by kernel_rfl) rfl (by first | omega | (simp only [List.length_replicate, List.length_append, List.length_set, List.length_cons, List.length_nil, List.length_map, List.length_range, List.length_take, List.length_drop, List.length_zipWith] at *; omega)) (by first | omega | (simp only [List.length_replicate, List.length_append, List.length_set, List.length_cons, List.length_nil, List.length_map, List.length_range, List.length_take, List.length_drop, List.length_zipWith] at *; omega)) rfl ?_
    intro v52 w12 hM
    try dsimp only [List.nil_append, List.cons_append, List.set_cons_zero, List.set_cons_succ, repl] at hM
    refine E.asg rfl rfl <| E.nil <| X.next <| C.seq <| C.seq <| C.region <| ?_
    refine E.loadA (b := 0) (cs := Df.ordL.map fun n : Nat => i64 (n : Int)) rfl Tryd.underlying86 rfl (by kernel_rfl) (hM.ord hO hn0).at_ rfl ?_
    refine E.mv rfl rfl <| E.nil <| X.next <| C.block <| ?_

    refine C.loop1 [(0, _), (1, _), (2, _), (7, _), (11, _), (13, _), (53, _)] rfl (fun (i : Nat) => [(54, i64 i)]) (fun (i : Nat) w' => M w (fpU [Rg.blk b 44 [vo, i64 (fr B)], Rg.sl u8 5 vo (Df.pk B), Rg.sl i64 3 vl (nz L), Rg.sl i64 3 dl (nz D)]) w' [Rg.blk b 44 [vo, i64 (fr B)], Rg.sl u8 5 vo (Df.pk B), Rg.sl i64 3 vl (nz L), Rg.sl i64 3 dl (nz D), Rg.sl i64 3 v29 (nz (Df.allL L D)), Rg.slF es 3 85 v31 st, Rg.sl i64 3 v32 (nz (Df.frqS st)), Rg.sl i64 3 v49 (nz c), Rg.sl i64 3 v52 (tab i (lsf c) ++ List.replicate (19 - i) 0)] ∧ i ≤ 19) (fun (i : Nat) => 19 - i) 0 ?_ ?_ ?_
    · exact Sub.cons rfl <| Sub.nil _
    · exact ⟨hM, by omega⟩
    rintro i w13 ⟨hM, hi⟩
    refine C.seq <| C.region <| E.bin rfl rfl rfl rfl <| E.nil <| X.next <| C.seq <| ?_
    refine C.cond' rfl (fun hC1 => ?_) (fun hC1 => ?_)
    ·
      have hi' : i < 19 := by omega
      have hol := ord_lt i hi'
      have htl : (tab i (lsf c) ++ List.replicate (19 - i) (0 : Int)).length = 19 := by rw [List.length_append, tab_len, List.length_replicate]; omega
      refine C.skip <| X.next <| C.seq <| C.block <| C.seq <| C.region <| E.mv rfl rfl <| ?_
      refine E.idxV i rfl rfl rfl Tryd.underlying86 Tryd.underlying3 (by kernel_rfl) hi' (ord_at hi') rfl ?_
      refine E.asg rfl rfl <| E.asg rfl rfl <| E.nil <| X.next <| C.region <| E.mv rfl rfl <| E.mv rfl rfl <| E.mv rfl rfl <| E.mv rfl rfl <| ?_
      refine E.get (k := Df.ordL.getD i 0) rfl rfl (hM.sl 7 rfl) rfl (by rw [nz_len]; omega) Tryd.underlying29 (by kernel_rfl) Tryd.underlying3 rfl rfl rfl ?_
      rw [nz_gd]
      refine E.idx1 (k := i) rfl rfl (hM.sl 8 rfl) rfl (by rw [htl]; omega) Tryd.underlying29 (by kernel_rfl) rfl ?_
      refine E.storeL (enc := i64) 8 (lsf c i) hM rfl rfl rfl (by kernel_rfl) rfl rfl (by rw [htl]; omega) ?_
      intro w14 hM
      try dsimp only [List.nil_append, List.cons_append, List.set_cons_zero, List.set_cons_succ, repl] at hM
      rw [tab_set hi'] at hM
      refine E.nil <| X.outN <| X.next <| C.region <| ?_
      refine E.addN (a := i) (b := 1) rfl rfl (by omega) rfl ?_

      refine E.mv rfl rfl <| E.nil <| X.again1 (i + 1) (Sub.cons rfl <| Sub.nil _) rfl ⟨hM, by omega⟩ (by omega)
    ·
      obtain rfl : i = 19 := by omega
      rw [show List.replicate (19 - 19) (0 : Int) = [] from rfl, List.append_nil, lsf_all] at hM
      refine C.exit <| X.exitT <| X.exitT <| X.outE <| X.next <| C.seq <| C.region <| E.mv rfl rfl <| ?_
      refine E.call rfl rfl (cut_ret v52 (Df.lst c) 4 _ (hM.sl 8 rfl)) ?_
      rintro _ w6 ⟨rfl, x6⟩
      have hM := hM.ext x6
      try dsimp only [List.nil_append, List.cons_append, List.set_cons_zero, List.set_cons_succ, repl] at hM
      refine E.asg rfl rfl <| E.nil <| X.next <| C.seq <| C.region <| E.mv rfl rfl <| E.mv rfl rfl <| ?_
      refine E.lenv rfl (Rd.shape (nz_cut (hM.sl 2 rfl) hc1)) Tryd.underlying29 rfl ?_
      rw [nz_len, List.length_take, Nat.min_eq_left hc1]
      refine E.subN (a := Df.ctn L 257) (b := 257) rfl rfl (by omega) rfl ?_
      refine E.call rfl rfl (bits_ret b vo _ (Df.ctn L 257 - 257) 5 _ (hM.pick [0, 1] (by decide)).sep (by omega) (by decide) (by omega)) ?_
      rintro _ w7 ⟨vn7, m⟩
      have hM := hM.calls [0, 1] (by decide) rfl (by simp) m
      try dsimp only [List.nil_append, List.cons_append, List.set_cons_zero, List.set_cons_succ, repl] at hM
      try dsimp only [List.nil_append, List.cons_append, List.set_cons_zero, List.set_cons_succ, repl] at hM
      refine E.nil <| X.next <| C.seq <| C.region <| E.mv rfl rfl <| E.mv rfl rfl <| ?_
      refine E.lenv rfl (Rd.shape (nz_cut (hM.sl 3 rfl) hc2)) Tryd.underlying29 rfl ?_
      rw [nz_len, List.length_take, Nat.min_eq_left hc2]
      refine E.subN (a := Df.ctn D 1) (b := 1) rfl rfl (by omega) rfl ?_
      refine E.call rfl rfl (bits_ret b vn7 _ (Df.ctn D 1 - 1) 5 _ (hM.pick [0, 1] (by decide)).sep (by omega) (by decide) (by simp only [List.length_append, Df.low_len]; omega)) ?_
      rintro _ w8 ⟨vn8, m⟩
      have hM := hM.calls [0, 1] (by decide) rfl (by simp) m
      try dsimp only [List.nil_append, List.cons_append, List.set_cons_zero, List.set_cons_succ, repl] at hM
      try dsimp only [List.nil_append, List.cons_append, List.set_cons_zero, List.set_cons_succ, repl] at hM
      refine E.nil <| X.next <| C.seq <| C.region <| E.mv rfl rfl <| E.mv rfl rfl <| ?_
      refine E.lenv rfl (Rd.shape (nz_cut (hM.sl 8 rfl) hk1)) Tryd.underlying29 rfl ?_
      rw [nz_len, List.length_take, Df.lst_len, Nat.min_eq_left hk1]
      refine E.subN (a := Df.ctn (Df.lst c) 4) (b := 4) rfl rfl (by omega) rfl ?_
      refine E.call rfl rfl (bits_ret b vn8 _ (Df.ctn (Df.lst c) 4 - 4) 4 _ (hM.pick [0, 1] (by decide)).sep (by omega) (by decide) (by simp only [List.length_append, Df.low_len]; omega)) ?_
      rintro _ w9 ⟨vn9, m⟩
      have hM := hM.calls [0, 1] (by decide) rfl (by simp) m
      try dsimp only [List.nil_append, List.cons_append, List.set_cons_zero, List.set_cons_succ, repl] at hM
      try dsimp only [List.nil_append, List.cons_append, List.set_cons_zero, List.set_cons_succ, repl] at hM
      refine E.nil <| X.next <| C.seq <| C.seq <| C.region <| E.mv rfl rfl <| ?_
      refine E.lenv rfl (Rd.shape (nz_cut (hM.sl 8 rfl) hk1)) Tryd.underlying29 rfl ?_
      rw [nz_len, List.length_take, Df.lst_len, Nat.min_eq_left hk1]
      refine E.mv rfl rfl <| E.nil <| X.next <| C.block <| ?_

      refine C.loop2 [(0, _), (7, _), (11, _), (83, _), (84, _)] rfl (fun (i : Nat) (vs : Value) => [(85, i64 i)]) (fun (i : Nat) (vs : Value) w' => M w (fpU [Rg.blk b 44 [vo, i64 (fr B)], Rg.sl u8 5 vo (Df.pk B), Rg.sl i64 3 vl (nz L), Rg.sl i64 3 dl (nz D)]) w' [Rg.blk b 44 [vs, i64 (fr (B ++ Df.low (Df.ctn L 257 - 257) 5 ++ Df.low (Df.ctn D 1 - 1) 5 ++ Df.low (Df.ctn (Df.lst c) 4 - 4) 4 ++ Df.hdr3 c i))], Rg.sl u8 5 vs (Df.pk (B ++ Df.low (Df.ctn L 257 - 257) 5 ++ Df.low (Df.ctn D 1 - 1) 5 ++ Df.low (Df.ctn (Df.lst c) 4 - 4) 4 ++ Df.hdr3 c i)), Rg.sl i64 3 vl (nz L), Rg.sl i64 3 dl (nz D), Rg.sl i64 3 v29 (nz (Df.allL L D)), Rg.slF es 3 85 v31 st, Rg.sl i64 3 v32 (nz (Df.frqS st)), Rg.sl i64 3 v49 (nz c), Rg.sl i64 3 v52 (nz (Df.lst c))] ∧ i ≤ Df.ctn (Df.lst c) 4) (fun (i : Nat) (vs : Value) => Df.ctn (Df.lst c) 4 - i) 0 vn9 ?_ ?_ ?_
      · exact Sub.cons rfl <| Sub.nil _
      · exact ⟨hM.to (by rw [show Df.hdr3 c 0 = [] from rfl, List.append_nil]), Nat.zero_le _⟩
      rintro i vs w19 ⟨hM, hi⟩
      refine C.seq <| C.region <| E.bin rfl rfl rfl rfl <| E.nil <| X.next <| C.seq <| ?_
      refine C.cond' rfl (fun hC2 => ?_) (fun hC2 => ?_)
      ·
        have hi' : i < Df.ctn (Df.lst c) 4 := by omega
        have hhl := Df.hdr3_len c i
        have hsn := Df.hdr3_snoc (c := c) (i := i) (by omega)
        have hlb : (Df.lst c).getD i 0 ≤ 7 := gdB (l := Df.lst c) (B := 7) (fun n hn => by obtain ⟨s, _, rfl⟩ := List.mem_map.1 hn; exact gdB hcb s) i
        refine C.skip <| X.next <| C.seq <| C.block <| C.seq <| C.region <| ?_
        refine E.get (k := i) rfl rfl (nz_cut (hM.sl 8 rfl) hk1) rfl (by rw [nz_len, List.length_take, Df.lst_len]; omega) Tryd.underlying29 (by kernel_rfl) Tryd.underlying3 rfl rfl rfl ?_
        rw [nz_gd, List.getD_eq_getElem?_getD, List.getElem?_take_of_lt hi', ← List.getD_eq_getElem?_getD]
        refine E.asg rfl rfl <| E.nil <| X.next <| C.region <| E.mv rfl rfl <| E.mv rfl rfl <| ?_
        refine E.call rfl rfl (bits_ret b vs _ ((Df.lst c).getD i 0) 3 _ (hM.pick [0, 1] (by decide)).sep (by omega) (by decide) (by simp only [List.length_append, Df.low_len]; omega)) ?_
        rintro _ w10 ⟨vn10, m⟩
        have hM := hM.calls [0, 1] (by decide) rfl (by simp) m
        try dsimp only [List.nil_append, List.cons_append, List.set_cons_zero, List.set_cons_succ, repl] at hM
        try dsimp only [List.nil_append, List.cons_append, List.set_cons_zero, List.set_cons_succ, repl] at hM
        refine E.nil <| X.outN <| X.next <| C.region <| ?_
        refine E.addN (a := i) (b := 1) rfl rfl (by omega) rfl ?_

        refine E.mv rfl rfl <| E.nil <| X.again2 (i + 1) vn10 (Sub.cons rfl <| Sub.nil _) rfl ⟨hM.to (by rw [hsn]; simp only [List.append_assoc]), by omega⟩ (by omega)
      ·
        obtain rfl : i = Df.ctn (Df.lst c) 4 := by omega
        obtain ⟨Bh, hBh⟩ : ∃ x, x = (B ++ Df.low (Df.ctn L 257 - 257) 5 ++ Df.low (Df.ctn D 1 - 1) 5 ++ Df.low (Df.ctn (Df.lst c) 4 - 4) 4 ++ Df.hdr3 c (Df.ctn (Df.lst c) 4)) := ⟨_, rfl⟩
        have hBl : Bh.length ≤ 1100 := by have := Df.hdr3_len c (Df.ctn (Df.lst c) 4); rw [hBh]; simp only [List.length_append, Df.low_len]; omega
        rw [← hBh] at hM
        refine C.exit <| X.exitT <| X.exitT <| X.outE <| X.next <| C.seq <| C.region <| E.mv rfl rfl <| ?_
        refine E.call rfl rfl (newCode_ret v49 (nz c) _ (hM.sl 7 rfl)) ?_
        rintro _ w11 ⟨vc, rfl, m⟩
        have hM := hM.call m
        try dsimp only [List.nil_append, List.cons_append, List.set_cons_zero, List.set_cons_succ, repl] at hM
        rw [show cdv (nz c) = Pf.cdl c from cdv_ok hc30 hck (by omega)] at hM
        try dsimp only [List.nil_append, List.cons_append, List.set_cons_zero, List.set_cons_succ, repl] at hM
        refine E.allocM (z := .agg #[.slice none 0 0, .slice none 0 0]) (cs := [.slice none 0 0, .slice none 0 0]) hM (by kernel_rfl) rfl rfl ?_
        intro b18 w22 hM
        try dsimp only [List.nil_append, List.cons_append, List.set_cons_zero, List.set_cons_succ, repl] at hM
        refine E.storeAM 10 (cs := [v49, vc]) hM rfl rfl rfl (by kernel_rfl) rfl (ones (hM.sl 7 rfl).one <| ones (hM.sl 9 rfl).one <| ones_nil) ?_
        intro w23 hM
        try dsimp only [List.nil_append, List.cons_append, List.set_cons_zero, List.set_cons_succ, repl] at hM
        refine E.nil <| X.next <| C.seq <| C.region <| E.mv rfl rfl <| ?_
        refine E.lenv rfl (RdF.shape (hM.slF 5 rfl)) Tryd.underlying82 rfl ?_
        refine E.mv rfl rfl <| E.nil <| X.next <| C.block <| ?_

        refine C.loop2 [(0, _), (18, _), (95, _), (96, _)] rfl (fun (i : Nat) (vs : Value) => [(97, i64 i)]) (fun (i : Nat) (vs : Value) w' => M w (fpU [Rg.blk b 44 [vo, i64 (fr B)], Rg.sl u8 5 vo (Df.pk B), Rg.sl i64 3 vl (nz L), Rg.sl i64 3 dl (nz D)]) w' [Rg.blk b 44 [vs, i64 (fr (Bh ++ (st.take i).flatMap (Df.sbits c)))], Rg.sl u8 5 vs (Df.pk (Bh ++ (st.take i).flatMap (Df.sbits c))), Rg.sl i64 3 vl (nz L), Rg.sl i64 3 dl (nz D), Rg.sl i64 3 v29 (nz (Df.allL L D)), Rg.slF es 3 85 v31 st, Rg.sl i64 3 v32 (nz (Df.frqS st)), Rg.sl i64 3 v49 (nz c), Rg.sl i64 3 v52 (nz (Df.lst c)), Rg.sl i64 3 vc (Pf.cdl c), Rg.blk b18 52 [v49, vc]] ∧ i ≤ st.length) (fun (i : Nat) (vs : Value) => st.length - i) 0 vs ?_ ?_ ?_
        · exact Sub.cons rfl <| Sub.nil _
        · exact ⟨hM.to (by rw [List.take_zero, List.flatMap_nil, List.append_nil]), Nat.zero_le _⟩
        rintro i vs w24 ⟨hM, hi⟩
        refine C.seq <| C.region <| E.bin rfl rfl rfl rfl <| E.nil <| X.next <| C.seq <| ?_
        refine C.cond' rfl (fun hC3 => ?_) (fun hC3 => ?_)
        ·
          have hi' : i < st.length := by omega
          have hsx := hst _ (List.getElem_mem hi')
          have hx1 : st[i].1 < 19 := by rcases hsx with h | h | h | h <;> omega
          have hx2 : st[i].2.2 ≤ 7 ∧ st[i].2.1 ≤ 128 := by rcases hsx with h | h | h | h; (rw [h.2]; decide); omega; omega; omega
          have hsn := Df.sbs_snoc (c := c) hi'
          have hbl := Df.sbs_len hc30 (st := st.take i) (fun x hx => hst x (List.mem_of_mem_take hx))
          have htl : (st.take i).length ≤ 316 := by rw [List.length_take]; omega
          have hgc := Df.gd30 hc30 st[i].1
          refine C.skip <| X.next <| C.seq <| C.block <| C.seq <| C.region <| ?_
          refine E.idxF (k := i) rfl rfl (hM.slF 5 rfl) rfl hi' (by decide) Tryd.underlying82 (by kernel_rfl) rfl ?_
          refine E.loadA (cs := es st[i]) rfl Tryd.underlying85 rfl (by kernel_rfl) ((hM.slF 5 rfl).all hi') rfl ?_
          refine E.allocM (z := .agg #[.int .i64 0, .int .i64 0, .int .i64 0]) (cs := [.int .i64 0, .int .i64 0, .int .i64 0]) hM (by kernel_rfl) rfl rfl ?_
          intro b20 w25 hM
          try dsimp only [List.nil_append, List.cons_append, List.set_cons_zero, List.set_cons_succ, repl] at hM
          refine E.storeAM 11 (cs := es st[i]) hM rfl rfl rfl (by kernel_rfl) rfl (es_one _) ?_
          intro w26 hM
          try dsimp only [List.nil_append, List.cons_append, List.set_cons_zero, List.set_cons_succ, repl] at hM
          refine E.nil <| X.next <| C.seq <| C.region <| E.mv rfl rfl <| ?_
          refine E.loadA (cs := [v49, vc]) rfl Tryd.underlying52 rfl (by kernel_rfl) (hM.bat 10 rfl) rfl ?_
          refine E.fld (o := 0) (sz := 0) rfl Tryd.underlying85 rfl rfl (by kernel_rfl) rfl ?_
          refine E.load rfl Tryd.underlying3 rfl (hM.bcell 11 rfl rfl) rfl ?_
          refine E.call rfl rfl (symbol_ret b vs v49 vc _ c st[i].1 _ (hM.pick [0, 1, 7, 9] (by decide)).sep (by omega) hc30 hck (by rw [List.length_append]; omega)) ?_
          rintro _ w13 ⟨vn13, m⟩
          have hM := hM.calls [0, 1, 7, 9] (by decide) rfl (by simp) m
          try dsimp only [List.nil_append, List.cons_append, List.set_cons_zero, List.set_cons_succ, repl] at hM
          try dsimp only [List.nil_append, List.cons_append, List.set_cons_zero, List.set_cons_succ, repl] at hM
          refine E.nil <| X.next <| C.region <| E.mv rfl rfl <| ?_
          refine E.fld (o := 1) (sz := 0) rfl Tryd.underlying85 rfl rfl (by kernel_rfl) rfl ?_
          refine E.load rfl Tryd.underlying3 rfl (hM.bcell 11 rfl rfl) rfl ?_
          refine E.fld (o := 2) (sz := 0) rfl Tryd.underlying85 rfl rfl (by kernel_rfl) rfl ?_
          refine E.load rfl Tryd.underlying3 rfl (hM.bcell 11 rfl rfl) rfl ?_
          refine E.call rfl rfl (bits_ret b vn13 _ st[i].2.1 st[i].2.2 _ (hM.pick [0, 1] (by decide)).sep (by omega) (by omega) (by simp only [List.length_append, btv_len]; omega)) ?_
          rintro _ w14 ⟨vn14, m⟩
          have hM := hM.calls [0, 1] (by decide) rfl (by simp) m
          try dsimp only [List.nil_append, List.cons_append, List.set_cons_zero, List.set_cons_succ, repl] at hM
          try dsimp only [List.nil_append, List.cons_append, List.set_cons_zero, List.set_cons_succ, repl] at hM
          refine E.nil <| X.outN <| X.next <| C.region <| ?_
          refine E.addN (a := i) (b := 1) rfl rfl (by omega) rfl ?_

          refine E.mv rfl rfl <| E.nil <| X.again2 (i + 1) vn14 (Sub.cons rfl <| Sub.nil _) rfl ⟨(hM.pick [0, 1, 2, 3, 4, 5, 6, 7, 8, 9, 10] (by decide)).to (by rw [hsn, Df.sbits]; simp only [List.append_assoc]; rfl), by omega⟩ (by omega)
        ·
          obtain rfl : i = st.length := by omega
          rw [List.take_length] at hM
          refine C.exit <| X.exitT <| X.exitT <| X.outE <| end0 rfl ?_
          exact ⟨vs, (hM.pick [0, 1, 2, 3] (by decide)).to (by rw [hhd, hBh]; simp only [List.append_assoc]; rfl)⟩

end Go.Proofs.YtcmgbjmcklfkcaaDoor
