/- Texts of the claim, laid together: RFill. -/
import Derived.Test.YtnnmebpahickhaaComponentsSymmetricTopMg23
/- reference of components: Fill, Euler. -/
namespace Go.Proofs.Ytnnmebpahickhaa
set_option linter.unusedSimpArgs false
set_option linter.unusedVariables false
open Go.RowKit Sym Uf Classical

theorem fillc_blob {a b : Nat} {dk : List Bool} {lab : List Int} {bl : List Bl} (hL : Labelled (DD dk false) (RR a false dk false) a dk.length lab bl) (hn : dk.length = a * b) (hn0 : dk.length ≤ 4194304) (hW : 0 < a) {i : Nat} (hi : i < dk.length) (hd : dk[i]? = some false) :
    ∃ (q : Nat) (hq : q < bl.length), lab[i]? = some (q : Int) ∧ bl[q].small ∧ fillc a b dk i = decide (Hb (a : Int) (b : Int) bl[q]) := by
  obtain ⟨g, g1, g2, g3, g4⟩ := hL.on i hi hd
  have hg : g < dk.length := by omega
  obtain ⟨c, c1, c2⟩ := hL.blob g hg g2
  obtain ⟨hq, e⟩ := List.getElem?_eq_some_iff.1 c1
  refine ⟨_, hq, g4, by rw [e]; exact bspec_small c2 g2 hg hn0, ?_⟩
  rw [fillc_light hd, e]
  refine decide_eq_decide.2 ?_
  rw [hb_iff rfl hn hW c2 g2]
  exact ⟨fun h => h.of g2.1 (Cl.symm g3), fun h => h.of hd g3⟩
/-- how many of the first i blobs are holes -/
def cH (a b : Nat) (bl : List Bl) (i : Nat) : Nat := ((List.range i).filter fun q => decide (Hb (a : Int) (b : Int) (bl.getD q default))).length
theorem cH_le (a b : Nat) (bl : List Bl) (i : Nat) : cH a b bl i ≤ i := by
  have := List.length_filter_le (fun q => decide (Hb (a : Int) (b : Int) (bl.getD q default))) (List.range i)
  simpa [cH] using this
theorem cH_succ (a b : Nat) (bl : List Bl) {i : Nat} (hi : i < bl.length) : cH a b bl (i + 1) = cH a b bl i + if Hb (a : Int) (b : Int) bl[i] then 1 else 0 := by
  have e : bl[i]?.getD default = bl[i] := by rw [List.getElem?_eq_getElem hi]; rfl
  unfold cH
  rw [List.range_succ, List.filter_append, List.length_append]
  congr 1
  by_cases h : Hb (a : Int) (b : Int) bl[i]
  · simp [h, e]
  · simp [h, e]
theorem blob_small {a : Nat} {dk : List Bool} {lab : List Int} {bl : List Bl} (hL : Labelled (DD dk false) (RR a false dk false) a dk.length lab bl) (hn0 : dk.length ≤ 4194304) {q : Nat} (hq : q < bl.length) : bl[q].small := by
  have h : q < nf (DD dk false) (RR a false dk false) dk.length := by rw [← hL.num]; exact hq
  obtain ⟨g, g1, g2, rfl⟩ := nf_surj h
  obtain ⟨c, c1, c2⟩ := hL.blob g g1 g2
  obtain ⟨_, e⟩ := List.getElem?_eq_some_iff.1 c1
  rw [e]; exact bspec_small c2 g2 g1 hn0
set_option maxHeartbeats 2000000 in
theorem rFill_ret (W Ht : Int) (vd : Value) (dk : List Bool) (w : World) (hr : RdL Value.bool w vd dk) :
    Ret Try.prog 20 #[mat W Ht vd] w fun v w' => MatAns (FillSp W Ht dk) v w w' := by
  have hM := M.start w
  refine enter Try.func20 rfl (by kernel_rfl) Try.ntmps20 rfl ?_
  refine C.seq <| C.region <| ?_
  refine E.boxM hM rfl rfl rfl ?_
  intro b1 w0 hM
  try dsimp only [List.nil_append, List.cons_append, List.set_cons_zero, List.set_cons_succ, repl] at hM
  refine E.allocM (z := .agg #[.int .i64 0, .int .i64 0, .slice none 0 0]) (cs := [.int .i64 0, .int .i64 0, .slice none 0 0]) hM (by kernel_rfl) rfl rfl ?_
  intro b2 w1 hM
  try dsimp only [List.nil_append, List.cons_append, List.set_cons_zero, List.set_cons_succ, repl] at hM
  refine E.asg rfl rfl <| E.nil <| X.next <| C.seq <| C.seq <| C.region <| ?_
  refine E.loadA rfl Try.underlying24 rfl (by kernel_rfl) (by first | exact hM.bat 0 rfl | exact hM.bat 1 rfl | exact hM.bat 2 rfl | exact hM.bat 3 rfl | exact hM.bat 4 rfl | exact hM.bat 5 rfl | exact hM.bat 6 rfl | exact hM.bat 7 rfl) rfl ?_
  refine E.call rfl rfl (rCheck_ret W Ht vd dk.length _ hr.shape) ?_
  rintro _ w9 ⟨rfl, x9⟩
  have hM := hM.ext x9
  try dsimp only [List.nil_append, List.cons_append, List.set_cons_zero, List.set_cons_succ, repl] at hM
  refine E.bin rfl rfl rfl rfl <| E.nil <| X.next <| ?_
  refine C.cond' rfl (fun hC0 => ?_) (fun hC0 => ?_)
  ·
    have hno : ¬ okMat W Ht dk.length := fun h => by rw [if_pos h] at hC0; exact hC0 rfl
    refine C.seq <| C.region <| ?_
    refine E.buildC (cs := [_, _, _]) [.int .i64 0, .int .i64 0, .slice none 0 0] [] rfl rfl (by kernel_rfl) rfl ?_
    first
      | refine E.storeAM 0 hM rfl rfl rfl (by kernel_rfl) rfl ?_ ?_
      | refine E.storeAM 1 hM rfl rfl rfl (by kernel_rfl) rfl ?_ ?_
      | refine E.storeAM 2 hM rfl rfl rfl (by kernel_rfl) rfl ?_ ?_
      | refine E.storeAM 3 hM rfl rfl rfl (by kernel_rfl) rfl ?_ ?_
      | refine E.storeAM 4 hM rfl rfl rfl (by kernel_rfl) rfl ?_ ?_
      | refine E.storeAM 5 hM rfl rfl rfl (by kernel_rfl) rfl ?_ ?_
      | refine E.storeAM 6 hM rfl rfl rfl (by kernel_rfl) rfl ?_ ?_
      | refine E.storeAM 7 hM rfl rfl rfl (by kernel_rfl) rfl ?_ ?_
    · exact ones (by first | rfl | exact (hM.sl 0 rfl).one | exact (hM.sl 1 rfl).one | exact (hM.sl 2 rfl).one | exact (hM.sl 3 rfl).one | exact (hM.sl 4 rfl).one | exact (hM.sl 5 rfl).one | exact (hM.sl 6 rfl).one | exact (hM.sl 7 rfl).one | exact (hM.slF 0 rfl).one | exact (hM.slF 1 rfl).one | exact (hM.slF 2 rfl).one | exact (hM.slF 3 rfl).one | exact (hM.slF 4 rfl).one | exact (hM.slF 5 rfl).one | exact (hM.slF 6 rfl).one | exact (hM.slF 7 rfl).one | exact RdL.one (by assumption) | exact RdF.one (by assumption) | assumption) <| ones (by first | rfl | exact (hM.sl 0 rfl).one | exact (hM.sl 1 rfl).one | exact (hM.sl 2 rfl).one | exact (hM.sl 3 rfl).one | exact (hM.sl 4 rfl).one | exact (hM.sl 5 rfl).one | exact (hM.sl 6 rfl).one | exact (hM.sl 7 rfl).one | exact (hM.slF 0 rfl).one | exact (hM.slF 1 rfl).one | exact (hM.slF 2 rfl).one | exact (hM.slF 3 rfl).one | exact (hM.slF 4 rfl).one | exact (hM.slF 5 rfl).one | exact (hM.slF 6 rfl).one | exact (hM.slF 7 rfl).one | exact RdL.one (by assumption) | exact RdF.one (by assumption) | assumption) <| ones (by first | rfl | exact (hM.sl 0 rfl).one | exact (hM.sl 1 rfl).one | exact (hM.sl 2 rfl).one | exact (hM.sl 3 rfl).one | exact (hM.sl 4 rfl).one | exact (hM.sl 5 rfl).one | exact (hM.sl 6 rfl).one | exact (hM.sl 7 rfl).one | exact (hM.slF 0 rfl).one | exact (hM.slF 1 rfl).one | exact (hM.slF 2 rfl).one | exact (hM.slF 3 rfl).one | exact (hM.slF 4 rfl).one | exact (hM.slF 5 rfl).one | exact (hM.slF 6 rfl).one | exact (hM.slF 7 rfl).one | exact RdL.one (by assumption) | exact RdF.one (by assumption) | assumption) <| ones_nil
    intro w3 hM
    try dsimp only [List.nil_append, List.cons_append, List.set_cons_zero, List.set_cons_succ, repl] at hM
    refine E.asg rfl rfl <| E.nil <| X.next <| C.ret <| X.retT <| retAT rfl rfl rfl Try.underlying24 rfl (by first | exact hM.blk 0 rfl | exact hM.blk 1 rfl | exact hM.blk 2 rfl | exact hM.blk 3 rfl | exact hM.blk 4 rfl | exact hM.blk 5 rfl | exact hM.blk 6 rfl | exact hM.blk 7 rfl) (by kernel_rfl) ?_
    exact ⟨_, _, _, [], _, rfl, .inl ⟨hno, rfl, rfl, rfl, rfl⟩, (hM.nil Value.bool 4).pick [2] (by decide)⟩
  ·
    have hok : okMat W Ht dk.length := Decidable.byContradiction fun h => by rw [if_neg h] at hC0; exact hC0 (by decide)
    obtain ⟨a, b, rfl, rfl, hW, hH, hn, hn0⟩ := hok.nat
    refine C.skip <| X.next <| C.seq <| C.region <| ?_
    refine E.loadA rfl Try.underlying24 rfl (by kernel_rfl) (by first | exact hM.bat 0 rfl | exact hM.bat 1 rfl | exact hM.bat 2 rfl | exact hM.bat 3 rfl | exact hM.bat 4 rfl | exact hM.bat 5 rfl | exact hM.bat 6 rfl | exact hM.bat 7 rfl) rfl ?_
    refine E.call rfl rfl (rparts_ret a b vd dk false false _ hW hH hn hn0 (hM.arg0 hr)) ?_
    rintro _ w10 ⟨va, vb, lab, bl, rfl, hL, m⟩
    have hM := hM.call m
    try dsimp only [List.nil_append, List.cons_append, List.set_cons_zero, List.set_cons_succ, repl] at hM
    have hll := hL.len
    refine E.mv rfl rfl <| E.ext rfl rfl rfl <| E.ext rfl rfl rfl <| E.asg rfl rfl <| E.asg rfl rfl <| E.nil <| X.next <| C.seq <| C.region <| ?_
    refine E.fld (o := 0) (sz := 0) rfl Try.underlying24 rfl rfl (by kernel_rfl) rfl ?_
    refine E.load rfl Try.underlying3 rfl (by first | exact hM.bcell 0 rfl rfl | exact hM.bcell 1 rfl rfl | exact hM.bcell 2 rfl rfl | exact hM.bcell 3 rfl rfl | exact hM.bcell 4 rfl rfl | exact hM.bcell 5 rfl rfl | exact hM.bcell 6 rfl rfl | exact hM.bcell 7 rfl rfl) rfl ?_
    refine E.fld (o := 1) (sz := 0) rfl Try.underlying24 rfl rfl (by kernel_rfl) rfl ?_
    refine E.load rfl Try.underlying3 rfl (by first | exact hM.bcell 0 rfl rfl | exact hM.bcell 1 rfl rfl | exact hM.bcell 2 rfl rfl | exact hM.bcell 3 rfl rfl | exact hM.bcell 4 rfl rfl | exact hM.bcell 5 rfl rfl | exact hM.bcell 6 rfl rfl | exact hM.bcell 7 rfl rfl) rfl ?_
    refine E.buildC (cs := [_, _, _]) [.int .i64 0, .int .i64 0, .slice none 0 0] [0, 1] rfl rfl (by kernel_rfl) rfl ?_
    refine E.allocM (z := .agg #[.int .i64 0, .int .i64 0, .slice none 0 0]) (cs := [.int .i64 0, .int .i64 0, .slice none 0 0]) hM (by kernel_rfl) rfl rfl ?_
    intro b6 w5 hM
    try dsimp only [List.nil_append, List.cons_append, List.set_cons_zero, List.set_cons_succ, repl] at hM
    first
      | refine E.storeAM 0 hM rfl rfl rfl (by kernel_rfl) rfl ?_ ?_
      | refine E.storeAM 1 hM rfl rfl rfl (by kernel_rfl) rfl ?_ ?_
      | refine E.storeAM 2 hM rfl rfl rfl (by kernel_rfl) rfl ?_ ?_
      | refine E.storeAM 3 hM rfl rfl rfl (by kernel_rfl) rfl ?_ ?_
      | refine E.storeAM 4 hM rfl rfl rfl (by kernel_rfl) rfl ?_ ?_
      | refine E.storeAM 5 hM rfl rfl rfl (by kernel_rfl) rfl ?_ ?_
      | refine E.storeAM 6 hM rfl rfl rfl (by kernel_rfl) rfl ?_ ?_
      | refine E.storeAM 7 hM rfl rfl rfl (by kernel_rfl) rfl ?_ ?_
    · exact ones (by first | rfl | exact (hM.sl 0 rfl).one | exact (hM.sl 1 rfl).one | exact (hM.sl 2 rfl).one | exact (hM.sl 3 rfl).one | exact (hM.sl 4 rfl).one | exact (hM.sl 5 rfl).one | exact (hM.sl 6 rfl).one | exact (hM.sl 7 rfl).one | exact (hM.slF 0 rfl).one | exact (hM.slF 1 rfl).one | exact (hM.slF 2 rfl).one | exact (hM.slF 3 rfl).one | exact (hM.slF 4 rfl).one | exact (hM.slF 5 rfl).one | exact (hM.slF 6 rfl).one | exact (hM.slF 7 rfl).one | exact RdL.one (by assumption) | exact RdF.one (by assumption) | assumption) <| ones (by first | rfl | exact (hM.sl 0 rfl).one | exact (hM.sl 1 rfl).one | exact (hM.sl 2 rfl).one | exact (hM.sl 3 rfl).one | exact (hM.sl 4 rfl).one | exact (hM.sl 5 rfl).one | exact (hM.sl 6 rfl).one | exact (hM.sl 7 rfl).one | exact (hM.slF 0 rfl).one | exact (hM.slF 1 rfl).one | exact (hM.slF 2 rfl).one | exact (hM.slF 3 rfl).one | exact (hM.slF 4 rfl).one | exact (hM.slF 5 rfl).one | exact (hM.slF 6 rfl).one | exact (hM.slF 7 rfl).one | exact RdL.one (by assumption) | exact RdF.one (by assumption) | assumption) <| ones (by first | rfl | exact (hM.sl 0 rfl).one | exact (hM.sl 1 rfl).one | exact (hM.sl 2 rfl).one | exact (hM.sl 3 rfl).one | exact (hM.sl 4 rfl).one | exact (hM.sl 5 rfl).one | exact (hM.sl 6 rfl).one | exact (hM.sl 7 rfl).one | exact (hM.slF 0 rfl).one | exact (hM.slF 1 rfl).one | exact (hM.slF 2 rfl).one | exact (hM.slF 3 rfl).one | exact (hM.slF 4 rfl).one | exact (hM.slF 5 rfl).one | exact (hM.slF 6 rfl).one | exact (hM.slF 7 rfl).one | exact RdL.one (by assumption) | exact RdF.one (by assumption) | assumption) <| ones_nil
    intro w6 hM
    try dsimp only [List.nil_append, List.cons_append, List.set_cons_zero, List.set_cons_succ, repl] at hM
    refine E.nil <| X.next <| C.seq <| C.seq <| C.region <| E.asg rfl rfl <| E.nil <| X.next <| C.block <| ?_
    have hM := hM.nil Value.bool 4

    refine C.loop2 [(1, _), (2, _), (4, _), (5, _), (6, _)] rfl (fun (vo : Value) (i : Nat) => [(7, i64 i)]) (fun (vo : Value) (i : Nat) w' => M w (Nn) w' [Rg.blk b1 24 [i64 a, i64 b, vd], Rg.blk b2 24 [i64 0, i64 0, nilS], Rg.sl i64 3 va lab, Rg.slF Bl.cells 7 38 vb bl, Rg.blk b6 24 [i64 a, i64 b, vo], Rg.sl Value.bool 4 vo (tab i (fillc a b dk))] ∧ i ≤ dk.length) (fun (vo : Value) (i : Nat) => dk.length - i) nilS 0 ?_ ?_ ?_
    · exact Sub.cons rfl <| Sub.nil _
    · exact ⟨hM, Nat.zero_le _⟩
    rintro vo i w7 ⟨hM, hi⟩
    refine C.seq <| C.seq <| C.region <| E.mv rfl rfl <| ?_
    refine E.fld (o := 2) (sz := 0) rfl Try.underlying24 rfl rfl (by kernel_rfl) rfl ?_
    refine E.load rfl Try.underlying22 rfl (by first | exact hM.bcell 0 rfl rfl | exact hM.bcell 1 rfl rfl | exact hM.bcell 2 rfl rfl | exact hM.bcell 3 rfl rfl | exact hM.bcell 4 rfl rfl | exact hM.bcell 5 rfl rfl | exact hM.bcell 6 rfl rfl | exact hM.bcell 7 rfl rfl) rfl ?_
    refine E.lenv rfl (Rd.shape (by first | exact hM.sl 0 rfl | exact hM.sl 1 rfl | exact hM.sl 2 rfl | exact hM.sl 3 rfl | exact hM.sl 4 rfl | exact hM.sl 5 rfl | exact hM.sl 6 rfl | exact hM.sl 7 rfl | exact hM.arg0 (by assumption) | exact hM.arg (by assumption) (by assumption) | assumption)) Try.underlying22 rfl ?_
    refine E.bin rfl rfl rfl rfl <| E.nil <| X.next <| ?_
    refine C.cond' rfl (fun hC1 => ?_) (fun hC1 => ?_)
    ·
      have hi' : i < dk.length := by omega
      have htl := tab_len i (fillc a b dk)
      refine C.skip <| X.next <| C.seq <| C.block <| C.heldM hM [0, 1, 2, 3] (by decide) (by kernel_rfl) fun wh8 hM hS => ?_
      refine H.takeV 0 rfl rfl (by kernel_rfl) (by kernel_rfl) (by kernel_rfl) hS (Y.fld (o := 2) (sz := 0) rfl Try.underlying24 rfl rfl (by kernel_rfl)) (fun w' hM => Y.fld (o := 2) (sz := 0) rfl Try.underlying24 rfl rfl (by kernel_rfl)) rfl ?_
      refine H.takeV 2 rfl rfl (by kernel_rfl) (by kernel_rfl) (by kernel_rfl) hS (Y.fld (o := 2) (sz := 0) rfl Try.underlying24 rfl rfl (by kernel_rfl)) (fun w' hM => Y.fld (o := 2) (sz := 0) rfl Try.underlying24 rfl rfl (by kernel_rfl)) rfl ?_
      refine H.take 4 rfl rfl (by kernel_rfl) (by kernel_rfl) (by kernel_rfl) hS (fun w' hM => Y.mv rfl) rfl ?_
      refine H.takeV 3 rfl rfl (by kernel_rfl) (by kernel_rfl) (by kernel_rfl) hS (Y.load rfl Try.underlying22 rfl (by first | exact hS.bcell 0 rfl rfl | exact hS.bcell 1 rfl rfl | exact hS.bcell 2 rfl rfl | exact hS.bcell 3 rfl rfl | exact hS.bcell 4 rfl rfl | exact hS.bcell 5 rfl rfl | exact hS.bcell 6 rfl rfl | exact hS.bcell 7 rfl rfl)) (fun w' hM => Y.load rfl Try.underlying22 rfl (by first | exact hM.bcell 0 rfl rfl | exact hM.bcell 1 rfl rfl | exact hM.bcell 2 rfl rfl | exact hM.bcell 3 rfl rfl | exact hM.bcell 4 rfl rfl | exact hM.bcell 5 rfl rfl | exact hM.bcell 6 rfl rfl | exact hM.bcell 7 rfl rfl)) rfl ?_
      refine H.takeV 5 rfl rfl (by kernel_rfl) (by kernel_rfl) (by kernel_rfl) hS (Y.idx1 (k := _) rfl rfl (by first | exact hS.sl 0 rfl | exact hS.sl 1 rfl | exact hS.sl 2 rfl | exact hS.sl 3 rfl | exact hS.sl 4 rfl | exact hS.sl 5 rfl | exact hS.sl 6 rfl | exact hS.sl 7 rfl | exact hS.arg0 (by assumption) | exact hS.arg (by assumption) (by assumption) | assumption) rfl (by first | omega | (simp only [List.length_replicate, List.length_append, List.length_set, List.length_cons, List.length_nil, List.length_map, List.length_range, List.length_take, List.length_drop, List.length_zipWith] at *; omega)) Try.underlying22 (by kernel_rfl)) (fun w' hM => Y.idx1 (k := _) rfl rfl (by first | exact hM.sl 0 rfl | exact hM.sl 1 rfl | exact hM.sl 2 rfl | exact hM.sl 3 rfl | exact hM.sl 4 rfl | exact hM.sl 5 rfl | exact hM.sl 6 rfl | exact hM.sl 7 rfl | exact hM.arg0 (by assumption) | exact hM.arg (by assumption) (by assumption) | assumption) rfl (by first | omega | (simp only [List.length_replicate, List.length_append, List.length_set, List.length_cons, List.length_nil, List.length_map, List.length_range, List.length_take, List.length_drop, List.length_zipWith] at *; omega)) Try.underlying22 (by kernel_rfl)) rfl ?_
      refine H.takeV 6 rfl rfl (by kernel_rfl) (by kernel_rfl) (by kernel_rfl) hS (Y.load rfl Try.underlying4 rfl (by first | exact (hS.sl 0 rfl).cellA rfl (by first | omega | (simp only [List.length_replicate, List.length_append, List.length_set, List.length_cons, List.length_nil, List.length_map, List.length_range, List.length_take, List.length_drop, List.length_zipWith] at *; omega)) | exact (hS.sl 1 rfl).cellA rfl (by first | omega | (simp only [List.length_replicate, List.length_append, List.length_set, List.length_cons, List.length_nil, List.length_map, List.length_range, List.length_take, List.length_drop, List.length_zipWith] at *; omega)) | exact (hS.sl 2 rfl).cellA rfl (by first | omega | (simp only [List.length_replicate, List.length_append, List.length_set, List.length_cons, List.length_nil, List.length_map, List.length_range, List.length_take, List.length_drop, List.length_zipWith] at *; omega)) | exact (hS.sl 3 rfl).cellA rfl (by first | omega | (simp only [List.length_replicate, List.length_append, List.length_set, List.length_cons, List.length_nil, List.length_map, List.length_range, List.length_take, List.length_drop, List.length_zipWith] at *; omega)) | exact (hS.sl 4 rfl).cellA rfl (by first | omega | (simp only [List.length_replicate, List.length_append, List.length_set, List.length_cons, List.length_nil, List.length_map, List.length_range, List.length_take, List.length_drop, List.length_zipWith] at *; omega)) | exact (hS.sl 5 rfl).cellA rfl (by first | omega | (simp only [List.length_replicate, List.length_append, List.length_set, List.length_cons, List.length_nil, List.length_map, List.length_range, List.length_take, List.length_drop, List.length_zipWith] at *; omega)) | exact (hS.sl 6 rfl).cellA rfl (by first | omega | (simp only [List.length_replicate, List.length_append, List.length_set, List.length_cons, List.length_nil, List.length_map, List.length_range, List.length_take, List.length_drop, List.length_zipWith] at *; omega)) | exact (hS.sl 7 rfl).cellA rfl (by first | omega | (simp only [List.length_replicate, List.length_append, List.length_set, List.length_cons, List.length_nil, List.length_map, List.length_range, List.length_take, List.length_drop, List.length_zipWith] at *; omega)) | exact (hS.arg0 (by assumption)).cellA rfl (by first | omega | (simp only [List.length_replicate, List.length_append, List.length_set, List.length_cons, List.length_nil, List.length_map, List.length_range, List.length_take, List.length_drop, List.length_zipWith] at *; omega)) | exact (hS.arg (by assumption) (by assumption)).cellA rfl (by first | omega | (simp only [List.length_replicate, List.length_append, List.length_set, List.length_cons, List.length_nil, List.length_map, List.length_range, List.length_take, List.length_drop, List.length_zipWith] at *; omega)))) (fun w' hM => Y.load rfl Try.underlying4 rfl (by first | exact (hM.sl 0 rfl).cellA rfl (by first | omega | (simp only [List.length_replicate, List.length_append, List.length_set, List.length_cons, List.length_nil, List.length_map, List.length_range, List.length_take, List.length_drop, List.length_zipWith] at *; omega)) | exact (hM.sl 1 rfl).cellA rfl (by first | omega | (simp only [List.length_replicate, List.length_append, List.length_set, List.length_cons, List.length_nil, List.length_map, List.length_range, List.length_take, List.length_drop, List.length_zipWith] at *; omega)) | exact (hM.sl 2 rfl).cellA rfl (by first | omega | (simp only [List.length_replicate, List.length_append, List.length_set, List.length_cons, List.length_nil, List.length_map, List.length_range, List.length_take, List.length_drop, List.length_zipWith] at *; omega)) | exact (hM.sl 3 rfl).cellA rfl (by first | omega | (simp only [List.length_replicate, List.length_append, List.length_set, List.length_cons, List.length_nil, List.length_map, List.length_range, List.length_take, List.length_drop, List.length_zipWith] at *; omega)) | exact (hM.sl 4 rfl).cellA rfl (by first | omega | (simp only [List.length_replicate, List.length_append, List.length_set, List.length_cons, List.length_nil, List.length_map, List.length_range, List.length_take, List.length_drop, List.length_zipWith] at *; omega)) | exact (hM.sl 5 rfl).cellA rfl (by first | omega | (simp only [List.length_replicate, List.length_append, List.length_set, List.length_cons, List.length_nil, List.length_map, List.length_range, List.length_take, List.length_drop, List.length_zipWith] at *; omega)) | exact (hM.sl 6 rfl).cellA rfl (by first | omega | (simp only [List.length_replicate, List.length_append, List.length_set, List.length_cons, List.length_nil, List.length_map, List.length_range, List.length_take, List.length_drop, List.length_zipWith] at *; omega)) | exact (hM.sl 7 rfl).cellA rfl (by first | omega | (simp only [List.length_replicate, List.length_append, List.length_set, List.length_cons, List.length_nil, List.length_map, List.length_range, List.length_take, List.length_drop, List.length_zipWith] at *; omega)) | exact (hM.arg0 (by assumption)).cellA rfl (by first | omega | (simp only [List.length_replicate, List.length_append, List.length_set, List.length_cons, List.length_nil, List.length_map, List.length_range, List.length_take, List.length_drop, List.length_zipWith] at *; omega)) | exact (hM.arg (by assumption) (by assumption)).cellA rfl (by first | omega | (simp only [List.length_replicate, List.length_append, List.length_set, List.length_cons, List.length_nil, List.length_map, List.length_range, List.length_take, List.length_drop, List.length_zipWith] at *; omega)))) rfl ?_
      refine H.take 7 rfl rfl (by kernel_rfl) (by kernel_rfl) (by kernel_rfl) hS (fun w' hM => Y.mv rfl) rfl ?_
      refine H.split 36 rfl (fun g36 => ?_) (fun g36 => ?_)
      ·
        try simp only [decide_eq_true_eq, decide_eq_false_iff_not, ne_eq, Decidable.not_not] at g36
        have hd : dk[i]? = some true := by rw [List.getElem?_eq_getElem hi', g36]
        have hdf : fillc a b dk i = true := fillc_dark hd
        refine H.take 9 rfl rfl (by kernel_rfl) (by kernel_rfl) (by kernel_rfl) hS (fun w' hM => Y.off rfl rfl rfl) rfl ?_
        refine H.take 10 rfl rfl (by kernel_rfl) (by kernel_rfl) (by kernel_rfl) hS (fun w' hM => Y.off rfl rfl rfl) rfl ?_
        refine H.take 11 rfl rfl (by kernel_rfl) (by kernel_rfl) (by kernel_rfl) hS (fun w' hM => Y.off rfl rfl rfl) rfl ?_
        refine H.take 12 rfl rfl (by kernel_rfl) (by kernel_rfl) (by kernel_rfl) hS (fun w' hM => Y.off rfl rfl rfl) rfl ?_
        refine H.take 8 rfl rfl (by kernel_rfl) (by kernel_rfl) (by kernel_rfl) hS (fun w' hM => Y.off rfl rfl rfl) rfl ?_
        refine H.take 13 rfl rfl (by kernel_rfl) (by kernel_rfl) (by kernel_rfl) hS (fun w' hM => Y.off rfl rfl rfl) rfl ?_
        refine H.take 14 rfl rfl (by kernel_rfl) (by kernel_rfl) (by kernel_rfl) hS (fun w' hM => Y.off rfl rfl rfl) rfl ?_
        refine H.take 15 rfl rfl (by kernel_rfl) (by kernel_rfl) (by kernel_rfl) hS (fun w' hM => Y.off rfl rfl rfl) rfl ?_
        refine H.take 16 rfl rfl (by kernel_rfl) (by kernel_rfl) (by kernel_rfl) hS (fun w' hM => Y.off rfl rfl rfl) rfl ?_
        refine H.two 1 17 rfl rfl (by kernel_rfl) ?_ ?_
        ·
          refine E.load rfl Try.underlying22 rfl (by first | exact hM.bcell 0 rfl rfl | exact hM.bcell 1 rfl rfl | exact hM.bcell 2 rfl rfl | exact hM.bcell 3 rfl rfl | exact hM.bcell 4 rfl rfl | exact hM.bcell 5 rfl rfl | exact hM.bcell 6 rfl rfl | exact hM.bcell 7 rfl rfl) rfl ?_
          have hS := hM.pick [0, 1, 2, 3] (by decide)
          refine H.back hS ?_
          refine H.only 17 rfl (by kernel_rfl) ?_
          refine E.off rfl rfl rfl rfl ?_
          have hS := hM.pick [0, 1, 2, 3] (by decide)
          refine H.back hS ?_
          refine H.take 18 rfl rfl (by kernel_rfl) (by kernel_rfl) (by kernel_rfl) hS (fun w' hM => Y.pick rfl rfl) rfl ?_
          refine H.only 19 rfl (by kernel_rfl) ?_
          refine E.mk1M (enc := Value.bool) _ hM rfl Try.underlying22 elem_Tbool rfl rfl ?_
          intro v48 w9 hM
          try dsimp only [List.nil_append, List.cons_append, List.set_cons_zero, List.set_cons_succ, repl] at hM
          have hS := hM.pick [0, 1, 2, 3] (by decide)
          refine H.back hS ?_
          refine H.only 20 rfl (by kernel_rfl) ?_
          first
            | refine E.appendM 0 hM rfl rfl rfl Try.underlying22 elem_Tbool (by first | exact hM.sl 0 rfl | exact hM.sl 1 rfl | exact hM.sl 2 rfl | exact hM.sl 3 rfl | exact hM.sl 4 rfl | exact hM.sl 5 rfl | exact hM.sl 6 rfl | exact hM.sl 7 rfl | exact hM.arg0 (by assumption) | exact hM.arg (by assumption) (by assumption) | assumption) ?_ ?_ ?_ rfl ?_
            | refine E.appendM 1 hM rfl rfl rfl Try.underlying22 elem_Tbool (by first | exact hM.sl 0 rfl | exact hM.sl 1 rfl | exact hM.sl 2 rfl | exact hM.sl 3 rfl | exact hM.sl 4 rfl | exact hM.sl 5 rfl | exact hM.sl 6 rfl | exact hM.sl 7 rfl | exact hM.arg0 (by assumption) | exact hM.arg (by assumption) (by assumption) | assumption) ?_ ?_ ?_ rfl ?_
            | refine E.appendM 2 hM rfl rfl rfl Try.underlying22 elem_Tbool (by first | exact hM.sl 0 rfl | exact hM.sl 1 rfl | exact hM.sl 2 rfl | exact hM.sl 3 rfl | exact hM.sl 4 rfl | exact hM.sl 5 rfl | exact hM.sl 6 rfl | exact hM.sl 7 rfl | exact hM.arg0 (by assumption) | exact hM.arg (by assumption) (by assumption) | assumption) ?_ ?_ ?_ rfl ?_
            | refine E.appendM 3 hM rfl rfl rfl Try.underlying22 elem_Tbool (by first | exact hM.sl 0 rfl | exact hM.sl 1 rfl | exact hM.sl 2 rfl | exact hM.sl 3 rfl | exact hM.sl 4 rfl | exact hM.sl 5 rfl | exact hM.sl 6 rfl | exact hM.sl 7 rfl | exact hM.arg0 (by assumption) | exact hM.arg (by assumption) (by assumption) | assumption) ?_ ?_ ?_ rfl ?_
            | refine E.appendM 4 hM rfl rfl rfl Try.underlying22 elem_Tbool (by first | exact hM.sl 0 rfl | exact hM.sl 1 rfl | exact hM.sl 2 rfl | exact hM.sl 3 rfl | exact hM.sl 4 rfl | exact hM.sl 5 rfl | exact hM.sl 6 rfl | exact hM.sl 7 rfl | exact hM.arg0 (by assumption) | exact hM.arg (by assumption) (by assumption) | assumption) ?_ ?_ ?_ rfl ?_
            | refine E.appendM 5 hM rfl rfl rfl Try.underlying22 elem_Tbool (by first | exact hM.sl 0 rfl | exact hM.sl 1 rfl | exact hM.sl 2 rfl | exact hM.sl 3 rfl | exact hM.sl 4 rfl | exact hM.sl 5 rfl | exact hM.sl 6 rfl | exact hM.sl 7 rfl | exact hM.arg0 (by assumption) | exact hM.arg (by assumption) (by assumption) | assumption) ?_ ?_ ?_ rfl ?_
            | refine E.appendM 6 hM rfl rfl rfl Try.underlying22 elem_Tbool (by first | exact hM.sl 0 rfl | exact hM.sl 1 rfl | exact hM.sl 2 rfl | exact hM.sl 3 rfl | exact hM.sl 4 rfl | exact hM.sl 5 rfl | exact hM.sl 6 rfl | exact hM.sl 7 rfl | exact hM.arg0 (by assumption) | exact hM.arg (by assumption) (by assumption) | assumption) ?_ ?_ ?_ rfl ?_
            | refine E.appendM 7 hM rfl rfl rfl Try.underlying22 elem_Tbool (by first | exact hM.sl 0 rfl | exact hM.sl 1 rfl | exact hM.sl 2 rfl | exact hM.sl 3 rfl | exact hM.sl 4 rfl | exact hM.sl 5 rfl | exact hM.sl 6 rfl | exact hM.sl 7 rfl | exact hM.arg0 (by assumption) | exact hM.arg (by assumption) (by assumption) | assumption) ?_ ?_ ?_ rfl ?_
          · exact fun _ => rfl
          · exact (by first | omega | (simp only [List.length_replicate, List.length_append, List.length_set, List.length_cons, List.length_nil, List.length_map, List.length_range, List.length_take, List.length_drop, List.length_zipWith] at *; omega))
          · exact (by first | omega | (simp only [List.length_replicate, List.length_append, List.length_set, List.length_cons, List.length_nil, List.length_map, List.length_range, List.length_take, List.length_drop, List.length_zipWith] at *; omega))
          intro v49 w10 hM
          try dsimp only [List.nil_append, List.cons_append, List.set_cons_zero, List.set_cons_succ, repl] at hM
          have hS := hM.pick [0, 1, 2, 3] (by decide)
          refine H.back hS ?_
          refine H.takeV 21 rfl rfl (by kernel_rfl) (by kernel_rfl) (by kernel_rfl) hS (Y.fld (o := 2) (sz := 0) rfl Try.underlying24 rfl rfl (by kernel_rfl)) (fun w' hM => Y.fld (o := 2) (sz := 0) rfl Try.underlying24 rfl rfl (by kernel_rfl)) rfl ?_
          refine H.only 22 rfl (by kernel_rfl) ?_
          first
            | refine E.storeM 0 hM rfl rfl rfl (by kernel_rfl) ?_ rfl ?_
            | refine E.storeM 1 hM rfl rfl rfl (by kernel_rfl) ?_ rfl ?_
            | refine E.storeM 2 hM rfl rfl rfl (by kernel_rfl) ?_ rfl ?_
            | refine E.storeM 3 hM rfl rfl rfl (by kernel_rfl) ?_ rfl ?_
            | refine E.storeM 4 hM rfl rfl rfl (by kernel_rfl) ?_ rfl ?_
            | refine E.storeM 5 hM rfl rfl rfl (by kernel_rfl) ?_ rfl ?_
            | refine E.storeM 6 hM rfl rfl rfl (by kernel_rfl) ?_ rfl ?_
            | refine E.storeM 7 hM rfl rfl rfl (by kernel_rfl) ?_ rfl ?_
          · exact (by first | rfl | exact (hM.sl 0 rfl).one | exact (hM.sl 1 rfl).one | exact (hM.sl 2 rfl).one | exact (hM.sl 3 rfl).one | exact (hM.sl 4 rfl).one | exact (hM.sl 5 rfl).one | exact (hM.sl 6 rfl).one | exact (hM.sl 7 rfl).one | exact (hM.slF 0 rfl).one | exact (hM.slF 1 rfl).one | exact (hM.slF 2 rfl).one | exact (hM.slF 3 rfl).one | exact (hM.slF 4 rfl).one | exact (hM.slF 5 rfl).one | exact (hM.slF 6 rfl).one | exact (hM.slF 7 rfl).one | exact RdL.one (by assumption) | exact RdF.one (by assumption) | assumption)
          intro w11 hM
          try dsimp only [List.nil_append, List.cons_append, List.set_cons_zero, List.set_cons_succ, repl] at hM
          have hS := hM.pick [0, 1, 2, 3] (by decide)
          refine H.back hS ?_
          refine H.done (by kernel_rfl) ?_
          refine X.outN <| X.next <| C.region <| E.mv rfl rfl <| ?_
          refine E.add rfl rfl (by omega) rfl ?_

          refine E.asg rfl rfl <| E.nil <| X.again2 _ (i + 1) (Sub.cons rfl <| Sub.nil _) rfl ⟨by rw [tab_succ, hdf]; exact hM.pick [0, 1, 2, 3, 4, 5] (by decide), by omega⟩ (by omega)
        ·
          refine E.off rfl rfl rfl rfl ?_
          have hS := hM.pick [0, 1, 2, 3] (by decide)
          refine H.back hS ?_
          refine H.take 18 rfl rfl (by kernel_rfl) (by kernel_rfl) (by kernel_rfl) hS (fun w' hM => Y.pick rfl rfl) rfl ?_
          refine H.two 1 19 rfl rfl (by kernel_rfl) ?_ ?_
          ·
            refine E.load rfl Try.underlying22 rfl (by first | exact hM.bcell 0 rfl rfl | exact hM.bcell 1 rfl rfl | exact hM.bcell 2 rfl rfl | exact hM.bcell 3 rfl rfl | exact hM.bcell 4 rfl rfl | exact hM.bcell 5 rfl rfl | exact hM.bcell 6 rfl rfl | exact hM.bcell 7 rfl rfl) rfl ?_
            have hS := hM.pick [0, 1, 2, 3] (by decide)
            refine H.back hS ?_
            refine H.only 19 rfl (by kernel_rfl) ?_
            refine E.mk1M (enc := Value.bool) _ hM rfl Try.underlying22 elem_Tbool rfl rfl ?_
            intro v48 w12 hM
            try dsimp only [List.nil_append, List.cons_append, List.set_cons_zero, List.set_cons_succ, repl] at hM
            have hS := hM.pick [0, 1, 2, 3] (by decide)
            refine H.back hS ?_
            refine H.only 20 rfl (by kernel_rfl) ?_
            first
              | refine E.appendM 0 hM rfl rfl rfl Try.underlying22 elem_Tbool (by first | exact hM.sl 0 rfl | exact hM.sl 1 rfl | exact hM.sl 2 rfl | exact hM.sl 3 rfl | exact hM.sl 4 rfl | exact hM.sl 5 rfl | exact hM.sl 6 rfl | exact hM.sl 7 rfl | exact hM.arg0 (by assumption) | exact hM.arg (by assumption) (by assumption) | assumption) ?_ ?_ ?_ rfl ?_
              | refine E.appendM 1 hM rfl rfl rfl Try.underlying22 elem_Tbool (by first | exact hM.sl 0 rfl | exact hM.sl 1 rfl | exact hM.sl 2 rfl | exact hM.sl 3 rfl | exact hM.sl 4 rfl | exact hM.sl 5 rfl | exact hM.sl 6 rfl | exact hM.sl 7 rfl | exact hM.arg0 (by assumption) | exact hM.arg (by assumption) (by assumption) | assumption) ?_ ?_ ?_ rfl ?_
              | refine E.appendM 2 hM rfl rfl rfl Try.underlying22 elem_Tbool (by first | exact hM.sl 0 rfl | exact hM.sl 1 rfl | exact hM.sl 2 rfl | exact hM.sl 3 rfl | exact hM.sl 4 rfl | exact hM.sl 5 rfl | exact hM.sl 6 rfl | exact hM.sl 7 rfl | exact hM.arg0 (by assumption) | exact hM.arg (by assumption) (by assumption) | assumption) ?_ ?_ ?_ rfl ?_
              | refine E.appendM 3 hM rfl rfl rfl Try.underlying22 elem_Tbool (by first | exact hM.sl 0 rfl | exact hM.sl 1 rfl | exact hM.sl 2 rfl | exact hM.sl 3 rfl | exact hM.sl 4 rfl | exact hM.sl 5 rfl | exact hM.sl 6 rfl | exact hM.sl 7 rfl | exact hM.arg0 (by assumption) | exact hM.arg (by assumption) (by assumption) | assumption) ?_ ?_ ?_ rfl ?_
              | refine E.appendM 4 hM rfl rfl rfl Try.underlying22 elem_Tbool (by first | exact hM.sl 0 rfl | exact hM.sl 1 rfl | exact hM.sl 2 rfl | exact hM.sl 3 rfl | exact hM.sl 4 rfl | exact hM.sl 5 rfl | exact hM.sl 6 rfl | exact hM.sl 7 rfl | exact hM.arg0 (by assumption) | exact hM.arg (by assumption) (by assumption) | assumption) ?_ ?_ ?_ rfl ?_
              | refine E.appendM 5 hM rfl rfl rfl Try.underlying22 elem_Tbool (by first | exact hM.sl 0 rfl | exact hM.sl 1 rfl | exact hM.sl 2 rfl | exact hM.sl 3 rfl | exact hM.sl 4 rfl | exact hM.sl 5 rfl | exact hM.sl 6 rfl | exact hM.sl 7 rfl | exact hM.arg0 (by assumption) | exact hM.arg (by assumption) (by assumption) | assumption) ?_ ?_ ?_ rfl ?_
              | refine E.appendM 6 hM rfl rfl rfl Try.underlying22 elem_Tbool (by first | exact hM.sl 0 rfl | exact hM.sl 1 rfl | exact hM.sl 2 rfl | exact hM.sl 3 rfl | exact hM.sl 4 rfl | exact hM.sl 5 rfl | exact hM.sl 6 rfl | exact hM.sl 7 rfl | exact hM.arg0 (by assumption) | exact hM.arg (by assumption) (by assumption) | assumption) ?_ ?_ ?_ rfl ?_
              | refine E.appendM 7 hM rfl rfl rfl Try.underlying22 elem_Tbool (by first | exact hM.sl 0 rfl | exact hM.sl 1 rfl | exact hM.sl 2 rfl | exact hM.sl 3 rfl | exact hM.sl 4 rfl | exact hM.sl 5 rfl | exact hM.sl 6 rfl | exact hM.sl 7 rfl | exact hM.arg0 (by assumption) | exact hM.arg (by assumption) (by assumption) | assumption) ?_ ?_ ?_ rfl ?_
            · exact fun _ => rfl
            · exact (by first | omega | (simp only [List.length_replicate, List.length_append, List.length_set, List.length_cons, List.length_nil, List.length_map, List.length_range, List.length_take, List.length_drop, List.length_zipWith] at *; omega))
            · exact (by first | omega | (simp only [List.length_replicate, List.length_append, List.length_set, List.length_cons, List.length_nil, List.length_map, List.length_range, List.length_take, List.length_drop, List.length_zipWith] at *; omega))
            intro v49 w13 hM
            try dsimp only [List.nil_append, List.cons_append, List.set_cons_zero, List.set_cons_succ, repl] at hM
            have hS := hM.pick [0, 1, 2, 3] (by decide)
            refine H.back hS ?_
            refine H.takeV 21 rfl rfl (by kernel_rfl) (by kernel_rfl) (by kernel_rfl) hS (Y.fld (o := 2) (sz := 0) rfl Try.underlying24 rfl rfl (by kernel_rfl)) (fun w' hM => Y.fld (o := 2) (sz := 0) rfl Try.underlying24 rfl rfl (by kernel_rfl)) rfl ?_
            refine H.only 22 rfl (by kernel_rfl) ?_
            first
              | refine E.storeM 0 hM rfl rfl rfl (by kernel_rfl) ?_ rfl ?_
              | refine E.storeM 1 hM rfl rfl rfl (by kernel_rfl) ?_ rfl ?_
              | refine E.storeM 2 hM rfl rfl rfl (by kernel_rfl) ?_ rfl ?_
              | refine E.storeM 3 hM rfl rfl rfl (by kernel_rfl) ?_ rfl ?_
              | refine E.storeM 4 hM rfl rfl rfl (by kernel_rfl) ?_ rfl ?_
              | refine E.storeM 5 hM rfl rfl rfl (by kernel_rfl) ?_ rfl ?_
              | refine E.storeM 6 hM rfl rfl rfl (by kernel_rfl) ?_ rfl ?_
              | refine E.storeM 7 hM rfl rfl rfl (by kernel_rfl) ?_ rfl ?_
            · exact (by first | rfl | exact (hM.sl 0 rfl).one | exact (hM.sl 1 rfl).one | exact (hM.sl 2 rfl).one | exact (hM.sl 3 rfl).one | exact (hM.sl 4 rfl).one | exact (hM.sl 5 rfl).one | exact (hM.sl 6 rfl).one | exact (hM.sl 7 rfl).one | exact (hM.slF 0 rfl).one | exact (hM.slF 1 rfl).one | exact (hM.slF 2 rfl).one | exact (hM.slF 3 rfl).one | exact (hM.slF 4 rfl).one | exact (hM.slF 5 rfl).one | exact (hM.slF 6 rfl).one | exact (hM.slF 7 rfl).one | exact RdL.one (by assumption) | exact RdF.one (by assumption) | assumption)
            intro w14 hM
            try dsimp only [List.nil_append, List.cons_append, List.set_cons_zero, List.set_cons_succ, repl] at hM
            have hS := hM.pick [0, 1, 2, 3] (by decide)
            refine H.back hS ?_
            refine H.done (by kernel_rfl) ?_
            refine X.outN <| X.next <| C.region <| E.mv rfl rfl <| ?_
            refine E.add rfl rfl (by omega) rfl ?_

            refine E.asg rfl rfl <| E.nil <| X.again2 _ (i + 1) (Sub.cons rfl <| Sub.nil _) rfl ⟨by rw [tab_succ, hdf]; exact hM.pick [0, 1, 2, 3, 4, 5] (by decide), by omega⟩ (by omega)
          ·
            refine E.mk1M (enc := Value.bool) _ hM rfl Try.underlying22 elem_Tbool rfl rfl ?_
            intro v48 w15 hM
            try dsimp only [List.nil_append, List.cons_append, List.set_cons_zero, List.set_cons_succ, repl] at hM
            have hS := hM.pick [0, 1, 2, 3] (by decide)
            refine H.back hS ?_
            refine H.only 1 rfl (by kernel_rfl) ?_
            refine E.load rfl Try.underlying22 rfl (by first | exact hM.bcell 0 rfl rfl | exact hM.bcell 1 rfl rfl | exact hM.bcell 2 rfl rfl | exact hM.bcell 3 rfl rfl | exact hM.bcell 4 rfl rfl | exact hM.bcell 5 rfl rfl | exact hM.bcell 6 rfl rfl | exact hM.bcell 7 rfl rfl) rfl ?_
            have hS := hM.pick [0, 1, 2, 3] (by decide)
            refine H.back hS ?_
            refine H.only 20 rfl (by kernel_rfl) ?_
            first
              | refine E.appendM 0 hM rfl rfl rfl Try.underlying22 elem_Tbool (by first | exact hM.sl 0 rfl | exact hM.sl 1 rfl | exact hM.sl 2 rfl | exact hM.sl 3 rfl | exact hM.sl 4 rfl | exact hM.sl 5 rfl | exact hM.sl 6 rfl | exact hM.sl 7 rfl | exact hM.arg0 (by assumption) | exact hM.arg (by assumption) (by assumption) | assumption) ?_ ?_ ?_ rfl ?_
              | refine E.appendM 1 hM rfl rfl rfl Try.underlying22 elem_Tbool (by first | exact hM.sl 0 rfl | exact hM.sl 1 rfl | exact hM.sl 2 rfl | exact hM.sl 3 rfl | exact hM.sl 4 rfl | exact hM.sl 5 rfl | exact hM.sl 6 rfl | exact hM.sl 7 rfl | exact hM.arg0 (by assumption) | exact hM.arg (by assumption) (by assumption) | assumption) ?_ ?_ ?_ rfl ?_
              | refine E.appendM 2 hM rfl rfl rfl Try.underlying22 elem_Tbool (by first | exact hM.sl 0 rfl | exact hM.sl 1 rfl | exact hM.sl 2 rfl | exact hM.sl 3 rfl | exact hM.sl 4 rfl | exact hM.sl 5 rfl | exact hM.sl 6 rfl | exact hM.sl 7 rfl | exact hM.arg0 (by assumption) | exact hM.arg (by assumption) (by assumption) | assumption) ?_ ?_ ?_ rfl ?_
              | refine E.appendM 3 hM rfl rfl rfl Try.underlying22 elem_Tbool (by first | exact hM.sl 0 rfl | exact hM.sl 1 rfl | exact hM.sl 2 rfl | exact hM.sl 3 rfl | exact hM.sl 4 rfl | exact hM.sl 5 rfl | exact hM.sl 6 rfl | exact hM.sl 7 rfl | exact hM.arg0 (by assumption) | exact hM.arg (by assumption) (by assumption) | assumption) ?_ ?_ ?_ rfl ?_
              | refine E.appendM 4 hM rfl rfl rfl Try.underlying22 elem_Tbool (by first | exact hM.sl 0 rfl | exact hM.sl 1 rfl | exact hM.sl 2 rfl | exact hM.sl 3 rfl | exact hM.sl 4 rfl | exact hM.sl 5 rfl | exact hM.sl 6 rfl | exact hM.sl 7 rfl | exact hM.arg0 (by assumption) | exact hM.arg (by assumption) (by assumption) | assumption) ?_ ?_ ?_ rfl ?_
              | refine E.appendM 5 hM rfl rfl rfl Try.underlying22 elem_Tbool (by first | exact hM.sl 0 rfl | exact hM.sl 1 rfl | exact hM.sl 2 rfl | exact hM.sl 3 rfl | exact hM.sl 4 rfl | exact hM.sl 5 rfl | exact hM.sl 6 rfl | exact hM.sl 7 rfl | exact hM.arg0 (by assumption) | exact hM.arg (by assumption) (by assumption) | assumption) ?_ ?_ ?_ rfl ?_
              | refine E.appendM 6 hM rfl rfl rfl Try.underlying22 elem_Tbool (by first | exact hM.sl 0 rfl | exact hM.sl 1 rfl | exact hM.sl 2 rfl | exact hM.sl 3 rfl | exact hM.sl 4 rfl | exact hM.sl 5 rfl | exact hM.sl 6 rfl | exact hM.sl 7 rfl | exact hM.arg0 (by assumption) | exact hM.arg (by assumption) (by assumption) | assumption) ?_ ?_ ?_ rfl ?_
              | refine E.appendM 7 hM rfl rfl rfl Try.underlying22 elem_Tbool (by first | exact hM.sl 0 rfl | exact hM.sl 1 rfl | exact hM.sl 2 rfl | exact hM.sl 3 rfl | exact hM.sl 4 rfl | exact hM.sl 5 rfl | exact hM.sl 6 rfl | exact hM.sl 7 rfl | exact hM.arg0 (by assumption) | exact hM.arg (by assumption) (by assumption) | assumption) ?_ ?_ ?_ rfl ?_
            · exact fun _ => rfl
            · exact (by first | omega | (simp only [List.length_replicate, List.length_append, List.length_set, List.length_cons, List.length_nil, List.length_map, List.length_range, List.length_take, List.length_drop, List.length_zipWith] at *; omega))
            · exact (by first | omega | (simp only [List.length_replicate, List.length_append, List.length_set, List.length_cons, List.length_nil, List.length_map, List.length_range, List.length_take, List.length_drop, List.length_zipWith] at *; omega))
            intro v49 w16 hM
            try dsimp only [List.nil_append, List.cons_append, List.set_cons_zero, List.set_cons_succ, repl] at hM
            have hS := hM.pick [0, 1, 2, 3] (by decide)
            refine H.back hS ?_
            refine H.takeV 21 rfl rfl (by kernel_rfl) (by kernel_rfl) (by kernel_rfl) hS (Y.fld (o := 2) (sz := 0) rfl Try.underlying24 rfl rfl (by kernel_rfl)) (fun w' hM => Y.fld (o := 2) (sz := 0) rfl Try.underlying24 rfl rfl (by kernel_rfl)) rfl ?_
            refine H.only 22 rfl (by kernel_rfl) ?_
            first
              | refine E.storeM 0 hM rfl rfl rfl (by kernel_rfl) ?_ rfl ?_
              | refine E.storeM 1 hM rfl rfl rfl (by kernel_rfl) ?_ rfl ?_
              | refine E.storeM 2 hM rfl rfl rfl (by kernel_rfl) ?_ rfl ?_
              | refine E.storeM 3 hM rfl rfl rfl (by kernel_rfl) ?_ rfl ?_
              | refine E.storeM 4 hM rfl rfl rfl (by kernel_rfl) ?_ rfl ?_
              | refine E.storeM 5 hM rfl rfl rfl (by kernel_rfl) ?_ rfl ?_
              | refine E.storeM 6 hM rfl rfl rfl (by kernel_rfl) ?_ rfl ?_
              | refine E.storeM 7 hM rfl rfl rfl (by kernel_rfl) ?_ rfl ?_
            · exact (by first | rfl | exact (hM.sl 0 rfl).one | exact (hM.sl 1 rfl).one | exact (hM.sl 2 rfl).one | exact (hM.sl 3 rfl).one | exact (hM.sl 4 rfl).one | exact (hM.sl 5 rfl).one | exact (hM.sl 6 rfl).one | exact (hM.sl 7 rfl).one | exact (hM.slF 0 rfl).one | exact (hM.slF 1 rfl).one | exact (hM.slF 2 rfl).one | exact (hM.slF 3 rfl).one | exact (hM.slF 4 rfl).one | exact (hM.slF 5 rfl).one | exact (hM.slF 6 rfl).one | exact (hM.slF 7 rfl).one | exact RdL.one (by assumption) | exact RdF.one (by assumption) | assumption)
            intro w17 hM
            try dsimp only [List.nil_append, List.cons_append, List.set_cons_zero, List.set_cons_succ, repl] at hM
            have hS := hM.pick [0, 1, 2, 3] (by decide)
            refine H.back hS ?_
            refine H.done (by kernel_rfl) ?_
            refine X.outN <| X.next <| C.region <| E.mv rfl rfl <| ?_
            refine E.add rfl rfl (by omega) rfl ?_

            refine E.asg rfl rfl <| E.nil <| X.again2 _ (i + 1) (Sub.cons rfl <| Sub.nil _) rfl ⟨by rw [tab_succ, hdf]; exact hM.pick [0, 1, 2, 3, 4, 5] (by decide), by omega⟩ (by omega)
      ·
        try simp only [decide_eq_true_eq, decide_eq_false_iff_not, ne_eq, Decidable.not_not] at g36
        have hd : dk[i]? = some false := by rw [List.getElem?_eq_getElem hi', g36]
        obtain ⟨q, hql, hq, hsm, hdf⟩ := fillc_blob hL hn hn0 (by omega) hi' hd
        have hli : lab[i] = (q : Int) := by rw [List.getElem?_eq_getElem (by omega)] at hq; exact Option.some.inj hq
        refine H.take 9 rfl rfl (by kernel_rfl) (by kernel_rfl) (by kernel_rfl) hS (fun w' hM => Y.on rfl rfl (Y.mv rfl)) rfl ?_
        refine H.take 10 rfl rfl (by kernel_rfl) (by kernel_rfl) (by kernel_rfl) hS (fun w' hM => Y.on rfl rfl (Y.mv rfl)) rfl ?_
        refine H.take 11 rfl rfl (by kernel_rfl) (by kernel_rfl) (by kernel_rfl) hS (fun w' hM => Y.on rfl rfl (Y.mv rfl)) rfl ?_
        refine H.takeV 12 rfl rfl (by kernel_rfl) (by kernel_rfl) (by kernel_rfl) hS (Y.on rfl rfl (Y.idx1 (k := _) rfl rfl (by first | exact hS.sl 0 rfl | exact hS.sl 1 rfl | exact hS.sl 2 rfl | exact hS.sl 3 rfl | exact hS.sl 4 rfl | exact hS.sl 5 rfl | exact hS.sl 6 rfl | exact hS.sl 7 rfl | exact hS.arg0 (by assumption) | exact hS.arg (by assumption) (by assumption) | assumption) rfl (by first | omega | (simp only [List.length_replicate, List.length_append, List.length_set, List.length_cons, List.length_nil, List.length_map, List.length_range, List.length_take, List.length_drop, List.length_zipWith] at *; omega)) Try.underlying27 (by kernel_rfl))) (fun w' hM => Y.on rfl rfl (Y.idx1 (k := _) rfl rfl (by first | exact hM.sl 0 rfl | exact hM.sl 1 rfl | exact hM.sl 2 rfl | exact hM.sl 3 rfl | exact hM.sl 4 rfl | exact hM.sl 5 rfl | exact hM.sl 6 rfl | exact hM.sl 7 rfl | exact hM.arg0 (by assumption) | exact hM.arg (by assumption) (by assumption) | assumption) rfl (by first | omega | (simp only [List.length_replicate, List.length_append, List.length_set, List.length_cons, List.length_nil, List.length_map, List.length_range, List.length_take, List.length_drop, List.length_zipWith] at *; omega)) Try.underlying27 (by kernel_rfl))) rfl ?_
        refine H.takeV 8 rfl rfl (by kernel_rfl) (by kernel_rfl) (by kernel_rfl) hS (Y.on rfl rfl (Y.loadA rfl Try.underlying24 rfl (by kernel_rfl) (by first | exact hS.bat 0 rfl | exact hS.bat 1 rfl | exact hS.bat 2 rfl | exact hS.bat 3 rfl | exact hS.bat 4 rfl | exact hS.bat 5 rfl | exact hS.bat 6 rfl | exact hS.bat 7 rfl))) (fun w' hM => Y.on rfl rfl (Y.loadA rfl Try.underlying24 rfl (by kernel_rfl) (by first | exact hM.bat 0 rfl | exact hM.bat 1 rfl | exact hM.bat 2 rfl | exact hM.bat 3 rfl | exact hM.bat 4 rfl | exact hM.bat 5 rfl | exact hM.bat 6 rfl | exact hM.bat 7 rfl))) rfl ?_
        refine H.takeV 13 rfl rfl (by kernel_rfl) (by kernel_rfl) (by kernel_rfl) hS (Y.on rfl rfl (Y.load rfl Try.underlying3 rfl (by first | exact (hS.sl 0 rfl).cellA rfl (by first | omega | (simp only [List.length_replicate, List.length_append, List.length_set, List.length_cons, List.length_nil, List.length_map, List.length_range, List.length_take, List.length_drop, List.length_zipWith] at *; omega)) | exact (hS.sl 1 rfl).cellA rfl (by first | omega | (simp only [List.length_replicate, List.length_append, List.length_set, List.length_cons, List.length_nil, List.length_map, List.length_range, List.length_take, List.length_drop, List.length_zipWith] at *; omega)) | exact (hS.sl 2 rfl).cellA rfl (by first | omega | (simp only [List.length_replicate, List.length_append, List.length_set, List.length_cons, List.length_nil, List.length_map, List.length_range, List.length_take, List.length_drop, List.length_zipWith] at *; omega)) | exact (hS.sl 3 rfl).cellA rfl (by first | omega | (simp only [List.length_replicate, List.length_append, List.length_set, List.length_cons, List.length_nil, List.length_map, List.length_range, List.length_take, List.length_drop, List.length_zipWith] at *; omega)) | exact (hS.sl 4 rfl).cellA rfl (by first | omega | (simp only [List.length_replicate, List.length_append, List.length_set, List.length_cons, List.length_nil, List.length_map, List.length_range, List.length_take, List.length_drop, List.length_zipWith] at *; omega)) | exact (hS.sl 5 rfl).cellA rfl (by first | omega | (simp only [List.length_replicate, List.length_append, List.length_set, List.length_cons, List.length_nil, List.length_map, List.length_range, List.length_take, List.length_drop, List.length_zipWith] at *; omega)) | exact (hS.sl 6 rfl).cellA rfl (by first | omega | (simp only [List.length_replicate, List.length_append, List.length_set, List.length_cons, List.length_nil, List.length_map, List.length_range, List.length_take, List.length_drop, List.length_zipWith] at *; omega)) | exact (hS.sl 7 rfl).cellA rfl (by first | omega | (simp only [List.length_replicate, List.length_append, List.length_set, List.length_cons, List.length_nil, List.length_map, List.length_range, List.length_take, List.length_drop, List.length_zipWith] at *; omega)) | exact (hS.arg0 (by assumption)).cellA rfl (by first | omega | (simp only [List.length_replicate, List.length_append, List.length_set, List.length_cons, List.length_nil, List.length_map, List.length_range, List.length_take, List.length_drop, List.length_zipWith] at *; omega)) | exact (hS.arg (by assumption) (by assumption)).cellA rfl (by first | omega | (simp only [List.length_replicate, List.length_append, List.length_set, List.length_cons, List.length_nil, List.length_map, List.length_range, List.length_take, List.length_drop, List.length_zipWith] at *; omega))))) (fun w' hM => Y.on rfl rfl (Y.load rfl Try.underlying3 rfl (by first | exact (hM.sl 0 rfl).cellA rfl (by first | omega | (simp only [List.length_replicate, List.length_append, List.length_set, List.length_cons, List.length_nil, List.length_map, List.length_range, List.length_take, List.length_drop, List.length_zipWith] at *; omega)) | exact (hM.sl 1 rfl).cellA rfl (by first | omega | (simp only [List.length_replicate, List.length_append, List.length_set, List.length_cons, List.length_nil, List.length_map, List.length_range, List.length_take, List.length_drop, List.length_zipWith] at *; omega)) | exact (hM.sl 2 rfl).cellA rfl (by first | omega | (simp only [List.length_replicate, List.length_append, List.length_set, List.length_cons, List.length_nil, List.length_map, List.length_range, List.length_take, List.length_drop, List.length_zipWith] at *; omega)) | exact (hM.sl 3 rfl).cellA rfl (by first | omega | (simp only [List.length_replicate, List.length_append, List.length_set, List.length_cons, List.length_nil, List.length_map, List.length_range, List.length_take, List.length_drop, List.length_zipWith] at *; omega)) | exact (hM.sl 4 rfl).cellA rfl (by first | omega | (simp only [List.length_replicate, List.length_append, List.length_set, List.length_cons, List.length_nil, List.length_map, List.length_range, List.length_take, List.length_drop, List.length_zipWith] at *; omega)) | exact (hM.sl 5 rfl).cellA rfl (by first | omega | (simp only [List.length_replicate, List.length_append, List.length_set, List.length_cons, List.length_nil, List.length_map, List.length_range, List.length_take, List.length_drop, List.length_zipWith] at *; omega)) | exact (hM.sl 6 rfl).cellA rfl (by first | omega | (simp only [List.length_replicate, List.length_append, List.length_set, List.length_cons, List.length_nil, List.length_map, List.length_range, List.length_take, List.length_drop, List.length_zipWith] at *; omega)) | exact (hM.sl 7 rfl).cellA rfl (by first | omega | (simp only [List.length_replicate, List.length_append, List.length_set, List.length_cons, List.length_nil, List.length_map, List.length_range, List.length_take, List.length_drop, List.length_zipWith] at *; omega)) | exact (hM.arg0 (by assumption)).cellA rfl (by first | omega | (simp only [List.length_replicate, List.length_append, List.length_set, List.length_cons, List.length_nil, List.length_map, List.length_range, List.length_take, List.length_drop, List.length_zipWith] at *; omega)) | exact (hM.arg (by assumption) (by assumption)).cellA rfl (by first | omega | (simp only [List.length_replicate, List.length_append, List.length_set, List.length_cons, List.length_nil, List.length_map, List.length_range, List.length_take, List.length_drop, List.length_zipWith] at *; omega))))) rfl ?_
        rw [hli]
        refine H.takeV 14 rfl rfl (by kernel_rfl) (by kernel_rfl) (by kernel_rfl) hS (Y.on rfl rfl (Y.idxF (k := _) rfl rfl (by first | exact hS.slF 0 rfl | exact hS.slF 1 rfl | exact hS.slF 2 rfl | exact hS.slF 3 rfl | exact hS.slF 4 rfl | exact hS.slF 5 rfl | exact hS.slF 6 rfl | exact hS.slF 7 rfl | exact hS.argF0 (by assumption) | exact hS.argF (by assumption) (by assumption) | assumption) rfl (by first | omega | (simp only [List.length_replicate, List.length_append, List.length_set, List.length_cons, List.length_nil, List.length_map, List.length_range, List.length_take, List.length_drop, List.length_zipWith] at *; omega)) (by decide) Try.underlying28 (by kernel_rfl))) (fun w' hM => Y.on rfl rfl (Y.idxF (k := _) rfl rfl (by first | exact hM.slF 0 rfl | exact hM.slF 1 rfl | exact hM.slF 2 rfl | exact hM.slF 3 rfl | exact hM.slF 4 rfl | exact hM.slF 5 rfl | exact hM.slF 6 rfl | exact hM.slF 7 rfl | exact hM.argF0 (by assumption) | exact hM.argF (by assumption) (by assumption) | assumption) rfl (by first | omega | (simp only [List.length_replicate, List.length_append, List.length_set, List.length_cons, List.length_nil, List.length_map, List.length_range, List.length_take, List.length_drop, List.length_zipWith] at *; omega)) (by decide) Try.underlying28 (by kernel_rfl))) rfl ?_
        refine H.takeV 15 rfl rfl (by kernel_rfl) (by kernel_rfl) (by kernel_rfl) hS (Y.on rfl rfl (Y.fld (o := 0) (sz := 3) rfl Try.underlying38 rfl rfl (by kernel_rfl))) (fun w' hM => Y.on rfl rfl (Y.fld (o := 0) (sz := 3) rfl Try.underlying38 rfl rfl (by kernel_rfl))) rfl ?_
        refine H.takeV 16 rfl rfl (by kernel_rfl) (by kernel_rfl) (by kernel_rfl) hS (Y.on rfl rfl (Y.loadA rfl Try.underlying34 rfl (by kernel_rfl) (by first | exact (hS.slF 0 rfl).sub (n := 4) (by first | omega | (simp only [List.length_replicate, List.length_append, List.length_set, List.length_cons, List.length_nil, List.length_map, List.length_range, List.length_take, List.length_drop, List.length_zipWith] at *; omega)) | exact (hS.slF 1 rfl).sub (n := 4) (by first | omega | (simp only [List.length_replicate, List.length_append, List.length_set, List.length_cons, List.length_nil, List.length_map, List.length_range, List.length_take, List.length_drop, List.length_zipWith] at *; omega)) | exact (hS.slF 2 rfl).sub (n := 4) (by first | omega | (simp only [List.length_replicate, List.length_append, List.length_set, List.length_cons, List.length_nil, List.length_map, List.length_range, List.length_take, List.length_drop, List.length_zipWith] at *; omega)) | exact (hS.slF 3 rfl).sub (n := 4) (by first | omega | (simp only [List.length_replicate, List.length_append, List.length_set, List.length_cons, List.length_nil, List.length_map, List.length_range, List.length_take, List.length_drop, List.length_zipWith] at *; omega)) | exact (hS.slF 4 rfl).sub (n := 4) (by first | omega | (simp only [List.length_replicate, List.length_append, List.length_set, List.length_cons, List.length_nil, List.length_map, List.length_range, List.length_take, List.length_drop, List.length_zipWith] at *; omega)) | exact (hS.slF 5 rfl).sub (n := 4) (by first | omega | (simp only [List.length_replicate, List.length_append, List.length_set, List.length_cons, List.length_nil, List.length_map, List.length_range, List.length_take, List.length_drop, List.length_zipWith] at *; omega)) | exact (hS.slF 6 rfl).sub (n := 4) (by first | omega | (simp only [List.length_replicate, List.length_append, List.length_set, List.length_cons, List.length_nil, List.length_map, List.length_range, List.length_take, List.length_drop, List.length_zipWith] at *; omega)) | exact (hS.slF 7 rfl).sub (n := 4) (by first | omega | (simp only [List.length_replicate, List.length_append, List.length_set, List.length_cons, List.length_nil, List.length_map, List.length_range, List.length_take, List.length_drop, List.length_zipWith] at *; omega)) | exact (hS.argF0 (by assumption)).sub (n := 4) (by first | omega | (simp only [List.length_replicate, List.length_append, List.length_set, List.length_cons, List.length_nil, List.length_map, List.length_range, List.length_take, List.length_drop, List.length_zipWith] at *; omega)) | exact (hS.argF (by assumption) (by assumption)).sub (n := 4) (by first | omega | (simp only [List.length_replicate, List.length_append, List.length_set, List.length_cons, List.length_nil, List.length_map, List.length_range, List.length_take, List.length_drop, List.length_zipWith] at *; omega))))) (fun w' hM => Y.on rfl rfl (Y.loadA rfl Try.underlying34 rfl (by kernel_rfl) (by first | exact (hM.slF 0 rfl).sub (n := 4) (by first | omega | (simp only [List.length_replicate, List.length_append, List.length_set, List.length_cons, List.length_nil, List.length_map, List.length_range, List.length_take, List.length_drop, List.length_zipWith] at *; omega)) | exact (hM.slF 1 rfl).sub (n := 4) (by first | omega | (simp only [List.length_replicate, List.length_append, List.length_set, List.length_cons, List.length_nil, List.length_map, List.length_range, List.length_take, List.length_drop, List.length_zipWith] at *; omega)) | exact (hM.slF 2 rfl).sub (n := 4) (by first | omega | (simp only [List.length_replicate, List.length_append, List.length_set, List.length_cons, List.length_nil, List.length_map, List.length_range, List.length_take, List.length_drop, List.length_zipWith] at *; omega)) | exact (hM.slF 3 rfl).sub (n := 4) (by first | omega | (simp only [List.length_replicate, List.length_append, List.length_set, List.length_cons, List.length_nil, List.length_map, List.length_range, List.length_take, List.length_drop, List.length_zipWith] at *; omega)) | exact (hM.slF 4 rfl).sub (n := 4) (by first | omega | (simp only [List.length_replicate, List.length_append, List.length_set, List.length_cons, List.length_nil, List.length_map, List.length_range, List.length_take, List.length_drop, List.length_zipWith] at *; omega)) | exact (hM.slF 5 rfl).sub (n := 4) (by first | omega | (simp only [List.length_replicate, List.length_append, List.length_set, List.length_cons, List.length_nil, List.length_map, List.length_range, List.length_take, List.length_drop, List.length_zipWith] at *; omega)) | exact (hM.slF 6 rfl).sub (n := 4) (by first | omega | (simp only [List.length_replicate, List.length_append, List.length_set, List.length_cons, List.length_nil, List.length_map, List.length_range, List.length_take, List.length_drop, List.length_zipWith] at *; omega)) | exact (hM.slF 7 rfl).sub (n := 4) (by first | omega | (simp only [List.length_replicate, List.length_append, List.length_set, List.length_cons, List.length_nil, List.length_map, List.length_range, List.length_take, List.length_drop, List.length_zipWith] at *; omega)) | exact (hM.argF0 (by assumption)).sub (n := 4) (by first | omega | (simp only [List.length_replicate, List.length_append, List.length_set, List.length_cons, List.length_nil, List.length_map, List.length_range, List.length_take, List.length_drop, List.length_zipWith] at *; omega)) | exact (hM.argF (by assumption) (by assumption)).sub (n := 4) (by first | omega | (simp only [List.length_replicate, List.length_append, List.length_set, List.length_cons, List.length_nil, List.length_map, List.length_range, List.length_take, List.length_drop, List.length_zipWith] at *; omega))))) rfl ?_
        refine H.two 1 17 rfl rfl (by kernel_rfl) ?_ ?_
        ·
          refine E.load rfl Try.underlying22 rfl (by first | exact hM.bcell 0 rfl rfl | exact hM.bcell 1 rfl rfl | exact hM.bcell 2 rfl rfl | exact hM.bcell 3 rfl rfl | exact hM.bcell 4 rfl rfl | exact hM.bcell 5 rfl rfl | exact hM.bcell 6 rfl rfl | exact hM.bcell 7 rfl rfl) rfl ?_
          have hS := hM.pick [0, 1, 2, 3] (by decide)
          refine H.back hS ?_
          refine H.only 17 rfl (by kernel_rfl) ?_
          refine E.on rfl rfl (E.call rfl rfl (hole_ret a b vd bl[q] _ hsm) ?_)
          rintro _ w11 ⟨rfl, x11⟩
          have hM := hM.ext x11
          try dsimp only [List.nil_append, List.cons_append, List.set_cons_zero, List.set_cons_succ, repl] at hM
          have hS := hM.pick [0, 1, 2, 3] (by decide)
          refine H.back hS ?_
          refine H.take 18 rfl rfl (by kernel_rfl) (by kernel_rfl) (by kernel_rfl) hS (fun w' hM => Y.pick rfl rfl) rfl ?_
          refine H.only 19 rfl (by kernel_rfl) ?_
          refine E.mk1M (enc := Value.bool) _ hM rfl Try.underlying22 elem_Tbool rfl rfl ?_
          intro v48 w19 hM
          try dsimp only [List.nil_append, List.cons_append, List.set_cons_zero, List.set_cons_succ, repl] at hM
          have hS := hM.pick [0, 1, 2, 3] (by decide)
          refine H.back hS ?_
          refine H.only 20 rfl (by kernel_rfl) ?_
          first
            | refine E.appendM 0 hM rfl rfl rfl Try.underlying22 elem_Tbool (by first | exact hM.sl 0 rfl | exact hM.sl 1 rfl | exact hM.sl 2 rfl | exact hM.sl 3 rfl | exact hM.sl 4 rfl | exact hM.sl 5 rfl | exact hM.sl 6 rfl | exact hM.sl 7 rfl | exact hM.arg0 (by assumption) | exact hM.arg (by assumption) (by assumption) | assumption) ?_ ?_ ?_ rfl ?_
            | refine E.appendM 1 hM rfl rfl rfl Try.underlying22 elem_Tbool (by first | exact hM.sl 0 rfl | exact hM.sl 1 rfl | exact hM.sl 2 rfl | exact hM.sl 3 rfl | exact hM.sl 4 rfl | exact hM.sl 5 rfl | exact hM.sl 6 rfl | exact hM.sl 7 rfl | exact hM.arg0 (by assumption) | exact hM.arg (by assumption) (by assumption) | assumption) ?_ ?_ ?_ rfl ?_
            | refine E.appendM 2 hM rfl rfl rfl Try.underlying22 elem_Tbool (by first | exact hM.sl 0 rfl | exact hM.sl 1 rfl | exact hM.sl 2 rfl | exact hM.sl 3 rfl | exact hM.sl 4 rfl | exact hM.sl 5 rfl | exact hM.sl 6 rfl | exact hM.sl 7 rfl | exact hM.arg0 (by assumption) | exact hM.arg (by assumption) (by assumption) | assumption) ?_ ?_ ?_ rfl ?_
            | refine E.appendM 3 hM rfl rfl rfl Try.underlying22 elem_Tbool (by first | exact hM.sl 0 rfl | exact hM.sl 1 rfl | exact hM.sl 2 rfl | exact hM.sl 3 rfl | exact hM.sl 4 rfl | exact hM.sl 5 rfl | exact hM.sl 6 rfl | exact hM.sl 7 rfl | exact hM.arg0 (by assumption) | exact hM.arg (by assumption) (by assumption) | assumption) ?_ ?_ ?_ rfl ?_
            | refine E.appendM 4 hM rfl rfl rfl Try.underlying22 elem_Tbool (by first | exact hM.sl 0 rfl | exact hM.sl 1 rfl | exact hM.sl 2 rfl | exact hM.sl 3 rfl | exact hM.sl 4 rfl | exact hM.sl 5 rfl | exact hM.sl 6 rfl | exact hM.sl 7 rfl | exact hM.arg0 (by assumption) | exact hM.arg (by assumption) (by assumption) | assumption) ?_ ?_ ?_ rfl ?_
            | refine E.appendM 5 hM rfl rfl rfl Try.underlying22 elem_Tbool (by first | exact hM.sl 0 rfl | exact hM.sl 1 rfl | exact hM.sl 2 rfl | exact hM.sl 3 rfl | exact hM.sl 4 rfl | exact hM.sl 5 rfl | exact hM.sl 6 rfl | exact hM.sl 7 rfl | exact hM.arg0 (by assumption) | exact hM.arg (by assumption) (by assumption) | assumption) ?_ ?_ ?_ rfl ?_
            | refine E.appendM 6 hM rfl rfl rfl Try.underlying22 elem_Tbool (by first | exact hM.sl 0 rfl | exact hM.sl 1 rfl | exact hM.sl 2 rfl | exact hM.sl 3 rfl | exact hM.sl 4 rfl | exact hM.sl 5 rfl | exact hM.sl 6 rfl | exact hM.sl 7 rfl | exact hM.arg0 (by assumption) | exact hM.arg (by assumption) (by assumption) | assumption) ?_ ?_ ?_ rfl ?_
            | refine E.appendM 7 hM rfl rfl rfl Try.underlying22 elem_Tbool (by first | exact hM.sl 0 rfl | exact hM.sl 1 rfl | exact hM.sl 2 rfl | exact hM.sl 3 rfl | exact hM.sl 4 rfl | exact hM.sl 5 rfl | exact hM.sl 6 rfl | exact hM.sl 7 rfl | exact hM.arg0 (by assumption) | exact hM.arg (by assumption) (by assumption) | assumption) ?_ ?_ ?_ rfl ?_
          · exact fun _ => rfl
          · exact (by first | omega | (simp only [List.length_replicate, List.length_append, List.length_set, List.length_cons, List.length_nil, List.length_map, List.length_range, List.length_take, List.length_drop, List.length_zipWith] at *; omega))
          · exact (by first | omega | (simp only [List.length_replicate, List.length_append, List.length_set, List.length_cons, List.length_nil, List.length_map, List.length_range, List.length_take, List.length_drop, List.length_zipWith] at *; omega))
          intro v49 w20 hM
          try dsimp only [List.nil_append, List.cons_append, List.set_cons_zero, List.set_cons_succ, repl] at hM
          have hS := hM.pick [0, 1, 2, 3] (by decide)
          refine H.back hS ?_
          refine H.takeV 21 rfl rfl (by kernel_rfl) (by kernel_rfl) (by kernel_rfl) hS (Y.fld (o := 2) (sz := 0) rfl Try.underlying24 rfl rfl (by kernel_rfl)) (fun w' hM => Y.fld (o := 2) (sz := 0) rfl Try.underlying24 rfl rfl (by kernel_rfl)) rfl ?_
          refine H.only 22 rfl (by kernel_rfl) ?_
          first
            | refine E.storeM 0 hM rfl rfl rfl (by kernel_rfl) ?_ rfl ?_
            | refine E.storeM 1 hM rfl rfl rfl (by kernel_rfl) ?_ rfl ?_
            | refine E.storeM 2 hM rfl rfl rfl (by kernel_rfl) ?_ rfl ?_
            | refine E.storeM 3 hM rfl rfl rfl (by kernel_rfl) ?_ rfl ?_
            | refine E.storeM 4 hM rfl rfl rfl (by kernel_rfl) ?_ rfl ?_
            | refine E.storeM 5 hM rfl rfl rfl (by kernel_rfl) ?_ rfl ?_
            | refine E.storeM 6 hM rfl rfl rfl (by kernel_rfl) ?_ rfl ?_
            | refine E.storeM 7 hM rfl rfl rfl (by kernel_rfl) ?_ rfl ?_
          · exact (by first | rfl | exact (hM.sl 0 rfl).one | exact (hM.sl 1 rfl).one | exact (hM.sl 2 rfl).one | exact (hM.sl 3 rfl).one | exact (hM.sl 4 rfl).one | exact (hM.sl 5 rfl).one | exact (hM.sl 6 rfl).one | exact (hM.sl 7 rfl).one | exact (hM.slF 0 rfl).one | exact (hM.slF 1 rfl).one | exact (hM.slF 2 rfl).one | exact (hM.slF 3 rfl).one | exact (hM.slF 4 rfl).one | exact (hM.slF 5 rfl).one | exact (hM.slF 6 rfl).one | exact (hM.slF 7 rfl).one | exact RdL.one (by assumption) | exact RdF.one (by assumption) | assumption)
          intro w21 hM
          try dsimp only [List.nil_append, List.cons_append, List.set_cons_zero, List.set_cons_succ, repl] at hM
          have hS := hM.pick [0, 1, 2, 3] (by decide)
          refine H.back hS ?_
          refine H.done (by kernel_rfl) ?_
          refine X.outN <| X.next <| C.region <| E.mv rfl rfl <| ?_
          refine E.add rfl rfl (by omega) rfl ?_

          refine E.asg rfl rfl <| E.nil <| X.again2 _ (i + 1) (Sub.cons rfl <| Sub.nil _) rfl ⟨by rw [tab_succ, hdf]; exact hM.pick [0, 1, 2, 3, 4, 5] (by decide), by omega⟩ (by omega)
        ·
          refine E.on rfl rfl (E.call rfl rfl (hole_ret a b vd bl[q] _ hsm) ?_)
          rintro _ w11 ⟨rfl, x11⟩
          have hM := hM.ext x11
          try dsimp only [List.nil_append, List.cons_append, List.set_cons_zero, List.set_cons_succ, repl] at hM
          have hS := hM.pick [0, 1, 2, 3] (by decide)
          refine H.back hS ?_
          refine H.take 18 rfl rfl (by kernel_rfl) (by kernel_rfl) (by kernel_rfl) hS (fun w' hM => Y.pick rfl rfl) rfl ?_
          refine H.two 1 19 rfl rfl (by kernel_rfl) ?_ ?_
          ·
            refine E.load rfl Try.underlying22 rfl (by first | exact hM.bcell 0 rfl rfl | exact hM.bcell 1 rfl rfl | exact hM.bcell 2 rfl rfl | exact hM.bcell 3 rfl rfl | exact hM.bcell 4 rfl rfl | exact hM.bcell 5 rfl rfl | exact hM.bcell 6 rfl rfl | exact hM.bcell 7 rfl rfl) rfl ?_
            have hS := hM.pick [0, 1, 2, 3] (by decide)
            refine H.back hS ?_
            refine H.only 19 rfl (by kernel_rfl) ?_
            refine E.mk1M (enc := Value.bool) _ hM rfl Try.underlying22 elem_Tbool rfl rfl ?_
            intro v48 w23 hM
            try dsimp only [List.nil_append, List.cons_append, List.set_cons_zero, List.set_cons_succ, repl] at hM
            have hS := hM.pick [0, 1, 2, 3] (by decide)
            refine H.back hS ?_
            refine H.only 20 rfl (by kernel_rfl) ?_
            first
              | refine E.appendM 0 hM rfl rfl rfl Try.underlying22 elem_Tbool (by first | exact hM.sl 0 rfl | exact hM.sl 1 rfl | exact hM.sl 2 rfl | exact hM.sl 3 rfl | exact hM.sl 4 rfl | exact hM.sl 5 rfl | exact hM.sl 6 rfl | exact hM.sl 7 rfl | exact hM.arg0 (by assumption) | exact hM.arg (by assumption) (by assumption) | assumption) ?_ ?_ ?_ rfl ?_
              | refine E.appendM 1 hM rfl rfl rfl Try.underlying22 elem_Tbool (by first | exact hM.sl 0 rfl | exact hM.sl 1 rfl | exact hM.sl 2 rfl | exact hM.sl 3 rfl | exact hM.sl 4 rfl | exact hM.sl 5 rfl | exact hM.sl 6 rfl | exact hM.sl 7 rfl | exact hM.arg0 (by assumption) | exact hM.arg (by assumption) (by assumption) | assumption) ?_ ?_ ?_ rfl ?_
              | refine E.appendM 2 hM rfl rfl rfl Try.underlying22 elem_Tbool (by first | exact hM.sl 0 rfl | exact hM.sl 1 rfl | exact hM.sl 2 rfl | exact hM.sl 3 rfl | exact hM.sl 4 rfl | exact hM.sl 5 rfl | exact hM.sl 6 rfl | exact hM.sl 7 rfl | exact hM.arg0 (by assumption) | exact hM.arg (by assumption) (by assumption) | assumption) ?_ ?_ ?_ rfl ?_
              | refine E.appendM 3 hM rfl rfl rfl Try.underlying22 elem_Tbool (by first | exact hM.sl 0 rfl | exact hM.sl 1 rfl | exact hM.sl 2 rfl | exact hM.sl 3 rfl | exact hM.sl 4 rfl | exact hM.sl 5 rfl | exact hM.sl 6 rfl | exact hM.sl 7 rfl | exact hM.arg0 (by assumption) | exact hM.arg (by assumption) (by assumption) | assumption) ?_ ?_ ?_ rfl ?_
              | refine E.appendM 4 hM rfl rfl rfl Try.underlying22 elem_Tbool (by first | exact hM.sl 0 rfl | exact hM.sl 1 rfl | exact hM.sl 2 rfl | exact hM.sl 3 rfl | exact hM.sl 4 rfl | exact hM.sl 5 rfl | exact hM.sl 6 rfl | exact hM.sl 7 rfl | exact hM.arg0 (by assumption) | exact hM.arg (by assumption) (by assumption) | assumption) ?_ ?_ ?_ rfl ?_
              | refine E.appendM 5 hM rfl rfl rfl Try.underlying22 elem_Tbool (by first | exact hM.sl 0 rfl | exact hM.sl 1 rfl | exact hM.sl 2 rfl | exact hM.sl 3 rfl | exact hM.sl 4 rfl | exact hM.sl 5 rfl | exact hM.sl 6 rfl | exact hM.sl 7 rfl | exact hM.arg0 (by assumption) | exact hM.arg (by assumption) (by assumption) | assumption) ?_ ?_ ?_ rfl ?_
              | refine E.appendM 6 hM rfl rfl rfl Try.underlying22 elem_Tbool (by first | exact hM.sl 0 rfl | exact hM.sl 1 rfl | exact hM.sl 2 rfl | exact hM.sl 3 rfl | exact hM.sl 4 rfl | exact hM.sl 5 rfl | exact hM.sl 6 rfl | exact hM.sl 7 rfl | exact hM.arg0 (by assumption) | exact hM.arg (by assumption) (by assumption) | assumption) ?_ ?_ ?_ rfl ?_
              | refine E.appendM 7 hM rfl rfl rfl Try.underlying22 elem_Tbool (by first | exact hM.sl 0 rfl | exact hM.sl 1 rfl | exact hM.sl 2 rfl | exact hM.sl 3 rfl | exact hM.sl 4 rfl | exact hM.sl 5 rfl | exact hM.sl 6 rfl | exact hM.sl 7 rfl | exact hM.arg0 (by assumption) | exact hM.arg (by assumption) (by assumption) | assumption) ?_ ?_ ?_ rfl ?_
            · exact fun _ => rfl
            · exact (by first | omega | (simp only [List.length_replicate, List.length_append, List.length_set, List.length_cons, List.length_nil, List.length_map, List.length_range, List.length_take, List.length_drop, List.length_zipWith] at *; omega))
            · exact (by first | omega | (simp only [List.length_replicate, List.length_append, List.length_set, List.length_cons, List.length_nil, List.length_map, List.length_range, List.length_take, List.length_drop, List.length_zipWith] at *; omega))
            intro v49 w24 hM
            try dsimp only [List.nil_append, List.cons_append, List.set_cons_zero, List.set_cons_succ, repl] at hM
            have hS := hM.pick [0, 1, 2, 3] (by decide)
            refine H.back hS ?_
            refine H.takeV 21 rfl rfl (by kernel_rfl) (by kernel_rfl) (by kernel_rfl) hS (Y.fld (o := 2) (sz := 0) rfl Try.underlying24 rfl rfl (by kernel_rfl)) (fun w' hM => Y.fld (o := 2) (sz := 0) rfl Try.underlying24 rfl rfl (by kernel_rfl)) rfl ?_
            refine H.only 22 rfl (by kernel_rfl) ?_
            first
              | refine E.storeM 0 hM rfl rfl rfl (by kernel_rfl) ?_ rfl ?_
              | refine E.storeM 1 hM rfl rfl rfl (by kernel_rfl) ?_ rfl ?_
              | refine E.storeM 2 hM rfl rfl rfl (by kernel_rfl) ?_ rfl ?_
              | refine E.storeM 3 hM rfl rfl rfl (by kernel_rfl) ?_ rfl ?_
              | refine E.storeM 4 hM rfl rfl rfl (by kernel_rfl) ?_ rfl ?_
              | refine E.storeM 5 hM rfl rfl rfl (by kernel_rfl) ?_ rfl ?_
              | refine E.storeM 6 hM rfl rfl rfl (by kernel_rfl) ?_ rfl ?_
              | refine E.storeM 7 hM rfl rfl rfl (by kernel_rfl) ?_ rfl ?_
            · exact (by first | rfl | exact (hM.sl 0 rfl).one | exact (hM.sl 1 rfl).one | exact (hM.sl 2 rfl).one | exact (hM.sl 3 rfl).one | exact (hM.sl 4 rfl).one | exact (hM.sl 5 rfl).one | exact (hM.sl 6 rfl).one | exact (hM.sl 7 rfl).one | exact (hM.slF 0 rfl).one | exact (hM.slF 1 rfl).one | exact (hM.slF 2 rfl).one | exact (hM.slF 3 rfl).one | exact (hM.slF 4 rfl).one | exact (hM.slF 5 rfl).one | exact (hM.slF 6 rfl).one | exact (hM.slF 7 rfl).one | exact RdL.one (by assumption) | exact RdF.one (by assumption) | assumption)
            intro w25 hM
            try dsimp only [List.nil_append, List.cons_append, List.set_cons_zero, List.set_cons_succ, repl] at hM
            have hS := hM.pick [0, 1, 2, 3] (by decide)
            refine H.back hS ?_
            refine H.done (by kernel_rfl) ?_
            refine X.outN <| X.next <| C.region <| E.mv rfl rfl <| ?_
            refine E.add rfl rfl (by omega) rfl ?_

            refine E.asg rfl rfl <| E.nil <| X.again2 _ (i + 1) (Sub.cons rfl <| Sub.nil _) rfl ⟨by rw [tab_succ, hdf]; exact hM.pick [0, 1, 2, 3, 4, 5] (by decide), by omega⟩ (by omega)
          ·
            refine E.mk1M (enc := Value.bool) _ hM rfl Try.underlying22 elem_Tbool rfl rfl ?_
            intro v48 w26 hM
            try dsimp only [List.nil_append, List.cons_append, List.set_cons_zero, List.set_cons_succ, repl] at hM
            have hS := hM.pick [0, 1, 2, 3] (by decide)
            refine H.back hS ?_
            refine H.only 1 rfl (by kernel_rfl) ?_
            refine E.load rfl Try.underlying22 rfl (by first | exact hM.bcell 0 rfl rfl | exact hM.bcell 1 rfl rfl | exact hM.bcell 2 rfl rfl | exact hM.bcell 3 rfl rfl | exact hM.bcell 4 rfl rfl | exact hM.bcell 5 rfl rfl | exact hM.bcell 6 rfl rfl | exact hM.bcell 7 rfl rfl) rfl ?_
            have hS := hM.pick [0, 1, 2, 3] (by decide)
            refine H.back hS ?_
            refine H.only 20 rfl (by kernel_rfl) ?_
            first
              | refine E.appendM 0 hM rfl rfl rfl Try.underlying22 elem_Tbool (by first | exact hM.sl 0 rfl | exact hM.sl 1 rfl | exact hM.sl 2 rfl | exact hM.sl 3 rfl | exact hM.sl 4 rfl | exact hM.sl 5 rfl | exact hM.sl 6 rfl | exact hM.sl 7 rfl | exact hM.arg0 (by assumption) | exact hM.arg (by assumption) (by assumption) | assumption) ?_ ?_ ?_ rfl ?_
              | refine E.appendM 1 hM rfl rfl rfl Try.underlying22 elem_Tbool (by first | exact hM.sl 0 rfl | exact hM.sl 1 rfl | exact hM.sl 2 rfl | exact hM.sl 3 rfl | exact hM.sl 4 rfl | exact hM.sl 5 rfl | exact hM.sl 6 rfl | exact hM.sl 7 rfl | exact hM.arg0 (by assumption) | exact hM.arg (by assumption) (by assumption) | assumption) ?_ ?_ ?_ rfl ?_
              | refine E.appendM 2 hM rfl rfl rfl Try.underlying22 elem_Tbool (by first | exact hM.sl 0 rfl | exact hM.sl 1 rfl | exact hM.sl 2 rfl | exact hM.sl 3 rfl | exact hM.sl 4 rfl | exact hM.sl 5 rfl | exact hM.sl 6 rfl | exact hM.sl 7 rfl | exact hM.arg0 (by assumption) | exact hM.arg (by assumption) (by assumption) | assumption) ?_ ?_ ?_ rfl ?_
              | refine E.appendM 3 hM rfl rfl rfl Try.underlying22 elem_Tbool (by first | exact hM.sl 0 rfl | exact hM.sl 1 rfl | exact hM.sl 2 rfl | exact hM.sl 3 rfl | exact hM.sl 4 rfl | exact hM.sl 5 rfl | exact hM.sl 6 rfl | exact hM.sl 7 rfl | exact hM.arg0 (by assumption) | exact hM.arg (by assumption) (by assumption) | assumption) ?_ ?_ ?_ rfl ?_
              | refine E.appendM 4 hM rfl rfl rfl Try.underlying22 elem_Tbool (by first | exact hM.sl 0 rfl | exact hM.sl 1 rfl | exact hM.sl 2 rfl | exact hM.sl 3 rfl | exact hM.sl 4 rfl | exact hM.sl 5 rfl | exact hM.sl 6 rfl | exact hM.sl 7 rfl | exact hM.arg0 (by assumption) | exact hM.arg (by assumption) (by assumption) | assumption) ?_ ?_ ?_ rfl ?_
              | refine E.appendM 5 hM rfl rfl rfl Try.underlying22 elem_Tbool (by first | exact hM.sl 0 rfl | exact hM.sl 1 rfl | exact hM.sl 2 rfl | exact hM.sl 3 rfl | exact hM.sl 4 rfl | exact hM.sl 5 rfl | exact hM.sl 6 rfl | exact hM.sl 7 rfl | exact hM.arg0 (by assumption) | exact hM.arg (by assumption) (by assumption) | assumption) ?_ ?_ ?_ rfl ?_
              | refine E.appendM 6 hM rfl rfl rfl Try.underlying22 elem_Tbool (by first | exact hM.sl 0 rfl | exact hM.sl 1 rfl | exact hM.sl 2 rfl | exact hM.sl 3 rfl | exact hM.sl 4 rfl | exact hM.sl 5 rfl | exact hM.sl 6 rfl | exact hM.sl 7 rfl | exact hM.arg0 (by assumption) | exact hM.arg (by assumption) (by assumption) | assumption) ?_ ?_ ?_ rfl ?_
              | refine E.appendM 7 hM rfl rfl rfl Try.underlying22 elem_Tbool (by first | exact hM.sl 0 rfl | exact hM.sl 1 rfl | exact hM.sl 2 rfl | exact hM.sl 3 rfl | exact hM.sl 4 rfl | exact hM.sl 5 rfl | exact hM.sl 6 rfl | exact hM.sl 7 rfl | exact hM.arg0 (by assumption) | exact hM.arg (by assumption) (by assumption) | assumption) ?_ ?_ ?_ rfl ?_
            · exact fun _ => rfl
            · exact (by first | omega | (simp only [List.length_replicate, List.length_append, List.length_set, List.length_cons, List.length_nil, List.length_map, List.length_range, List.length_take, List.length_drop, List.length_zipWith] at *; omega))
            · exact (by first | omega | (simp only [List.length_replicate, List.length_append, List.length_set, List.length_cons, List.length_nil, List.length_map, List.length_range, List.length_take, List.length_drop, List.length_zipWith] at *; omega))
            intro v49 w27 hM
            try dsimp only [List.nil_append, List.cons_append, List.set_cons_zero, List.set_cons_succ, repl] at hM
            have hS := hM.pick [0, 1, 2, 3] (by decide)
            refine H.back hS ?_
            refine H.takeV 21 rfl rfl (by kernel_rfl) (by kernel_rfl) (by kernel_rfl) hS (Y.fld (o := 2) (sz := 0) rfl Try.underlying24 rfl rfl (by kernel_rfl)) (fun w' hM => Y.fld (o := 2) (sz := 0) rfl Try.underlying24 rfl rfl (by kernel_rfl)) rfl ?_
            refine H.only 22 rfl (by kernel_rfl) ?_
            first
              | refine E.storeM 0 hM rfl rfl rfl (by kernel_rfl) ?_ rfl ?_
              | refine E.storeM 1 hM rfl rfl rfl (by kernel_rfl) ?_ rfl ?_
              | refine E.storeM 2 hM rfl rfl rfl (by kernel_rfl) ?_ rfl ?_
              | refine E.storeM 3 hM rfl rfl rfl (by kernel_rfl) ?_ rfl ?_
              | refine E.storeM 4 hM rfl rfl rfl (by kernel_rfl) ?_ rfl ?_
              | refine E.storeM 5 hM rfl rfl rfl (by kernel_rfl) ?_ rfl ?_
              | refine E.storeM 6 hM rfl rfl rfl (by kernel_rfl) ?_ rfl ?_
              | refine E.storeM 7 hM rfl rfl rfl (by kernel_rfl) ?_ rfl ?_
            · exact (by first | rfl | exact (hM.sl 0 rfl).one | exact (hM.sl 1 rfl).one | exact (hM.sl 2 rfl).one | exact (hM.sl 3 rfl).one | exact (hM.sl 4 rfl).one | exact (hM.sl 5 rfl).one | exact (hM.sl 6 rfl).one | exact (hM.sl 7 rfl).one | exact (hM.slF 0 rfl).one | exact (hM.slF 1 rfl).one | exact (hM.slF 2 rfl).one | exact (hM.slF 3 rfl).one | exact (hM.slF 4 rfl).one | exact (hM.slF 5 rfl).one | exact (hM.slF 6 rfl).one | exact (hM.slF 7 rfl).one | exact RdL.one (by assumption) | exact RdF.one (by assumption) | assumption)
            intro w28 hM
            try dsimp only [List.nil_append, List.cons_append, List.set_cons_zero, List.set_cons_succ, repl] at hM
            have hS := hM.pick [0, 1, 2, 3] (by decide)
            refine H.back hS ?_
            refine H.done (by kernel_rfl) ?_
            refine X.outN <| X.next <| C.region <| E.mv rfl rfl <| ?_
            refine E.add rfl rfl (by omega) rfl ?_

            refine E.asg rfl rfl <| E.nil <| X.again2 _ (i + 1) (Sub.cons rfl <| Sub.nil _) rfl ⟨by rw [tab_succ, hdf]; exact hM.pick [0, 1, 2, 3, 4, 5] (by decide), by omega⟩ (by omega)
    ·
      obtain rfl : i = dk.length := by omega
      refine C.exit <| X.exitT <| X.exitT <| X.outE <| X.next <| C.seq <| C.region <| ?_
      refine E.loadA rfl Try.underlying24 rfl (by kernel_rfl) (by first | exact hM.bat 0 rfl | exact hM.bat 1 rfl | exact hM.bat 2 rfl | exact hM.bat 3 rfl | exact hM.bat 4 rfl | exact hM.bat 5 rfl | exact hM.bat 6 rfl | exact hM.bat 7 rfl) rfl ?_
      first
        | refine E.storeAM 0 hM rfl rfl rfl (by kernel_rfl) rfl ?_ ?_
        | refine E.storeAM 1 hM rfl rfl rfl (by kernel_rfl) rfl ?_ ?_
        | refine E.storeAM 2 hM rfl rfl rfl (by kernel_rfl) rfl ?_ ?_
        | refine E.storeAM 3 hM rfl rfl rfl (by kernel_rfl) rfl ?_ ?_
        | refine E.storeAM 4 hM rfl rfl rfl (by kernel_rfl) rfl ?_ ?_
        | refine E.storeAM 5 hM rfl rfl rfl (by kernel_rfl) rfl ?_ ?_
        | refine E.storeAM 6 hM rfl rfl rfl (by kernel_rfl) rfl ?_ ?_
        | refine E.storeAM 7 hM rfl rfl rfl (by kernel_rfl) rfl ?_ ?_
      · exact ones (by first | rfl | exact (hM.sl 0 rfl).one | exact (hM.sl 1 rfl).one | exact (hM.sl 2 rfl).one | exact (hM.sl 3 rfl).one | exact (hM.sl 4 rfl).one | exact (hM.sl 5 rfl).one | exact (hM.sl 6 rfl).one | exact (hM.sl 7 rfl).one | exact (hM.slF 0 rfl).one | exact (hM.slF 1 rfl).one | exact (hM.slF 2 rfl).one | exact (hM.slF 3 rfl).one | exact (hM.slF 4 rfl).one | exact (hM.slF 5 rfl).one | exact (hM.slF 6 rfl).one | exact (hM.slF 7 rfl).one | exact RdL.one (by assumption) | exact RdF.one (by assumption) | assumption) <| ones (by first | rfl | exact (hM.sl 0 rfl).one | exact (hM.sl 1 rfl).one | exact (hM.sl 2 rfl).one | exact (hM.sl 3 rfl).one | exact (hM.sl 4 rfl).one | exact (hM.sl 5 rfl).one | exact (hM.sl 6 rfl).one | exact (hM.sl 7 rfl).one | exact (hM.slF 0 rfl).one | exact (hM.slF 1 rfl).one | exact (hM.slF 2 rfl).one | exact (hM.slF 3 rfl).one | exact (hM.slF 4 rfl).one | exact (hM.slF 5 rfl).one | exact (hM.slF 6 rfl).one | exact (hM.slF 7 rfl).one | exact RdL.one (by assumption) | exact RdF.one (by assumption) | assumption) <| ones (by first | rfl | exact (hM.sl 0 rfl).one | exact (hM.sl 1 rfl).one | exact (hM.sl 2 rfl).one | exact (hM.sl 3 rfl).one | exact (hM.sl 4 rfl).one | exact (hM.sl 5 rfl).one | exact (hM.sl 6 rfl).one | exact (hM.sl 7 rfl).one | exact (hM.slF 0 rfl).one | exact (hM.slF 1 rfl).one | exact (hM.slF 2 rfl).one | exact (hM.slF 3 rfl).one | exact (hM.slF 4 rfl).one | exact (hM.slF 5 rfl).one | exact (hM.slF 6 rfl).one | exact (hM.slF 7 rfl).one | exact RdL.one (by assumption) | exact RdF.one (by assumption) | assumption) <| ones_nil
      intro w29 hM
      try dsimp only [List.nil_append, List.cons_append, List.set_cons_zero, List.set_cons_succ, repl] at hM
      refine E.asg rfl rfl <| E.nil <| X.next <| C.ret <| retAT rfl rfl rfl Try.underlying24 rfl (by first | exact hM.blk 0 rfl | exact hM.blk 1 rfl | exact hM.blk 2 rfl | exact hM.blk 3 rfl | exact hM.blk 4 rfl | exact hM.blk 5 rfl | exact hM.blk 6 rfl | exact hM.blk 7 rfl) (by kernel_rfl) ?_
      exact ⟨_, _, _, _, _, rfl, .inr ⟨hok, rfl, rfl, rfl, rfl⟩, hM.pick [5] (by decide)⟩

set_option maxHeartbeats 1000000 in
theorem rEuler_ret (W Ht : Int) (vd : Value) (dk : List Bool) (w : World) (hr : RdL Value.bool w vd dk) :
    Ret Try.prog 23 #[mat W Ht vd] w fun v w' => ∃ k e, v = .tuple #[i64 k, i64 e] ∧ EulSp W Ht dk k e ∧ M w Nn w' [] := by
  have hM := M.start w
  refine enter Try.func23 rfl (by kernel_rfl) Try.ntmps23 rfl ?_
  refine C.seq <| C.region <| ?_
  refine E.boxM hM rfl rfl rfl ?_
  intro b1 w0 hM
  try dsimp only [List.nil_append, List.cons_append, List.set_cons_zero, List.set_cons_succ, repl] at hM
  refine E.asg rfl rfl <| E.asg rfl rfl <| E.nil <| X.next <| C.seq <| C.region <| ?_
  refine E.loadA rfl Try.underlying24 rfl (by kernel_rfl) (by first | exact hM.bat 0 rfl | exact hM.bat 1 rfl | exact hM.bat 2 rfl | exact hM.bat 3 rfl | exact hM.bat 4 rfl | exact hM.bat 5 rfl | exact hM.bat 6 rfl | exact hM.bat 7 rfl) rfl ?_
  refine E.call rfl rfl (rLabel_ret W Ht vd dk true _ (hM.arg0 hr)) ?_
  rintro _ w10 ⟨hA, x10⟩
  obtain ⟨va, vb, lab, bl, e, rfl, m, hA⟩ := hA.uni x10
  have hM := hM.call m
  try dsimp only [List.nil_append, List.cons_append, List.set_cons_zero, List.set_cons_succ, repl] at hM
  refine E.mv rfl rfl <| E.ext rfl rfl rfl <| E.ext rfl rfl rfl <| E.ext rfl rfl rfl <| E.asg rfl rfl <| E.asg rfl rfl <| E.asg rfl rfl <| E.nil <| X.next <| C.seq <| C.seq <| C.region <| E.mv rfl rfl <| E.bin rfl rfl rfl rfl <| E.nil <| X.next <| ?_
  refine C.cond' rfl (fun hC0 => ?_) (fun hC0 => ?_)
  ·
    refine C.seq <| C.region <| E.mv rfl rfl <| E.asg rfl rfl <| E.asg rfl rfl <| E.nil <| X.next <| C.ret <| X.retT <| ret2 rfl rfl rfl ?_
    have hA' : EulSp W Ht dk 0 e := by
      rcases hA with ⟨h, h1, _⟩ | ⟨h, h1, h2, _⟩ | ⟨_, _, h, _⟩
      · exact .inl ⟨h, rfl, h1⟩
      · exact .inr (.inl ⟨h, h1, rfl, h2⟩)
      · exact (hC0 h).elim
    exact ⟨_, _, rfl, hA', hM.pick [] (by decide)⟩
  ·
    have hA' : okMat W Ht dk.length ∧ nf (DD dk true) (RR W.toNat true dk true) dk.length ≤ 65536 ∧ e = 0 ∧ Labelled (DD dk true) (RR W.toNat true dk true) W.toNat dk.length lab bl := by
      rcases hA with ⟨_, h, _⟩ | ⟨_, _, h, _⟩ | h
      · omega
      · omega
      · exact h
    obtain ⟨hok, hfew, rfl, hL⟩ := hA'
    obtain ⟨a, b, rfl, rfl, hW, hH, hn, hn0⟩ := hok.nat
    refine C.skip <| X.next <| C.seq <| C.region <| ?_
    refine E.loadA rfl Try.underlying24 rfl (by kernel_rfl) (by first | exact hM.bat 0 rfl | exact hM.bat 1 rfl | exact hM.bat 2 rfl | exact hM.bat 3 rfl | exact hM.bat 4 rfl | exact hM.bat 5 rfl | exact hM.bat 6 rfl | exact hM.bat 7 rfl) rfl ?_
    refine E.call rfl rfl (rparts_ret a b vd dk false false _ hW hH hn hn0 (hM.arg0 hr)) ?_
    rintro _ w10 ⟨vc, vf, lab', lt, rfl, hL', m⟩
    have hM := hM.call m
    try dsimp only [List.nil_append, List.cons_append, List.set_cons_zero, List.set_cons_succ, repl] at hM
    have hnum := hL.num
    have hltn := hL'.num
    have hltl := nf_le (D := DD dk false) (R := RR a false dk false) dk.length
    refine E.mv rfl rfl <| E.ext rfl rfl rfl <| E.ext rfl rfl rfl <| E.asg rfl rfl <| E.asg rfl rfl <| E.nil <| X.next <| C.seq <| C.region <| E.mv rfl rfl <| ?_
    refine E.lenv rfl (RdF.shape (by first | exact hM.slF 0 rfl | exact hM.slF 1 rfl | exact hM.slF 2 rfl | exact hM.slF 3 rfl | exact hM.slF 4 rfl | exact hM.slF 5 rfl | exact hM.slF 6 rfl | exact hM.slF 7 rfl | exact hM.argF0 (by assumption) | exact hM.argF (by assumption) (by assumption) | assumption)) Try.underlying28 rfl ?_
    refine E.asg rfl rfl <| E.nil <| X.next <| C.seq <| C.seq <| C.region <| E.asg rfl rfl <| E.nil <| X.next <| C.block <| ?_

    refine C.loop1 [(1, _), (8, _)] rfl (fun (i : Nat) => [(9, i64 ((bl.length : Int) - (cH a b lt i : Int))), (10, i64 i)]) (fun (i : Nat) w' => M w (Nn) w' [Rg.blk b1 24 [i64 a, i64 b, vd], Rg.sl i64 3 va lab, Rg.slF Bl.cells 7 38 vb bl, Rg.sl i64 3 vc lab', Rg.slF Bl.cells 7 38 vf lt] ∧ i ≤ lt.length) (fun (i : Nat) => lt.length - i) 0 ?_ ?_ ?_
    · exact Sub.cons rfl <| Sub.cons rfl <| Sub.nil _
    · exact ⟨hM, Nat.zero_le _⟩
    rintro i w3 ⟨hM, hi⟩
    refine C.seq <| C.seq <| C.region <| E.mv rfl rfl <| E.mv rfl rfl <| ?_
    refine E.lenv rfl (RdF.shape (by first | exact hM.slF 0 rfl | exact hM.slF 1 rfl | exact hM.slF 2 rfl | exact hM.slF 3 rfl | exact hM.slF 4 rfl | exact hM.slF 5 rfl | exact hM.slF 6 rfl | exact hM.slF 7 rfl | exact hM.argF0 (by assumption) | exact hM.argF (by assumption) (by assumption) | assumption)) Try.underlying28 rfl ?_
    refine E.bin rfl rfl rfl rfl <| E.nil <| X.next <| ?_
    refine C.cond' rfl (fun hC1 => ?_) (fun hC1 => ?_)
    ·
      have hi' : i < lt.length := by omega
      have hsm := blob_small hL' hn0 hi'
      have hcs := cH_succ a b lt hi'
      have hcl := cH_le a b lt i
      refine C.skip <| X.next <| ?_

      refine C.cut0 [(1, _), (8, _), (10, _)] rfl [(9, i64 ((bl.length : Int) - (cH a b lt (i + 1) : Int)))] (fun w' => M w (Nn) w' [Rg.blk b1 24 [i64 a, i64 b, vd], Rg.sl i64 3 va lab, Rg.slF Bl.cells 7 38 vb bl, Rg.sl i64 3 vc lab', Rg.slF Bl.cells 7 38 vf lt]) ?_ ?_
      ·
        refine C.block <| C.seq <| C.drawn (by kernel_rfl) (by kernel_rfl) <| ?_
        refine Q.loadA rfl Try.underlying24 rfl (by kernel_rfl) (by first | exact hM.bat 0 rfl | exact hM.bat 1 rfl | exact hM.bat 2 rfl | exact hM.bat 3 rfl | exact hM.bat 4 rfl | exact hM.bat 5 rfl | exact hM.bat 6 rfl | exact hM.bat 7 rfl) rfl ?_
        refine Q.mv rfl rfl <| Q.mv rfl rfl <| ?_
        refine Q.idxF (k := _) rfl rfl (by first | exact hM.slF 0 rfl | exact hM.slF 1 rfl | exact hM.slF 2 rfl | exact hM.slF 3 rfl | exact hM.slF 4 rfl | exact hM.slF 5 rfl | exact hM.slF 6 rfl | exact hM.slF 7 rfl | exact hM.argF0 (by assumption) | exact hM.argF (by assumption) (by assumption) | assumption) rfl (by first | omega | (simp only [List.length_replicate, List.length_append, List.length_set, List.length_cons, List.length_nil, List.length_map, List.length_range, List.length_take, List.length_drop, List.length_zipWith] at *; omega)) (by decide) Try.underlying28 (by kernel_rfl) rfl ?_
        refine Q.fld (o := 0) (sz := 3) rfl Try.underlying38 rfl rfl (by kernel_rfl) rfl ?_
        refine Q.loadA rfl Try.underlying34 rfl (by kernel_rfl) (by first | exact (hM.slF 0 rfl).sub (n := 4) (by first | omega | (simp only [List.length_replicate, List.length_append, List.length_set, List.length_cons, List.length_nil, List.length_map, List.length_range, List.length_take, List.length_drop, List.length_zipWith] at *; omega)) | exact (hM.slF 1 rfl).sub (n := 4) (by first | omega | (simp only [List.length_replicate, List.length_append, List.length_set, List.length_cons, List.length_nil, List.length_map, List.length_range, List.length_take, List.length_drop, List.length_zipWith] at *; omega)) | exact (hM.slF 2 rfl).sub (n := 4) (by first | omega | (simp only [List.length_replicate, List.length_append, List.length_set, List.length_cons, List.length_nil, List.length_map, List.length_range, List.length_take, List.length_drop, List.length_zipWith] at *; omega)) | exact (hM.slF 3 rfl).sub (n := 4) (by first | omega | (simp only [List.length_replicate, List.length_append, List.length_set, List.length_cons, List.length_nil, List.length_map, List.length_range, List.length_take, List.length_drop, List.length_zipWith] at *; omega)) | exact (hM.slF 4 rfl).sub (n := 4) (by first | omega | (simp only [List.length_replicate, List.length_append, List.length_set, List.length_cons, List.length_nil, List.length_map, List.length_range, List.length_take, List.length_drop, List.length_zipWith] at *; omega)) | exact (hM.slF 5 rfl).sub (n := 4) (by first | omega | (simp only [List.length_replicate, List.length_append, List.length_set, List.length_cons, List.length_nil, List.length_map, List.length_range, List.length_take, List.length_drop, List.length_zipWith] at *; omega)) | exact (hM.slF 6 rfl).sub (n := 4) (by first | omega | (simp only [List.length_replicate, List.length_append, List.length_set, List.length_cons, List.length_nil, List.length_map, List.length_range, List.length_take, List.length_drop, List.length_zipWith] at *; omega)) | exact (hM.slF 7 rfl).sub (n := 4) (by first | omega | (simp only [List.length_replicate, List.length_append, List.length_set, List.length_cons, List.length_nil, List.length_map, List.length_range, List.length_take, List.length_drop, List.length_zipWith] at *; omega)) | exact (hM.argF0 (by assumption)).sub (n := 4) (by first | omega | (simp only [List.length_replicate, List.length_append, List.length_set, List.length_cons, List.length_nil, List.length_map, List.length_range, List.length_take, List.length_drop, List.length_zipWith] at *; omega)) | exact (hM.argF (by assumption) (by assumption)).sub (n := 4) (by first | omega | (simp only [List.length_replicate, List.length_append, List.length_set, List.length_cons, List.length_nil, List.length_map, List.length_range, List.length_take, List.length_drop, List.length_zipWith] at *; omega))) rfl ?_
        refine Q.call (v := .bool (decide (Hb a b lt[i]))) rfl rfl (fun w' hw' => hole_ret a b vd lt[i] _ hsm) ?_
        refine Q.nil <| fun w4 hx4 => ?_
        have hM := hM.ext hx4
        refine X.next <| ?_
        refine C.cond rfl (fun hC2 => ?_) (fun hC2 => ?_)
        ·
          rw [if_pos (of_decide_eq_true hC2)] at hcs
          refine C.region <| E.mv rfl rfl <| ?_
          refine E.sub' rfl rfl (by omega) rfl ?_
          rw [show ((bl.length : Int) - (cH a b lt i : Int) - 1) = (bl.length : Int) - (cH a b lt (i + 1) : Int) by omega]

          refine E.asg rfl rfl <| E.nil <| X.outN <| X.join0  (Sub.cons rfl <| Sub.nil _) rfl hM
        ·
          rw [if_neg (of_decide_eq_false hC2)] at hcs
          refine C.skip <| X.outN <| ?_
          rw [show cH a b lt (i + 1) = cH a b lt i by omega]

          refine X.join0  (Sub.cons rfl <| Sub.nil _) rfl hM
      rintro  w5 hM
      refine C.region <| E.mv rfl rfl <| ?_
      refine E.add rfl rfl (by omega) rfl ?_

      refine E.asg rfl rfl <| E.nil <| X.again1 (i + 1) (Sub.cons rfl <| Sub.cons rfl <| Sub.nil _) rfl ⟨hM, by omega⟩ (by omega)
    ·
      obtain rfl : i = lt.length := by omega
      have hcn : cH a b lt lt.length = nh a b dk := nh_blobs hL' hn (by omega)
      refine C.exit <| X.exitT <| X.exitT <| X.outE <| X.next <| C.seq <| C.region <| E.mv rfl rfl <| E.asg rfl rfl <| E.asg rfl rfl <| E.nil <| X.next <| C.ret <| ret2 rfl rfl rfl ?_
      exact ⟨_, _, rfl, .inr (.inr ⟨hok, hfew, rfl, by rw [hnum, hcn]; rfl⟩), hM.pick [] (by decide)⟩

end Go.Proofs.Ytnnmebpahickhaa
