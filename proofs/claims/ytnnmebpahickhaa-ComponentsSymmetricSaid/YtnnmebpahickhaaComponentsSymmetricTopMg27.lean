/- Texts of the claim, laid together: Ex38. -/
import Derived.Test.YtnnmebpahickhaaComponentsSymmetricTopMg26
/- The examples of chapter 38. -/
namespace Go.Proofs.Ytnnmebpahickhaa
set_option linter.unusedSimpArgs false
set_option linter.unusedVariables false
open Go.RowKit Sym Uf

theorem LabelAns.fine {W Ht : Int} {dk : List Bool} {eight : Bool} {v : Value} {w0 w : World} (h : LabelAns W Ht dk eight v w0 w) (hok : okMat W Ht dk.length) (hf : nf (DD dk true) (RR W.toNat eight dk true) dk.length ≤ 65536) : ∃ va vb lab bl, v = .tuple #[va, vb, i64 0] ∧ M w0 Nn w [Rg.sl i64 3 va lab, Rg.slF Bl.cells 7 38 vb bl] ∧ Labelled (DD dk true) (RR W.toNat eight dk true) W.toNat dk.length lab bl := by
  rcases h with ⟨h1, _⟩ | ⟨_, h2, _⟩ | ⟨_, _, h⟩
  · exact (h1 hok).elim
  · omega
  · exact h
theorem EulSp.fine {W Ht : Int} {dk : List Bool} {k e : Int} (h : EulSp W Ht dk k e) (hok : okMat W Ht dk.length) (hf : nf (DD dk true) (RR W.toNat true dk true) dk.length ≤ 65536) : e = 0 ∧ k = (nf (DD dk true) (RR W.toNat true dk true) dk.length : Int) - (nh W.toNat Ht.toNat dk : Int) := by
  rcases h with ⟨h1, _⟩ | ⟨_, h2, _⟩ | ⟨_, _, h⟩
  · exact (h1 hok).elim
  · omega
  · exact h
theorem FillSp.fine {W Ht : Int} {dk l : List Bool} {W1 H1 e : Int} (h : FillSp W Ht dk W1 H1 l e) (hok : okMat W Ht dk.length) : W1 = W ∧ H1 = Ht ∧ e = 0 ∧ l = tab dk.length (fillc W.toNat Ht.toNat dk) := by
  rcases h with ⟨h1, _⟩ | ⟨_, h⟩
  · exact (h1 hok).elim
  · exact h
theorem DespSp.fine {W Ht area : Int} {dk l : List Bool} {W1 H1 e : Int} (h : DespSp W Ht dk area W1 H1 l e) (hok : okMat W Ht dk.length) (ha : 0 ≤ area) (hf : nf (DD dk true) (RR W.toNat true dk true) dk.length ≤ 65536) : W1 = W ∧ H1 = Ht ∧ e = 0 ∧ ∃ lab bl, Labelled (DD dk true) (RR W.toNat true dk true) W.toNat dk.length lab bl ∧ l = tab dk.length (despf dk lab bl area) := by
  rcases h with ⟨h1, _⟩ | ⟨_, h2, _⟩ | ⟨_, _, h2, _⟩ | ⟨_, _, _, h⟩
  · exact (h1 hok).elim
  · omega
  · omega
  · exact h
set_option maxHeartbeats 4000000 in
theorem ex38_ret (w : World) :
    Ret Try.prog 13 #[] w fun v w' => v = .bool true ∧ Ext w w' := by
  have hM := M.start w
  refine enter Try.func13 rfl (by kernel_rfl) Try.ntmps13 rfl ?_
  refine C.seq <| C.region <| E.asg rfl rfl <| E.nil <| X.next <| C.seq <| C.region <| ?_
  refine E.call rfl rfl (bitmap_ret 3 3 _ _ (by decide)) ?_
  rintro _ w1 ⟨vc, rfl, m⟩
  rw [bmp_cross] at m
  have hM := hM.call m
  try dsimp only [List.nil_append, List.cons_append, List.set_cons_zero, List.set_cons_succ, repl] at hM
  refine E.call rfl rfl (bitmap_ret 3 3 _ _ (by decide)) ?_
  rintro _ w2 ⟨vr, rfl, m⟩
  rw [bmp_ring] at m
  have hM := hM.call m
  try dsimp only [List.nil_append, List.cons_append, List.set_cons_zero, List.set_cons_succ, repl] at hM
  refine E.allocM (z := .agg #[.int .i64 0, .int .i64 0, .slice none 0 0]) (cs := [.int .i64 0, .int .i64 0, .slice none 0 0]) hM (by kernel_rfl) rfl rfl ?_
  intro b1 w2 hM
  try dsimp only [List.nil_append, List.cons_append, List.set_cons_zero, List.set_cons_succ, repl] at hM
  refine E.allocM (z := .agg #[.int .i64 0, .int .i64 0, .slice none 0 0]) (cs := [.int .i64 0, .int .i64 0, .slice none 0 0]) hM (by kernel_rfl) rfl rfl ?_
  intro b2 w3 hM
  try dsimp only [List.nil_append, List.cons_append, List.set_cons_zero, List.set_cons_succ, repl] at hM
  first
    | refine E.storeAM 0 hM rfl rfl rfl (by kernel_rfl) rfl ?_ ?_
    | refine E.storeAM 1 hM rfl rfl rfl (by kernel_rfl) rfl ?_ ?_
    | refine E.storeAM 2 hM rfl rfl rfl (by kernel_rfl) rfl ?_ ?_
    | refine E.storeAM 3 hM rfl rfl rfl (by kernel_rfl) rfl ?_ ?_
    | refine E.storeAM 4 hM rfl rfl rfl (by kernel_rfl) rfl ?_ ?_
    | refine E.storeAM 5 hM rfl rfl rfl (by kernel_rfl) rfl ?_ ?_
    | refine E.storeAM 6 hM rfl rfl rfl (by kernel_rfl) rfl ?_ ?_
    | refine E.storeAM 7 hM rfl rfl rfl (by kernel_rfl) rfl ?_ ?_
    | refine E.storeAM 8 hM rfl rfl rfl (by kernel_rfl) rfl ?_ ?_
    | refine E.storeAM 9 hM rfl rfl rfl (by kernel_rfl) rfl ?_ ?_
    | refine E.storeAM 10 hM rfl rfl rfl (by kernel_rfl) rfl ?_ ?_
    | refine E.storeAM 11 hM rfl rfl rfl (by kernel_rfl) rfl ?_ ?_
    | refine E.storeAM 12 hM rfl rfl rfl (by kernel_rfl) rfl ?_ ?_
    | refine E.storeAM 13 hM rfl rfl rfl (by kernel_rfl) rfl ?_ ?_
  · exact ones (by first | rfl | exact (hM.sl 0 rfl).one | exact (hM.sl 1 rfl).one | exact (hM.sl 2 rfl).one | exact (hM.sl 3 rfl).one | exact (hM.sl 4 rfl).one | exact (hM.sl 5 rfl).one | exact (hM.sl 6 rfl).one | exact (hM.sl 7 rfl).one | exact (hM.sl 8 rfl).one | exact (hM.sl 9 rfl).one | exact (hM.sl 10 rfl).one | exact (hM.sl 11 rfl).one | exact (hM.sl 12 rfl).one | exact (hM.sl 13 rfl).one | exact (hM.slF 0 rfl).one | exact (hM.slF 1 rfl).one | exact (hM.slF 2 rfl).one | exact (hM.slF 3 rfl).one | exact (hM.slF 4 rfl).one | exact (hM.slF 5 rfl).one | exact (hM.slF 6 rfl).one | exact (hM.slF 7 rfl).one | exact (hM.slF 8 rfl).one | exact (hM.slF 9 rfl).one | exact (hM.slF 10 rfl).one | exact (hM.slF 11 rfl).one | exact (hM.slF 12 rfl).one | exact (hM.slF 13 rfl).one | exact RdL.one (by assumption) | exact RdF.one (by assumption) | assumption) <| ones (by first | rfl | exact (hM.sl 0 rfl).one | exact (hM.sl 1 rfl).one | exact (hM.sl 2 rfl).one | exact (hM.sl 3 rfl).one | exact (hM.sl 4 rfl).one | exact (hM.sl 5 rfl).one | exact (hM.sl 6 rfl).one | exact (hM.sl 7 rfl).one | exact (hM.sl 8 rfl).one | exact (hM.sl 9 rfl).one | exact (hM.sl 10 rfl).one | exact (hM.sl 11 rfl).one | exact (hM.sl 12 rfl).one | exact (hM.sl 13 rfl).one | exact (hM.slF 0 rfl).one | exact (hM.slF 1 rfl).one | exact (hM.slF 2 rfl).one | exact (hM.slF 3 rfl).one | exact (hM.slF 4 rfl).one | exact (hM.slF 5 rfl).one | exact (hM.slF 6 rfl).one | exact (hM.slF 7 rfl).one | exact (hM.slF 8 rfl).one | exact (hM.slF 9 rfl).one | exact (hM.slF 10 rfl).one | exact (hM.slF 11 rfl).one | exact (hM.slF 12 rfl).one | exact (hM.slF 13 rfl).one | exact RdL.one (by assumption) | exact RdF.one (by assumption) | assumption) <| ones (by first | rfl | exact (hM.sl 0 rfl).one | exact (hM.sl 1 rfl).one | exact (hM.sl 2 rfl).one | exact (hM.sl 3 rfl).one | exact (hM.sl 4 rfl).one | exact (hM.sl 5 rfl).one | exact (hM.sl 6 rfl).one | exact (hM.sl 7 rfl).one | exact (hM.sl 8 rfl).one | exact (hM.sl 9 rfl).one | exact (hM.sl 10 rfl).one | exact (hM.sl 11 rfl).one | exact (hM.sl 12 rfl).one | exact (hM.sl 13 rfl).one | exact (hM.slF 0 rfl).one | exact (hM.slF 1 rfl).one | exact (hM.slF 2 rfl).one | exact (hM.slF 3 rfl).one | exact (hM.slF 4 rfl).one | exact (hM.slF 5 rfl).one | exact (hM.slF 6 rfl).one | exact (hM.slF 7 rfl).one | exact (hM.slF 8 rfl).one | exact (hM.slF 9 rfl).one | exact (hM.slF 10 rfl).one | exact (hM.slF 11 rfl).one | exact (hM.slF 12 rfl).one | exact (hM.slF 13 rfl).one | exact RdL.one (by assumption) | exact RdF.one (by assumption) | assumption) <| ones_nil
  intro w4 hM
  try dsimp only [List.nil_append, List.cons_append, List.set_cons_zero, List.set_cons_succ, repl] at hM
  first
    | refine E.storeAM 0 hM rfl rfl rfl (by kernel_rfl) rfl ?_ ?_
    | refine E.storeAM 1 hM rfl rfl rfl (by kernel_rfl) rfl ?_ ?_
    | refine E.storeAM 2 hM rfl rfl rfl (by kernel_rfl) rfl ?_ ?_
    | refine E.storeAM 3 hM rfl rfl rfl (by kernel_rfl) rfl ?_ ?_
    | refine E.storeAM 4 hM rfl rfl rfl (by kernel_rfl) rfl ?_ ?_
    | refine E.storeAM 5 hM rfl rfl rfl (by kernel_rfl) rfl ?_ ?_
    | refine E.storeAM 6 hM rfl rfl rfl (by kernel_rfl) rfl ?_ ?_
    | refine E.storeAM 7 hM rfl rfl rfl (by kernel_rfl) rfl ?_ ?_
    | refine E.storeAM 8 hM rfl rfl rfl (by kernel_rfl) rfl ?_ ?_
    | refine E.storeAM 9 hM rfl rfl rfl (by kernel_rfl) rfl ?_ ?_
    | refine E.storeAM 10 hM rfl rfl rfl (by kernel_rfl) rfl ?_ ?_
    | refine E.storeAM 11 hM rfl rfl rfl (by kernel_rfl) rfl ?_ ?_
    | refine E.storeAM 12 hM rfl rfl rfl (by kernel_rfl) rfl ?_ ?_
    | refine E.storeAM 13 hM rfl rfl rfl (by kernel_rfl) rfl ?_ ?_
  · exact ones (by first | rfl | exact (hM.sl 0 rfl).one | exact (hM.sl 1 rfl).one | exact (hM.sl 2 rfl).one | exact (hM.sl 3 rfl).one | exact (hM.sl 4 rfl).one | exact (hM.sl 5 rfl).one | exact (hM.sl 6 rfl).one | exact (hM.sl 7 rfl).one | exact (hM.sl 8 rfl).one | exact (hM.sl 9 rfl).one | exact (hM.sl 10 rfl).one | exact (hM.sl 11 rfl).one | exact (hM.sl 12 rfl).one | exact (hM.sl 13 rfl).one | exact (hM.slF 0 rfl).one | exact (hM.slF 1 rfl).one | exact (hM.slF 2 rfl).one | exact (hM.slF 3 rfl).one | exact (hM.slF 4 rfl).one | exact (hM.slF 5 rfl).one | exact (hM.slF 6 rfl).one | exact (hM.slF 7 rfl).one | exact (hM.slF 8 rfl).one | exact (hM.slF 9 rfl).one | exact (hM.slF 10 rfl).one | exact (hM.slF 11 rfl).one | exact (hM.slF 12 rfl).one | exact (hM.slF 13 rfl).one | exact RdL.one (by assumption) | exact RdF.one (by assumption) | assumption) <| ones (by first | rfl | exact (hM.sl 0 rfl).one | exact (hM.sl 1 rfl).one | exact (hM.sl 2 rfl).one | exact (hM.sl 3 rfl).one | exact (hM.sl 4 rfl).one | exact (hM.sl 5 rfl).one | exact (hM.sl 6 rfl).one | exact (hM.sl 7 rfl).one | exact (hM.sl 8 rfl).one | exact (hM.sl 9 rfl).one | exact (hM.sl 10 rfl).one | exact (hM.sl 11 rfl).one | exact (hM.sl 12 rfl).one | exact (hM.sl 13 rfl).one | exact (hM.slF 0 rfl).one | exact (hM.slF 1 rfl).one | exact (hM.slF 2 rfl).one | exact (hM.slF 3 rfl).one | exact (hM.slF 4 rfl).one | exact (hM.slF 5 rfl).one | exact (hM.slF 6 rfl).one | exact (hM.slF 7 rfl).one | exact (hM.slF 8 rfl).one | exact (hM.slF 9 rfl).one | exact (hM.slF 10 rfl).one | exact (hM.slF 11 rfl).one | exact (hM.slF 12 rfl).one | exact (hM.slF 13 rfl).one | exact RdL.one (by assumption) | exact RdF.one (by assumption) | assumption) <| ones (by first | rfl | exact (hM.sl 0 rfl).one | exact (hM.sl 1 rfl).one | exact (hM.sl 2 rfl).one | exact (hM.sl 3 rfl).one | exact (hM.sl 4 rfl).one | exact (hM.sl 5 rfl).one | exact (hM.sl 6 rfl).one | exact (hM.sl 7 rfl).one | exact (hM.sl 8 rfl).one | exact (hM.sl 9 rfl).one | exact (hM.sl 10 rfl).one | exact (hM.sl 11 rfl).one | exact (hM.sl 12 rfl).one | exact (hM.sl 13 rfl).one | exact (hM.slF 0 rfl).one | exact (hM.slF 1 rfl).one | exact (hM.slF 2 rfl).one | exact (hM.slF 3 rfl).one | exact (hM.slF 4 rfl).one | exact (hM.slF 5 rfl).one | exact (hM.slF 6 rfl).one | exact (hM.slF 7 rfl).one | exact (hM.slF 8 rfl).one | exact (hM.slF 9 rfl).one | exact (hM.slF 10 rfl).one | exact (hM.slF 11 rfl).one | exact (hM.slF 12 rfl).one | exact (hM.slF 13 rfl).one | exact RdL.one (by assumption) | exact RdF.one (by assumption) | assumption) <| ones_nil
  intro w5 hM
  try dsimp only [List.nil_append, List.cons_append, List.set_cons_zero, List.set_cons_succ, repl] at hM
  refine E.nil <| X.next <| C.seq <| C.region <| ?_
  refine E.loadA rfl Try.underlying24 rfl (by kernel_rfl) (by first | exact hM.bat 0 rfl | exact hM.bat 1 rfl | exact hM.bat 2 rfl | exact hM.bat 3 rfl | exact hM.bat 4 rfl | exact hM.bat 5 rfl | exact hM.bat 6 rfl | exact hM.bat 7 rfl | exact hM.bat 8 rfl | exact hM.bat 9 rfl | exact hM.bat 10 rfl | exact hM.bat 11 rfl | exact hM.bat 12 rfl | exact hM.bat 13 rfl) rfl ?_
  refine E.call rfl rfl (Label_ret 3 3 vc cross true _ (hM.sl 0 rfl)) ?_
  rintro _ w3 ⟨hA, x3⟩
  obtain ⟨va1, vb1, l1, bl1, rfl, m, hL1⟩ := hA.fine ok33 (by show nf _ (RR 3 true cross true) 9 ≤ 65536; rw [nf_cross8]; decide)
  obtain rfl := lab_cross hL1
  have hM := hM.call m
  try dsimp only [List.nil_append, List.cons_append, List.set_cons_zero, List.set_cons_succ, repl] at hM
  refine E.mv rfl rfl <| E.ext rfl rfl rfl <| E.ext rfl rfl rfl <| E.ext rfl rfl rfl <| E.asg rfl rfl <| E.asg rfl rfl <| E.asg rfl rfl <| E.nil <| X.next <| C.seq <| C.region <| ?_
  refine E.loadA rfl Try.underlying24 rfl (by kernel_rfl) (by first | exact hM.bat 0 rfl | exact hM.bat 1 rfl | exact hM.bat 2 rfl | exact hM.bat 3 rfl | exact hM.bat 4 rfl | exact hM.bat 5 rfl | exact hM.bat 6 rfl | exact hM.bat 7 rfl | exact hM.bat 8 rfl | exact hM.bat 9 rfl | exact hM.bat 10 rfl | exact hM.bat 11 rfl | exact hM.bat 12 rfl | exact hM.bat 13 rfl) rfl ?_
  refine E.call rfl rfl (Label_ret 3 3 vc cross false _ (hM.sl 0 rfl)) ?_
  rintro _ w4 ⟨hA, x4⟩
  obtain ⟨va2, vb2, l2, bl2, rfl, m, hL2⟩ := hA.fine ok33 (by show nf _ (RR 3 false cross true) 9 ≤ 65536; rw [nf_cross4]; decide)
  have hbl2 : bl2.length = 5 := by rw [hL2.num]; exact nf_cross4
  have hM := hM.call m
  try dsimp only [List.nil_append, List.cons_append, List.set_cons_zero, List.set_cons_succ, repl] at hM
  refine E.mv rfl rfl <| E.ext rfl rfl rfl <| E.ext rfl rfl rfl <| E.ext rfl rfl rfl <| E.asg rfl rfl <| E.asg rfl rfl <| E.asg rfl rfl <| E.nil <| X.next <| C.seq <| C.region <| ?_
  refine E.loadA rfl Try.underlying24 rfl (by kernel_rfl) (by first | exact hM.bat 0 rfl | exact hM.bat 1 rfl | exact hM.bat 2 rfl | exact hM.bat 3 rfl | exact hM.bat 4 rfl | exact hM.bat 5 rfl | exact hM.bat 6 rfl | exact hM.bat 7 rfl | exact hM.bat 8 rfl | exact hM.bat 9 rfl | exact hM.bat 10 rfl | exact hM.bat 11 rfl | exact hM.bat 12 rfl | exact hM.bat 13 rfl) rfl ?_
  refine E.call rfl rfl (Euler_ret 3 3 vc cross _ (hM.sl 0 rfl)) ?_
  rintro _ w5 ⟨k1, e1, rfl, hE, m⟩
  obtain ⟨rfl, hk1⟩ := hE.fine ok33 (by show nf _ (RR 3 true cross true) 9 ≤ 65536; rw [nf_cross8]; decide)
  obtain rfl : k1 = 1 := by rw [hk1]; show (nf _ (RR 3 true cross true) 9 : Int) - (nh 3 3 cross : Int) = 1; rw [nf_cross8, nh_cross]; rfl
  have hM := hM.call m
  try dsimp only [List.nil_append, List.cons_append, List.set_cons_zero, List.set_cons_succ, repl] at hM
  refine E.mv rfl rfl <| E.ext rfl rfl rfl <| E.ext rfl rfl rfl <| E.asg rfl rfl <| E.asg rfl rfl <| E.nil <| X.next <| C.seq <| C.region <| ?_
  refine E.loadA rfl Try.underlying24 rfl (by kernel_rfl) (by first | exact hM.bat 0 rfl | exact hM.bat 1 rfl | exact hM.bat 2 rfl | exact hM.bat 3 rfl | exact hM.bat 4 rfl | exact hM.bat 5 rfl | exact hM.bat 6 rfl | exact hM.bat 7 rfl | exact hM.bat 8 rfl | exact hM.bat 9 rfl | exact hM.bat 10 rfl | exact hM.bat 11 rfl | exact hM.bat 12 rfl | exact hM.bat 13 rfl) rfl ?_
  refine E.call rfl rfl (Euler_ret 3 3 vr ring _ (hM.sl 1 rfl)) ?_
  rintro _ w6 ⟨k2, e2, rfl, hE, m⟩
  obtain ⟨rfl, hk2⟩ := hE.fine ok33 (by show nf _ (RR 3 true ring true) 9 ≤ 65536; rw [nf_ring8]; decide)
  obtain rfl : k2 = 0 := by rw [hk2]; show (nf _ (RR 3 true ring true) 9 : Int) - (nh 3 3 ring : Int) = 0; rw [nf_ring8, nh_ring]; rfl
  have hM := hM.call m
  try dsimp only [List.nil_append, List.cons_append, List.set_cons_zero, List.set_cons_succ, repl] at hM
  refine E.mv rfl rfl <| E.ext rfl rfl rfl <| E.ext rfl rfl rfl <| E.asg rfl rfl <| E.asg rfl rfl <| E.nil <| X.next <| C.seq <| C.region <| ?_
  refine E.loadA rfl Try.underlying24 rfl (by kernel_rfl) (by first | exact hM.bat 0 rfl | exact hM.bat 1 rfl | exact hM.bat 2 rfl | exact hM.bat 3 rfl | exact hM.bat 4 rfl | exact hM.bat 5 rfl | exact hM.bat 6 rfl | exact hM.bat 7 rfl | exact hM.bat 8 rfl | exact hM.bat 9 rfl | exact hM.bat 10 rfl | exact hM.bat 11 rfl | exact hM.bat 12 rfl | exact hM.bat 13 rfl) rfl ?_
  refine E.call rfl rfl (Fill_ret 3 3 vr ring _ (hM.sl 1 rfl)) ?_
  rintro _ w7 ⟨vf, W1, H1, lf, e3, rfl, hS, m⟩
  obtain ⟨rfl, rfl, rfl, rfl⟩ := hS.fine ok33
  have hM := hM.call m
  try dsimp only [List.nil_append, List.cons_append, List.set_cons_zero, List.set_cons_succ, repl] at hM
  refine E.mv rfl rfl <| E.ext rfl rfl rfl <| E.ext rfl rfl rfl <| ?_
  refine E.allocM (z := .agg #[.int .i64 0, .int .i64 0, .slice none 0 0]) (cs := [.int .i64 0, .int .i64 0, .slice none 0 0]) hM (by kernel_rfl) rfl rfl ?_
  intro b13 w11 hM
  try dsimp only [List.nil_append, List.cons_append, List.set_cons_zero, List.set_cons_succ, repl] at hM
  first
    | refine E.storeAM 0 hM rfl rfl rfl (by kernel_rfl) rfl ?_ ?_
    | refine E.storeAM 1 hM rfl rfl rfl (by kernel_rfl) rfl ?_ ?_
    | refine E.storeAM 2 hM rfl rfl rfl (by kernel_rfl) rfl ?_ ?_
    | refine E.storeAM 3 hM rfl rfl rfl (by kernel_rfl) rfl ?_ ?_
    | refine E.storeAM 4 hM rfl rfl rfl (by kernel_rfl) rfl ?_ ?_
    | refine E.storeAM 5 hM rfl rfl rfl (by kernel_rfl) rfl ?_ ?_
    | refine E.storeAM 6 hM rfl rfl rfl (by kernel_rfl) rfl ?_ ?_
    | refine E.storeAM 7 hM rfl rfl rfl (by kernel_rfl) rfl ?_ ?_
    | refine E.storeAM 8 hM rfl rfl rfl (by kernel_rfl) rfl ?_ ?_
    | refine E.storeAM 9 hM rfl rfl rfl (by kernel_rfl) rfl ?_ ?_
    | refine E.storeAM 10 hM rfl rfl rfl (by kernel_rfl) rfl ?_ ?_
    | refine E.storeAM 11 hM rfl rfl rfl (by kernel_rfl) rfl ?_ ?_
    | refine E.storeAM 12 hM rfl rfl rfl (by kernel_rfl) rfl ?_ ?_
    | refine E.storeAM 13 hM rfl rfl rfl (by kernel_rfl) rfl ?_ ?_
  · exact ones (by first | rfl | exact (hM.sl 0 rfl).one | exact (hM.sl 1 rfl).one | exact (hM.sl 2 rfl).one | exact (hM.sl 3 rfl).one | exact (hM.sl 4 rfl).one | exact (hM.sl 5 rfl).one | exact (hM.sl 6 rfl).one | exact (hM.sl 7 rfl).one | exact (hM.sl 8 rfl).one | exact (hM.sl 9 rfl).one | exact (hM.sl 10 rfl).one | exact (hM.sl 11 rfl).one | exact (hM.sl 12 rfl).one | exact (hM.sl 13 rfl).one | exact (hM.slF 0 rfl).one | exact (hM.slF 1 rfl).one | exact (hM.slF 2 rfl).one | exact (hM.slF 3 rfl).one | exact (hM.slF 4 rfl).one | exact (hM.slF 5 rfl).one | exact (hM.slF 6 rfl).one | exact (hM.slF 7 rfl).one | exact (hM.slF 8 rfl).one | exact (hM.slF 9 rfl).one | exact (hM.slF 10 rfl).one | exact (hM.slF 11 rfl).one | exact (hM.slF 12 rfl).one | exact (hM.slF 13 rfl).one | exact RdL.one (by assumption) | exact RdF.one (by assumption) | assumption) <| ones (by first | rfl | exact (hM.sl 0 rfl).one | exact (hM.sl 1 rfl).one | exact (hM.sl 2 rfl).one | exact (hM.sl 3 rfl).one | exact (hM.sl 4 rfl).one | exact (hM.sl 5 rfl).one | exact (hM.sl 6 rfl).one | exact (hM.sl 7 rfl).one | exact (hM.sl 8 rfl).one | exact (hM.sl 9 rfl).one | exact (hM.sl 10 rfl).one | exact (hM.sl 11 rfl).one | exact (hM.sl 12 rfl).one | exact (hM.sl 13 rfl).one | exact (hM.slF 0 rfl).one | exact (hM.slF 1 rfl).one | exact (hM.slF 2 rfl).one | exact (hM.slF 3 rfl).one | exact (hM.slF 4 rfl).one | exact (hM.slF 5 rfl).one | exact (hM.slF 6 rfl).one | exact (hM.slF 7 rfl).one | exact (hM.slF 8 rfl).one | exact (hM.slF 9 rfl).one | exact (hM.slF 10 rfl).one | exact (hM.slF 11 rfl).one | exact (hM.slF 12 rfl).one | exact (hM.slF 13 rfl).one | exact RdL.one (by assumption) | exact RdF.one (by assumption) | assumption) <| ones (by first | rfl | exact (hM.sl 0 rfl).one | exact (hM.sl 1 rfl).one | exact (hM.sl 2 rfl).one | exact (hM.sl 3 rfl).one | exact (hM.sl 4 rfl).one | exact (hM.sl 5 rfl).one | exact (hM.sl 6 rfl).one | exact (hM.sl 7 rfl).one | exact (hM.sl 8 rfl).one | exact (hM.sl 9 rfl).one | exact (hM.sl 10 rfl).one | exact (hM.sl 11 rfl).one | exact (hM.sl 12 rfl).one | exact (hM.sl 13 rfl).one | exact (hM.slF 0 rfl).one | exact (hM.slF 1 rfl).one | exact (hM.slF 2 rfl).one | exact (hM.slF 3 rfl).one | exact (hM.slF 4 rfl).one | exact (hM.slF 5 rfl).one | exact (hM.slF 6 rfl).one | exact (hM.slF 7 rfl).one | exact (hM.slF 8 rfl).one | exact (hM.slF 9 rfl).one | exact (hM.slF 10 rfl).one | exact (hM.slF 11 rfl).one | exact (hM.slF 12 rfl).one | exact (hM.slF 13 rfl).one | exact RdL.one (by assumption) | exact RdF.one (by assumption) | assumption) <| ones_nil
  intro w12 hM
  try dsimp only [List.nil_append, List.cons_append, List.set_cons_zero, List.set_cons_succ, repl] at hM
  refine E.asg rfl rfl <| E.nil <| X.next <| C.seq <| C.region <| ?_
  refine E.loadA rfl Try.underlying24 rfl (by kernel_rfl) (by first | exact hM.bat 0 rfl | exact hM.bat 1 rfl | exact hM.bat 2 rfl | exact hM.bat 3 rfl | exact hM.bat 4 rfl | exact hM.bat 5 rfl | exact hM.bat 6 rfl | exact hM.bat 7 rfl | exact hM.bat 8 rfl | exact hM.bat 9 rfl | exact hM.bat 10 rfl | exact hM.bat 11 rfl | exact hM.bat 12 rfl | exact hM.bat 13 rfl) rfl ?_
  refine E.call rfl rfl (Despeckle_ret 3 3 vr ring 9 _ (hM.sl 1 rfl)) ?_
  rintro _ w8 ⟨vn, W2, H2, ln, e4, rfl, hS, m⟩
  obtain ⟨rfl, rfl, rfl, l3, bl3, hL3, rfl⟩ := hS.fine ok33 (by decide) (by show nf _ (RR 3 true ring true) 9 ≤ 65536; rw [nf_ring8]; decide)
  rw [show tab ring.length (despf ring l3 bl3 9) = List.replicate 9 false from desp_ring hL3] at m
  have hM := hM.call m
  try dsimp only [List.nil_append, List.cons_append, List.set_cons_zero, List.set_cons_succ, repl] at hM
  refine E.mv rfl rfl <| E.ext rfl rfl rfl <| E.ext rfl rfl rfl <| ?_
  refine E.allocM (z := .agg #[.int .i64 0, .int .i64 0, .slice none 0 0]) (cs := [.int .i64 0, .int .i64 0, .slice none 0 0]) hM (by kernel_rfl) rfl rfl ?_
  intro b15 w14 hM
  try dsimp only [List.nil_append, List.cons_append, List.set_cons_zero, List.set_cons_succ, repl] at hM
  first
    | refine E.storeAM 0 hM rfl rfl rfl (by kernel_rfl) rfl ?_ ?_
    | refine E.storeAM 1 hM rfl rfl rfl (by kernel_rfl) rfl ?_ ?_
    | refine E.storeAM 2 hM rfl rfl rfl (by kernel_rfl) rfl ?_ ?_
    | refine E.storeAM 3 hM rfl rfl rfl (by kernel_rfl) rfl ?_ ?_
    | refine E.storeAM 4 hM rfl rfl rfl (by kernel_rfl) rfl ?_ ?_
    | refine E.storeAM 5 hM rfl rfl rfl (by kernel_rfl) rfl ?_ ?_
    | refine E.storeAM 6 hM rfl rfl rfl (by kernel_rfl) rfl ?_ ?_
    | refine E.storeAM 7 hM rfl rfl rfl (by kernel_rfl) rfl ?_ ?_
    | refine E.storeAM 8 hM rfl rfl rfl (by kernel_rfl) rfl ?_ ?_
    | refine E.storeAM 9 hM rfl rfl rfl (by kernel_rfl) rfl ?_ ?_
    | refine E.storeAM 10 hM rfl rfl rfl (by kernel_rfl) rfl ?_ ?_
    | refine E.storeAM 11 hM rfl rfl rfl (by kernel_rfl) rfl ?_ ?_
    | refine E.storeAM 12 hM rfl rfl rfl (by kernel_rfl) rfl ?_ ?_
    | refine E.storeAM 13 hM rfl rfl rfl (by kernel_rfl) rfl ?_ ?_
  · exact ones (by first | rfl | exact (hM.sl 0 rfl).one | exact (hM.sl 1 rfl).one | exact (hM.sl 2 rfl).one | exact (hM.sl 3 rfl).one | exact (hM.sl 4 rfl).one | exact (hM.sl 5 rfl).one | exact (hM.sl 6 rfl).one | exact (hM.sl 7 rfl).one | exact (hM.sl 8 rfl).one | exact (hM.sl 9 rfl).one | exact (hM.sl 10 rfl).one | exact (hM.sl 11 rfl).one | exact (hM.sl 12 rfl).one | exact (hM.sl 13 rfl).one | exact (hM.slF 0 rfl).one | exact (hM.slF 1 rfl).one | exact (hM.slF 2 rfl).one | exact (hM.slF 3 rfl).one | exact (hM.slF 4 rfl).one | exact (hM.slF 5 rfl).one | exact (hM.slF 6 rfl).one | exact (hM.slF 7 rfl).one | exact (hM.slF 8 rfl).one | exact (hM.slF 9 rfl).one | exact (hM.slF 10 rfl).one | exact (hM.slF 11 rfl).one | exact (hM.slF 12 rfl).one | exact (hM.slF 13 rfl).one | exact RdL.one (by assumption) | exact RdF.one (by assumption) | assumption) <| ones (by first | rfl | exact (hM.sl 0 rfl).one | exact (hM.sl 1 rfl).one | exact (hM.sl 2 rfl).one | exact (hM.sl 3 rfl).one | exact (hM.sl 4 rfl).one | exact (hM.sl 5 rfl).one | exact (hM.sl 6 rfl).one | exact (hM.sl 7 rfl).one | exact (hM.sl 8 rfl).one | exact (hM.sl 9 rfl).one | exact (hM.sl 10 rfl).one | exact (hM.sl 11 rfl).one | exact (hM.sl 12 rfl).one | exact (hM.sl 13 rfl).one | exact (hM.slF 0 rfl).one | exact (hM.slF 1 rfl).one | exact (hM.slF 2 rfl).one | exact (hM.slF 3 rfl).one | exact (hM.slF 4 rfl).one | exact (hM.slF 5 rfl).one | exact (hM.slF 6 rfl).one | exact (hM.slF 7 rfl).one | exact (hM.slF 8 rfl).one | exact (hM.slF 9 rfl).one | exact (hM.slF 10 rfl).one | exact (hM.slF 11 rfl).one | exact (hM.slF 12 rfl).one | exact (hM.slF 13 rfl).one | exact RdL.one (by assumption) | exact RdF.one (by assumption) | assumption) <| ones (by first | rfl | exact (hM.sl 0 rfl).one | exact (hM.sl 1 rfl).one | exact (hM.sl 2 rfl).one | exact (hM.sl 3 rfl).one | exact (hM.sl 4 rfl).one | exact (hM.sl 5 rfl).one | exact (hM.sl 6 rfl).one | exact (hM.sl 7 rfl).one | exact (hM.sl 8 rfl).one | exact (hM.sl 9 rfl).one | exact (hM.sl 10 rfl).one | exact (hM.sl 11 rfl).one | exact (hM.sl 12 rfl).one | exact (hM.sl 13 rfl).one | exact (hM.slF 0 rfl).one | exact (hM.slF 1 rfl).one | exact (hM.slF 2 rfl).one | exact (hM.slF 3 rfl).one | exact (hM.slF 4 rfl).one | exact (hM.slF 5 rfl).one | exact (hM.slF 6 rfl).one | exact (hM.slF 7 rfl).one | exact (hM.slF 8 rfl).one | exact (hM.slF 9 rfl).one | exact (hM.slF 10 rfl).one | exact (hM.slF 11 rfl).one | exact (hM.slF 12 rfl).one | exact (hM.slF 13 rfl).one | exact RdL.one (by assumption) | exact RdF.one (by assumption) | assumption) <| ones_nil
  intro w15 hM
  try dsimp only [List.nil_append, List.cons_append, List.set_cons_zero, List.set_cons_succ, repl] at hM
  refine E.asg rfl rfl <| E.nil <| X.next <| C.seq <| ?_

  refine C.chainE [(4, _), (13, _), (15, _)] rfl [(90, .bool (decide False))] ?_ ?_
  ·
    refine C.region <| E.mv rfl rfl <| E.bin rfl rfl rfl rfl <| E.mv rfl rfl <| ?_
    refine E.split 53 rfl (fun g53 => ?_) (fun g53 => ?_)
    ·
      try simp only [decide_eq_true_eq, decide_eq_false_iff_not, ne_eq, Decidable.not_not] at g53
      refine E.off rfl rfl rfl rfl <| E.off rfl rfl rfl rfl <| E.pick rfl rfl rfl <| E.mv rfl rfl <| E.off rfl rfl rfl rfl <| E.off rfl rfl rfl rfl <| E.pick rfl rfl rfl <| E.mv rfl rfl <| E.off rfl rfl rfl rfl <| E.off rfl rfl rfl rfl <| E.pick rfl rfl rfl <| E.mv rfl rfl <| E.off rfl rfl rfl rfl <| E.off rfl rfl rfl rfl <| E.pick rfl rfl rfl <| E.mv rfl rfl <| E.off rfl rfl rfl rfl <| E.off rfl rfl rfl rfl <| E.pick rfl rfl rfl <| E.mv rfl rfl <| E.off rfl rfl rfl rfl <| E.off rfl rfl rfl rfl <| E.off rfl rfl rfl rfl <| E.pick rfl rfl rfl <| E.mv rfl rfl <| E.off rfl rfl rfl rfl <| E.off rfl rfl rfl rfl <| E.off rfl rfl rfl rfl <| E.pick rfl rfl rfl <| E.mv rfl rfl <| E.off rfl rfl rfl rfl <| E.off rfl rfl rfl rfl <| E.pick rfl rfl rfl <| E.mv rfl rfl <| E.off rfl rfl rfl rfl <| E.off rfl rfl rfl rfl <| E.pick rfl rfl rfl <| E.nil <| X.join0 (Sub.cons (by (first | exact leaf_f (by omega) | exact leaf_t (by omega) | exact leaf_d (by omega) | exact leaf_f (by first | (simp [*] <;> fail) | omega) | exact leaf_t (by first | (simp [*] <;> fail) | omega) | exact leaf_d (by first | (simp [*] <;> fail) | omega) | exact leaf_f (by (first | omega | ((try simp only [decide_eq_true_eq, decide_eq_false_iff_not, Bool.not_eq_true', Bool.not_eq_false'] at *); first | omega | (simp_all <;> fail) | (simp_all; omega)))) | exact leaf_t (by (first | omega | ((try simp only [decide_eq_true_eq, decide_eq_false_iff_not, Bool.not_eq_true', Bool.not_eq_false'] at *); first | omega | (simp_all <;> fail) | (simp_all; omega)))) | exact leaf_d (by (first | omega | ((try simp only [decide_eq_true_eq, decide_eq_false_iff_not, Bool.not_eq_true', Bool.not_eq_false'] at *); first | omega | (simp_all <;> fail) | (simp_all; omega)))))) <| Sub.nil _) rfl rfl
    ·
      try simp only [decide_eq_true_eq, decide_eq_false_iff_not, ne_eq, Decidable.not_not] at g53
      refine E.on rfl rfl (E.mv rfl rfl ?_)
      refine E.on rfl rfl (E.bin rfl rfl rfl rfl ?_)
      refine E.pick rfl rfl rfl <| E.mv rfl rfl <| ?_
      refine E.split 57 rfl (fun g57 => ?_) (fun g57 => ?_)
      ·
        try simp only [decide_eq_true_eq, decide_eq_false_iff_not, ne_eq, Decidable.not_not] at g57
        refine E.off rfl rfl rfl rfl <| E.off rfl rfl rfl rfl <| E.pick rfl rfl rfl <| E.mv rfl rfl <| E.off rfl rfl rfl rfl <| E.off rfl rfl rfl rfl <| E.pick rfl rfl rfl <| E.mv rfl rfl <| E.off rfl rfl rfl rfl <| E.off rfl rfl rfl rfl <| E.pick rfl rfl rfl <| E.mv rfl rfl <| E.off rfl rfl rfl rfl <| E.off rfl rfl rfl rfl <| E.pick rfl rfl rfl <| E.mv rfl rfl <| E.off rfl rfl rfl rfl <| E.off rfl rfl rfl rfl <| E.off rfl rfl rfl rfl <| E.pick rfl rfl rfl <| E.mv rfl rfl <| E.off rfl rfl rfl rfl <| E.off rfl rfl rfl rfl <| E.off rfl rfl rfl rfl <| E.pick rfl rfl rfl <| E.mv rfl rfl <| E.off rfl rfl rfl rfl <| E.off rfl rfl rfl rfl <| E.pick rfl rfl rfl <| E.mv rfl rfl <| E.off rfl rfl rfl rfl <| E.off rfl rfl rfl rfl <| E.pick rfl rfl rfl <| E.nil <| X.join0 (Sub.cons (by (first | exact leaf_f (by omega) | exact leaf_t (by omega) | exact leaf_d (by omega) | exact leaf_f (by first | (simp [*] <;> fail) | omega) | exact leaf_t (by first | (simp [*] <;> fail) | omega) | exact leaf_d (by first | (simp [*] <;> fail) | omega) | exact leaf_f (by (first | omega | ((try simp only [decide_eq_true_eq, decide_eq_false_iff_not, Bool.not_eq_true', Bool.not_eq_false'] at *); first | omega | (simp_all <;> fail) | (simp_all; omega)))) | exact leaf_t (by (first | omega | ((try simp only [decide_eq_true_eq, decide_eq_false_iff_not, Bool.not_eq_true', Bool.not_eq_false'] at *); first | omega | (simp_all <;> fail) | (simp_all; omega)))) | exact leaf_d (by (first | omega | ((try simp only [decide_eq_true_eq, decide_eq_false_iff_not, Bool.not_eq_true', Bool.not_eq_false'] at *); first | omega | (simp_all <;> fail) | (simp_all; omega)))))) <| Sub.nil _) rfl rfl
      ·
        try simp only [decide_eq_true_eq, decide_eq_false_iff_not, ne_eq, Decidable.not_not] at g57
        refine E.on rfl rfl (E.mv rfl rfl ?_)
        refine E.on rfl rfl (E.bin rfl rfl rfl rfl ?_)
        refine E.pick rfl rfl rfl <| E.mv rfl rfl <| ?_
        refine E.split 61 rfl (fun g61 => ?_) (fun g61 => ?_)
        ·
          try simp only [decide_eq_true_eq, decide_eq_false_iff_not, ne_eq, Decidable.not_not] at g61
          refine E.off rfl rfl rfl rfl <| E.off rfl rfl rfl rfl <| E.pick rfl rfl rfl <| E.mv rfl rfl <| E.off rfl rfl rfl rfl <| E.off rfl rfl rfl rfl <| E.pick rfl rfl rfl <| E.mv rfl rfl <| E.off rfl rfl rfl rfl <| E.off rfl rfl rfl rfl <| E.pick rfl rfl rfl <| E.mv rfl rfl <| E.off rfl rfl rfl rfl <| E.off rfl rfl rfl rfl <| E.off rfl rfl rfl rfl <| E.pick rfl rfl rfl <| E.mv rfl rfl <| E.off rfl rfl rfl rfl <| E.off rfl rfl rfl rfl <| E.off rfl rfl rfl rfl <| E.pick rfl rfl rfl <| E.mv rfl rfl <| E.off rfl rfl rfl rfl <| E.off rfl rfl rfl rfl <| E.pick rfl rfl rfl <| E.mv rfl rfl <| E.off rfl rfl rfl rfl <| E.off rfl rfl rfl rfl <| E.pick rfl rfl rfl <| E.nil <| X.join0 (Sub.cons (by (first | exact leaf_f (by omega) | exact leaf_t (by omega) | exact leaf_d (by omega) | exact leaf_f (by first | (simp [*] <;> fail) | omega) | exact leaf_t (by first | (simp [*] <;> fail) | omega) | exact leaf_d (by first | (simp [*] <;> fail) | omega) | exact leaf_f (by (first | omega | ((try simp only [decide_eq_true_eq, decide_eq_false_iff_not, Bool.not_eq_true', Bool.not_eq_false'] at *); first | omega | (simp_all <;> fail) | (simp_all; omega)))) | exact leaf_t (by (first | omega | ((try simp only [decide_eq_true_eq, decide_eq_false_iff_not, Bool.not_eq_true', Bool.not_eq_false'] at *); first | omega | (simp_all <;> fail) | (simp_all; omega)))) | exact leaf_d (by (first | omega | ((try simp only [decide_eq_true_eq, decide_eq_false_iff_not, Bool.not_eq_true', Bool.not_eq_false'] at *); first | omega | (simp_all <;> fail) | (simp_all; omega)))))) <| Sub.nil _) rfl rfl
        ·
          try simp only [decide_eq_true_eq, decide_eq_false_iff_not, ne_eq, Decidable.not_not] at g61
          refine E.on rfl rfl (E.mv rfl rfl ?_)
          refine E.on rfl rfl (E.bin rfl rfl rfl rfl ?_)
          refine E.pick rfl rfl rfl <| E.mv rfl rfl <| ?_
          refine E.split 65 rfl (fun g65 => ?_) (fun g65 => ?_)
          ·
            try simp only [decide_eq_true_eq, decide_eq_false_iff_not, ne_eq, Decidable.not_not] at g65
            refine E.off rfl rfl rfl rfl <| E.off rfl rfl rfl rfl <| E.pick rfl rfl rfl <| E.mv rfl rfl <| E.off rfl rfl rfl rfl <| E.off rfl rfl rfl rfl <| E.pick rfl rfl rfl <| E.mv rfl rfl <| E.off rfl rfl rfl rfl <| E.off rfl rfl rfl rfl <| E.off rfl rfl rfl rfl <| E.pick rfl rfl rfl <| E.mv rfl rfl <| E.off rfl rfl rfl rfl <| E.off rfl rfl rfl rfl <| E.off rfl rfl rfl rfl <| E.pick rfl rfl rfl <| E.mv rfl rfl <| E.off rfl rfl rfl rfl <| E.off rfl rfl rfl rfl <| E.pick rfl rfl rfl <| E.mv rfl rfl <| E.off rfl rfl rfl rfl <| E.off rfl rfl rfl rfl <| E.pick rfl rfl rfl <| E.nil <| X.join0 (Sub.cons (by (first | exact leaf_f (by omega) | exact leaf_t (by omega) | exact leaf_d (by omega) | exact leaf_f (by first | (simp [*] <;> fail) | omega) | exact leaf_t (by first | (simp [*] <;> fail) | omega) | exact leaf_d (by first | (simp [*] <;> fail) | omega) | exact leaf_f (by (first | omega | ((try simp only [decide_eq_true_eq, decide_eq_false_iff_not, Bool.not_eq_true', Bool.not_eq_false'] at *); first | omega | (simp_all <;> fail) | (simp_all; omega)))) | exact leaf_t (by (first | omega | ((try simp only [decide_eq_true_eq, decide_eq_false_iff_not, Bool.not_eq_true', Bool.not_eq_false'] at *); first | omega | (simp_all <;> fail) | (simp_all; omega)))) | exact leaf_d (by (first | omega | ((try simp only [decide_eq_true_eq, decide_eq_false_iff_not, Bool.not_eq_true', Bool.not_eq_false'] at *); first | omega | (simp_all <;> fail) | (simp_all; omega)))))) <| Sub.nil _) rfl rfl
          ·
            try simp only [decide_eq_true_eq, decide_eq_false_iff_not, ne_eq, Decidable.not_not] at g65
            refine E.on rfl rfl (E.mv rfl rfl ?_)
            refine E.on rfl rfl (E.bin rfl rfl rfl rfl ?_)
            refine E.pick rfl rfl rfl <| E.mv rfl rfl <| ?_
            refine E.split 69 rfl (fun g69 => ?_) (fun g69 => ?_)
            ·
              try simp only [decide_eq_true_eq, decide_eq_false_iff_not, ne_eq, Decidable.not_not] at g69
              refine E.off rfl rfl rfl rfl <| E.off rfl rfl rfl rfl <| E.pick rfl rfl rfl <| E.mv rfl rfl <| E.off rfl rfl rfl rfl <| E.off rfl rfl rfl rfl <| E.off rfl rfl rfl rfl <| E.pick rfl rfl rfl <| E.mv rfl rfl <| E.off rfl rfl rfl rfl <| E.off rfl rfl rfl rfl <| E.off rfl rfl rfl rfl <| E.pick rfl rfl rfl <| E.mv rfl rfl <| E.off rfl rfl rfl rfl <| E.off rfl rfl rfl rfl <| E.pick rfl rfl rfl <| E.mv rfl rfl <| E.off rfl rfl rfl rfl <| E.off rfl rfl rfl rfl <| E.pick rfl rfl rfl <| E.nil <| X.join0 (Sub.cons (by (first | exact leaf_f (by omega) | exact leaf_t (by omega) | exact leaf_d (by omega) | exact leaf_f (by first | (simp [*] <;> fail) | omega) | exact leaf_t (by first | (simp [*] <;> fail) | omega) | exact leaf_d (by first | (simp [*] <;> fail) | omega) | exact leaf_f (by (first | omega | ((try simp only [decide_eq_true_eq, decide_eq_false_iff_not, Bool.not_eq_true', Bool.not_eq_false'] at *); first | omega | (simp_all <;> fail) | (simp_all; omega)))) | exact leaf_t (by (first | omega | ((try simp only [decide_eq_true_eq, decide_eq_false_iff_not, Bool.not_eq_true', Bool.not_eq_false'] at *); first | omega | (simp_all <;> fail) | (simp_all; omega)))) | exact leaf_d (by (first | omega | ((try simp only [decide_eq_true_eq, decide_eq_false_iff_not, Bool.not_eq_true', Bool.not_eq_false'] at *); first | omega | (simp_all <;> fail) | (simp_all; omega)))))) <| Sub.nil _) rfl rfl
            ·
              try simp only [decide_eq_true_eq, decide_eq_false_iff_not, ne_eq, Decidable.not_not] at g69
              refine E.on rfl rfl (E.mv rfl rfl ?_)
              refine E.on rfl rfl (E.bin rfl rfl rfl rfl ?_)
              refine E.pick rfl rfl rfl <| E.mv rfl rfl <| ?_
              refine E.split 73 rfl (fun g73 => ?_) (fun g73 => ?_)
              ·
                try simp only [decide_eq_true_eq, decide_eq_false_iff_not, ne_eq, Decidable.not_not] at g73
                refine E.off rfl rfl rfl rfl <| E.off rfl rfl rfl rfl <| E.off rfl rfl rfl rfl <| E.pick rfl rfl rfl <| E.mv rfl rfl <| E.off rfl rfl rfl rfl <| E.off rfl rfl rfl rfl <| E.off rfl rfl rfl rfl <| E.pick rfl rfl rfl <| E.mv rfl rfl <| E.off rfl rfl rfl rfl <| E.off rfl rfl rfl rfl <| E.pick rfl rfl rfl <| E.mv rfl rfl <| E.off rfl rfl rfl rfl <| E.off rfl rfl rfl rfl <| E.pick rfl rfl rfl <| E.nil <| X.join0 (Sub.cons (by (first | exact leaf_f (by omega) | exact leaf_t (by omega) | exact leaf_d (by omega) | exact leaf_f (by first | (simp [*] <;> fail) | omega) | exact leaf_t (by first | (simp [*] <;> fail) | omega) | exact leaf_d (by first | (simp [*] <;> fail) | omega) | exact leaf_f (by (first | omega | ((try simp only [decide_eq_true_eq, decide_eq_false_iff_not, Bool.not_eq_true', Bool.not_eq_false'] at *); first | omega | (simp_all <;> fail) | (simp_all; omega)))) | exact leaf_t (by (first | omega | ((try simp only [decide_eq_true_eq, decide_eq_false_iff_not, Bool.not_eq_true', Bool.not_eq_false'] at *); first | omega | (simp_all <;> fail) | (simp_all; omega)))) | exact leaf_d (by (first | omega | ((try simp only [decide_eq_true_eq, decide_eq_false_iff_not, Bool.not_eq_true', Bool.not_eq_false'] at *); first | omega | (simp_all <;> fail) | (simp_all; omega)))))) <| Sub.nil _) rfl rfl
              ·
                try simp only [decide_eq_true_eq, decide_eq_false_iff_not, ne_eq, Decidable.not_not] at g73
                refine E.on rfl rfl (E.mv rfl rfl ?_)
                refine E.on rfl rfl (E.lenv rfl (RdF.shape (by first | exact hM.slF 0 rfl | exact hM.slF 1 rfl | exact hM.slF 2 rfl | exact hM.slF 3 rfl | exact hM.slF 4 rfl | exact hM.slF 5 rfl | exact hM.slF 6 rfl | exact hM.slF 7 rfl | exact hM.slF 8 rfl | exact hM.slF 9 rfl | exact hM.slF 10 rfl | exact hM.slF 11 rfl | exact hM.slF 12 rfl | exact hM.slF 13 rfl | exact hM.argF0 (by assumption) | exact hM.argF (by assumption) (by assumption) | assumption)) Try.underlying28 rfl ?_)
                refine E.on rfl rfl (E.bin rfl rfl rfl rfl ?_)
                refine E.pick rfl rfl rfl <| E.mv rfl rfl <| ?_
                refine E.split 78 rfl (fun g78 => ?_) (fun g78 => ?_)
                ·
                  try simp only [decide_eq_true_eq, decide_eq_false_iff_not, ne_eq, Decidable.not_not] at g78
                  refine E.off rfl rfl rfl rfl <| E.off rfl rfl rfl rfl <| E.off rfl rfl rfl rfl <| E.pick rfl rfl rfl <| E.mv rfl rfl <| E.off rfl rfl rfl rfl <| E.off rfl rfl rfl rfl <| E.pick rfl rfl rfl <| E.mv rfl rfl <| E.off rfl rfl rfl rfl <| E.off rfl rfl rfl rfl <| E.pick rfl rfl rfl <| E.nil <| X.join0 (Sub.cons (by (first | exact leaf_f (by omega) | exact leaf_t (by omega) | exact leaf_d (by omega) | exact leaf_f (by first | (simp [*] <;> fail) | omega) | exact leaf_t (by first | (simp [*] <;> fail) | omega) | exact leaf_d (by first | (simp [*] <;> fail) | omega) | exact leaf_f (by (first | omega | ((try simp only [decide_eq_true_eq, decide_eq_false_iff_not, Bool.not_eq_true', Bool.not_eq_false'] at *); first | omega | (simp_all <;> fail) | (simp_all; omega)))) | exact leaf_t (by (first | omega | ((try simp only [decide_eq_true_eq, decide_eq_false_iff_not, Bool.not_eq_true', Bool.not_eq_false'] at *); first | omega | (simp_all <;> fail) | (simp_all; omega)))) | exact leaf_d (by (first | omega | ((try simp only [decide_eq_true_eq, decide_eq_false_iff_not, Bool.not_eq_true', Bool.not_eq_false'] at *); first | omega | (simp_all <;> fail) | (simp_all; omega)))))) <| Sub.nil _) rfl rfl
                ·
                  try simp only [decide_eq_true_eq, decide_eq_false_iff_not, ne_eq, Decidable.not_not] at g78
                  refine E.on rfl rfl (E.mv rfl rfl ?_)
                  refine E.on rfl rfl (E.lenv rfl (RdF.shape (by first | exact hM.slF 0 rfl | exact hM.slF 1 rfl | exact hM.slF 2 rfl | exact hM.slF 3 rfl | exact hM.slF 4 rfl | exact hM.slF 5 rfl | exact hM.slF 6 rfl | exact hM.slF 7 rfl | exact hM.slF 8 rfl | exact hM.slF 9 rfl | exact hM.slF 10 rfl | exact hM.slF 11 rfl | exact hM.slF 12 rfl | exact hM.slF 13 rfl | exact hM.argF0 (by assumption) | exact hM.argF (by assumption) (by assumption) | assumption)) Try.underlying28 rfl ?_)
                  refine E.on rfl rfl (E.bin rfl rfl rfl rfl ?_)
                  refine E.pick rfl rfl rfl <| E.mv rfl rfl <| ?_
                  refine E.split 83 rfl (fun g83 => ?_) (fun g83 => ?_)
                  ·
                    try simp only [decide_eq_true_eq, decide_eq_false_iff_not, ne_eq, Decidable.not_not] at g83
                    refine E.off rfl rfl rfl rfl <| E.off rfl rfl rfl rfl <| E.pick rfl rfl rfl <| E.mv rfl rfl <| E.off rfl rfl rfl rfl <| E.off rfl rfl rfl rfl <| E.pick rfl rfl rfl <| E.nil <| X.join0 (Sub.cons (by (first | exact leaf_f (by omega) | exact leaf_t (by omega) | exact leaf_d (by omega) | exact leaf_f (by first | (simp [*] <;> fail) | omega) | exact leaf_t (by first | (simp [*] <;> fail) | omega) | exact leaf_d (by first | (simp [*] <;> fail) | omega) | exact leaf_f (by (first | omega | ((try simp only [decide_eq_true_eq, decide_eq_false_iff_not, Bool.not_eq_true', Bool.not_eq_false'] at *); first | omega | (simp_all <;> fail) | (simp_all; omega)))) | exact leaf_t (by (first | omega | ((try simp only [decide_eq_true_eq, decide_eq_false_iff_not, Bool.not_eq_true', Bool.not_eq_false'] at *); first | omega | (simp_all <;> fail) | (simp_all; omega)))) | exact leaf_d (by (first | omega | ((try simp only [decide_eq_true_eq, decide_eq_false_iff_not, Bool.not_eq_true', Bool.not_eq_false'] at *); first | omega | (simp_all <;> fail) | (simp_all; omega)))))) <| Sub.nil _) rfl rfl
                  ·
                    try simp only [decide_eq_true_eq, decide_eq_false_iff_not, ne_eq, Decidable.not_not] at g83
                    refine E.on rfl rfl (E.mv rfl rfl ?_)
                    refine E.on rfl rfl (E.bin rfl rfl rfl rfl ?_)
                    refine E.pick rfl rfl rfl <| E.mv rfl rfl <| ?_
                    refine E.split 87 rfl (fun g87 => ?_) (fun g87 => ?_)
                    ·
                      try simp only [decide_eq_true_eq, decide_eq_false_iff_not, ne_eq, Decidable.not_not] at g87
                      refine E.off rfl rfl rfl rfl <| E.off rfl rfl rfl rfl <| E.pick rfl rfl rfl <| E.nil <| X.join0 (Sub.cons (by (first | exact leaf_f (by omega) | exact leaf_t (by omega) | exact leaf_d (by omega) | exact leaf_f (by first | (simp [*] <;> fail) | omega) | exact leaf_t (by first | (simp [*] <;> fail) | omega) | exact leaf_d (by first | (simp [*] <;> fail) | omega) | exact leaf_f (by (first | omega | ((try simp only [decide_eq_true_eq, decide_eq_false_iff_not, Bool.not_eq_true', Bool.not_eq_false'] at *); first | omega | (simp_all <;> fail) | (simp_all; omega)))) | exact leaf_t (by (first | omega | ((try simp only [decide_eq_true_eq, decide_eq_false_iff_not, Bool.not_eq_true', Bool.not_eq_false'] at *); first | omega | (simp_all <;> fail) | (simp_all; omega)))) | exact leaf_d (by (first | omega | ((try simp only [decide_eq_true_eq, decide_eq_false_iff_not, Bool.not_eq_true', Bool.not_eq_false'] at *); first | omega | (simp_all <;> fail) | (simp_all; omega)))))) <| Sub.nil _) rfl rfl
                    ·
                      try simp only [decide_eq_true_eq, decide_eq_false_iff_not, ne_eq, Decidable.not_not] at g87
                      refine E.on rfl rfl (E.mv rfl rfl ?_)
                      refine E.on rfl rfl (E.bin rfl rfl rfl rfl ?_)
                      refine E.pick rfl rfl rfl <| E.nil <| X.join0 (Sub.cons (by (first | exact leaf_f (by omega) | exact leaf_t (by omega) | exact leaf_d (by omega) | exact leaf_f (by first | (simp [*] <;> fail) | omega) | exact leaf_t (by first | (simp [*] <;> fail) | omega) | exact leaf_d (by first | (simp [*] <;> fail) | omega) | exact leaf_f (by (first | omega | ((try simp only [decide_eq_true_eq, decide_eq_false_iff_not, Bool.not_eq_true', Bool.not_eq_false'] at *); first | omega | (simp_all <;> fail) | (simp_all; omega)))) | exact leaf_t (by (first | omega | ((try simp only [decide_eq_true_eq, decide_eq_false_iff_not, Bool.not_eq_true', Bool.not_eq_false'] at *); first | omega | (simp_all <;> fail) | (simp_all; omega)))) | exact leaf_d (by (first | omega | ((try simp only [decide_eq_true_eq, decide_eq_false_iff_not, Bool.not_eq_true', Bool.not_eq_false'] at *); first | omega | (simp_all <;> fail) | (simp_all; omega)))))) <| Sub.nil _) rfl rfl
  refine C.cond' rfl (fun hC0 => ?_) (fun hC0 => ?_)
  ·
    refine C.seq <| C.region <| E.asg rfl rfl <| E.nil <| X.next <| C.ret <| X.retT <| ret1 rfl rfl ?_
    exact hC0.elim
  ·
    refine C.skip <| X.next <| ?_

    refine C.cut0 [] rfl [(0, .bool true)] (fun w' => M w (Nn) w' []) ?_ ?_
    ·
      refine C.heldE (by kernel_rfl) fun wh16 hwh16 _ => ?_
      have hS := hwh16
      have hM0 := hM
      have hM := M.ofExt hwh16
      refine H.take 0 rfl rfl (by kernel_rfl) (by kernel_rfl) (by kernel_rfl) hS (fun w' hS => by have hM := hM0.ext hS; exact Y.mv rfl) rfl ?_
      refine H.takeV 1 rfl rfl (by kernel_rfl) (by kernel_rfl) (by kernel_rfl) hS (Y.idxF (k := 0) rfl rfl (by first | exact (hM0.ext hS).slF 0 rfl | exact (hM0.ext hS).slF 1 rfl | exact (hM0.ext hS).slF 2 rfl | exact (hM0.ext hS).slF 3 rfl | exact (hM0.ext hS).slF 4 rfl | exact (hM0.ext hS).slF 5 rfl | exact (hM0.ext hS).slF 6 rfl | exact (hM0.ext hS).slF 7 rfl | exact (hM0.ext hS).slF 8 rfl | exact (hM0.ext hS).slF 9 rfl | exact (hM0.ext hS).slF 10 rfl | exact (hM0.ext hS).slF 11 rfl | exact (hM0.ext hS).slF 12 rfl | exact (hM0.ext hS).slF 13 rfl | exact (hM0.ext hS).argF0 (by assumption) | exact (hM0.ext hS).argF (by assumption) (by assumption) | assumption) rfl (by first | omega | (simp only [List.length_replicate, List.length_append, List.length_set, List.length_cons, List.length_nil, List.length_map, List.length_range, List.length_take, List.length_drop, List.length_zipWith] at *; omega)) (by decide) Try.underlying28 (by kernel_rfl)) (fun w' hS => by have hM := hM0.ext hS; exact Y.idxF (k := 0) rfl rfl (by first | exact hM.slF 0 rfl | exact hM.slF 1 rfl | exact hM.slF 2 rfl | exact hM.slF 3 rfl | exact hM.slF 4 rfl | exact hM.slF 5 rfl | exact hM.slF 6 rfl | exact hM.slF 7 rfl | exact hM.slF 8 rfl | exact hM.slF 9 rfl | exact hM.slF 10 rfl | exact hM.slF 11 rfl | exact hM.slF 12 rfl | exact hM.slF 13 rfl | exact hM.argF0 (by assumption) | exact hM.argF (by assumption) (by assumption) | assumption) rfl (by first | omega | (simp only [List.length_replicate, List.length_append, List.length_set, List.length_cons, List.length_nil, List.length_map, List.length_range, List.length_take, List.length_drop, List.length_zipWith] at *; omega)) (by decide) Try.underlying28 (by kernel_rfl)) rfl ?_
      refine H.take 3 rfl rfl (by kernel_rfl) (by kernel_rfl) (by kernel_rfl) hS (fun w' hS => by have hM := hM0.ext hS; exact Y.buildC (cs := [_, _, _, _]) [.int .i64 0, .int .i64 0, .int .i64 0, .int .i64 0] [2, 3] rfl rfl (by kernel_rfl)) rfl ?_
      refine H.take 4 rfl rfl (by kernel_rfl) (by kernel_rfl) (by kernel_rfl) hS (fun w' hS => by have hM := hM0.ext hS; exact Y.buildC (cs := [_, _, _, _, _, _, _]) [.int .i64 0, .int .i64 0, .int .i64 0, .int .i64 0, .int .i64 0, .int .i64 0, .int .i64 0] [0, 4] rfl rfl (by kernel_rfl)) rfl ?_
      refine H.only 2 rfl (by kernel_rfl) ?_
      refine E.loadA rfl Try.underlying38 rfl (by kernel_rfl) ((hM0.ext hM.toExt).slF 5 rfl |>.all (k := 0) (by decide)) rfl ?_
      have hS := hM.toExt
      refine H.back hS ?_
      refine H.take 5 rfl rfl (by kernel_rfl) (by kernel_rfl) (by kernel_rfl) hS (fun w' hS => by have hM := hM0.ext hS; exact Y.eqA [0, 0, 3, 3, 5, 0, 0] [0, 0, 3, 3, 5, 0, 0] eqT_Tapi_Blob rfl rfl rfl rfl) rfl ?_
      refine H.take 6 rfl rfl (by kernel_rfl) (by kernel_rfl) (by kernel_rfl) hS (fun w' hS => by have hM := hM0.ext hS; exact Y.mv rfl) rfl ?_
      refine H.split 97 rfl (fun g97 => ?_) (fun g97 => ?_)
      ·
        try simp only [decide_eq_true_eq, decide_eq_false_iff_not, ne_eq, Decidable.not_not] at g97
        refine H.takeV 7 rfl rfl (by kernel_rfl) (by kernel_rfl) (by kernel_rfl) hS (Y.on rfl rfl (Y.loadA rfl Try.underlying24 rfl (by kernel_rfl) (by first | exact (hM0.ext hS).bat 0 rfl | exact (hM0.ext hS).bat 1 rfl | exact (hM0.ext hS).bat 2 rfl | exact (hM0.ext hS).bat 3 rfl | exact (hM0.ext hS).bat 4 rfl | exact (hM0.ext hS).bat 5 rfl | exact (hM0.ext hS).bat 6 rfl | exact (hM0.ext hS).bat 7 rfl | exact (hM0.ext hS).bat 8 rfl | exact (hM0.ext hS).bat 9 rfl | exact (hM0.ext hS).bat 10 rfl | exact (hM0.ext hS).bat 11 rfl | exact (hM0.ext hS).bat 12 rfl | exact (hM0.ext hS).bat 13 rfl))) (fun w' hS => by have hM := hM0.ext hS; exact Y.on rfl rfl (Y.loadA rfl Try.underlying24 rfl (by kernel_rfl) (by first | exact hM.bat 0 rfl | exact hM.bat 1 rfl | exact hM.bat 2 rfl | exact hM.bat 3 rfl | exact hM.bat 4 rfl | exact hM.bat 5 rfl | exact hM.bat 6 rfl | exact hM.bat 7 rfl | exact hM.bat 8 rfl | exact hM.bat 9 rfl | exact hM.bat 10 rfl | exact hM.bat 11 rfl | exact hM.bat 12 rfl | exact hM.bat 13 rfl))) rfl ?_
        refine H.only 8 rfl (by kernel_rfl) ?_
        refine E.on rfl rfl (E.call rfl rfl (bitmap_ret 3 3 _ _ (by decide)) ?_)
        rintro _ w20 ⟨vx, rfl, m⟩
        rw [bmp_full] at m
        have hM := hM.call m
        try dsimp only [List.nil_append, List.cons_append, List.set_cons_zero, List.set_cons_succ, repl] at hM
        have hS := hM.toExt
        refine H.back hS ?_
        refine H.only 9 rfl (by kernel_rfl) ?_
        refine E.on rfl rfl (E.call rfl rfl (Equal_ret 3 3 3 3 vf vx _ _ _ ((hM0.ext hM.toExt).sl 8 rfl) (hM.sl 0 rfl)) ?_)
        rintro _ w21 ⟨rfl, x21⟩
        have hM := hM.ext x21
        rw [decide_eq_true ⟨rfl, rfl, fill_ring⟩]
        try dsimp only [List.nil_append, List.cons_append, List.set_cons_zero, List.set_cons_succ, repl] at hM
        have hS := hM.toExt
        refine H.back hS ?_
        refine H.take 10 rfl rfl (by kernel_rfl) (by kernel_rfl) (by kernel_rfl) hS (fun w' hS => by have hM := hM0.ext hS; exact Y.pick rfl rfl) rfl ?_
        refine H.take 11 rfl rfl (by kernel_rfl) (by kernel_rfl) (by kernel_rfl) hS (fun w' hS => by have hM := hM0.ext hS; exact Y.mv rfl) rfl ?_
        refine H.split 102 rfl (fun g102 => ?_) (fun g102 => ?_)
        ·
          try simp only [decide_eq_true_eq, decide_eq_false_iff_not, ne_eq, Decidable.not_not] at g102
          refine H.takeV 12 rfl rfl (by kernel_rfl) (by kernel_rfl) (by kernel_rfl) hS (Y.on rfl rfl (Y.loadA rfl Try.underlying24 rfl (by kernel_rfl) (by first | exact (hM0.ext hS).bat 0 rfl | exact (hM0.ext hS).bat 1 rfl | exact (hM0.ext hS).bat 2 rfl | exact (hM0.ext hS).bat 3 rfl | exact (hM0.ext hS).bat 4 rfl | exact (hM0.ext hS).bat 5 rfl | exact (hM0.ext hS).bat 6 rfl | exact (hM0.ext hS).bat 7 rfl | exact (hM0.ext hS).bat 8 rfl | exact (hM0.ext hS).bat 9 rfl | exact (hM0.ext hS).bat 10 rfl | exact (hM0.ext hS).bat 11 rfl | exact (hM0.ext hS).bat 12 rfl | exact (hM0.ext hS).bat 13 rfl))) (fun w' hS => by have hM := hM0.ext hS; exact Y.on rfl rfl (Y.loadA rfl Try.underlying24 rfl (by kernel_rfl) (by first | exact hM.bat 0 rfl | exact hM.bat 1 rfl | exact hM.bat 2 rfl | exact hM.bat 3 rfl | exact hM.bat 4 rfl | exact hM.bat 5 rfl | exact hM.bat 6 rfl | exact hM.bat 7 rfl | exact hM.bat 8 rfl | exact hM.bat 9 rfl | exact hM.bat 10 rfl | exact hM.bat 11 rfl | exact hM.bat 12 rfl | exact hM.bat 13 rfl))) rfl ?_
          refine H.only 13 rfl (by kernel_rfl) ?_
          refine E.on rfl rfl (E.call rfl rfl (bitmap_ret 3 3 _ _ (by decide)) ?_)
          rintro _ w22 ⟨vy, rfl, m⟩
          rw [bmp_none] at m
          have hM := hM.call m
          try dsimp only [List.nil_append, List.cons_append, List.set_cons_zero, List.set_cons_succ, repl] at hM
          have hS := hM.toExt
          refine H.back hS ?_
          refine H.only 14 rfl (by kernel_rfl) ?_
          refine E.on rfl rfl (E.call rfl rfl (Equal_ret 3 3 3 3 vn vy _ _ _ ((hM0.ext hM.toExt).sl 10 rfl) (hM.sl 1 rfl)) ?_)
          rintro _ w23 ⟨rfl, x23⟩
          have hM := hM.ext x23
          rw [decide_eq_true ⟨rfl, rfl, rfl⟩]
          try dsimp only [List.nil_append, List.cons_append, List.set_cons_zero, List.set_cons_succ, repl] at hM
          have hS := hM.toExt
          refine H.back hS ?_
          refine H.take 15 rfl rfl (by kernel_rfl) (by kernel_rfl) (by kernel_rfl) hS (fun w' hS => by have hM := hM0.ext hS; exact Y.pick rfl rfl) rfl ?_
          refine H.take 16 rfl rfl (by kernel_rfl) (by kernel_rfl) (by kernel_rfl) hS (fun w' hS => by have hM := hM0.ext hS; exact Y.asg rfl) rfl ?_
          refine H.done (by kernel_rfl) ?_
          have hM := hM0.call hM

          refine X.join0  (Sub.cons rfl <| Sub.nil _) rfl (hM.pick [] (by decide))
        ·
          try simp only [decide_eq_true_eq, decide_eq_false_iff_not, ne_eq, Decidable.not_not] at g102
          exact absurd g102 (by decide)
      ·
        try simp only [decide_eq_true_eq, decide_eq_false_iff_not, ne_eq, Decidable.not_not] at g97
        exact absurd g97 (by decide)
    rintro  w21 hM
    refine C.ret <| ret1 rfl rfl ?_
    exact ⟨rfl, hM.toExt⟩

end Go.Proofs.Ytnnmebpahickhaa
