/- PrefixOptimal. -/
import Derived.Test.YtdcgmkoonanpgaaPf32
import Derived.Test.YtdcgmkoonanpgaaPf14
namespace Go.Proofs.Ytdcgmkoonanpgaa
set_option linter.unusedSimpArgs false
set_option linter.unusedVariables false
open Go.RowKit Sym

theorem nz_lt {l : List Nat} {i : Nat} (h : i < l.length) : i < (nz l).length := by rw [nz_len]; exact h
theorem gd {l : List Nat} {i : Nat} (h : i < l.length) : l.getD i 0 = l[i] := by rw [List.getD_eq_getElem?_getD, List.getElem?_eq_getElem h]; rfl
theorem toN_of (l : List Nat) : toN (nz l) = l := by rw [toN, nz, List.map_map]; exact (List.map_congr_left fun x _ => Int.toNat_natCast x).trans (List.map_id _)
theorem okr_nz {l : List Nat} {m : Nat} (h : ∀ n ∈ l, n ≤ m) : okr (nz l) (m : Int) = true := by
  rw [okr_iff]; intro z hz
  obtain ⟨n, hn, rfl⟩ := List.mem_map.1 hz
  have := h n hn; omega
theorem csv_nz {fs L : List Nat} (h1 : ∀ f ∈ fs, f ≤ 1099511627776) (h2 : ∀ n ∈ L, n ≤ 30) (h3 : L.length = fs.length) (h4 : fs.length ≤ 4096) : csv (nz fs) (nz L) = ((cst fs L : Int), 0) := by
  unfold csv
  rw [if_neg (by rw [nz_len, nz_len]; omega), if_neg (fun c => c ⟨okr_nz (m := 1099511627776) h1, okr_nz (m := 30) h2⟩), if_neg (by rw [nz_len, nz_len]; omega), dot_cst h3]
theorem chv_nz {L : List Nat} (h2 : ∀ n ∈ L, n ≤ 30) (h4 : L.length ≤ 4096) (hk : Pf.kr L = 2 ^ 30) : chv (nz L) = 0 := by
  unfold chv
  rw [if_neg (by rw [nz_len]; omega), if_pos (show okr (nz L) 30 = true from okr_nz (m := 30) h2), toN_of, hk]; decide
def us (fs : List Nat) (i : Nat) : Nat := ((List.range i).filter fun s => decide (0 < fs.getD s 0)).length
theorem us_succ (fs : List Nat) (i : Nat) : us fs (i + 1) = us fs i + if 0 < fs.getD i 0 then 1 else 0 := by
  unfold us
  rw [List.range_succ, List.filter_append, List.length_append, List.filter_cons]
  by_cases h : 0 < fs.getD i 0
  · rw [if_pos h, if_pos (decide_eq_true h)]; rfl
  · rw [if_neg h, if_neg (by rw [decide_eq_true_eq]; exact h)]; rfl
theorem us_le (fs : List Nat) (i : Nat) : us fs i ≤ i := by
  have := List.length_filter_le (fun s => decide (0 < fs.getD s 0)) (List.range i)
  simpa [us] using this
set_option maxHeartbeats 4000000 in
theorem PrefixOptimal_ret (p : Value) (zs : List Int) (x : Int) (q : Value) (os : List Int) (w : World) (ha : RdL i64 w p zs) (ho : RdL i64 w q os) :
    Ret Try.prog 11 #[p, i64 x, q] w fun v w' => v = .bool true ∧ Ext w w' := by
  have hM := M.start w
  refine enter Try.func11 rfl (by kernel_rfl) Try.ntmps11 rfl ?_
  refine C.seq <| C.region <| E.asg rfl rfl <| E.nil <| X.next <| C.seq <| C.seq <| C.region <| E.mv rfl rfl <| ?_
  refine E.lenv rfl (Rd.shape (hM.arg0 ha)) Try.underlying67 rfl ?_
  refine E.bin rfl rfl rfl rfl <| E.nil <| X.next <| ?_
  refine C.cond' rfl (fun hC0 => ?_) (fun hC0 => ?_)
  ·
    refine C.seq <| C.region <| ?_
    refine E.call rfl rfl (alive_ret _) ?_
    rintro _ wz ⟨rfl, xz⟩
    have hM := hM.ext xz
    try dsimp only [List.nil_append, List.cons_append, List.set_cons_zero, List.set_cons_succ, repl] at hM
    refine E.asg rfl rfl <| E.nil <| X.next <| C.ret <| X.retT <| ret1 rfl rfl ?_
    exact ⟨rfl, hM.toExt⟩
  ·
    refine C.skip <| X.next <| C.seq <| C.region <| E.mv rfl rfl <| E.mv rfl rfl <| ?_
    refine E.call rfl rfl (Lengths_ret p zs x _ (hM.arg0 ha)) ?_
    rintro _ w1 ⟨v24, rfl, m⟩
    have hM := hM.call m
    try dsimp only [List.nil_append, List.cons_append, List.set_cons_zero, List.set_cons_succ, repl] at hM
    refine E.mv rfl rfl <| E.ext rfl rfl rfl <| E.ext rfl rfl rfl <| E.asg rfl rfl <| E.asg rfl rfl <| E.nil <| X.next <| C.seq <| C.seq <| C.region <| E.mv rfl rfl <| E.bin rfl rfl rfl rfl <| E.nil <| X.next <| ?_
    refine C.cond' rfl (fun hC1 => ?_) (fun hC1 => ?_)
    ·
      have hle := lnv_err hC1
      rw [hle] at hM

      refine C.cut0 [] rfl [(6, .bool true)] (fun w' => M w (Nn) w' []) ?_ ?_
      ·
        refine C.region <| E.mv rfl rfl <| ?_
        refine E.lenv rfl (Rd.shape (hM.sl 0 rfl)) Try.underlying67 rfl ?_
        refine E.bin rfl rfl rfl rfl <| E.mv rfl rfl <| ?_
        refine E.split 32 rfl (fun g32 => ?_) (fun g32 => ?_)
        ·
          try simp only [decide_eq_true_eq, decide_eq_false_iff_not, ne_eq, Decidable.not_not, Bool.not_eq_true', Bool.not_eq_false'] at g32
          refine E.on rfl rfl (E.call rfl rfl (alive_ret _) ?_)
          rintro _ wz ⟨rfl, xz⟩
          have hM := hM.ext xz
          try dsimp only [List.nil_append, List.cons_append, List.set_cons_zero, List.set_cons_succ, repl] at hM

          refine E.pick rfl rfl rfl <| E.asg rfl rfl <| E.nil <| X.join0  (Sub.cons rfl <| Sub.nil _) rfl (hM.pick [] (by decide))
        ·
          try simp only [decide_eq_true_eq, decide_eq_false_iff_not, ne_eq, Decidable.not_not, Bool.not_eq_true', Bool.not_eq_false'] at g32
          exact (g32 rfl).elim
      rintro  w3 hM
      refine C.ret <| X.retT <| ret1 rfl rfl ?_
      exact ⟨rfl, hM.toExt⟩
    ·
      obtain ⟨fs, mo, hz, rfl, hm1, hm2, hfb, hcap, hl4, hok, hle⟩ := lnv_fine (Decidable.not_not.1 hC1)
      subst hz
      obtain ⟨L, hL, hLl, hLs, hk2, hk1, hopt⟩ := lens_law hm1 hm2 _ rfl hcap
      rw [hle, hL] at hM
      have hr : RdL i64 w p (nz fs) := ha
      have hn1 := nz_len fs
      have hn2 := nz_len L
      have hLm : ∀ n ∈ L, n ≤ mo := fun n hn => by
        obtain ⟨i, hi, rfl⟩ := List.getElem_of_mem hn
        have := (hLs i (by omega)).2
        rw [gd hi] at this; exact this
      have hL30 : ∀ n ∈ L, n ≤ 30 := fun n hn => Nat.le_trans (hLm n hn) hm2
      have huN := used_all fs
      refine C.skip <| X.next <| C.seq <| C.region <| E.asg rfl rfl <| E.nil <| X.next <| C.seq <| C.seq <| C.region <| E.mv rfl rfl <| ?_
      refine E.lenv rfl (Rd.shape (hM.sl 0 rfl)) Try.underlying67 rfl ?_
      rw [nz_len]
      refine E.mv rfl rfl <| ?_
      refine E.lenv rfl (Rd.shape (hM.arg0 hr)) Try.underlying67 rfl ?_
      rw [nz_len]
      refine E.bin rfl rfl rfl rfl <| E.nil <| X.next <| ?_
      refine C.cond' rfl (fun hC2 => ?_) (fun hC2 => ?_)
      ·
        omega
      ·
        refine C.skip <| X.next <| C.seq <| C.seq <| C.region <| E.mv rfl rfl <| ?_
        refine E.lenv rfl (Rd.shape (hM.sl 0 rfl)) Try.underlying67 rfl ?_
        rw [nz_len]
        refine E.mv rfl rfl <| E.nil <| X.next <| C.block <| ?_

        refine C.loop1 [(0, _), (1, _), (2, _), (7, _), (41, _)] rfl (fun (i : Nat) => [(9, i64 (us fs i : Int)), (42, i64 i)]) (fun (i : Nat) w' => M w (Nn) w' [Rg.sl i64 3 v24 (nz L)] ∧ i ≤ L.length) (fun (i : Nat) => L.length - i) 0 ?_ ?_ ?_
        · exact Sub.cons rfl <| Sub.cons rfl <| Sub.nil _
        · exact ⟨hM, Nat.zero_le _⟩
        rintro i w4 ⟨hM, hi⟩
        refine C.seq <| C.region <| E.bin rfl rfl rfl rfl <| E.nil <| X.next <| C.seq <| ?_
        refine C.cond' rfl (fun hC3 => ?_) (fun hC3 => ?_)
        ·
          have hi' : i < L.length := by omega
          have hif : i < fs.length := by omega
          have hs := hLs i hif
          rw [gd hi', gd hif] at hs
          have hsu := us_succ fs i
          rw [gd hif] at hsu
          have hul := us_le fs i
          refine C.skip <| X.next <| ?_

          refine C.cut0 [(0, _), (1, _), (2, _), (7, _), (41, _), (42, _)] rfl [(9, i64 (us fs (i + 1) : Int))] (fun w' => M w (Nn) w' [Rg.sl i64 3 v24 (nz L)]) ?_ ?_
          ·
            refine C.block <| C.seq <| C.region <| E.mv rfl rfl <| E.asg rfl rfl <| E.nil <| X.next <| C.seq <| ?_

            refine C.chainQ [(0, _), (1, _), (2, _), (7, _), (9, _), (10, _), (41, _), (42, _)] rfl [(70, .bool (decide False))] ?_ ?_
            ·
              refine C.drawn (by kernel_rfl) (by kernel_rfl) <| Q.mv rfl rfl <| Q.mv rfl rfl <| ?_
              refine Q.idx1 (k := i) rfl rfl (hM.sl 0 rfl) rfl (nz_lt (by omega)) Try.underlying67 (by kernel_rfl) rfl ?_
              refine Q.load rfl Try.underlying3 rfl ((hM.sl 0 rfl).cell (nz_lt (by omega))) rfl ?_
              rw [nz_get (by omega)]
              refine Q.bin rfl rfl rfl rfl <| Q.mv rfl rfl <| Q.mv rfl rfl <| ?_
              refine Q.idx1 (k := i) rfl rfl (hM.arg0 hr) rfl (nz_lt (by omega)) Try.underlying67 (by kernel_rfl) rfl ?_
              refine Q.load rfl Try.underlying3 rfl ((hM.arg0 hr).cell (nz_lt (by omega))) rfl ?_
              rw [nz_get (by omega)]
              refine Q.bin rfl rfl rfl rfl <| Q.neb rfl rfl Try.underlying4 rfl <| Q.mv rfl rfl <| ?_
              refine Q.split 56 rfl (fun g56 => ?_) (fun g56 => ?_)
              ·
                try simp only [decide_eq_true_eq, decide_eq_false_iff_not, ne_eq, Decidable.not_not, Bool.not_eq_true', Bool.not_eq_false'] at g56
                (exfalso; have e : decide ((0 : Int) < (L[i] : Int)) = decide ((0 : Int) < (fs[i] : Int)) := decide_eq_decide.2 (by omega); rw [e, beq_self_eq_true] at g56; cases g56)
              ·
                try simp only [decide_eq_true_eq, decide_eq_false_iff_not, ne_eq, Decidable.not_not, Bool.not_eq_true', Bool.not_eq_false'] at g56
                refine Q.on rfl rfl (Q.mv rfl rfl ?_)
                refine Q.on rfl rfl (Q.mv rfl rfl ?_)
                refine Q.on rfl rfl (Q.idx1 (k := i) rfl rfl (hM.sl 0 rfl) rfl (nz_lt (by omega)) Try.underlying67 (by kernel_rfl) rfl ?_)
                refine Q.on rfl rfl (Q.load rfl Try.underlying3 rfl ((hM.sl 0 rfl).cell (nz_lt (by omega))) rfl ?_)
                rw [nz_get (by omega)]
                refine Q.on rfl rfl (Q.bin rfl rfl rfl rfl ?_)
                refine Q.pick rfl rfl rfl <| Q.mv rfl rfl <| ?_
                refine Q.split 63 rfl (fun g63 => ?_) (fun g63 => ?_)
                ·
                  try simp only [decide_eq_true_eq, decide_eq_false_iff_not, ne_eq, Decidable.not_not, Bool.not_eq_true', Bool.not_eq_false'] at g63
                  omega
                ·
                  try simp only [decide_eq_true_eq, decide_eq_false_iff_not, ne_eq, Decidable.not_not, Bool.not_eq_true', Bool.not_eq_false'] at g63
                  refine Q.on rfl rfl (Q.mv rfl rfl ?_)
                  refine Q.on rfl rfl (Q.mv rfl rfl ?_)
                  refine Q.on rfl rfl (Q.idx1 (k := i) rfl rfl (hM.sl 0 rfl) rfl (nz_lt (by omega)) Try.underlying67 (by kernel_rfl) rfl ?_)
                  refine Q.on rfl rfl (Q.load rfl Try.underlying3 rfl ((hM.sl 0 rfl).cell (nz_lt (by omega))) rfl ?_)
                  rw [nz_get (by omega)]
                  refine Q.on rfl rfl (Q.mv rfl rfl ?_)
                  refine Q.on rfl rfl (Q.bin rfl rfl rfl rfl ?_)
                  refine Q.pick rfl rfl rfl <| Q.nil <| fun w5 hx5 => ?_
                  refine X.join0 (Sub.cons (by (first | exact leaf_f (by omega) | exact leaf_t (by omega) | exact leaf_d (by omega) | exact leaf_f (by first | (simp [*] <;> fail) | omega) | exact leaf_t (by first | (simp [*] <;> fail) | omega) | exact leaf_d (by first | (simp [*] <;> fail) | omega) | exact leaf_f (by (first | omega | ((try simp only [decide_eq_true_eq, decide_eq_false_iff_not, Bool.not_eq_true', Bool.not_eq_false'] at *); first | omega | (simp_all <;> fail) | (simp_all; omega)))) | exact leaf_t (by (first | omega | ((try simp only [decide_eq_true_eq, decide_eq_false_iff_not, Bool.not_eq_true', Bool.not_eq_false'] at *); first | omega | (simp_all <;> fail) | (simp_all; omega)))) | exact leaf_d (by (first | omega | ((try simp only [decide_eq_true_eq, decide_eq_false_iff_not, Bool.not_eq_true', Bool.not_eq_false'] at *); first | omega | (simp_all <;> fail) | (simp_all; omega)))))) <| Sub.nil _) rfl hx5
            intro w6 hx6
            have hM := hM.ext hx6
            refine C.cond' rfl (fun hC4 => ?_) (fun hC4 => ?_)
            ·
              exact hC4.elim
            ·
              refine C.skip <| X.next <| C.seq <| C.region <| E.mv rfl rfl <| E.mv rfl rfl <| ?_
              refine E.get (k := i) rfl rfl (hM.sl 0 rfl) rfl (nz_lt (by omega)) Try.underlying67 (by kernel_rfl) Try.underlying3 rfl rfl rfl ?_
              rw [nz_get (by omega)]
              refine E.bin rfl rfl rfl rfl <| E.nil <| X.next <| ?_
              refine C.cond' rfl (fun hC5 => ?_) (fun hC5 => ?_)
              ·
                refine C.region <| E.mv rfl rfl <| ?_
                refine E.add rfl rfl (by omega) rfl ?_

                refine E.asg rfl rfl <| E.nil <| X.outN <| X.join0  (Sub.cons (look_val rfl (by rw [hsu, if_pos (by omega)]; omega)) <| Sub.nil _) rfl hM
              ·

                refine C.skip <| X.outN <| X.join0  (Sub.cons (look_val rfl (by rw [hsu, if_neg (by omega)]; omega)) <| Sub.nil _) rfl hM
          rintro  w7 hM
          refine C.region <| ?_
          refine E.add rfl rfl (by omega) rfl ?_

          refine E.mv rfl rfl <| E.nil <| X.again1 (i + 1) (Sub.cons rfl <| Sub.cons rfl <| Sub.nil _) rfl ⟨hM, by omega⟩ (by omega)
        ·
          obtain rfl : i = L.length := by omega
          have hus : us fs L.length = (isort Tr.wt (sgl fs)).length := by rw [hLl]; exact huN
          refine C.exit <| X.exitT <| X.exitT <| X.outE <| X.next <| C.seq <| C.region <| E.mv rfl rfl <| ?_
          refine E.call rfl rfl (rKraft_ret v24 L _ (hM.sl 0 rfl) hL30 (by omega)) ?_
          rintro _ w2 ⟨rfl, x2⟩
          have hM := hM.ext x2
          try dsimp only [List.nil_append, List.cons_append, List.set_cons_zero, List.set_cons_succ, repl] at hM
          refine E.asg rfl rfl <| E.nil <| X.next <| C.seq <| ?_

          refine C.cut0 [(0, _), (1, _), (2, _), (7, _)] rfl [(99, .bool (decide False))] (fun w' => M w (Nn) w' [Rg.sl i64 3 v24 (nz L)]) ?_ ?_
          ·
            refine C.region <| E.mv rfl rfl <| E.bin rfl rfl rfl rfl <| E.mv rfl rfl <| ?_
            refine E.split 83 rfl (fun g83 => ?_) (fun g83 => ?_)
            ·
              try simp only [decide_eq_true_eq, decide_eq_false_iff_not, ne_eq, Decidable.not_not, Bool.not_eq_true', Bool.not_eq_false'] at g83
              refine E.on rfl rfl (E.mv rfl rfl ?_)
              refine E.on rfl rfl (E.bin rfl rfl rfl rfl ?_)
              refine E.on rfl rfl (E.mv rfl rfl ?_)
              refine E.split 86 rfl (fun g86 => ?_) (fun g86 => ?_)
              ·
                try simp only [decide_eq_true_eq, decide_eq_false_iff_not, ne_eq, Decidable.not_not, Bool.not_eq_true', Bool.not_eq_false'] at g86
                (have := hk2 (by omega); omega)
              ·
                try simp only [decide_eq_true_eq, decide_eq_false_iff_not, ne_eq, Decidable.not_not, Bool.not_eq_true', Bool.not_eq_false'] at g86
                refine E.on rfl rfl (E.mv rfl rfl ?_)
                refine E.on rfl rfl (E.call rfl rfl (Check_ret v24 (nz L) _ (hM.sl 0 rfl)) ?_)
                rintro _ w3 ⟨rfl, x3⟩
                have hM := hM.ext x3
                try dsimp only [List.nil_append, List.cons_append, List.set_cons_zero, List.set_cons_succ, repl] at hM
                refine E.on rfl rfl (E.bin rfl rfl rfl rfl ?_)
                refine E.on rfl rfl (E.pick rfl rfl rfl ?_)
                refine E.pick rfl rfl rfl <| E.mv rfl rfl <| ?_
                refine E.split 92 rfl (fun g92 => ?_) (fun g92 => ?_)
                ·
                  try simp only [decide_eq_true_eq, decide_eq_false_iff_not, ne_eq, Decidable.not_not, Bool.not_eq_true', Bool.not_eq_false'] at g92
                  exact (g92 (chv_nz hL30 (by omega) (hk2 (by omega)))).elim
                ·
                  try simp only [decide_eq_true_eq, decide_eq_false_iff_not, ne_eq, Decidable.not_not, Bool.not_eq_true', Bool.not_eq_false'] at g92
                  refine E.on rfl rfl (E.mv rfl rfl ?_)
                  refine E.on rfl rfl (E.bin rfl rfl rfl rfl ?_)
                  refine E.on rfl rfl (E.mv rfl rfl ?_)
                  refine E.split 95 rfl (fun g95 => ?_) (fun g95 => ?_)
                  ·
                    try simp only [decide_eq_true_eq, decide_eq_false_iff_not, ne_eq, Decidable.not_not, Bool.not_eq_true', Bool.not_eq_false'] at g95
                    have hu1 : (us fs L.length : Int) = 1 := g95
                    refine E.on rfl rfl (E.mv rfl rfl ?_)
                    refine E.on rfl rfl (E.bin rfl rfl rfl rfl ?_)
                    refine E.on rfl rfl (E.pick rfl rfl rfl ?_)
                    refine E.pick rfl rfl rfl <| E.nil <| ?_
                    have hu1 : ¬ (us fs L.length : Int) = 1 := by omega

                    refine X.join0  (Sub.cons (look_eq rfl (by have := hk2 (by omega); simp; omega)) <| Sub.nil _) rfl hM
                  ·
                    try simp only [decide_eq_true_eq, decide_eq_false_iff_not, ne_eq, Decidable.not_not, Bool.not_eq_true', Bool.not_eq_false'] at g95
                    refine E.off rfl rfl rfl rfl <| E.off rfl rfl rfl rfl <| ?_
                    refine E.on rfl rfl (E.pick rfl rfl rfl ?_)

                    refine E.pick rfl rfl rfl <| E.nil <| X.join0  (Sub.cons (look_eq rfl (by simp)) <| Sub.nil _) rfl hM
            ·
              try simp only [decide_eq_true_eq, decide_eq_false_iff_not, ne_eq, Decidable.not_not, Bool.not_eq_true', Bool.not_eq_false'] at g83
              refine E.off rfl rfl rfl rfl <| E.off rfl rfl rfl rfl <| E.off rfl rfl rfl rfl <| E.offu rfl rfl rfl <| E.offu rfl rfl rfl <| E.offu rfl rfl rfl <| E.off rfl rfl rfl rfl <| E.pick rfl rfl rfl <| E.mv rfl rfl <| ?_
              refine E.on rfl rfl (E.mv rfl rfl ?_)
              refine E.on rfl rfl (E.bin rfl rfl rfl rfl ?_)
              refine E.on rfl rfl (E.mv rfl rfl ?_)
              refine E.split 95 rfl (fun g95 => ?_) (fun g95 => ?_)
              ·
                try simp only [decide_eq_true_eq, decide_eq_false_iff_not, ne_eq, Decidable.not_not, Bool.not_eq_true', Bool.not_eq_false'] at g95
                have hu1 : (us fs L.length : Int) = 1 := g95
                refine E.on rfl rfl (E.mv rfl rfl ?_)
                refine E.on rfl rfl (E.bin rfl rfl rfl rfl ?_)
                refine E.on rfl rfl (E.pick rfl rfl rfl ?_)

                refine E.pick rfl rfl rfl <| E.nil <| X.join0  (Sub.cons (look_eq rfl (by have := hk1 (by omega); simp; omega)) <| Sub.nil _) rfl hM
              ·
                try simp only [decide_eq_true_eq, decide_eq_false_iff_not, ne_eq, Decidable.not_not, Bool.not_eq_true', Bool.not_eq_false'] at g95
                refine E.off rfl rfl rfl rfl <| E.off rfl rfl rfl rfl <| ?_
                refine E.on rfl rfl (E.pick rfl rfl rfl ?_)

                refine E.pick rfl rfl rfl <| E.nil <| X.join0  (Sub.cons (look_eq rfl (by simp)) <| Sub.nil _) rfl hM
          rintro  w10 hM
          refine C.cond' rfl (fun hC6 => ?_) (fun hC6 => ?_)
          ·
            exact hC6.elim
          ·
            have hcs := csv_nz hfb hL30 hLl (by omega)
            refine C.skip <| X.next <| C.seq <| C.region <| E.mv rfl rfl <| E.mv rfl rfl <| ?_
            refine E.call rfl rfl (Cost_ret p v24 (nz fs) (nz L) _ (hM.arg0 hr) (hM.sl 0 rfl)) ?_
            rintro _ w4 ⟨rfl, x4⟩
            have hM := hM.ext x4
            rw [hcs]
            try dsimp only [List.nil_append, List.cons_append, List.set_cons_zero, List.set_cons_succ, repl] at hM
            refine E.mv rfl rfl <| E.ext rfl rfl rfl <| E.ext rfl rfl rfl <| E.asg rfl rfl <| E.asg rfl rfl <| E.nil <| X.next <| C.seq <| C.seq <| C.region <| E.mv rfl rfl <| E.bin rfl rfl rfl rfl <| E.nil <| X.next <| ?_
            refine C.cond' rfl (fun hC7 => ?_) (fun hC7 => ?_)
            ·
              exact (hC7 rfl).elim
            ·
              refine C.skip <| X.next <| C.seq <| C.seq <| C.region <| E.mv rfl rfl <| ?_
              refine E.lenv rfl (Rd.shape (hM.arg0 ho)) Try.underlying67 rfl ?_
              refine E.mv rfl rfl <| ?_
              refine E.lenv rfl (Rd.shape (hM.arg0 hr)) Try.underlying67 rfl ?_
              rw [nz_len]
              refine E.bin rfl rfl rfl rfl <| E.nil <| X.next <| ?_
              refine C.cond' rfl (fun hC8 => ?_) (fun hC8 => ?_)
              ·
                refine C.seq <| C.region <| ?_
                refine E.call rfl rfl (alive_ret _) ?_
                rintro _ wz ⟨rfl, xz⟩
                have hM := hM.ext xz
                try dsimp only [List.nil_append, List.cons_append, List.set_cons_zero, List.set_cons_succ, repl] at hM
                refine E.asg rfl rfl <| E.nil <| X.next <| C.ret <| X.retT <| ret1 rfl rfl ?_
                exact ⟨rfl, hM.toExt⟩
              ·
                have hol : os.length = fs.length := by omega
                refine C.skip <| X.next <| C.seq <| C.seq <| C.region <| E.mv rfl rfl <| ?_
                refine E.lenv rfl (Rd.shape (hM.arg0 ho)) Try.underlying67 rfl ?_
                refine E.mv rfl rfl <| E.nil <| X.next <| C.block <| ?_

                refine C.loop1 [(0, _), (1, _), (2, _), (12, _), (115, _)] rfl (fun (i : Nat) => [(116, i64 i)]) (fun (i : Nat) w' => M w (Nn) w' [] ∧ i ≤ os.length ∧ ∀ j (h : j < os.length), j < i → 0 ≤ os[j] ∧ os[j] ≤ mo ∧ (0 < fs.getD j 0 → os[j] ≠ 0)) (fun (i : Nat) => os.length - i) 0 ?_ ?_ ?_
                · exact Sub.cons rfl <| Sub.nil _
                · exact ⟨hM.pick [] (by decide), Nat.zero_le _, fun j h hj => absurd hj (Nat.not_lt_zero _)⟩
                rintro i w13 ⟨hM, hi, hall⟩
                refine C.seq <| C.region <| E.bin rfl rfl rfl rfl <| E.nil <| X.next <| C.seq <| ?_
                refine C.cond' rfl (fun hC9 => ?_) (fun hC9 => ?_)
                ·
                  have hi' : i < os.length := by omega
                  have hif : i < fs.length := by omega
                  have hgf := gd hif
                  refine C.skip <| X.next <| C.seq <| C.block <| C.seq <| C.region <| E.mv rfl rfl <| E.asg rfl rfl <| E.nil <| X.next <| ?_

                  refine C.chainE [(0, _), (1, _), (2, _), (12, _), (115, _), (116, _)] rfl [(145, .bool (decide (os[i] < 0 ∨ (mo : Int) < os[i] ∨ (0 < fs[i] ∧ os[i] = 0))))] ?_ ?_
                  ·
                    refine C.region <| E.mv rfl rfl <| E.mv rfl rfl <| ?_
                    refine E.get (k := i) rfl rfl (hM.arg0 ho) rfl hi' Try.underlying67 (by kernel_rfl) Try.underlying3 rfl rfl rfl ?_
                    refine E.bin rfl rfl rfl rfl <| E.mv rfl rfl <| ?_
                    refine E.split 124 rfl (fun g124 => ?_) (fun g124 => ?_)
                    ·
                      try simp only [decide_eq_true_eq, decide_eq_false_iff_not, ne_eq, Decidable.not_not, Bool.not_eq_true', Bool.not_eq_false'] at g124
                      refine E.off rfl rfl rfl rfl <| E.off rfl rfl rfl rfl <| E.off rfl rfl rfl rfl <| E.off rfl rfl rfl rfl <| E.off rfl rfl rfl rfl <| E.off rfl rfl rfl rfl <| E.pick rfl rfl rfl <| E.mv rfl rfl <| E.off rfl rfl rfl rfl <| E.off rfl rfl rfl rfl <| E.off rfl rfl rfl rfl <| E.off rfl rfl rfl rfl <| E.off rfl rfl rfl rfl <| E.off rfl rfl rfl rfl <| E.offu rfl rfl rfl <| E.offu rfl rfl rfl <| E.offu rfl rfl rfl <| E.offu rfl rfl rfl <| E.offu rfl rfl rfl <| E.off rfl rfl rfl rfl <| E.pick rfl rfl rfl <| E.nil <| X.join0 (Sub.cons (by (first | exact leaf_f (by omega) | exact leaf_t (by omega) | exact leaf_d (by omega) | exact leaf_f (by first | (simp [*] <;> fail) | omega) | exact leaf_t (by first | (simp [*] <;> fail) | omega) | exact leaf_d (by first | (simp [*] <;> fail) | omega) | exact leaf_f (by (first | omega | ((try simp only [decide_eq_true_eq, decide_eq_false_iff_not, Bool.not_eq_true', Bool.not_eq_false'] at *); first | omega | (simp_all <;> fail) | (simp_all; omega)))) | exact leaf_t (by (first | omega | ((try simp only [decide_eq_true_eq, decide_eq_false_iff_not, Bool.not_eq_true', Bool.not_eq_false'] at *); first | omega | (simp_all <;> fail) | (simp_all; omega)))) | exact leaf_d (by (first | omega | ((try simp only [decide_eq_true_eq, decide_eq_false_iff_not, Bool.not_eq_true', Bool.not_eq_false'] at *); first | omega | (simp_all <;> fail) | (simp_all; omega)))))) <| Sub.nil _) rfl rfl
                    ·
                      try simp only [decide_eq_true_eq, decide_eq_false_iff_not, ne_eq, Decidable.not_not, Bool.not_eq_true', Bool.not_eq_false'] at g124
                      refine E.on rfl rfl (E.mv rfl rfl ?_)
                      refine E.on rfl rfl (E.mv rfl rfl ?_)
                      refine E.on rfl rfl (E.idx1 (k := i) rfl rfl (hM.arg0 ho) rfl hi' Try.underlying67 (by kernel_rfl) rfl ?_)
                      refine E.on rfl rfl (E.load rfl Try.underlying3 rfl ((hM.arg0 ho).cell hi') rfl ?_)
                      refine E.on rfl rfl (E.mv rfl rfl ?_)
                      refine E.on rfl rfl (E.bin rfl rfl rfl rfl ?_)
                      refine E.pick rfl rfl rfl <| E.mv rfl rfl <| ?_
                      refine E.split 132 rfl (fun g132 => ?_) (fun g132 => ?_)
                      ·
                        try simp only [decide_eq_true_eq, decide_eq_false_iff_not, ne_eq, Decidable.not_not, Bool.not_eq_true', Bool.not_eq_false'] at g132
                        refine E.off rfl rfl rfl rfl <| E.off rfl rfl rfl rfl <| E.off rfl rfl rfl rfl <| E.off rfl rfl rfl rfl <| E.off rfl rfl rfl rfl <| E.off rfl rfl rfl rfl <| E.offu rfl rfl rfl <| E.offu rfl rfl rfl <| E.offu rfl rfl rfl <| E.offu rfl rfl rfl <| E.offu rfl rfl rfl <| E.off rfl rfl rfl rfl <| E.pick rfl rfl rfl <| E.nil <| X.join0 (Sub.cons (by (first | exact leaf_f (by omega) | exact leaf_t (by omega) | exact leaf_d (by omega) | exact leaf_f (by first | (simp [*] <;> fail) | omega) | exact leaf_t (by first | (simp [*] <;> fail) | omega) | exact leaf_d (by first | (simp [*] <;> fail) | omega) | exact leaf_f (by (first | omega | ((try simp only [decide_eq_true_eq, decide_eq_false_iff_not, Bool.not_eq_true', Bool.not_eq_false'] at *); first | omega | (simp_all <;> fail) | (simp_all; omega)))) | exact leaf_t (by (first | omega | ((try simp only [decide_eq_true_eq, decide_eq_false_iff_not, Bool.not_eq_true', Bool.not_eq_false'] at *); first | omega | (simp_all <;> fail) | (simp_all; omega)))) | exact leaf_d (by (first | omega | ((try simp only [decide_eq_true_eq, decide_eq_false_iff_not, Bool.not_eq_true', Bool.not_eq_false'] at *); first | omega | (simp_all <;> fail) | (simp_all; omega)))))) <| Sub.nil _) rfl rfl
                      ·
                        try simp only [decide_eq_true_eq, decide_eq_false_iff_not, ne_eq, Decidable.not_not, Bool.not_eq_true', Bool.not_eq_false'] at g132
                        refine E.on rfl rfl (E.mv rfl rfl ?_)
                        refine E.on rfl rfl (E.mv rfl rfl ?_)
                        refine E.on rfl rfl (E.idx1 (k := i) rfl rfl (hM.arg0 hr) rfl (nz_lt hif) Try.underlying67 (by kernel_rfl) rfl ?_)
                        refine E.on rfl rfl (E.load rfl Try.underlying3 rfl ((hM.arg0 hr).cell (nz_lt hif)) rfl ?_)
                        rw [nz_get hif]
                        refine E.on rfl rfl (E.bin rfl rfl rfl rfl ?_)
                        refine E.on rfl rfl (E.mv rfl rfl ?_)
                        refine E.split 138 rfl (fun g138 => ?_) (fun g138 => ?_)
                        ·
                          try simp only [decide_eq_true_eq, decide_eq_false_iff_not, ne_eq, Decidable.not_not, Bool.not_eq_true', Bool.not_eq_false'] at g138
                          refine E.on rfl rfl (E.mv rfl rfl ?_)
                          refine E.on rfl rfl (E.mv rfl rfl ?_)
                          refine E.on rfl rfl (E.idx1 (k := i) rfl rfl (hM.arg0 ho) rfl hi' Try.underlying67 (by kernel_rfl) rfl ?_)
                          refine E.on rfl rfl (E.load rfl Try.underlying3 rfl ((hM.arg0 ho).cell hi') rfl ?_)
                          refine E.on rfl rfl (E.bin rfl rfl rfl rfl ?_)
                          refine E.on rfl rfl (E.pick rfl rfl rfl ?_)
                          refine E.pick rfl rfl rfl <| E.nil <| X.join0 (Sub.cons (by (first | exact leaf_f (by omega) | exact leaf_t (by omega) | exact leaf_d (by omega) | exact leaf_f (by first | (simp [*] <;> fail) | omega) | exact leaf_t (by first | (simp [*] <;> fail) | omega) | exact leaf_d (by first | (simp [*] <;> fail) | omega) | exact leaf_f (by (first | omega | ((try simp only [decide_eq_true_eq, decide_eq_false_iff_not, Bool.not_eq_true', Bool.not_eq_false'] at *); first | omega | (simp_all <;> fail) | (simp_all; omega)))) | exact leaf_t (by (first | omega | ((try simp only [decide_eq_true_eq, decide_eq_false_iff_not, Bool.not_eq_true', Bool.not_eq_false'] at *); first | omega | (simp_all <;> fail) | (simp_all; omega)))) | exact leaf_d (by (first | omega | ((try simp only [decide_eq_true_eq, decide_eq_false_iff_not, Bool.not_eq_true', Bool.not_eq_false'] at *); first | omega | (simp_all <;> fail) | (simp_all; omega)))))) <| Sub.nil _) rfl rfl
                        ·
                          try simp only [decide_eq_true_eq, decide_eq_false_iff_not, ne_eq, Decidable.not_not, Bool.not_eq_true', Bool.not_eq_false'] at g138
                          refine E.off rfl rfl rfl rfl <| E.off rfl rfl rfl rfl <| E.off rfl rfl rfl rfl <| E.off rfl rfl rfl rfl <| E.off rfl rfl rfl rfl <| ?_
                          refine E.on rfl rfl (E.pick rfl rfl rfl ?_)
                          refine E.pick rfl rfl rfl <| E.nil <| X.join0 (Sub.cons (by (first | exact leaf_f (by omega) | exact leaf_t (by omega) | exact leaf_d (by omega) | exact leaf_f (by first | (simp [*] <;> fail) | omega) | exact leaf_t (by first | (simp [*] <;> fail) | omega) | exact leaf_d (by first | (simp [*] <;> fail) | omega) | exact leaf_f (by (first | omega | ((try simp only [decide_eq_true_eq, decide_eq_false_iff_not, Bool.not_eq_true', Bool.not_eq_false'] at *); first | omega | (simp_all <;> fail) | (simp_all; omega)))) | exact leaf_t (by (first | omega | ((try simp only [decide_eq_true_eq, decide_eq_false_iff_not, Bool.not_eq_true', Bool.not_eq_false'] at *); first | omega | (simp_all <;> fail) | (simp_all; omega)))) | exact leaf_d (by (first | omega | ((try simp only [decide_eq_true_eq, decide_eq_false_iff_not, Bool.not_eq_true', Bool.not_eq_false'] at *); first | omega | (simp_all <;> fail) | (simp_all; omega)))))) <| Sub.nil _) rfl rfl
                  refine C.cond' rfl (fun hC10 => ?_) (fun hC10 => ?_)
                  ·
                    refine C.seq <| C.region <| ?_
                    refine E.call rfl rfl (alive_ret _) ?_
                    rintro _ wz ⟨rfl, xz⟩
                    have hM := hM.ext xz
                    try dsimp only [List.nil_append, List.cons_append, List.set_cons_zero, List.set_cons_succ, repl] at hM
                    refine E.asg rfl rfl <| E.nil <| X.next <| C.ret <| X.retB <| X.retT <| X.retT <| X.retB <| X.retT <| ret1 rfl rfl ?_
                    exact ⟨rfl, hM.toExt⟩
                  ·
                    refine C.skip <| X.outN <| X.next <| C.region <| ?_
                    refine E.add rfl rfl (by omega) rfl ?_

                    refine E.mv rfl rfl <| E.nil <| X.again1 (i + 1) (Sub.cons rfl <| Sub.nil _) rfl ⟨hM, by omega, fun j h hj => by
                        by_cases e : j = i
                        · subst e; rw [hgf]; exact ⟨by omega, by omega, fun h0 h1 => hC10 (.inr (.inr ⟨h0, h1⟩))⟩
                        · exact hall j h (by omega)⟩ (by omega)
                ·
                  obtain rfl : i = os.length := by omega
                  have hoo : os = nz (toN os) := (toN_nz (m := mo) (okr_iff.2 fun z hz => by obtain ⟨j, hj, rfl⟩ := List.getElem_of_mem hz; have := hall j hj hj; omega)).1
                  have hob : ∀ n ∈ toN os, n ≤ mo := (toN_nz (m := mo) (okr_iff.2 fun z hz => by obtain ⟨j, hj, rfl⟩ := List.getElem_of_mem hz; have := hall j hj hj; omega)).2
                  obtain ⟨o, hoe⟩ : ∃ o, o = toN os := ⟨_, rfl⟩
                  rw [← hoe] at hoo hob
                  subst hoo
                  have hno := nz_len o
                  have hco := csv_nz hfb (fun n hn => Nat.le_trans (hob n hn) hm2) (L := o) (by omega) (by omega)
                  have hops : ∀ s, s < fs.length → o.getD s 0 ≤ mo ∧ (0 < fs.getD s 0 → 0 < o.getD s 0) := fun s hs => by
                    have h1 : s < o.length := by omega
                    have h2 := hall s (nz_lt h1) (nz_lt h1)
                    rw [nz_get h1] at h2
                    rw [gd h1]
                    exact ⟨by omega, fun h => by have := h2.2.2 h; omega⟩
                  have hfin := hopt o (by omega) hops
                  refine C.exit <| X.exitT <| X.exitT <| X.outE <| X.next <| C.seq <| C.region <| E.mv rfl rfl <| E.mv rfl rfl <| ?_
                  refine E.call rfl rfl (Cost_ret p q (nz fs) (nz o) _ (hM.arg0 hr) (hM.arg0 ho)) ?_
                  rintro _ w5 ⟨rfl, x5⟩
                  have hM := hM.ext x5
                  rw [hco]
                  try dsimp only [List.nil_append, List.cons_append, List.set_cons_zero, List.set_cons_succ, repl] at hM
                  refine E.mv rfl rfl <| E.ext rfl rfl rfl <| E.ext rfl rfl rfl <| E.asg rfl rfl <| E.asg rfl rfl <| E.nil <| X.next <| ?_

                  refine C.cut0 [] rfl [(6, .bool true)] (fun w' => M w (Nn) w' []) ?_ ?_
                  ·
                    refine C.region <| E.mv rfl rfl <| ?_
                    refine E.call rfl rfl (rKraft_ret q o _ (hM.arg0 ho) (fun n hn => Nat.le_trans (hob n hn) hm2) (by omega)) ?_
                    rintro _ w6 ⟨rfl, x6⟩
                    have hM := hM.ext x6
                    try dsimp only [List.nil_append, List.cons_append, List.set_cons_zero, List.set_cons_succ, repl] at hM
                    refine E.bin rfl rfl rfl rfl <| E.mv rfl rfl <| ?_
                    refine E.split 157 rfl (fun g157 => ?_) (fun g157 => ?_)
                    ·
                      try simp only [decide_eq_true_eq, decide_eq_false_iff_not, ne_eq, Decidable.not_not, Bool.not_eq_true', Bool.not_eq_false'] at g157
                      refine E.off rfl rfl rfl rfl <| E.off rfl rfl rfl rfl <| E.off rfl rfl rfl rfl <| E.offu rfl rfl rfl <| E.offu rfl rfl rfl <| E.offu rfl rfl rfl <| E.off rfl rfl rfl rfl <| E.pick rfl rfl rfl <| E.mv rfl rfl <| ?_
                      refine E.on rfl rfl (E.call rfl rfl (alive_ret _) ?_)
                      rintro _ wz ⟨rfl, xz⟩
                      have hM := hM.ext xz
                      try dsimp only [List.nil_append, List.cons_append, List.set_cons_zero, List.set_cons_succ, repl] at hM

                      refine E.pick rfl rfl rfl <| E.asg rfl rfl <| E.nil <| X.join0  (Sub.cons rfl <| Sub.nil _) rfl hM
                    ·
                      try simp only [decide_eq_true_eq, decide_eq_false_iff_not, ne_eq, Decidable.not_not, Bool.not_eq_true', Bool.not_eq_false'] at g157
                      refine E.on rfl rfl (E.mv rfl rfl ?_)
                      refine E.on rfl rfl (E.bin rfl rfl rfl rfl ?_)
                      refine E.on rfl rfl (E.mv rfl rfl ?_)
                      refine E.split 160 rfl (fun g160 => ?_) (fun g160 => ?_)
                      ·
                        try simp only [decide_eq_true_eq, decide_eq_false_iff_not, ne_eq, Decidable.not_not, Bool.not_eq_true', Bool.not_eq_false'] at g160
                        refine E.on rfl rfl (E.mv rfl rfl ?_)
                        refine E.on rfl rfl (E.mv rfl rfl ?_)
                        refine E.on rfl rfl (E.bin rfl rfl rfl rfl ?_)
                        refine E.on rfl rfl (E.pick rfl rfl rfl ?_)
                        refine E.pick rfl rfl rfl <| E.mv rfl rfl <| ?_
                        refine E.split 166 rfl (fun g166 => ?_) (fun g166 => ?_)
                        ·
                          try simp only [decide_eq_true_eq, decide_eq_false_iff_not, ne_eq, Decidable.not_not, Bool.not_eq_true', Bool.not_eq_false'] at g166
                          refine E.on rfl rfl (E.call rfl rfl (alive_ret _) ?_)
                          rintro _ wz ⟨rfl, xz⟩
                          have hM := hM.ext xz
                          try dsimp only [List.nil_append, List.cons_append, List.set_cons_zero, List.set_cons_succ, repl] at hM

                          refine E.pick rfl rfl rfl <| E.asg rfl rfl <| E.nil <| X.join0  (Sub.cons rfl <| Sub.nil _) rfl hM
                        ·
                          try simp only [decide_eq_true_eq, decide_eq_false_iff_not, ne_eq, Decidable.not_not, Bool.not_eq_true', Bool.not_eq_false'] at g166
                          (have := hfin (by omega); omega)
                      ·
                        try simp only [decide_eq_true_eq, decide_eq_false_iff_not, ne_eq, Decidable.not_not, Bool.not_eq_true', Bool.not_eq_false'] at g160
                        exact (g160 trivial).elim
                  rintro  w19 hM
                  refine C.ret <| ret1 rfl rfl ?_
                  exact ⟨rfl, hM.toExt⟩

end Go.Proofs.Ytdcgmkoonanpgaa
