/- PrefixFree. -/
import Derived.Test.YtdcgmkoonanpgaaPf14
namespace Go.Proofs.Ytdcgmkoonanpgaa
set_option linter.unusedSimpArgs false
set_option linter.unusedVariables false
open Go.RowKit Sym

/-- what PrefixFree asks of two symbols -/
theorem free_two {l : List Nat} {i k : Nat} (hb : ∀ n ∈ l, n ≤ 30) (hi : i < l.length) (hk : k < l.length) (hne : i ≠ k) (h0 : l[i] ≠ 0) (hle : l[i] ≤ l[k]) :
    Pf.code l k / 2 ^ (l[k] - l[i]) ≠ Pf.code l i ∧ (Pf.code l k / 2 ^ (l[k] - l[i]) < Pf.code l i ↔ l[k] = l[i] ∧ k < i) := by
  have gi := Pf.getD_eq hi
  have gk := Pf.getD_eq hk
  have bi := hb l[i] (List.getElem_mem hi)
  have bk := hb l[k] (List.getElem_mem hk)
  have io : i ∈ Pf.od l := Pf.od_mem.2 ⟨hi, by omega, by omega⟩
  have ko : k ∈ Pf.od l := Pf.od_mem.2 ⟨hk, by omega, by omega⟩
  by_cases h : Pf.Bf l i k
  · have := Pf.front_lt io ko (by omega) h
    rw [gi, gk] at this
    unfold Pf.Bf at h
    rw [gi, gk] at h
    exact ⟨by omega, ⟨fun h1 => by omega, fun h1 => by omega⟩⟩
  · have h2 : Pf.Bf l k i := (Pf.bf_total (l := l) hne).resolve_left h
    have h3 : l[k] = l[i] ∧ k < i := by unfold Pf.Bf at h2; rw [gi, gk] at h2; omega
    have := Pf.front_gt io ko (by omega) h2
    rw [h3.1, Nat.sub_self, Nat.pow_zero, Nat.div_one]
    exact ⟨by omega, ⟨fun _ => ⟨rfl, h3.2⟩, fun _ => this⟩⟩
theorem free_one {l : List Nat} {i : Nat} (hb : ∀ n ∈ l, n ≤ 30) (hk : Pf.kr l ≤ 1073741824) (hi : i < l.length) : ¬ (l[i] = 0 ∧ Pf.code l i ≠ 0) ∧ Pf.code l i < 2 ^ l[i] := by
  have gi := Pf.getD_eq hi
  have bi := hb l[i] (List.getElem_mem hi)
  by_cases h : l[i] = 0
  · have : Pf.code l i = 0 := by unfold Pf.code; rw [if_pos (by omega)]
    rw [this]
    exact ⟨fun h => h.2 rfl, Nat.pow_pos (by decide)⟩
  · have io : i ∈ Pf.od l := Pf.od_mem.2 ⟨hi, by omega, by omega⟩
    have := Pf.code_lt hb hk io
    rw [gi] at this
    exact ⟨fun h2 => h h2.1, this⟩
theorem cdv_nil {zs : List Int} (h : ¬ ckv zs = 0) : cdv zs = [] := by rw [cdv, if_neg h]
set_option maxHeartbeats 2000000 in
theorem PrefixFree_ret (p : Value) (zs : List Int) (w : World) (hr : RdL i64 w p zs) :
    Ret Try.prog 13 #[p] w fun v w' => v = .bool true ∧ Ext w w' := by
  have hM := M.start w
  refine enter Try.func13 rfl (by kernel_rfl) Try.ntmps13 rfl ?_
  refine C.seq <| C.region <| E.asg rfl rfl <| E.nil <| X.next <| C.seq <| C.seq <| C.region <| E.mv rfl rfl <| ?_
  refine E.lenv rfl (Rd.shape (hM.arg0 hr)) Try.underlying67 rfl ?_
  refine E.bin rfl rfl rfl rfl <| E.nil <| X.next <| ?_
  refine C.cond' rfl (fun hC0 => ?_) (fun hC0 => ?_)
  ·
    refine C.seq <| C.region <| ?_
    refine E.call rfl rfl (alive_ret _) ?_
    rintro _ wz ⟨rfl, xz⟩
    have hM := hM.ext xz
    try dsimp only [List.nil_append, List.cons_append, List.set_cons_zero, List.set_cons_succ, repl] at hM
    refine E.asg rfl rfl <| E.nil <| X.next <| C.ret <| X.retT <| ret1 rfl rfl ?_
    exact ⟨rfl, hM.toExt⟩
  ·
    refine C.skip <| X.next <| C.seq <| C.region <| E.mv rfl rfl <| ?_
    refine E.call rfl rfl (Codes_ret p zs _ (hM.arg0 hr)) ?_
    rintro _ w1 ⟨v14, rfl, m⟩
    have hM := hM.call m
    try dsimp only [List.nil_append, List.cons_append, List.set_cons_zero, List.set_cons_succ, repl] at hM
    refine E.mv rfl rfl <| E.ext rfl rfl rfl <| E.ext rfl rfl rfl <| E.asg rfl rfl <| E.asg rfl rfl <| E.nil <| X.next <| C.seq <| C.seq <| C.region <| E.mv rfl rfl <| E.bin rfl rfl rfl rfl <| E.nil <| X.next <| ?_
    refine C.cond' rfl (fun hC1 => ?_) (fun hC1 => ?_)
    ·
      rw [cdv_nil hC1] at hM

      refine C.cut0 [] rfl [(2, .bool true)] (fun w' => M w (Nn) w' []) ?_ ?_
      ·
        refine C.region <| E.mv rfl rfl <| ?_
        refine E.lenv rfl (Rd.shape (hM.sl 0 rfl)) Try.underlying67 rfl ?_
        refine E.bin rfl rfl rfl rfl <| E.mv rfl rfl <| ?_
        refine E.split 22 rfl (fun g22 => ?_) (fun g22 => ?_)
        ·
          try simp only [decide_eq_true_eq, decide_eq_false_iff_not, ne_eq, Decidable.not_not, Bool.not_eq_true', Bool.not_eq_false'] at g22
          refine E.on rfl rfl (E.call rfl rfl (alive_ret _) ?_)
          rintro _ wz ⟨rfl, xz⟩
          have hM := hM.ext xz
          try dsimp only [List.nil_append, List.cons_append, List.set_cons_zero, List.set_cons_succ, repl] at hM

          refine E.pick rfl rfl rfl <| E.asg rfl rfl <| E.nil <| X.join0  (Sub.cons rfl <| Sub.nil _) rfl (hM.pick [] (by decide))
        ·
          try simp only [decide_eq_true_eq, decide_eq_false_iff_not, ne_eq, Decidable.not_not, Bool.not_eq_true', Bool.not_eq_false'] at g22
          first | exact absurd g22 (by decide) | exact (g22 rfl).elim | exact (g22 trivial).elim | omega
      rintro  w3 hM
      refine C.ret <| X.retT <| ret1 rfl rfl ?_
      exact ⟨rfl, hM.toExt⟩
    ·
      have hck := Decidable.byContradiction hC1
      obtain ⟨hl4, hok, hkr⟩ := ckv_ok hck
      obtain ⟨hr', hb⟩ := ok_kr hr hok
      have hlz := toN_len zs
      rw [cdv, if_pos hck] at hM
      obtain ⟨l, hl⟩ : ∃ l, l = toN zs := ⟨_, rfl⟩
      rw [← hl] at hr' hb hkr hlz hM
      have hnl := nz_len l
      have hcl := cdl_len l
      refine C.skip <| X.next <| C.seq <| C.seq <| C.region <| E.mv rfl rfl <| ?_
      refine E.lenv rfl (Rd.shape (hM.sl 0 rfl)) Try.underlying67 rfl ?_
      refine E.mv rfl rfl <| ?_
      refine E.lenv rfl (Rd.shape (hM.arg0 hr')) Try.underlying67 rfl ?_
      refine E.bin rfl rfl rfl rfl <| E.nil <| X.next <| ?_
      refine C.cond' rfl (fun hC2 => ?_) (fun hC2 => ?_)
      ·
        omega
      ·
        refine C.skip <| X.next <| C.seq <| C.seq <| C.region <| E.mv rfl rfl <| ?_
        refine E.lenv rfl (Rd.shape (hM.sl 0 rfl)) Try.underlying67 rfl ?_
        refine E.mv rfl rfl <| E.nil <| X.next <| C.block <| ?_

        refine C.loop1 [(0, _), (3, _), (31, _)] rfl (fun (i : Nat) => [(32, i64 i)]) (fun (i : Nat) w' => M w (Nn) w' [Rg.sl i64 3 v14 (Pf.cdl l)] ∧ i ≤ l.length) (fun (i : Nat) => l.length - i) 0 ?_ ?_ ?_
        · exact Sub.cons rfl <| Sub.nil _
        · exact ⟨hM, Nat.zero_le _⟩
        rintro i w4 ⟨hM, hi⟩
        refine C.seq <| C.region <| E.bin rfl rfl rfl rfl <| E.nil <| X.next <| C.seq <| ?_
        refine C.cond' rfl (fun hC3 => ?_) (fun hC3 => ?_)
        ·
          have hi' : i < l.length := by omega
          obtain ⟨hf1, hf2⟩ := free_one hb hkr hi'
          have hbi := hb l[i] (List.getElem_mem hi')
          have hp30 : 2 ^ l[i] ≤ 2 ^ 30 := Nat.pow_le_pow_right (by decide) hbi
          have hcb := code_big hb hkr i
          refine C.skip <| X.next <| C.seq <| C.block <| C.seq <| C.region <| E.mv rfl rfl <| E.asg rfl rfl <| E.nil <| X.next <| C.seq <| ?_

          refine C.chainQ [(0, _), (3, _), (5, _), (31, _), (32, _)] rfl [(66, .bool false)] ?_ ?_
          ·
            refine C.drawn (by kernel_rfl) (by kernel_rfl) <| Q.mv rfl rfl <| Q.mv rfl rfl <| ?_
            refine Q.idx1 (k := i) rfl rfl (hM.arg0 hr') rfl (by omega) Try.underlying67 (by kernel_rfl) rfl ?_
            refine Q.load rfl Try.underlying3 rfl ((hM.arg0 hr').cell (by omega)) rfl ?_
            rw [nz_get (by omega)]
            refine Q.bin rfl rfl rfl rfl <| Q.mv rfl rfl <| ?_
            refine Q.split 40 rfl (fun g40 => ?_) (fun g40 => ?_)
            ·
              try simp only [decide_eq_true_eq, decide_eq_false_iff_not, ne_eq, Decidable.not_not, Bool.not_eq_true', Bool.not_eq_false'] at g40
              refine Q.on rfl rfl (Q.mv rfl rfl ?_)
              refine Q.on rfl rfl (Q.mv rfl rfl ?_)
              refine Q.on rfl rfl (Q.idx1 (k := i) rfl rfl (hM.sl 0 rfl) rfl (by omega) Try.underlying67 (by kernel_rfl) rfl ?_)
              refine Q.on rfl rfl (Q.load rfl Try.underlying3 rfl ((hM.sl 0 rfl).cell (by omega)) rfl ?_)
              rw [cdl_get]
              refine Q.on rfl rfl (Q.bin rfl rfl rfl rfl ?_)
              refine Q.pick rfl rfl rfl <| Q.mv rfl rfl <| ?_
              refine Q.split 47 rfl (fun g47 => ?_) (fun g47 => ?_)
              ·
                try simp only [decide_eq_true_eq, decide_eq_false_iff_not, ne_eq, Decidable.not_not, Bool.not_eq_true', Bool.not_eq_false'] at g47
                first | exact absurd g47 (by decide) | exact (g47 rfl).elim | exact (g47 trivial).elim | omega
              ·
                try simp only [decide_eq_true_eq, decide_eq_false_iff_not, ne_eq, Decidable.not_not, Bool.not_eq_true', Bool.not_eq_false'] at g47
                refine Q.on rfl rfl (Q.mv rfl rfl ?_)
                refine Q.on rfl rfl (Q.mv rfl rfl ?_)
                refine Q.on rfl rfl (Q.idx1 (k := i) rfl rfl (hM.sl 0 rfl) rfl (by omega) Try.underlying67 (by kernel_rfl) rfl ?_)
                refine Q.on rfl rfl (Q.load rfl Try.underlying3 rfl ((hM.sl 0 rfl).cell (by omega)) rfl ?_)
                rw [cdl_get]
                refine Q.on rfl rfl (Q.bin rfl rfl rfl rfl ?_)
                refine Q.pick rfl rfl rfl <| Q.mv rfl rfl <| ?_
                refine Q.split 54 rfl (fun g54 => ?_) (fun g54 => ?_)
                ·
                  try simp only [decide_eq_true_eq, decide_eq_false_iff_not, ne_eq, Decidable.not_not, Bool.not_eq_true', Bool.not_eq_false'] at g54
                  first | exact absurd g54 (by decide) | exact (g54 rfl).elim | exact (g54 trivial).elim | omega
                ·
                  try simp only [decide_eq_true_eq, decide_eq_false_iff_not, ne_eq, Decidable.not_not, Bool.not_eq_true', Bool.not_eq_false'] at g54
                  refine Q.on rfl rfl (Q.mv rfl rfl ?_)
                  refine Q.on rfl rfl (Q.mv rfl rfl ?_)
                  refine Q.on rfl rfl (Q.idx1 (k := i) rfl rfl (hM.sl 0 rfl) rfl (by omega) Try.underlying67 (by kernel_rfl) rfl ?_)
                  refine Q.on rfl rfl (Q.load rfl Try.underlying3 rfl ((hM.sl 0 rfl).cell (by omega)) rfl ?_)
                  rw [cdl_get]
                  refine Q.on rfl rfl (Q.mv rfl rfl ?_)
                  refine Q.on rfl rfl (Q.mv rfl rfl ?_)
                  refine Q.on rfl rfl (Q.idx1 (k := i) rfl rfl (hM.arg0 hr') rfl (by omega) Try.underlying67 (by kernel_rfl) rfl ?_)
                  refine Q.on rfl rfl (Q.load rfl Try.underlying3 rfl ((hM.arg0 hr').cell (by omega)) rfl ?_)
                  rw [nz_get (by omega)]
                  refine Q.on rfl rfl (Q.conv rfl Try.underlying3 Try.underlying87 (IntWalk.u64_in _ (by omega)) rfl ?_)
                  refine Q.on rfl rfl (Q.shl rfl rfl (by omega) (shl_nat (a := 1) (k := l[i]) (c := 2 ^ l[i]) (by omega) (Nat.one_mul _) (by omega)) rfl ?_)
                  refine Q.on rfl rfl (Q.bin rfl rfl rfl rfl ?_)
                  refine Q.pick rfl rfl rfl <| Q.nil <| fun w5 hx5 => ?_
                  refine X.join0 (Sub.cons (look_eq rfl (by first | rfl | (congr 1; apply decide_eq_false; first | omega | (intro h; have := Int.ofNat_le.1 h; omega)))) <| Sub.nil _) rfl hx5
            ·
              try simp only [decide_eq_true_eq, decide_eq_false_iff_not, ne_eq, Decidable.not_not, Bool.not_eq_true', Bool.not_eq_false'] at g40
              refine Q.off rfl rfl rfl rfl <| Q.off rfl rfl rfl rfl <| Q.off rfl rfl rfl rfl <| Q.off rfl rfl rfl rfl <| Q.off rfl rfl rfl rfl <| Q.pick rfl rfl rfl <| Q.mv rfl rfl <| ?_
              refine Q.on rfl rfl (Q.mv rfl rfl ?_)
              refine Q.on rfl rfl (Q.mv rfl rfl ?_)
              refine Q.on rfl rfl (Q.idx1 (k := i) rfl rfl (hM.sl 0 rfl) rfl (by omega) Try.underlying67 (by kernel_rfl) rfl ?_)
              refine Q.on rfl rfl (Q.load rfl Try.underlying3 rfl ((hM.sl 0 rfl).cell (by omega)) rfl ?_)
              rw [cdl_get]
              refine Q.on rfl rfl (Q.bin rfl rfl rfl rfl ?_)
              refine Q.pick rfl rfl rfl <| Q.mv rfl rfl <| ?_
              refine Q.split 54 rfl (fun g54 => ?_) (fun g54 => ?_)
              ·
                try simp only [decide_eq_true_eq, decide_eq_false_iff_not, ne_eq, Decidable.not_not, Bool.not_eq_true', Bool.not_eq_false'] at g54
                first | exact absurd g54 (by decide) | exact (g54 rfl).elim | exact (g54 trivial).elim | omega
              ·
                try simp only [decide_eq_true_eq, decide_eq_false_iff_not, ne_eq, Decidable.not_not, Bool.not_eq_true', Bool.not_eq_false'] at g54
                refine Q.on rfl rfl (Q.mv rfl rfl ?_)
                refine Q.on rfl rfl (Q.mv rfl rfl ?_)
                refine Q.on rfl rfl (Q.idx1 (k := i) rfl rfl (hM.sl 0 rfl) rfl (by omega) Try.underlying67 (by kernel_rfl) rfl ?_)
                refine Q.on rfl rfl (Q.load rfl Try.underlying3 rfl ((hM.sl 0 rfl).cell (by omega)) rfl ?_)
                rw [cdl_get]
                refine Q.on rfl rfl (Q.mv rfl rfl ?_)
                refine Q.on rfl rfl (Q.mv rfl rfl ?_)
                refine Q.on rfl rfl (Q.idx1 (k := i) rfl rfl (hM.arg0 hr') rfl (by omega) Try.underlying67 (by kernel_rfl) rfl ?_)
                refine Q.on rfl rfl (Q.load rfl Try.underlying3 rfl ((hM.arg0 hr').cell (by omega)) rfl ?_)
                rw [nz_get (by omega)]
                refine Q.on rfl rfl (Q.conv rfl Try.underlying3 Try.underlying87 (IntWalk.u64_in _ (by omega)) rfl ?_)
                refine Q.on rfl rfl (Q.shl rfl rfl (by omega) (shl_nat (a := 1) (k := l[i]) (c := 2 ^ l[i]) (by omega) (Nat.one_mul _) (by omega)) rfl ?_)
                refine Q.on rfl rfl (Q.bin rfl rfl rfl rfl ?_)
                refine Q.pick rfl rfl rfl <| Q.nil <| fun w6 hx6 => ?_
                refine X.join0 (Sub.cons (look_eq rfl (by first | rfl | (congr 1; apply decide_eq_false; first | omega | (intro h; have := Int.ofNat_le.1 h; omega)))) <| Sub.nil _) rfl hx6
          intro w7 hx7
          have hM := hM.ext hx7
          refine C.cond rfl (fun hC4 => ?_) (fun hC4 => ?_)
          ·
            cases hC4
          ·
            refine C.skip <| X.next <| C.seq <| C.region <| E.mv rfl rfl <| ?_
            refine E.lenv rfl (Rd.shape (hM.sl 0 rfl)) Try.underlying67 rfl ?_
            refine E.mv rfl rfl <| E.nil <| X.next <| C.block <| ?_

            refine C.loop1 [(0, _), (3, _), (5, _), (31, _), (32, _), (68, _)] rfl (fun (k : Nat) => [(69, i64 k)]) (fun (k : Nat) w' => M w (Nn) w' [Rg.sl i64 3 v14 (Pf.cdl l)] ∧ k ≤ l.length) (fun (k : Nat) => l.length - k) 0 ?_ ?_ ?_
            · exact Sub.cons rfl <| Sub.nil _
            · exact ⟨hM, Nat.zero_le _⟩
            rintro k w8 ⟨hM, hk⟩
            refine C.seq <| C.region <| E.bin rfl rfl rfl rfl <| E.nil <| X.next <| C.seq <| ?_
            refine C.cond' rfl (fun hC5 => ?_) (fun hC5 => ?_)
            ·
              have hk' : k < l.length := by omega
              have hbk := hb l[k] (List.getElem_mem hk')
              have hcb2 := code_big hb hkr k
              refine C.skip <| X.next <| ?_

              refine C.cut0 [(0, _), (3, _), (5, _), (31, _), (32, _), (68, _), (69, _)] rfl [] (fun w' => M w (Nn) w' [Rg.sl i64 3 v14 (Pf.cdl l)]) ?_ ?_
              ·
                refine C.block <| C.seq <| C.region <| E.mv rfl rfl <| E.asg rfl rfl <| E.nil <| X.next <| C.seq <| ?_

                refine C.chainQ [(0, _), (3, _), (5, _), (6, _), (31, _), (32, _), (68, _), (69, _)] rfl [(92, .bool (decide (i = k ∨ l[i] = 0 ∨ l[k] < l[i])))] ?_ ?_
                ·
                  refine C.drawn (by kernel_rfl) (by kernel_rfl) <| Q.mv rfl rfl <| Q.mv rfl rfl <| Q.bin rfl rfl rfl rfl <| Q.mv rfl rfl <| ?_
                  refine Q.split 75 rfl (fun g75 => ?_) (fun g75 => ?_)
                  ·
                    try simp only [decide_eq_true_eq, decide_eq_false_iff_not, ne_eq, Decidable.not_not, Bool.not_eq_true', Bool.not_eq_false'] at g75
                    refine Q.off rfl rfl rfl rfl <| Q.off rfl rfl rfl rfl <| Q.off rfl rfl rfl rfl <| Q.off rfl rfl rfl rfl <| Q.off rfl rfl rfl rfl <| Q.pick rfl rfl rfl <| Q.mv rfl rfl <| Q.off rfl rfl rfl rfl <| Q.off rfl rfl rfl rfl <| Q.off rfl rfl rfl rfl <| Q.off rfl rfl rfl rfl <| Q.off rfl rfl rfl rfl <| Q.off rfl rfl rfl rfl <| Q.off rfl rfl rfl rfl <| Q.off rfl rfl rfl rfl <| Q.off rfl rfl rfl rfl <| Q.pick rfl rfl rfl <| Q.nil <| fun w9 hx9 => ?_
                    refine X.join0 (Sub.cons (by (first | exact leaf_f (by omega) | exact leaf_t (by omega) | exact leaf_d (by omega) | exact leaf_f (by first | (simp [*] <;> fail) | omega) | exact leaf_t (by first | (simp [*] <;> fail) | omega) | exact leaf_d (by first | (simp [*] <;> fail) | omega) | exact leaf_f (by (first | omega | ((try simp only [decide_eq_true_eq, decide_eq_false_iff_not, Bool.not_eq_true', Bool.not_eq_false'] at *); first | omega | (simp_all <;> fail) | (simp_all; omega)))) | exact leaf_t (by (first | omega | ((try simp only [decide_eq_true_eq, decide_eq_false_iff_not, Bool.not_eq_true', Bool.not_eq_false'] at *); first | omega | (simp_all <;> fail) | (simp_all; omega)))) | exact leaf_d (by (first | omega | ((try simp only [decide_eq_true_eq, decide_eq_false_iff_not, Bool.not_eq_true', Bool.not_eq_false'] at *); first | omega | (simp_all <;> fail) | (simp_all; omega)))))) <| Sub.nil _) rfl hx9
                  ·
                    try simp only [decide_eq_true_eq, decide_eq_false_iff_not, ne_eq, Decidable.not_not, Bool.not_eq_true', Bool.not_eq_false'] at g75
                    refine Q.on rfl rfl (Q.mv rfl rfl ?_)
                    refine Q.on rfl rfl (Q.mv rfl rfl ?_)
                    refine Q.on rfl rfl (Q.idx1 (k := i) rfl rfl (hM.arg0 hr') rfl (by omega) Try.underlying67 (by kernel_rfl) rfl ?_)
                    refine Q.on rfl rfl (Q.load rfl Try.underlying3 rfl ((hM.arg0 hr').cell (by omega)) rfl ?_)
                    rw [nz_get (by omega)]
                    refine Q.on rfl rfl (Q.bin rfl rfl rfl rfl ?_)
                    refine Q.pick rfl rfl rfl <| Q.mv rfl rfl <| ?_
                    refine Q.split 82 rfl (fun g82 => ?_) (fun g82 => ?_)
                    ·
                      try simp only [decide_eq_true_eq, decide_eq_false_iff_not, ne_eq, Decidable.not_not, Bool.not_eq_true', Bool.not_eq_false'] at g82
                      refine Q.off rfl rfl rfl rfl <| Q.off rfl rfl rfl rfl <| Q.off rfl rfl rfl rfl <| Q.off rfl rfl rfl rfl <| Q.off rfl rfl rfl rfl <| Q.off rfl rfl rfl rfl <| Q.off rfl rfl rfl rfl <| Q.off rfl rfl rfl rfl <| Q.off rfl rfl rfl rfl <| Q.pick rfl rfl rfl <| Q.nil <| fun w10 hx10 => ?_
                      refine X.join0 (Sub.cons (by (first | exact leaf_f (by omega) | exact leaf_t (by omega) | exact leaf_d (by omega) | exact leaf_f (by first | (simp [*] <;> fail) | omega) | exact leaf_t (by first | (simp [*] <;> fail) | omega) | exact leaf_d (by first | (simp [*] <;> fail) | omega) | exact leaf_f (by (first | omega | ((try simp only [decide_eq_true_eq, decide_eq_false_iff_not, Bool.not_eq_true', Bool.not_eq_false'] at *); first | omega | (simp_all <;> fail) | (simp_all; omega)))) | exact leaf_t (by (first | omega | ((try simp only [decide_eq_true_eq, decide_eq_false_iff_not, Bool.not_eq_true', Bool.not_eq_false'] at *); first | omega | (simp_all <;> fail) | (simp_all; omega)))) | exact leaf_d (by (first | omega | ((try simp only [decide_eq_true_eq, decide_eq_false_iff_not, Bool.not_eq_true', Bool.not_eq_false'] at *); first | omega | (simp_all <;> fail) | (simp_all; omega)))))) <| Sub.nil _) rfl hx10
                    ·
                      try simp only [decide_eq_true_eq, decide_eq_false_iff_not, ne_eq, Decidable.not_not, Bool.not_eq_true', Bool.not_eq_false'] at g82
                      refine Q.on rfl rfl (Q.mv rfl rfl ?_)
                      refine Q.on rfl rfl (Q.mv rfl rfl ?_)
                      refine Q.on rfl rfl (Q.idx1 (k := k) rfl rfl (hM.arg0 hr') rfl (by omega) Try.underlying67 (by kernel_rfl) rfl ?_)
                      refine Q.on rfl rfl (Q.load rfl Try.underlying3 rfl ((hM.arg0 hr').cell (by omega)) rfl ?_)
                      rw [nz_get (by omega)]
                      refine Q.on rfl rfl (Q.mv rfl rfl ?_)
                      refine Q.on rfl rfl (Q.mv rfl rfl ?_)
                      refine Q.on rfl rfl (Q.idx1 (k := i) rfl rfl (hM.arg0 hr') rfl (by omega) Try.underlying67 (by kernel_rfl) rfl ?_)
                      refine Q.on rfl rfl (Q.load rfl Try.underlying3 rfl ((hM.arg0 hr').cell (by omega)) rfl ?_)
                      rw [nz_get (by omega)]
                      refine Q.on rfl rfl (Q.bin rfl rfl rfl rfl ?_)
                      refine Q.pick rfl rfl rfl <| Q.nil <| fun w11 hx11 => ?_
                      refine X.join0 (Sub.cons (by (first | exact leaf_f (by omega) | exact leaf_t (by omega) | exact leaf_d (by omega) | exact leaf_f (by first | (simp [*] <;> fail) | omega) | exact leaf_t (by first | (simp [*] <;> fail) | omega) | exact leaf_d (by first | (simp [*] <;> fail) | omega) | exact leaf_f (by (first | omega | ((try simp only [decide_eq_true_eq, decide_eq_false_iff_not, Bool.not_eq_true', Bool.not_eq_false'] at *); first | omega | (simp_all <;> fail) | (simp_all; omega)))) | exact leaf_t (by (first | omega | ((try simp only [decide_eq_true_eq, decide_eq_false_iff_not, Bool.not_eq_true', Bool.not_eq_false'] at *); first | omega | (simp_all <;> fail) | (simp_all; omega)))) | exact leaf_d (by (first | omega | ((try simp only [decide_eq_true_eq, decide_eq_false_iff_not, Bool.not_eq_true', Bool.not_eq_false'] at *); first | omega | (simp_all <;> fail) | (simp_all; omega)))))) <| Sub.nil _) rfl hx11
                intro w12 hx12
                have hM := hM.ext hx12
                refine C.cond' rfl (fun hC6 => ?_) (fun hC6 => ?_)
                ·

                  refine C.exit <| X.exitT <| X.outE <| X.join0  (Sub.nil _) rfl hM
                ·
                  obtain ⟨hw1, hw2⟩ := free_two hb hi' hk' (by omega) (by omega) (by omega)
                  obtain ⟨fr, hfr⟩ : ∃ fr, fr = Pf.code l k / 2 ^ (l[k] - l[i]) := ⟨_, rfl⟩
                  rw [← hfr] at hw1 hw2
                  refine C.skip <| X.next <| C.seq <| C.drawn (by kernel_rfl) (by kernel_rfl) <| Q.mv rfl rfl <| Q.mv rfl rfl <| ?_
                  refine Q.idx1 (k := k) rfl rfl (hM.sl 0 rfl) rfl (by omega) Try.underlying67 (by kernel_rfl) rfl ?_
                  refine Q.load rfl Try.underlying3 rfl ((hM.sl 0 rfl).cell (by omega)) rfl ?_
                  rw [cdl_get]
                  refine Q.mv rfl rfl <| Q.mv rfl rfl <| ?_
                  refine Q.idx1 (k := k) rfl rfl (hM.arg0 hr') rfl (by omega) Try.underlying67 (by kernel_rfl) rfl ?_
                  refine Q.load rfl Try.underlying3 rfl ((hM.arg0 hr').cell (by omega)) rfl ?_
                  rw [nz_get (by omega)]
                  refine Q.mv rfl rfl <| Q.mv rfl rfl <| ?_
                  refine Q.idx1 (k := i) rfl rfl (hM.arg0 hr') rfl (by omega) Try.underlying67 (by kernel_rfl) rfl ?_
                  refine Q.load rfl Try.underlying3 rfl ((hM.arg0 hr').cell (by omega)) rfl ?_
                  rw [nz_get (by omega)]
                  refine Q.subN (a := l[k]) (b := l[i]) rfl rfl (by omega) rfl ?_
                  refine Q.conv rfl Try.underlying3 Try.underlying87 (IntWalk.u64_in _ (by omega)) rfl ?_
                  refine Q.shr rfl rfl (by omega) (shr_nat (by omega)) rfl ?_
                  rw [← hfr]
                  refine Q.asg rfl rfl <| Q.nil <| fun w13 hx13 => ?_
                  have hM := hM.ext hx13
                  refine X.next <| ?_

                  refine C.chainQ [(0, _), (3, _), (5, _), (31, _), (32, _), (68, _), (69, _)] rfl [(136, .bool false)] ?_ ?_
                  ·
                    refine C.drawn (by kernel_rfl) (by kernel_rfl) <| Q.mv rfl rfl <| Q.mv rfl rfl <| Q.mv rfl rfl <| ?_
                    refine Q.idx1 (k := i) rfl rfl (hM.sl 0 rfl) rfl (by omega) Try.underlying67 (by kernel_rfl) rfl ?_
                    refine Q.load rfl Try.underlying3 rfl ((hM.sl 0 rfl).cell (by omega)) rfl ?_
                    rw [cdl_get]
                    refine Q.bin rfl rfl rfl rfl <| Q.mv rfl rfl <| ?_
                    refine Q.split 114 rfl (fun g114 => ?_) (fun g114 => ?_)
                    ·
                      try simp only [decide_eq_true_eq, decide_eq_false_iff_not, ne_eq, Decidable.not_not, Bool.not_eq_true', Bool.not_eq_false'] at g114
                      first | exact absurd g114 (by decide) | exact (g114 rfl).elim | exact (g114 trivial).elim | omega
                    ·
                      try simp only [decide_eq_true_eq, decide_eq_false_iff_not, ne_eq, Decidable.not_not, Bool.not_eq_true', Bool.not_eq_false'] at g114
                      refine Q.on rfl rfl (Q.mv rfl rfl ?_)
                      refine Q.on rfl rfl (Q.mv rfl rfl ?_)
                      refine Q.on rfl rfl (Q.mv rfl rfl ?_)
                      refine Q.on rfl rfl (Q.idx1 (k := i) rfl rfl (hM.sl 0 rfl) rfl (by omega) Try.underlying67 (by kernel_rfl) rfl ?_)
                      refine Q.on rfl rfl (Q.load rfl Try.underlying3 rfl ((hM.sl 0 rfl).cell (by omega)) rfl ?_)
                      rw [cdl_get]
                      refine Q.on rfl rfl (Q.bin rfl rfl rfl rfl ?_)
                      refine Q.on rfl rfl (Q.mv rfl rfl ?_)
                      refine Q.on rfl rfl (Q.mv rfl rfl ?_)
                      refine Q.on rfl rfl (Q.idx1 (k := k) rfl rfl (hM.arg0 hr') rfl (by omega) Try.underlying67 (by kernel_rfl) rfl ?_)
                      refine Q.on rfl rfl (Q.load rfl Try.underlying3 rfl ((hM.arg0 hr').cell (by omega)) rfl ?_)
                      rw [nz_get (by omega)]
                      refine Q.on rfl rfl (Q.mv rfl rfl ?_)
                      refine Q.on rfl rfl (Q.mv rfl rfl ?_)
                      refine Q.on rfl rfl (Q.idx1 (k := i) rfl rfl (hM.arg0 hr') rfl (by omega) Try.underlying67 (by kernel_rfl) rfl ?_)
                      refine Q.on rfl rfl (Q.load rfl Try.underlying3 rfl ((hM.arg0 hr').cell (by omega)) rfl ?_)
                      rw [nz_get (by omega)]
                      refine Q.on rfl rfl (Q.bin rfl rfl rfl rfl ?_)
                      refine Q.on rfl rfl (Q.mv rfl rfl ?_)
                      refine Q.split 130 rfl (fun g130 => ?_) (fun g130 => ?_)
                      ·
                        try simp only [decide_eq_true_eq, decide_eq_false_iff_not, ne_eq, Decidable.not_not, Bool.not_eq_true', Bool.not_eq_false'] at g130
                        refine Q.on rfl rfl (Q.mv rfl rfl ?_)
                        refine Q.on rfl rfl (Q.mv rfl rfl ?_)
                        refine Q.on rfl rfl (Q.bin rfl rfl rfl rfl ?_)
                        refine Q.on rfl rfl (Q.pick rfl rfl rfl ?_)
                        refine Q.on rfl rfl (Q.neb rfl rfl Try.underlying4 rfl ?_)
                        refine Q.pick rfl rfl rfl <| Q.nil <| fun w14 hx14 => ?_
                        refine X.join0 (Sub.cons (look_eq rfl (by congr 1; simp only [Bool.not_eq_false', beq_iff_eq]; first | (apply decide_eq_decide.2; omega) | (apply decide_eq_false; omega))) <| Sub.nil _) rfl hx14
                      ·
                        try simp only [decide_eq_true_eq, decide_eq_false_iff_not, ne_eq, Decidable.not_not, Bool.not_eq_true', Bool.not_eq_false'] at g130
                        refine Q.off rfl rfl rfl rfl <| Q.off rfl rfl rfl rfl <| Q.off rfl rfl rfl rfl <| ?_
                        refine Q.on rfl rfl (Q.pick rfl rfl rfl ?_)
                        refine Q.on rfl rfl (Q.neb rfl rfl Try.underlying4 rfl ?_)
                        refine Q.pick rfl rfl rfl <| Q.nil <| fun w15 hx15 => ?_
                        refine X.join0 (Sub.cons (look_eq rfl (by congr 1; simp only [Bool.not_eq_false', beq_iff_eq]; first | (apply decide_eq_decide.2; omega) | (apply decide_eq_false; omega))) <| Sub.nil _) rfl hx15
                  intro w16 hx16
                  have hM := hM.ext hx16
                  refine C.cond rfl (fun hC7 => ?_) (fun hC7 => ?_)
                  ·
                    cases hC7
                  ·

                    refine C.skip <| X.outN <| X.join0  (Sub.nil _) rfl hM
              rintro  w17 hM
              refine C.region <| ?_
              refine E.add rfl rfl (by omega) rfl ?_

              refine E.mv rfl rfl <| E.nil <| X.again1 (k + 1) (Sub.cons rfl <| Sub.nil _) rfl ⟨hM, by omega⟩ (by omega)
            ·
              refine C.exit <| X.exitT <| X.exitT <| X.outE <| X.outN <| X.next <| C.region <| ?_
              refine E.add rfl rfl (by omega) rfl ?_

              refine E.mv rfl rfl <| E.nil <| X.again1 (i + 1) (Sub.cons rfl <| Sub.nil _) rfl ⟨hM, by omega⟩ (by omega)
        ·
          refine C.exit <| X.exitT <| X.exitT <| X.outE <| X.next <| C.seq <| C.region <| ?_
          refine E.call rfl rfl (alive_ret _) ?_
          rintro _ wz ⟨rfl, xz⟩
          have hM := hM.ext xz
          try dsimp only [List.nil_append, List.cons_append, List.set_cons_zero, List.set_cons_succ, repl] at hM
          refine E.asg rfl rfl <| E.nil <| X.next <| C.ret <| ret1 rfl rfl ?_
          exact ⟨rfl, hM.toExt⟩

end Go.Proofs.Ytdcgmkoonanpgaa
