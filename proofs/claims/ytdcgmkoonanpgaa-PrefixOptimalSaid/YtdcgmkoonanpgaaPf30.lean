/- prefix: package-merge is optimal (plain). -/
import Derived.Test.YtdcgmkoonanpgaaPf26
namespace Go.Proofs.Ytdcgmkoonanpgaa
set_option linter.unusedSimpArgs false
set_option linter.unusedVariables false
open Go.RowKit Sym

theorem perm_sum {l l' : List Nat} (h : l.Perm l') : l.sum = l'.sum := by
  induction h with
  | nil => rfl
  | cons x _ ih => rw [List.sum_cons, List.sum_cons, ih]
  | swap x y l => simp only [List.sum_cons]; omega
  | trans _ _ h1 h2 => exact h1.trans h2
theorem tw_app (a b : List Tr) : tw (a ++ b) = tw a + tw b := by simp only [tw, List.map_append, List.sum_append]
theorem tw_cons (x : Tr) (l : List Tr) : tw (x :: l) = x.wt + tw l := by simp only [tw, List.map_cons, List.sum_cons]
theorem tw_mono (l : List Tr) {i j : Nat} (h : i ≤ j) : tw (l.take i) ≤ tw (l.take j) := by
  have := tw_take (l.take j) i
  rwa [List.take_take, Nat.min_eq_left h] at this
theorem tw_step {l : List Tr} {i : Nat} (h : i < l.length) : tw (l.take (i + 1)) = tw (l.take i) + l[i].wt := by
  rw [← List.take_append_getElem h, tw_app, tw_cons]; rfl
theorem srt_head {x : Tr} {l : List Tr} (h : Srt Tr.wt (x :: l)) {i : Nat} (hi : i < (x :: l).length) : x.wt ≤ (x :: l)[i].wt := by
  cases i with
  | zero => exact Nat.le_refl _
  | succ i => exact (List.pairwise_cons.1 h).1 _ (List.getElem_mem _)
theorem srt_tail {x : Tr} {l : List Tr} (h : Srt Tr.wt (x :: l)) : Srt Tr.wt l := (List.pairwise_cons.1 h).2
/-- the first of a merged list weigh no more than others of its parts -/
theorem mrg_opt : ∀ (X Y : List Tr) (j a b : Nat), Srt Tr.wt X → Srt Tr.wt Y → j ≤ a + b → a ≤ X.length → b ≤ Y.length → tw ((mrg Tr.wt X Y).take j) ≤ tw (X.take a) + tw (Y.take b)
  | X, Y, 0, a, b, _, _, _, _, _ => by simp [tw]
  | [], Y, j + 1, a, b, _, _, h, ha, _ => by
    rw [mrg]
    have := tw_mono Y (show j + 1 ≤ b by simp at ha; omega)
    omega
  | x :: xs, [], j + 1, a, b, _, _, h, _, hb => by
    rw [mrg_nil]
    have := tw_mono (x :: xs) (show j + 1 ≤ a by simp at hb; omega)
    omega
  | x :: xs, y :: ys, j + 1, a, b, hX, hY, h, ha, hb => by
    by_cases c : Tr.wt x ≤ Tr.wt y
    · rw [mrg_le c, List.take_succ_cons, tw_cons]
      cases a with
      | zero =>
        obtain ⟨b, rfl⟩ : ∃ b', b = b' + 1 := ⟨b - 1, by omega⟩
        have ih := mrg_opt xs (y :: ys) j 0 b (srt_tail hX) hY (by omega) (Nat.zero_le _) (by omega)
        have h1 := tw_step (l := y :: ys) (i := b) (by omega)
        have h2 := srt_head hY (i := b) (by omega)
        have h3 : tw (xs.take 0) = 0 := rfl
        omega
      | succ a =>
        have ih := mrg_opt xs (y :: ys) j a b (srt_tail hX) hY (by omega) (by simpa using ha) hb
        rw [List.take_succ_cons, tw_cons]; omega
    · rw [mrg_gt c, List.take_succ_cons, tw_cons]
      cases b with
      | zero =>
        obtain ⟨a, rfl⟩ : ∃ a', a = a' + 1 := ⟨a - 1, by omega⟩
        have ih := mrg_opt (x :: xs) ys j a 0 hX (srt_tail hY) (by omega) (by omega) (Nat.zero_le _)
        have h1 := tw_step (l := x :: xs) (i := a) (by omega)
        have h2 := srt_head hX (i := a) (by omega)
        have h3 : tw (ys.take 0) = 0 := rfl
        omega
      | succ b =>
        have ih := mrg_opt (x :: xs) ys j a b hX (srt_tail hY) (by omega) ha (by simpa using hb)
        rw [List.take_succ_cons, tw_cons]; omega
termination_by X Y => X.length + Y.length
/-- what the first of a merged list are -/
theorem mrg_take : ∀ (X Y : List Tr) (j : Nat), Srt Tr.wt X → j ≤ X.length + Y.length → ∃ a b, a + b = j ∧ a ≤ X.length ∧ b ≤ Y.length ∧ ((mrg Tr.wt X Y).take j).Perm (X.take a ++ Y.take b) ∧ (∀ p, p < X.length → 0 < b → (X.map Tr.wt).getD p 0 ≤ (Y.map Tr.wt).getD (b - 1) 0 → p < a)
  | X, Y, 0, _, _ => ⟨0, 0, rfl, Nat.zero_le _, Nat.zero_le _, by simp, fun p _ h => absurd h (Nat.lt_irrefl _)⟩
  | [], Y, j + 1, _, h => ⟨0, j + 1, by omega, Nat.zero_le _, by simpa using h, by rw [mrg]; simp, fun p hp => by simp at hp⟩
  | x :: xs, [], j + 1, _, h => ⟨j + 1, 0, by omega, by simpa using h, Nat.zero_le _, by rw [mrg_nil]; simp, fun p _ h => absurd h (Nat.lt_irrefl _)⟩
  | x :: xs, y :: ys, j + 1, hX, h => by
    by_cases c : Tr.wt x ≤ Tr.wt y
    · obtain ⟨a, b, h1, h2, h3, h4, h5⟩ := mrg_take xs (y :: ys) j (srt_tail hX) (by simp at h ⊢; omega)
      refine ⟨a + 1, b, by omega, by simpa using h2, h3, ?_, fun p hp hb hw => ?_⟩
      · rw [mrg_le c, List.take_succ_cons, List.take_succ_cons]; exact h4.cons x
      · cases p with
        | zero => omega
        | succ p => have := h5 p (by simpa using hp) hb (by simpa using hw); omega
    · obtain ⟨a, b, h1, h2, h3, h4, h5⟩ := mrg_take (x :: xs) ys j hX (by simp at h ⊢; omega)
      refine ⟨a, b + 1, by omega, h2, by simpa using h3, ?_, fun p hp _ hw => ?_⟩
      · rw [mrg_gt c, List.take_succ_cons, List.take_succ_cons]
        exact (h4.cons y).trans List.perm_middle.symm
      · cases b with
        | zero =>
          exfalso
          have hw : ((x :: xs).map Tr.wt).getD p 0 ≤ y.wt := by simpa using hw
          rw [List.getD_eq_getElem?_getD, List.getElem?_map, List.getElem?_eq_getElem hp] at hw
          have := srt_head hX hp
          simp only [Option.map_some, Option.getD_some] at hw
          omega
        | succ b => exact h5 p hp (by omega) (by simpa using hw)
termination_by X Y => X.length + Y.length
theorem mrg_srt : ∀ (X Y : List Tr), Srt Tr.wt X → Srt Tr.wt Y → Srt Tr.wt (mrg Tr.wt X Y)
  | [], Y, _, h => by rw [mrg]; exact h
  | x :: xs, [], h, _ => by rw [mrg_nil]; exact h
  | x :: xs, y :: ys, hX, hY => by
    by_cases c : Tr.wt x ≤ Tr.wt y
    · rw [mrg_le c]
      refine List.pairwise_cons.2 ⟨fun z hz => ?_, mrg_srt xs (y :: ys) (srt_tail hX) hY⟩
      rcases (mrg_mem _ _ _ _).1 hz with h | h
      · exact (List.pairwise_cons.1 hX).1 z h
      · rcases List.mem_cons.1 h with rfl | h
        · exact c
        · have := (List.pairwise_cons.1 hY).1 z h; omega
    · rw [mrg_gt c]
      refine List.pairwise_cons.2 ⟨fun z hz => ?_, mrg_srt (x :: xs) ys hX (srt_tail hY)⟩
      rcases (mrg_mem _ _ _ _).1 hz with h | h
      · rcases List.mem_cons.1 h with rfl | h
        · omega
        · have := (List.pairwise_cons.1 hX).1 z h; omega
      · exact (List.pairwise_cons.1 hY).1 z h
termination_by X Y => X.length + Y.length
theorem pkg_srt : ∀ {l : List Tr}, Srt Tr.wt l → Srt Tr.wt (pkg l)
  | [], _ => List.Pairwise.nil
  | [_], _ => List.Pairwise.nil
  | a :: b :: l, h => by
    rw [pkg]
    have hb := srt_tail h
    refine List.pairwise_cons.2 ⟨fun z hz => ?_, pkg_srt (srt_tail hb)⟩
    have key : ∀ (m : List Tr) (w : Nat), (∀ x ∈ m, w ≤ x.wt) → ∀ z ∈ pkg m, w + w ≤ z.wt := by
      intro m w
      induction m using pkg.induct with
      | case1 c d m ih =>
        intro hm z hz
        rw [pkg, List.mem_cons] at hz
        rcases hz with rfl | hz
        · have h1 := hm c (by simp); have h2 := hm d (by simp); simp only [Tr.wt]; omega
        · exact ih (fun x hx => hm x (by simp [hx])) z hz
      | case2 m hm' =>
        intro _ z hz
        match m, hm', hz with
        | [], _, hz => simp [pkg] at hz
        | [_], _, hz => simp [pkg] at hz
        | c :: d :: m, hm', _ => exact (hm' c d m rfl).elim
    have h1 := key l b.wt (fun x hx => (List.pairwise_cons.1 hb).1 x hx) z hz
    have h2 := (List.pairwise_cons.1 h).1 b (by simp)
    show a.wt + b.wt ≤ z.wt
    omega
theorem pkg_tk : ∀ (l : List Tr) (b : Nat), 2 * b ≤ l.length → (pkg l).take b = pkg (l.take (2 * b))
  | l, 0, _ => by simp [pkg]
  | a :: c :: l, b + 1, h => by
    rw [show 2 * (b + 1) = 2 * b + 1 + 1 by omega, List.take_succ_cons, List.take_succ_cons, pkg, pkg, List.take_succ_cons, pkg_tk l b (by simp at h; omega)]
  | [_], b + 1, h => by simp at h; omega
  | [], b + 1, h => by simp at h
theorem pkg_even : ∀ (k : Nat) (l : List Tr), l.length = 2 * k → tw (pkg l) = tw l ∧ (pkg l).flatMap Tr.sy = l.flatMap Tr.sy
  | 0, [], _ => ⟨rfl, rfl⟩
  | 0, _ :: _, h => by simp at h
  | k + 1, [], h => by simp at h
  | k + 1, [_], h => by simp at h; omega
  | k + 1, a :: b :: l, h => by
    obtain ⟨h1, h2⟩ := pkg_even k l (by simp at h; omega)
    rw [pkg]
    refine ⟨by rw [tw_cons, tw_cons, tw_cons, h1]; simp only [Tr.wt]; omega, ?_⟩
    rw [List.flatMap_cons, List.flatMap_cons, List.flatMap_cons, h2, Tr.sy, List.append_assoc]
theorem lvl_srt {S : List Tr} (h : Srt Tr.wt S) : ∀ k, Srt Tr.wt (lvl S k)
  | 0 => h
  | k + 1 => mrg_srt _ _ h (pkg_srt (lvl_srt h k))
/-- sums over the levels -/
def vl : Nat → (Nat → Nat) → Nat
  | 0, _ => 0
  | m + 1, c => c 0 * 2 ^ m + vl m (fun d => c (d + 1))
def sm : Nat → (Nat → Nat) → Nat
  | 0, _ => 0
  | m + 1, c => c 0 + sm m (fun d => c (d + 1))
theorem vl_half {j c k V : Nat} (h : j * 2 ^ (k + 1) ≤ c * 2 ^ (k + 1) + V) : 2 * (j - c) * 2 ^ k ≤ V := by
  rw [Nat.mul_comm 2, Nat.mul_assoc, Nat.mul_comm 2, ← Nat.pow_succ, Nat.sub_mul]
  show j * 2 ^ (k + 1) - c * 2 ^ (k + 1) ≤ V
  omega
theorem lvl_big {S : List Tr} : ∀ (k : Nat) (c : Nat → Nat), (∀ d, d ≤ k → c d ≤ S.length) → ∀ j, j * 2 ^ k ≤ vl (k + 1) c → j ≤ (lvl S k).length
  | 0, c, h, j, hj => by have := h 0 (Nat.le_refl _); simp [vl] at hj; simp only [lvl]; omega
  | k + 1, c, h, j, hj => by
    rw [vl] at hj
    have ih := lvl_big (S := S) k (fun d => c (d + 1)) (fun d hd => h (d + 1) (by omega)) _ (vl_half hj)
    have := h 0 (Nat.zero_le _)
    rw [lvl, mrg_len, pkg_len]; omega
theorem lvl_opt {S : List Tr} (hS : Srt Tr.wt S) : ∀ (k : Nat) (A : Nat → List Tr), (∀ d, d ≤ k → (A d).length ≤ S.length ∧ tw (S.take (A d).length) ≤ tw (A d)) → ∀ j, j * 2 ^ k ≤ vl (k + 1) (fun d => (A d).length) → tw ((lvl S k).take j) ≤ sm (k + 1) (fun d => tw (A d))
  | 0, A, h, j, hj => by
    have h0 := h 0 (Nat.le_refl _)
    simp [vl] at hj
    have := tw_mono S hj
    simp only [sm, lvl]; omega
  | k + 1, A, h, j, hj => by
    rw [vl] at hj
    have h0 := h 0 (Nat.zero_le _)
    have hh := vl_half hj
    have hb := lvl_big (S := S) k (fun d => (A (d + 1)).length) (fun d hd => (h (d + 1) (by omega)).1) _ hh
    have ih := lvl_opt hS k (fun d => A (d + 1)) (fun d hd => h (d + 1) (by omega)) _ hh
    have hp := pkg_len (lvl S k)
    have hm := mrg_opt S (pkg (lvl S k)) j (A 0).length (j - (A 0).length) hS (pkg_srt (lvl_srt hS k)) (by omega) h0.1 (by omega)
    rw [pkg_tk _ _ hb, (pkg_even (j - (A 0).length) _ (by rw [List.length_take]; omega)).1] at hm
    rw [lvl, sm]; omega
theorem pkg_at : ∀ (b : Nat) (l : List Tr) (h : 0 < b) (hb : 2 * b ≤ l.length), ((pkg l).map Tr.wt).getD (b - 1) 0 = (l[2 * b - 2]'(by omega)).wt + (l[2 * b - 1]'(by omega)).wt
  | 1, a :: c :: l, _, _ => by simp [pkg, Tr.wt]
  | b + 2, a :: c :: l, _, hb => by
    have := pkg_at (b + 1) l (by omega) (by simp at hb; omega)
    have e1 : 2 * (b + 2) - 2 = 2 * (b + 1) - 2 + 1 + 1 := by omega
    have e2 : 2 * (b + 2) - 1 = 2 * (b + 1) - 1 + 1 + 1 := by omega
    simp only [e1, e2, List.getElem_cons_succ, pkg, List.map_cons]
    rw [← this]; rfl
  | 1, [_], _, h => by simp at h
  | 1, [], _, h => by simp at h
  | b + 2, [_], _, h => by simp at h; omega
  | b + 2, [], _, h => by simp at h
/-- what the first of a level are: of each level some first singles, fewer and fewer -/
theorem lvl_str {S : List Tr} (hS : Srt Tr.wt S) : ∀ (k j : Nat), j ≤ (lvl S k).length → ∃ a : Nat → Nat, (∀ d, d ≤ k → a d ≤ S.length) ∧ (∀ d, d + 1 ≤ k → a (d + 1) ≤ a d) ∧ vl (k + 1) a = j * 2 ^ k ∧ (∀ s, (((lvl S k).take j).flatMap Tr.sy).count s = sm (k + 1) (fun d => ((S.take (a d)).flatMap Tr.sy).count s)) ∧ (∀ t ∈ S.take (a 0), t ∈ (lvl S k).take j) ∧ tw ((lvl S k).take j) = sm (k + 1) (fun d => tw (S.take (a d)))
  | 0, j, hj => ⟨fun _ => j, fun _ _ => hj, fun _ h => absurd h (by omega), by simp [vl], fun s => by simp [sm, lvl], fun t ht => ht, by simp [sm, lvl]⟩
  | k + 1, j, hj => by
    rw [lvl, mrg_len] at hj
    obtain ⟨a0, b, h1, h2, h3, h4, h5⟩ := mrg_take S (pkg (lvl S k)) j hS hj
    rw [pkg_len] at h3
    obtain ⟨a, g1, g2, g3, g4, g5, g6⟩ := lvl_str hS k (2 * b) (by omega)
    have hpt := pkg_tk (lvl S k) b (by omega)
    obtain ⟨hpw, hpe⟩ := pkg_even b ((lvl S k).take (2 * b)) (by rw [List.length_take]; omega)
    refine ⟨fun d => match d with | 0 => a0 | d + 1 => a d, fun d hd => ?_, fun d hd => ?_, ?_, fun s => ?_, fun t ht => ?_, ?_⟩
    · cases d with
      | zero => exact h2
      | succ d => exact g1 d (by omega)
    · cases d with
      | zero =>
        show a 0 ≤ a0
        rcases Nat.eq_zero_or_pos (a 0) with e | e
        · omega
        · have ha := g1 0 (Nat.zero_le _)
          have hp : a 0 - 1 < S.length := by omega
          have hm := g5 S[a 0 - 1] (List.mem_take_iff_getElem.2 ⟨a 0 - 1, by omega, rfl⟩)
          obtain ⟨q, hq, he⟩ := List.mem_take_iff_getElem.1 hm
          have hb0 : 0 < b := by omega
          have hl1 : 2 * b - 1 < (lvl S k).length := by omega
          have hl2 : 2 * b - 2 < (lvl S k).length := by omega
          have hle : S[a 0 - 1].wt ≤ (lvl S k)[2 * b - 1].wt := by
            rw [← he]
            by_cases e2 : q = 2 * b - 1
            · subst e2; exact Nat.le_refl _
            · exact List.pairwise_iff_getElem.1 (lvl_srt hS k) q (2 * b - 1) (by omega) hl1 (by omega)
          have hpk : ((pkg (lvl S k)).map Tr.wt).getD (b - 1) 0 = (lvl S k)[2 * b - 2].wt + (lvl S k)[2 * b - 1].wt := pkg_at _ _ (by omega) (by omega)
          have hsp : (S.map Tr.wt).getD (a 0 - 1) 0 = S[a 0 - 1].wt := by rw [List.getD_eq_getElem?_getD, List.getElem?_map, List.getElem?_eq_getElem hp]; rfl
          have := h5 (a 0 - 1) hp hb0 (by rw [hpk, hsp]; omega)
          omega
      | succ d => exact g2 d (by omega)
    · show a0 * 2 ^ (k + 1) + vl (k + 1) a = _
      rw [g3, ← h1, Nat.add_mul, Nat.pow_succ, Nat.mul_comm 2 b, Nat.mul_assoc b 2, Nat.mul_comm 2 (2 ^ k)]
    · show _ = ((S.take a0).flatMap Tr.sy).count s + sm (k + 1) (fun d => ((S.take (a d)).flatMap Tr.sy).count s)
      rw [← g4 s, ← hpe, ← hpt, lvl, ← List.count_append, ← List.flatMap_append]
      exact (h4.flatMap_right Tr.sy).count_eq s
    · rw [lvl]; exact h4.mem_iff.2 (List.mem_append_left _ ht)
    · show _ = tw (S.take a0) + sm (k + 1) (fun d => tw (S.take (a d)))
      rw [← g6, ← hpw, ← hpt, lvl, ← tw_app]
      exact perm_sum (h4.map Tr.wt)
end Go.Proofs.Ytdcgmkoonanpgaa
