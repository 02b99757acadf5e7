/- prefix: package-merge, plain; the stable sort of few. -/
import Derived.Test.YtdcgmkoonanpgaaPf11
namespace Go.Proofs.Ytdcgmkoonanpgaa
set_option linter.unusedSimpArgs false
set_option linter.unusedVariables false
open Go.RowKit Sym

theorem srt_all {α : Type} (g : α → Nat) (xs : List α) : srt g xs 0 xs.length = isort g xs := by unfold srt; simp
theorem pos_map {α β : Type} (g : α → Nat) (g' : β → Nat) (m : α → β) (hg : ∀ a, g' (m a) = g a) (S : List α) : (S.map m).map g' = S.map g := by
  rw [List.map_map]; exact List.map_congr_left fun a _ => hg a
theorem ins_map {α β : Type} (g : α → Nat) (g' : β → Nat) (m : α → β) (hg : ∀ a, g' (m a) = g a) (x : α) (S : List α) : (ins g x S).map m = ins g' (m x) (S.map m) := by
  unfold ins
  rw [pos_map g g' m hg, hg, List.length_map, List.map_append, List.map_take, List.map_cons, List.map_drop]
theorem isort_map {α β : Type} (g : α → Nat) (g' : β → Nat) (m : α → β) (hg : ∀ a, g' (m a) = g a) (xs : List α) : (isort g xs).map m = isort g' (xs.map m) := by
  unfold isort
  have key : ∀ (xs S : List α), (xs.foldl (fun S x => ins g x S) S).map m = (xs.map m).foldl (fun S x => ins g' x S) (S.map m) := by
    intro xs
    induction xs with
    | nil => intro S; rfl
    | cons x xs ih => intro S; rw [List.foldl_cons, ih, List.map_cons, List.foldl_cons, ins_map g g' m hg]
  exact key xs []
theorem fmap_congr {α β : Type} {f g : α → Option β} : ∀ {l : List α}, (∀ x ∈ l, f x = g x) → l.filterMap f = l.filterMap g
  | [], _ => rfl
  | a :: l, h => by rw [List.filterMap_cons, List.filterMap_cons, h a (by simp), fmap_congr fun x hx => h x (by simp [hx])]
/-- the singles -/
def sgl (fs : List Nat) : List Tr := (List.range fs.length).filterMap fun i => if 0 < fs.getD i 0 then some (Tr.leaf (fs.getD i 0) i) else none
theorem sgl_snoc {fs : List Nat} {i : Nat} (hi : i < fs.length) : sgl (fs.take (i + 1)) = sgl (fs.take i) ++ (if 0 < fs[i] then [Tr.leaf fs[i] i] else []) := by
  unfold sgl
  rw [List.length_take, List.length_take, Nat.min_eq_left (by omega), Nat.min_eq_left (by omega), List.range_succ, List.filterMap_append]
  congr 1
  · refine fmap_congr fun j hj => ?_
    have hj := List.mem_range.1 hj
    have e : (fs.take (i + 1)).getD j 0 = (fs.take i).getD j 0 := by rw [List.getD_eq_getElem?_getD, List.getD_eq_getElem?_getD, List.getElem?_take, List.getElem?_take, if_pos hj, if_pos (by omega)]
    rw [e]
  · have e : (fs.take (i + 1)).getD i 0 = fs[i] := by rw [List.getD_eq_getElem?_getD, List.getElem?_take, if_pos (by omega), List.getElem?_eq_getElem hi]; rfl
    by_cases h : 0 < fs[i]
    · rw [if_pos h]; simp only [List.filterMap, e, if_pos h]
    · rw [if_neg h]; simp only [List.filterMap, e, if_neg h]
def Gd (n : Nat) : Tr → Prop
  | .leaf f s => 1 ≤ f ∧ s < n
  | .node a b => Gd n a ∧ Gd n b
theorem Gd.sy {n : Nat} : ∀ {t : Tr}, Gd n t → (∀ s ∈ t.sy, s < n) ∧ t.sy.length ≤ t.wt
  | .leaf f s, h => ⟨fun y hy => by simp [Tr.sy] at hy; subst hy; exact h.2, by simp [Tr.sy, Tr.wt]; exact h.1⟩
  | .node a b, h => by
    have ha := Gd.sy h.1
    have hb := Gd.sy h.2
    refine ⟨fun y hy => ?_, by simp only [Tr.sy, Tr.wt, List.length_append]; omega⟩
    rcases List.mem_append.1 hy with h1 | h1
    · exact ha.1 y h1
    · exact hb.1 y h1
theorem sgl_spec {fs : List Nat} {B : Nat} (hB : ∀ f ∈ fs, f ≤ B) : ∀ t ∈ sgl fs, ∃ f s, t = Tr.leaf f s ∧ 1 ≤ f ∧ f ≤ B ∧ s < fs.length := by
  intro t ht
  unfold sgl at ht
  obtain ⟨i, hi, h⟩ := List.mem_filterMap.1 ht
  have hi := List.mem_range.1 hi
  have e : fs.getD i 0 = fs[i] := by rw [List.getD_eq_getElem?_getD, List.getElem?_eq_getElem hi]; rfl
  split at h
  · cases h; exact ⟨_, _, rfl, by omega, by rw [e]; exact hB _ (List.getElem_mem hi), hi⟩
  · cases h
theorem sgl_len (fs : List Nat) : (sgl fs).length ≤ fs.length := by
  unfold sgl
  have := List.length_filterMap_le (fun i => if 0 < fs.getD i 0 then some (Tr.leaf (fs.getD i 0) i) else none) (List.range fs.length)
  simpa using this
/-- the lists of the package-merge algorithm -/
def lvl (S : List Tr) : Nat → List Tr
  | 0 => S
  | k + 1 => mrg Tr.wt S (pkg (lvl S k))
abbrev tw (l : List Tr) : Nat := (l.map Tr.wt).sum
theorem mrg_tw : ∀ (xs ys : List Tr), tw (mrg Tr.wt xs ys) = tw xs + tw ys
  | [], ys => by rw [mrg]; simp [tw]
  | x :: xs, [] => by rw [mrg_nil]; simp [tw]
  | x :: xs, y :: ys => by
    by_cases h : Tr.wt x ≤ Tr.wt y
    · have := mrg_tw xs (y :: ys)
      rw [mrg_le h]; simp only [tw, List.map_cons, List.sum_cons] at *; omega
    · have := mrg_tw (x :: xs) ys
      rw [mrg_gt h]; simp only [tw, List.map_cons, List.sum_cons] at *; omega
termination_by xs ys => xs.length + ys.length
theorem pkg_tw : ∀ l : List Tr, tw (pkg l) ≤ tw l
  | [] => Nat.le_refl _
  | [_] => by simp [pkg, tw]
  | a :: b :: l => by have := pkg_tw l; simp only [pkg, tw, List.map_cons, List.sum_cons, Tr.wt] at *; omega
theorem pkg_gd {n : Nat} : ∀ {l : List Tr}, (∀ t ∈ l, Gd n t) → ∀ t ∈ pkg l, Gd n t
  | [], _, t, ht => by simp [pkg] at ht
  | [_], _, t, ht => by simp [pkg] at ht
  | a :: b :: l, h, t, ht => by
    rw [pkg, List.mem_cons] at ht
    rcases ht with rfl | ht
    · exact ⟨h a (by simp), h b (by simp)⟩
    · exact pkg_gd (fun x hx => h x (by simp [hx])) t ht
theorem lvl_tw (S : List Tr) : ∀ k, tw (lvl S k) ≤ (k + 1) * tw S
  | 0 => by simp [lvl]
  | k + 1 => by
    have h1 := lvl_tw S k
    have h2 := pkg_tw (lvl S k)
    rw [lvl, mrg_tw, Nat.succ_mul]; omega
theorem lvl_gd {n : Nat} {S : List Tr} (h : ∀ t ∈ S, Gd n t) : ∀ k, ∀ t ∈ lvl S k, Gd n t
  | 0, t, ht => h t ht
  | k + 1, t, ht => by
    rw [lvl, mrg_mem] at ht
    rcases ht with ht | ht
    · exact h t ht
    · exact pkg_gd (lvl_gd h k) t ht
theorem lvl_len {S : List Tr} (h : 0 < S.length) : ∀ k, (lvl S k).length < 2 * S.length ∧ (2 * S.length - (lvl S k).length - 1) * 2 ^ k < S.length
  | 0 => by simp [lvl]; omega
  | k + 1 => by
    have ⟨h1, h2⟩ := lvl_len h k
    rw [lvl, mrg_len, pkg_len]
    refine ⟨by omega, ?_⟩
    have e : 2 * (2 * S.length - (S.length + (lvl S k).length / 2) - 1) ≤ 2 * S.length - (lvl S k).length - 1 := by omega
    have := Nat.mul_le_mul_right (2 ^ k) e
    rw [Nat.pow_succ, Nat.mul_comm (2 ^ k) 2, ← Nat.mul_assoc, Nat.mul_comm _ 2]; omega
theorem lvl_long {S : List Tr} {m : Nat} (h : 0 < S.length) (hm : 1 ≤ m) (hc : S.length ≤ 2 ^ m) : 2 * S.length - 2 ≤ (lvl S (m - 1)).length := by
  have ⟨h1, h2⟩ := lvl_len h (m - 1)
  have e : 2 ^ m = 2 * 2 ^ (m - 1) := by rw [← Nat.pow_succ']; congr 1; omega
  have hlt : (2 * S.length - (lvl S (m - 1)).length - 1) * 2 ^ (m - 1) < 2 * 2 ^ (m - 1) := by omega
  have := Nat.lt_of_mul_lt_mul_right hlt
  omega
theorem flat_len {n : Nat} : ∀ {l : List Tr}, (∀ t ∈ l, Gd n t) → (l.flatMap Tr.sy).length ≤ tw l
  | [], _ => Nat.le_refl _
  | a :: l, h => by
    have h1 := (h a (by simp)).sy.2
    have h2 := flat_len (fun t ht => h t (by simp [ht]) : ∀ t ∈ l, Gd n t)
    simp only [List.flatMap_cons, List.length_append, tw, List.map_cons, List.sum_cons] at *; omega
theorem tw_take (l : List Tr) (k : Nat) : tw (l.take k) ≤ tw l := by
  have : tw (l.take k ++ l.drop k) = tw (l.take k) + tw (l.drop k) := by simp only [tw, List.map_append, List.sum_append]
  rw [List.take_append_drop] at this; omega
theorem tw_le {l : List Tr} {B : Nat} (h : ∀ t ∈ l, t.wt ≤ B) : tw l ≤ B * l.length := by
  induction l with
  | nil => simp [tw]
  | cons a l ih =>
    have h1 := h a (by simp)
    have h2 := ih fun t ht => h t (by simp [ht])
    simp only [tw, List.map_cons, List.sum_cons, List.length_cons, Nat.mul_succ] at *; omega
theorem tw_mem {l : List Tr} {t : Tr} (h : t ∈ l) : t.wt ≤ tw l := by
  induction l with
  | nil => cases h
  | cons a l ih =>
    rcases List.mem_cons.1 h with rfl | h
    · simp [tw]
    · have := ih h; simp only [tw, List.map_cons, List.sum_cons] at *; omega
def zeros (n : Nat) : List Int := List.replicate n 0
/-- the lengths -/
def ini (S : List Tr) (n : Nat) : List Int := if S.length = 1 then bump (zeros n) (S.flatMap Tr.sy) else zeros n
def lens (S : List Tr) (n m : Nat) : List Int := if S.length < 2 then ini S n else bump (zeros n) (((lvl S (m - 1)).take (2 * S.length - 2)).flatMap Tr.sy)
abbrev Sg (zs : List Int) : List Tr := isort Tr.wt (sgl (toN zs))
def lnv (zs : List Int) (most : Int) : List Int × Int :=
  if 4096 < zs.length then ([], 4) else if ¬ okr zs 1099511627776 = true then ([], 3) else if most < 1 ∨ 30 < most then ([], 3) else if 2 ^ most.toNat < (Sg zs).length then ([], 16) else (lens (Sg zs) zs.length most.toNat, 0)
theorem stable_few (p : Value) (xs : List It) (P : List It) (w : World) (hs : Sep w [Rg.sl ip 97 p xs, Rg.pool P P]) (hx : ∀ x ∈ xs, x ∈ P) (hlen : xs.length ≤ 19) :
    Ret Try.prog 80 #[p, i64 (xs.length : Int), fnv 58 []] w fun v w' => M w (fpU [Rg.sl ip 97 p xs, Rg.pool P P]) w' [Rg.sl ip 97 p (isort wi xs), Rg.pool P P] := by
  have hM := M.startS hs
  refine enter Try.func80 rfl (by kernel_rfl) Try.ntmps80 rfl ?_
  refine C.seq <| C.region <| E.asg rfl rfl <| E.nil <| X.next <| C.seq <| C.region <| E.mv rfl rfl <| E.asg rfl rfl <| E.asg rfl rfl <| E.nil <| X.next <| C.seq <| C.block <| ?_

  refine C.loop1 [(0, _), (1, _), (2, _), (6, _)] rfl (fun (i : Nat) => [(7, i64 0), (8, i64 20)]) (fun (i : Nat) w' => M w (fpU [Rg.sl ip 97 p xs, Rg.pool P P]) w' [Rg.sl ip 97 p xs, Rg.pool P P]) (fun (i : Nat) => 0) 0 ?_ ?_ ?_
  · exact Sub.cons rfl <| Sub.cons rfl <| Sub.nil _
  · exact hM
  rintro i w0 hM
  refine C.seq <| C.seq <| C.region <| E.mv rfl rfl <| E.mv rfl rfl <| E.bin rfl rfl rfl rfl <| E.nil <| X.next <| ?_
  refine C.cond' rfl (fun hC0 => ?_) (fun hC0 => ?_)
  ·
    omega
  ·
    refine C.exit <| X.exitT <| X.exitT <| X.outE <| X.next <| C.seq <| C.region <| E.mv rfl rfl <| E.mv rfl rfl <| E.mv rfl rfl <| E.mv rfl rfl <| ?_
    refine E.call rfl rfl (isort_ret p xs 0 xs.length P _ (hM.pick [0, 1] (by decide)).sep hx (Nat.zero_le _) (Nat.le_refl _) (by omega)) ?_
    rintro _ w2 m
    have hM := hM.calls [0, 1] (by decide) rfl (by simp) m
    rw [srt_all] at hM
    try dsimp only [List.nil_append, List.cons_append, List.set_cons_zero, List.set_cons_succ, repl] at hM
    refine E.nil <| X.next <| C.block <| ?_

    refine C.loop1 [(0, _), (1, _), (2, _)] rfl (fun (i : Nat) => [(6, i64 20)]) (fun (i : Nat) w' => M w (fpU [Rg.sl ip 97 p xs, Rg.pool P P]) w' [Rg.sl ip 97 p (isort wi xs), Rg.pool P P]) (fun (i : Nat) => 0) 0 ?_ ?_ ?_
    · exact Sub.cons rfl <| Sub.nil _
    · exact hM
    rintro i w2 hM
    refine C.seq <| C.seq <| C.region <| E.mv rfl rfl <| E.mv rfl rfl <| E.bin rfl rfl rfl rfl <| E.nil <| X.next <| ?_
    refine C.cond' rfl (fun hC1 => ?_) (fun hC1 => ?_)
    ·
      omega
    ·
      refine C.exit <| X.exitT <| X.exitT <| X.outE <| end0 rfl ?_
      exact hM

theorem sort_few (p : Value) (xs : List It) (P : List It) (w : World) (hs : Sep w [Rg.sl ip 97 p xs, Rg.pool P P]) (hx : ∀ x ∈ xs, x ∈ P) (hlen : xs.length ≤ 19) :
    Ret Try.prog 57 #[p, fnv 58 []] w fun v w' => M w (fpU [Rg.sl ip 97 p xs, Rg.pool P P]) w' [Rg.sl ip 97 p (isort wi xs), Rg.pool P P] := by
  have hM := M.startS hs
  refine enter Try.func57 rfl (by kernel_rfl) Try.ntmps57 rfl ?_
  refine C.region <| E.mv rfl rfl <| E.mv rfl rfl <| ?_
  refine E.lenv rfl (Rd.shape (hM.sl 0 rfl)) Try.underlying96 rfl ?_
  refine E.mv rfl rfl <| ?_
  refine E.call rfl rfl (stable_few p xs P _ (hM.pick [0, 1] (by decide)).sep hx hlen) ?_
  rintro _ w2 m
  have hM := hM.calls [0, 1] (by decide) rfl (by simp) m
  try dsimp only [List.nil_append, List.cons_append, List.set_cons_zero, List.set_cons_succ, repl] at hM
  refine E.nil <| end0 rfl ?_
  exact hM

end Go.Proofs.Ytdcgmkoonanpgaa
