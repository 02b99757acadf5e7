/- prefix: insertion sort. -/
import Derived.Test.YtdcgmkoonanpgaaPf10
import Derived.Test.YtdcgmkoonanpgaaPf4
namespace Go.Proofs.Ytdcgmkoonanpgaa
set_option linter.unusedSimpArgs false
set_option linter.unusedVariables false
open Go.RowKit Sym

theorem Sym.Y.idxW {P : Program} {ops : Array Oper} {s : St} {env : Env} {w : World} {d : Nat} {ty : TypeId} {pos : String} {aft : Array Edge} (w1 : World) {α : Type} {enc : α → Value} {l : List α} {t e : TypeId} {x ix : Operand} {kd : IntKind} {i : Int} {v : Value} (k : Nat) (hx : ev env x = some v) (hi : ev env ix = some (.int kd i)) (hR : RdL enc w1 v l) (hk : i = (k : Int)) (h1 : k < l.length)
    (ht : P.underlying t = some (.slice e)) (hs : (P.info? e).map (·.size) = some 1) : Yld P ops s env w ⟨some d, .indexAddr t x ix, ty, pos, aft, none⟩ (.pointer (some (el v k))) := by
  subst hk
  obtain ⟨a, cap, rfl, hc1, hc2, hl, ha0, hat⟩ := hR
  obtain ⟨b, off, rfl⟩ := ha0 (by rw [List.length_map]; omega)
  refine Yld.of fun a' ha => ?_
  cases hq : P.info? e with
  | none => simp [hq] at hs
  | some inf =>
    have hs' : inf.size = 1 := by simpa [hq] using hs
    simp [execOp, ha.ev hx, ha.ev hi, Instr.indexAt, asIntOf, run_underlying ht, sizeOf, typeInfo, hq, hs', h1, addr_add, el, bs]
/-- the place behind those that are not heavier, from the end -/
def pos (w : Nat) (ws : List Nat) : Nat → Nat
  | 0 => 0
  | k + 1 => if w < ws.getD k 0 then pos w ws k else k + 1
theorem pos_le (w : Nat) (ws : List Nat) : ∀ k, pos w ws k ≤ k
  | 0 => Nat.le_refl _
  | k + 1 => by
    rw [pos]
    split
    · have := pos_le w ws k; omega
    · exact Nat.le_refl _
def ins {α : Type} (g : α → Nat) (x : α) (S : List α) : List α := S.take (pos (g x) (S.map g) S.length) ++ x :: S.drop (pos (g x) (S.map g) S.length)
def isort {α : Type} (g : α → Nat) (xs : List α) : List α := xs.foldl (fun S x => ins g x S) []
theorem isort_snoc {α : Type} (g : α → Nat) (xs : List α) (x : α) : isort g (xs ++ [x]) = ins g x (isort g xs) := by unfold isort; rw [List.foldl_append]; rfl
theorem ins_len {α : Type} (g : α → Nat) (x : α) (S : List α) : (ins g x S).length = S.length + 1 := by
  have := pos_le (g x) (S.map g) S.length
  unfold ins; simp; omega
theorem ins_perm {α : Type} (g : α → Nat) (x : α) (S : List α) : (ins g x S).Perm (x :: S) := by
  have h := List.perm_middle (a := x) (l₁ := S.take (pos (g x) (S.map g) S.length)) (l₂ := S.drop (pos (g x) (S.map g) S.length))
  rw [List.take_append_drop] at h; exact h
theorem isort_perm {α : Type} (g : α → Nat) : ∀ (n : Nat) (xs : List α), xs.length = n → (isort g xs).Perm xs
  | 0, [], _ => List.Perm.refl _
  | n + 1, xs, h => by
    obtain ⟨ys, x, rfl⟩ : ∃ ys x, xs = ys ++ [x] := ⟨xs.dropLast, xs.getLast (by intro e; subst e; simp at h), (List.dropLast_concat_getLast _).symm⟩
    rw [isort_snoc]
    refine (ins_perm g x _).trans ?_
    refine ((isort_perm g n ys (by simp at h; exact h)).cons x).trans ?_
    exact (List.perm_append_singleton x ys).symm
theorem isort_len {α : Type} (g : α → Nat) (xs : List α) : (isort g xs).length = xs.length := (isort_perm g _ xs rfl).length_eq
theorem isort_mem {α : Type} (g : α → Nat) (xs : List α) (z : α) : z ∈ isort g xs ↔ z ∈ xs := (isort_perm g _ xs rfl).mem_iff
def srt {α : Type} (g : α → Nat) (xs : List α) (a i : Nat) : List α := xs.take a ++ isort g ((xs.drop a).take (i - a)) ++ xs.drop i
theorem srt_zero {α : Type} (g : α → Nat) (xs : List α) (a : Nat) : srt g xs a a = xs := by
  unfold srt; rw [Nat.sub_self, List.take_zero]; show xs.take a ++ [] ++ xs.drop a = xs; rw [List.append_nil, List.take_append_drop]
theorem srt_one {α : Type} (g : α → Nat) (xs : List α) {a : Nat} (h : a < xs.length) : srt g xs a (a + 1) = xs := by
  unfold srt
  have e : (xs.drop a).take (a + 1 - a) = [xs[a]] := by rw [Nat.add_sub_cancel_left, List.drop_eq_getElem_cons h]; rfl
  rw [e]
  show xs.take a ++ [xs[a]] ++ xs.drop (a + 1) = xs
  rw [List.take_append_getElem h, List.take_append_drop]
def dat {α : Type} (T S : List α) (x : α) (U : List α) (k : Nat) : List α := T ++ S.take k ++ x :: S.drop k ++ U
theorem dat_len {α : Type} (T S : List α) (x : α) (U : List α) {k : Nat} (h : k ≤ S.length) : (dat T S x U k).length = T.length + S.length + 1 + U.length := by unfold dat; simp; omega
theorem dat_succ {α : Type} (T S : List α) (x : α) (U : List α) {m : Nat} (h : m < S.length) : dat T S x U (m + 1) = (T ++ S.take m) ++ S[m] :: x :: (S.drop (m + 1) ++ U) := by
  unfold dat; rw [← List.take_append_getElem h]; simp only [List.append_assoc, List.cons_append, List.nil_append]
theorem dat_here {α : Type} (T S : List α) (x : α) (U : List α) {m : Nat} (h : m < S.length) : dat T S x U m = (T ++ S.take m) ++ x :: S[m] :: (S.drop (m + 1) ++ U) := by
  unfold dat; rw [List.drop_eq_getElem_cons h]; simp only [List.append_assoc, List.cons_append, List.nil_append]
theorem dat_x {α : Type} (T S : List α) (x : α) (U : List α) {m j : Nat} (h : m < S.length) (e : j = T.length + m + 1) (hj : j < (dat T S x U (m + 1)).length) : (dat T S x U (m + 1))[j] = x := by
  have : (dat T S x U (m + 1))[j]? = some x := by
    rw [dat_succ T S x U h, List.getElem?_append_right (by simp; omega)]
    have : j - (T ++ S.take m).length = 1 := by simp; omega
    rw [this]; rfl
  rw [List.getElem?_eq_getElem hj, Option.some.injEq] at this; exact this
theorem dat_y {α : Type} (T S : List α) (x : α) (U : List α) {m j : Nat} (h : m < S.length) (e : j = T.length + m) (hj : j < (dat T S x U (m + 1)).length) : (dat T S x U (m + 1))[j] = S[m] := by
  have : (dat T S x U (m + 1))[j]? = some S[m] := by
    rw [dat_succ T S x U h, List.getElem?_append_right (by simp; omega)]
    have : j - (T ++ S.take m).length = 0 := by simp; omega
    rw [this]; rfl
  rw [List.getElem?_eq_getElem hj, Option.some.injEq] at this; exact this
theorem swap_set {α : Type} (A B : List α) (x y : α) {j i : Nat} (h1 : j = A.length + 1) (h2 : i = A.length) : ((A ++ y :: x :: B).set j y).set i x = A ++ x :: y :: B := by
  subst h1 h2
  rw [List.set_append_right _ _ (by omega), List.set_append_right _ _ (by omega), Nat.add_sub_cancel_left, Nat.sub_self]; rfl
theorem dat_swap {α : Type} (T S : List α) (x : α) (U : List α) {m j i : Nat} (h : m < S.length) (h1 : j = T.length + m + 1) (h2 : i = T.length + m) : ((dat T S x U (m + 1)).set j S[m]).set i x = dat T S x U m := by
  rw [dat_succ T S x U h, dat_here T S x U h]
  exact swap_set _ _ _ _ (by simp; omega) (by simp; omega)
theorem srt_dat {α : Type} (g : α → Nat) (xs : List α) {a i : Nat} (hi : i < xs.length) (ha : a ≤ i) : srt g xs a i = dat (xs.take a) (isort g ((xs.drop a).take (i - a))) xs[i] (xs.drop (i + 1)) (i - a) := by
  unfold srt dat
  have hl : (isort g ((xs.drop a).take (i - a))).length = i - a := by rw [isort_len]; simp; omega
  obtain ⟨S, hS⟩ : ∃ S, S = isort g ((xs.drop a).take (i - a)) := ⟨_, rfl⟩
  rw [← hS] at hl ⊢
  rw [List.take_of_length_le (show S.length ≤ i - a by omega), List.drop_of_length_le (show S.length ≤ i - a by omega), List.drop_eq_getElem_cons hi]
  simp only [List.append_assoc, List.cons_append, List.nil_append]
theorem srt_next {α : Type} (g : α → Nat) (xs : List α) {a i k : Nat} (hi : i < xs.length) (ha : a ≤ i) (hk : pos (g xs[i]) ((isort g ((xs.drop a).take (i - a))).map g) (i - a) = k) : dat (xs.take a) (isort g ((xs.drop a).take (i - a))) xs[i] (xs.drop (i + 1)) k = srt g xs a (i + 1) := by
  unfold srt dat
  have hl : (isort g ((xs.drop a).take (i - a))).length = i - a := by rw [isort_len]; simp; omega
  have e : (xs.drop a).take (i + 1 - a) = (xs.drop a).take (i - a) ++ [xs[i]] := by
    rw [show i + 1 - a = (i - a) + 1 by omega, ← List.take_append_getElem (show i - a < (xs.drop a).length by simp; omega), List.getElem_drop]
    congr 3; omega
  rw [e, isort_snoc, ins, hl, hk]; simp
theorem cmv_lt (a b : Nat) : cmv (a : Int) (b : Int) < 0 ↔ a < b := by
  unfold cmv
  split
  · constructor <;> intro <;> omega
  · split
    · constructor <;> intro h <;> omega
    · constructor <;> intro h <;> omega
theorem wget {S : List It} {m : Nat} (h : m < S.length) : (S.map wi).getD m 0 = wi S[m] := by rw [List.getD_eq_getElem?_getD, List.getElem?_map, List.getElem?_eq_getElem h]; rfl
set_option maxHeartbeats 2000000 in
theorem isort_ret (p : Value) (xs : List It) (a b : Nat) (P : List It) (w : World) (hs : Sep w [Rg.sl ip 97 p xs, Rg.pool P P]) (hx : ∀ x ∈ xs, x ∈ P) (ha : a ≤ b) (hb : b ≤ xs.length) (hlen : xs.length ≤ 1000000) :
    Ret Try.prog 89 #[p, i64 a, i64 b, fnv 58 []] w fun v w' => M w (fpU [Rg.sl ip 97 p xs, Rg.pool P P]) w' [Rg.sl ip 97 p (srt wi xs a b), Rg.pool P P] := by
  have hM := M.startS hs
  refine enter Try.func89 rfl (by kernel_rfl) Try.ntmps89 rfl ?_
  refine C.seq <| C.region <| E.mv rfl rfl <| ?_
  refine E.addN (b := 1) rfl rfl (by omega) rfl ?_
  refine E.asg rfl rfl <| E.nil <| X.next <| C.block <| ?_

  refine C.loop1 [(0, _), (1, _), (2, _), (3, _)] rfl (fun (i : Nat) => [(8, i64 i)]) (fun (i : Nat) w' => M w (fpU [Rg.sl ip 97 p xs, Rg.pool P P]) w' [Rg.sl ip 97 p (srt wi xs a (min i b)), Rg.pool P P] ∧ a + 1 ≤ i ∧ i ≤ max b (a + 1)) (fun (i : Nat) => b - i) (a + 1) ?_ ?_ ?_
  · exact Sub.cons rfl <| Sub.nil _
  · exact ⟨hM.to (Sym.two (by by_cases e : a < b; rw [Nat.min_eq_left (by omega), srt_one wi xs (by omega)]; rw [show min (a + 1) b = a by omega, srt_zero]) rfl), by omega, by omega⟩
  rintro i w0 ⟨hM, hi1, hi2⟩
  refine C.seq <| C.seq <| C.region <| E.mv rfl rfl <| E.mv rfl rfl <| E.bin rfl rfl rfl rfl <| E.nil <| X.next <| ?_
  refine C.cond' rfl (fun hC0 => ?_) (fun hC0 => ?_)
  ·
    have hi' : i < xs.length := by omega
    have hai : a ≤ i := by omega
    rw [Nat.min_eq_left (by omega), srt_dat wi xs hi' hai] at hM
    have hTl : (xs.take a).length = a := by rw [List.length_take]; omega
    have hSl : (isort wi ((xs.drop a).take (i - a))).length = i - a := by rw [isort_len]; simp; omega
    have hUl : (xs.drop (i + 1)).length = xs.length - (i + 1) := by simp
    have hxi := hx xs[i] (List.getElem_mem hi')
    have hSx : ∀ z ∈ (isort wi ((xs.drop a).take (i - a))), z ∈ P := fun z hz => hx z (List.mem_of_mem_drop (List.mem_of_mem_take ((isort_mem _ _ _).1 hz)))
    refine C.skip <| X.next <| C.seq <| C.block <| C.seq <| C.region <| E.mv rfl rfl <| E.asg rfl rfl <| E.nil <| X.next <| C.block <| ?_

    refine C.loop1 [(0, _), (1, _), (2, _), (3, _), (8, _)] rfl (fun (k : Nat) => [(9, i64 ((a + k : Nat) : Int))]) (fun (k : Nat) w' => M w (fpU [Rg.sl ip 97 p xs, Rg.pool P P]) w' [Rg.sl ip 97 p (dat (xs.take a) (isort wi ((xs.drop a).take (i - a))) xs[i] (xs.drop (i + 1)) k), Rg.pool P P] ∧ k ≤ i - a ∧ pos (wi xs[i]) ((isort wi ((xs.drop a).take (i - a))).map wi) (i - a) = pos (wi xs[i]) ((isort wi ((xs.drop a).take (i - a))).map wi) k) (fun (k : Nat) => k) (i - a) ?_ ?_ ?_
    · exact Sub.cons (look_val rfl (by omega)) <| Sub.nil _
    · exact ⟨hM, Nat.le_refl _, rfl⟩
    rintro k w1 ⟨hM, hk, hpos⟩
    refine C.seq <| ?_

    refine C.cut0 [(0, _), (1, _), (2, _), (3, _), (8, _), (9, _)] rfl [(34, .bool (decide (0 < k ∧ wi xs[i] < ((isort wi ((xs.drop a).take (i - a))).map wi).getD (k - 1) 0)))] (fun w' => M w (fpU [Rg.sl ip 97 p xs, Rg.pool P P]) w' [Rg.sl ip 97 p (dat (xs.take a) (isort wi ((xs.drop a).take (i - a))) xs[i] (xs.drop (i + 1)) k), Rg.pool P P]) ?_ ?_
    ·
      refine C.drawnT 14 (by kernel_rfl) (by kernel_rfl) fun wh2 hwh2 => ?_
      have hM := hM.ext hwh2
      refine S.mv rfl rfl <| S.mv rfl rfl <| S.bin rfl rfl rfl rfl <| S.mv rfl rfl <| ?_
      refine S.split 21 rfl (fun g21 => ?_) (fun g21 => ?_)
      ·
        try simp only [decide_eq_true_eq, decide_eq_false_iff_not, ne_eq, Decidable.not_not, Bool.not_eq_true', Bool.not_eq_false'] at g21
        obtain ⟨m, rfl⟩ : ∃ m, k = m + 1 := ⟨k - 1, by omega⟩
        have hm : m < (isort wi ((xs.drop a).take (i - a))).length := by omega
        refine S.on rfl rfl (S.mv rfl rfl ?_)
        refine S.on rfl rfl (S.mv rfl rfl ?_)
        refine S.on rfl rfl (S.mv rfl rfl ?_)
        refine S.on rfl rfl (S.idx1 (k := (a + (m + 1))) rfl rfl (hM.sl 0 rfl) rfl (by rw [dat_len _ _ _ _ (by omega)]; omega) Try.underlying95 (by kernel_rfl) rfl ?_)
        refine S.on rfl rfl (S.load rfl Try.underlying97 rfl ((hM.sl 0 rfl).cell (by rw [dat_len _ _ _ _ (by omega)]; omega)) rfl ?_)
        rw [dat_x _ _ _ _ hm (by omega)]
        refine S.on rfl rfl (S.mv rfl rfl ?_)
        refine S.on rfl rfl (S.mv rfl rfl ?_)
        refine S.on rfl rfl (S.subN (b := 1) rfl rfl (by omega) rfl ?_)
        refine S.on rfl rfl (S.idx1 (k := (a + (m + 1)) - 1) rfl rfl (hM.sl 0 rfl) rfl (by rw [dat_len _ _ _ _ (by omega)]; omega) Try.underlying95 (by kernel_rfl) rfl ?_)
        refine S.on rfl rfl (S.load rfl Try.underlying97 rfl ((hM.sl 0 rfl).cell (by rw [dat_len _ _ _ _ (by omega)]; omega)) rfl ?_)
        rw [dat_y _ _ _ _ hm (by omega)]
        refine S.nil ?_
        refine E.on rfl rfl (E.callv rfl rfl rfl (cmpw_ret xs[i] (isort wi ((xs.drop a).take (i - a)))[m] P P _ (hM.pool 1 rfl) hxi (hSx _ (List.getElem_mem hm))) ?_)
        rintro _ w3 ⟨rfl, x3⟩
        have hM := hM.ext x3
        have hcl := cmv_lt (wi xs[i]) (wi (isort wi ((xs.drop a).take (i - a)))[m])
        try dsimp only [List.nil_append, List.cons_append, List.set_cons_zero, List.set_cons_succ, repl] at hM
        refine E.on rfl rfl (E.bin rfl rfl rfl rfl ?_)

        refine E.pick rfl rfl rfl <| E.nil <| X.join0  (Sub.cons (look_eq rfl (by congr 1; apply decide_eq_decide.2; rw [hcl, Nat.add_sub_cancel, wget hm]; exact ⟨fun h => ⟨by omega, h⟩, fun h => h.2⟩)) <| Sub.nil _) rfl hM
      ·
        try simp only [decide_eq_true_eq, decide_eq_false_iff_not, ne_eq, Decidable.not_not, Bool.not_eq_true', Bool.not_eq_false'] at g21
        refine S.off rfl rfl rfl rfl <| S.off rfl rfl rfl rfl <| S.off rfl rfl rfl rfl <| S.off rfl rfl rfl rfl <| S.off rfl rfl rfl rfl <| S.off rfl rfl rfl rfl <| S.off rfl rfl rfl rfl <| S.off rfl rfl rfl rfl <| S.off rfl rfl rfl rfl <| S.off rfl rfl rfl rfl <| ?_
        refine S.nil ?_

        refine E.off rfl rfl rfl rfl <| E.off rfl rfl rfl rfl <| E.pick rfl rfl rfl <| E.nil <| X.join0  (Sub.cons (look_eq rfl (by congr 1; symm; apply decide_eq_false; intro h; omega)) <| Sub.nil _) rfl hM
    rintro  w4 hM
    refine C.cond' rfl (fun hC1 => ?_) (fun hC1 => ?_)
    ·
      obtain ⟨m, rfl⟩ : ∃ m, k = m + 1 := ⟨k - 1, by omega⟩
      have hm : m < (isort wi ((xs.drop a).take (i - a))).length := by omega
      obtain ⟨_, hlt⟩ := hC1
      rw [Nat.add_sub_cancel, wget hm] at hlt
      refine C.skip <| X.next <| C.seq <| C.block <| C.heldM hM [] (by decide) (by kernel_rfl) fun wh5 hM hS => ?_
      have hR := hM.sl 0 rfl
      refine H.take 0 rfl rfl (by kernel_rfl) (by kernel_rfl) (by kernel_rfl) hS (fun w' hM => Y.mv rfl) rfl ?_
      refine H.take 1 rfl rfl (by kernel_rfl) (by kernel_rfl) (by kernel_rfl) hS (fun w' hM => Y.mv rfl) rfl ?_
      refine H.take 2 rfl rfl (by kernel_rfl) (by kernel_rfl) (by kernel_rfl) hS (fun w' hM => Y.mv rfl) rfl ?_
      refine H.take 3 rfl rfl (by kernel_rfl) (by kernel_rfl) (by kernel_rfl) hS (fun w' hM => Y.mv rfl) rfl ?_
      refine H.take 4 rfl rfl (by kernel_rfl) (by kernel_rfl) (by kernel_rfl) hS (fun w' hM => Y.subN (b := 1) rfl rfl (by omega)) rfl ?_
      refine H.take 5 rfl rfl (by kernel_rfl) (by kernel_rfl) (by kernel_rfl) hS (fun w' hM => Y.mv rfl) rfl ?_
      refine H.take 6 rfl rfl (by kernel_rfl) (by kernel_rfl) (by kernel_rfl) hS (fun w' hM => Y.mv rfl) rfl ?_
      refine H.take 7 rfl rfl (by kernel_rfl) (by kernel_rfl) (by kernel_rfl) hS (fun w' hM => Y.subN (b := 1) rfl rfl (by omega)) rfl ?_
      refine H.takeV 8 rfl rfl (by kernel_rfl) (by kernel_rfl) (by kernel_rfl) hS (Y.idxW _ ((a + (m + 1)) - 1) rfl rfl hR rfl (by rw [dat_len _ _ _ _ (by omega)]; omega) Try.underlying95 (by kernel_rfl)) (fun w' hM => Y.idxW _ ((a + (m + 1)) - 1) rfl rfl hR rfl (by rw [dat_len _ _ _ _ (by omega)]; omega) Try.underlying95 (by kernel_rfl)) rfl ?_
      refine H.take 10 rfl rfl (by kernel_rfl) (by kernel_rfl) (by kernel_rfl) hS (fun w' hM => Y.mv rfl) rfl ?_
      refine H.take 11 rfl rfl (by kernel_rfl) (by kernel_rfl) (by kernel_rfl) hS (fun w' hM => Y.mv rfl) rfl ?_
      refine H.takeV 12 rfl rfl (by kernel_rfl) (by kernel_rfl) (by kernel_rfl) hS (Y.idxW _ ((a + (m + 1))) rfl rfl hR rfl (by rw [dat_len _ _ _ _ (by omega)]; omega) Try.underlying95 (by kernel_rfl)) (fun w' hM => Y.idxW _ ((a + (m + 1))) rfl rfl hR rfl (by rw [dat_len _ _ _ _ (by omega)]; omega) Try.underlying95 (by kernel_rfl)) rfl ?_
      refine H.two 9 13 rfl rfl (by kernel_rfl) ?_ ?_
      ·
        refine E.load rfl Try.underlying97 rfl ((hM.sl 0 rfl).cell (by rw [dat_len _ _ _ _ (by omega)]; omega)) rfl ?_
        rw [dat_y _ _ _ _ hm (by omega)]
        have hS := hM.pick [] (by decide)
        refine H.back hS ?_
        refine H.only 13 rfl (by kernel_rfl) ?_
        refine E.load rfl Try.underlying97 rfl ((hM.sl 0 rfl).cell (by rw [dat_len _ _ _ _ (by omega)]; omega)) rfl ?_
        rw [dat_x _ _ _ _ hm (by omega)]
        have hS := hM.pick [] (by decide)
        refine H.back hS ?_
        refine H.takeV 14 rfl rfl (by kernel_rfl) (by kernel_rfl) (by kernel_rfl) hS (Y.idxW _ ((a + (m + 1))) rfl rfl hR rfl (by rw [dat_len _ _ _ _ (by omega)]; omega) Try.underlying95 (by kernel_rfl)) (fun w' hM => Y.idxW _ ((a + (m + 1))) rfl rfl hR rfl (by rw [dat_len _ _ _ _ (by omega)]; omega) Try.underlying95 (by kernel_rfl)) rfl ?_
        refine H.only 15 rfl (by kernel_rfl) ?_
        refine E.storeL (j := (a + (m + 1))) 0 (isort wi ((xs.drop a).take (i - a)))[m] hM rfl rfl rfl (by kernel_rfl) rfl rfl (by rw [dat_len _ _ _ _ (by omega)]; omega) ?_
        intro w6 hM
        try dsimp only [List.nil_append, List.cons_append, List.set_cons_zero, List.set_cons_succ, repl] at hM
        have hS := hM.pick [] (by decide)
        refine H.back hS ?_
        refine H.takeV 16 rfl rfl (by kernel_rfl) (by kernel_rfl) (by kernel_rfl) hS (Y.idxW _ ((a + (m + 1)) - 1) rfl rfl hR rfl (by rw [dat_len _ _ _ _ (by omega)]; omega) Try.underlying95 (by kernel_rfl)) (fun w' hM => Y.idxW _ ((a + (m + 1)) - 1) rfl rfl hR rfl (by rw [dat_len _ _ _ _ (by omega)]; omega) Try.underlying95 (by kernel_rfl)) rfl ?_
        refine H.only 17 rfl (by kernel_rfl) ?_
        refine E.storeL (j := (a + (m + 1)) - 1) 0 xs[i] hM rfl rfl rfl (by kernel_rfl) rfl rfl (by rw [List.length_set]; rw [dat_len _ _ _ _ (by omega)]; omega) ?_
        intro w7 hM
        try dsimp only [List.nil_append, List.cons_append, List.set_cons_zero, List.set_cons_succ, repl] at hM
        rw [dat_swap _ _ _ _ hm (by omega) (by omega)] at hM
        have hS := hM.pick [] (by decide)
        refine H.back hS ?_
        refine H.done (by kernel_rfl) ?_
        refine X.outN <| X.next <| C.region <| E.mv rfl rfl <| ?_
        refine E.subN (b := 1) rfl rfl (by omega) rfl ?_

        refine E.asg rfl rfl <| E.nil <| X.again1 m (Sub.cons (look_val rfl (by omega)) <| Sub.nil _) rfl ⟨hM, by omega, by rw [hpos, pos, if_pos (by rw [wget hm]; exact hlt)]⟩ (by omega)
      ·
        refine E.load rfl Try.underlying97 rfl ((hM.sl 0 rfl).cell (by rw [dat_len _ _ _ _ (by omega)]; omega)) rfl ?_
        rw [dat_x _ _ _ _ hm (by omega)]
        have hS := hM.pick [] (by decide)
        refine H.back hS ?_
        refine H.only 9 rfl (by kernel_rfl) ?_
        refine E.load rfl Try.underlying97 rfl ((hM.sl 0 rfl).cell (by rw [dat_len _ _ _ _ (by omega)]; omega)) rfl ?_
        rw [dat_y _ _ _ _ hm (by omega)]
        have hS := hM.pick [] (by decide)
        refine H.back hS ?_
        refine H.takeV 14 rfl rfl (by kernel_rfl) (by kernel_rfl) (by kernel_rfl) hS (Y.idxW _ ((a + (m + 1))) rfl rfl hR rfl (by rw [dat_len _ _ _ _ (by omega)]; omega) Try.underlying95 (by kernel_rfl)) (fun w' hM => Y.idxW _ ((a + (m + 1))) rfl rfl hR rfl (by rw [dat_len _ _ _ _ (by omega)]; omega) Try.underlying95 (by kernel_rfl)) rfl ?_
        refine H.only 15 rfl (by kernel_rfl) ?_
        refine E.storeL (j := (a + (m + 1))) 0 (isort wi ((xs.drop a).take (i - a)))[m] hM rfl rfl rfl (by kernel_rfl) rfl rfl (by rw [dat_len _ _ _ _ (by omega)]; omega) ?_
        intro w8 hM
        try dsimp only [List.nil_append, List.cons_append, List.set_cons_zero, List.set_cons_succ, repl] at hM
        have hS := hM.pick [] (by decide)
        refine H.back hS ?_
        refine H.takeV 16 rfl rfl (by kernel_rfl) (by kernel_rfl) (by kernel_rfl) hS (Y.idxW _ ((a + (m + 1)) - 1) rfl rfl hR rfl (by rw [dat_len _ _ _ _ (by omega)]; omega) Try.underlying95 (by kernel_rfl)) (fun w' hM => Y.idxW _ ((a + (m + 1)) - 1) rfl rfl hR rfl (by rw [dat_len _ _ _ _ (by omega)]; omega) Try.underlying95 (by kernel_rfl)) rfl ?_
        refine H.only 17 rfl (by kernel_rfl) ?_
        refine E.storeL (j := (a + (m + 1)) - 1) 0 xs[i] hM rfl rfl rfl (by kernel_rfl) rfl rfl (by rw [List.length_set]; rw [dat_len _ _ _ _ (by omega)]; omega) ?_
        intro w9 hM
        try dsimp only [List.nil_append, List.cons_append, List.set_cons_zero, List.set_cons_succ, repl] at hM
        rw [dat_swap _ _ _ _ hm (by omega) (by omega)] at hM
        have hS := hM.pick [] (by decide)
        refine H.back hS ?_
        refine H.done (by kernel_rfl) ?_
        refine X.outN <| X.next <| C.region <| E.mv rfl rfl <| ?_
        refine E.subN (b := 1) rfl rfl (by omega) rfl ?_

        refine E.asg rfl rfl <| E.nil <| X.again1 m (Sub.cons (look_val rfl (by omega)) <| Sub.nil _) rfl ⟨hM, by omega, by rw [hpos, pos, if_pos (by rw [wget hm]; exact hlt)]⟩ (by omega)
    ·
      have hpk : pos (wi xs[i]) ((isort wi ((xs.drop a).take (i - a))).map wi) k = k := by
        cases k with
        | zero => rfl
        | succ m => rw [pos, if_neg]; exact fun h => hC1 ⟨by omega, h⟩
      rw [srt_next wi xs hi' hai (hpos.trans hpk)] at hM
      refine C.exit <| X.exitT <| X.exitT <| X.outE <| X.outN <| X.next <| C.region <| E.mv rfl rfl <| ?_
      refine E.addN (b := 1) rfl rfl (by omega) rfl ?_

      refine E.asg rfl rfl <| E.nil <| X.again1 (i + 1) (Sub.cons rfl <| Sub.nil _) rfl ⟨hM.to (Sym.two (by rw [Nat.min_eq_left (by omega)]) rfl), by omega, by omega⟩ (by omega)
  ·
    refine C.exit <| X.exitT <| X.exitT <| X.outE <| end0 rfl ?_
    exact hM.to (Sym.two (by by_cases e : a < b; rw [Nat.min_eq_right (by omega)]; rw [show min i b = a by omega, show b = a by omega]) rfl)

end Go.Proofs.Ytdcgmkoonanpgaa
