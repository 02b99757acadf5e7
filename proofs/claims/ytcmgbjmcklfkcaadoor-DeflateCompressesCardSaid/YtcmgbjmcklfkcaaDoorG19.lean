/- Texts of the claim, laid together: Pf11, Pf12. -/
import Derived.Test.YtcmgbjmcklfkcaaDoorG13
import Derived.Test.YtcmgbjmcklfkcaaDoorG18
/- prefix: insertion sort. -/
namespace Go.Proofs.YtcmgbjmcklfkcaaDoor
set_option linter.unusedSimpArgs false
set_option linter.unusedVariables false
open Go.RowKit Sym

theorem Sym.Y.idxW {P : Program} {ops : Array Oper} {s : St} {env : Env} {w : World} {d : Nat} {ty : TypeId} {pos : String} {aft : Array Edge} (w1 : World) {α : Type} {enc : α → Value} {l : List α} {t e : TypeId} {x ix : Operand} {kd : IntKind} {i : Int} {v : Value} (k : Nat) (hx : ev env x = some v) (hi : ev env ix = some (.int kd i)) (hR : RdL enc w1 v l) (hk : i = (k : Int)) (h1 : k < l.length)
    (ht : P.underlying t = some (.slice e)) (hs : (P.info? e).map (·.size) = some 1) : Yld P ops s env w ⟨some d, .indexAddr t x ix, ty, pos, aft, none⟩ (.pointer (some (el v k))) := by
  subst hk
  obtain ⟨a, cap, rfl, hc1, hc2, hl, ha0, hat⟩ := hR
  obtain ⟨b, off, rfl⟩ := ha0 (by rw [List.length_map]; omega)
  refine Yld.of fun a' ha => ?_
  cases hq : P.info? e with
  | none => simp [hq] at hs
  | some inf =>
    have hs' : inf.size = 1 := by simpa [hq] using hs
    simp [execOp, ha.ev hx, ha.ev hi, Instr.indexAt, asIntOf, run_underlying ht, sizeOf, typeInfo, hq, hs', h1, addr_add, el, bs]
/-- the place behind those that are not heavier, from the end -/
def pos (w : Nat) (ws : List Nat) : Nat → Nat
  | 0 => 0
  | k + 1 => if w < ws.getD k 0 then pos w ws k else k + 1
theorem pos_le (w : Nat) (ws : List Nat) : ∀ k, pos w ws k ≤ k
  | 0 => Nat.le_refl _
  | k + 1 => by
    rw [pos]
    split
    · have := pos_le w ws k; omega
    · exact Nat.le_refl _
def ins {α : Type} (g : α → Nat) (x : α) (S : List α) : List α := S.take (pos (g x) (S.map g) S.length) ++ x :: S.drop (pos (g x) (S.map g) S.length)
def isort {α : Type} (g : α → Nat) (xs : List α) : List α := xs.foldl (fun S x => ins g x S) []
theorem isort_snoc {α : Type} (g : α → Nat) (xs : List α) (x : α) : isort g (xs ++ [x]) = ins g x (isort g xs) := by unfold isort; rw [List.foldl_append]; rfl
theorem ins_len {α : Type} (g : α → Nat) (x : α) (S : List α) : (ins g x S).length = S.length + 1 := by
  have := pos_le (g x) (S.map g) S.length
  unfold ins; simp; omega
theorem ins_perm {α : Type} (g : α → Nat) (x : α) (S : List α) : (ins g x S).Perm (x :: S) := by
  have h := List.perm_middle (a := x) (l₁ := S.take (pos (g x) (S.map g) S.length)) (l₂ := S.drop (pos (g x) (S.map g) S.length))
  rw [List.take_append_drop] at h; exact h
theorem isort_perm {α : Type} (g : α → Nat) : ∀ (n : Nat) (xs : List α), xs.length = n → (isort g xs).Perm xs
  | 0, [], _ => List.Perm.refl _
  | n + 1, xs, h => by
    obtain ⟨ys, x, rfl⟩ : ∃ ys x, xs = ys ++ [x] := ⟨xs.dropLast, xs.getLast (by intro e; subst e; simp at h), (List.dropLast_concat_getLast _).symm⟩
    rw [isort_snoc]
    refine (ins_perm g x _).trans ?_
    refine ((isort_perm g n ys (by simp at h; exact h)).cons x).trans ?_
    exact (List.perm_append_singleton x ys).symm
theorem isort_len {α : Type} (g : α → Nat) (xs : List α) : (isort g xs).length = xs.length := (isort_perm g _ xs rfl).length_eq
theorem isort_mem {α : Type} (g : α → Nat) (xs : List α) (z : α) : z ∈ isort g xs ↔ z ∈ xs := (isort_perm g _ xs rfl).mem_iff
def srt {α : Type} (g : α → Nat) (xs : List α) (a i : Nat) : List α := xs.take a ++ isort g ((xs.drop a).take (i - a)) ++ xs.drop i
theorem srt_zero {α : Type} (g : α → Nat) (xs : List α) (a : Nat) : srt g xs a a = xs := by
  unfold srt; rw [Nat.sub_self, List.take_zero]; show xs.take a ++ [] ++ xs.drop a = xs; rw [List.append_nil, List.take_append_drop]
theorem srt_one {α : Type} (g : α → Nat) (xs : List α) {a : Nat} (h : a < xs.length) : srt g xs a (a + 1) = xs := by
  unfold srt
  have e : (xs.drop a).take (a + 1 - a) = [xs[a]] := by rw [Nat.add_sub_cancel_left, List.drop_eq_getElem_cons h]; rfl
  rw [e]
  show xs.take a ++ [xs[a]] ++ xs.drop (a + 1) = xs
  rw [List.take_append_getElem h, List.take_append_drop]
def dat {α : Type} (T S : List α) (x : α) (U : List α) (k : Nat) : List α := T ++ S.take k ++ x :: S.drop k ++ U
theorem dat_len {α : Type} (T S : List α) (x : α) (U : List α) {k : Nat} (h : k ≤ S.length) : (dat T S x U k).length = T.length + S.length + 1 + U.length := by unfold dat; simp; omega
theorem dat_succ {α : Type} (T S : List α) (x : α) (U : List α) {m : Nat} (h : m < S.length) : dat T S x U (m + 1) = (T ++ S.take m) ++ S[m] :: x :: (S.drop (m + 1) ++ U) := by
  unfold dat; rw [← List.take_append_getElem h]; simp only [List.append_assoc, List.cons_append, List.nil_append]
theorem dat_here {α : Type} (T S : List α) (x : α) (U : List α) {m : Nat} (h : m < S.length) : dat T S x U m = (T ++ S.take m) ++ x :: S[m] :: (S.drop (m + 1) ++ U) := by
  unfold dat; rw [List.drop_eq_getElem_cons h]; simp only [List.append_assoc, List.cons_append, List.nil_append]
theorem dat_x {α : Type} (T S : List α) (x : α) (U : List α) {m j : Nat} (h : m < S.length) (e : j = T.length + m + 1) (hj : j < (dat T S x U (m + 1)).length) : (dat T S x U (m + 1))[j] = x := by
  have : (dat T S x U (m + 1))[j]? = some x := by
    rw [dat_succ T S x U h, List.getElem?_append_right (by simp; omega)]
    have : j - (T ++ S.take m).length = 1 := by simp; omega
    rw [this]; rfl
  rw [List.getElem?_eq_getElem hj, Option.some.injEq] at this; exact this
theorem dat_y {α : Type} (T S : List α) (x : α) (U : List α) {m j : Nat} (h : m < S.length) (e : j = T.length + m) (hj : j < (dat T S x U (m + 1)).length) : (dat T S x U (m + 1))[j] = S[m] := by
  have : (dat T S x U (m + 1))[j]? = some S[m] := by
    rw [dat_succ T S x U h, List.getElem?_append_right (by simp; omega)]
    have : j - (T ++ S.take m).length = 0 := by simp; omega
    rw [this]; rfl
  rw [List.getElem?_eq_getElem hj, Option.some.injEq] at this; exact this
theorem swap_set {α : Type} (A B : List α) (x y : α) {j i : Nat} (h1 : j = A.length + 1) (h2 : i = A.length) : ((A ++ y :: x :: B).set j y).set i x = A ++ x :: y :: B := by
  subst h1 h2
  rw [List.set_append_right _ _ (by omega), List.set_append_right _ _ (by omega), Nat.add_sub_cancel_left, Nat.sub_self]; rfl
theorem dat_swap {α : Type} (T S : List α) (x : α) (U : List α) {m j i : Nat} (h : m < S.length) (h1 : j = T.length + m + 1) (h2 : i = T.length + m) : ((dat T S x U (m + 1)).set j S[m]).set i x = dat T S x U m := by
  rw [dat_succ T S x U h, dat_here T S x U h]
  exact swap_set _ _ _ _ (by simp; omega) (by simp; omega)
theorem srt_dat {α : Type} (g : α → Nat) (xs : List α) {a i : Nat} (hi : i < xs.length) (ha : a ≤ i) : srt g xs a i = dat (xs.take a) (isort g ((xs.drop a).take (i - a))) xs[i] (xs.drop (i + 1)) (i - a) := by
  unfold srt dat
  have hl : (isort g ((xs.drop a).take (i - a))).length = i - a := by rw [isort_len]; simp; omega
  obtain ⟨S, hS⟩ : ∃ S, S = isort g ((xs.drop a).take (i - a)) := ⟨_, rfl⟩
  rw [← hS] at hl ⊢
  rw [List.take_of_length_le (show S.length ≤ i - a by omega), List.drop_of_length_le (show S.length ≤ i - a by omega), List.drop_eq_getElem_cons hi]
  simp only [List.append_assoc, List.cons_append, List.nil_append]
theorem srt_next {α : Type} (g : α → Nat) (xs : List α) {a i k : Nat} (hi : i < xs.length) (ha : a ≤ i) (hk : pos (g xs[i]) ((isort g ((xs.drop a).take (i - a))).map g) (i - a) = k) : dat (xs.take a) (isort g ((xs.drop a).take (i - a))) xs[i] (xs.drop (i + 1)) k = srt g xs a (i + 1) := by
  unfold srt dat
  have hl : (isort g ((xs.drop a).take (i - a))).length = i - a := by rw [isort_len]; simp; omega
  have e : (xs.drop a).take (i + 1 - a) = (xs.drop a).take (i - a) ++ [xs[i]] := by
    rw [show i + 1 - a = (i - a) + 1 by omega, ← List.take_append_getElem (show i - a < (xs.drop a).length by simp; omega), List.getElem_drop]
    congr 3; omega
  rw [e, isort_snoc, ins, hl, hk]; simp
theorem cmv_lt (a b : Nat) : cmv (a : Int) (b : Int) < 0 ↔ a < b := by
  unfold cmv
  split
  · constructor <;> intro <;> omega
  · split
    · constructor <;> intro h <;> omega
    · constructor <;> intro h <;> omega
theorem wget {S : List It} {m : Nat} (h : m < S.length) : (S.map wi).getD m 0 = wi S[m] := by rw [List.getD_eq_getElem?_getD, List.getElem?_map, List.getElem?_eq_getElem h]; rfl
set_option maxHeartbeats 2000000 in
theorem isort_ret (p : Value) (xs : List It) (a b : Nat) (P : List It) (w : World) (hs : Sep w [Rg.sl ip 112 p xs, Rg.pool P P]) (hx : ∀ x ∈ xs, x ∈ P) (ha : a ≤ b) (hb : b ≤ xs.length) (hlen : xs.length ≤ 1000000) :
    Ret Tryd.prog 100 #[p, i64 a, i64 b, fnv 71 []] w fun v w' => M w (fpU [Rg.sl ip 112 p xs, Rg.pool P P]) w' [Rg.sl ip 112 p (srt wi xs a b), Rg.pool P P] := by
  have hM := M.startS hs
  refine enter Tryd.func100 rfl (by kernel_rfl) Tryd.ntmps100 rfl ?_
  refine C.seq <| C.region <| E.mv rfl rfl <| ?_
  refine E.addN (b := 1) rfl rfl (by omega) rfl ?_
  refine E.asg rfl rfl <| E.nil <| X.next <| C.block <| ?_

  refine C.loop1 [(0, _), (1, _), (2, _), (3, _)] rfl (fun (i : Nat) => [(8, i64 i)]) (fun (i : Nat) w' => M w (fpU [Rg.sl ip 112 p xs, Rg.pool P P]) w' [Rg.sl ip 112 p (srt wi xs a (min i b)), Rg.pool P P] ∧ a + 1 ≤ i ∧ i ≤ max b (a + 1)) (fun (i : Nat) => b - i) (a + 1) ?_ ?_ ?_
  · exact Sub.cons rfl <| Sub.nil _
  · exact ⟨hM.to (Sym.two (by by_cases e : a < b; rw [Nat.min_eq_left (by omega), srt_one wi xs (by omega)]; rw [show min (a + 1) b = a by omega, srt_zero]) rfl), by omega, by omega⟩
  rintro i w0 ⟨hM, hi1, hi2⟩
  refine C.seq <| C.seq <| C.region <| E.mv rfl rfl <| E.mv rfl rfl <| E.bin rfl rfl rfl rfl <| E.nil <| X.next <| ?_
  refine C.cond' rfl (fun hC0 => ?_) (fun hC0 => ?_)
  ·
    have hi' : i < xs.length := by omega
    have hai : a ≤ i := by omega
    rw [Nat.min_eq_left (by omega), srt_dat wi xs hi' hai] at hM
    have hTl : (xs.take a).length = a := by rw [List.length_take]; omega
    have hSl : (isort wi ((xs.drop a).take (i - a))).length = i - a := by rw [isort_len]; simp; omega
    have hUl : (xs.drop (i + 1)).length = xs.length - (i + 1) := by simp
    have hxi := hx xs[i] (List.getElem_mem hi')
    have hSx : ∀ z ∈ (isort wi ((xs.drop a).take (i - a))), z ∈ P := fun z hz => hx z (List.mem_of_mem_drop (List.mem_of_mem_take ((isort_mem _ _ _).1 hz)))
    refine C.skip <| X.next <| C.seq <| C.block <| C.seq <| C.region <| E.mv rfl rfl <| E.asg rfl rfl <| E.nil <| X.next <| C.block <| ?_

    refine C.loop1 [(0, _), (1, _), (2, _), (3, _), (8, _)] rfl (fun (k : Nat) => [(9, i64 ((a + k : Nat) : Int))]) (fun (k : Nat) w' => M w (fpU [Rg.sl ip 112 p xs, Rg.pool P P]) w' [Rg.sl ip 112 p (dat (xs.take a) (isort wi ((xs.drop a).take (i - a))) xs[i] (xs.drop (i + 1)) k), Rg.pool P P] ∧ k ≤ i - a ∧ pos (wi xs[i]) ((isort wi ((xs.drop a).take (i - a))).map wi) (i - a) = pos (wi xs[i]) ((isort wi ((xs.drop a).take (i - a))).map wi) k) (fun (k : Nat) => k) (i - a) ?_ ?_ ?_
    · exact Sub.cons (look_val rfl (by omega)) <| Sub.nil _
    · exact ⟨hM, Nat.le_refl _, rfl⟩
    rintro k w1 ⟨hM, hk, hpos⟩
    refine C.seq <| ?_

    refine C.cut0 [(0, _), (1, _), (2, _), (3, _), (8, _), (9, _)] rfl [(34, .bool (decide (0 < k ∧ wi xs[i] < ((isort wi ((xs.drop a).take (i - a))).map wi).getD (k - 1) 0)))] (fun w' => M w (fpU [Rg.sl ip 112 p xs, Rg.pool P P]) w' [Rg.sl ip 112 p (dat (xs.take a) (isort wi ((xs.drop a).take (i - a))) xs[i] (xs.drop (i + 1)) k), Rg.pool P P]) ?_ ?_
    ·
      refine C.drawnT 14 (by kernel_rfl) (by kernel_rfl) fun wh2 hwh2 => ?_
      have hM := hM.ext hwh2
      refine S.mv rfl rfl <| S.mv rfl rfl <| S.bin rfl rfl rfl rfl <| S.mv rfl rfl <| ?_
      refine S.split 21 rfl (fun g21 => ?_) (fun g21 => ?_)
      ·
        try simp only [decide_eq_true_eq, decide_eq_false_iff_not, ne_eq, Decidable.not_not, Bool.not_eq_true', Bool.not_eq_false'] at g21
        obtain ⟨m, rfl⟩ : ∃ m, k = m + 1 := ⟨k - 1, by omega⟩
        have hm : m < (isort wi ((xs.drop a).take (i - a))).length := by omega
        refine S.on rfl rfl (S.mv rfl rfl ?_)
        refine S.on rfl rfl (S.mv rfl rfl ?_)
        refine S.on rfl rfl (S.mv rfl rfl ?_)
        refine S.on rfl rfl (S.idx1 (k := (a + (m + 1))) rfl rfl (hM.sl 0 rfl) rfl (by rw [dat_len _ _ _ _ (by omega)]; omega) Tryd.underlying110 (by kernel_rfl) rfl ?_)
        refine S.on rfl rfl (S.load rfl Tryd.underlying112 rfl ((hM.sl 0 rfl).cell (by rw [dat_len _ _ _ _ (by omega)]; omega)) rfl ?_)
        rw [dat_x _ _ _ _ hm (by omega)]
        refine S.on rfl rfl (S.mv rfl rfl ?_)
        refine S.on rfl rfl (S.mv rfl rfl ?_)
        refine S.on rfl rfl (S.subN (b := 1) rfl rfl (by omega) rfl ?_)
        refine S.on rfl rfl (S.idx1 (k := (a + (m + 1)) - 1) rfl rfl (hM.sl 0 rfl) rfl (by rw [dat_len _ _ _ _ (by omega)]; omega) Tryd.underlying110 (by kernel_rfl) rfl ?_)
        refine S.on rfl rfl (S.load rfl Tryd.underlying112 rfl ((hM.sl 0 rfl).cell (by rw [dat_len _ _ _ _ (by omega)]; omega)) rfl ?_)
        rw [dat_y _ _ _ _ hm (by omega)]
        refine S.nil ?_
        refine E.on rfl rfl (E.callv rfl rfl rfl (cmpw_ret xs[i] (isort wi ((xs.drop a).take (i - a)))[m] P P _ (hM.pool 1 rfl) hxi (hSx _ (List.getElem_mem hm))) ?_)
        rintro _ w3 ⟨rfl, x3⟩
        have hM := hM.ext x3
        have hcl := cmv_lt (wi xs[i]) (wi (isort wi ((xs.drop a).take (i - a)))[m])
        try dsimp only [List.nil_append, List.cons_append, List.set_cons_zero, List.set_cons_succ, repl] at hM
        refine E.on rfl rfl (E.bin rfl rfl rfl rfl ?_)

        refine E.pick rfl rfl rfl <| E.nil <| X.join0  (Sub.cons (look_eq rfl (by congr 1; apply decide_eq_decide.2; rw [hcl, Nat.add_sub_cancel, wget hm]; exact ⟨fun h => ⟨by omega, h⟩, fun h => h.2⟩)) <| Sub.nil _) rfl hM
      ·
        try simp only [decide_eq_true_eq, decide_eq_false_iff_not, ne_eq, Decidable.not_not, Bool.not_eq_true', Bool.not_eq_false'] at g21
        refine S.off rfl rfl rfl rfl <| S.off rfl rfl rfl rfl <| S.off rfl rfl rfl rfl <| S.off rfl rfl rfl rfl <| S.off rfl rfl rfl rfl <| S.off rfl rfl rfl rfl <| S.off rfl rfl rfl rfl <| S.off rfl rfl rfl rfl <| S.off rfl rfl rfl rfl <| S.off rfl rfl rfl rfl <| ?_
        refine S.nil ?_

        refine E.off rfl rfl rfl rfl <| E.off rfl rfl rfl rfl <| E.pick rfl rfl rfl <| E.nil <| X.join0  (Sub.cons (look_eq rfl (by congr 1; symm; apply decide_eq_false; intro h; omega)) <| Sub.nil _) rfl hM
    rintro  w4 hM
    refine C.cond' rfl (fun hC1 => ?_) (fun hC1 => ?_)
    ·
      obtain ⟨m, rfl⟩ : ∃ m, k = m + 1 := ⟨k - 1, by omega⟩
      have hm : m < (isort wi ((xs.drop a).take (i - a))).length := by omega
      obtain ⟨_, hlt⟩ := hC1
      rw [Nat.add_sub_cancel, wget hm] at hlt
      refine C.skip <| X.next <| C.seq <| C.block <| C.heldM hM [] (by decide) (by kernel_rfl) fun wh5 hM hS => ?_
      have hR := hM.sl 0 rfl
      refine H.take 0 rfl rfl (by kernel_rfl) (by kernel_rfl) (by kernel_rfl) hS (fun w' hM => Y.mv rfl) rfl ?_
      refine H.take 1 rfl rfl (by kernel_rfl) (by kernel_rfl) (by kernel_rfl) hS (fun w' hM => Y.mv rfl) rfl ?_
      refine H.take 2 rfl rfl (by kernel_rfl) (by kernel_rfl) (by kernel_rfl) hS (fun w' hM => Y.mv rfl) rfl ?_
      refine H.take 3 rfl rfl (by kernel_rfl) (by kernel_rfl) (by kernel_rfl) hS (fun w' hM => Y.mv rfl) rfl ?_
      refine H.take 4 rfl rfl (by kernel_rfl) (by kernel_rfl) (by kernel_rfl) hS (fun w' hM => Y.subN (b := 1) rfl rfl (by omega)) rfl ?_
      refine H.take 5 rfl rfl (by kernel_rfl) (by kernel_rfl) (by kernel_rfl) hS (fun w' hM => Y.mv rfl) rfl ?_
      refine H.take 6 rfl rfl (by kernel_rfl) (by kernel_rfl) (by kernel_rfl) hS (fun w' hM => Y.mv rfl) rfl ?_
      refine H.take 7 rfl rfl (by kernel_rfl) (by kernel_rfl) (by kernel_rfl) hS (fun w' hM => Y.subN (b := 1) rfl rfl (by omega)) rfl ?_
      refine H.takeV 8 rfl rfl (by kernel_rfl) (by kernel_rfl) (by kernel_rfl) hS (Y.idxW _ ((a + (m + 1)) - 1) rfl rfl hR rfl (by rw [dat_len _ _ _ _ (by omega)]; omega) Tryd.underlying110 (by kernel_rfl)) (fun w' hM => Y.idxW _ ((a + (m + 1)) - 1) rfl rfl hR rfl (by rw [dat_len _ _ _ _ (by omega)]; omega) Tryd.underlying110 (by kernel_rfl)) rfl ?_
      refine H.take 10 rfl rfl (by kernel_rfl) (by kernel_rfl) (by kernel_rfl) hS (fun w' hM => Y.mv rfl) rfl ?_
      refine H.take 11 rfl rfl (by kernel_rfl) (by kernel_rfl) (by kernel_rfl) hS (fun w' hM => Y.mv rfl) rfl ?_
      refine H.takeV 12 rfl rfl (by kernel_rfl) (by kernel_rfl) (by kernel_rfl) hS (Y.idxW _ ((a + (m + 1))) rfl rfl hR rfl (by rw [dat_len _ _ _ _ (by omega)]; omega) Tryd.underlying110 (by kernel_rfl)) (fun w' hM => Y.idxW _ ((a + (m + 1))) rfl rfl hR rfl (by rw [dat_len _ _ _ _ (by omega)]; omega) Tryd.underlying110 (by kernel_rfl)) rfl ?_
      refine H.two 9 13 rfl rfl (by kernel_rfl) ?_ ?_
      ·
        refine E.load rfl Tryd.underlying112 rfl ((hM.sl 0 rfl).cell (by rw [dat_len _ _ _ _ (by omega)]; omega)) rfl ?_
        rw [dat_y _ _ _ _ hm (by omega)]
        have hS := hM.pick [] (by decide)
        refine H.back hS ?_
        refine H.only 13 rfl (by kernel_rfl) ?_
        refine E.load rfl Tryd.underlying112 rfl ((hM.sl 0 rfl).cell (by rw [dat_len _ _ _ _ (by omega)]; omega)) rfl ?_
        rw [dat_x _ _ _ _ hm (by omega)]
        have hS := hM.pick [] (by decide)
        refine H.back hS ?_
        refine H.takeV 14 rfl rfl (by kernel_rfl) (by kernel_rfl) (by kernel_rfl) hS (Y.idxW _ ((a + (m + 1))) rfl rfl hR rfl (by rw [dat_len _ _ _ _ (by omega)]; omega) Tryd.underlying110 (by kernel_rfl)) (fun w' hM => Y.idxW _ ((a + (m + 1))) rfl rfl hR rfl (by rw [dat_len _ _ _ _ (by omega)]; omega) Tryd.underlying110 (by kernel_rfl)) rfl ?_
        refine H.only 15 rfl (by kernel_rfl) ?_
        refine E.storeL (j := (a + (m + 1))) 0 (isort wi ((xs.drop a).take (i - a)))[m] hM rfl rfl rfl (by kernel_rfl) rfl rfl (by rw [dat_len _ _ _ _ (by omega)]; omega) ?_
        intro w6 hM
        try dsimp only [List.nil_append, List.cons_append, List.set_cons_zero, List.set_cons_succ, repl] at hM
        have hS := hM.pick [] (by decide)
        refine H.back hS ?_
        refine H.takeV 16 rfl rfl (by kernel_rfl) (by kernel_rfl) (by kernel_rfl) hS (Y.idxW _ ((a + (m + 1)) - 1) rfl rfl hR rfl (by rw [dat_len _ _ _ _ (by omega)]; omega) Tryd.underlying110 (by kernel_rfl)) (fun w' hM => Y.idxW _ ((a + (m + 1)) - 1) rfl rfl hR rfl (by rw [dat_len _ _ _ _ (by omega)]; omega) Tryd.underlying110 (by kernel_rfl)) rfl ?_
        refine H.only 17 rfl (by kernel_rfl) ?_
        refine E.storeL (j := (a + (m + 1)) - 1) 0 xs[i] hM rfl rfl rfl (by kernel_rfl) rfl rfl (by rw [List.length_set]; rw [dat_len _ _ _ _ (by omega)]; omega) ?_
        intro w7 hM
        try dsimp only [List.nil_append, List.cons_append, List.set_cons_zero, List.set_cons_succ, repl] at hM
        rw [dat_swap _ _ _ _ hm (by omega) (by omega)] at hM
        have hS := hM.pick [] (by decide)
        refine H.back hS ?_
        refine H.done (by kernel_rfl) ?_
        refine X.outN <| X.next <| C.region <| E.mv rfl rfl <| ?_
        refine E.subN (b := 1) rfl rfl (by omega) rfl ?_

        refine E.asg rfl rfl <| E.nil <| X.again1 m (Sub.cons (look_val rfl (by omega)) <| Sub.nil _) rfl ⟨hM, by omega, by rw [hpos, pos, if_pos (by rw [wget hm]; exact hlt)]⟩ (by omega)
      ·
        refine E.load rfl Tryd.underlying112 rfl ((hM.sl 0 rfl).cell (by rw [dat_len _ _ _ _ (by omega)]; omega)) rfl ?_
        rw [dat_x _ _ _ _ hm (by omega)]
        have hS := hM.pick [] (by decide)
        refine H.back hS ?_
        refine H.only 9 rfl (by kernel_rfl) ?_
        refine E.load rfl Tryd.underlying112 rfl ((hM.sl 0 rfl).cell (by rw [dat_len _ _ _ _ (by omega)]; omega)) rfl ?_
        rw [dat_y _ _ _ _ hm (by omega)]
        have hS := hM.pick [] (by decide)
        refine H.back hS ?_
        refine H.takeV 14 rfl rfl (by kernel_rfl) (by kernel_rfl) (by kernel_rfl) hS (Y.idxW _ ((a + (m + 1))) rfl rfl hR rfl (by rw [dat_len _ _ _ _ (by omega)]; omega) Tryd.underlying110 (by kernel_rfl)) (fun w' hM => Y.idxW _ ((a + (m + 1))) rfl rfl hR rfl (by rw [dat_len _ _ _ _ (by omega)]; omega) Tryd.underlying110 (by kernel_rfl)) rfl ?_
        refine H.only 15 rfl (by kernel_rfl) ?_
        refine E.storeL (j := (a + (m + 1))) 0 (isort wi ((xs.drop a).take (i - a)))[m] hM rfl rfl rfl (by kernel_rfl) rfl rfl (by rw [dat_len _ _ _ _ (by omega)]; omega) ?_
        intro w8 hM
        try dsimp only [List.nil_append, List.cons_append, List.set_cons_zero, List.set_cons_succ, repl] at hM
        have hS := hM.pick [] (by decide)
        refine H.back hS ?_
        refine H.takeV 16 rfl rfl (by kernel_rfl) (by kernel_rfl) (by kernel_rfl) hS (Y.idxW _ ((a + (m + 1)) - 1) rfl rfl hR rfl (by rw [dat_len _ _ _ _ (by omega)]; omega) Tryd.underlying110 (by kernel_rfl)) (fun w' hM => Y.idxW _ ((a + (m + 1)) - 1) rfl rfl hR rfl (by rw [dat_len _ _ _ _ (by omega)]; omega) Tryd.underlying110 (by kernel_rfl)) rfl ?_
        refine H.only 17 rfl (by kernel_rfl) ?_
        refine E.storeL (j := (a + (m + 1)) - 1) 0 xs[i] hM rfl rfl rfl (by kernel_rfl) rfl rfl (by rw [List.length_set]; rw [dat_len _ _ _ _ (by omega)]; omega) ?_
        intro w9 hM
        try dsimp only [List.nil_append, List.cons_append, List.set_cons_zero, List.set_cons_succ, repl] at hM
        rw [dat_swap _ _ _ _ hm (by omega) (by omega)] at hM
        have hS := hM.pick [] (by decide)
        refine H.back hS ?_
        refine H.done (by kernel_rfl) ?_
        refine X.outN <| X.next <| C.region <| E.mv rfl rfl <| ?_
        refine E.subN (b := 1) rfl rfl (by omega) rfl ?_

        refine E.asg rfl rfl <| E.nil <| X.again1 m (Sub.cons (look_val rfl (by omega)) <| Sub.nil _) rfl ⟨hM, by omega, by rw [hpos, pos, if_pos (by rw [wget hm]; exact hlt)]⟩ (by omega)
    ·
      have hpk : pos (wi xs[i]) ((isort wi ((xs.drop a).take (i - a))).map wi) k = k := by
        cases k with
        | zero => rfl
        | succ m => rw [pos, if_neg]; exact fun h => hC1 ⟨by omega, h⟩
      rw [srt_next wi xs hi' hai (hpos.trans hpk)] at hM
      refine C.exit <| X.exitT <| X.exitT <| X.outE <| X.outN <| X.next <| C.region <| E.mv rfl rfl <| ?_
      refine E.addN (b := 1) rfl rfl (by omega) rfl ?_

      refine E.asg rfl rfl <| E.nil <| X.again1 (i + 1) (Sub.cons rfl <| Sub.nil _) rfl ⟨hM.to (Sym.two (by rw [Nat.min_eq_left (by omega)]) rfl), by omega, by omega⟩ (by omega)
  ·
    refine C.exit <| X.exitT <| X.exitT <| X.outE <| end0 rfl ?_
    exact hM.to (Sym.two (by by_cases e : a < b; rw [Nat.min_eq_right (by omega)]; rw [show min i b = a by omega, show b = a by omega]) rfl)

end Go.Proofs.YtcmgbjmcklfkcaaDoor

/- prefix: package-merge, plain; the stable sort of few. -/
namespace Go.Proofs.YtcmgbjmcklfkcaaDoor
set_option linter.unusedSimpArgs false
set_option linter.unusedVariables false
open Go.RowKit Sym

theorem srt_all {α : Type} (g : α → Nat) (xs : List α) : srt g xs 0 xs.length = isort g xs := by unfold srt; simp
theorem pos_map {α β : Type} (g : α → Nat) (g' : β → Nat) (m : α → β) (hg : ∀ a, g' (m a) = g a) (S : List α) : (S.map m).map g' = S.map g := by
  rw [List.map_map]; exact List.map_congr_left fun a _ => hg a
theorem ins_map {α β : Type} (g : α → Nat) (g' : β → Nat) (m : α → β) (hg : ∀ a, g' (m a) = g a) (x : α) (S : List α) : (ins g x S).map m = ins g' (m x) (S.map m) := by
  unfold ins
  rw [pos_map g g' m hg, hg, List.length_map, List.map_append, List.map_take, List.map_cons, List.map_drop]
theorem isort_map {α β : Type} (g : α → Nat) (g' : β → Nat) (m : α → β) (hg : ∀ a, g' (m a) = g a) (xs : List α) : (isort g xs).map m = isort g' (xs.map m) := by
  unfold isort
  have key : ∀ (xs S : List α), (xs.foldl (fun S x => ins g x S) S).map m = (xs.map m).foldl (fun S x => ins g' x S) (S.map m) := by
    intro xs
    induction xs with
    | nil => intro S; rfl
    | cons x xs ih => intro S; rw [List.foldl_cons, ih, List.map_cons, List.foldl_cons, ins_map g g' m hg]
  exact key xs []
theorem fmap_congr {α β : Type} {f g : α → Option β} : ∀ {l : List α}, (∀ x ∈ l, f x = g x) → l.filterMap f = l.filterMap g
  | [], _ => rfl
  | a :: l, h => by rw [List.filterMap_cons, List.filterMap_cons, h a (by simp), fmap_congr fun x hx => h x (by simp [hx])]
/-- the singles -/
def sgl (fs : List Nat) : List Tr := (List.range fs.length).filterMap fun i => if 0 < fs.getD i 0 then some (Tr.leaf (fs.getD i 0) i) else none
theorem sgl_snoc {fs : List Nat} {i : Nat} (hi : i < fs.length) : sgl (fs.take (i + 1)) = sgl (fs.take i) ++ (if 0 < fs[i] then [Tr.leaf fs[i] i] else []) := by
  unfold sgl
  rw [List.length_take, List.length_take, Nat.min_eq_left (by omega), Nat.min_eq_left (by omega), List.range_succ, List.filterMap_append]
  congr 1
  · refine fmap_congr fun j hj => ?_
    have hj := List.mem_range.1 hj
    have e : (fs.take (i + 1)).getD j 0 = (fs.take i).getD j 0 := by rw [List.getD_eq_getElem?_getD, List.getD_eq_getElem?_getD, List.getElem?_take, List.getElem?_take, if_pos hj, if_pos (by omega)]
    rw [e]
  · have e : (fs.take (i + 1)).getD i 0 = fs[i] := by rw [List.getD_eq_getElem?_getD, List.getElem?_take, if_pos (by omega), List.getElem?_eq_getElem hi]; rfl
    by_cases h : 0 < fs[i]
    · rw [if_pos h]; simp only [List.filterMap, e, if_pos h]
    · rw [if_neg h]; simp only [List.filterMap, e, if_neg h]
def Gd (n : Nat) : Tr → Prop
  | .leaf f s => 1 ≤ f ∧ s < n
  | .node a b => Gd n a ∧ Gd n b
theorem Gd.sy {n : Nat} : ∀ {t : Tr}, Gd n t → (∀ s ∈ t.sy, s < n) ∧ t.sy.length ≤ t.wt
  | .leaf f s, h => ⟨fun y hy => by simp [Tr.sy] at hy; subst hy; exact h.2, by simp [Tr.sy, Tr.wt]; exact h.1⟩
  | .node a b, h => by
    have ha := Gd.sy h.1
    have hb := Gd.sy h.2
    refine ⟨fun y hy => ?_, by simp only [Tr.sy, Tr.wt, List.length_append]; omega⟩
    rcases List.mem_append.1 hy with h1 | h1
    · exact ha.1 y h1
    · exact hb.1 y h1
theorem sgl_spec {fs : List Nat} {B : Nat} (hB : ∀ f ∈ fs, f ≤ B) : ∀ t ∈ sgl fs, ∃ f s, t = Tr.leaf f s ∧ 1 ≤ f ∧ f ≤ B ∧ s < fs.length := by
  intro t ht
  unfold sgl at ht
  obtain ⟨i, hi, h⟩ := List.mem_filterMap.1 ht
  have hi := List.mem_range.1 hi
  have e : fs.getD i 0 = fs[i] := by rw [List.getD_eq_getElem?_getD, List.getElem?_eq_getElem hi]; rfl
  split at h
  · cases h; exact ⟨_, _, rfl, by omega, by rw [e]; exact hB _ (List.getElem_mem hi), hi⟩
  · cases h
theorem sgl_len (fs : List Nat) : (sgl fs).length ≤ fs.length := by
  unfold sgl
  have := List.length_filterMap_le (fun i => if 0 < fs.getD i 0 then some (Tr.leaf (fs.getD i 0) i) else none) (List.range fs.length)
  simpa using this
/-- the lists of the package-merge algorithm -/
def lvl (S : List Tr) : Nat → List Tr
  | 0 => S
  | k + 1 => mrg Tr.wt S (pkg (lvl S k))
abbrev tw (l : List Tr) : Nat := (l.map Tr.wt).sum
theorem mrg_tw : ∀ (xs ys : List Tr), tw (mrg Tr.wt xs ys) = tw xs + tw ys
  | [], ys => by rw [mrg]; simp [tw]
  | x :: xs, [] => by rw [mrg_nil]; simp [tw]
  | x :: xs, y :: ys => by
    by_cases h : Tr.wt x ≤ Tr.wt y
    · have := mrg_tw xs (y :: ys)
      rw [mrg_le h]; simp only [tw, List.map_cons, List.sum_cons] at *; omega
    · have := mrg_tw (x :: xs) ys
      rw [mrg_gt h]; simp only [tw, List.map_cons, List.sum_cons] at *; omega
termination_by xs ys => xs.length + ys.length
theorem pkg_tw : ∀ l : List Tr, tw (pkg l) ≤ tw l
  | [] => Nat.le_refl _
  | [_] => by simp [pkg, tw]
  | a :: b :: l => by have := pkg_tw l; simp only [pkg, tw, List.map_cons, List.sum_cons, Tr.wt] at *; omega
theorem pkg_gd {n : Nat} : ∀ {l : List Tr}, (∀ t ∈ l, Gd n t) → ∀ t ∈ pkg l, Gd n t
  | [], _, t, ht => by simp [pkg] at ht
  | [_], _, t, ht => by simp [pkg] at ht
  | a :: b :: l, h, t, ht => by
    rw [pkg, List.mem_cons] at ht
    rcases ht with rfl | ht
    · exact ⟨h a (by simp), h b (by simp)⟩
    · exact pkg_gd (fun x hx => h x (by simp [hx])) t ht
theorem lvl_tw (S : List Tr) : ∀ k, tw (lvl S k) ≤ (k + 1) * tw S
  | 0 => by simp [lvl]
  | k + 1 => by
    have h1 := lvl_tw S k
    have h2 := pkg_tw (lvl S k)
    rw [lvl, mrg_tw, Nat.succ_mul]; omega
theorem lvl_gd {n : Nat} {S : List Tr} (h : ∀ t ∈ S, Gd n t) : ∀ k, ∀ t ∈ lvl S k, Gd n t
  | 0, t, ht => h t ht
  | k + 1, t, ht => by
    rw [lvl, mrg_mem] at ht
    rcases ht with ht | ht
    · exact h t ht
    · exact pkg_gd (lvl_gd h k) t ht
theorem lvl_len {S : List Tr} (h : 0 < S.length) : ∀ k, (lvl S k).length < 2 * S.length ∧ (2 * S.length - (lvl S k).length - 1) * 2 ^ k < S.length
  | 0 => by simp [lvl]; omega
  | k + 1 => by
    have ⟨h1, h2⟩ := lvl_len h k
    rw [lvl, mrg_len, pkg_len]
    refine ⟨by omega, ?_⟩
    have e : 2 * (2 * S.length - (S.length + (lvl S k).length / 2) - 1) ≤ 2 * S.length - (lvl S k).length - 1 := by omega
    have := Nat.mul_le_mul_right (2 ^ k) e
    rw [Nat.pow_succ, Nat.mul_comm (2 ^ k) 2, ← Nat.mul_assoc, Nat.mul_comm _ 2]; omega
theorem lvl_long {S : List Tr} {m : Nat} (h : 0 < S.length) (hm : 1 ≤ m) (hc : S.length ≤ 2 ^ m) : 2 * S.length - 2 ≤ (lvl S (m - 1)).length := by
  have ⟨h1, h2⟩ := lvl_len h (m - 1)
  have e : 2 ^ m = 2 * 2 ^ (m - 1) := by rw [← Nat.pow_succ']; congr 1; omega
  have hlt : (2 * S.length - (lvl S (m - 1)).length - 1) * 2 ^ (m - 1) < 2 * 2 ^ (m - 1) := by omega
  have := Nat.lt_of_mul_lt_mul_right hlt
  omega
theorem flat_len {n : Nat} : ∀ {l : List Tr}, (∀ t ∈ l, Gd n t) → (l.flatMap Tr.sy).length ≤ tw l
  | [], _ => Nat.le_refl _
  | a :: l, h => by
    have h1 := (h a (by simp)).sy.2
    have h2 := flat_len (fun t ht => h t (by simp [ht]) : ∀ t ∈ l, Gd n t)
    simp only [List.flatMap_cons, List.length_append, tw, List.map_cons, List.sum_cons] at *; omega
theorem tw_take (l : List Tr) (k : Nat) : tw (l.take k) ≤ tw l := by
  have : tw (l.take k ++ l.drop k) = tw (l.take k) + tw (l.drop k) := by simp only [tw, List.map_append, List.sum_append]
  rw [List.take_append_drop] at this; omega
theorem tw_le {l : List Tr} {B : Nat} (h : ∀ t ∈ l, t.wt ≤ B) : tw l ≤ B * l.length := by
  induction l with
  | nil => simp [tw]
  | cons a l ih =>
    have h1 := h a (by simp)
    have h2 := ih fun t ht => h t (by simp [ht])
    simp only [tw, List.map_cons, List.sum_cons, List.length_cons, Nat.mul_succ] at *; omega
theorem tw_mem {l : List Tr} {t : Tr} (h : t ∈ l) : t.wt ≤ tw l := by
  induction l with
  | nil => cases h
  | cons a l ih =>
    rcases List.mem_cons.1 h with rfl | h
    · simp [tw]
    · have := ih h; simp only [tw, List.map_cons, List.sum_cons] at *; omega
def zeros (n : Nat) : List Int := List.replicate n 0
/-- the lengths -/
def ini (S : List Tr) (n : Nat) : List Int := if S.length = 1 then bump (zeros n) (S.flatMap Tr.sy) else zeros n
def lens (S : List Tr) (n m : Nat) : List Int := if S.length < 2 then ini S n else bump (zeros n) (((lvl S (m - 1)).take (2 * S.length - 2)).flatMap Tr.sy)
abbrev Sg (zs : List Int) : List Tr := isort Tr.wt (sgl (toN zs))
def lnv (zs : List Int) (most : Int) : List Int × Int :=
  if 4096 < zs.length then ([], 4) else if ¬ okr zs 1099511627776 = true then ([], 3) else if most < 1 ∨ 30 < most then ([], 3) else if 2 ^ most.toNat < (Sg zs).length then ([], 16) else (lens (Sg zs) zs.length most.toNat, 0)
theorem stable_few (p : Value) (xs : List It) (P : List It) (w : World) (hs : Sep w [Rg.sl ip 112 p xs, Rg.pool P P]) (hx : ∀ x ∈ xs, x ∈ P) (hlen : xs.length ≤ 19) :
    Ret Tryd.prog 95 #[p, i64 (xs.length : Int), fnv 71 []] w fun v w' => M w (fpU [Rg.sl ip 112 p xs, Rg.pool P P]) w' [Rg.sl ip 112 p (isort wi xs), Rg.pool P P] := by
  have hM := M.startS hs
  refine enter Tryd.func95 rfl (by kernel_rfl) Tryd.ntmps95 rfl ?_
  refine C.seq <| C.region <| E.asg rfl rfl <| E.nil <| X.next <| C.seq <| C.region <| E.mv rfl rfl <| E.asg rfl rfl <| E.asg rfl rfl <| E.nil <| X.next <| C.seq <| C.block <| ?_

  refine C.loop1 [(0, _), (1, _), (2, _), (6, _)] rfl (fun (i : Nat) => [(7, i64 0), (8, i64 20)]) (fun (i : Nat) w' => M w (fpU [Rg.sl ip 112 p xs, Rg.pool P P]) w' [Rg.sl ip 112 p xs, Rg.pool P P]) (fun (i : Nat) => 0) 0 ?_ ?_ ?_
  · exact Sub.cons rfl <| Sub.cons rfl <| Sub.nil _
  · exact hM
  rintro i w0 hM
  refine C.seq <| C.seq <| C.region <| E.mv rfl rfl <| E.mv rfl rfl <| E.bin rfl rfl rfl rfl <| E.nil <| X.next <| ?_
  refine C.cond' rfl (fun hC0 => ?_) (fun hC0 => ?_)
  ·
    omega
  ·
    refine C.exit <| X.exitT <| X.exitT <| X.outE <| X.next <| C.seq <| C.region <| E.mv rfl rfl <| E.mv rfl rfl <| E.mv rfl rfl <| E.mv rfl rfl <| ?_
    refine E.call rfl rfl (isort_ret p xs 0 xs.length P _ (hM.pick [0, 1] (by decide)).sep hx (Nat.zero_le _) (Nat.le_refl _) (by omega)) ?_
    rintro _ w2 m
    have hM := hM.calls [0, 1] (by decide) rfl (by simp) m
    rw [srt_all] at hM
    try dsimp only [List.nil_append, List.cons_append, List.set_cons_zero, List.set_cons_succ, repl] at hM
    refine E.nil <| X.next <| C.block <| ?_

    refine C.loop1 [(0, _), (1, _), (2, _)] rfl (fun (i : Nat) => [(6, i64 20)]) (fun (i : Nat) w' => M w (fpU [Rg.sl ip 112 p xs, Rg.pool P P]) w' [Rg.sl ip 112 p (isort wi xs), Rg.pool P P]) (fun (i : Nat) => 0) 0 ?_ ?_ ?_
    · exact Sub.cons rfl <| Sub.nil _
    · exact hM
    rintro i w2 hM
    refine C.seq <| C.seq <| C.region <| E.mv rfl rfl <| E.mv rfl rfl <| E.bin rfl rfl rfl rfl <| E.nil <| X.next <| ?_
    refine C.cond' rfl (fun hC1 => ?_) (fun hC1 => ?_)
    ·
      omega
    ·
      refine C.exit <| X.exitT <| X.exitT <| X.outE <| end0 rfl ?_
      exact hM

theorem sort_few (p : Value) (xs : List It) (P : List It) (w : World) (hs : Sep w [Rg.sl ip 112 p xs, Rg.pool P P]) (hx : ∀ x ∈ xs, x ∈ P) (hlen : xs.length ≤ 19) :
    Ret Tryd.prog 70 #[p, fnv 71 []] w fun v w' => M w (fpU [Rg.sl ip 112 p xs, Rg.pool P P]) w' [Rg.sl ip 112 p (isort wi xs), Rg.pool P P] := by
  have hM := M.startS hs
  refine enter Tryd.func70 rfl (by kernel_rfl) Tryd.ntmps70 rfl ?_
  refine C.region <| E.mv rfl rfl <| E.mv rfl rfl <| ?_
  refine E.lenv rfl (Rd.shape (hM.sl 0 rfl)) Tryd.underlying111 rfl ?_
  refine E.mv rfl rfl <| ?_
  refine E.call rfl rfl (stable_few p xs P _ (hM.pick [0, 1] (by decide)).sep hx hlen) ?_
  rintro _ w2 m
  have hM := hM.calls [0, 1] (by decide) rfl (by simp) m
  try dsimp only [List.nil_append, List.cons_append, List.set_cons_zero, List.set_cons_succ, repl] at hM
  refine E.nil <| end0 rfl ?_
  exact hM

end Go.Proofs.YtcmgbjmcklfkcaaDoor
