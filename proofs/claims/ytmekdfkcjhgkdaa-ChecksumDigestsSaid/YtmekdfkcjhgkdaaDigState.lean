/- Several digests and several byte lists in memory: what each step leaves of them. -/
import Derived.Test.YtmekdfkcjhgkdaaDigest
import Derived.Test.YtmekdfkcjhgkdaaSym6
namespace Go.Proofs.Ytmekdfkcjhgkdaa
open Go.RowKit Sym

abbrev pd (b : Nat) : Value := .pointer (some ⟨b, 0, none⟩)
/-- the block of a slice is none of those that change -/
def Safe (va vb : Value) (bl : List Nat) (g : Nat) : Prop := g ∉ bl ∧ va.ownBlock ≠ some g ∧ vb.ownBlock ≠ some g
structure DS (w : World) (B : Nat) (va vb : Value) (bl : List Nat) (vs : List Value) (ms ls : List (List UInt8)) : Prop where
  oa : OwnL pd w B 42 va bl
  ob : OwnL (fun v : Value => v) w B 22 vb vs
  ap : Apart va vb
  dl : ms.length = bl.length
  dig : ∀ (i b : Nat) (m : List UInt8), bl[i]? = some b → ms[i]? = some m → Blk w b 54 (dgst (Crc.reg 0xffffffff#32 m) m.length true)
  lo : ∀ b ∈ bl, B ≤ b ∧ va.ownBlock ≠ some b ∧ vb.ownBlock ≠ some b
  nd : ∀ (i j b : Nat), bl[i]? = some b → bl[j]? = some b → i = j
  rl : ls.length = vs.length
  rd : ∀ (i : Nat) (v : Value) (l : List UInt8), vs[i]? = some v → ls[i]? = some l → RdL u8 w v l ∧ (l = [] ∨ Safe va vb bl (bs v).1)
section
variable {w w' : World} {B : Nat} {va vb : Value} {bl : List Nat} {vs : List Value} {ms ls : List (List UInt8)}
theorem DS.keep (h : DS w B va vb bl vs ms ls) (k : Ext w w') : DS w' B va vb bl vs ms ls :=
  { h with oa := h.oa.kept k, ob := h.ob.kept k, dig := fun i b m hb hm => (h.dig i b m hb hm).ext k, rd := fun i v l hv hl => ⟨(h.rd i v l hv hl).1.ext k, (h.rd i v l hv hl).2⟩ }
theorem RdL.some_other {v : Value} {l : List UInt8} {c : Nat} (h : RdL u8 w v l) (g : w.grownBy w' (some c)) (hne : l = [] ∨ (bs v).1 ≠ c) : RdL u8 w' v l := by
  rcases hne with rfl | hne
  · exact Rd.nil_other h
  · exact Rd.other h g hne
theorem RdL.lt {v : Value} {l : List UInt8} (h : RdL u8 w v l) (hl : l ≠ []) : (bs v).1 < w.heap.size := by
  have h0 : 0 < l.length := List.length_pos_iff.2 hl
  exact World.block_lt_of_cell? w _ (h.cell h0)
theorem DS.ltb (h : DS w B va vb bl vs ms ls) {b : Nat} (hb : b ∈ bl) : b < w.heap.size := by
  obtain ⟨i, hi, rfl⟩ := List.mem_iff_getElem.1 hb
  have := h.dl
  exact (h.dig i _ ms[i] (List.getElem?_eq_getElem hi) (List.getElem?_eq_getElem (by omega))).lt
/-- bytes are written to digest k -/
theorem DS.write {k b : Nat} {m l : List UInt8} (h : DS w B va vb bl vs ms ls) (hk : bl[k]? = some b) (g : w.grownBy w' (some b)) (hb : Blk w' b 54 (dgst (Crc.reg 0xffffffff#32 (m ++ l)) (m ++ l).length true)) :
    DS w' B va vb bl vs (ms.set k (m ++ l)) ls := by
  have hmem : b ∈ bl := List.mem_of_getElem? hk
  have hlo := h.lo b hmem
  exact { h with
    oa := Own.other h.oa g (.inr (fun e => hlo.2.1 e))
    ob := Own.other h.ob g (.inr (fun e => hlo.2.2 e))
    dl := by simpa using h.dl
    dig := fun i b' m' hb' hm' => by
      by_cases hik : k = i
      · subst hik
        rw [hk] at hb'; cases hb'
        have hlt : k < ms.length := by rw [h.dl]; exact (List.getElem?_eq_some_iff.1 hk).1
        rw [List.getElem?_set_self hlt] at hm'; cases hm'
        exact hb
      · rw [List.getElem?_set_ne hik] at hm'
        refine (h.dig i b' m' hb' hm').other g fun e => hik ?_
        subst e
        exact h.nd _ _ _ hk hb'
    rd := fun i v l' hv hl' => by
      obtain ⟨h1, h2⟩ := h.rd i v l' hv hl'
      refine ⟨RdL.some_other h1 g ?_, h2⟩
      rcases h2 with h2 | h2
      · exact .inl h2
      · exact .inr fun e => h2.1 (e ▸ hmem) }
/-- the byte list k is put -/
theorem DS.put {k : Nat} {v : Value} {l : List UInt8} (h : DS w B va vb bl vs ms ls) (hk : k < vs.length) (hv : RdL u8 w v l) (hs : l = [] ∨ Safe va vb bl (bs v).1) : DS (w.setCell (el vb k) v) B va vb bl (vs.set k v) ms (ls.set k l) := by
  obtain ⟨c1, c2, c3⟩ := h.ob.cellAt hk
  have g := grown_set w (el vb k) v
  have rdo : ∀ v' l', RdL u8 w v' l' → (l' = [] ∨ Safe va vb bl (bs v').1) → RdL u8 (w.setCell (el vb k) v) v' l' := fun v' l' h1 h2 =>
    RdL.some_other h1 g (by
      rcases h2 with h2 | h2
      · exact .inl h2
      · exact .inr fun e => h2.2.2 (by rw [c3, e]))
  exact { h with
    oa := Own.other h.oa g (by
      cases hq : va.ownBlock with
      | none => exact .inl rfl
      | some x => exact .inr fun e => h.ap x hq (by rw [c3, ← e]))
    ob := h.ob.set hk v
    dig := fun i b m hb hm => (h.dig i b m hb hm).other g fun e => (h.lo b (List.mem_of_getElem? hb)).2.2 (by rw [c3, e])
    rl := by simpa using h.rl
    rd := fun i v' l' hv' hl' => by
      by_cases hik : k = i
      · subst hik
        rw [List.getElem?_set_self hk] at hv'; cases hv'
        rw [List.getElem?_set_self (by rw [h.rl]; exact hk)] at hl'; cases hl'
        exact ⟨rdo _ _ hv hs, hs⟩
      · rw [List.getElem?_set_ne hik] at hv' hl'
        obtain ⟨h1, h2⟩ := h.rd i v' l' hv' hl'
        exact ⟨rdo _ _ h1 h2, h2⟩ }
theorem get_snoc {α : Type} {l : List α} {a b : α} {i : Nat} (h : (l ++ [a])[i]? = some b) : l[i]? = some b ∨ (i = l.length ∧ b = a) := by
  rw [List.getElem?_append] at h
  split at h
  · exact .inl h
  · rename_i hi
    cases hq : i - l.length with
    | zero => rw [hq] at h; exact .inr ⟨by omega, by simpa using h.symm⟩
    | succ n => rw [hq] at h; simp at h
/-- a digest is cloned, its pointer appended -/
theorem DS.clone {va' : Value} {m : List UInt8} (h : DS w B va vb bl vs ms ls) (hB : B ≤ w.heap.size)
    (ho : OwnL pd w' B 42 va' (bl ++ [w.heap.size])) (g : (w.alloc (.cells (dgst (Crc.reg 0xffffffff#32 m) m.length true) 54)).grownBy w' va.ownBlock)
    (hl : Lies (w.alloc (.cells (dgst (Crc.reg 0xffffffff#32 m) m.length true) 54)) va va') : DS w' B va' vb (bl ++ [w.heap.size]) vs (ms ++ [m]) ls := by
  have h1 := h.keep (Ext.new w (.cells (dgst (Crc.reg 0xffffffff#32 m) m.length true) 54))
  have hn : Blk (w.alloc (.cells (dgst (Crc.reg 0xffffffff#32 m) m.length true) 54)) w.heap.size 54 (dgst (Crc.reg 0xffffffff#32 m) m.length true) := Blk.new w _ _
  have hsz : (w.alloc (.cells (dgst (Crc.reg 0xffffffff#32 m) m.length true) 54)).heap.size = w.heap.size + 1 := World.size_alloc ..
  generalize w.alloc (.cells (dgst (Crc.reg 0xffffffff#32 m) m.length true) 54) = w1 at *
  have hva : ∀ x, va.ownBlock = some x → x < w.heap.size := fun x hx => (World.ownsRow.lt h.oa x hx).2
  have hvb : ∀ x, vb.ownBlock = some x → x < w.heap.size := fun x hx => (World.ownsRow.lt h.ob x hx).2
  have ha' : ∀ x, va.ownBlock ≠ some x → x < w1.heap.size → va'.ownBlock ≠ some x := fun x hx hlt e => by
    rcases hl with hl | ⟨y, hl, hge⟩
    · exact hx (hl ▸ e)
    · rw [hl] at e; cases e; omega
  have hblk : ∀ x arr, Blk w1 x 54 arr → va.ownBlock ≠ some x → Blk w' x 54 arr := fun x arr hx hne => by
    cases hq : va.ownBlock with
    | none => rw [hq] at g; exact hx.ext (by have := (Ext.refl w1).grown g (fun k e => by cases e); exact this)
    | some y => rw [hq] at g; exact hx.other g fun e => hne (by rw [hq, e])
  refine { oa := ho, ob := Own.apart h1.ob g h1.ap, ap := h1.ap.grow hl h1.ob, dl := by simp [h.dl], dig := fun i b m' hb hm => ?_, lo := fun b hb => ?_, nd := fun i j b hi hj => ?_, rl := h.rl, rd := fun i v l hv hl' => ?_ }
  · rcases get_snoc hb with hb | ⟨rfl, rfl⟩
    · rcases get_snoc hm with hm | ⟨rfl, rfl⟩
      · exact hblk _ _ (h1.dig i b m' hb hm) (h.lo b (List.mem_of_getElem? hb)).2.1
      · have := (List.getElem?_eq_some_iff.1 hb).1; rw [h.dl] at this; omega
    · have : m' = m := by
        rw [← h.dl] at hm; simpa using hm.symm
      subst this
      exact hblk _ _ hn fun e => by have := hva _ e; omega
  · rcases List.mem_append.1 hb with hb | hb
    · obtain ⟨l1, l2, l3⟩ := h.lo b hb
      exact ⟨l1, ha' b l2 (by have := h.ltb hb; omega), l3⟩
    · have : b = w.heap.size := by simpa using hb
      subst this
      exact ⟨hB, ha' _ (fun e => by have := hva _ e; omega) (by omega), fun e => by have := hvb _ e; omega⟩
  · rcases get_snoc hi with hi | ⟨rfl, rfl⟩ <;> rcases get_snoc hj with hj | ⟨rfl, hjj⟩
    · exact h.nd _ _ _ hi hj
    · subst hjj; have := h.ltb (List.mem_of_getElem? hi); omega
    · have := h.ltb (List.mem_of_getElem? hj); omega
    · rfl
  · obtain ⟨r1, r2⟩ := h1.rd i v l hv hl'
    by_cases hnil : l = []
    · subst hnil; exact ⟨Rd.nil_other r1, .inl rfl⟩
    · have r2 := r2.resolve_left hnil
      have hlt := (RdL.lt (h.rd i v l hv hl').1 hnil)
      refine ⟨Rd.grown r1 g (.inr fun e => r2.2.1 e.symm), .inr ⟨fun hm => ?_, ha' _ r2.2.1 (by omega), r2.2.2⟩⟩
      rcases List.mem_append.1 hm with hm | hm
      · exact r2.1 hm
      · have : (bs v).1 = w.heap.size := by simpa using hm
        omega
/-- a byte list is appended -/
theorem DS.more {vb' v : Value} {l : List UInt8} (h : DS w B va vb bl vs ms ls) (ho : OwnL (fun v : Value => v) w' B 22 vb' (vs ++ [v])) (g : w.grownBy w' vb.ownBlock) (hl : Lies w vb vb')
    (hv : RdL u8 w v l) (hs : l = [] ∨ Safe va vb bl (bs v).1) : DS w' B va vb' bl (vs ++ [v]) ms (ls ++ [l]) := by
  have hb' : ∀ x, vb.ownBlock ≠ some x → x < w.heap.size → vb'.ownBlock ≠ some x := fun x hx hlt e => by
    rcases hl with hl | ⟨y, hl, hge⟩
    · exact hx (hl ▸ e)
    · rw [hl] at e; cases e; omega
  have hrd : ∀ v l, RdL u8 w v l → (l = [] ∨ Safe va vb bl (bs v).1) → RdL u8 w' v l ∧ (l = [] ∨ Safe va vb' bl (bs v).1) := fun v l r1 r2 => by
    by_cases hnil : l = []
    · subst hnil; exact ⟨Rd.nil_other r1, .inl rfl⟩
    · have r2 := r2.resolve_left hnil
      exact ⟨Rd.grown r1 g (.inr fun e => r2.2.2 e.symm), .inr ⟨r2.1, r2.2.1, hb' _ r2.2.2 (RdL.lt r1 hnil)⟩⟩
  refine { oa := Own.apart h.oa g h.ap.symm, ob := ho, ap := (h.ap.symm.grow hl h.oa).symm, dl := h.dl, dig := fun i b m hb hm => ?_, lo := fun b hb => ?_, nd := h.nd, rl := by simp [h.rl], rd := fun i v' l' hv' hl' => ?_ }
  · have hne := (h.lo b (List.mem_of_getElem? hb)).2.2
    have hx := h.dig i b m hb hm
    cases hq : vb.ownBlock with
    | none => rw [hq] at g; exact hx.ext ((Ext.refl w).grown g (fun k e => by cases e))
    | some y => rw [hq] at g; exact hx.other g fun e => hne (by rw [hq, e])
  · obtain ⟨l1, l2, l3⟩ := h.lo b hb
    exact ⟨l1, l2, hb' b l3 (h.ltb hb)⟩
  · rcases get_snoc hv' with hv' | ⟨rfl, rfl⟩
    · rcases get_snoc hl' with hl' | ⟨rfl, rfl⟩
      · exact hrd _ _ (h.rd i v' l' hv' hl').1 (h.rd i v' l' hv' hl').2
      · have := (List.getElem?_eq_some_iff.1 hv').1; rw [h.rl] at this; omega
    · have : l' = l := by
        rw [← h.rl] at hl'; simpa using hl'.symm
      subst this
      exact hrd _ _ hv hs
end
end Go.Proofs.Ytmekdfkcjhgkdaa
