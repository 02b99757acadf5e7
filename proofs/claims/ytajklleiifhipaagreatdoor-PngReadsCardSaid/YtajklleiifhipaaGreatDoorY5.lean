/- Texts of the claim, laid together: Pf1, Pf2, Pf3, Pf4, Pf5, Base. -/
import Derived.Test.YtajklleiifhipaaGreatDoorProg
import Derived.WalkKit
import Derived.WalkSpells
import Derived.WalkLawsBesides
import Derived.Test.YtajklleiifhipaaGreatDoorY0
import Derived.Test.YtajklleiifhipaaGreatDoorY4
set_option linter.unusedSimpArgs false
set_option linter.unusedVariables false
namespace Go.Proofs.YtajklleiifhipaaGreatDoor
abbrev U102 := Tryz.underlying102
abbrev U107 := Tryz.underlying107
abbrev U116 := Tryz.underlying116
abbrev U153 := Tryz.underlying153
abbrev U154 := Tryz.underlying154
abbrev U155 := Tryz.underlying155
abbrev U157 := Tryz.underlying157
abbrev U22 := Tryz.underlying22
abbrev U24 := Tryz.underlying24
abbrev U26 := Tryz.underlying26
abbrev U3 := Tryz.underlying3
abbrev U35 := Tryz.underlying35
abbrev U39 := Tryz.underlying39
abbrev U5 := Tryz.underlying5
abbrev U58 := Tryz.underlying58
abbrev U64 := Tryz.underlying64
abbrev U76 := Tryz.underlying76
abbrev U9 := Tryz.underlying9
end Go.Proofs.YtajklleiifhipaaGreatDoor
namespace Go.Proofs.YtajklleiifhipaaGreatDoor
open Go.RowKit Sym
theorem elem_Tint : Elem Tryz.prog 3 1 8 := elem_of (z := .int .i64 0) (by kernel_rfl) rfl (by decide)
abbrev nilI : Value := .slice none 0 0
def nz (l : List Nat) : List Int := l.map (fun n : Nat => (n : Int))
theorem nz_len (l : List Nat) : (nz l).length = l.length := by simp [nz]
theorem nz_get {l : List Nat} {i : Nat} (h : i < l.length) : (nz l)[i]'(by rw [nz_len]; exact h) = (l[i] : Int) := by simp [nz]
def okr (zs : List Int) (m : Int) : Bool := zs.all fun z => decide (0 ≤ z ∧ z ≤ m)
theorem okr_iff {zs : List Int} {m : Int} : okr zs m = true ↔ ∀ z ∈ zs, 0 ≤ z ∧ z ≤ m := by simp [okr]
theorem okr_bad {zs : List Int} {m : Int} {i : Nat} (hi : i < zs.length) (h : zs[i] < 0 ∨ m < zs[i]) : okr zs m = false := by
 cases e : okr zs m with
 | false => rfl
 | true => have := okr_iff.1 e zs[i] (List.getElem_mem hi); omega
theorem okr_take {zs : List Int} {m : Int} {i : Nat} (hi : i < zs.length) (h : okr (zs.take i) m = true) (h2 : ¬ (zs[i] < 0 ∨ m < zs[i])) : okr (zs.take (i + 1)) m = true := by
 rw [okr_iff] at *
 intro z hz
 rw [← List.take_append_getElem hi, List.mem_append, List.mem_singleton] at hz
 rcases hz with hz | rfl
 · exact h z hz
 omega
def toN (zs : List Int) : List Nat := zs.map Int.toNat
theorem toN_nz {zs : List Int} {m : Nat} (h : okr zs m = true) : zs = nz (toN zs) ∧ ∀ n ∈ toN zs, n ≤ m := by
  rw [okr_iff] at h
  refine ⟨?_, fun n hn => ?_⟩
  · unfold nz toN
    rw [List.map_map]
    conv => lhs; rw [← List.map_id zs]
    refine List.map_congr_left fun z hz => ?_
    have := h z hz
    show z = ((z.toNat : Nat) : Int); omega
  obtain ⟨z, hz, rfl⟩ := List.mem_map.1 hn
  have := h z hz; omega
theorem toN_len (zs : List Int) : (toN zs).length = zs.length := by simp [toN]
theorem kr_take {l : List Nat} {i : Nat} (h : i < l.length) : Pf.kr (l.take (i + 1)) = Pf.kr (l.take i) + Pf.un l[i] := by
 rw [← List.take_append_getElem h, Pf.kr_app]; simp [Pf.kr]
theorem kr_bound (l : List Nat) (i : Nat) (h : l.length ≤ 4096) : Pf.kr (l.take i) ≤ 536870912 * 4096 := by
 have h1 := Pf.kr_le (l.take i)
 have h2 : (l.take i).length ≤ 4096 := by rw [List.length_take]; omega
 have h3 := Nat.mul_le_mul_left (2 ^ 29) h2
 omega
theorem un_shr {n : Nat} (h0 : 0 < n) (h : n ≤ 30) : (1073741824 : Int) / 2 ^ min ((n : Int)).toNat IntKind.i64.bits = (Pf.un n : Int) := by
 have e : min ((n : Int)).toNat IntKind.i64.bits = n := by rw [Int.toNat_natCast]; simp [IntKind.bits]; omega
 rw [e, Pf.un, if_neg (by omega)]
 have : (1073741824 : Int) = ((2 ^ 30 : Nat) : Int) := by decide
 rw [this]
 have h2 : ((2 : Int) ^ n) = ((2 ^ n : Nat) : Int) := by simp
 rw [h2, ← Int.natCast_ediv, Nat.pow_div h (by decide)]
theorem un_shl {n : Nat} (h0 : 0 < n) (h : n ≤ 30) : IntKind.i64.wrap ((1 : Int) * 2 ^ min (((30 - n : Nat) : Int)).toNat IntKind.i64.bits) = (Pf.un n : Int) := by
 have e : min (((30 - n : Nat) : Int)).toNat IntKind.i64.bits = 30 - n := by rw [Int.toNat_natCast]; simp [IntKind.bits]; omega
 have h1 := Pf.un_le n
 rw [e, Int.one_mul]
 have h2 : ((2 : Int) ^ (30 - n)) = (Pf.un n : Int) := by rw [Pf.un, if_neg (by omega)]; simp
 rw [h2]; exact IntWalk.i64_in _ (by omega)
def ckv (zs : List Int) : Int := if 4096 < zs.length then 4 else if okr zs 30 = true then (if 1073741824 < Pf.kr (toN zs) then 27 else 0) else 3
theorem within_ret (p : Value) (zs : List Int) (m : Int) (w : World) (hr : RdL i64 w p zs) :
  Ret Tryz.prog 131 #[p, i64 m] w fun v w' => v = i64 (if 4096 < zs.length then 4 else if okr zs m = true then 0 else 3) ∧ Ext w w' := by
 have hM := M.start w
 refine enter Tryz.func131 rfl (by kernel_rfl) Tryz.ntmps131 rfl $ Kb $ Kc rfl $ C.seq $ Kb $ Km rfl $ E.lenv rfl (Rd.shape (by exact hM.arg0 (by assumption))) U76 rfl $ Kp rfl $ Ka $ C.cond' rfl (fun hC0 => ?_) (fun hC0 => ?_)
 ·
  refine Kb $ Kc rfl $ C.ret $ X.retT $ ret1 rfl rfl ?_
  exact ⟨by rw [if_pos (by omega)], hM.toExt⟩
 refine Kk $ C.seq $ Kb $ Km rfl $ E.lenv rfl (Rd.shape (by exact hM.arg0 (by assumption))) U76 rfl $ Km rfl $ Ka $ C.block $ C.loop1 [(1, _), (10, _), (11, _)] rfl (fun (i : Nat) => [(12, i64 i)]) (fun (i : Nat) w' => M w (Nn) w' [] ∧ i ≤ zs.length ∧ okr (zs.take i) m = true) (fun (i : Nat) => zs.length - i) 0 ?_ ?_ ?_
 · exact S1 rfl
 · exact ⟨hM, Nat.zero_le _, rfl⟩
 rintro i w0 ⟨hM, hi, ho⟩
 refine Kb $ Kp rfl $ Ka $ C.seq $ C.cond' rfl (fun hC1 => ?_) (fun hC1 => ?_)
 ·
  have hi' : i < zs.length := by omega
  refine Kk $ C.seq $ C.block $ Kb $ E.get (k := _) rfl rfl (by exact hM.arg0 (by assumption)) rfl (by omega) U76 (by kernel_rfl) U3 rfl rfl rfl $ Kc rfl $ C.chainE [(1, _), (10, _), (11, _), (12, _)] rfl [(22, .bool (decide (zs[i] < 0 ∨ m < zs[i])))] ?_ ?_
  ·
   refine C.region $ Km rfl $ Kp rfl $ Km rfl $ E.split 18 rfl (fun g18 => ?_) (fun g18 => ?_)
   ·
    try simp only [Ya, Yb, Yc, Yd, Ye, Yf] at g18
    refine Kq rfl $ Kq rfl $ Kq rfl $ Kr rfl $ E.nil $ X.join0 (Sub.cons (by exact leaf_t (by omega)) $ Sub.nil _) rfl rfl
   try simp only [Ya, Yb, Yc, Yd, Ye, Yf] at g18
   refine Ko rfl $ Km rfl $ Ko rfl $ Km rfl $ Ko rfl $ Kp rfl $ Kr rfl $ E.nil $ X.join0 (Sub.cons (by exact leaf_d (by omega)) $ Sub.nil _) rfl rfl
  refine C.cond' rfl (fun hC2 => ?_) (fun hC2 => ?_)
  ·
   refine Kb $ Kc rfl $ C.ret $ X.retB $ X.retT $ X.retT $ X.retB $ X.retT $ ret1 rfl rfl ?_
   exact ⟨by rw [if_neg (by omega), okr_bad hi' hC2]; rfl, hM.toExt⟩
  refine C.skip $ X.outN $ X.next $ C.region $ E.add rfl rfl (by omega) rfl $ Km rfl $ E.nil $ X.again1 (i + 1) (S1 rfl) rfl ⟨hM, by omega, okr_take hi' ho hC2⟩ (by omega)
 rw [List.take_of_length_le (by omega)] at ho
 refine Kx $ Kb $ Kc rfl $ C.ret $ ret1 rfl rfl ?_
 exact ⟨by rw [if_neg (by omega), if_pos ho], hM.toExt⟩
theorem right_ret (p : Value) (zs : List Int) (m : Int) (w : World) (hr : RdL i64 w p zs) :
  Ret Tryz.prog 146 #[p, i64 m] w fun v w' => v = i64 (if okr zs m = true then 0 else 3) ∧ Ext w w' := by
 have hM := M.start w
 refine enter Tryz.func146 rfl (by kernel_rfl) Tryz.ntmps146 rfl $ Kb $ Kc rfl $ C.seq $ Kb $ Kc rfl $ C.block $ ?_
 have hle := Rd.le hr
 refine C.loop1 [(0, _), (1, _)] rfl (fun (i : Nat) => [(5, i64 i)]) (fun (i : Nat) w' => M w (Nn) w' [] ∧ i ≤ zs.length ∧ okr (zs.take i) m = true) (fun (i : Nat) => zs.length - i) 0 ?_ ?_ ?_
 · exact S1 rfl
 · exact ⟨hM, Nat.zero_le _, rfl⟩
 rintro i w0 ⟨hM, hi, ho⟩
 refine C.seq $ Kb $ Kf rfl $ E.lenv rfl (Rd.shape (by exact hM.arg0 (by assumption))) U76 rfl $ Kp rfl $ Ka $ C.cond' rfl (fun hC0 => ?_) (fun hC0 => ?_)
 ·
  have hi' : i < zs.length := by omega
  refine Kk $ C.seq $ C.block $ C.chainE [(0, _), (1, _), (5, _)] rfl [(24, .bool (decide (zs[i] < 0 ∨ m < zs[i])))] ?_ ?_
  ·
   refine C.region $ Kf rfl $ E.get (k := _) rfl rfl (by exact hM.arg0 (by assumption)) rfl (by omega) U76 (by kernel_rfl) U3 rfl rfl rfl $ Kp rfl $ Km rfl $ E.split 17 rfl (fun g17 => ?_) (fun g17 => ?_)
   ·
    try simp only [Ya, Yb, Yc, Yd, Ye, Yf] at g17
    refine Kq rfl $ Kq rfl $ Kq rfl $ Kq rfl $ Kq rfl $ Kq rfl $ Kr rfl $ E.nil $ X.join0 (Sub.cons (by exact leaf_t (by omega)) $ Sub.nil _) rfl rfl
   try simp only [Ya, Yb, Yc, Yd, Ye, Yf] at g17
   refine Ko rfl $ Km rfl $ Ko rfl $ Km rfl $ Ko rfl $ E.idx1 (k := _) rfl rfl (by exact hM.arg0 (by assumption)) rfl (by omega) U76 (by kernel_rfl) rfl $ Ko rfl $ E.load rfl U3 rfl (by exact (hM.arg0 (by assumption)).cellA rfl (by omega)) rfl $ Ko rfl $ Km rfl $ Ko rfl $ Kp rfl $ Kr rfl $ E.nil $ X.join0 (Sub.cons (by exact leaf_d (by omega)) $ Sub.nil _) rfl rfl
  refine C.cond' rfl (fun hC1 => ?_) (fun hC1 => ?_)
  ·
   refine Kb $ Kc rfl $ C.ret $ X.retB $ X.retT $ X.retT $ X.retB $ X.retT $ ret1 rfl rfl ?_
   exact ⟨by rw [okr_bad hi' hC1]; rfl, hM.toExt⟩
  refine C.skip $ X.outN $ X.next $ C.region $ Km rfl $ E.add rfl rfl (by omega) rfl $ Kn rfl $ E.nil $ X.again1 (i + 1) (S1 rfl) rfl ⟨hM, by omega, okr_take hi' ho hC1⟩ (by omega)
 rw [List.take_of_length_le (by omega)] at ho
 refine Kx $ Kb $ Kc rfl $ C.ret $ ret1 rfl rfl ?_
 exact ⟨by rw [if_pos ho], hM.toExt⟩
theorem kraft_ret (p : Value) (l : List Nat) (w : World) (hr : RdL i64 w p (nz l)) (hb : ∀ n ∈ l, n ≤ 30) (hlen : l.length ≤ 4096) :
  Ret Tryz.prog 158 #[p] w fun v w' => v = i64 (Pf.kr l : Int) ∧ Ext w w' := by
 have hM := M.start w
 refine enter Tryz.func158 rfl (by kernel_rfl) Tryz.ntmps158 rfl $ Kb $ Kd rfl $ Kc rfl $ C.seq $ Kb $ Km rfl $ E.lenv rfl (Rd.shape (by exact hM.arg0 (by assumption))) U76 rfl $ Km rfl $ Ka $ C.block $ ?_
 have hnl := nz_len l
 refine C.loop1 [(6, _), (7, _)] rfl (fun (i : Nat) => [(3, i64 (Pf.kr (l.take i) : Int)), (8, i64 i)]) (fun (i : Nat) w' => M w (Nn) w' [] ∧ i ≤ l.length) (fun (i : Nat) => l.length - i) 0 ?_ ?_ ?_
 · exact Sub.cons rfl $ S1 rfl
 · exact ⟨hM, Nat.zero_le _⟩
 rintro i w0 ⟨hM, hi⟩
 refine Kb $ Kp rfl $ Ka $ C.seq $ C.cond' rfl (fun hC0 => ?_) (fun hC0 => ?_)
 ·
  have hi' : i < l.length := by omega
  have hbi := hb l[i] (List.getElem_mem hi')
  have hkt := kr_take hi'
  have hkb := kr_bound l i hlen
  have hul := Pf.un_le l[i]
  refine Kk $ C.cut0 [(6, _), (7, _), (8, _)] rfl [(3, i64 (Pf.kr (l.take (i + 1)) : Int))] (fun w' => M w (Nn) w' []) ?_ ?_
  ·
   refine C.block $ Kb $ E.get (k := i) rfl rfl (hM.arg0 hr) rfl (by omega) U76 (by kernel_rfl) U3 rfl rfl rfl ?_
   rw [nz_get hi']
   refine Kd rfl $ Km rfl $ Kp rfl $ Ka $ C.cond' rfl (fun hC1 => ?_) (fun hC1 => ?_)
   ·
    refine C.region $ Kf rfl $ E.shr rfl rfl (by omega) (un_shr (by omega) hbi) rfl $ E.addN rfl rfl (by omega) rfl $ Kn rfl $ E.nil $ X.outN $ X.join0  (Sub.cons (look_val rfl (by rw [hkt])) $ Sub.nil _) rfl hM
   refine C.skip $ X.outN $ X.join0  (Sub.cons (look_val rfl (by rw [hkt, Pf.un, if_pos (by omega)]; rfl)) $ Sub.nil _) rfl hM
  rintro  w1 hM
  refine C.region $ E.add rfl rfl (by omega) rfl $ Km rfl $ E.nil $ X.again1 (i + 1) (Sub.cons rfl $ S1 rfl) rfl ⟨hM, by omega⟩ (by omega)
 obtain rfl : i = l.length := by omega
 rw [List.take_length]
 refine Kx $ Kb $ Km rfl $ Kc rfl $ C.ret $ ret1 rfl rfl ?_
 exact ⟨rfl, hM.toExt⟩
theorem rKraft_ret (p : Value) (l : List Nat) (w : World) (hr : RdL i64 w p (nz l)) (hb : ∀ n ∈ l, n ≤ 30) (hlen : l.length ≤ 4096) :
  Ret Tryz.prog 145 #[p] w fun v w' => v = i64 (Pf.kr l : Int) ∧ Ext w w' := by
 have hM := M.start w
 refine enter Tryz.func145 rfl (by kernel_rfl) Tryz.ntmps145 rfl $ Kb $ Kd rfl $ Kc rfl $ C.seq $ Kb $ Kc rfl $ C.block $ ?_
 have hnl := nz_len l
 refine C.loop1 [(0, _)] rfl (fun (i : Nat) => [(3, i64 (Pf.kr (l.take i) : Int)), (4, i64 i)]) (fun (i : Nat) w' => M w (Nn) w' [] ∧ i ≤ l.length) (fun (i : Nat) => l.length - i) 0 ?_ ?_ ?_
 · exact Sub.cons rfl $ S1 rfl
 · exact ⟨hM, Nat.zero_le _⟩
 rintro i w0 ⟨hM, hi⟩
 refine C.seq $ Kb $ Kf rfl $ E.lenv rfl (Rd.shape (by exact hM.arg0 (by assumption))) U76 rfl $ Kp rfl $ Ka $ C.cond' rfl (fun hC0 => ?_) (fun hC0 => ?_)
 ·
  have hi' : i < l.length := by omega
  have hbi := hb l[i] (List.getElem_mem hi')
  have hkt := kr_take hi'
  have hkb := kr_bound l i hlen
  have hul := Pf.un_le l[i]
  refine Kk $ C.cut0 [(0, _), (4, _)] rfl [(3, i64 (Pf.kr (l.take (i + 1)) : Int))] (fun w' => M w (Nn) w' []) ?_ ?_
  ·
   refine C.block $ Kb $ Kf rfl $ E.get (k := i) rfl rfl (hM.arg0 hr) rfl (by omega) U76 (by kernel_rfl) U3 rfl rfl rfl ?_
   rw [nz_get hi']
   refine Kp rfl $ Ka $ C.cond' rfl (fun hC1 => ?_) (fun hC1 => ?_)
   ·
    refine C.region $ Kf rfl $ Km rfl $ E.get (k := i) rfl rfl (hM.arg0 hr) rfl (by omega) U76 (by kernel_rfl) U3 rfl rfl rfl ?_
    rw [nz_get hi']
    refine E.subN (a := 30) (b := l[i]) rfl rfl (by omega) rfl $ E.conv rfl U3 U64 (IntWalk.u64_in _ (by omega)) rfl $ E.shl rfl rfl (by omega) (un_shl (by omega) hbi) rfl $ E.addN rfl rfl (by omega) rfl $ Kn rfl $ E.nil $ X.outN $ X.join0  (Sub.cons (look_val rfl (by rw [hkt])) $ Sub.nil _) rfl hM
   refine C.skip $ X.outN $ X.join0  (Sub.cons (look_val rfl (by rw [hkt, Pf.un, if_pos (by omega)]; rfl)) $ Sub.nil _) rfl hM
  rintro  w1 hM
  refine C.region $ Km rfl $ E.add rfl rfl (by omega) rfl $ Kn rfl $ E.nil $ X.again1 (i + 1) (Sub.cons rfl $ S1 rfl) rfl ⟨hM, by omega⟩ (by omega)
 obtain rfl : i = l.length := by omega
 rw [List.take_length]
 refine Kx $ Kb $ Km rfl $ Kc rfl $ C.ret $ ret1 rfl rfl ?_
 exact ⟨rfl, hM.toExt⟩
theorem ok_kr {w : World} {p : Value} {zs : List Int} (hr : RdL i64 w p zs) (h : okr zs 30 = true) : RdL i64 w p (nz (toN zs)) ∧ ∀ n ∈ toN zs, n ≤ 30 := by
 obtain ⟨h1, h2⟩ := toN_nz (m := 30) h
 exact ⟨by rw [← h1]; exact hr, h2⟩
theorem wt_ok {zs : List Int} {m : Int} (h : (if 4096 < zs.length then (4 : Int) else if okr zs m = true then 0 else 3) = 0) : zs.length ≤ 4096 ∧ okr zs m = true := by
 split at h
 · omega
 split at h
 · exact ⟨by omega, by assumption⟩
 omega
theorem check_ret (p : Value) (zs : List Int) (w : World) (hr : RdL i64 w p zs) :
  Ret Tryz.prog 141 #[p] w fun v w' => v = i64 (ckv zs) ∧ Ext w w' := by
 have hM := M.start w
 refine enter Tryz.func141 rfl (by kernel_rfl) Tryz.ntmps141 rfl $ Kb $ Kc rfl $ C.seq $ Kb $ Km rfl $ E.call rfl rfl (within_ret p zs 30 _ (hM.arg0 hr)) ?_
 rintro _ w1 ⟨rfl, x1⟩
 have hM := hM.ext x1
 refine Kd rfl $ Km rfl $ Kp rfl $ Ka $ C.cond' rfl (fun hC0 => ?_) (fun hC0 => ?_)
 ·
  refine Kb $ Km rfl $ Kc rfl $ C.ret $ X.retT $ ret1 rfl rfl ?_
  exact ⟨by unfold ckv; congr 1; split; rfl; split; rename_i h1 h2; exact (hC0 (by rw [if_neg h1, if_pos h2])).elim; rfl, hM.toExt⟩
 obtain ⟨hl4, hok⟩ := wt_ok (Decidable.byContradiction hC0)
 have hkb := kr_bound (toN zs) (toN zs).length (by rw [toN_len]; exact hl4)
 rw [List.take_length] at hkb
 refine Kk $ C.seq $ Kb $ Km rfl $ E.call rfl rfl (kraft_ret p (toN zs) _ (ok_kr (hM.arg0 hr) hok).1 (ok_kr (hM.arg0 hr) hok).2 (by rw [toN_len]; exact hl4)) ?_
 rintro _ w2 ⟨rfl, x2⟩
 have hM := hM.ext x2
 refine Kp rfl $ Ka $ C.cond' rfl (fun hC1 => ?_) (fun hC1 => ?_)
 ·
  refine Kb $ Kc rfl $ C.ret $ X.retT $ ret1 rfl rfl ?_
  exact ⟨by rw [ckv, if_neg (by omega), if_pos hok, if_pos (by omega)], hM.toExt⟩
 refine Kk $ Kb $ Kc rfl $ C.ret $ ret1 rfl rfl ?_
 exact ⟨by rw [ckv, if_neg (by omega), if_pos hok, if_neg (by omega)], hM.toExt⟩
theorem rcheck_ret (p : Value) (zs : List Int) (w : World) (hr : RdL i64 w p zs) :
  Ret Tryz.prog 144 #[p] w fun v w' => v = i64 (if 4096 < zs.length then 4 else if okr zs 30 = true then 0 else 3) ∧ Ext w w' := by
 have hM := M.start w
 refine enter Tryz.func144 rfl (by kernel_rfl) Tryz.ntmps144 rfl $ Kb $ Kc rfl $ C.seq $ Kb $ Km rfl $ E.lenv rfl (Rd.shape (by exact hM.arg0 (by assumption))) U76 rfl $ Kp rfl $ Ka $ C.cond' rfl (fun hC0 => ?_) (fun hC0 => ?_)
 ·
  refine Kb $ Kc rfl $ C.ret $ X.retT $ ret1 rfl rfl ?_
  exact ⟨by rw [if_pos (by omega)], hM.toExt⟩
 refine Kk $ Kb $ Km rfl $ E.call rfl rfl (right_ret p zs 30 _ (hM.arg0 hr)) ?_
 rintro _ w1 ⟨rfl, x1⟩
 have hM := hM.ext x1
 refine Kc rfl $ C.ret $ ret1 rfl rfl ?_
 exact ⟨by rw [if_neg (show ¬ 4096 < zs.length by omega)], hM.toExt⟩
def chv (zs : List Int) : Int := if 4096 < zs.length then 4 else if okr zs 30 = true then (if Pf.kr (toN zs) = 0 then 5 else if Pf.kr (toN zs) = 1073741824 then 0 else 27) else 3
theorem Check_ret (p : Value) (zs : List Int) (w : World) (hr : RdL i64 w p zs) :
  Ret Tryz.prog 152 #[p] w fun v w' => v = i64 (chv zs) ∧ Ext w w' := by
 have hM := M.start w
 refine enter Tryz.func152 rfl (by kernel_rfl) Tryz.ntmps152 rfl $ Kb $ Kc rfl $ C.seq $ Kb $ Km rfl $ E.call rfl rfl (within_ret p zs 30 _ (hM.arg0 hr)) ?_
 rintro _ w1 ⟨rfl, x1⟩
 have hM := hM.ext x1
 refine Kd rfl $ Km rfl $ Kp rfl $ Ka $ C.cond' rfl (fun hC0 => ?_) (fun hC0 => ?_)
 ·
  refine Kb $ Km rfl $ Kc rfl $ C.ret $ X.retT $ ret1 rfl rfl ?_
  exact ⟨by unfold chv; congr 1; split; rfl; split; rename_i h1 h2; exact (hC0 (by rw [if_neg h1, if_pos h2])).elim; rfl, hM.toExt⟩
 obtain ⟨hl4, hok⟩ := wt_ok (Decidable.byContradiction hC0)
 have hkb := kr_bound (toN zs) (toN zs).length (by rw [toN_len]; exact hl4)
 rw [List.take_length] at hkb
 refine Kk $ C.seq $ Kb $ Km rfl $ E.call rfl rfl (kraft_ret p (toN zs) _ (ok_kr (hM.arg0 hr) hok).1 (ok_kr (hM.arg0 hr) hok).2 (by rw [toN_len]; exact hl4)) ?_
 rintro _ w2 ⟨rfl, x2⟩
 have hM := hM.ext x2
 refine Ka $ C.block $ Kb $ Kp rfl $ Kc rfl $ C.cond' rfl (fun hC1 => ?_) (fun hC1 => ?_)
 ·
  refine Kb $ Kc rfl $ C.ret $ X.retB $ X.retT $ ret1 rfl rfl ?_
  exact ⟨by rw [chv, if_neg (show ¬ 4096 < zs.length by omega), if_pos hok]; first | (rw [if_pos (show Pf.kr (toN zs) = 0 by omega)]) | (rw [if_neg (show ¬ Pf.kr (toN zs) = 0 by omega), if_pos (show Pf.kr (toN zs) = 1073741824 by omega)]) | rw [if_neg (show ¬ Pf.kr (toN zs) = 0 by omega), if_neg (show ¬ Pf.kr (toN zs) = 1073741824 by omega)], hM.toExt⟩
 refine Kb $ Kp rfl $ Kc rfl $ C.cond' rfl (fun hC2 => ?_) (fun hC2 => ?_)
 ·
  refine Kb $ Kc rfl $ C.ret $ X.retB $ X.retT $ ret1 rfl rfl ?_
  exact ⟨by rw [chv, if_neg (show ¬ 4096 < zs.length by omega), if_pos hok]; first | (rw [if_pos (show Pf.kr (toN zs) = 0 by omega)]) | (rw [if_neg (show ¬ Pf.kr (toN zs) = 0 by omega), if_pos (show Pf.kr (toN zs) = 1073741824 by omega)]) | rw [if_neg (show ¬ Pf.kr (toN zs) = 0 by omega), if_neg (show ¬ Pf.kr (toN zs) = 1073741824 by omega)], hM.toExt⟩
 refine C.skip $ X.outN $ X.next $ Kb $ Kc rfl $ C.ret $ ret1 rfl rfl ?_
 exact ⟨by rw [chv, if_neg (show ¬ 4096 < zs.length by omega), if_pos hok]; first | (rw [if_pos (show Pf.kr (toN zs) = 0 by omega)]) | (rw [if_neg (show ¬ Pf.kr (toN zs) = 0 by omega), if_pos (show Pf.kr (toN zs) = 1073741824 by omega)]) | rw [if_neg (show ¬ Pf.kr (toN zs) = 0 by omega), if_neg (show ¬ Pf.kr (toN zs) = 1073741824 by omega)], hM.toExt⟩
theorem rCheck_ret (p : Value) (zs : List Int) (w : World) (hr : RdL i64 w p zs) :
  Ret Tryz.prog 123 #[p] w fun v w' => v = i64 (chv zs) ∧ Ext w w' := by
 have hM := M.start w
 refine enter Tryz.func123 rfl (by kernel_rfl) Tryz.ntmps123 rfl $ Kb $ Kc rfl $ C.seq $ Kb $ Km rfl $ E.call rfl rfl (rcheck_ret p zs _ (hM.arg0 hr)) ?_
 rintro _ w1 ⟨rfl, x1⟩
 have hM := hM.ext x1
 refine Kd rfl $ Km rfl $ Kp rfl $ Ka $ C.cond' rfl (fun hC0 => ?_) (fun hC0 => ?_)
 ·
  refine Kb $ Km rfl $ Kc rfl $ C.ret $ X.retT $ ret1 rfl rfl ?_
  exact ⟨by unfold chv; congr 1; split; rfl; split; rename_i h1 h2; exact (hC0 (by rw [if_neg h1, if_pos h2])).elim; rfl, hM.toExt⟩
 obtain ⟨hl4, hok⟩ := wt_ok (Decidable.byContradiction hC0)
 have hkb := kr_bound (toN zs) (toN zs).length (by rw [toN_len]; exact hl4)
 rw [List.take_length] at hkb
 refine Kk $ C.seq $ Kb $ Km rfl $ E.call rfl rfl (rKraft_ret p (toN zs) _ (ok_kr (hM.arg0 hr) hok).1 (ok_kr (hM.arg0 hr) hok).2 (by rw [toN_len]; exact hl4)) ?_
 rintro _ w2 ⟨rfl, x2⟩
 have hM := hM.ext x2
 refine Ka $ C.block $ Kb $ Kp rfl $ Kc rfl $ C.cond' rfl (fun hC1 => ?_) (fun hC1 => ?_)
 ·
  refine Kb $ Kc rfl $ C.ret $ X.retB $ X.retT $ ret1 rfl rfl ?_
  exact ⟨by rw [chv, if_neg (show ¬ 4096 < zs.length by omega), if_pos hok]; first | (rw [if_pos (show Pf.kr (toN zs) = 0 by omega)]) | (rw [if_neg (show ¬ Pf.kr (toN zs) = 0 by omega), if_pos (show Pf.kr (toN zs) = 1073741824 by omega)]) | rw [if_neg (show ¬ Pf.kr (toN zs) = 0 by omega), if_neg (show ¬ Pf.kr (toN zs) = 1073741824 by omega)], hM.toExt⟩
 refine Kb $ Kp rfl $ Kc rfl $ C.cond' rfl (fun hC2 => ?_) (fun hC2 => ?_)
 ·
  refine Kb $ Kc rfl $ C.ret $ X.retB $ X.retT $ ret1 rfl rfl ?_
  exact ⟨by rw [chv, if_neg (show ¬ 4096 < zs.length by omega), if_pos hok]; first | (rw [if_pos (show Pf.kr (toN zs) = 0 by omega)]) | (rw [if_neg (show ¬ Pf.kr (toN zs) = 0 by omega), if_pos (show Pf.kr (toN zs) = 1073741824 by omega)]) | rw [if_neg (show ¬ Pf.kr (toN zs) = 0 by omega), if_neg (show ¬ Pf.kr (toN zs) = 1073741824 by omega)], hM.toExt⟩
 refine C.skip $ X.outN $ X.next $ Kb $ Kc rfl $ C.ret $ ret1 rfl rfl ?_
 exact ⟨by rw [chv, if_neg (show ¬ 4096 < zs.length by omega), if_pos hok]; first | (rw [if_pos (show Pf.kr (toN zs) = 0 by omega)]) | (rw [if_neg (show ¬ Pf.kr (toN zs) = 0 by omega), if_pos (show Pf.kr (toN zs) = 1073741824 by omega)]) | rw [if_neg (show ¬ Pf.kr (toN zs) = 0 by omega), if_neg (show ¬ Pf.kr (toN zs) = 1073741824 by omega)], hM.toExt⟩
end Go.Proofs.YtajklleiifhipaaGreatDoor
namespace Go.Proofs.YtajklleiifhipaaGreatDoor
open Go.RowKit Sym
theorem Sym.Ar_ex : ∃ f : Nat → TypeId → Nat → (Nat → Int) → Rg, ∀ b T N g, f b T N g = Rg.blk b T ((tab N g).map i64) := ⟨_, fun _ _ _ _ => rfl⟩
noncomputable def Sym.Ar : Nat → TypeId → Nat → (Nat → Int) → Rg := Classical.choose Sym.Ar_ex
theorem Sym.Ar_eq (b : Nat) (T : TypeId) (N : Nat) (g : Nat → Int) : Sym.Ar b T N g = Rg.blk b T ((tab N g).map i64) := Classical.choose_spec Sym.Ar_ex b T N g
def Sym.upd (g : Nat → Int) (k : Nat) (x : Int) : Nat → Int := fun j => if j = k then x else g j
theorem Sym.Ar_congr {b : Nat} {T : TypeId} {N : Nat} {g h : Nat → Int} (e : ∀ k, k < N → g k = h k) : Sym.Ar b T N g = Sym.Ar b T N h := by rw [Sym.Ar_eq, Sym.Ar_eq, tab_congr e]
theorem Sym.M.arr {w0 w : World} {S : Nat → Prop} {rs : List Rg} {b N k : Nat} {T : TypeId} {g : Nat → Int} (h : M w0 S w rs) (i : Nat) (hi : rs[i]? = some (Sym.Ar b T N g)) (hk : k < N) : w.cell? ⟨b, k, none⟩ = some (i64 (g k)) :=
 h.bcell i (by rw [hi, Sym.Ar_eq]) (by rw [List.getElem?_map, tab_get hk]; rfl)
theorem Sym.tab_upd {N k : Nat} {g : Nat → Int} {x : Int} (hk : k < N) : ((tab N g).map i64).set k (i64 x) = (tab N (Sym.upd g k x)).map i64 := by
  apply List.ext_getElem?
  intro j
  by_cases hj : j < N
  · rw [List.getElem?_map, tab_get hj]
    by_cases e : k = j
    · subst e; rw [List.getElem?_set_self (by simp [tab_len]; exact hk)]; simp [Sym.upd]
    rw [List.getElem?_set_ne e, List.getElem?_map, tab_get hj]; simp only [Option.map_some, Sym.upd, if_neg (fun h : j = k => e h.symm)]
  rw [List.getElem?_eq_none (by simp [tab_len]; omega), List.getElem?_eq_none (by simp [tab_len]; omega)]
theorem Sym.E.storeAr {P : Program} {ops : Array Oper} {Q : Exit → Act → World → Prop} {s : St} {env : Env} {w0 w : World} {S : Nat → Prop} {rs : List Rg} {rest : List Oper} {ty : TypeId} {pos : String} {aft : Array Edge} {t T : TypeId} {x y : Operand} {b N k : Nat} {g : Nat → Int} (i : Nat) (z : Int) (hM : M w0 S w rs) (hi : rs[i]? = some (Sym.Ar b T N g)) (hx : ev env x = some (.pointer (some ⟨b, k, none⟩))) (hy : ev env y = some (i64 z)) (hs : (P.info? t).map (·.size) = some 1) (hk : k < N)
  (h : ∀ w', M w0 S w' (rs.set i (Sym.Ar b T N (Sym.upd g k z))) → wpE P ops Q s rest env w') : wpE P ops Q s (⟨none, .store t x y, ty, pos, aft, none⟩ :: rest) env w :=
 E.storeM i hM (by rw [hi, Sym.Ar_eq]) hx hy hs rfl (old := i64 (g k)) (by rw [List.getElem?_map, tab_get hk]; rfl) fun w' hM' => h w' (by rw [tab_upd hk, ← Sym.Ar_eq] at hM'; exact hM')
end Go.Proofs.YtajklleiifhipaaGreatDoor
namespace Go.Proofs.YtajklleiifhipaaGreatDoor
open Go.RowKit Sym
theorem Sym.M.to {w0 w : World} {S : Nat → Prop} {rs rs' : List Rg} (h : M w0 S w rs) (e : rs = rs') : M w0 S w rs' := e ▸ h
theorem Sym.E.idxN {P : Program} {ops : Array Oper} {Q : Exit → Act → World → Prop} {s : St} {env : Env} {w : World} {rest : List Oper} {ty : TypeId} {pos : String} {aft : Array Edge} {d : Nat} {t e : TypeId} {x ix : Operand} {kk : IntKind} {i n b : Nat} (hx : ev env x = some (.pointer (some ⟨b, 0, none⟩))) (hi : ev env ix = some (.int kk (i : Int)))
  (ht : P.underlying t = some (.array n e)) (hs : (P.info? e).map (·.size) = some 1) (h1 : i < n) (hd : Nat.blt d s.n = true)
  (h : wpE P ops Q s rest ((d, .pointer (some ⟨b, i, none⟩)) :: env) w) : wpE P ops Q s (⟨some d, .indexAddr t x ix, ty, pos, aft, none⟩ :: rest) env w :=
 E.idxA (sz := 1) hx hi ht hs (by omega) (by omega) hd (by rw [show 0 + ((i : Int)).toNat * 1 = i by omega]; exact h)
theorem Sym.S.idxN {P : Program} {ops : Array Oper} {Lq : Act → Prop} {s : St} {env : Env} {w : World} {rest : List Oper} {ty : TypeId} {pos : String} {aft : Array Edge} {d : Nat} {t e : TypeId} {x ix : Operand} {kk : IntKind} {i n b : Nat} (hx : ev env x = some (.pointer (some ⟨b, 0, none⟩))) (hi : ev env ix = some (.int kk (i : Int)))
  (ht : P.underlying t = some (.array n e)) (hs : (P.info? e).map (·.size) = some 1) (h1 : i < n) (hd : Nat.blt d s.n = true)
  (h : wpS P ops Lq s rest ((d, .pointer (some ⟨b, i, none⟩)) :: env) w) : wpS P ops Lq s (⟨some d, .indexAddr t x ix, ty, pos, aft, none⟩ :: rest) env w :=
 S.idxA (sz := 1) hx hi ht hs (by omega) (by omega) hd (by rw [show 0 + ((i : Int)).toNat * 1 = i by omega]; exact h)
end Go.Proofs.YtajklleiifhipaaGreatDoor
namespace Go.Proofs.YtajklleiifhipaaGreatDoor
open Go.RowKit Sym
namespace Pf
theorem getD_eq {l : List Nat} {i : Nat} (h : i < l.length) : l.getD i 0 = l[i] := by rw [List.getD_eq_getElem?_getD, List.getElem?_eq_getElem h]; rfl
theorem sy_snoc {l : List Nat} {i n : Nat} (hi : i < l.length) : sy (l.take (i + 1)) n = sy (l.take i) n ++ (if l[i] = n then [i] else []) := by
  unfold sy
  rw [List.length_take, List.length_take, Nat.min_eq_left (by omega), Nat.min_eq_left (by omega), List.range_succ, List.filter_append]
  congr 1
  · refine List.filter_congr fun j hj => ?_
    have hj := List.mem_range.1 hj
    rw [List.getD_eq_getElem?_getD, List.getD_eq_getElem?_getD, List.getElem?_take, List.getElem?_take, if_pos hj, if_pos (by omega)]
  have e : (l.take (i + 1)).getD i 0 = l[i] := by rw [List.getD_eq_getElem?_getD, List.getElem?_take, if_pos (by omega), List.getElem?_eq_getElem hi]; rfl
  by_cases h : l[i] = n
  · rw [if_pos h]; simp only [List.filter, e, decide_eq_true h]
  rw [if_neg h]; simp only [List.filter, e, decide_eq_false h]
def cnt (l : List Nat) (i n : Nat) : Nat := if n = 0 then 0 else (sy (l.take i) n).length
theorem cnt_zero (l : List Nat) (n : Nat) : cnt l 0 n = 0 := by unfold cnt sy; split <;> simp
theorem cnt_succ {l : List Nat} {i : Nat} (hi : i < l.length) (n : Nat) : cnt l (i + 1) n = cnt l i n + (if n ≠ 0 ∧ n = l[i] then 1 else 0) := by
 unfold cnt
 by_cases h0 : n = 0
 · rw [if_pos h0, if_pos h0, if_neg (by omega)]
 rw [if_neg h0, if_neg h0, sy_snoc hi, List.length_append]
 by_cases h : l[i] = n
 · rw [if_pos h, if_pos ⟨h0, h.symm⟩]; rfl
 rw [if_neg h, if_neg (by omega)]; rfl
def nx (l : List Nat) (n : Nat) : Nat := (ord l (n - 1)).length
theorem nx_succ (l : List Nat) (n : Nat) : nx l (n + 1) = nx l n + cnt l l.length n := by
 unfold nx cnt
 rw [List.take_length]
 cases n with
 | zero => rfl
 | succ n => rw [if_neg (by omega)]; show (ord l (n + 1)).length = _; rw [ord, List.length_append]; rfl
theorem nx_last (l : List Nat) : nx l 31 = (od l).length := by rw [od_eq]; rfl
theorem sy_ex {l : List Nat} {i : Nat} (hi : i < l.length) : ∃ t, sy l l[i] = sy (l.take i) l[i] ++ i :: t := by
 have key : ∀ m, i < m → m ≤ l.length → ∃ t, sy (l.take m) l[i] = sy (l.take i) l[i] ++ i :: t := by
  intro m
  induction m with
  | zero => intro h; omega
  | succ m ih =>
   intro h1 h2
   by_cases e : i = m
   · subst e; exact ⟨[], by rw [sy_snoc hi, if_pos rfl]⟩
   obtain ⟨t, ht⟩ := ih (by omega) (by omega)
   exact ⟨t ++ (if l[m] = l[i] then [m] else []), by rw [sy_snoc (by omega), ht]; simp⟩
 have := key l.length hi (Nat.le_refl _)
 rwa [List.take_length] at this
theorem ord_ex {l : List Nat} {n m : Nat} (h0 : 1 ≤ n) (h : n ≤ m) : ∃ t, ord l m = ord l (n - 1) ++ sy l n ++ t := by
 induction m with
 | zero => omega
 | succ m ih =>
  by_cases e : n = m + 1
  · subst e; exact ⟨[], by rw [ord, List.append_nil]; rfl⟩
  obtain ⟨t, ht⟩ := ih (by omega)
  exact ⟨t ++ sy l (m + 1), by rw [ord, ht]; simp⟩
theorem od_place {l : List Nat} {i : Nat} (hi : i < l.length) (h0 : 1 ≤ l[i]) (h : l[i] ≤ 30) : (od l)[nx l l[i] + cnt l i l[i]]? = some i := by
 obtain ⟨t, ht⟩ := ord_ex (l := l) h0 h
 obtain ⟨t', ht'⟩ := sy_ex hi
 have hc : cnt l i l[i] = (sy (l.take i) l[i]).length := by rw [cnt, if_neg (by omega)]
 rw [od_eq, ht, ht', hc, nx, List.append_assoc, List.getElem?_append_right (by omega), Nat.add_sub_cancel_left, List.append_assoc, List.getElem?_append_right (by omega), Nat.sub_self]; rfl
theorem nd_le : ∀ (m : Nat) (os : List Nat), os.Nodup → (∀ x ∈ os, x < m) → os.length ≤ m
  | 0, [], _, _ => Nat.le_refl _
  | 0, a :: os, _, h => absurd (h a (by simp)) (by omega)
  | m + 1, os, hn, h => by
    by_cases hm : m ∈ os
    · have h1 := nd_le m (os.erase m) (hn.erase m) fun x hx => by
        have := (List.Nodup.mem_erase_iff hn).1 hx
        have := h x this.2; omega
      rw [List.length_erase_of_mem hm] at h1; omega
    have := nd_le m os hn fun x hx => by
      have h1 := h x hx
      have : x ≠ m := fun e => hm (e ▸ hx)
      omega
    omega
theorem od_le (l : List Nat) : (od l).length ≤ l.length := nd_le _ _ (od_nodup l) fun i hi => (od_mem.1 hi).1
noncomputable def lay (l : List Nat) (i a : Nat) : Int := if (od l).getD a 0 < i then (((od l).getD a 0 : Nat) : Int) else 0
theorem lay_end {l : List Nat} : tab (od l).length (lay l l.length) = nz (od l) := by
 refine (tab_eq (by rw [nz_len]) fun a ha => ?_).symm
 have hm := (od_mem.1 (List.getElem_mem ha)).1
 unfold nz lay
 rw [List.getElem?_map, List.getElem?_eq_getElem ha, getD_eq ha, if_pos hm]; rfl
theorem lay_skip {l : List Nat} {i a : Nat} (hi : i < l.length) (h : l[i] = 0) (ha : a < (od l).length) : lay l i a = lay l (i + 1) a := by
 have hm := (od_mem.1 (List.getElem_mem ha)).2.1
 unfold lay
 rw [getD_eq ha]
 by_cases e : (od l)[a] = i
 · rw [e, getD_eq hi] at hm; omega
 by_cases e2 : (od l)[a] < i
 · rw [if_pos e2, if_pos (by omega)]
 rw [if_neg e2, if_neg (by omega)]
theorem lay_put {l : List Nat} {i : Nat} (hi : i < l.length) (h0 : 1 ≤ l[i]) (h : l[i] ≤ 30) : nx l l[i] + cnt l i l[i] < (od l).length ∧ (tab (od l).length (lay l i)).set (nx l l[i] + cnt l i l[i]) (i : Int) = tab (od l).length (lay l (i + 1)) := by
  have hp := od_place hi h0 h
  obtain ⟨hlt, he⟩ := List.getElem?_eq_some_iff.1 hp
  refine ⟨hlt, tab_eq (by simp [tab_len]) fun a ha => ?_⟩
  by_cases e : nx l l[i] + cnt l i l[i] = a
  · subst e
    rw [List.getElem?_set_self (by simpa [tab_len] using ha)]
    unfold lay
    rw [getD_eq ha, he, if_pos (by omega)]
  rw [List.getElem?_set_ne e, tab_get ha]
  unfold lay
  rw [getD_eq ha]
  have hne : (od l)[a] ≠ i := fun e2 => by
    have e3 := (od_nodup l).idxOf_getElem _ hlt
    have e4 := (od_nodup l).idxOf_getElem a ha
    rw [he] at e3; rw [e2] at e4; omega
  by_cases e2 : (od l)[a] < i
  · rw [if_pos e2, if_pos (by omega)]
  rw [if_neg e2, if_neg (by omega)]
theorem nx_le {l : List Nat} {n : Nat} (h : n ≤ 31) : nx l n ≤ (od l).length := by
  have key : ∀ m, n ≤ m → nx l n ≤ nx l m := by
    intro m
    induction m with
    | zero => intro h; obtain rfl : n = 0 := by omega
              exact Nat.le_refl _
    | succ m ih =>
      intro h
      by_cases e : n = m + 1
      · subst e; exact Nat.le_refl _
      have := ih (by omega); rw [nx_succ]; omega
  rw [← nx_last]; exact key 31 h
theorem cnt_le {l : List Nat} {i n : Nat} (hi : i ≤ l.length) : cnt l i n ≤ i := by
 unfold cnt
 split
 · omega
 have := List.length_filter_le (fun j => decide ((l.take i).getD j 0 = n)) (List.range (l.take i).length)
 rw [List.length_range] at this
 refine Nat.le_trans this ?_
 rw [List.length_take]; omega
theorem lay_zero (l : List Nat) : List.replicate (od l).length 0 = tab (od l).length (lay l 0) := tab_eq (by simp) fun a ha => by rw [List.getElem?_replicate, if_pos ha]; unfold lay; rw [if_neg (by omega)]
theorem cnt_upd {l : List Nat} {i : Nat} (hi : i < l.length) (h0 : l[i] ≠ 0) (k : Nat) : Sym.upd (fun n => (cnt l i n : Int)) l[i] ((cnt l i l[i] : Int) + 1) k = (cnt l (i + 1) k : Int) := by
 rw [cnt_succ hi k]; unfold Sym.upd
 by_cases e : k = l[i]
 · rw [if_pos e, if_pos (by omega), e]; omega
 rw [if_neg e, if_neg (by omega)]; rfl
theorem cnt_same {l : List Nat} {i : Nat} (hi : i < l.length) (h0 : l[i] = 0) (k : Nat) : cnt l (i + 1) k = cnt l i k := by rw [cnt_succ hi k, if_neg (by omega)]; rfl
theorem nx_init (l : List Nat) (j : Nat) : (0 : Int) = if j ≤ 0 then (nx l j : Int) else 0 := by
 by_cases e : j = 0
 · subst e; rfl
 rw [if_neg (by omega)]
theorem nx_upd (l : List Nat) (k j : Nat) : Sym.upd (fun n => if n ≤ k then (nx l n : Int) else 0) (k + 1) ((nx l k : Int) + (cnt l l.length k : Int)) j = if j ≤ k + 1 then (nx l j : Int) else 0 := by
 unfold Sym.upd
 by_cases e : j = k + 1
 · rw [if_pos e, if_pos (by omega), e, nx_succ]; omega
 rw [if_neg e]
 by_cases e2 : j ≤ k
 · rw [if_pos (by omega)]; show (if j ≤ k then _ else _) = _; rw [if_pos e2]
 rw [if_neg (by omega)]; show (if j ≤ k then _ else _) = _; rw [if_neg e2]
theorem n2_upd {l : List Nat} {i : Nat} (hi : i < l.length) (h0 : l[i] ≠ 0) (k : Nat) : Sym.upd (fun n => ((nx l n + cnt l i n : Nat) : Int)) l[i] ((nx l l[i] + cnt l i l[i] + 1 : Nat) : Int) k = ((nx l k + cnt l (i + 1) k : Nat) : Int) := by
 rw [cnt_succ hi k]; unfold Sym.upd
 by_cases e : k = l[i]
 · rw [if_pos e, if_pos (by omega), e]; omega
 rw [if_neg e, if_neg (by omega)]; rfl
end Pf
theorem Sym.two {a a' b b' : Rg} (h1 : a = a') (h2 : b = b') : [a, b] = [a', b'] := by rw [h1, h2]
set_option maxHeartbeats 2000000 in
theorem ordered_ret (p : Value) (l : List Nat) (w : World) (hr : RdL i64 w p (nz l)) (hb : ∀ n ∈ l, n ≤ 30) (hlen : l.length ≤ 4096) :
  Ret Tryz.prog 142 #[p] w fun v w' => M w Nn w' [Rg.sl i64 3 v (nz (Pf.od l))] := by
 have hM := M.start w
 refine enter Tryz.func142 rfl (by kernel_rfl) Tryz.ntmps142 rfl $ Kb $ Kd rfl $ E.allocM (z := .agg #[.int .i64 0, .int .i64 0, .int .i64 0, .int .i64 0, .int .i64 0, .int .i64 0, .int .i64 0, .int .i64 0, .int .i64 0, .int .i64 0, .int .i64 0, .int .i64 0, .int .i64 0, .int .i64 0, .int .i64 0, .int .i64 0, .int .i64 0, .int .i64 0, .int .i64 0, .int .i64 0, .int .i64 0, .int .i64 0, .int .i64 0, .int .i64 0, .int .i64 0, .int .i64 0, .int .i64 0, .int .i64 0, .int .i64 0, .int .i64 0, .int .i64 0, .int .i64 0]) (cs := [.int .i64 0, .int .i64 0, .int .i64 0, .int .i64 0, .int .i64 0, .int .i64 0, .int .i64 0, .int .i64 0, .int .i64 0, .int .i64 0, .int .i64 0, .int .i64 0, .int .i64 0, .int .i64 0, .int .i64 0, .int .i64 0, .int .i64 0, .int .i64 0, .int .i64 0, .int .i64 0, .int .i64 0, .int .i64 0, .int .i64 0, .int .i64 0, .int .i64 0, .int .i64 0, .int .i64 0, .int .i64 0, .int .i64 0, .int .i64 0, .int .i64 0, .int .i64 0]) hM (by kernel_rfl) rfl rfl ?_
 intro b3 w0 hM
 refine E.allocM (z := .agg #[.int .i64 0, .int .i64 0, .int .i64 0, .int .i64 0, .int .i64 0, .int .i64 0, .int .i64 0, .int .i64 0, .int .i64 0, .int .i64 0, .int .i64 0, .int .i64 0, .int .i64 0, .int .i64 0, .int .i64 0, .int .i64 0, .int .i64 0, .int .i64 0, .int .i64 0, .int .i64 0, .int .i64 0, .int .i64 0, .int .i64 0, .int .i64 0, .int .i64 0, .int .i64 0, .int .i64 0, .int .i64 0, .int .i64 0, .int .i64 0, .int .i64 0, .int .i64 0]) (cs := [.int .i64 0, .int .i64 0, .int .i64 0, .int .i64 0, .int .i64 0, .int .i64 0, .int .i64 0, .int .i64 0, .int .i64 0, .int .i64 0, .int .i64 0, .int .i64 0, .int .i64 0, .int .i64 0, .int .i64 0, .int .i64 0, .int .i64 0, .int .i64 0, .int .i64 0, .int .i64 0, .int .i64 0, .int .i64 0, .int .i64 0, .int .i64 0, .int .i64 0, .int .i64 0, .int .i64 0, .int .i64 0, .int .i64 0, .int .i64 0, .int .i64 0, .int .i64 0]) hM (by kernel_rfl) rfl rfl ?_
 intro b4 w1 hM
 refine Ka $ C.seq $ Kb $ Km rfl $ ?_
 have hnl := nz_len l
 have hod := Pf.od_le l
 have hM : M w Nn _ [Sym.Ar b3 182 32 (fun n => (Pf.cnt l 0 n : Int)), Sym.Ar b4 182 32 (fun _ => 0)] := hM.to (Sym.two ((congrArg (Rg.blk b3 182) (show _ = (tab 32 (fun _ => (0 : Int))).map i64 from rfl)).trans ((Sym.Ar_eq _ _ _ _).symm.trans (Sym.Ar_congr fun k _ => by rw [Pf.cnt_zero]; rfl))) ((congrArg (Rg.blk b4 182) (show _ = (tab 32 (fun _ => (0 : Int))).map i64 from rfl)).trans (Sym.Ar_eq _ _ _ _).symm))
 refine E.lenv rfl (Rd.shape (hM.arg0 hr)) U76 rfl ?_
 rw [nz_len]
 refine Km rfl $ Ka $ C.block $ C.loop1 [(0, _), (3, _), (4, _), (11, _), (12, _)] rfl (fun (i : Nat) => [(13, i64 i)]) (fun (i : Nat) w' => M w (Nn) w' [Sym.Ar b3 182 32 (fun n => (Pf.cnt l i n : Int)), Sym.Ar b4 182 32 (fun _ => 0)] ∧ i ≤ l.length) (fun (i : Nat) => l.length - i) 0 ?_ ?_ ?_
 · exact S1 rfl
 · exact ⟨hM, Nat.zero_le _⟩
 rintro i w2 ⟨hM, hi⟩
 refine Kb $ Kp rfl $ Ka $ C.seq $ C.cond' rfl (fun hC0 => ?_) (fun hC0 => ?_)
 ·
  have hi' : i < l.length := by omega
  have hbi := hb l[i] (List.getElem_mem hi')
  have hcl := Pf.cnt_le (n := l[i]) hi
  refine Kk $ C.cut0 [(0, _), (3, _), (4, _), (11, _), (12, _), (13, _)] rfl [] (fun w' => M w (Nn) w' [Sym.Ar b3 182 32 (fun n => (Pf.cnt l (i + 1) n : Int)), Sym.Ar b4 182 32 (fun _ => 0)]) ?_ ?_
  ·
   refine C.block $ Kb $ E.get (k := i) rfl rfl (hM.arg0 hr) rfl (by omega) U76 (by kernel_rfl) U3 rfl rfl rfl ?_
   rw [nz_get hi']
   refine Kd rfl $ Km rfl $ Kp rfl $ Ka $ C.cond' rfl (fun hC1 => ?_) (fun hC1 => ?_)
   ·
    refine C.region $ Km rfl $ E.idxN (i := l[i]) rfl rfl Tryz.underlying182 (by kernel_rfl) (by omega) rfl $ E.load rfl U3 rfl (hM.arr 0 rfl (by omega)) rfl $ E.add rfl rfl (by omega) rfl $ E.idxN (i := l[i]) rfl rfl Tryz.underlying182 (by kernel_rfl) (by omega) rfl $ E.storeAr 0 _ hM rfl rfl rfl (by kernel_rfl) (by omega) ?_
    intro w3 hM
    refine E.nil $ X.outN $ X.join0  (Sub.nil _) rfl (hM.to (Sym.two (Sym.Ar_congr fun k _ => Pf.cnt_upd hi' (by omega) k) rfl))
   refine C.skip $ X.outN $ X.join0  (Sub.nil _) rfl (hM.to (Sym.two (Sym.Ar_congr fun k _ => by rw [Pf.cnt_same hi' (by omega)]) rfl))
  rintro  w4 hM
  refine C.region $ E.add rfl rfl (by omega) rfl $ Km rfl $ E.nil $ X.again1 (i + 1) (S1 rfl) rfl ⟨hM, by omega⟩ (by omega)
 obtain rfl : i = l.length := by omega
 refine Kx $ C.seq $ Kb $ Km rfl $ Ka $ C.block $ C.loop1 [(0, _), (3, _), (4, _)] rfl (fun (k : Nat) => [(25, i64 k)]) (fun (k : Nat) w' => M w (Nn) w' [Sym.Ar b3 182 32 (fun n => (Pf.cnt l l.length n : Int)), Sym.Ar b4 182 32 (fun n => if n ≤ k then (Pf.nx l n : Int) else 0)] ∧ k ≤ 31) (fun (k : Nat) => 31 - k) 0 ?_ ?_ ?_
 · exact S1 rfl
 · exact ⟨hM.to (Sym.two rfl (Sym.Ar_congr fun k _ => Pf.nx_init l k)), by omega⟩
 rintro k w5 ⟨hM, hk⟩
 refine Kb $ Kp rfl $ Ka $ C.seq $ C.cond' rfl (fun hC2 => ?_) (fun hC2 => ?_)
 ·
  have hn1 := Pf.nx_le (l := l) (show k ≤ 31 by omega)
  have hn2 := Pf.cnt_le (n := k) (Nat.le_refl l.length)
  refine Kk $ C.seq $ C.block $ Kb $ Km rfl $ Kc rfl $ C.drawnT 10 (by kernel_rfl) (by kernel_rfl) fun wh6 hwh6 => ?_
  have hM := hM.ext hwh6
  refine S.mv rfl rfl $ S.addN (a := k) (b := 1) rfl rfl (by omega) rfl $ S.mv rfl rfl $ S.idxN (i := k) rfl rfl Tryz.underlying182 (by kernel_rfl) (by omega) rfl $ S.load rfl U3 rfl (hM.arr 1 rfl (by omega)) rfl ?_
  rw [if_pos (Nat.le_refl k)]
  refine S.mv rfl rfl $ S.idxN (i := k) rfl rfl Tryz.underlying182 (by kernel_rfl) (by omega) rfl $ S.load rfl U3 rfl (hM.arr 0 rfl (by omega)) rfl $ S.add rfl rfl (by omega) rfl $ S.idxN (i := (k + 1)) rfl rfl Tryz.underlying182 (by kernel_rfl) (by omega) rfl $ S.nil $ E.storeAr 1 _ hM rfl rfl rfl (by kernel_rfl) (by omega) ?_
  intro w7 hM
  refine E.nil $ X.outN $ X.next $ C.region $ E.add rfl rfl (by omega) rfl $ Km rfl $ E.nil $ X.again1 (k + 1) (S1 rfl) rfl ⟨hM.to (Sym.two rfl (Sym.Ar_congr fun j _ => Pf.nx_upd l k j)), by omega⟩ (by omega)
 obtain rfl : k = 31 := by omega
 refine Kx $ Kb $ E.idxN (i := 31) rfl rfl Tryz.underlying182 (by kernel_rfl) (by omega) rfl $ E.load rfl U3 rfl (hM.arr 1 rfl (by omega)) rfl ?_
 rw [if_pos (Nat.le_refl 31), Pf.nx_last]
 refine E.makeM (by_ := 8) (enc := i64) 0 hM rfl U76 (by kernel_rfl) rfl (by omega) (by omega) rfl ?_
 intro v41 w8 hM
 refine Kc rfl $ C.seq $ Kb $ E.mv rfl rfl ?_
 skip
 refine E.lenv rfl (Rd.shape (hM.arg0 hr)) U76 rfl ?_
 rw [nz_len]
 refine Km rfl $ Ka $ C.block $ C.loop1 [(4, _), (8, _), (42, _), (43, _)] rfl (fun (i : Nat) => [(44, i64 i)]) (fun (i : Nat) w' => M w (Nn) w' [Sym.Ar b4 182 32 (fun n => ((Pf.nx l n + Pf.cnt l i n : Nat) : Int)), Rg.sl i64 3 v41 (tab (Pf.od l).length (Pf.lay l i))] ∧ i ≤ l.length) (fun (i : Nat) => l.length - i) 0 ?_ ?_ ?_
 · exact S1 rfl
 · exact ⟨(hM.pick [1, 2] (by decide)).to (Sym.two (Sym.Ar_congr (fun k hk => by rw [Pf.cnt_zero, if_pos (by omega)]; rfl)) (by rw [Pf.lay_zero l])), Nat.zero_le _⟩
 rintro i w9 ⟨hM, hi⟩
 refine Kb $ Kp rfl $ Ka $ C.seq $ C.cond' rfl (fun hC3 => ?_) (fun hC3 => ?_)
 ·
  have hi' : i < l.length := by omega
  have hbi := hb l[i] (List.getElem_mem hi')
  refine Kk $ C.cut0 [(4, _), (8, _), (42, _), (43, _), (44, _)] rfl [] (fun w' => M w (Nn) w' [Sym.Ar b4 182 32 (fun n => ((Pf.nx l n + Pf.cnt l (i + 1) n : Nat) : Int)), Rg.sl i64 3 v41 (tab (Pf.od l).length (Pf.lay l (i + 1)))]) ?_ ?_
  ·
   refine C.block $ Kb $ Km rfl $ E.get (k := i) rfl rfl (hM.arg0 hr) rfl (by omega) U76 (by kernel_rfl) U3 rfl rfl rfl ?_
   rw [nz_get hi']
   refine Kn rfl $ Kd rfl $ Km rfl $ Kp rfl $ Ka $ C.cond' rfl (fun hC4 => ?_) (fun hC4 => ?_)
   ·
    obtain ⟨hp1, hp2⟩ := Pf.lay_put hi' (by omega) hbi
    refine Kb $ Kf rfl $ E.idxN (i := l[i]) rfl rfl Tryz.underlying182 (by kernel_rfl) (by omega) rfl $ E.load rfl U3 rfl (hM.arr 0 rfl (by omega)) rfl $ Km rfl $ E.idx1 (k := Pf.nx l l[i] + Pf.cnt l i l[i]) rfl rfl (hM.sl 1 rfl) rfl (by rw [tab_len]; exact hp1) U76 (by kernel_rfl) rfl $ E.storeL 1 (i : Int) hM rfl rfl rfl (by kernel_rfl) rfl rfl (by rw [tab_len]; exact hp1) ?_
    intro w10 hM
    rw [hp2] at hM
    refine Ka $ C.region $ Km rfl $ E.idxN (i := l[i]) rfl rfl Tryz.underlying182 (by kernel_rfl) (by omega) rfl $ E.load rfl U3 rfl (hM.arr 0 rfl (by omega)) rfl $ E.addN (b := 1) rfl rfl (by omega) rfl $ E.idxN (i := l[i]) rfl rfl Tryz.underlying182 (by kernel_rfl) (by omega) rfl $ E.storeAr 0 _ hM rfl rfl rfl (by kernel_rfl) (by omega) ?_
    intro w11 hM
    refine E.nil $ X.outN $ X.join0  (Sub.nil _) rfl (hM.to (Sym.two (Sym.Ar_congr fun k _ => Pf.n2_upd hi' (by omega) k) rfl))
   refine C.skip $ X.outN $ X.join0  (Sub.nil _) rfl (hM.to (Sym.two (Sym.Ar_congr fun k _ => by rw [Pf.cnt_same hi' (by omega)]) (by rw [tab_congr fun a ha => Pf.lay_skip hi' (by omega) ha])))
  rintro  w12 hM
  refine C.region $ E.add rfl rfl (by omega) rfl $ Km rfl $ E.nil $ X.again1 (i + 1) (S1 rfl) rfl ⟨hM, by omega⟩ (by omega)
 obtain rfl : i = l.length := by omega
 rw [Pf.lay_end] at hM
 refine Kx $ Kb $ Km rfl $ Kc rfl $ C.ret $ ret1 rfl rfl ?_
 exact hM.pick [1] (by decide)
end Go.Proofs.YtajklleiifhipaaGreatDoor
namespace Go.Proofs.YtajklleiifhipaaGreatDoor
open Go.RowKit Sym
theorem shl_nat {a k c : Nat} (hk : k ≤ 62) (e : a * 2 ^ k = c) (hc : c ≤ 9223372036854775807) : IntKind.i64.wrap ((a : Int) * 2 ^ min ((k : Int)).toNat IntKind.i64.bits) = (c : Int) := by
 have e1 : min ((k : Int)).toNat IntKind.i64.bits = k := by rw [Int.toNat_natCast]; simp [IntKind.bits]; omega
 have e2 : (a : Int) * 2 ^ k = (c : Int) := by rw [← e]; simp
 rw [e1, e2]; exact IntWalk.i64_in _ (by omega)
namespace Pf
noncomputable def szk (l : List Nat) (k : Nat) : Nat := if k = 0 then 0 else l.getD ((od l).getD (k - 1) 0) 0
noncomputable def nv (l : List Nat) (k : Nat) : Nat := Kp l (od l) k / 2 ^ (30 - szk l k)
theorem szk_zero (l : List Nat) : szk l 0 = 0 := rfl
theorem nv_zero (l : List Nat) : nv l 0 = 0 := by unfold nv Kp; simp [lens, kr]
theorem szk_succ {l : List Nat} {k : Nat} (hk : k < (od l).length) : szk l (k + 1) = l.getD (od l)[k] 0 := by
 unfold szk; rw [if_neg (by omega)]; show l.getD ((od l).getD k 0) 0 = _; rw [getD_eq hk]
theorem ahead_sz {l : List Nat} {k : Nat} (hk : k ≤ (od l).length) : ∀ i ∈ (od l).take k, l.getD i 0 ≤ szk l k := by
 cases k with
 | zero => intro i hi; simp at hi
 | succ k =>
  intro i hi
  rw [szk_succ (by omega)]
  rw [← List.take_append_getElem (show k < (od l).length by omega), List.mem_append, List.mem_singleton] at hi
  rcases hi with hi | rfl
  · exact ahead_le (od_sorted l) _ i hi
  exact Nat.le_refl _
theorem szk_le {l : List Nat} {k : Nat} (hk : k ≤ (od l).length) : szk l k ≤ 30 := by
 cases k with
 | zero => exact Nat.zero_le _
 | succ k => rw [szk_succ (by omega)]; exact (od_mem.1 (List.getElem_mem _)).2.2
theorem cd_step {l : List Nat} {k : Nat} (hk : k < (od l).length) : szk l k ≤ l.getD (od l)[k] 0 ∧ 1 ≤ l.getD (od l)[k] 0 ∧ l.getD (od l)[k] 0 ≤ 30 ∧ nv l k * 2 ^ (l.getD (od l)[k] 0 - szk l k) = code l (od l)[k] ∧ nv l (k + 1) = code l (od l)[k] + 1 := by
  have hm := (od_mem.1 (List.getElem_mem hk)).2
  have hsz : szk l k ≤ l.getD (od l)[k] 0 := by
    cases k with
    | zero => exact Nat.zero_le _
    | succ k =>
      rw [szk_succ (by omega)]
      refine ahead_le (od_sorted l) hk _ ?_
      rw [← List.take_append_getElem (show k < (od l).length by omega)]; exact List.mem_append.2 (.inr (by simp))
  have hd := Kp_dvd (od_sorted l) (fun i hi => (od_mem.1 hi).2) (k := k) (n := szk l k) (by omega) (ahead_sz (by omega)) (szk_le (by omega))
  have hc := (code_at hk).2
  refine ⟨hsz, hm.1, hm.2, ?_, ?_⟩
  · obtain ⟨c, hc'⟩ := hd
    have e : 2 ^ (30 - szk l k) = 2 ^ (l.getD (od l)[k] 0 - szk l k) * 2 ^ (30 - l.getD (od l)[k] 0) := by rw [← Nat.pow_add]; congr 1; omega
    rw [hc, nv, hc', Nat.mul_div_cancel_left _ (Nat.pow_pos (by decide)), e, Nat.mul_assoc, Nat.mul_comm (2 ^ (30 - l.getD (od l)[k] 0)) c, ← Nat.mul_assoc, Nat.mul_div_cancel _ (Nat.pow_pos (by decide)), Nat.mul_comm]
  rw [hc, nv, szk_succ hk, Kp_succ hk, un, if_neg (by omega), Nat.add_div_right _ (Nat.pow_pos (by decide))]
noncomputable def cdp (l : List Nat) (k i : Nat) : Int := open Classical in if i ∈ (od l).take k then (code l i : Int) else 0
noncomputable def cdl (l : List Nat) : List Int := tab l.length fun i => (code l i : Int)
theorem cdp_zero (l : List Nat) : List.replicate l.length 0 = tab l.length (cdp l 0) := tab_eq (by simp) fun a ha => by rw [List.getElem?_replicate, if_pos ha]; unfold cdp; rw [if_neg (by simp)]
theorem cdp_end {l : List Nat} (hb : ∀ n ∈ l, n ≤ 30) : tab l.length (cdp l (od l).length) = cdl l := by
 refine tab_congr fun i hi => ?_
 unfold cdp
 rw [List.take_length]
 by_cases h : i ∈ od l
 · rw [if_pos h]
 rw [if_neg h]
 have h2 := mt od_mem.2 h
 have := hb l[i] (List.getElem_mem hi)
 rw [getD_eq hi] at h2
 unfold code
 rw [if_pos (by rw [getD_eq hi]; omega)]; rfl
theorem cdp_put {l : List Nat} {k : Nat} (hk : k < (od l).length) : (od l)[k] < l.length ∧ (tab l.length (cdp l k)).set (od l)[k] (code l (od l)[k] : Int) = tab l.length (cdp l (k + 1)) := by
  have hm := od_mem.1 (List.getElem_mem hk)
  refine ⟨hm.1, tab_eq (by simp [tab_len]) fun i hi => ?_⟩
  have ht : ∀ j, j ∈ (od l).take (k + 1) ↔ j ∈ (od l).take k ∨ j = (od l)[k] := fun j => by rw [← List.take_append_getElem hk, List.mem_append, List.mem_singleton]
  by_cases e : (od l)[k] = i
  · subst e
    rw [List.getElem?_set_self (by simpa [tab_len] using hi)]
    unfold cdp; rw [if_pos ((ht _).2 (.inr rfl))]
  rw [List.getElem?_set_ne e, tab_get hi]
  unfold cdp
  by_cases h : i ∈ (od l).take k
  · rw [if_pos h, if_pos ((ht _).2 (.inl h))]
  rw [if_neg h, if_neg fun h2 => ((ht _).1 h2).elim h fun h3 => e h3.symm]
theorem code_le {l : List Nat} (h : ∀ n ∈ l, n ≤ 30) (hk : kr l ≤ 1073741824) {i : Nat} (hi : i ∈ od l) : code l i < 1073741824 := by
 have h1 := code_lt h hk hi
 have h2 : 2 ^ l.getD i 0 ≤ 2 ^ 30 := Nat.pow_le_pow_right (by decide) (od_mem.1 hi).2.2
 omega
noncomputable def nr (l : List Nat) (n : Nat) : Nat := Kp l (od l) (nx l n) / 2 ^ (31 - n)
noncomputable def np (l : List Nat) (n i : Nat) : Nat := Kp l (od l) (nx l n + cnt l i n) / 2 ^ (30 - n)
theorem nr_one (l : List Nat) : nr l 1 = 0 := by
 have : nx l 1 = 0 := rfl
 unfold nr Kp; rw [this]; simp [lens, kr]
theorem take_nx {l : List Nat} {n : Nat} (h0 : 1 ≤ n) (h : n ≤ 31) : ∀ i ∈ (od l).take (nx l n), l.getD i 0 ≤ n - 1 := by
 intro i hi
 by_cases e : n = 31
 · subst e; rw [nx_last, List.take_length] at hi; exact (od_mem.1 hi).2.2
 obtain ⟨t, ht⟩ := ord_ex (l := l) h0 (show n ≤ 30 by omega)
 rw [od_eq, ht, nx, List.append_assoc, List.take_append, Nat.sub_self, List.take_length, List.take_zero, List.append_nil] at hi
 exact (ord_mem.1 hi).2.2
theorem np_zero {l : List Nat} {n : Nat} (h0 : 1 ≤ n) (h : n ≤ 30) : 2 * nr l n = np l n 0 := by
 unfold nr np
 rw [cnt_zero, Nat.add_zero]
 obtain ⟨c, hc⟩ := Kp_dvd (od_sorted l) (fun i hi => (od_mem.1 hi).2) (k := nx l n) (n := n - 1) (nx_le (by omega)) (take_nx h0 (by omega)) (by omega)
 have e1 : 2 ^ (30 - (n - 1)) = 2 * 2 ^ (30 - n) := by rw [← Nat.pow_succ']; congr 1; omega
 have e2 : 2 ^ (31 - n) = 2 * 2 ^ (30 - n) := by rw [← Nat.pow_succ']; congr 1; omega
 have hp : 0 < 2 ^ (30 - n) := Nat.pow_pos (by decide)
 rw [hc, e1, e2, Nat.mul_div_cancel_left _ (by omega), Nat.mul_comm 2 (2 ^ (30 - n)), Nat.mul_assoc, Nat.mul_div_cancel_left _ hp]
theorem np_end (l : List Nat) {n : Nat} (h : n ≤ 30) : np l n l.length = nr l (n + 1) := by
 unfold nr np; rw [nx_succ]; congr 2; omega
theorem Kp_le {l : List Nat} {k : Nat} (h : ∀ n ∈ l, n ≤ 30) (hk : kr l ≤ 1073741824) (hq : k ≤ (od l).length) : Kp l (od l) k ≤ 1073741824 := by
 have := Kp_mono (l := l) (os := od l) hq (Nat.le_refl _)
 rw [Kp_total h] at this; omega
theorem nc_le {l : List Nat} {i n : Nat} (hn : n ≤ 30) (hi : i ≤ l.length) : nx l n + cnt l i n ≤ (od l).length := by
  have key : ∀ m, i ≤ m → m ≤ l.length → cnt l i n ≤ cnt l m n := by
    intro m
    induction m with
    | zero => intro h _; obtain rfl : i = 0 := by omega
              exact Nat.le_refl _
    | succ m ih =>
      intro h h2
      by_cases e : i = m + 1
      · subst e; exact Nat.le_refl _
      have := ih (by omega) (by omega); rw [cnt_succ (by omega)]; omega
  have h1 := key l.length hi (Nat.le_refl _)
  have h2 := nx_le (l := l) (show n + 1 ≤ 31 by omega)
  rw [nx_succ] at h2; omega
theorem np_le {l : List Nat} {n i : Nat} (h : ∀ n ∈ l, n ≤ 30) (hk : kr l ≤ 1073741824) (hn : n ≤ 30) (hi : i ≤ l.length) : np l n i ≤ 1073741824 := Nat.le_trans (Nat.div_le_self _ _) (Kp_le h hk (nc_le hn hi))
theorem np_put {l : List Nat} {i : Nat} (hi : i < l.length) (h0 : 1 ≤ l[i]) (h : l[i] ≤ 30) : np l l[i] i = code l i ∧ np l l[i] (i + 1) = np l l[i] i + 1 ∧ (tab l.length (cdp l (nx l l[i] + cnt l i l[i]))).set i (code l i : Int) = tab l.length (cdp l (nx l l[i] + cnt l (i + 1) l[i])) := by
 obtain ⟨hlt, he⟩ := List.getElem?_eq_some_iff.1 (od_place hi h0 h)
 have hcs : cnt l (i + 1) l[i] = cnt l i l[i] + 1 := by rw [cnt_succ hi, if_pos ⟨by omega, rfl⟩]
 have hc := (code_at hlt).2
 have hp := (cdp_put hlt).2
 have hg := getD_eq hi
 rw [he, hg] at hc
 rw [he] at hp
 refine ⟨hc.symm, ?_, by rw [hcs]; exact hp⟩
 unfold np
 rw [hcs, ← Nat.add_assoc, Kp_succ hlt, he, hg, un, if_neg (by omega), Nat.add_div_right _ (Nat.pow_pos (by decide))]
theorem np_skip {l : List Nat} {i n : Nat} (hi : i < l.length) (h : l[i] ≠ n) : cnt l (i + 1) n = cnt l i n := by rw [cnt_succ hi, if_neg (by omega)]; rfl
end Pf
theorem ckv_ok {zs : List Int} (h : ckv zs = 0) : zs.length ≤ 4096 ∧ okr zs 30 = true ∧ Pf.kr (toN zs) ≤ 1073741824 := by
  unfold ckv at h
  split at h
  · omega
  split at h
  · split at h
    · omega
    exact ⟨by omega, by assumption, by omega⟩
  omega
noncomputable def cdv (zs : List Int) : List Int := if ckv zs = 0 then Pf.cdl (toN zs) else []
set_option maxHeartbeats 1000000 in
theorem Codes_ret (p : Value) (zs : List Int) (w : World) (hr : RdL i64 w p zs) :
  Ret Tryz.prog 101 #[p] w fun v w' => ∃ vo, v = .tuple #[vo, i64 (ckv zs)] ∧ M w Nn w' [Rg.sl i64 3 vo (cdv zs)] := by
 have hM := M.start w
 refine enter Tryz.func101 rfl (by kernel_rfl) Tryz.ntmps101 rfl $ Kb $ Kn rfl $ Kc rfl $ C.seq $ Kb $ Km rfl $ E.call rfl rfl (check_ret p zs _ (hM.arg0 hr)) ?_
 rintro _ w1 ⟨rfl, x1⟩
 have hM := hM.ext x1
 refine Kd rfl $ Km rfl $ Kp rfl $ Ka $ C.cond' rfl (fun hC0 => ?_) (fun hC0 => ?_)
 ·
  refine Kb $ Km rfl $ Kn rfl $ Kc rfl $ C.ret $ X.retT $ ret2 rfl rfl rfl ?_
  exact ⟨_, rfl, by rw [cdv, if_neg hC0]; exact hM.nil i64 3⟩
 have hck := Decidable.byContradiction hC0
 obtain ⟨hl4, hok, hkr⟩ := ckv_ok hck
 obtain ⟨hr', hb⟩ := ok_kr hr hok
 have hlz := toN_len zs
 obtain ⟨l, hl⟩ : ∃ l, l = toN zs := ⟨_, rfl⟩
 rw [← hl] at hr' hb hkr hlz
 have hnl := nz_len l
 have hod := Pf.od_le l
 refine Kk $ Kb $ Km rfl $ E.lenv rfl (Rd.shape (hM.arg0 hr)) U76 rfl ?_
 rw [← hlz]
 refine E.makeM (by_ := 8) (enc := i64) 0 hM rfl U76 (by kernel_rfl) rfl (by omega) (by omega) rfl ?_
 intro v17 w1 hM
 refine Kd rfl $ Kn rfl $ Kc rfl $ C.seq $ Kb $ Km rfl $ E.call rfl rfl (ordered_ret p l _ (hM.arg0 hr') hb (by omega)) ?_
 rintro v19 w3 m
 have hM := hM.call m
 refine E.lenv rfl (Rd.shape (hM.sl 1 rfl)) U76 rfl ?_
 rw [nz_len]
 refine Km rfl $ Ka $ C.block $ C.loop1 [(0, _), (5, _), (19, _), (20, _)] rfl (fun (k : Nat) => [(6, i64 (Pf.nv l k : Int)), (7, i64 (Pf.szk l k : Int)), (21, i64 k)]) (fun (k : Nat) w' => M w (Nn) w' [Rg.sl i64 3 v17 (tab l.length (Pf.cdp l k)), Rg.sl i64 3 v19 (nz (Pf.od l))] ∧ k ≤ (Pf.od l).length) (fun (k : Nat) => (Pf.od l).length - k) 0 ?_ ?_ ?_
 · exact Sub.cons (look_val rfl (by rw [Pf.nv_zero]; rfl)) $ Sub.cons (look_val rfl (by rw [Pf.szk_zero]; rfl)) $ S1 rfl
 · exact ⟨hM.to (Sym.two (by rw [Pf.cdp_zero]) rfl), Nat.zero_le _⟩
 rintro k w3 ⟨hM, hk⟩
 refine Kb $ Kp rfl $ Ka $ C.seq $ C.cond' rfl (fun hC1 => ?_) (fun hC1 => ?_)
 ·
  have hk' : k < (Pf.od l).length := by omega
  obtain ⟨hs1, hs2, hs3, hs4, hs5⟩ := Pf.cd_step hk'
  obtain ⟨hsl, hput⟩ := Pf.cdp_put hk'
  have hcl := Pf.code_le hb hkr (List.getElem_mem hk')
  have hss := Pf.szk_succ hk'
  rw [Pf.getD_eq hsl] at hs1 hs2 hs3 hs4 hss
  have hkn := hnl
  have hon := nz_len (Pf.od l)
  refine Kk $ C.seq $ C.block $ Kb $ E.get (k := k) rfl rfl (hM.sl 1 rfl) rfl (by omega) U76 (by kernel_rfl) U3 rfl rfl rfl ?_
  rw [nz_get hk']
  refine Kd rfl $ Kf rfl $ Km rfl $ E.get (k := (Pf.od l)[k]) rfl rfl (hM.arg0 hr') rfl (by omega) U76 (by kernel_rfl) U3 rfl rfl rfl ?_
  rw [nz_get hsl]
  refine Km rfl $ E.subN (a := l[(Pf.od l)[k]]) (b := Pf.szk l k) rfl rfl (by omega) rfl $ E.shl rfl rfl (by omega) (shl_nat (by omega) hs4 (by omega)) rfl $ Kd rfl $ Kf rfl $ E.get (k := (Pf.od l)[k]) rfl rfl (hM.arg0 hr') rfl (by omega) U76 (by kernel_rfl) U3 rfl rfl rfl ?_
  rw [nz_get hsl]
  refine Kd rfl $ Kf rfl $ Km rfl $ E.idx1 (k := (Pf.od l)[k]) rfl rfl (hM.sl 0 rfl) rfl (by rw [tab_len]; exact hsl) U76 (by kernel_rfl) rfl $ E.storeL 0 (Pf.code l (Pf.od l)[k] : Int) hM rfl rfl rfl (by kernel_rfl) rfl rfl (by rw [tab_len]; exact hsl) ?_
  intro w4 hM
  rw [hput] at hM
  refine Ka $ C.region $ Km rfl $ E.addN (b := 1) rfl rfl (by omega) rfl $ Kn rfl $ E.nil $ X.outN $ X.next $ C.region $ E.add rfl rfl (by omega) rfl $ Km rfl $ E.nil $ X.again1 (k + 1) (Sub.cons (look_val rfl (by rw [hs5])) $ Sub.cons (look_val rfl (by rw [hss])) $ S1 rfl) rfl ⟨hM, by omega⟩ (by omega)
 obtain rfl : k = (Pf.od l).length := by omega
 refine Kx $ Kb $ Km rfl $ Kn rfl $ Kc rfl $ C.ret $ ret2 rfl rfl rfl ?_
 exact ⟨_, by rw [hck], by rw [cdv, if_pos hck, ← hl, ← Pf.cdp_end hb]; exact hM.pick [0] (by decide)⟩
end Go.Proofs.YtajklleiifhipaaGreatDoor
namespace Go.Proofs.YtajklleiifhipaaGreatDoor
open Go.RowKit
section bits
theorem bits_xor32 (x y : BitVec 32) : bits .xor .u32 (x.toNat : Int) (y.toNat : Int) = ((x ^^^ y).toNat : Int) := by
 rw [u32_xor_nat _ _ x.isLt y.isLt]; rfl
theorem bits_and32 (x y : BitVec 32) : bits .and .u32 (x.toNat : Int) (y.toNat : Int) = ((x &&& y).toNat : Int) := by
 rw [u32_and_nat _ _ x.isLt y.isLt]; rfl
theorem shr32 (x : BitVec 32) (k : Nat) : ((x >>> k).toNat : Int) = (x.toNat : Int) / 2 ^ k := by
 rw [BitVec.toNat_ushiftRight, Nat.shiftRight_eq_div_pow]; simp
theorem lt32 (x : BitVec 32) : 0 ≤ (x.toNat : Int) ∧ (x.toNat : Int) ≤ 4294967295 := by have := x.isLt; omega
theorem lsb32 (x : BitVec 32) : (bits .and .u32 (x.toNat : Int) 1 == 1) = x.getLsbD 0 := by
 have h : bits .and .u32 (x.toNat : Int) 1 = ((x &&& 1#32).toNat : Int) := bits_and32 x 1#32
 rw [h]
 have e : (x &&& 1#32).toNat = x.toNat % 2 := by
  rw [BitVec.toNat_and]; exact Nat.and_one_is_mod _
 rw [e]
 have : x.getLsbD 0 = decide (x.toNat % 2 = 1) := by
  simp [BitVec.getLsbD, Nat.testBit_zero]
 rw [this, Bool.eq_iff_iff]
 simp only [beq_iff_eq, decide_eq_true_eq]
 omega
theorem wrap64_nat (r : Nat) (h : r < 9223372036854775808) : IntKind.i64.wrap (r : Int) = r := IntWalk.i64_in _ (by omega)
theorem ofInt_u64' (a : Nat) (ha : a < 9223372036854775808) : (BitVec.ofInt 64 (a : Int)).toNat = a := ofInt_u64 a (by omega)
theorem i64_and_nat (a b : Nat) (ha : a < 9223372036854775808) (hb : b < 9223372036854775808) : bits .and .i64 (a : Int) (b : Int) = ((a &&& b : Nat) : Int) := by
 show IntKind.i64.wrap (((BitVec.ofInt 64 (a : Int)) &&& (BitVec.ofInt 64 (b : Int))).toNat : Int) = _
 rw [BitVec.toNat_and, ofInt_u64' a ha, ofInt_u64' b hb]
 exact wrap64_nat _ (Nat.lt_of_le_of_lt Nat.and_le_left ha)
theorem i64_or_nat (a b : Nat) (ha : a < 9223372036854775808) (hb : b < 9223372036854775808) : bits .or .i64 (a : Int) (b : Int) = ((a ||| b : Nat) : Int) := by
 show IntKind.i64.wrap (((BitVec.ofInt 64 (a : Int)) ||| (BitVec.ofInt 64 (b : Int))).toNat : Int) = _
 rw [BitVec.toNat_or, ofInt_u64' a ha, ofInt_u64' b hb]
 exact wrap64_nat _ (Nat.or_lt_two_pow (n := 63) ha hb)
theorem i64_xor_nat (a b : Nat) (ha : a < 9223372036854775808) (hb : b < 9223372036854775808) : bits .xor .i64 (a : Int) (b : Int) = ((a ^^^ b : Nat) : Int) := by
 show IntKind.i64.wrap (((BitVec.ofInt 64 (a : Int)) ^^^ (BitVec.ofInt 64 (b : Int))).toNat : Int) = _
 rw [BitVec.toNat_xor, ofInt_u64' a ha, ofInt_u64' b hb]
 exact wrap64_nat _ (Nat.xor_lt_two_pow (n := 63) ha hb)
end bits
end Go.Proofs.YtajklleiifhipaaGreatDoor
