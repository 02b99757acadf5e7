/- the reference's reader: the lengths of a block. -/
import Derived.Test.YtajklleiifhipaaGreatDoorY0
import Derived.Test.YtajklleiifhipaaGreatDoorY5
import Derived.Test.YtajklleiifhipaaGreatDoorY17
import Derived.Test.YtajklleiifhipaaGreatDoorPg27Y
set_option linter.unusedSimpArgs false
set_option linter.unusedVariables false
namespace Go.Proofs.YtajklleiifhipaaGreatDoor
open Go.RowKit Sym
theorem sum_snoc {l : List Nat} {i : Nat} (h : i < l.length) : (l.take (i + 1)).sum = (l.take i).sum + l[i] := by
 rw [← List.take_append_getElem h, List.sum_append]; simp
theorem sum_tk {l : List Nat} (i : Nat) (hb : ∀ n ∈ l, n ≤ 15) : (l.take i).sum ≤ l.length * 15 := by
 refine Nat.le_trans (Df.sum_bd _ 15 fun n hn => hb n (List.mem_of_mem_take hn)) ?_
 exact Nat.mul_le_mul_right 15 (by rw [List.length_take]; omega)
namespace Df
theorem fnd_lt {l : List Nat} {v n i : Nat} (h : Pf.fnd l v n = some i) : i < l.length := by
 unfold Pf.fnd at h
 exact List.mem_range.1 (List.mem_of_find?_eq_some h)
theorem rgo_lt {l : List Nat} {B : List Bool} {a x e : Nat} : ∀ (f n : Nat), rgo l B a f n = .ok (x, e) → x < l.length
  | 0, n, h => by rw [rgo] at h; cases h
  | f + 1, n, h => by
    rw [rgo] at h
    split at h
    · cases h
    split at h
    · rename_i i hi
      cases h; exact fnd_lt hi
    exact rgo_lt f (n + 1) h
theorem rsym_lt {l : List Nat} {B : List Bool} {a x e : Nat} (h : rsym l B a = .ok (x, e)) : x < l.length := rgo_lt _ _ h
def SL (C : List Nat) (n : Nat) (B : List Bool) (T : Except Int (List Nat × Nat)) (e : Int) (O : List Nat) (a : Nat) (ee : Int) : Prop :=
 (e ≠ 0 ∧ ee = e) ∨ (e = 0 ∧ ee = 0 ∧ rln C n O B a = T) ∨ (e = 0 ∧ ee ≠ 0 ∧ T = .error ee)
theorem SL.on {C : List Nat} {n : Nat} {B : List Bool} {T : Except Int (List Nat × Nat)} {e : Int} {O : List Nat} {a : Nat} (h : SL C n B T e O a 0) : e = 0 ∧ rln C n O B a = T := by
 rcases h with ⟨h1, h2⟩ | ⟨h1, _, h2⟩ | ⟨_, h1, _⟩
 · exact (h1 h2.symm).elim
 · exact ⟨h1, h2⟩
 exact (h1 rfl).elim
def SV (C : List Nat) (n : Nat) (B : List Bool) (T : Except Int (List Nat × Nat)) (O : List Nat) (ag va a : Nat) (ee : Int) : Prop :=
 1 ≤ ag ∧ ag ≤ 200 ∧ va ≤ 15 ∧ ((ee ≠ 0 ∧ T = .error ee) ∨ (ee = 0 ∧ T = if n < O.length + ag then .error 9 else rln C n (O ++ List.replicate ag va) B a))
theorem SV.lit {C : List Nat} {n : Nat} {B : List Bool} {T : Except Int (List Nat × Nat)} {O : List Nat} {a a1 s : Nat} {ee : Int} (hO : O.length < n) (hT : rln C n O B a = T) (hr : RS 0 (rsym C B a) s 0 a a1 ee) (hs : s < 16) : SV C n B T O 1 s a1 ee := by
  refine ⟨by omega, by omega, by omega, ?_⟩
  rw [← hT, rln_on hO]
  by_cases z : ee = 0
  · subst z
    refine .inr ⟨rfl, ?_⟩
    rw [bnd_ok (hr.rds.good (by decide)), if_pos hs, if_neg (by omega)]; rfl
  exact .inl ⟨z, bnd_err (hr.rds.bad z)⟩
theorem SV.rep {C : List Nat} {n : Nat} {B : List Bool} {T : Except Int (List Nat × Nat)} {O : List Nat} {a a1 a2 s x ag va : Nat} {ee : Int} (hO : O.length < n) (hT : rln C n O B a = T) (hr : rsym C B a = .ok (s, a1)) (hs : 16 ≤ s) (h0 : ¬ (s = 16 ∧ O.length = 0)) (hb : ∀ y ∈ O, y ≤ 15)
    (hx : RS 0 (rbits (lsx s) B a1) x 0 a1 a2 ee) (hag : ag = lsl s + x) (hva : va = lsv s O) : SV C n B T O ag va a2 ee := by
  have h1 := lsl_le s
  have h2 : x < 2 ^ lsx s := hx.bits_lt
  have h3 : 2 ^ lsx s ≤ 2 ^ 7 := Nat.pow_le_pow_right (by decide) (lsx_le s)
  subst hag hva
  refine ⟨by omega, by omega, lsv_le hb, ?_⟩
  rw [← hT, rln_on hO, bnd_ok hr, if_neg (by omega), if_neg h0]
  by_cases z : ee = 0
  · subst z
    refine .inr ⟨rfl, ?_⟩
    rw [bnd_ok (hx.rds.good (by decide)), ← Nat.add_assoc]
    split <;> rfl
  exact .inl ⟨z, bnd_err (hx.rds.bad z)⟩
theorem SV.fst {C : List Nat} {n : Nat} {B : List Bool} {T : Except Int (List Nat × Nat)} {O : List Nat} {a ag va : Nat} {ee : Int} (h : SV C n B T O ag va a ee) :
    (¬ (if n < O.length + ag then _root_.Go.Proofs.YtajklleiifhipaaGreatDoor.fst ee 9 else ee) = 0 → T = .error (if n < O.length + ag then _root_.Go.Proofs.YtajklleiifhipaaGreatDoor.fst ee 9 else ee)) ∧ ((if n < O.length + ag then _root_.Go.Proofs.YtajklleiifhipaaGreatDoor.fst ee 9 else ee) = 0 → O.length + ag ≤ n ∧ T = rln C n (O ++ List.replicate ag va) B a) := by
  rcases h.2.2.2 with ⟨h1, h2⟩ | ⟨h1, h2⟩
  · rw [fst_nz h1, ite_self]; exact ⟨fun _ => h2, fun q => (h1 q).elim⟩
  by_cases c : n < O.length + ag
  · rw [if_pos c] at h2 ⊢
    rw [h1, fst_z]; exact ⟨fun _ => h2, fun q => by cases q⟩
  rw [if_neg c] at h2 ⊢
  exact ⟨fun q => (q h1).elim, fun _ => ⟨by omega, h2⟩⟩
def SM (e : Int) (n k : Nat) : Nat := if e = 0 then n - k + 1 else 0
theorem SM_lt {e : Int} {n k k1 : Nat} (h : e = 0 → k < k1) (hk : k < n) : SM e n k1 < SM 0 n k := by
 unfold SM; rw [if_pos rfl]; split <;> omega
end Df
theorem acceptable34_ret (p : Value) (l : List Nat) (w : World) (hr : RdL i64 w p (nz l)) (hb : ∀ n ∈ l, n ≤ 15) (hl : l.length ≤ 4096) :
  Ret Tryz.prog 125 #[p] w fun v w' => v = .bool (Df.acc l) ∧ Ext w w' := by
 have hM := M.start w
 refine enter Tryz.func125 rfl (by kernel_rfl) Tryz.ntmps125 rfl $ Kb $ Kd rfl $ Kd rfl $ Kc rfl $ C.seq $ Kb $ Kc rfl $ C.block $ C.loop1 [(0, _)] rfl (fun (i : Nat) => [(3, i64 (Df.us (l.take i) : Int)), (4, i64 ((l.take i).sum : Int)), (5, i64 i)]) (fun (i : Nat) w' => M w (Nn) w' [] ∧ i ≤ l.length) (fun (i : Nat) => l.length - i) 0 ?_ ?_ ?_
 · exact Sub.cons rfl $ Sub.cons rfl $ S1 rfl
 · exact ⟨hM, Nat.zero_le _⟩
 rintro i w0 ⟨hM, hi⟩
 refine C.seq $ Kb $ Kf rfl $ E.lenv rfl (Rd.shape (hM.arg0 hr)) U76 rfl ?_
 rw [nz_len]
 refine Kp rfl $ Ka $ C.cond' rfl (fun hC0 => ?_) (fun hC0 => ?_)
 ·
  have hi' : i < l.length := by omega
  have hus := Df.us_snoc hi'
  have hul := Df.us_le (l.take i)
  rw [List.length_take] at hul
  have hnl := nz_len l
  have hss := sum_snoc hi'
  have hsb := sum_tk i hb
  have hli := hb _ (List.getElem_mem hi')
  refine Kk $ C.cut0 [(0, _), (5, _)] rfl [(3, i64 (Df.us (l.take (i + 1)) : Int)), (4, i64 ((l.take (i + 1)).sum : Int))] (fun w' => M w (Nn) w' []) ?_ ?_
  ·
   refine C.block $ Kb $ Kf rfl $ Km rfl $ E.get (k := i) rfl rfl (hM.arg0 hr) rfl (by omega) U76 (by kernel_rfl) U3 rfl rfl rfl ?_
   rw [nz_get hi']
   refine E.addN (a := (l.take i).sum) (b := l[i]) rfl rfl (by omega) rfl ?_
   rw [← hss]
   refine Kd rfl $ Kf rfl $ E.get (k := i) rfl rfl (hM.arg0 hr) rfl (by omega) U76 (by kernel_rfl) U3 rfl rfl rfl ?_
   rw [nz_get hi']
   refine Kp rfl $ Ka $ C.cond' rfl (fun hC1 => ?_) (fun hC1 => ?_)
   ·
    refine C.region $ Km rfl $ E.addN (a := Df.us (l.take i)) (b := 1) rfl rfl (by omega) rfl $ Kn rfl $ E.nil $ X.outN $ X.join0  (Sub.cons (look_val rfl (by rw [hus, if_pos (by omega)])) $ S1 rfl) rfl hM
   refine C.skip $ X.outN $ X.join0  (Sub.cons (look_val rfl (by rw [hus, if_neg (by omega)]; rfl)) $ S1 rfl) rfl hM
  rintro  w1 hM
  refine C.region $ Km rfl $ E.addN (a := i) (b := 1) rfl rfl (by omega) rfl $ Kn rfl $ E.nil $ X.again1 (i + 1) (Sub.cons rfl $ Sub.cons rfl $ S1 rfl) rfl ⟨hM, by omega⟩ (by omega)
 obtain rfl : i = l.length := by omega
 rw [List.take_length]
 refine Kx $ C.cut0 [] rfl [(2, .bool (Df.acc l))] (fun w' => M w (Nn) w' []) ?_ ?_
 ·
  refine C.region $ Km rfl $ Kp rfl $ Km rfl $ E.split 27 rfl (fun g27 => ?_) (fun g27 => ?_)
  ·
   try simp only [Ya, Yb, Yc, Yd, Ye, Yf] at g27
   refine Ko rfl $ Km rfl $ Ko rfl $ Kp rfl $ Kr rfl $ Km rfl $ E.split 31 rfl (fun g31 => ?_) (fun g31 => ?_)
   ·
    try simp only [Ya, Yb, Yc, Yd, Ye, Yf] at g31
    refine Kq rfl $ Kq rfl $ Kq rfl $ Kr rfl $ Kn rfl $ E.nil $ X.join0  (Sub.cons (look_eq rfl (congrArg Value.bool (by unfold Df.acc; exact (decide_eq_true (by omega)).symm))) $ Sub.nil _) rfl hM
   try simp only [Ya, Yb, Yc, Yd, Ye, Yf] at g31
   refine Ko rfl $ Km rfl $ Ko rfl $ E.call rfl rfl (rCheck_ret p (nz l) _ (hM.arg0 hr)) ?_
   rintro _ w2 ⟨rfl, x2⟩
   have hM := hM.ext x2
   try dsimp only [Za, Zb, Zc, Zd, repl] at hM
   refine Ko rfl $ Kp rfl $ Kr rfl $ Kn rfl $ E.nil $ X.join0  (Sub.cons (look_eq rfl (congrArg Value.bool (by unfold Df.acc; exact decide_eq_decide.2 (by omega)))) $ Sub.nil _) rfl hM
  try simp only [Ya, Yb, Yc, Yd, Ye, Yf] at g27
  refine Kq rfl $ Kq rfl $ Kr rfl $ Km rfl $ Ko rfl $ Km rfl $ Ko rfl $ E.call rfl rfl (rCheck_ret p (nz l) _ (hM.arg0 hr)) ?_
  rintro _ w2 ⟨rfl, x2⟩
  have hM := hM.ext x2
  try dsimp only [Za, Zb, Zc, Zd, repl] at hM
  refine Ko rfl $ Kp rfl $ Kr rfl $ Kn rfl $ E.nil $ X.join0  (Sub.cons (look_eq rfl (congrArg Value.bool (by unfold Df.acc; exact decide_eq_decide.2 (by omega)))) $ Sub.nil _) rfl hM
 rintro  w4 hM
 refine C.ret $ ret1 rfl rfl ?_
 exact ⟨rfl, hM.toExt⟩
end Go.Proofs.YtajklleiifhipaaGreatDoor
