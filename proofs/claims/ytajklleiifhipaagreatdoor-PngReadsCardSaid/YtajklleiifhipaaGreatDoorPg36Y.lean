/- the reference's order of chunks, header, gray values. -/
import Derived.Test.YtajklleiifhipaaGreatDoorY0
import Derived.Test.YtajklleiifhipaaGreatDoorY5
import Derived.Test.YtajklleiifhipaaGreatDoorY22
import Derived.Test.YtajklleiifhipaaGreatDoorPg18Y
set_option linter.unusedSimpArgs false
set_option linter.unusedVariables false
namespace Go.Proofs.YtajklleiifhipaaGreatDoor
open Go.RowKit Sym
open Pg
theorem let4_at {t : List UInt8} (h : let4 t) : t.length = 4 ∧ 65 ≤ at_ t 0 := by
 obtain ⟨h1, h2⟩ := h
 refine ⟨h1, ?_⟩
 have h3 := at_get (l := t) (i := 0) (by omega)
 have h4 := h2 _ (List.getElem_mem (show 0 < t.length by omega))
 unfold isL at h4
 simp at h4
 omega
def Lr (r : List Ck) (k : Nat) (la lr : Int) : Prop := (anyD (r.take k) = false → lr = -1) ∧ (anyD (r.take k) = true → lr = la + 1)
set_option maxHeartbeats 4000000 in
theorem formed35_ret (p : Value) (h0 : Hd) (hr : List Hd) (c : Ck) (r : List Ck) (w : World) (hc : Cks w p (h0 :: hr) (c :: r)) (h4 : ∀ x ∈ r, let4 x.1) (hrl : r.length ≤ 100000) :
    Ret Tryz.prog 32 #[p] w fun v w' => ∃ b : Bool, v = .bool b ∧ (b = true ↔ c.1 = tH ∧ c.2.length = 13 ∧ fmd 0 r = true) ∧ Ext w w' := by
  have hM := M.start w
  refine enter Tryz.func32 rfl (by kernel_rfl) Tryz.ntmps32 rfl $ Kb $ Kc rfl $ C.seq $ C.chainE [(0, _)] rfl [(18, .bool (decide (c.1 ≠ tH ∨ c.2.length ≠ 13)))] ?_ ?_
  ·
    refine C.region $ Km rfl $ E.idxF (k := 0) rfl rfl (hc.row.ext hM.toExt) rfl (by rw [zc_len hc.len]; simp) (by decide) U35 (by kernel_rfl) rfl $ E.fld (o := 0) (sz := 0) rfl U39 rfl rfl (by kernel_rfl) rfl $ E.load rfl U9 rfl ((hc.ext hM.toExt).at (i := 0) (by simp) 0 _ rfl) rfl $ E.nestr (l := c.1) (m := tH) rfl rfl rfl $ Km rfl $ E.split 11 rfl (fun g11 => ?_) (fun g11 => ?_)
    ·
      try simp only [Ya, Yb, Yc, Yd, Ye, Yf] at g11
      refine Kq rfl $ Kq rfl $ Kq rfl $ Kq rfl $ Kq rfl $ Kq rfl $ Kr rfl $ E.nil $ X.join0 (Sub.cons (look_eq rfl (congrArg Value.bool (by exact (decide_eq_true (p := c.1 ≠ tH ∨ c.2.length ≠ 13) (.inl (by simpa using g11))).symm))) $ Sub.nil _) rfl rfl
    try simp only [Ya, Yb, Yc, Yd, Ye, Yf] at g11
    refine Ko rfl $ Km rfl $ Ko rfl $ E.idxF (k := 0) rfl rfl (hc.row.ext hM.toExt) rfl (by rw [zc_len hc.len]; simp) (by decide) U35 (by kernel_rfl) rfl $ Ko rfl $ E.fld (o := 1) (sz := 0) rfl U39 rfl rfl (by kernel_rfl) rfl $ Ko rfl $ E.load rfl U22 rfl ((hc.ext hM.toExt).at (i := 0) (by simp) 1 _ rfl) rfl $ Ko rfl $ E.lenv rfl (Rd.shape (hc.data (i := 0) (by simp))) U22 rfl $ Ko rfl $ Kp rfl $ Kr rfl $ E.nil $ X.join0 (Sub.cons (look_eq rfl (congrArg Value.bool (by exact decide_eq_decide.2 ⟨fun h => .inr (fun e => h (by show ((c.2.length : Nat) : Int) = 13; omega)), fun h e => by rcases h with h | h; exact h (by simpa using g11); (have e' : ((c.2.length : Nat) : Int) = 13 := e; omega)⟩))) $ Sub.nil _) rfl rfl
  refine C.cond' rfl (fun hC0 => ?_) (fun hC0 => ?_)
  ·
    refine Kb $ Kc rfl $ C.ret $ X.retT $ ret1 rfl rfl ?_
    exact ⟨false, rfl, ⟨fun h => (by cases h), fun h => (by rcases hC0 with q | q; exact (q h.1).elim; exact (q h.2.1).elim)⟩, hM.toExt⟩
  have hcH : c.1 = tH := Decidable.byContradiction fun h => hC0 (.inl h)
  have hc13 : c.2.length = 13 := Decidable.byContradiction fun h => hC0 (.inr h)
  refine Kk $ Kb $ Kc rfl $ C.seq $ Kb $ Kc rfl $ C.block $ C.loop4 [(0, _)] rfl (fun (k : Nat) (st : Nat) (la : Int) (lr : Int) => [(3, i64 lr), (4, i64 ((k + 1 : Nat) : Int))]) (fun (k : Nat) (st : Nat) (la : Int) (lr : Int) w' => M w (Nn) w' [] ∧ k ≤ r.length ∧ Fst r k st la ∧ Lr r k la lr ∧ -1 ≤ lr ∧ lr ≤ 100001) (fun (k : Nat) (st : Nat) (la : Int) (lr : Int) => r.length - k) 0 0 0 (-1) ?_ ?_ ?_
  · exact Sub.cons rfl $ S1 rfl
  · exact ⟨hM, Nat.zero_le _, Fst.zero r, ⟨fun _ => rfl, fun h => by rw [List.take_zero] at h; cases h⟩, by decide, by decide⟩
  rintro k st la lr w0 ⟨hM, hk, hF, hL, hlr1, hlr2⟩
  refine C.seq $ Kb $ Kf rfl $ E.lenv rfl (RdF.shape (hc.row.ext hM.toExt)) U35 rfl ?_
  rw [zc_len hc.len, List.length_cons]
  refine Kp rfl $ Ka $ C.cond' rfl (fun hC1 => ?_) (fun hC1 => ?_)
  ·
    have hk' : k < r.length := by omega
    obtain ⟨h4k, h65⟩ := let4_at (h4 _ (List.getElem_mem hk'))
    have hat := at_get (l := (r[k]'hk').1) (i := 0) (by omega)
    refine Kk $ C.cut3 [(0, _), (4, _)] rfl (fun (st2 : Nat) (la2 : Int) (lr2 : Int) => [(3, i64 lr2)]) (fun (st2 : Nat) (la2 : Int) (lr2 : Int) w' => M w (Nn) w' [] ∧ Fst r (k + 1) st2 la2 ∧ Lr r (k + 1) la2 lr2 ∧ -1 ≤ lr2 ∧ lr2 ≤ 100001) ?_ ?_
    ·
      refine C.block $ Kb $ Kf rfl $ E.idxF (k := k + 1) rfl rfl (hc.row.ext hM.toExt) rfl (by rw [zc_len hc.len]; simp; omega) (by decide) U35 (by kernel_rfl) rfl $ E.fld (o := 0) (sz := 0) rfl U39 rfl rfl (by kernel_rfl) rfl $ E.load rfl U9 rfl ((hc.ext hM.toExt).at (i := k + 1) (by simp; omega) 0 (str (r[k]'hk').1) rfl) rfl $ Kc rfl $ C.seq $ C.chainE [(0, _), (3, _), (4, _), (5, _)] rfl [(54, .bool (decide ((at_ (r[k]'hk').1 0 ≤ 90 ∧ (r[k]'hk').1 ≠ tD ∧ (r[k]'hk').1 ≠ tE) ∨ ((r[k]'hk').1 = tD ∧ 0 ≤ lr ∧ lr ≠ (k : Int)))))] ?_ ?_
      ·
        refine C.region $ Km rfl $ E.idxS 0 ((r[k]'hk').1[0]'(by omega)) rfl rfl rfl (str_get (by omega)) U9 rfl ?_
        rw [show u8 ((r[k]'hk').1[0]'(by omega)) = .int .u8 ((((r[k]'hk').1[0]'(by omega)).toNat : Nat) : Int) from rfl]
        refine Kp rfl $ Km rfl $ E.split 33 rfl (fun g33 => ?_) (fun g33 => ?_)
        ·
          try simp only [Ya, Yb, Yc, Yd, Ye, Yf] at g33
          refine Ko rfl $ Km rfl $ Ko rfl $ E.nestr (l := (r[k]'hk').1) (m := tD) rfl rfl rfl $ Kr rfl $ Km rfl $ E.split 37 rfl (fun g37 => ?_) (fun g37 => ?_)
          ·
            try simp only [Ya, Yb, Yc, Yd, Ye, Yf] at g37
            refine Ko rfl $ Km rfl $ Ko rfl $ E.nestr (l := (r[k]'hk').1) (m := tE) rfl rfl rfl $ Kr rfl $ Km rfl $ E.split 41 rfl (fun g41 => ?_) (fun g41 => ?_)
            ·
              try simp only [Ya, Yb, Yc, Yd, Ye, Yf] at g41
              refine Kq rfl $ Kq rfl $ Kq rfl $ E.offu rfl rfl rfl $ E.offu rfl rfl rfl $ Kq rfl $ Kq rfl $ E.offu rfl rfl rfl $ E.offu rfl rfl rfl $ E.offu rfl rfl rfl $ E.offu rfl rfl rfl $ Kq rfl $ Kr rfl $ E.nil $ X.join0 (Sub.cons (look_eq rfl (congrArg Value.bool (by exact (decide_eq_true (p := (at_ (r[k]'hk').1 0 ≤ 90 ∧ (r[k]'hk').1 ≠ tD ∧ (r[k]'hk').1 ≠ tE) ∨ ((r[k]'hk').1 = tD ∧ 0 ≤ lr ∧ lr ≠ (k : Int))) (.inl ⟨by omega, by simpa using g37, by simpa using g41⟩)).symm))) $ Sub.nil _) rfl rfl
            try simp only [Ya, Yb, Yc, Yd, Ye, Yf] at g41
            refine Ko rfl $ Km rfl $ Ko rfl $ E.eqstr (l := (r[k]'hk').1) (m := tD) rfl rfl rfl $ Ko rfl $ Km rfl $ E.split 44 rfl (fun g44 => ?_) (fun g44 => ?_)
            ·
              try simp only [Ya, Yb, Yc, Yd, Ye, Yf] at g44
              refine Ko rfl $ Km rfl $ Ko rfl $ Kp rfl $ Ko rfl $ Kr rfl $ Ko rfl $ Km rfl $ E.split 48 rfl (fun g48 => ?_) (fun g48 => ?_)
              ·
                try simp only [Ya, Yb, Yc, Yd, Ye, Yf] at g48
                refine Ko rfl $ Km rfl $ Ko rfl $ Km rfl $ Ko rfl $ E.subN (a := k + 1) (b := 1) rfl rfl (by omega) rfl ?_
                rw [Nat.add_sub_cancel]
                refine Ko rfl $ Kp rfl $ Ko rfl $ Kr rfl $ Kr rfl $ E.nil $ X.join0 (Sub.cons (look_eq rfl (congrArg Value.bool (by exact decide_eq_decide.2 ⟨fun h => .inr ⟨by simpa using g44, by omega, h⟩, fun h => by rcases h with h | h; exact absurd (by simpa using g44) h.2.1; exact h.2.2⟩))) $ Sub.nil _) rfl rfl
              try simp only [Ya, Yb, Yc, Yd, Ye, Yf] at g48
              refine Kq rfl $ Kq rfl $ Kq rfl $ Kq rfl $ Ko rfl $ Kr rfl $ Kr rfl $ E.nil $ X.join0 (Sub.cons (look_eq rfl (congrArg Value.bool (by exact (decide_eq_false (p := (at_ (r[k]'hk').1 0 ≤ 90 ∧ (r[k]'hk').1 ≠ tD ∧ (r[k]'hk').1 ≠ tE) ∨ ((r[k]'hk').1 = tD ∧ 0 ≤ lr ∧ lr ≠ (k : Int))) (fun h => by rcases h with h | h; (first | omega | exact h.2.1 (by simpa using g44) | exact h.2.1 (by simpa using g37) | exact h.2.2 (by simpa using g41)); (first | omega | exact g44 h.1 | exact absurd h.1 (by simpa using g44)))).symm))) $ Sub.nil _) rfl rfl
            try simp only [Ya, Yb, Yc, Yd, Ye, Yf] at g44
            refine Kq rfl $ Kq rfl $ Ko rfl $ Kr rfl $ Ko rfl $ Km rfl $ Kq rfl $ Kq rfl $ Kq rfl $ Kq rfl $ Ko rfl $ Kr rfl $ Kr rfl $ E.nil $ X.join0 (Sub.cons (look_eq rfl (congrArg Value.bool (by exact (decide_eq_false (p := (at_ (r[k]'hk').1 0 ≤ 90 ∧ (r[k]'hk').1 ≠ tD ∧ (r[k]'hk').1 ≠ tE) ∨ ((r[k]'hk').1 = tD ∧ 0 ≤ lr ∧ lr ≠ (k : Int))) (fun h => by rcases h with h | h; (first | omega | exact h.2.1 (by simpa using g44) | exact h.2.1 (by simpa using g37) | exact h.2.2 (by simpa using g41)); (first | omega | exact g44 h.1 | exact absurd h.1 (by simpa using g44)))).symm))) $ Sub.nil _) rfl rfl
          try simp only [Ya, Yb, Yc, Yd, Ye, Yf] at g37
          refine Kq rfl $ Kq rfl $ Kr rfl $ Km rfl $ Ko rfl $ Km rfl $ Ko rfl $ E.eqstr (l := (r[k]'hk').1) (m := tD) rfl rfl rfl $ Ko rfl $ Km rfl $ E.split 44 rfl (fun g44 => ?_) (fun g44 => ?_)
          ·
            try simp only [Ya, Yb, Yc, Yd, Ye, Yf] at g44
            refine Ko rfl $ Km rfl $ Ko rfl $ Kp rfl $ Ko rfl $ Kr rfl $ Ko rfl $ Km rfl $ E.split 48 rfl (fun g48 => ?_) (fun g48 => ?_)
            ·
              try simp only [Ya, Yb, Yc, Yd, Ye, Yf] at g48
              refine Ko rfl $ Km rfl $ Ko rfl $ Km rfl $ Ko rfl $ E.subN (a := k + 1) (b := 1) rfl rfl (by omega) rfl ?_
              rw [Nat.add_sub_cancel]
              refine Ko rfl $ Kp rfl $ Ko rfl $ Kr rfl $ Kr rfl $ E.nil $ X.join0 (Sub.cons (look_eq rfl (congrArg Value.bool (by exact decide_eq_decide.2 ⟨fun h => .inr ⟨by simpa using g44, by omega, h⟩, fun h => by rcases h with h | h; exact absurd (by simpa using g44) h.2.1; exact h.2.2⟩))) $ Sub.nil _) rfl rfl
            try simp only [Ya, Yb, Yc, Yd, Ye, Yf] at g48
            refine Kq rfl $ Kq rfl $ Kq rfl $ Kq rfl $ Ko rfl $ Kr rfl $ Kr rfl $ E.nil $ X.join0 (Sub.cons (look_eq rfl (congrArg Value.bool (by exact (decide_eq_false (p := (at_ (r[k]'hk').1 0 ≤ 90 ∧ (r[k]'hk').1 ≠ tD ∧ (r[k]'hk').1 ≠ tE) ∨ ((r[k]'hk').1 = tD ∧ 0 ≤ lr ∧ lr ≠ (k : Int))) (fun h => by rcases h with h | h; (first | omega | exact h.2.1 (by simpa using g44) | exact h.2.1 (by simpa using g37) | exact h.2.2 (by simpa using g41)); (first | omega | exact g44 h.1 | exact absurd h.1 (by simpa using g44)))).symm))) $ Sub.nil _) rfl rfl
          try simp only [Ya, Yb, Yc, Yd, Ye, Yf] at g44
          refine Kq rfl $ Kq rfl $ Ko rfl $ Kr rfl $ Ko rfl $ Km rfl $ Kq rfl $ Kq rfl $ Kq rfl $ Kq rfl $ Ko rfl $ Kr rfl $ Kr rfl $ E.nil $ X.join0 (Sub.cons (look_eq rfl (congrArg Value.bool (by exact (decide_eq_false (p := (at_ (r[k]'hk').1 0 ≤ 90 ∧ (r[k]'hk').1 ≠ tD ∧ (r[k]'hk').1 ≠ tE) ∨ ((r[k]'hk').1 = tD ∧ 0 ≤ lr ∧ lr ≠ (k : Int))) (fun h => by rcases h with h | h; (first | omega | exact h.2.1 (by simpa using g44) | exact h.2.1 (by simpa using g37) | exact h.2.2 (by simpa using g41)); (first | omega | exact g44 h.1 | exact absurd h.1 (by simpa using g44)))).symm))) $ Sub.nil _) rfl rfl
        try simp only [Ya, Yb, Yc, Yd, Ye, Yf] at g33
        refine Kq rfl $ Kq rfl $ Kr rfl $ Km rfl $ Kq rfl $ Kq rfl $ Kr rfl $ Km rfl $ Ko rfl $ Km rfl $ Ko rfl $ E.eqstr (l := (r[k]'hk').1) (m := tD) rfl rfl rfl $ Ko rfl $ Km rfl $ E.split 44 rfl (fun g44 => ?_) (fun g44 => ?_)
        ·
          try simp only [Ya, Yb, Yc, Yd, Ye, Yf] at g44
          refine Ko rfl $ Km rfl $ Ko rfl $ Kp rfl $ Ko rfl $ Kr rfl $ Ko rfl $ Km rfl $ E.split 48 rfl (fun g48 => ?_) (fun g48 => ?_)
          ·
            try simp only [Ya, Yb, Yc, Yd, Ye, Yf] at g48
            refine Ko rfl $ Km rfl $ Ko rfl $ Km rfl $ Ko rfl $ E.subN (a := k + 1) (b := 1) rfl rfl (by omega) rfl ?_
            rw [Nat.add_sub_cancel]
            refine Ko rfl $ Kp rfl $ Ko rfl $ Kr rfl $ Kr rfl $ E.nil $ X.join0 (Sub.cons (look_eq rfl (congrArg Value.bool (by exact decide_eq_decide.2 ⟨fun h => .inr ⟨by simpa using g44, by omega, h⟩, fun h => by rcases h with h | h; exact absurd (by simpa using g44) h.2.1; exact h.2.2⟩))) $ Sub.nil _) rfl rfl
          try simp only [Ya, Yb, Yc, Yd, Ye, Yf] at g48
          refine Kq rfl $ Kq rfl $ Kq rfl $ Kq rfl $ Ko rfl $ Kr rfl $ Kr rfl $ E.nil $ X.join0 (Sub.cons (look_eq rfl (congrArg Value.bool (by exact (decide_eq_false (p := (at_ (r[k]'hk').1 0 ≤ 90 ∧ (r[k]'hk').1 ≠ tD ∧ (r[k]'hk').1 ≠ tE) ∨ ((r[k]'hk').1 = tD ∧ 0 ≤ lr ∧ lr ≠ (k : Int))) (fun h => by rcases h with h | h; (first | omega | exact h.2.1 (by simpa using g44) | exact h.2.1 (by simpa using g37) | exact h.2.2 (by simpa using g41)); (first | omega | exact g44 h.1 | exact absurd h.1 (by simpa using g44)))).symm))) $ Sub.nil _) rfl rfl
        try simp only [Ya, Yb, Yc, Yd, Ye, Yf] at g44
        refine Kq rfl $ Kq rfl $ Ko rfl $ Kr rfl $ Ko rfl $ Km rfl $ Kq rfl $ Kq rfl $ Kq rfl $ Kq rfl $ Ko rfl $ Kr rfl $ Kr rfl $ E.nil $ X.join0 (Sub.cons (look_eq rfl (congrArg Value.bool (by exact (decide_eq_false (p := (at_ (r[k]'hk').1 0 ≤ 90 ∧ (r[k]'hk').1 ≠ tD ∧ (r[k]'hk').1 ≠ tE) ∨ ((r[k]'hk').1 = tD ∧ 0 ≤ lr ∧ lr ≠ (k : Int))) (fun h => by rcases h with h | h; (first | omega | exact h.2.1 (by simpa using g44) | exact h.2.1 (by simpa using g37) | exact h.2.2 (by simpa using g41)); (first | omega | exact g44 h.1 | exact absurd h.1 (by simpa using g44)))).symm))) $ Sub.nil _) rfl rfl
      refine C.cond' rfl (fun hC2 => ?_) (fun hC2 => ?_)
      ·
        have hbad : ¬ fmd 0 r = true := by
          have key : fmd 0 r = false := by
            rcases hC2 with q | q
            · by_cases hH : (r[k]'hk').1 = tH
              · exact hF.head hk' hH
              exact hF.cr hk' hH q.2.1 ⟨q.2.2, h65, q.1⟩
            have ha : anyD (r.take k) = true := by
              cases h : anyD (r.take k) with
              | true => rfl
              | false => have := hL.1 h; omega
            exact hF.bad hk' q.1 ⟨ha, by have := hL.2 ha; omega⟩
          rw [key]; decide
        refine Kb $ Kc rfl $ C.ret $ X.retT $ X.retB $ X.retT $ X.retT $ X.retB $ X.retT $ ret1 rfl rfl ?_
        exact ⟨false, rfl, ⟨fun h => (by cases h), fun h => (hbad h.2.2).elim⟩, hM.toExt⟩
      refine Kk $ Kb $ Km rfl $ E.eqstr (l := (r[k]'hk').1) (m := tD) rfl rfl rfl $ Ka $ C.cond' rfl (fun hC3 => ?_) (fun hC3 => ?_)
      ·
        refine C.region $ Km rfl $ Kn rfl $ E.nil $ X.outN $ X.join3 1 (k : Int) ((k + 1 : Nat) : Int) (S1 rfl) rfl ⟨hM, hF.data hk' hC3 (fun q => hC2 (.inr ⟨hC3, by have := hL.2 q.1; have := hF.2.1; omega, by have := hL.2 q.1; omega⟩)), ⟨fun q => (by rw [any_t hk' hC3] at q; cases q), fun _ => by omega⟩, by omega, by omega⟩
      refine C.skip $ X.outN $ X.join3 (if st = 0 then 0 else 2) la lr (S1 rfl) rfl ⟨hM, hF.more hk' (fun q => hC2 (.inl ⟨by rw [q]; decide, hC3, by rw [q]; decide⟩)) hC3 (fun q => hC2 (.inl ⟨q.2.2, hC3, q.1⟩)), ⟨fun q => hL.1 (by rw [← any_f hk' hC3]; exact q), fun q => hL.2 (by rw [← any_f hk' hC3]; exact q)⟩, hlr1, hlr2⟩
    rintro st2 la2 lr2 w1 ⟨hM, hF2, hL2, hlr3, hlr4⟩
    refine C.region $ Km rfl $ E.addN (a := k + 1) (b := 1) rfl rfl (by omega) rfl $ Kn rfl $ E.nil $ X.again4 (k + 1) st2 la2 lr2 (Sub.cons rfl $ S1 rfl) rfl ⟨hM, by omega, hF2, hL2, hlr3, hlr4⟩ (by omega)
  obtain rfl : k = r.length := by omega
  refine Kx $ Kb $ Kc rfl $ C.ret $ ret1 rfl rfl ?_
  exact ⟨true, rfl, ⟨fun _ => ⟨hcH, hc13, hF.all⟩, fun _ => rfl⟩, hM.toExt⟩
end Go.Proofs.YtajklleiifhipaaGreatDoor
