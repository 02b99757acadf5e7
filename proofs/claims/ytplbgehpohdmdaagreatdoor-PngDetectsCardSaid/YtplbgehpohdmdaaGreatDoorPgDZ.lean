/- Png, as plain mathematics: a changed byte is detected. -/
import Derived.Test.YtplbgehpohdmdaaGreatDoorZ13
import Derived.Test.YtplbgehpohdmdaaGreatDoorCrcMoreZ
set_option linter.unusedSimpArgs false
set_option linter.unusedVariables false
namespace Go.Proofs.YtplbgehpohdmdaaGreatDoor
namespace Pg
open Jn
theorem crcN_set {l : List UInt8} {j : Nat} {y : UInt8} (h : j < l.length) (hy : y ≠ l[j]) : crcN (l.set j y) ≠ crcN l := fun e => by
 have e1 : Crc.crc (l.set j y) = Crc.crc l := BitVec.eq_of_toNat_eq e
 have e2 : y = l[j] ^^^ (l[j] ^^^ y) := by rw [← UInt8.xor_assoc, UInt8.xor_self, UInt8.zero_xor]
 rw [e2, crc_set l j _ h] at e1
 have e3 : Crc.steps (8 * (l.length - j)) (Crc.ext (l[j] ^^^ y)) = 0#32 := by
  have := congrArg (Crc.crc l ^^^ ·) e1
  simp only [← BitVec.xor_assoc, BitVec.xor_self, BitVec.zero_xor] at this
  exact this
 have e4 : Crc.ext (l[j] ^^^ y) = 0#32 := Crc.steps_inj (8 * (l.length - j)) (by rw [e3, Crc.steps_zero])
 have e5 : (l[j] ^^^ y).toNat = 0 := by
  have := congrArg BitVec.toNat e4
  unfold Crc.ext at this
  have hlt := UInt8.toNat_lt (l[j] ^^^ y)
  simp only [BitVec.toNat_ofNat] at this
  omega
 have e6 : l[j] ^^^ y = 0 := UInt8.toNat_inj.1 e5
 refine hy ?_
 rw [e6, UInt8.xor_zero] at e2; exact e2
theorem dec4_set {m i : Nat} {y : UInt8} (hm : m < 4294967296) (hi : i < (enc4 m).length) (hy : y ≠ (enc4 m)[i]) (r : List UInt8) : m ≠ dec4 ((enc4 m).set i y ++ r) := fun e => by
 have h1 : enc4 (dec4 ((enc4 m).set i y ++ r)) = (enc4 m).set i y := by
  rw [enc_dec (by rw [List.length_append, List.length_set, enc4_len]; omega)]
  have : ((enc4 m).set i y).length = 4 := by rw [List.length_set, enc4_len]
  rw [← this, List.take_left]
 rw [← e] at h1
 have h2 : (enc4 m)[i]? = ((enc4 m).set i y)[i]? := by rw [← h1]
 rw [List.getElem?_set_self hi, List.getElem?_eq_getElem hi] at h2
 exact hy (Option.some.inj h2).symm
theorem hd_bad {c : Ck} {r : List UInt8} {t : Nat} {y : UInt8} (hk : let4 c.1) (hs : c.2.length < 4294967296) (ht : t < c.2.length + 8) (hl : 4 + t < (ck c).length) (hy : y ≠ (ck c)[4 + t]) :
    hd ((ck c).set (4 + t) y ++ r) = .error 9 ∨ hd ((ck c).set (4 + t) y ++ r) = .error 26 := by
  obtain ⟨body, hb⟩ : ∃ b, b = c.1 ++ c.2 := ⟨_, rfl⟩
  obtain ⟨m, hm⟩ : ∃ m, m = crcN body := ⟨_, rfl⟩
  obtain ⟨n, hn⟩ : ∃ n, n = c.2.length := ⟨_, rfl⟩
  have hbl : body.length = n + 4 := by rw [hb, List.length_append, hk.1]; omega
  have hml : m < 4294967296 := by rw [hm]; exact crcN_lt _
  have e0 : ck c = enc4 n ++ (body ++ enc4 m) := by rw [ck, hn, hm, hb]
  obtain ⟨q, hq⟩ : ∃ q, q = (body ++ enc4 m).set t y := ⟨_, rfl⟩
  have hql : q.length = n + 8 := by rw [hq, List.length_set, List.length_append, hbl, enc4_len]
  have e1 : (ck c).set (4 + t) y = enc4 n ++ q := by
    rw [e0, List.set_append_right _ _ (by rw [enc4_len]; omega), enc4_len, show 4 + t - 4 = t by omega, hq]
  have hy2 : ∀ h : t < (body ++ enc4 m).length, y ≠ (body ++ enc4 m)[t] := fun h e => hy (by
    have h2 : (ck c)[4 + t]? = (body ++ enc4 m)[t]? := by
      rw [e0, List.getElem?_append_right (by rw [enc4_len]; omega), enc4_len]; congr 1; omega
    rw [List.getElem?_eq_getElem hl, List.getElem?_eq_getElem h] at h2
    rw [e, Option.some.inj h2])
  have hne : crcN (q.take (n + 4)) ≠ dec4 (q.drop (n + 4) ++ r) := by
    by_cases ct : t < n + 4
    · have e2 : q = body.set t y ++ enc4 m := by rw [hq, List.set_append_left _ _ (by omega)]
      have hl2 : (body.set t y).length = n + 4 := by rw [List.length_set, hbl]
      rw [e2, ← hl2, List.take_left, List.drop_left, dec_enc hml, hm]
      have h3 := hy2 (by rw [List.length_append]; omega)
      rw [List.getElem_append_left (by omega)] at h3
      exact crcN_set (by omega) h3
    · have e2 : q = body ++ (enc4 m).set (t - (n + 4)) y := by rw [hq, List.set_append_right _ _ (by omega), hbl]
      rw [e2, ← hbl, List.take_left, List.drop_left, ← hm]
      have h3 := hy2 (by rw [List.length_append, enc4_len]; omega)
      rw [List.getElem_append_right (by omega)] at h3
      simp only [hbl] at h3 ⊢
      exact dec4_set hml (by rw [enc4_len]; omega) h3 r
  rw [e1, List.append_assoc]
  have hX : (enc4 n ++ (q ++ r)).length = n + 12 + r.length := by rw [List.length_append, List.length_append, hql, enc4_len]; omega
  have hd4 : (enc4 n ++ (q ++ r)).drop 4 = q ++ r := by
    rw [show 4 = (enc4 n).length from rfl, List.drop_left]
  unfold hd
  rw [dec_enc (by omega), if_neg (by omega), hd4]
  by_cases hk2 : let4 ((q ++ r).take 4)
  · rw [if_neg (Decidable.not_not.2 hk2), if_neg (by omega), if_pos]
    · exact .inr rfl
    · rw [show 8 + n = 4 + (n + 4) by omega, ← List.drop_drop, hd4, List.take_append_of_le_length (by omega), List.drop_append_of_le_length (by omega)]
      exact hne
  · rw [if_pos hk2]; exact .inl rfl
theorem chs_err {e : Int} {X : List UInt8} : ∀ (a : List Ck) (n : Nat), a.length ≤ n → (∀ c ∈ a, let4 c.1 ∧ c.1 ≠ tE ∧ c.2.length < 4294967296) → hd X = .error e → a.length < n → chs n (cks a ++ X) = .error e
 | [], n + 1, _, _, h, _ => by show chs (n + 1) X = _; rw [chs, h]
 | c :: a, n + 1, hn, hc, h, hl => by
  obtain ⟨h1, h2, h3⟩ := hc c (by simp)
  have e1 : hd (cks (c :: a) ++ X) = .ok c := by rw [cks_cons, List.append_assoc]; exact hd_of h1 h3
  have e2 : (cks (c :: a) ++ X).drop (12 + c.2.length) = cks a ++ X := by
   rw [cks_cons, List.append_assoc, show 12 + c.2.length = (ck c).length by rw [ck_len h1.1]; omega, List.drop_left]
  rw [chs, e1]
  simp only
  rw [if_neg h2, e2, chs_err a n (by simp only [List.length_cons] at hn; omega) (fun d hd => hc d (by simp [hd])) h (by simp only [List.length_cons] at hl; omega)]
theorem gd_app : ∀ (a : List Ck) {c : Ck} {b : List Ck}, gd (a ++ c :: b) → let4 c.1 ∧ ∀ d ∈ a, let4 d.1 ∧ d.1 ≠ tE
 | [], c, b, h => ⟨h.1, fun d hd => by simp at hd⟩
 | x :: a, c, b, h => by
  have h2 : let4 x.1 ∧ x.1 ≠ tE ∧ gd (a ++ c :: b) := by
   cases a with
   | nil => exact ⟨h.1, h.2.1, h.2.2⟩
   | cons y a => exact ⟨h.1, h.2.1, h.2.2⟩
  obtain ⟨g1, g2⟩ := gd_app a h2.2.2
  refine ⟨g1, fun d hd => ?_⟩
  rcases List.mem_cons.1 hd with rfl | hd
  · exact ⟨h2.1, h2.2.1⟩
  · exact g2 d hd
theorem detects {l : List Ck} {p : List UInt8} {k t j : Nat} {y : UInt8} (h : jn l = .ok p) (hk : k < l.length) (ht : t < l[k].2.length + 8) (hje : j = 8 + csz (l.take k) + 4 + t) (hj : j < p.length) (hy : y ≠ p[j]) :
  rdf (p.set j y) = .error 9 ∨ rdf (p.set j y) = .error 26 := by
 obtain ⟨h1, h2, h3, h4⟩ := jn_ok h
 obtain ⟨c, hc⟩ : ∃ c, c = l[k] := ⟨_, rfl⟩
 obtain ⟨a, ha⟩ : ∃ a, a = l.take k := ⟨_, rfl⟩
 obtain ⟨b, hb⟩ : ∃ b, b = l.drop (k + 1) := ⟨_, rfl⟩
 have hl : l = a ++ c :: b := by rw [ha, hb, hc, List.getElem_cons_drop, List.take_append_drop]
 have hal : a.length = k := by rw [ha, List.length_take]; omega
 rw [← ha] at hje
 subst hje
 rw [← hc] at ht
 have h2' := h2
 rw [hl] at h2'
 obtain ⟨g1, g2⟩ := gd_app a h2'
 have hsm : ∀ d ∈ l, d.2.length < 4294967296 := fun d hd => by have := csz_ge hd; omega
 have hca : (cks a).length = csz a := cks_len (fun d hd => (g2 d hd).1.1)
 have hpe : p = (sig ++ cks a) ++ (ck c ++ cks b) := by rw [h4, hl, cks_app, cks_cons, List.append_assoc]
 have hpl : (sig ++ cks a).length = 8 + csz a := by rw [List.length_append, hca]; rfl
 have hkl := ck_len g1.1
 have hps : p.set (8 + csz a + 4 + t) y = sig ++ (cks a ++ ((ck c).set (4 + t) y ++ cks b)) := by
  rw [hpe, List.set_append_right _ _ (by omega), hpl, show 8 + csz a + 4 + t - (8 + csz a) = 4 + t by omega, List.set_append_left _ _ (by omega), List.append_assoc]
 have hy2 : y ≠ (ck c)[4 + t]'(by omega) := fun e => hy (by
  rw [e]
  simp only [hpe]
  rw [List.getElem_append_right (by omega), List.getElem_append_left (by omega)]
  congr 1; omega)
 have hb2 := hd_bad (r := cks b) (y := y) g1 (hsm c (by rw [hl]; simp)) ht (by omega) hy2
 have hlen : (p.set (8 + csz a + 4 + t) y).length ≤ 4194304 := by
  rw [List.length_set, h4, List.length_append, cks_len (fun d hd => (gd_let h2 d hd).1)]; show 8 + csz l ≤ _; omega
 have hrd : ∀ e, hd ((ck c).set (4 + t) y ++ cks b) = .error e → rdf (p.set (8 + csz a + 4 + t) y) = .error e := fun e he => by
  unfold rdf
  rw [if_neg (by omega), hps, show (sig ++ (cks a ++ ((ck c).set (4 + t) y ++ cks b))).take 8 = sig from rfl, if_neg (by simp)]
  exact chs_err a 1024 (by omega) (fun d hd => ⟨(g2 d hd).1, (g2 d hd).2, hsm d (by rw [hl]; simp [hd])⟩) he (by omega)
 exact hb2.imp (hrd _) (hrd _)
end Pg
end Go.Proofs.YtplbgehpohdmdaaGreatDoor
