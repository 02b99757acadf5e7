/- chapter 35: PngDetects. -/
import Derived.Test.YtplbgehpohdmdaaGreatDoorZ0
import Derived.Test.YtplbgehpohdmdaaGreatDoorPgDZ
import Derived.Test.YtplbgehpohdmdaaGreatDoorPg10Z
set_option linter.unusedSimpArgs false
set_option linter.unusedVariables false
namespace Go.Proofs.YtplbgehpohdmdaaGreatDoor
open Go.RowKit Sym
open Pg
theorem xor8u (c d : UInt8) : bits .xor .u8 (c.toNat : Int) (d.toNat : Int) = ((c ^^^ d).toNat : Int) := by
 rw [u8_xor_nat _ _ (UInt8.toNat_lt c) (UInt8.toNat_lt d), UInt8.toNat_xor]
theorem xor_ne {c d : UInt8} (h : d.toNat ≠ 0) : c ^^^ d ≠ c := fun e => h (by
 have : c ^^^ (c ^^^ d) = c ^^^ c := by rw [e]
 rw [← UInt8.xor_assoc, UInt8.xor_self, UInt8.zero_xor] at this
 rw [this]; rfl)
set_option maxHeartbeats 2000000 in
theorem PngDetects_ret (p : Value) (hs : List Hd) (l : List Ck) (x y z : Int) (w : World) (hc : Cks w p hs l) (hx : 0 ≤ x ∧ x ≤ 255) (hy : 0 ≤ y ∧ y ≤ 65535) (hz : 0 ≤ z ∧ z ≤ 255) (hO : Ord w) :
    Ret Tryz.prog 10 #[p, .int .u8 x, .int .u16 y, .int .u8 z] w fun v w' => v = .bool true ∧ Ext w w' := by
  have hM := M.start w
  refine enter Tryz.func10 rfl (by kernel_rfl) Tryz.ntmps10 rfl ?_
  refine C.seq <| C.region <| E.asg rfl rfl <| E.nil <| X.next <| C.seq <| ?_

  refine C.cut0 [(0, _), (1, _), (2, _), (3, _)] rfl [(23, .bool (decide (¬ (Few l ∧ z ≠ 0))))] (fun w' => M w (Nn) w' []) ?_ ?_
  ·
    refine C.region <| E.mv rfl rfl <| ?_
    refine E.call rfl rfl (few_ret p hs l _ (hc.ext hM.toExt)) ?_
    rintro _ w0 ⟨rfl, x0⟩
    have hM := hM.ext x0
    try dsimp only [Za, Zb, Zc, Zd, repl] at hM
    refine E.not rfl rfl <| E.mv rfl rfl <| ?_
    refine E.split 20 rfl (fun g20 => ?_) (fun g20 => ?_)
    ·
      try simp only [Ya, Yb, Yc, Yd, Ye, Yf] at g20
      have g20' : ¬ Few l := by simpa using g20

      refine E.off rfl rfl rfl rfl <| E.off rfl rfl rfl rfl <| E.pick rfl rfl rfl <| E.nil <| X.join0  (Sub.cons (look_eq rfl (congrArg Value.bool (decide_eq_true (p := ¬ (Few l ∧ z ≠ 0)) (fun h => g20' h.1)).symm)) <| Sub.nil _) rfl hM
    ·
      try simp only [Ya, Yb, Yc, Yd, Ye, Yf] at g20
      have g20' : Few l := by simpa using g20
      refine E.on rfl rfl (E.mv rfl rfl ?_)
      refine E.on rfl rfl (E.bin rfl rfl rfl rfl ?_)

      refine E.pick rfl rfl rfl <| E.nil <| X.join0  (Sub.cons (look_eq rfl (congrArg Value.bool (decide_eq_decide.2 ⟨fun h k => k.2 h, fun h => Decidable.byContradiction fun k => h ⟨g20', k⟩⟩))) <| Sub.nil _) rfl hM
  rintro  w1 hM
  refine C.cond' rfl (fun hC0 => ?_) (fun hC0 => ?_)
  ·
    refine C.seq <| C.region <| ?_
    refine E.call rfl rfl (example_ret _ (hM.ord0 hO)) ?_
    rintro _ wz ⟨rfl, xz⟩
    have hM := hM.ext xz
    try dsimp only [Za, Zb, Zc, Zd, repl] at hM
    refine E.asg rfl rfl <| E.nil <| X.next <| C.ret <| X.retT <| ret1 rfl rfl ?_
    exact ⟨rfl, hM.toExt⟩
  ·
    obtain ⟨hf, hz0⟩ := Decidable.not_not.1 hC0
    obtain ⟨xn, rfl⟩ : ∃ n : Nat, x = (n : Int) := ⟨x.toNat, by omega⟩
    obtain ⟨yn, rfl⟩ : ∃ n : Nat, y = (n : Int) := ⟨y.toNat, by omega⟩
    obtain ⟨zb, rfl⟩ : ∃ b : UInt8, z = (b.toNat : Int) := ⟨UInt8.ofNat z.toNat, by simp; omega⟩
    refine C.skip <| X.next <| C.seq <| C.region <| E.mv rfl rfl <| ?_
    refine E.call rfl rfl (Join_ret p hs l _ (hc.ext hM.toExt) hf.bd) ?_
    rintro _ wj1 ⟨vj1, out1, f1, rfl, n1, hj1⟩
    have hM := hM.call n1
    skip
    try dsimp only [Za, Zb, Zc, Zd, repl] at hM
    refine E.mv rfl rfl <| E.ext rfl rfl rfl <| E.ext rfl rfl rfl <| E.asg rfl rfl <| E.asg rfl rfl <| E.nil <| X.next <| C.seq <| ?_

    refine C.chainE [(0, _), (1, _), (2, _), (3, _), (9, _), (10, _)] rfl [(36, .bool (decide (f1 ≠ 0 ∨ out1.length < 20)))] ?_ ?_
    ·
      refine C.region <| E.mv rfl rfl <| E.bin rfl rfl rfl rfl <| E.mv rfl rfl <| ?_
      refine E.split 32 rfl (fun g32 => ?_) (fun g32 => ?_)
      ·
        try simp only [Ya, Yb, Yc, Yd, Ye, Yf] at g32
        refine E.off rfl rfl rfl rfl <| E.off rfl rfl rfl rfl <| E.off rfl rfl rfl rfl <| E.pick rfl rfl rfl <| E.nil <| X.join0 (Sub.cons (look_eq rfl (congrArg Value.bool (by exact (decide_eq_true (p := f1 ≠ 0 ∨ out1.length < 20) (by omega)).symm))) <| Sub.nil _) rfl rfl
      ·
        try simp only [Ya, Yb, Yc, Yd, Ye, Yf] at g32
        refine E.on rfl rfl (E.mv rfl rfl ?_)
        refine E.on rfl rfl (E.lenv rfl (Rd.shape (hM.sl 0 rfl)) Tryz.underlying22 rfl ?_)
        refine E.on rfl rfl (E.bin rfl rfl rfl rfl ?_)
        refine E.pick rfl rfl rfl <| E.nil <| X.join0 (Sub.cons (look_eq rfl (congrArg Value.bool (by exact decide_eq_decide.2 ⟨fun h => by omega, fun h => by omega⟩))) <| Sub.nil _) rfl rfl
    refine C.cond' rfl (fun hC1 => ?_) (fun hC1 => ?_)
    ·
      have hf1 : f1 ≠ 0 := fun h => by
        obtain ⟨_, hj⟩ := hj1.resolve_right (fun k => k.1 h)
        obtain ⟨_, h2, _, h4⟩ := jn_ok hj
        have h5 := congrArg List.length h4
        rw [List.length_append, cks_len (fun c hc => (gd_let h2 c hc).1), show sig.length = 8 from rfl] at h5
        have h6 : 12 ≤ csz l := by
          cases l with
          | nil => exact h2.elim
          | cons c r => rw [csz_cons]; omega
        omega

      refine C.cut0 [] rfl [(8, .bool true)] (fun w' => M w (Nn) w' []) ?_ ?_
      ·
        refine C.region <| E.mv rfl rfl <| E.bin rfl rfl rfl rfl <| E.mv rfl rfl <| ?_
        refine E.split 39 rfl (fun g39 => ?_) (fun g39 => ?_)
        ·
          try simp only [Ya, Yb, Yc, Yd, Ye, Yf] at g39
          refine E.on rfl rfl (E.call rfl rfl (example_ret _ (hM.ord0 hO)) ?_)
          rintro _ wz ⟨rfl, xz⟩
          have hM := hM.ext xz
          try dsimp only [Za, Zb, Zc, Zd, repl] at hM

          refine E.pick rfl rfl rfl <| E.asg rfl rfl <| E.nil <| X.join0  (Sub.cons rfl <| Sub.nil _) rfl (hM.pick [] (by decide))
        ·
          try simp only [Ya, Yb, Yc, Yd, Ye, Yf] at g39
          exact absurd g39 hf1
      rintro  w5 hM
      refine C.ret <| X.retT <| ret1 rfl rfl ?_
      exact ⟨rfl, hM.toExt⟩
    ·
      obtain ⟨_, hj⟩ := hj1.resolve_right (fun h => h.1 (by omega))
      obtain ⟨h1, h2, h3, h4⟩ := jn_ok hj
      have hl0 : 0 < l.length := List.length_pos_iff.2 (gd_ne h2)
      have hol := congrArg List.length h4
      rw [List.length_append, cks_len (fun c hc => (gd_let h2 c hc).1), show sig.length = 8 from rfl] at hol
      obtain ⟨k, hk⟩ : ∃ k, k = xn % l.length := ⟨_, rfl⟩
      have hkl : k < l.length := by rw [hk]; exact Nat.mod_lt _ hl0
      have hle := hc.le
      refine C.skip <| X.next <| C.seq <| C.region <| E.mv rfl rfl <| ?_
      refine E.conv rfl Tryz.underlying5 Tryz.underlying3 (IntWalk.i64_in _ (by omega)) rfl ?_
      refine E.mv rfl rfl <| ?_
      refine E.lenv rfl hc.shape Tryz.underlying24 rfl ?_
      refine E.rem rfl rfl (by omega) (remN (a := xn) (b := l.length)) rfl ?_
      rw [← hk]
      refine E.asg rfl rfl <| E.asg rfl rfl <| E.nil <| X.next <| C.seq <| C.seq <| C.region <| E.asg rfl rfl <| E.nil <| X.next <| C.block <| ?_

      refine C.loop1 [(0, _), (2, _), (3, _), (9, _), (11, _)] rfl (fun (i : Nat) => [(12, i64 (8 + csz (l.take i) : Nat)), (13, i64 i)]) (fun (i : Nat) w' => M w (Nn) w' [Rg.sl u8 5 vj1 out1] ∧ i ≤ k) (fun (i : Nat) => k - i) 0 ?_ ?_ ?_
      · exact Sub.cons rfl <| Sub.cons rfl <| Sub.nil _
      · exact ⟨hM, Nat.zero_le _⟩
      rintro i w6 ⟨hM, hi⟩
      have hmo := csz_mono l i
      refine C.seq <| C.seq <| C.region <| E.mv rfl rfl <| E.mv rfl rfl <| E.bin rfl rfl rfl rfl <| E.nil <| X.next <| ?_
      refine C.cond' rfl (fun hC2 => ?_) (fun hC2 => ?_)
      ·
        have hil : i < l.length := by omega
        have hsu := csz_succ hil
        have hdi := (hf.2 _ (List.getElem_mem hil)).2
        refine C.skip <| X.next <| C.seq <| C.block <| C.region <| E.mv rfl rfl <| ?_
        refine E.addN (a := 8 + csz (l.take i)) (b := 12) rfl rfl (by omega) rfl ?_
        refine E.mv rfl rfl <| E.mv rfl rfl <| ?_
        refine E.idxF (k := i) rfl rfl (hc.row.ext hM.toExt) rfl (by rw [zc_len hc.len]; exact hil) (by decide) Tryz.underlying24 (by kernel_rfl) rfl ?_
        refine E.fld (o := 1) (sz := 0) rfl Tryz.underlying46 rfl rfl (by kernel_rfl) rfl ?_
        refine E.load rfl Tryz.underlying22 rfl ((hc.ext hM.toExt).at hil 1 _ rfl) rfl ?_
        refine E.lenv rfl (Rd.shape (hc.data hil)) Tryz.underlying22 rfl ?_
        refine E.addN (a := 8 + csz (l.take i) + 12) (b := (l[i]).2.length) rfl rfl (by omega) rfl ?_
        refine E.asg rfl rfl <| E.nil <| X.outN <| X.next <| C.region <| E.mv rfl rfl <| ?_
        refine E.add rfl rfl (by omega) rfl ?_

        refine E.asg rfl rfl <| E.nil <| X.again1 (i + 1) (Sub.cons (look_val rfl (by rw [hsu]; omega)) <| Sub.cons rfl <| Sub.nil _) rfl ⟨hM, by omega⟩ (by omega)
      ·
        obtain rfl : i = k := by omega
        have hsu := csz_succ hkl
        have hmo2 := csz_mono l (i + 1)
        obtain ⟨m, hm⟩ : ∃ m, m = (l[i]).2.length := ⟨_, rfl⟩
        obtain ⟨t, ht⟩ : ∃ t, t = yn % (8 + m) := ⟨_, rfl⟩
        have htm : t < 8 + m := by rw [ht]; exact Nat.mod_lt _ (by omega)
        obtain ⟨j, hj2⟩ : ∃ j, j = 8 + csz (l.take i) + 4 + t := ⟨_, rfl⟩
        have hjo : j < out1.length := by omega
        refine C.exit <| X.exitT <| X.exitT <| X.outE <| X.next <| C.seq <| C.region <| E.mv rfl rfl <| ?_
        refine E.addN (a := 8 + csz (l.take i)) (b := 4) rfl rfl (by omega) rfl ?_
        refine E.mv rfl rfl <| ?_
        refine E.conv rfl Tryz.underlying44 Tryz.underlying3 (IntWalk.i64_in _ (by omega)) rfl ?_
        refine E.mv rfl rfl <| E.mv rfl rfl <| ?_
        refine E.idxF (k := i) rfl rfl (hc.row.ext hM.toExt) rfl (by rw [zc_len hc.len]; exact hkl) (by decide) Tryz.underlying24 (by kernel_rfl) rfl ?_
        refine E.fld (o := 1) (sz := 0) rfl Tryz.underlying46 rfl rfl (by kernel_rfl) rfl ?_
        refine E.load rfl Tryz.underlying22 rfl ((hc.ext hM.toExt).at hkl 1 _ rfl) rfl ?_
        refine E.lenv rfl (Rd.shape (hc.data hkl)) Tryz.underlying22 rfl ?_
        rw [← hm]
        refine E.addN (a := 8) (b := m) rfl rfl (by omega) rfl ?_
        refine E.rem rfl rfl (by omega) (remN (a := yn) (b := 8 + m)) rfl ?_
        rw [← ht]
        refine E.addN (a := 8 + csz (l.take i) + 4) (b := t) rfl rfl (by omega) rfl ?_
        rw [← hj2]
        refine E.asg rfl rfl <| E.nil <| X.next <| C.seq <| C.seq <| C.region <| E.mv rfl rfl <| E.mv rfl rfl <| ?_
        refine E.lenv rfl (Rd.shape (hM.sl 0 rfl)) Tryz.underlying22 rfl ?_
        refine E.bin rfl rfl rfl rfl <| E.nil <| X.next <| ?_
        refine C.cond' rfl (fun hC3 => ?_) (fun hC3 => ?_)
        ·
          omega
        ·
          refine C.skip <| X.next <| C.seq <| C.region <| E.mv rfl rfl <| E.mv rfl rfl <| E.mv rfl rfl <| E.mv rfl rfl <| ?_
          refine E.get (k := j) rfl rfl (hM.sl 0 rfl) rfl (by omega) Tryz.underlying22 (by kernel_rfl) Tryz.underlying5 rfl rfl rfl ?_
          rw [u8c]
          refine E.mv rfl rfl <| ?_
          refine E.binw rfl rfl rfl (congrArg _ (xor8u out1[j] zb)) rfl ?_
          refine E.idx1 (k := j) rfl rfl (hM.sl 0 rfl) rfl (by omega) Tryz.underlying22 (by kernel_rfl) rfl ?_
          refine E.storeL 0 (out1[j] ^^^ zb) hM rfl rfl rfl (by kernel_rfl) rfl rfl (by omega) ?_
          intro w7 hM
          try dsimp only [Za, Zb, Zc, Zd, repl] at hM
          refine E.nil <| X.next <| C.seq <| C.region <| E.mv rfl rfl <| ?_
          refine E.call rfl rfl (Chunks_ret vj1 (out1.set j (out1[j] ^^^ zb)) _ (hM.sl 0 rfl)) ?_
          rintro _ wc2 ⟨vc2, hs2, cs2, e2, rfl, m2, hv2⟩
          have hM := hM.call m2
          have hde := detects (y := out1[j] ^^^ zb) hj hkl (by omega) hj2 hjo (xor_ne (by omega))
          obtain ⟨he2, rfl⟩ : (e2 = 9 ∨ e2 = 26) ∧ [] = cs2 := by
            rcases hv2 with ⟨_, h2⟩ | ⟨_, h2, h3⟩
            · rcases hde with hd | hd <;> (rw [hd] at h2; cases h2)
            · refine ⟨?_, h3.symm⟩
              rcases hde with hd | hd <;> (rw [hd] at h2; cases h2)
              · exact .inl rfl
              · exact .inr rfl
          try dsimp only [Za, Zb, Zc, Zd, repl] at hM
          refine E.mv rfl rfl <| E.ext rfl rfl rfl <| E.ext rfl rfl rfl <| E.asg rfl rfl <| E.asg rfl rfl <| E.nil <| X.next <| ?_

          refine C.cut0 [] rfl [(8, .bool true)] (fun w' => M w (Nn) w' []) ?_ ?_
          ·
            refine C.region <| E.mv rfl rfl <| E.bin rfl rfl rfl rfl <| E.mv rfl rfl <| ?_
            refine E.split 94 rfl (fun g94 => ?_) (fun g94 => ?_)
            ·
              try simp only [Ya, Yb, Yc, Yd, Ye, Yf] at g94
              refine E.off rfl rfl rfl rfl <| E.off rfl rfl rfl rfl <| E.pick rfl rfl rfl <| E.mv rfl rfl <| ?_
              refine E.on rfl rfl (E.mv rfl rfl ?_)
              refine E.on rfl rfl (E.lenv rfl (hM.cks 1 2 rfl rfl).shape Tryz.underlying24 rfl ?_)
              refine E.on rfl rfl (E.bin rfl rfl rfl rfl ?_)
              refine E.pick rfl rfl rfl <| E.mv rfl rfl <| ?_
              refine E.split 103 rfl (fun g103 => ?_) (fun g103 => ?_)
              ·
                try simp only [Ya, Yb, Yc, Yd, Ye, Yf] at g103
                refine E.on rfl rfl (E.call rfl rfl (example_ret _ (hM.ord0 hO)) ?_)
                rintro _ wz ⟨rfl, xz⟩
                have hM := hM.ext xz
                try dsimp only [Za, Zb, Zc, Zd, repl] at hM

                refine E.pick rfl rfl rfl <| E.asg rfl rfl <| E.nil <| X.join0  (Sub.cons rfl <| Sub.nil _) rfl (hM.pick [] (by decide))
              ·
                try simp only [Ya, Yb, Yc, Yd, Ye, Yf] at g103
                simp at g103
            ·
              try simp only [Ya, Yb, Yc, Yd, Ye, Yf] at g94
              refine E.on rfl rfl (E.mv rfl rfl ?_)
              refine E.on rfl rfl (E.bin rfl rfl rfl rfl ?_)
              refine E.pick rfl rfl rfl <| E.mv rfl rfl <| ?_
              refine E.split 98 rfl (fun g98 => ?_) (fun g98 => ?_)
              ·
                try simp only [Ya, Yb, Yc, Yd, Ye, Yf] at g98
                refine E.on rfl rfl (E.mv rfl rfl ?_)
                refine E.on rfl rfl (E.lenv rfl (hM.cks 1 2 rfl rfl).shape Tryz.underlying24 rfl ?_)
                refine E.on rfl rfl (E.bin rfl rfl rfl rfl ?_)
                refine E.pick rfl rfl rfl <| E.mv rfl rfl <| ?_
                refine E.split 103 rfl (fun g103 => ?_) (fun g103 => ?_)
                ·
                  try simp only [Ya, Yb, Yc, Yd, Ye, Yf] at g103
                  refine E.on rfl rfl (E.call rfl rfl (example_ret _ (hM.ord0 hO)) ?_)
                  rintro _ wz ⟨rfl, xz⟩
                  have hM := hM.ext xz
                  try dsimp only [Za, Zb, Zc, Zd, repl] at hM

                  refine E.pick rfl rfl rfl <| E.asg rfl rfl <| E.nil <| X.join0  (Sub.cons rfl <| Sub.nil _) rfl (hM.pick [] (by decide))
                ·
                  try simp only [Ya, Yb, Yc, Yd, Ye, Yf] at g103
                  simp at g103
              ·
                try simp only [Ya, Yb, Yc, Yd, Ye, Yf] at g98
                omega
          rintro  w11 hM
          refine C.ret <| ret1 rfl rfl ?_
          exact ⟨rfl, hM.toExt⟩
end Go.Proofs.YtplbgehpohdmdaaGreatDoor
