/- finder: the reference's sightings. -/
import Derived.Test.YtbinlkobmlebpaaC0
import Derived.Test.YtbinlkobmlebpaaC14
import Derived.Test.YtbinlkobmlebpaaFdGC
import Derived.Test.YtbinlkobmlebpaaFd23C
set_option linter.unusedSimpArgs false
set_option linter.unusedVariables false
namespace Go.Proofs.Ytbinlkobmlebpaa
open Go.RowKit Sym
open Fi
set_option maxHeartbeats 2000000 in
theorem sight_ret (vd : Value) (dk : List Bool) (W H : Nat) (kd : Bool) (w : World) (hr : RdL Value.bool w vd dk) (hW : 1 ≤ W ∧ W ≤ 4096) (hH : 1 ≤ H ∧ H ≤ 4096) (hn : dk.length = W * H) (hn2 : dk.length ≤ 4194304) :
  Ret Try.prog 86 #[mat W H vd, i64 (sd kd : Nat)] w fun v w' => M w Nn w' [Rg.slF mkc 4 24 v (sgl (allC W H dk (shq kd) kd H 0))] := by
 have hM := M.start w
 refine enter Try.func86 rfl (by kernel_rfl) Try.ntmps86 rfl ?_
 refine C.seq <| C.region <| ?_
 refine E.boxM (cs := [i64 W, i64 H, vd]) hM rfl (by obtain ⟨a, cap, rfl, _⟩ := hr; rfl) rfl ?_
 intro b2 w0 hM
 try dsimp only [Za, Zb, Zc, Zd, repl] at hM
 refine E.asg rfl rfl <| E.nil <| X.next <| C.seq <| C.region <| E.asg rfl rfl <| E.nil <| X.next <| C.seq <| C.seq <| C.region <| E.asg rfl rfl <| E.nil <| X.next <| C.block <| ?_
 have hM := hM.nilF mkc 4 24
 have hsd := sd_le kd
 have hlr := shq_len kd
 try dsimp only [Za, Zb, Zc, Zd, repl] at hM

 refine C.loop2 [(1, _), (2, _)] rfl (fun (y : Nat) (vl : Value) => [(5, vl), (6, i64 y)]) (fun (y : Nat) (vl : Value) w' => M w (Nn) w' [Rg.blk b2 37 [i64 W, i64 H, vd], Rg.slF mkc 4 24 vl (sgl (allC W H dk (shq kd) kd y 0))] ∧ y ≤ H) (fun (y : Nat) (vl : Value) => H - y) 0 nls ?_ ?_ ?_
 · exact Sub.cons rfl <| Sub.cons rfl <| Sub.nil _
 · exact ⟨hM, Nat.zero_le _⟩
 rintro y vl w1 ⟨hM, hy⟩
 refine C.seq <| C.seq <| C.region <| E.mv rfl rfl <| ?_
 refine E.fld (o := 1) (sz := 0) rfl Try.underlying37 rfl rfl (by kernel_rfl) rfl ?_
 refine E.load rfl Try.underlying3 rfl (hM.bcell 0 rfl rfl) rfl ?_
 refine E.bin rfl rfl rfl rfl <| E.nil <| X.next <| ?_
 refine C.cond' rfl (fun hC0 => ?_) (fun hC0 => ?_)
 ·
  have hy' : y < H := by omega
  refine C.skip <| X.next <| C.seq <| C.block <| C.seq <| C.region <| ?_
  refine E.loadA (cs := [i64 W, i64 H, vd]) rfl Try.underlying37 rfl (by kernel_rfl) (hM.bat 0 rfl) rfl ?_
  refine E.mv rfl rfl <| ?_
  refine E.call rfl rfl (runs_ret vd dk W H y false _ (hM.arg0 hr) hW hH hn hn2 (show y < H from hy')) ?_
  rintro v25 w2 m2
  have hM : M w Nn w2 [Rg.blk b2 37 [i64 W, i64 H, vd], Rg.slF mkc 4 24 vl (sgl (allC W H dk (shq kd) kd y 0)), Rg.sl i64 3 v25 (eds (lc dk (y * W) 1) W)] := hM.call m2
  have hel := eds_len (lc dk (y * W) 1) W
  have he2 := eds_two (c := lc dk (y * W) 1) hW.1
  try dsimp only [Za, Zb, Zc, Zd, repl] at hM
  refine E.asg rfl rfl <| E.nil <| X.next <| C.seq <| C.region <| E.asg rfl rfl <| E.nil <| X.next <| C.block <| ?_

  refine C.loop2 [(1, _), (2, _), (6, _), (7, _)] rfl (fun (i : Nat) (vl : Value) => [(5, vl), (8, i64 i)]) (fun (i : Nat) (vl : Value) w' => M w (Nn) w' [Rg.blk b2 37 [i64 W, i64 H, vd], Rg.slF mkc 4 24 vl (sgl (allC W H dk (shq kd) kd y (i - sd kd))), Rg.sl i64 3 v25 (eds (lc dk (y * W) 1) W)] ∧ i + 1 ≤ (eds (lc dk (y * W) 1) W).length) (fun (i : Nat) (vl : Value) => (eds (lc dk (y * W) 1) W).length - i) 0 vl ?_ ?_ ?_
  · exact Sub.cons rfl <| Sub.cons rfl <| Sub.nil _
  · exact ⟨by rw [Nat.zero_sub]; exact hM, by omega⟩
  rintro i vl w3 ⟨hM, hi⟩
  refine C.seq <| C.seq <| C.region <| E.mv rfl rfl <| ?_
  refine E.addN (a := i) (b := 1) rfl rfl (by omega) rfl ?_
  refine E.mv rfl rfl <| ?_
  refine E.lenv rfl (Rd.shape (hM.sl 2 rfl)) Try.underlying45 rfl ?_
  refine E.bin rfl rfl rfl rfl <| E.nil <| X.next <| ?_
  refine C.cond' rfl (fun hC1 => ?_) (fun hC1 => ?_)
  ·
   have hi' : i + 1 < (eds (lc dk (y * W) 1) W).length := by omega
   have hal := allC_len W H dk (shq kd) kd y (i - sd kd)
   have hsl := sgl_len (allC W H dk (shq kd) kd y (i - sd kd))
   have hmb : y * (W + 1) ≤ 4096 * 4097 := Nat.mul_le_mul (by omega) (by omega)
   refine C.skip <| X.next <| ?_

   refine C.cut1 [(1, _), (2, _), (6, _), (7, _), (8, _)] rfl (fun (vl : Value) => [(5, vl)]) (fun (vl : Value) w' => M w (Nn) w' [Rg.blk b2 37 [i64 W, i64 H, vd], Rg.slF mkc 4 24 vl (sgl (allC W H dk (shq kd) kd y (i + 1 - sd kd))), Rg.sl i64 3 v25 (eds (lc dk (y * W) 1) W)]) ?_ ?_
   ·
    refine C.block <| C.seq <| C.region <| ?_
    refine E.loadA (cs := [i64 W, i64 H, vd]) rfl Try.underlying37 rfl (by kernel_rfl) (hM.bat 0 rfl) rfl ?_
    refine E.mv rfl rfl <| E.mv rfl rfl <| E.mv rfl rfl <| E.mv rfl rfl <| ?_
    refine E.call rfl rfl (rpat_ret vd v25 dk W H y i false kd _ (hM.arg0 hr) hW hH hn hn2 (show y < H from hy') (hM.sl 2 rfl) (by omega)) ?_
    rintro v39 w4 ⟨hv39, x4⟩
    have hM := hM.ext x4
    obtain ⟨a0, T0, B, eB, hB1, hB2⟩ := patR_sh (patv (eds (lc dk (y * W) 1) W) (lc dk (y * W) 1 0) kd (shq kd) ((i : Int) - (sd kd : Nat)))
    obtain rfl := hv39.trans eB
    try dsimp only [Za, Zb, Zc, Zd, repl] at hM
    refine E.mv rfl rfl <| E.ext rfl rfl rfl <| E.ext rfl rfl rfl <| E.ext rfl rfl rfl <| E.asg rfl rfl <| E.asg rfl rfl <| E.asg rfl rfl <| E.nil <| X.next <| C.seq <| C.seq <| C.region <| E.mv rfl rfl <| E.not rfl rfl <| E.nil <| X.next <| ?_
    refine C.cond rfl (fun hC2 => ?_) (fun hC2 => ?_)
    ·
     have hno := allC_mid_n (H := H) (hB2 (by simpa using hC2))

     refine C.exit <| X.exitT <| X.outE <| X.join1 vl (Sub.cons rfl <| Sub.nil _) rfl (by rw [hno]; exact hM)
    ·
     have hpa := hB1 (by simpa using hC2)
     obtain ⟨ha0, hT1, haT⟩ := patv_T hpa (by omega)
     obtain ⟨a, rfl⟩ : ∃ n : Nat, a0 = n := ⟨a0.toNat, by omega⟩
     obtain ⟨T, rfl⟩ : ∃ n : Nat, T0 = n := ⟨T0.toNat, by omega⟩
     have hx : a + T / 2 < W := by omega
     have hmid := allC_mid_s (H := H) hpa (x := a + T / 2) rfl
     refine C.skip <| X.next <| C.seq <| C.region <| ?_
     refine E.loadA (cs := [i64 W, i64 H, vd]) rfl Try.underlying37 rfl (by kernel_rfl) (hM.bat 0 rfl) rfl ?_
     refine E.mv rfl rfl <| E.mv rfl rfl <| ?_
     refine E.quo rfl rfl (by omega) (quoN (a := T) (b := 2) (by omega) (by omega)) rfl ?_
     refine E.addN (a := a) (b := T / 2) rfl rfl (by omega) rfl ?_
     refine E.call rfl rfl (runs_ret vd dk W H (a + T / 2) true _ (hM.arg0 hr) hW hH hn hn2 (show a + T / 2 < W from hx)) ?_
     rintro v50 w5 m5
     have hM : M w Nn w5 [Rg.blk b2 37 [i64 W, i64 H, vd], Rg.slF mkc 4 24 vl (sgl (allC W H dk (shq kd) kd y (i - sd kd))), Rg.sl i64 3 v25 (eds (lc dk (y * W) 1) W), Rg.sl i64 3 v50 (eds (lc dk (a + T / 2) W) H)] := hM.call m5
     have hcl := eds_len (lc dk (a + T / 2) W) H
     have hc2 := eds_two (c := lc dk (a + T / 2) W) hH.1
     have hc0 := eds_zero (c := lc dk (a + T / 2) W) hH.1
     try dsimp only [Za, Zb, Zc, Zd, repl] at hM
     refine E.asg rfl rfl <| E.nil <| X.next <| C.seq <| C.region <| E.asg rfl rfl <| E.nil <| X.next <| C.seq <| C.block <| ?_

     refine C.loop1 [(1, _), (2, _), (5, _), (6, _), (7, _), (8, _), (9, _), (10, _), (12, _)] rfl (fun (j : Nat) => [(13, i64 j)]) (fun (j : Nat) w' => M w (Nn) w' [Rg.blk b2 37 [i64 W, i64 H, vd], Rg.slF mkc 4 24 vl (sgl (allC W H dk (shq kd) kd y (i - sd kd))), Rg.sl i64 3 v25 (eds (lc dk (y * W) 1) W), Rg.sl i64 3 v50 (eds (lc dk (a + T / 2) W) H)] ∧ j + 1 < (eds (lc dk (a + T / 2) W) H).length ∧ (eds (lc dk (a + T / 2) W) H).getD j 0 ≤ y) (fun (j : Nat) => (eds (lc dk (a + T / 2) W) H).length - j) 0 ?_ ?_ ?_
     · exact Sub.cons rfl <| Sub.nil _
     · exact ⟨hM, by omega, by rw [List.getD_eq_getElem?_getD, hc0]; exact Int.natCast_nonneg y⟩
     rintro j w6 ⟨hM, hj1, hj2⟩
     refine C.seq <| C.seq <| C.region <| E.mv rfl rfl <| E.mv rfl rfl <| ?_
     refine E.addN (a := j) (b := 1) rfl rfl (by omega) rfl ?_
     refine E.get (k := j + 1) rfl rfl (hM.sl 3 rfl) rfl hj1 Try.underlying45 (by kernel_rfl) Try.underlying3 rfl rfl rfl ?_
     refine E.mv rfl rfl <| E.bin rfl rfl rfl rfl <| E.nil <| X.next <| ?_
     refine C.cond' rfl (fun hC3 => ?_) (fun hC3 => ?_)
     ·
      have hj3 : j + 1 + 1 < (eds (lc dk (a + T / 2) W) H).length := by
       refine Decidable.byContradiction fun hc => ?_
       have hla := eds_last (lc dk (a + T / 2) W) H (j := j + 1) (by omega)
       rw [List.getElem?_eq_getElem hj1] at hla
       have hla := Option.some.inj hla
       rw [hla] at hC3; omega
      refine C.skip <| X.next <| C.block <| C.region <| E.mv rfl rfl <| ?_
      refine E.addN (a := j) (b := 1) rfl rfl (by omega) rfl ?_

      refine E.asg rfl rfl <| E.nil <| X.outN <| X.again1 (j + 1) (Sub.cons rfl <| Sub.nil _) rfl ⟨hM, hj3, by rw [← geD hj1]; exact hC3⟩ (by omega)
     ·
      have hrn : rn (eds (lc dk (a + T / 2) W) H) (y : Int) = j := rn_eq (eds_srt _ _) hj1 (by rw [geD (show j < (eds (lc dk (a + T / 2) W) H).length by omega)]; exact hj2) (by omega)
      refine C.exit <| X.exitT <| X.exitT <| X.outE <| X.next <| C.seq <| C.region <| ?_
      refine E.loadA (cs := [i64 W, i64 H, vd]) rfl Try.underlying37 rfl (by kernel_rfl) (hM.bat 0 rfl) rfl ?_
      refine E.mv rfl rfl <| E.mv rfl rfl <| ?_
      refine E.quo rfl rfl (by omega) (quoN (a := T) (b := 2) (by omega) (by omega)) rfl ?_
      refine E.addN (a := a) (b := T / 2) rfl rfl (by omega) rfl ?_
      refine E.mv rfl rfl <| E.mv rfl rfl <| E.mv rfl rfl <| ?_
      refine E.call rfl rfl (rpat_ret vd v50 dk W H (a + T / 2) j true kd _ (hM.arg0 hr) hW hH hn hn2 (show a + T / 2 < W from hx) (hM.sl 3 rfl) (by omega)) ?_
      rintro v69 w7 ⟨hv69, x7⟩
      have hM := hM.ext x7
      have hrun : rn (eds (lc dk (a + T / 2) W) H) (y : Int) - ((shq kd).length : Int) / 2 = (j : Int) - (sd kd : Nat) := by rw [hrn, hlr]; omega
      obtain ⟨b0, S0, B2, eB2, hB3, hB4⟩ := patR_sh (patv (eds (lc dk (a + T / 2) W) H) (lc dk (a + T / 2) W 0) kd (shq kd) ((j : Int) - (sd kd : Nat)))
      obtain rfl := hv69.trans eB2
      try dsimp only [Za, Zb, Zc, Zd, repl] at hM
      refine E.mv rfl rfl <| E.ext rfl rfl rfl <| E.ext rfl rfl rfl <| E.ext rfl rfl rfl <| E.asg rfl rfl <| E.asg rfl rfl <| E.asg rfl rfl <| E.nil <| X.next <| ?_

      refine C.cut0 [(1, _), (2, _), (5, _), (6, _), (7, _), (8, _), (9, _), (10, _), (14, _), (15, _)] rfl [(82, .bool (decide ((jud a T y (eds (lc dk (a + T / 2) W) H) (lc dk (a + T / 2) W 0) kd (shq kd)).isSome = true)))] (fun w' => M w (Nn) w' [Rg.blk b2 37 [i64 W, i64 H, vd], Rg.slF mkc 4 24 vl (sgl (allC W H dk (shq kd) kd y (i - sd kd))), Rg.sl i64 3 v25 (eds (lc dk (y * W) 1) W), Rg.sl i64 3 v50 (eds (lc dk (a + T / 2) W) H)]) ?_ ?_
      ·
       refine C.region <| E.mv rfl rfl <| E.mv rfl rfl <| ?_
       refine E.split 74 rfl (fun g74 => ?_) (fun g74 => ?_)
       ·
        try simp only [Ya, Yb, Yc, Yd, Ye, Yf] at g74
        have hpb := hB3 (by simpa using g74)
        have hpc := patv_T hpb (by omega)
        have hjt := fun q => jud_t (b := (a : Int)) (T := (T : Int)) (y := (y : Int)) (by rw [hrun]; exact hpb) q
        have hjf := fun q => jud_f (b := (a : Int)) (T := (T : Int)) (y := (y : Int)) (by rw [hrun]; exact hpb) q
        refine E.on rfl rfl (E.mv rfl rfl ?_)
        refine E.on rfl rfl (E.mv rfl rfl ?_)
        refine E.on rfl rfl (E.sub' rfl rfl (by omega) rfl ?_)
        refine E.on rfl rfl (E.call rfl rfl (rabs_ret ((T : Int) - S0) _ (by omega)) ?_)
        rintro _ w8 ⟨rfl, x8⟩
        have hM := hM.ext x8
        try dsimp only [Za, Zb, Zc, Zd, repl] at hM
        refine E.on rfl rfl (E.mul rfl rfl (by omega) rfl ?_)
        refine E.on rfl rfl (E.mv rfl rfl ?_)
        refine E.on rfl rfl (E.bin rfl rfl rfl rfl ?_)

        refine E.pick rfl rfl rfl <| E.nil <| X.join0  (Sub.cons (look_eq rfl (congrArg Value.bool (by by_cases z : (T : Int) < 4 * max ((T : Int) - S0) (S0 - (T : Int)); rw [hjf z]; exact decide_eq_decide.2 ⟨fun q => by omega, fun q => by cases q⟩; rw [hjt z]; exact decide_eq_decide.2 ⟨fun _ => rfl, fun _ => by omega⟩))) <| Sub.nil _) rfl hM
       ·
        try simp only [Ya, Yb, Yc, Yd, Ye, Yf] at g74
        have hjn := jud_n (b := (a : Int)) (T := (T : Int)) (y := (y : Int)) (by rw [hrun]; exact hB4 (by simpa using g74))

        refine E.off rfl rfl rfl rfl <| E.off rfl rfl rfl rfl <| E.off rfl rfl rfl rfl <| E.off rfl rfl rfl rfl <| E.off rfl rfl rfl rfl <| E.off rfl rfl rfl rfl <| E.off rfl rfl rfl rfl <| E.pick rfl rfl rfl <| E.nil <| X.join0  (Sub.cons (look_eq rfl (congrArg Value.bool (by rw [hjn]; rfl))) <| Sub.nil _) rfl hM
      rintro  w9 hM
      refine C.cond' rfl (fun hC4 => ?_) (fun hC4 => ?_)
      ·
       obtain ⟨m, hm⟩ := Option.isSome_iff_exists.1 hC4
       have hpb : patv (eds (lc dk (a + T / 2) W) H) (lc dk (a + T / 2) W 0) kd (shq kd) ((j : Int) - (sd kd : Nat)) = some (b0, S0) := by
        cases hb : B2 with
        | true => exact hB3 hb
        | false => rw [jud_n (by rw [hrun]; exact hB4 hb)] at hm; cases hm
       have hpc := patv_T hpb (by omega)
       have hme : m = ⟨14 * (a : Int) + 7 * T, 14 * b0 + 7 * S0, T + S0, 1⟩ := by
        by_cases z : (T : Int) < 4 * max ((T : Int) - S0) (S0 - (T : Int))
        · rw [jud_f (by rw [hrun]; exact hpb) z] at hm; cases hm
        · rw [jud_t (by rw [hrun]; exact hpb) z] at hm; exact (Option.some.inj hm).symm
       rw [hm] at hmid
       refine C.region <| E.mv rfl rfl <| E.mv rfl rfl <| ?_
       refine E.mul rfl rfl (by omega) rfl ?_
       refine E.mv rfl rfl <| ?_
       refine E.mul rfl rfl (by omega) rfl ?_
       refine E.add rfl rfl (by omega) rfl ?_
       refine E.mv rfl rfl <| ?_
       refine E.mul rfl rfl (by omega) rfl ?_
       refine E.mv rfl rfl <| ?_
       refine E.mul rfl rfl (by omega) rfl ?_
       refine E.add rfl rfl (by omega) rfl ?_
       refine E.mv rfl rfl <| E.mv rfl rfl <| ?_
       refine E.add rfl rfl (by omega) rfl ?_
       refine E.buildC (cs := [_, _, _, _]) [.int .i64 0, .int .i64 0, .int .i64 0, .int .i64 0] [0, 1, 2, 3] rfl rfl (by kernel_rfl) rfl ?_
       refine E.pushFM 1 m hM rfl rfl (by rw [hme]; rfl) Try.underlying22 elem_Tapi_Mark rfl (by decide) (ones rfl <| ones rfl <| ones rfl <| ones rfl <| ones_nil) (by omega) (by omega) (by simp) rfl rfl ?_
       intro v99 u99 w10 hM
       try dsimp only [Za, Zb, Zc, Zd, repl] at hM

       refine E.asg rfl rfl <| E.nil <| X.outN <| X.join1 _ (Sub.cons rfl <| Sub.nil _) rfl (by rw [hmid, sgl_app]; exact hM.pick [0, 1, 2] (by decide))
      ·
       have hm : (jud a T y (eds (lc dk (a + T / 2) W) H) (lc dk (a + T / 2) W 0) kd (shq kd)) = none := Option.not_isSome_iff_eq_none.1 hC4
       rw [hm] at hmid

       refine C.skip <| X.outN <| X.join1 vl (Sub.cons rfl <| Sub.nil _) rfl (by rw [hmid, sgl_app, show sgl [none] = [] from rfl, List.append_nil]; exact hM.pick [0, 1, 2] (by decide))
   rintro vl w11 hM
   refine C.region <| E.mv rfl rfl <| ?_
   refine E.addN (a := i) (b := 1) rfl rfl (by omega) rfl ?_

   refine E.asg rfl rfl <| E.nil <| X.again2 (i + 1) _ (Sub.cons rfl <| Sub.cons rfl <| Sub.nil _) rfl ⟨hM, by omega⟩ (by omega)
  ·
   rw [allC_end (show i + 1 = (eds (lc dk (y * W) 1) W).length by omega)] at hM
   refine C.exit <| X.exitT <| X.exitT <| X.outE <| X.outN <| X.next <| C.region <| E.mv rfl rfl <| ?_
   refine E.addN (a := y) (b := 1) rfl rfl (by omega) rfl ?_

   refine E.asg rfl rfl <| E.nil <| X.again2 (y + 1) _ (Sub.cons rfl <| Sub.cons rfl <| Sub.nil _) rfl ⟨hM.pick [0, 1] (by decide), by omega⟩ (by omega)
 ·
  obtain rfl : y = H := by omega
  refine C.exit <| X.exitT <| X.exitT <| X.outE <| X.next <| C.seq <| C.region <| E.mv rfl rfl <| E.asg rfl rfl <| E.nil <| X.next <| C.ret <| ret1 rfl rfl ?_
  exact (hM.pick [1] (by decide))
end Go.Proofs.Ytbinlkobmlebpaa
