/- finder: the reference's marks. -/
import Derived.Test.YtbinlkobmlebpaaC0
import Derived.Test.YtbinlkobmlebpaaFd21C
import Derived.Test.YtbinlkobmlebpaaFd24C
import Derived.Test.YtbinlkobmlebpaaSymFC
set_option linter.unusedSimpArgs false
set_option linter.unusedVariables false
namespace Go.Proofs.Ytbinlkobmlebpaa
open Go.RowKit Sym
open Fi
theorem mk_one : ∀ (a : Mk), ∀ x ∈ mkc a, x.oneCell' = true := fun a x h => by
 unfold mkc at h
 rcases List.mem_cons.1 h with rfl | h
 · rfl
 rcases List.mem_cons.1 h with rfl | h
 · rfl
 rcases List.mem_cons.1 h with rfl | h
 · rfl
 rcases List.mem_cons.1 h with rfl | h
 · rfl
 cases h
theorem keyD {l : List Mk} {k : Nat} (h : k < l.length) : (l.map key).getD k 0 = key l[k] := by
 rw [List.getD_eq_getElem?_getD, List.getElem?_map, List.getElem?_eq_getElem h]; rfl
set_option maxHeartbeats 1000000 in
theorem rinsert_ret (p : Value) (l : List Mk) (x : Mk) (w : World) (hr : RdF mkc 4 w p l) (hl : l.length ≤ 1000000) (hb : ∀ m ∈ l, bdm m) (hx : bdm x) :
  Ret Try.prog 87 #[p, mkv x] w fun v w' => M w Nn w' [Rg.slF mkc 4 24 v (ins key x l)] := by
 have hM := M.start w
 refine enter Try.func87 rfl (by kernel_rfl) Try.ntmps87 rfl ?_
 refine C.seq <| C.region <| ?_
 refine E.boxM (cs := mkc x) hM rfl rfl rfl ?_
 intro b3 w0 hM
 try dsimp only [Za, Zb, Zc, Zd, repl] at hM
 refine E.asg rfl rfl <| E.nil <| X.next <| C.seq <| C.region <| E.mv rfl rfl <| ?_
 refine E.lenv rfl (RdF.shape (hM.argF0 hr)) Try.underlying22 rfl ?_
 refine E.asg rfl rfl <| E.nil <| X.next <| C.seq <| C.block <| ?_

 refine C.loop1 [(0, _), (3, _)] rfl (fun (k : Nat) => [(5, i64 k)]) (fun (k : Nat) w' => M w (Nn) w' [Rg.blk b3 24 (Fi.mkc x)] ∧ k ≤ l.length ∧ pos (key x) (l.map key) l.length = pos (key x) (l.map key) k) (fun (k : Nat) => k) l.length ?_ ?_ ?_
 · exact Sub.cons rfl <| Sub.nil _
 · exact ⟨hM, Nat.le_refl _, rfl⟩
 rintro k w1 ⟨hM, hk, hp⟩
 refine C.seq <| ?_

 refine C.chainQ [(0, _), (3, _), (5, _)] rfl [(43, .bool (decide (0 < k ∧ key x < (l.map key).getD (k - 1) 0)))] ?_ ?_
 ·
  refine C.drawn (by kernel_rfl) (by kernel_rfl) <| Q.mv rfl rfl <| Q.bin rfl rfl rfl rfl <| Q.mv rfl rfl <| ?_
  refine Q.split 11 rfl (fun g11 => ?_) (fun g11 => ?_)
  ·
   try simp only [Ya, Yb, Yc, Yd, Ye, Yf] at g11
   have hk0 : k - 1 < l.length := by omega
   have hd : (0 < k ∧ key x < (l.map key).getD (k - 1) 0) ↔ (x.y < l[k - 1].y ∨ (l[k - 1].y = x.y ∧ x.x < l[k - 1].x)) := by
    rw [keyD hk0, key_lt hx (hb _ (List.getElem_mem hk0))]; exact ⟨fun q => q.2, fun q => ⟨by omega, q⟩⟩
   refine Q.on rfl rfl (Q.mv rfl rfl ?_)
   refine Q.on rfl rfl (Q.mv rfl rfl ?_)
   refine Q.on rfl rfl (Q.subN (a := k) (b := 1) rfl rfl (by omega) rfl ?_)
   refine Q.on rfl rfl (Q.idxF (k := k - 1) rfl rfl (hM.argF0 hr) rfl hk0 (by decide) Try.underlying22 (by kernel_rfl) rfl ?_)
   refine Q.on rfl rfl (Q.fld (o := 1) (sz := 0) rfl Try.underlying24 rfl rfl (by kernel_rfl) rfl ?_)
   refine Q.on rfl rfl (Q.load rfl Try.underlying3 rfl ((hM.argF0 hr).atA (k := k - 1) (o := 1) rfl hk0 rfl) rfl ?_)
   refine Q.on rfl rfl (Q.fld (o := 1) (sz := 0) rfl Try.underlying24 rfl rfl (by kernel_rfl) rfl ?_)
   refine Q.on rfl rfl (Q.load rfl Try.underlying3 rfl (hM.bcell 0 rfl rfl) rfl ?_)
   refine Q.on rfl rfl (Q.bin rfl rfl rfl rfl ?_)
   refine Q.on rfl rfl (Q.mv rfl rfl ?_)
   refine Q.split 21 rfl (fun g21 => ?_) (fun g21 => ?_)
   ·
    try simp only [Ya, Yb, Yc, Yd, Ye, Yf] at g21
    refine Q.off rfl rfl rfl rfl <| Q.off rfl rfl rfl rfl <| Q.off rfl rfl rfl rfl <| Q.off rfl rfl rfl rfl <| Q.off rfl rfl rfl rfl <| Q.off rfl rfl rfl rfl <| Q.off rfl rfl rfl rfl <| Q.off rfl rfl rfl rfl <| Q.off rfl rfl rfl rfl <| Q.off rfl rfl rfl rfl <| Q.offu rfl rfl rfl <| Q.offu rfl rfl rfl <| Q.offu rfl rfl rfl <| Q.offu rfl rfl rfl <| Q.offu rfl rfl rfl <| Q.offu rfl rfl rfl <| Q.offu rfl rfl rfl <| Q.offu rfl rfl rfl <| Q.offu rfl rfl rfl <| Q.off rfl rfl rfl rfl <| ?_
    refine Q.on rfl rfl (Q.pick rfl rfl rfl ?_)
    refine Q.pick rfl rfl rfl <| Q.nil <| fun w2 hx2 => ?_
    refine X.join0 (Sub.cons (look_eq rfl (congrArg Value.bool (by exact (decide_eq_true (hd.2 (by omega))).symm))) <| Sub.nil _) rfl hx2
   ·
    try simp only [Ya, Yb, Yc, Yd, Ye, Yf] at g21
    refine Q.on rfl rfl (Q.mv rfl rfl ?_)
    refine Q.on rfl rfl (Q.mv rfl rfl ?_)
    refine Q.on rfl rfl (Q.subN (a := k) (b := 1) rfl rfl (by omega) rfl ?_)
    refine Q.on rfl rfl (Q.idxF (k := k - 1) rfl rfl (hM.argF0 hr) rfl hk0 (by decide) Try.underlying22 (by kernel_rfl) rfl ?_)
    refine Q.on rfl rfl (Q.fld (o := 1) (sz := 0) rfl Try.underlying24 rfl rfl (by kernel_rfl) rfl ?_)
    refine Q.on rfl rfl (Q.load rfl Try.underlying3 rfl ((hM.argF0 hr).atA (k := k - 1) (o := 1) rfl hk0 rfl) rfl ?_)
    refine Q.on rfl rfl (Q.fld (o := 1) (sz := 0) rfl Try.underlying24 rfl rfl (by kernel_rfl) rfl ?_)
    refine Q.on rfl rfl (Q.load rfl Try.underlying3 rfl (hM.bcell 0 rfl rfl) rfl ?_)
    refine Q.on rfl rfl (Q.bin rfl rfl rfl rfl ?_)
    refine Q.on rfl rfl (Q.mv rfl rfl ?_)
    refine Q.split 31 rfl (fun g31 => ?_) (fun g31 => ?_)
    ·
     try simp only [Ya, Yb, Yc, Yd, Ye, Yf] at g31
     refine Q.on rfl rfl (Q.mv rfl rfl ?_)
     refine Q.on rfl rfl (Q.mv rfl rfl ?_)
     refine Q.on rfl rfl (Q.subN (a := k) (b := 1) rfl rfl (by omega) rfl ?_)
     refine Q.on rfl rfl (Q.idxF (k := k - 1) rfl rfl (hM.argF0 hr) rfl hk0 (by decide) Try.underlying22 (by kernel_rfl) rfl ?_)
     refine Q.on rfl rfl (Q.fld (o := 0) (sz := 0) rfl Try.underlying24 rfl rfl (by kernel_rfl) rfl ?_)
     refine Q.on rfl rfl (Q.load rfl Try.underlying3 rfl ((hM.argF0 hr).atA (k := k - 1) (o := 0) rfl hk0 rfl) rfl ?_)
     refine Q.on rfl rfl (Q.fld (o := 0) (sz := 0) rfl Try.underlying24 rfl rfl (by kernel_rfl) rfl ?_)
     refine Q.on rfl rfl (Q.load rfl Try.underlying3 rfl (hM.bcell 0 rfl rfl) rfl ?_)
     refine Q.on rfl rfl (Q.bin rfl rfl rfl rfl ?_)
     refine Q.on rfl rfl (Q.pick rfl rfl rfl ?_)
     refine Q.on rfl rfl (Q.pick rfl rfl rfl ?_)
     refine Q.pick rfl rfl rfl <| Q.nil <| fun w3 hx3 => ?_
     refine X.join0 (Sub.cons (look_eq rfl (congrArg Value.bool (by exact decide_eq_decide.2 ⟨fun q => hd.2 (by omega), fun q => by have := hd.1 q; omega⟩))) <| Sub.nil _) rfl hx3
    ·
     try simp only [Ya, Yb, Yc, Yd, Ye, Yf] at g31
     refine Q.off rfl rfl rfl rfl <| Q.off rfl rfl rfl rfl <| Q.off rfl rfl rfl rfl <| Q.off rfl rfl rfl rfl <| Q.off rfl rfl rfl rfl <| Q.off rfl rfl rfl rfl <| Q.off rfl rfl rfl rfl <| Q.off rfl rfl rfl rfl <| Q.off rfl rfl rfl rfl <| ?_
     refine Q.on rfl rfl (Q.pick rfl rfl rfl ?_)
     refine Q.on rfl rfl (Q.pick rfl rfl rfl ?_)
     refine Q.pick rfl rfl rfl <| Q.nil <| fun w4 hx4 => ?_
     refine X.join0 (Sub.cons (look_eq rfl (congrArg Value.bool (by exact (decide_eq_false (fun q => by have := hd.1 q; omega)).symm))) <| Sub.nil _) rfl hx4
  ·
   try simp only [Ya, Yb, Yc, Yd, Ye, Yf] at g11
   refine Q.off rfl rfl rfl rfl <| Q.off rfl rfl rfl rfl <| Q.off rfl rfl rfl rfl <| Q.off rfl rfl rfl rfl <| Q.off rfl rfl rfl rfl <| Q.off rfl rfl rfl rfl <| Q.off rfl rfl rfl rfl <| Q.off rfl rfl rfl rfl <| Q.off rfl rfl rfl rfl <| Q.off rfl rfl rfl rfl <| Q.offu rfl rfl rfl <| Q.offu rfl rfl rfl <| Q.offu rfl rfl rfl <| Q.offu rfl rfl rfl <| Q.offu rfl rfl rfl <| Q.offu rfl rfl rfl <| Q.offu rfl rfl rfl <| Q.offu rfl rfl rfl <| Q.offu rfl rfl rfl <| Q.offu rfl rfl rfl <| Q.offu rfl rfl rfl <| Q.offu rfl rfl rfl <| Q.offu rfl rfl rfl <| Q.offu rfl rfl rfl <| Q.offu rfl rfl rfl <| Q.offu rfl rfl rfl <| Q.offu rfl rfl rfl <| Q.offu rfl rfl rfl <| Q.offu rfl rfl rfl <| Q.offu rfl rfl rfl <| Q.off rfl rfl rfl rfl <| Q.pick rfl rfl rfl <| Q.nil <| fun w5 hx5 => ?_
   refine X.join0 (Sub.cons (look_eq rfl (congrArg Value.bool (by exact (decide_eq_false (fun q => by omega)).symm))) <| Sub.nil _) rfl hx5
 intro w6 hx6
 have hM := hM.ext hx6
 refine C.cond' rfl (fun hC0 => ?_) (fun hC0 => ?_)
 ·
  obtain ⟨k, rfl⟩ : ∃ k', k = k' + 1 := ⟨k - 1, by omega⟩
  rw [Nat.add_sub_cancel] at hC0
  refine C.skip <| X.next <| C.block <| C.region <| E.mv rfl rfl <| ?_
  refine E.subN (b := 1) rfl rfl (by omega) rfl ?_

  refine E.asg rfl rfl <| E.nil <| X.outN <| X.again1 k (Sub.cons rfl <| Sub.nil _) rfl ⟨hM, by omega, by rw [hp, pos, if_pos hC0.2]⟩ (by omega)
 ·
  have hpk : pos (key x) (l.map key) l.length = k := by
   rw [hp]
   cases k with
   | zero => rfl
   | succ k => rw [pos, if_neg (show ¬ key x < (l.map key).getD k 0 from fun h => hC0 ⟨by omega, h⟩)]
  have hM := hM.nilF mkc 4 24
  refine C.exit <| X.exitT <| X.exitT <| X.outE <| X.next <| C.seq <| C.region <| E.asg rfl rfl <| E.nil <| X.next <| C.seq <| C.region <| E.mv rfl rfl <| E.mv rfl rfl <| E.mv rfl rfl <| ?_
  refine E.slcF (k := .i64) (k' := .i64) 0 k rfl (.inr ⟨rfl, rfl⟩) (.inl rfl) (hM.argF0 hr) Try.underlying22 (by kernel_rfl) (Nat.zero_le _) hk rfl ?_
  intro v27 p27 r27
  rw [cut0] at r27
  refine E.appendFM 1 hM rfl rfl rfl Try.underlying22 elem_Tapi_Mark r27 mk_one (by rw [List.length_take, List.length_nil]; omega) (by rw [List.length_take, List.length_nil]; omega) rfl ?_
  intro v50 w7 hM
  try dsimp only [Za, Zb, Zc, Zd, repl] at hM
  have hlt : (l.take k).length = k := by rw [List.length_take]; omega
  refine E.asg rfl rfl <| E.nil <| X.next <| C.seq <| C.region <| E.mv rfl rfl <| ?_
  refine E.loadA (cs := mkc x) rfl Try.underlying24 rfl (by kernel_rfl) (hM.bat 0 rfl) rfl ?_
  refine E.pushFM 1 x hM rfl rfl rfl Try.underlying22 elem_Tapi_Mark rfl (by decide) (mk_one x) (by omega) (by omega) (by simp) rfl rfl ?_
  intro v54 u54 w8 hM
  try dsimp only [Za, Zb, Zc, Zd, repl] at hM
  refine E.asg rfl rfl <| E.nil <| X.next <| C.seq <| C.region <| E.mv rfl rfl <| E.mv rfl rfl <| E.mv rfl rfl <| ?_
  refine E.slcF (k := .i64) (k' := .i64) k l.length rfl (.inl rfl) (.inr ⟨rfl, rfl⟩) (hM.argF0 hr) Try.underlying22 (by kernel_rfl) hk (Nat.le_refl _) rfl ?_
  intro v36 p36 r36
  rw [cutE] at r36
  have hld : (l.drop k).length = l.length - k := List.length_drop
  refine E.appendFM 1 hM rfl rfl rfl Try.underlying22 elem_Tapi_Mark r36 mk_one (by simp only [List.length_append, List.length_singleton]; omega) (by simp only [List.length_append, List.length_singleton]; omega) rfl ?_
  intro v59 w9 hM
  try dsimp only [Za, Zb, Zc, Zd, repl] at hM
  refine E.asg rfl rfl <| E.nil <| X.next <| C.ret <| ret1 rfl rfl ?_
  exact (by
    have hins : l.take k ++ [x] ++ l.drop k = ins key x l := by rw [ins, hpk]; simp only [List.append_assoc, List.cons_append, List.nil_append]
    rw [← hins]; exact hM.pick [1] (by decide))
set_option maxHeartbeats 4000000 in
theorem rmarks_ret (W0 H0 : Int) (vd : Value) (dk : List Bool) (kd : Bool) (w : World) (hr : RdL Value.bool w vd dk) :
  Ret Try.prog 62 #[mat W0 H0 vd, i64 (sd kd : Nat)] w fun v w' => MrkV W0 H0 dk kd w w' v := by
 have hM := M.start w
 refine enter Try.func62 rfl (by kernel_rfl) Try.ntmps62 rfl ?_
 refine C.seq <| C.region <| ?_
 refine E.boxM (cs := [i64 W0, i64 H0, vd]) hM rfl (by obtain ⟨a, cap, rfl, _⟩ := hr; rfl) rfl ?_
 intro b2 w0 hM
 try dsimp only [Za, Zb, Zc, Zd, repl] at hM
 refine E.asg rfl rfl <| E.asg rfl rfl <| E.nil <| X.next <| C.seq <| C.seq <| C.region <| ?_
 refine E.loadA (cs := [i64 W0, i64 H0, vd]) rfl Try.underlying37 rfl (by kernel_rfl) (hM.bat 0 rfl) rfl ?_
 refine E.call rfl rfl (Sound_ret W0 H0 vd dk _ (hM.arg0 hr)) ?_
 rintro _ w1 ⟨rfl, x1⟩
 have hM := hM.ext x1
 try dsimp only [Za, Zb, Zc, Zd, repl] at hM
 refine E.not rfl rfl <| E.nil <| X.next <| ?_
 refine C.cond rfl (fun hC0 => ?_) (fun hC0 => ?_)
 ·
  have hno : ¬ okMat W0 H0 dk.length := fun h => by simp [h] at hC0
  refine C.seq <| C.region <| E.asg rfl rfl <| E.asg rfl rfl <| E.nil <| X.next <| C.ret <| X.retT <| ret2 rfl rfl rfl ?_
  exact .inl ⟨hno, rfl, hM.toExt⟩
 ·
  have hok : okMat W0 H0 dk.length := Decidable.byContradiction fun h => by simp [h] at hC0
  obtain ⟨W, H, rfl, rfl, ha1, ha2, hb1, hb2, hn, hn2⟩ := okMat_nat hok
  refine C.skip <| X.next <| C.seq <| C.region <| ?_
  refine E.loadA (cs := [i64 W, i64 H, vd]) rfl Try.underlying37 rfl (by kernel_rfl) (hM.bat 0 rfl) rfl ?_
  refine E.mv rfl rfl <| ?_
  refine E.call rfl rfl (sight_ret vd dk W H kd _ (hM.arg0 hr) ⟨ha1, ha2⟩ ⟨hb1, hb2⟩ hn hn2) ?_
  rintro v17 w2 m2
  have hM := hM.call m2
  have hff := fold_full (allC W H dk (shq kd) kd H 0) [] (by decide)
  have hmk : mrk W H dk (shq kd) kd = fold [] (allC W H dk (shq kd) kd H 0) := rfl
  have hsn : (sgl (allC W H dk (shq kd) kd H 0)).length ≤ 20000000 := by
   have h1 := sgl_len (allC W H dk (shq kd) kd H 0)
   have h2 := allC_len W H dk (shq kd) kd H 0
   have h3 : H * (W + 1) ≤ 4096 * 4097 := Nat.mul_le_mul (by omega) (by omega)
   omega
  have hsb : ∀ m ∈ sgl (allC W H dk (shq kd) kd H 0), mbd 1 m := fun m hm => by
   obtain ⟨o, ho, he⟩ := List.mem_filterMap.1 hm
   exact allC_bd ha2 hb2 (by rw [shq_len]; omega) o ho m he
  rw [← hmk] at hff
  generalize sgl (allC W H dk (shq kd) kd H 0) = ss at hM hff hsn hsb
  try dsimp only [Za, Zb, Zc, Zd, repl] at hM
  refine E.asg rfl rfl <| E.nil <| X.next <| C.seq <| C.region <| E.asg rfl rfl <| E.asg rfl rfl <| E.nil <| X.next <| C.seq <| C.seq <| C.region <| E.asg rfl rfl <| E.nil <| X.next <| C.block <| ?_
  have hM := (hM.pick [1] (by decide)).nilF mkc 4 24
  try dsimp only [Za, Zb, Zc, Zd, repl] at hM

  refine C.loop2 [(6, _), (8, _)] rfl (fun (i : Nat) (vl : Value) => [(7, vl), (9, i64 i)]) (fun (i : Nat) (vl : Value) w' => M w (Nn) w' [Rg.slF mkc 4 24 v17 ss, Rg.slF mkc 4 24 vl (addAll [] (ss.take i))] ∧ i ≤ ss.length ∧ ∀ m ∈ addAll [] (ss.take i), mbd i m) (fun (i : Nat) (vl : Value) => ss.length - i) 0 nls ?_ ?_ ?_
  · exact Sub.cons rfl <| Sub.cons rfl <| Sub.nil _
  · exact ⟨hM, Nat.zero_le _, fun m h => by cases h⟩
  rintro i vl w3 ⟨hM, hi, hb⟩
  refine C.seq <| C.seq <| C.region <| E.mv rfl rfl <| E.mv rfl rfl <| ?_
  refine E.lenv rfl (RdF.shape (hM.slF 0 rfl)) Try.underlying22 rfl ?_
  refine E.bin rfl rfl rfl rfl <| E.nil <| X.next <| ?_
  refine C.cond' rfl (fun hC1 => ?_) (fun hC1 => ?_)
  ·
   have hi' : i < ss.length := by omega
   have hln := addAll_len (ss.take i) []
   rw [List.length_take] at hln
   have hnx : addAll [] (ss.take (i + 1)) = addM (addAll [] (ss.take i)) ss[i] := by rw [← List.take_append_getElem hi', addAll_snoc]
   generalize addAll [] (ss.take i) = l at hM hb hnx hln
   simp only [List.length_nil] at hln
   have hsi := hsb _ (List.getElem_mem hi')
   have hbx : ∀ m ∈ addM l ss[i], mbd ((i + 1 : Nat) : Int) m := fun m hm => by
    have := stp_mbd (o := some ss[i]) hb (fun q hq => by cases hq; exact mbd_le hsi (by omega)) m hm
    exact mbd_le this (by omega)
   refine C.skip <| X.next <| ?_

   refine C.cut1 [(6, _), (8, _), (9, _)] rfl (fun (vl : Value) => [(7, vl)]) (fun (vl : Value) w' => M w (Nn) w' [Rg.slF mkc 4 24 v17 ss, Rg.slF mkc 4 24 vl (addM l ss[i])]) ?_ ?_
   ·
    refine C.block <| C.seq <| C.region <| E.asg rfl rfl <| E.nil <| X.next <| C.seq <| C.block <| ?_

    refine C.loop1 [(6, _), (7, _), (8, _), (9, _)] rfl (fun (k : Nat) => [(10, i64 k)]) (fun (k : Nat) w' => M w (Nn) w' [Rg.slF mkc 4 24 v17 ss, Rg.slF mkc 4 24 vl l] ∧ k ≤ l.length ∧ ∀ j (h : j < l.length), j < k → ¬ nearM l[j] ss[i].x ss[i].y) (fun (k : Nat) => l.length - k) 0 ?_ ?_ ?_
    · exact Sub.cons rfl <| Sub.nil _
    · exact ⟨hM, Nat.zero_le _, fun j h h0 => absurd h0 (Nat.not_lt_zero _)⟩
    rintro k w4 ⟨hM, hk, hfar⟩
    refine C.seq <| ?_

    refine C.chainQ [(6, _), (7, _), (8, _), (9, _), (10, _)] rfl [(67, .bool (decide (k < l.length ∧ ¬ nearM (l.getD k ⟨0, 0, 0, 0⟩) ss[i].x ss[i].y)))] ?_ ?_
    ·
     refine C.drawn (by kernel_rfl) (by kernel_rfl) <| Q.mv rfl rfl <| Q.mv rfl rfl <| ?_
     refine Q.lenv rfl (RdF.shape (hM.slF 1 rfl)) Try.underlying22 rfl ?_
     refine Q.bin rfl rfl rfl rfl <| Q.mv rfl rfl <| ?_
     refine Q.split 28 rfl (fun g28 => ?_) (fun g28 => ?_)
     ·
      try simp only [Ya, Yb, Yc, Yd, Ye, Yf] at g28
      have hk' : k < l.length := by omega
      have hlk := hb _ (List.getElem_mem hk')
      have hd : (k < l.length ∧ ¬ nearM (l.getD k ⟨0, 0, 0, 0⟩) ss[i].x ss[i].y) ↔ (l[k].s < max (l[k].x - ss[i].x) (-(l[k].x - ss[i].x)) ∨ l[k].s < max (l[k].y - ss[i].y) (-(l[k].y - ss[i].y))) := by
       rw [List.getD_eq_getElem?_getD, List.getElem?_eq_getElem hk', Option.getD_some]; unfold nearM; omega
      unfold mbd at hlk hsi
      refine Q.on rfl rfl (Q.mv rfl rfl ?_)
      refine Q.on rfl rfl (Q.mv rfl rfl ?_)
      refine Q.on rfl rfl (Q.idxF (k := k) rfl rfl (hM.slF 1 rfl) rfl hk' (by decide) Try.underlying22 (by kernel_rfl) rfl ?_)
      refine Q.on rfl rfl (Q.fld (o := 0) (sz := 0) rfl Try.underlying24 rfl rfl (by kernel_rfl) rfl ?_)
      refine Q.on rfl rfl (Q.load rfl Try.underlying3 rfl ((hM.slF 1 rfl).atA (k := k) (o := 0) rfl hk' rfl) rfl ?_)
      refine Q.on rfl rfl (Q.mv rfl rfl ?_)
      refine Q.on rfl rfl (Q.mv rfl rfl ?_)
      refine Q.on rfl rfl (Q.idxF (k := i) rfl rfl (hM.slF 0 rfl) rfl hi' (by decide) Try.underlying22 (by kernel_rfl) rfl ?_)
      refine Q.on rfl rfl (Q.fld (o := 0) (sz := 0) rfl Try.underlying24 rfl rfl (by kernel_rfl) rfl ?_)
      refine Q.on rfl rfl (Q.load rfl Try.underlying3 rfl ((hM.slF 0 rfl).atA (k := i) (o := 0) rfl hi' rfl) rfl ?_)
      refine Q.on rfl rfl (Q.sub' rfl rfl (by omega) rfl ?_)
      refine Q.on rfl rfl (Q.call (v := i64 (max (l[k].x - ss[i].x) (-(l[k].x - ss[i].x)))) rfl rfl (fun w' hw' => rabs_ret _ w' (by omega)) ?_)
      refine Q.on rfl rfl (Q.mv rfl rfl ?_)
      refine Q.on rfl rfl (Q.mv rfl rfl ?_)
      refine Q.on rfl rfl (Q.idxF (k := k) rfl rfl (hM.slF 1 rfl) rfl hk' (by decide) Try.underlying22 (by kernel_rfl) rfl ?_)
      refine Q.on rfl rfl (Q.fld (o := 2) (sz := 0) rfl Try.underlying24 rfl rfl (by kernel_rfl) rfl ?_)
      refine Q.on rfl rfl (Q.load rfl Try.underlying3 rfl ((hM.slF 1 rfl).atA (k := k) (o := 2) rfl hk' rfl) rfl ?_)
      refine Q.on rfl rfl (Q.bin rfl rfl rfl rfl ?_)
      refine Q.on rfl rfl (Q.mv rfl rfl ?_)
      refine Q.split 47 rfl (fun g47 => ?_) (fun g47 => ?_)
      ·
       try simp only [Ya, Yb, Yc, Yd, Ye, Yf] at g47
       refine Q.off rfl rfl rfl rfl <| Q.off rfl rfl rfl rfl <| Q.off rfl rfl rfl rfl <| Q.off rfl rfl rfl rfl <| Q.off rfl rfl rfl rfl <| Q.off rfl rfl rfl rfl <| Q.off rfl rfl rfl rfl <| Q.off rfl rfl rfl rfl <| Q.off rfl rfl rfl rfl <| Q.off rfl rfl rfl rfl <| Q.off rfl rfl rfl rfl <| Q.off rfl rfl rfl rfl <| Q.off rfl rfl rfl rfl <| Q.off rfl rfl rfl rfl <| Q.off rfl rfl rfl rfl <| Q.off rfl rfl rfl rfl <| Q.off rfl rfl rfl rfl <| Q.off rfl rfl rfl rfl <| ?_
       refine Q.on rfl rfl (Q.pick rfl rfl rfl ?_)
       refine Q.pick rfl rfl rfl <| Q.nil <| fun w5 hx5 => ?_
       refine X.join0 (Sub.cons (look_eq rfl (congrArg Value.bool (by exact (decide_eq_true (hd.2 (by omega))).symm))) <| Sub.nil _) rfl hx5
      ·
       try simp only [Ya, Yb, Yc, Yd, Ye, Yf] at g47
       refine Q.on rfl rfl (Q.mv rfl rfl ?_)
       refine Q.on rfl rfl (Q.mv rfl rfl ?_)
       refine Q.on rfl rfl (Q.idxF (k := k) rfl rfl (hM.slF 1 rfl) rfl hk' (by decide) Try.underlying22 (by kernel_rfl) rfl ?_)
       refine Q.on rfl rfl (Q.fld (o := 1) (sz := 0) rfl Try.underlying24 rfl rfl (by kernel_rfl) rfl ?_)
       refine Q.on rfl rfl (Q.load rfl Try.underlying3 rfl ((hM.slF 1 rfl).atA (k := k) (o := 1) rfl hk' rfl) rfl ?_)
       refine Q.on rfl rfl (Q.mv rfl rfl ?_)
       refine Q.on rfl rfl (Q.mv rfl rfl ?_)
       refine Q.on rfl rfl (Q.idxF (k := i) rfl rfl (hM.slF 0 rfl) rfl hi' (by decide) Try.underlying22 (by kernel_rfl) rfl ?_)
       refine Q.on rfl rfl (Q.fld (o := 1) (sz := 0) rfl Try.underlying24 rfl rfl (by kernel_rfl) rfl ?_)
       refine Q.on rfl rfl (Q.load rfl Try.underlying3 rfl ((hM.slF 0 rfl).atA (k := i) (o := 1) rfl hi' rfl) rfl ?_)
       refine Q.on rfl rfl (Q.sub' rfl rfl (by omega) rfl ?_)
       refine Q.on rfl rfl (Q.call (v := i64 (max (l[k].y - ss[i].y) (-(l[k].y - ss[i].y)))) rfl rfl (fun w' hw' => rabs_ret _ w' (by omega)) ?_)
       refine Q.on rfl rfl (Q.mv rfl rfl ?_)
       refine Q.on rfl rfl (Q.mv rfl rfl ?_)
       refine Q.on rfl rfl (Q.idxF (k := k) rfl rfl (hM.slF 1 rfl) rfl hk' (by decide) Try.underlying22 (by kernel_rfl) rfl ?_)
       refine Q.on rfl rfl (Q.fld (o := 2) (sz := 0) rfl Try.underlying24 rfl rfl (by kernel_rfl) rfl ?_)
       refine Q.on rfl rfl (Q.load rfl Try.underlying3 rfl ((hM.slF 1 rfl).atA (k := k) (o := 2) rfl hk' rfl) rfl ?_)
       refine Q.on rfl rfl (Q.bin rfl rfl rfl rfl ?_)
       refine Q.on rfl rfl (Q.pick rfl rfl rfl ?_)
       refine Q.pick rfl rfl rfl <| Q.nil <| fun w6 hx6 => ?_
       refine X.join0 (Sub.cons (look_eq rfl (congrArg Value.bool (by exact decide_eq_decide.2 ⟨fun q => hd.2 (by omega), fun q => by have := hd.1 q; omega⟩))) <| Sub.nil _) rfl hx6
     ·
      try simp only [Ya, Yb, Yc, Yd, Ye, Yf] at g28
      refine Q.off rfl rfl rfl rfl <| Q.off rfl rfl rfl rfl <| Q.off rfl rfl rfl rfl <| Q.off rfl rfl rfl rfl <| Q.off rfl rfl rfl rfl <| Q.off rfl rfl rfl rfl <| Q.off rfl rfl rfl rfl <| Q.off rfl rfl rfl rfl <| Q.off rfl rfl rfl rfl <| Q.off rfl rfl rfl rfl <| Q.off rfl rfl rfl rfl <| Q.off rfl rfl rfl rfl <| Q.off rfl rfl rfl rfl <| Q.off rfl rfl rfl rfl <| Q.off rfl rfl rfl rfl <| Q.off rfl rfl rfl rfl <| Q.off rfl rfl rfl rfl <| Q.off rfl rfl rfl rfl <| Q.off rfl rfl rfl rfl <| Q.offu rfl rfl rfl <| Q.offu rfl rfl rfl <| Q.offu rfl rfl rfl <| Q.offu rfl rfl rfl <| Q.offu rfl rfl rfl <| Q.offu rfl rfl rfl <| Q.offu rfl rfl rfl <| Q.offu rfl rfl rfl <| Q.offu rfl rfl rfl <| Q.offu rfl rfl rfl <| Q.offu rfl rfl rfl <| Q.offu rfl rfl rfl <| Q.offu rfl rfl rfl <| Q.offu rfl rfl rfl <| Q.offu rfl rfl rfl <| Q.offu rfl rfl rfl <| Q.offu rfl rfl rfl <| Q.offu rfl rfl rfl <| Q.off rfl rfl rfl rfl <| Q.pick rfl rfl rfl <| Q.nil <| fun w7 hx7 => ?_
      refine X.join0 (Sub.cons (look_eq rfl (congrArg Value.bool (by exact (decide_eq_false (fun q => by omega)).symm))) <| Sub.nil _) rfl hx7
    intro w8 hx8
    have hM := hM.ext hx8
    refine C.cond' rfl (fun hC2 => ?_) (fun hC2 => ?_)
    ·
     refine C.skip <| X.next <| C.block <| C.region <| E.mv rfl rfl <| ?_
     refine E.addN (a := k) (b := 1) rfl rfl (by omega) rfl ?_

     refine E.asg rfl rfl <| E.nil <| X.outN <| X.again1 (k + 1) (Sub.cons rfl <| Sub.nil _) rfl ⟨hM, by omega, fun j h hj => if e : j = k then by subst e; have := hC2.2; rw [List.getD_eq_getElem?_getD, List.getElem?_eq_getElem h] at this; exact this else hfar j h (by omega)⟩ (by omega)
    ·
     refine C.exit <| X.exitT <| X.exitT <| X.outE <| X.next <| C.seq <| C.region <| E.mv rfl rfl <| E.mv rfl rfl <| ?_
     refine E.lenv rfl (RdF.shape (hM.slF 1 rfl)) Try.underlying22 rfl ?_
     refine E.bin rfl rfl rfl rfl <| E.nil <| X.next <| ?_
     refine C.cond' rfl (fun hC3 => ?_) (fun hC3 => ?_)
     ·
      have hk' : k < l.length := by omega
      have hne : nearM l[k] ss[i].x ss[i].y := Decidable.byContradiction fun q => hC2 ⟨hk', by rw [List.getD_eq_getElem?_getD, List.getElem?_eq_getElem hk']; exact q⟩
      have hst := addM_t (m := ss[i]) hk' (fdx_t hk' hfar hne)
      have hlk := hb _ (List.getElem_mem hk')
      unfold mbd at hlk
      refine C.region <| E.mv rfl rfl <| E.mv rfl rfl <| E.mv rfl rfl <| E.mv rfl rfl <| ?_
      refine E.idxF (k := k) rfl rfl (hM.slF 1 rfl) rfl hk' (by decide) Try.underlying22 (by kernel_rfl) rfl ?_
      refine E.fld (o := 3) (sz := 0) rfl Try.underlying24 rfl rfl (by kernel_rfl) rfl ?_
      refine E.load rfl Try.underlying3 rfl ((hM.slF 1 rfl).atA (k := k) (o := 3) rfl hk' rfl) rfl ?_
      refine E.add rfl rfl (by omega) rfl ?_
      refine E.idxF (k := k) rfl rfl (hM.slF 1 rfl) rfl hk' (by decide) Try.underlying22 (by kernel_rfl) rfl ?_
      refine E.fld (o := 3) (sz := 0) rfl Try.underlying24 rfl rfl (by kernel_rfl) rfl ?_
      refine E.storeFM 1 { l[k] with n := l[k].n + 1 } hM rfl rfl rfl (by kernel_rfl) rfl rfl hk' rfl rfl ?_
      intro w9 hM
      try dsimp only [Za, Zb, Zc, Zd, repl] at hM

      refine E.nil <| X.outN <| X.join1 vl (Sub.cons rfl <| Sub.nil _) rfl (by rw [hst]; exact hM)
     ·
      have hst := addM_f (m := ss[i]) (fdx_f (l := l) (fun j h => hfar j h (by omega)))
      refine C.region <| E.mv rfl rfl <| E.mv rfl rfl <| E.mv rfl rfl <| ?_
      refine E.idxF (k := i) rfl rfl (hM.slF 0 rfl) rfl hi' (by decide) Try.underlying22 (by kernel_rfl) rfl ?_
      refine E.loadA (cs := mkc ss[i]) rfl Try.underlying24 rfl (by kernel_rfl) ((hM.slF 0 rfl).all hi') rfl ?_
      refine E.pushFM 1 ss[i] hM rfl rfl rfl Try.underlying22 elem_Tapi_Mark rfl (by decide) (mk_one _) (by omega) (by omega) (by simp) rfl rfl ?_
      intro v90 u90 w10 hM
      try dsimp only [Za, Zb, Zc, Zd, repl] at hM

      refine E.asg rfl rfl <| E.nil <| X.outN <| X.join1 _ (Sub.cons rfl <| Sub.nil _) rfl (by rw [hst]; exact hM)
   rintro vl w11 hM
   refine C.region <| E.mv rfl rfl <| ?_
   refine E.addN (a := i) (b := 1) rfl rfl (by omega) rfl ?_

   refine E.asg rfl rfl <| E.nil <| X.again2 (i + 1) _ (Sub.cons rfl <| Sub.cons rfl <| Sub.nil _) rfl ⟨by rw [hnx]; exact hM, by omega, by rw [hnx]; exact hbx⟩ (by omega)
  ·
   obtain rfl : i = ss.length := by omega
   rw [List.take_length] at hM hb
   refine C.exit <| X.exitT <| X.exitT <| X.outE <| X.next <| C.seq <| C.seq <| C.region <| E.mv rfl rfl <| ?_
   refine E.lenv rfl (RdF.shape (hM.slF 1 rfl)) Try.underlying22 rfl ?_
   refine E.bin rfl rfl rfl rfl <| E.nil <| X.next <| ?_
   refine C.cond' rfl (fun hC4 => ?_) (fun hC4 => ?_)
   ·
    refine C.seq <| C.region <| E.asg rfl rfl <| E.asg rfl rfl <| E.nil <| X.next <| C.ret <| X.retT <| ret2 rfl rfl rfl ?_
    exact .inr (.inl ⟨hok, by rw [Int.toNat_natCast, Int.toNat_natCast]; exact hff.2 (by omega), rfl, hM.toExt⟩)
   ·
    have hme := hff.1 (by omega)
    have hl256 : (addAll [] ss).length ≤ 256 := by omega
    generalize addAll [] ss = l at hM hb hme hl256
    have hbd : ∀ m ∈ l, bdm m := fun m hm => by have := hb m hm; unfold mbd at this; unfold bdm; omega
    refine C.skip <| X.next <| C.seq <| C.seq <| C.region <| E.asg rfl rfl <| E.nil <| X.next <| C.block <| ?_
    have hM := (hM.pick [1] (by decide)).nilF mkc 4 24
    try dsimp only [Za, Zb, Zc, Zd, repl] at hM

    refine C.loop2 [(7, _)] rfl (fun (i : Nat) (vo : Value) => [(8, vo), (11, i64 i)]) (fun (i : Nat) (vo : Value) w' => M w (Nn) w' [Rg.slF mkc 4 24 vl l, Rg.slF mkc 4 24 vo (isort key (l.take i))] ∧ i ≤ l.length) (fun (i : Nat) (vo : Value) => l.length - i) 0 nls ?_ ?_ ?_
    · exact Sub.cons rfl <| Sub.cons rfl <| Sub.nil _
    · exact ⟨hM, Nat.zero_le _⟩
    rintro i vo w12 ⟨hM, hi⟩
    refine C.seq <| C.seq <| C.region <| E.mv rfl rfl <| E.mv rfl rfl <| ?_
    refine E.lenv rfl (RdF.shape (hM.slF 0 rfl)) Try.underlying22 rfl ?_
    refine E.bin rfl rfl rfl rfl <| E.nil <| X.next <| ?_
    refine C.cond' rfl (fun hC5 => ?_) (fun hC5 => ?_)
    ·
     have hi' : i < l.length := by omega
     have hil := isort_len key (l.take i)
     rw [List.length_take] at hil
     refine C.skip <| X.next <| C.seq <| C.block <| C.region <| E.mv rfl rfl <| E.mv rfl rfl <| E.mv rfl rfl <| ?_
     refine E.idxF (k := i) rfl rfl (hM.slF 0 rfl) rfl hi' (by decide) Try.underlying22 (by kernel_rfl) rfl ?_
     refine E.loadA (cs := mkc l[i]) rfl Try.underlying24 rfl (by kernel_rfl) ((hM.slF 0 rfl).all hi') rfl ?_
     refine E.call rfl rfl (rinsert_ret vo (isort key (l.take i)) l[i] _ (hM.slF 1 rfl) (by omega) (fun m hm => hbd m (List.mem_of_mem_take ((isort_mem key _ m).1 hm))) (hbd _ (List.getElem_mem hi'))) ?_
     rintro v105 w13 m13
     have hM := hM.call m13
     try dsimp only [Za, Zb, Zc, Zd, repl] at hM
     refine E.asg rfl rfl <| E.nil <| X.outN <| X.next <| C.region <| E.mv rfl rfl <| ?_
     refine E.addN (a := i) (b := 1) rfl rfl (by omega) rfl ?_

     refine E.asg rfl rfl <| E.nil <| X.again2 (i + 1) _ (Sub.cons rfl <| Sub.cons rfl <| Sub.nil _) rfl ⟨by rw [← List.take_append_getElem hi', isort_snoc]; exact hM.pick [0, 2] (by decide), by omega⟩ (by omega)
    ·
     obtain rfl : i = l.length := by omega
     rw [List.take_length] at hM
     refine C.exit <| X.exitT <| X.exitT <| X.outE <| X.next <| C.seq <| C.region <| E.mv rfl rfl <| E.asg rfl rfl <| E.asg rfl rfl <| E.nil <| X.next <| C.ret <| ret2 rfl rfl rfl ?_
     exact .inr (.inr ⟨hok, by rw [Int.toNat_natCast, Int.toNat_natCast, hme]; exact hl256, vo, rfl, by rw [Int.toNat_natCast, Int.toNat_natCast, hme]; exact hM.pick [1] (by decide)⟩)
theorem rSquares_ret (W H : Int) (vd : Value) (dk : List Bool) (w : World) (hr : RdL Value.bool w vd dk) :
  Ret Try.prog 24 #[mat W H vd] w fun v w' => MrkV W H dk true w w' v := by
 have hM := M.start w
 refine enter Try.func24 rfl (by kernel_rfl) Try.ntmps24 rfl ?_
 refine C.seq <| C.region <| ?_
 refine E.boxM (cs := [i64 W, i64 H, vd]) hM rfl (by obtain ⟨a, cap, rfl, _⟩ := hr; rfl) rfl ?_
 intro b1 w0 hM
 try dsimp only [Za, Zb, Zc, Zd, repl] at hM
 refine E.asg rfl rfl <| E.asg rfl rfl <| E.nil <| X.next <| C.seq <| C.region <| ?_
 refine E.loadA (cs := [i64 W, i64 H, vd]) rfl Try.underlying37 rfl (by kernel_rfl) (hM.bat 0 rfl) rfl ?_
 refine E.call rfl rfl (rmarks_ret W H vd dk true _ (hM.arg0 hr)) ?_
 rintro v5 w1 h5
 obtain ⟨va, vb, rfl⟩ := MrkV_two h5
 try dsimp only [Za, Zb, Zc, Zd, repl] at hM
 refine E.ext rfl rfl rfl <| E.ext rfl rfl rfl <| E.asg rfl rfl <| E.asg rfl rfl <| E.nil <| X.next <| C.ret <| ret2 rfl rfl rfl ?_
 exact MrkV_pre hM.toExt h5
theorem rBullseyes_ret (W H : Int) (vd : Value) (dk : List Bool) (w : World) (hr : RdL Value.bool w vd dk) :
  Ret Try.prog 26 #[mat W H vd] w fun v w' => MrkV W H dk false w w' v := by
 have hM := M.start w
 refine enter Try.func26 rfl (by kernel_rfl) Try.ntmps26 rfl ?_
 refine C.seq <| C.region <| ?_
 refine E.boxM (cs := [i64 W, i64 H, vd]) hM rfl (by obtain ⟨a, cap, rfl, _⟩ := hr; rfl) rfl ?_
 intro b1 w0 hM
 try dsimp only [Za, Zb, Zc, Zd, repl] at hM
 refine E.asg rfl rfl <| E.asg rfl rfl <| E.nil <| X.next <| C.seq <| C.region <| ?_
 refine E.loadA (cs := [i64 W, i64 H, vd]) rfl Try.underlying37 rfl (by kernel_rfl) (hM.bat 0 rfl) rfl ?_
 refine E.call rfl rfl (rmarks_ret W H vd dk false _ (hM.arg0 hr)) ?_
 rintro v5 w1 h5
 obtain ⟨va, vb, rfl⟩ := MrkV_two h5
 try dsimp only [Za, Zb, Zc, Zd, repl] at hM
 refine E.ext rfl rfl rfl <| E.ext rfl rfl rfl <| E.asg rfl rfl <| E.asg rfl rfl <| E.nil <| X.next <| C.ret <| ret2 rfl rfl rfl ?_
 exact MrkV_pre hM.toExt h5
end Go.Proofs.Ytbinlkobmlebpaa
