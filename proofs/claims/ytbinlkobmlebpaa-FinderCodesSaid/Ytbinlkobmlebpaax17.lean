/- Texts of the claim, laid together: Fd17. -/
import Derived.Test.Ytbinlkobmlebpaax0
import Derived.Test.Ytbinlkobmlebpaax15
import Derived.Test.Ytbinlkobmlebpaax16
set_option linter.unusedSimpArgs false
set_option linter.unusedVariables false
namespace Go.Proofs.Ytbinlkobmlebpaa
open Go.RowKit Sym
open Fi
theorem eqIt_nil {P : Program} {d : Nat} {e : TypeId} {n : Nat} {w : World} {xs ys : Array Value} : (Op.eqItems d e n xs ys []).run P w = .ok (decide True) w := rfl
theorem eqIt_cons {P : Program} {d : Nat} {e : TypeId} {n j : Nat} {js : List Nat} {w : World} {xs ys : Array Value} {a b : Value} {p q : Prop} [Decidable p] [Decidable q] (ha : (part e xs (j * n)).run P w = .ok a w) (hb : (part e ys (j * n)).run P w = .ok b w)
  (he : (Op.equalIn d e a b).run P w = .ok (decide p) w) (hr : (Op.eqItems d e n xs ys js).run P w = .ok (decide q) w) : (Op.eqItems d e n xs ys (j :: js)).run P w = .ok (decide (p ∧ q)) w := by
 simp only [Op.eqItems]
 rw [Sem.run_bind, ha]
 simp only [Result.andThen_ok]
 rw [Sem.run_bind, hb]
 simp only [Result.andThen_ok]
 rw [Sem.run_bind, he]
 simp only [Result.andThen_ok]
 by_cases hp : p
 · simp only [hp, decide_true, Bool.not_true, Bool.false_eq_true, if_false, true_and]; exact hr
 · simp [hp]
theorem info_3 : ∃ i, Try.prog.info? 3 = some i := by
 have h : (Try.prog.info? 3).isSome = true := by kernel_rfl
 exact Option.isSome_iff_exists.1 h
theorem eqv_ar3 (w : World) (a b c x y z : Int) : (Op.equal 31 (.agg #[i64 a, i64 b, i64 c]) (.agg #[i64 x, i64 y, i64 z])).run Try.prog w = .ok (decide (a = x ∧ b = y ∧ c = z ∧ True)) w := by
 obtain ⟨i, hi⟩ := info_3
 show (Op.equalIn (9999 + 1) _ _ _).run _ _ = _
 rw [run_equalIn_array (w := w) 9999 _ _ Try.underlying31 hi, show Try.prog.cellsOf 3 = 1 from by kernel_rfl]
 exact eqIt_cons (a := i64 a) (b := i64 x) (by kernel_rfl) (by kernel_rfl) (eqI 9998 w _ _ Try.underlying3) (eqIt_cons (a := i64 b) (b := i64 y) (by kernel_rfl) (by kernel_rfl) (eqI 9998 w _ _ Try.underlying3) (eqIt_cons (a := i64 c) (b := i64 z) (by kernel_rfl) (by kernel_rfl) (eqI 9998 w _ _ Try.underlying3) eqIt_nil))
theorem eqT_ar3 : EqT Try.prog 31 3 := ⟨by kernel_rfl, fun w xs ys h1 h2 => match xs, ys, h1, h2 with
 | [a, b, c], [x, y, z], _, _ => ⟨_, eqv_ar3 w a b c x y z, by simp⟩⟩
theorem MrkV.one {W H : Nat} {dk : List Bool} {kd : Bool} {w w' : World} {v : Value} {l : List Mk} (h : MrkV W H dk kd w w' v) (hok : okMat W H dk.length) (hl : isort key (mrk W H dk (shq kd) kd) = l) (hn : (mrk W H dk (shq kd) kd).length ≤ 256) : ∃ vl, v = .tuple #[vl, i64 0] ∧ M w Nn w' [Rg.slF mkc 4 24 vl l] := by
 rcases h with ⟨h1, _⟩ | ⟨_, h2, _⟩ | ⟨_, _, h⟩
 · exact (h1 hok).elim
 · rw [Int.toNat_natCast, Int.toNat_natCast] at h2; omega
 · rw [Int.toNat_natCast, Int.toNat_natCast, hl] at h; exact h
theorem StrV.one {W H : Nat} {dk : List Bool} {bars : Int} {w w' : World} {v : Value} {l : List Fi.Bx} (h : StrV W H dk bars w w' v) (hok : okMat W H dk.length) (hb : 1 ≤ bars) (hl : strs dk W H bars 0 = l) (hn : l.length ≤ 4096) : ∃ vl, v = .tuple #[vl, i64 0] ∧ M w Nn w' [Rg.slF bxc 4 59 vl l] := by
 rcases h with ⟨h1, _⟩ | ⟨_, h2, _⟩ | ⟨_, _, h2, _⟩ | ⟨_, _, _, h⟩
 · exact (h1 hok).elim
 · omega
 · rw [Int.toNat_natCast, Int.toNat_natCast, hl] at h2; omega
 · rw [Int.toNat_natCast, Int.toNat_natCast, hl] at h; exact h
theorem TrsV.one {w w' : World} {v : Value} {l : List Mk} {t : List (Nat × Nat × Nat)} (h : TrsV w w' v l) (h1 : l.length ≤ 256) (h2 : ∀ m ∈ l, mok m) (ht : trs l = t) : ∃ vl, v = .tuple #[vl, i64 0] ∧ M w Nn w' [Rg.slF tec 3 31 vl t] := by
 rcases h with ⟨h3, _⟩ | ⟨_, h3, _⟩ | ⟨_, _, h⟩
 · omega
 · exact (h3 h2).elim
 · rw [ht] at h; exact h
theorem EllV.onep {w w' : World} {v : Value} (h : EllV 20 24 pxk w w' v) : ∃ vl, v = .tuple #[vl, i64 0] ∧ M w Nn w' [Rg.slF bxc 4 59 vl [⟨3, 5, 14, 14⟩]] := by
  have hok : okMat 20 24 pxk.length := by rw [pk_len]; decide +kernel
  rcases h with ⟨h1, _⟩ | ⟨_, h2, _⟩ | ⟨_, _, lab, bl, hL, h⟩
  · exact (h1 hok).elim
  · rw [pk_len] at h2; have := nf_pk; rw [show (20 : Int).toNat = 20 from rfl, this] at h2; omega
  · rw [pk_len] at hL
    have e := ex_els (lab := lab) (bl := bl) hL
    rw [show (20 : Int).toNat = 20 from rfl, e] at h
    rcases h with ⟨h1, _⟩ | ⟨_, h⟩
    · simp at h1
    · exact h
theorem dimV.ex {v : Value} (h : dimV ma mb mc v) : v = .tuple #[i64 21, i64 0] := by
  rcases h with ⟨h1, _⟩ | ⟨_, ru, rv, h1, h2, rfl⟩
  · exact (h1 ⟨by decide, by decide, by decide⟩).elim
  · have := ex_dim (v := .nilIface) (ru := ru) (rv := rv) h1 h2
    show Value.tuple #[i64 (dim ru rv 28 28 28).1, i64 (dim ru rv 28 28 28).2] = _
    rw [this]
theorem mrk_pk {w w' : World} {v : Value} (h : MrkV 20 24 pxk true w w' v) : ∃ vl, v = .tuple #[vl, i64 0] ∧ M w Nn w' [Rg.slF mkc 4 24 vl [⟨140, 168, 28, 6⟩]] :=
 MrkV.one (W := 20) (H := 24) h (by rw [pk_len]; decide +kernel) (by rw [show pxk = pat 20 24 3 5 2 from rfl, ex_mrk, ex_sort]) (by rw [show pxk = pat 20 24 3 5 2 from rfl, ex_mrk]; decide)
set_option maxHeartbeats 4000000 in
theorem alive_ret (w : World) :
  Ret Try.prog 8 #[] w fun v w' => v = .bool true ∧ Ext w w' := by
 have hM := M.start w
 refine enter Try.func8 rfl (by kernel_rfl) Try.ntmps8 rfl ?_
 refine C.seq <| C.region <| E.asg rfl rfl <| E.nil <| X.next <| C.seq <| C.region <| ?_
 refine E.call rfl rfl (pattern_ret 20 24 3 5 2 _ (by decide) (by decide) (by decide) (by decide) (by decide)) ?_
 rintro v12 w12 ⟨vo12, rfl, m12⟩
 have hM := hM.call m12
 try dsimp only [Za, Zb, Zc, Zd, repl] at hM
 refine E.call rfl rfl (Squares_ret 20 24 vo12 pxk _ (hM.sl 0 rfl)) ?_
 rintro v13 w13 hA
 obtain ⟨vl13, rfl, m13⟩ := mrk_pk hA
 have hM := hM.call m13
 try dsimp only [Za, Zb, Zc, Zd, repl] at hM
 refine E.mv rfl rfl <| E.ext rfl rfl rfl <| E.ext rfl rfl rfl <| E.asg rfl rfl <| E.asg rfl rfl <| E.nil <| X.next <| C.seq <| C.region <| ?_
 refine E.mkM (enc := Value.bool) (e := 4) exs hM rfl (fun _ => by kernel_rfl) rfl rfl rfl ?_
 intro v17 w2 hM
 try dsimp only [Za, Zb, Zc, Zd, repl] at hM
 refine E.buildC (cs := [i64 5, i64 3, v17]) [.int .i64 0, .int .i64 0, .slice none 0 0] [0, 1, 2] rfl (by obtain ⟨a, c, rfl⟩ := Rd.shape (hM.sl 2 rfl); rfl) (by obtain ⟨a, c, rfl⟩ := Rd.shape (hM.sl 2 rfl); kernel_rfl) rfl ?_
 refine E.call rfl rfl (Stripes_ret 5 3 v17 exs 2 _ (hM.sl 2 rfl)) ?_
 rintro v19 w19 hA
 obtain ⟨vl19, rfl, m19⟩ := StrV.one (W := 5) (H := 3) hA (by decide) (by decide) ex_str (by decide)
 have hM := hM.call m19
 try dsimp only [Za, Zb, Zc, Zd, repl] at hM
 refine E.mv rfl rfl <| E.ext rfl rfl rfl <| E.ext rfl rfl rfl <| E.asg rfl rfl <| E.asg rfl rfl <| E.nil <| X.next <| C.seq <| C.region <| ?_
 refine E.buildC (cs := [_, _, _, _]) [.int .i64 0, .int .i64 0, .int .i64 0, .int .i64 0] [0, 1, 2] rfl rfl (by kernel_rfl) rfl ?_
 refine E.buildC (cs := [_, _, _, _]) [.int .i64 0, .int .i64 0, .int .i64 0, .int .i64 0] [0, 1, 2] rfl rfl (by kernel_rfl) rfl ?_
 refine E.buildC (cs := [_, _, _, _]) [.int .i64 0, .int .i64 0, .int .i64 0, .int .i64 0] [0, 1, 2] rfl rfl (by kernel_rfl) rfl ?_
 refine E.call rfl rfl (Dimension_ret ma mb mc _) ?_
 rintro v26 w26 ⟨hd, x26⟩
 obtain rfl := hd.ex
 have hM := hM.ext x26
 try dsimp only [Za, Zb, Zc, Zd, repl] at hM
 refine E.mv rfl rfl <| E.ext rfl rfl rfl <| E.ext rfl rfl rfl <| E.asg rfl rfl <| E.asg rfl rfl <| E.nil <| X.next <| C.seq <| C.region <| ?_
 refine E.buildC (cs := [_, _, _, _]) [.int .i64 0, .int .i64 0, .int .i64 0, .int .i64 0] [0, 1, 2] rfl rfl (by kernel_rfl) rfl ?_
 refine E.buildC (cs := [_, _, _, _]) [.int .i64 0, .int .i64 0, .int .i64 0, .int .i64 0] [0, 1, 2] rfl rfl (by kernel_rfl) rfl ?_
 refine E.buildC (cs := [_, _, _, _]) [.int .i64 0, .int .i64 0, .int .i64 0, .int .i64 0] [0, 1, 2] rfl rfl (by kernel_rfl) rfl ?_
 refine E.mkFF (enc := mkc) (sz := 4) (e := 24) [mc, ma, mb] hM rfl (fun _ => by kernel_rfl) rfl (by decide) (fun a ha => rfl) rfl ?_
 intro v33 w33 hM
 try dsimp only [Za, Zb, Zc, Zd, repl] at hM
 refine E.call rfl rfl (Triples_ret v33 [mc, ma, mb] _ (hM.slF 4 rfl)) ?_
 rintro v34 w34 hA
 obtain ⟨vl34, rfl, m34⟩ := hA.one (by decide) (by decide) ex_tri
 have hM := hM.call m34
 try dsimp only [Za, Zb, Zc, Zd, repl] at hM
 refine E.mv rfl rfl <| E.ext rfl rfl rfl <| E.ext rfl rfl rfl <| E.asg rfl rfl <| E.asg rfl rfl <| E.nil <| X.next <| C.seq <| C.region <| ?_
 refine E.call rfl rfl (pattern_ret 20 24 3 5 2 _ (by decide) (by decide) (by decide) (by decide) (by decide)) ?_
 rintro v38 w38 ⟨vo38, rfl, m38⟩
 have hM := hM.call m38
 try dsimp only [Za, Zb, Zc, Zd, repl] at hM
 refine E.call rfl rfl (Ells_ret 20 24 vo38 pxk _ (hM.sl 6 rfl)) ?_
 rintro v39 w39 hA
 obtain ⟨vl39, rfl, m39⟩ := hA.onep
 have hM := hM.call m39
 try dsimp only [Za, Zb, Zc, Zd, repl] at hM
 refine E.mv rfl rfl <| E.ext rfl rfl rfl <| E.ext rfl rfl rfl <| E.asg rfl rfl <| E.asg rfl rfl <| E.nil <| X.next <| C.seq <| ?_

 refine C.chainE [(1, _), (3, _), (5, _), (7, _), (9, _)] rfl [(64, .bool (decide False))] ?_ ?_
 ·
  refine C.region <| E.mv rfl rfl <| E.bin rfl rfl rfl rfl <| E.mv rfl rfl <| ?_
  refine E.split 44 rfl (fun g44 => ?_) (fun g44 => ?_)
  ·
   try simp only [Ya, Yb, Yc, Yd, Ye, Yf] at g44
   refine E.off rfl rfl rfl rfl <| E.off rfl rfl rfl rfl <| E.pick rfl rfl rfl <| E.mv rfl rfl <| E.off rfl rfl rfl rfl <| E.off rfl rfl rfl rfl <| E.pick rfl rfl rfl <| E.mv rfl rfl <| E.off rfl rfl rfl rfl <| E.off rfl rfl rfl rfl <| E.pick rfl rfl rfl <| E.mv rfl rfl <| E.off rfl rfl rfl rfl <| E.off rfl rfl rfl rfl <| E.pick rfl rfl rfl <| E.mv rfl rfl <| E.off rfl rfl rfl rfl <| E.off rfl rfl rfl rfl <| E.off rfl rfl rfl rfl <| E.pick rfl rfl rfl <| E.nil <| X.join0 (Sub.cons (by exact leaf_t (by ((try simp only [decide_eq_true_eq, decide_eq_false_iff_not, Bool.not_eq_true', Bool.not_eq_false'] at *); first | omega | (simp_all <;> fail) | (simp_all; omega)))) <| Sub.nil _) rfl rfl
  ·
   try simp only [Ya, Yb, Yc, Yd, Ye, Yf] at g44
   refine E.on rfl rfl (E.mv rfl rfl ?_)
   refine E.on rfl rfl (E.bin rfl rfl rfl rfl ?_)
   refine E.pick rfl rfl rfl <| E.mv rfl rfl <| ?_
   refine E.split 48 rfl (fun g48 => ?_) (fun g48 => ?_)
   ·
    try simp only [Ya, Yb, Yc, Yd, Ye, Yf] at g48
    refine E.off rfl rfl rfl rfl <| E.off rfl rfl rfl rfl <| E.pick rfl rfl rfl <| E.mv rfl rfl <| E.off rfl rfl rfl rfl <| E.off rfl rfl rfl rfl <| E.pick rfl rfl rfl <| E.mv rfl rfl <| E.off rfl rfl rfl rfl <| E.off rfl rfl rfl rfl <| E.pick rfl rfl rfl <| E.mv rfl rfl <| E.off rfl rfl rfl rfl <| E.off rfl rfl rfl rfl <| E.off rfl rfl rfl rfl <| E.pick rfl rfl rfl <| E.nil <| X.join0 (Sub.cons (by exact leaf_t (by ((try simp only [decide_eq_true_eq, decide_eq_false_iff_not, Bool.not_eq_true', Bool.not_eq_false'] at *); first | omega | (simp_all <;> fail) | (simp_all; omega)))) <| Sub.nil _) rfl rfl
   ·
    try simp only [Ya, Yb, Yc, Yd, Ye, Yf] at g48
    refine E.on rfl rfl (E.mv rfl rfl ?_)
    refine E.on rfl rfl (E.bin rfl rfl rfl rfl ?_)
    refine E.pick rfl rfl rfl <| E.mv rfl rfl <| ?_
    refine E.split 52 rfl (fun g52 => ?_) (fun g52 => ?_)
    ·
     try simp only [Ya, Yb, Yc, Yd, Ye, Yf] at g52
     refine E.off rfl rfl rfl rfl <| E.off rfl rfl rfl rfl <| E.pick rfl rfl rfl <| E.mv rfl rfl <| E.off rfl rfl rfl rfl <| E.off rfl rfl rfl rfl <| E.pick rfl rfl rfl <| E.mv rfl rfl <| E.off rfl rfl rfl rfl <| E.off rfl rfl rfl rfl <| E.off rfl rfl rfl rfl <| E.pick rfl rfl rfl <| E.nil <| X.join0 (Sub.cons (by exact leaf_t (by ((try simp only [decide_eq_true_eq, decide_eq_false_iff_not, Bool.not_eq_true', Bool.not_eq_false'] at *); first | omega | (simp_all <;> fail) | (simp_all; omega)))) <| Sub.nil _) rfl rfl
    ·
     try simp only [Ya, Yb, Yc, Yd, Ye, Yf] at g52
     refine E.on rfl rfl (E.mv rfl rfl ?_)
     refine E.on rfl rfl (E.bin rfl rfl rfl rfl ?_)
     refine E.pick rfl rfl rfl <| E.mv rfl rfl <| ?_
     refine E.split 56 rfl (fun g56 => ?_) (fun g56 => ?_)
     ·
      try simp only [Ya, Yb, Yc, Yd, Ye, Yf] at g56
      refine E.off rfl rfl rfl rfl <| E.off rfl rfl rfl rfl <| E.pick rfl rfl rfl <| E.mv rfl rfl <| E.off rfl rfl rfl rfl <| E.off rfl rfl rfl rfl <| E.off rfl rfl rfl rfl <| E.pick rfl rfl rfl <| E.nil <| X.join0 (Sub.cons (by exact leaf_t (by ((try simp only [decide_eq_true_eq, decide_eq_false_iff_not, Bool.not_eq_true', Bool.not_eq_false'] at *); first | omega | (simp_all <;> fail) | (simp_all; omega)))) <| Sub.nil _) rfl rfl
     ·
      try simp only [Ya, Yb, Yc, Yd, Ye, Yf] at g56
      refine E.on rfl rfl (E.mv rfl rfl ?_)
      refine E.on rfl rfl (E.bin rfl rfl rfl rfl ?_)
      refine E.pick rfl rfl rfl <| E.mv rfl rfl <| ?_
      refine E.split 60 rfl (fun g60 => ?_) (fun g60 => ?_)
      ·
       try simp only [Ya, Yb, Yc, Yd, Ye, Yf] at g60
       refine E.off rfl rfl rfl rfl <| E.off rfl rfl rfl rfl <| E.off rfl rfl rfl rfl <| E.pick rfl rfl rfl <| E.nil <| X.join0 (Sub.cons (by exact leaf_t (by ((try simp only [decide_eq_true_eq, decide_eq_false_iff_not, Bool.not_eq_true', Bool.not_eq_false'] at *); first | omega | (simp_all <;> fail) | (simp_all; omega)))) <| Sub.nil _) rfl rfl
      ·
       try simp only [Ya, Yb, Yc, Yd, Ye, Yf] at g60
       refine E.on rfl rfl (E.mv rfl rfl ?_)
       refine E.on rfl rfl (E.lenv rfl (RdF.shape (hM.slF 5 rfl)) Try.underlying27 rfl ?_)
       refine E.on rfl rfl (E.bin rfl rfl rfl rfl ?_)
       refine E.pick rfl rfl rfl <| E.nil <| X.join0 (Sub.cons (by exact leaf_f (by (simp [*] <;> fail))) <| Sub.nil _) rfl rfl
 refine C.cond' rfl (fun hC0 => ?_) (fun hC0 => ?_)
 ·
  refine C.seq <| C.region <| E.asg rfl rfl <| E.nil <| X.next <| C.ret <| X.retT <| ret1 rfl rfl ?_
  exact hC0.elim
 ·
  refine C.skip <| X.next <| ?_

  refine C.cut0 [] rfl [(0, .bool true)] (fun w' => M w (Nn) w' []) ?_ ?_
  ·
   refine C.region <| E.mv rfl rfl <| ?_
   refine E.buildC (cs := [_, _, _, _]) [.int .i64 0, .int .i64 0, .int .i64 0, .int .i64 0] [0, 1, 2, 3] rfl rfl (by kernel_rfl) rfl ?_
   refine E.mkFF (enc := mkc) (sz := 4) (e := 24) [(⟨140, 168, 28, 6⟩ : Mk)] hM rfl (fun _ => by kernel_rfl) rfl (by decide) (fun a ha => rfl) rfl ?_
   intro v67 w67 hM
   try dsimp only [Za, Zb, Zc, Zd, repl] at hM
   refine E.call rfl rfl (Marks_ret vl13 v67 _ _ _ (hM.slF 1 rfl) (hM.slF 8 rfl) (by decide)) ?_
   rintro _ w68 ⟨rfl, x68⟩
   have hM := hM.ext x68
   try dsimp only [Za, Zb, Zc, Zd, repl] at hM
   refine E.mv rfl rfl <| ?_
   refine E.split 69 rfl (fun g69 => ?_) (fun g69 => ?_)
   ·
    try simp only [Ya, Yb, Yc, Yd, Ye, Yf] at g69
    refine E.on rfl rfl (E.mv rfl rfl ?_)
    refine E.on rfl rfl (E.buildC (cs := [_, _, _, _]) [.int .i64 0, .int .i64 0, .int .i64 0, .int .i64 0] [0, 2, 3] rfl rfl (by kernel_rfl) rfl ?_)
    refine E.on rfl rfl (E.buildC (cs := [_, _, _, _]) [.int .i64 0, .int .i64 0, .int .i64 0, .int .i64 0] [1, 2, 3] rfl rfl (by kernel_rfl) rfl ?_)
    refine E.on rfl rfl (E.mkFF (enc := bxc) (sz := 4) (e := 59) [(⟨1, 0, 4, 2⟩ : Fi.Bx), ⟨0, 2, 5, 1⟩] hM rfl (fun _ => by kernel_rfl) rfl (by decide) (fun a ha => rfl) rfl ?_)
    intro v73 w73 hM
    try dsimp only [Za, Zb, Zc, Zd, repl] at hM
    refine E.on rfl rfl (E.call rfl rfl (Boxes_ret vl19 v73 _ _ _ (hM.slF 3 rfl) (hM.slF 9 rfl) (by decide)) ?_)
    rintro _ w74 ⟨rfl, x74⟩
    have hM := hM.ext x74
    try dsimp only [Za, Zb, Zc, Zd, repl] at hM
    refine E.pick rfl rfl rfl <| E.mv rfl rfl <| ?_
    refine E.split 76 rfl (fun g76 => ?_) (fun g76 => ?_)
    ·
     try simp only [Ya, Yb, Yc, Yd, Ye, Yf] at g76
     refine E.on rfl rfl (E.mv rfl rfl ?_)
     refine E.on rfl rfl (E.bin rfl rfl rfl rfl ?_)
     refine E.pick rfl rfl rfl <| E.mv rfl rfl <| ?_
     refine E.split 80 rfl (fun g80 => ?_) (fun g80 => ?_)
     ·
      try simp only [Ya, Yb, Yc, Yd, Ye, Yf] at g80
      refine E.on rfl rfl (E.mv rfl rfl ?_)
      refine E.on rfl rfl (E.idxF (k := 0) rfl rfl (hM.slF 5 rfl) rfl (by decide) (by decide) Try.underlying27 (by kernel_rfl) rfl ?_)
      refine E.on rfl rfl (E.loadA (cs := tec (1, 2, 0)) rfl Try.underlying31 rfl (by kernel_rfl) ((hM.slF 5 rfl).all (k := 0) (by decide)) rfl ?_)
      refine E.on rfl rfl (E.build (cs := [i64 1, i64 2, i64 0]) rfl (by kernel_rfl) rfl ?_)
      refine E.on rfl rfl (E.eqA [1, 2, 0] [1, 2, 0] eqT_ar3 rfl rfl rfl rfl rfl ?_)
      refine E.pick rfl rfl rfl <| E.mv rfl rfl <| ?_
      refine E.split 87 rfl (fun g87 => ?_) (fun g87 => ?_)
      ·
       try simp only [Ya, Yb, Yc, Yd, Ye, Yf] at g87
       refine E.on rfl rfl (E.mv rfl rfl ?_)
       refine E.on rfl rfl (E.buildC (cs := [_, _, _, _]) [.int .i64 0, .int .i64 0, .int .i64 0, .int .i64 0] [0, 1, 2, 3] rfl rfl (by kernel_rfl) rfl ?_)
       refine E.on rfl rfl (E.mkFF (enc := bxc) (sz := 4) (e := 59) [(⟨3, 5, 14, 14⟩ : Fi.Bx)] hM rfl (fun _ => by kernel_rfl) rfl (by decide) (fun a ha => rfl) rfl ?_)
       intro v90 w90 hM
       try dsimp only [Za, Zb, Zc, Zd, repl] at hM
       refine E.on rfl rfl (E.call rfl rfl (Boxes_ret vl39 v90 _ _ _ (hM.slF 7 rfl) (hM.slF 10 rfl) (by decide)) ?_)
       rintro _ w91 ⟨rfl, x91⟩
       have hM := hM.ext x91
       try dsimp only [Za, Zb, Zc, Zd, repl] at hM

       refine E.pick rfl rfl rfl <| E.asg rfl rfl <| E.nil <| X.join0  (Sub.cons rfl <| Sub.nil _) rfl (hM.pick [] (by decide))
      ·
       try simp only [Ya, Yb, Yc, Yd, Ye, Yf] at g87
       exact absurd g87 (by decide)
     ·
      try simp only [Ya, Yb, Yc, Yd, Ye, Yf] at g80
      exact absurd g80 (by decide)
    ·
     try simp only [Ya, Yb, Yc, Yd, Ye, Yf] at g76
     exact absurd g76 (by decide)
   ·
    try simp only [Ya, Yb, Yc, Yd, Ye, Yf] at g69
    exact absurd g69 (by decide)
  rintro  w11 hM
  refine C.ret <| ret1 rfl rfl ?_
  exact ⟨rfl, hM.toExt⟩
end Go.Proofs.Ytbinlkobmlebpaa
