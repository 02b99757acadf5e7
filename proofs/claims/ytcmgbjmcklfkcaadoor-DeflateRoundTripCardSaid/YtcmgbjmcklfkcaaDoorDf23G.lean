/- deflate: a block is read. -/
import Derived.Test.YtcmgbjmcklfkcaaDoorDf22G
import Derived.Test.YtcmgbjmcklfkcaaDoorDfLG
namespace Go.Proofs.YtcmgbjmcklfkcaaDoor
set_option linter.unusedSimpArgs false
set_option linter.unusedVariables false
open Go.RowKit Sym

namespace Sym
def isN : Value → Bool
  | .slice none _ _ => true
  | _ => false
section
variable {P : Program} {ops : Array Oper} {Q : Exit → Act → World → Prop} {s : St} {env : Env} {w w0 : World} {S : Nat → Prop} {rs : List Rg} {rest : List Oper} {d : Nat} {ty : TypeId} {pos : String} {aft : Array Edge}
/-- a slice compared with nil -/
theorem E.eqnilS {t t2 e : TypeId} {x y : Operand} {v : Value} (hx : ev env x = some v) (hv : ∃ a n cap, v = .slice a n cap) (hy : ev env y = some (.slice none 0 0)) (ht : P.underlying t = some (.slice e))
    (hd : Nat.blt d s.n = true) (h : wpE P ops Q s rest ((d, .bool (decide (isN v = true))) :: env) w) : wpE P ops Q s (⟨some d, .binOp .eql t x y t2, ty, pos, aft, none⟩ :: rest) env w := by
  obtain ⟨a, n, cap, rfl⟩ := hv
  refine E.op (fun a' ha => ?_) hd h
  have h1 : (Op.equal t (.slice a n cap) (.slice none 0 0)).run P w = .ok (decide (isN (.slice a n cap) = true)) w := by
    show (Op.equalIn (9999 + 1) t (.slice a n cap) (.slice none 0 0)).run P w = _
    unfold Op.equalIn
    rw [Sem.run_bind, run_underlying ht]
    cases a <;> rfl
  have h2 : (binOp .eql t (.slice a n cap) (.slice none 0 0)).run P w = .ok (.bool (decide (isN (.slice a n cap) = true))) w := by simp only [binOp]; simp [h1]
  simp only [execOp, ha.ev hx, ha.ev hy, eqGuard]
  simp [h2]
end
end Sym
/-- what s.fixed is: nil, or the two decoders of the fixed codes -/
def Fx (fv : Value) (F : List Rg) : Prop := (fv = .slice none 0 0 ∧ F = []) ∨ ∃ (bl bd : Nat) (vl vd : Value), F = [Rg.sl pv 105 fv [bl, bd], Sym.Ax bl 132 16 (fun n => (Df.cn Df.fixL n : Int)) [vl, i64 (Df.mx Df.fixL : Int)], Rg.sl i64 3 vl (nz (Pf.od Df.fixL)), Sym.Ax bd 132 16 (fun n => (Df.cn Df.fixD n : Int)) [vd, i64 (Df.mx Df.fixD : Int)], Rg.sl i64 3 vd (nz (Pf.od Df.fixD))]
theorem Fx.shape {w0 w : World} {S : Nat → Prop} {fv : Value} {F : List Rg} {r q : Rg} (h : Fx fv F) (hM : M w0 S w (r :: q :: F)) : ∃ a n cap, fv = .slice a n cap := by
  rcases h with ⟨rfl, _⟩ | ⟨bl, bd, vl, vd, rfl⟩
  · exact ⟨_, _, _, rfl⟩
  · obtain ⟨cap, h⟩ := Rd.hd (hM.sl 2 rfl) (by simp)
    exact ⟨_, _, _, h⟩
theorem Fx.isN {w0 w : World} {S : Nat → Prop} {fv : Value} {F : List Rg} {r q : Rg} (h : Fx fv F) (hM : M w0 S w (r :: q :: F)) (hn : Sym.isN fv = true) : fv = .slice none 0 0 ∧ F = [] := by
  rcases h with h | ⟨bl, bd, vl, vd, rfl⟩
  · exact h
  · obtain ⟨cap, h⟩ := Rd.hd (hM.sl 2 rfl) (by simp)
    rw [h] at hn; exact absurd hn (by simp [Sym.isN])
theorem Fx.some {fv : Value} {F : List Rg} (h : Fx fv F) (hn : ¬ Sym.isN fv = true) : ∃ (bl bd : Nat) (vl vd : Value), F = [Rg.sl pv 105 fv [bl, bd], Sym.Ax bl 132 16 (fun n => (Df.cn Df.fixL n : Int)) [vl, i64 (Df.mx Df.fixL : Int)], Rg.sl i64 3 vl (nz (Pf.od Df.fixL)), Sym.Ax bd 132 16 (fun n => (Df.cn Df.fixD n : Int)) [vd, i64 (Df.mx Df.fixD : Int)], Rg.sl i64 3 vd (nz (Pf.od Df.fixD))] := by
  rcases h with ⟨rfl, _⟩ | h
  · exact (hn rfl).elim
  · exact h
theorem M_no0 {w0 w : World} {S : Nat → Prop} {rs : List Rg} (h : M w0 S w rs) (hO : Ord w0) (hn : ¬ S 0) : ¬ fpU rs 0 := fun ⟨i, r, hi, hk⟩ => by
  rcases h.mine i r hi 0 hk with h1 | h1
  · exact hn h1
  · have := hO.lt; omega
namespace Df
theorem rblk_e1 {lim : Nat} {p out : List UInt8} {B : List Bool} {a : Nat} {e : Int} (h : rbits 1 B a = .error e) : rblk lim p out B a = .error e := by unfold rblk; rw [bnd_err h]
theorem rblk_e2 {lim : Nat} {p out : List UInt8} {B : List Bool} {a a1 x : Nat} {e : Int} (h : rbits 1 B a = .ok (x, a1)) (h2 : rbits 2 B a1 = .error e) : rblk lim p out B a = .error e := by unfold rblk; rw [bnd_ok h, bnd_err h2]
theorem rblk_rd {lim : Nat} {p out o : List UInt8} {B : List Bool} {a a1 a2 a' x k : Nat} {e : Int} (h : rbits 1 B a = .ok (x, a1)) (h2 : rbits 2 B a1 = .ok (k, a2)) (h3 : Rds (rkin lim p out k B a2) o a' e) : Rds (rblk lim p out B a) (x, o) a' e := by
  unfold rblk
  rw [bnd_ok h, bnd_ok h2]
  rcases h3 with ⟨rfl, h3⟩ | ⟨he, h3⟩
  · exact .ok (by rw [bnd_ok h3])
  · exact .err he (by rw [bnd_err h3])
end Df
set_option maxHeartbeats 4000000 in
set_option maxRecDepth 4000 in
theorem sblock_ret (out : List UInt8) (F : List Rg) (b a lim : Nat) (p vo fv : Value) (l : List UInt8) (w : World) (hs : Sep w (Rg.blk b 74 [p, i64 ((a : Nat) : Int), i64 (lim : Int), vo, fv] :: Rg.sl u8 5 vo out :: F)) (hp : RdL u8 w p l) (ho : Off (fpU (Rg.blk b 74 [p, i64 ((a : Nat) : Int), i64 (lim : Int), vo, fv] :: Rg.sl u8 5 vo out :: F)) p l) (ha : a ≤ 8 * l.length) (hl : l.length ≤ 1099511627776) (hol : out.length ≤ lim) (hlim : lim ≤ 16777216) (hO : Ord w) (hn0 : ¬ fpU (Rg.blk b 74 [p, i64 ((a : Nat) : Int), i64 (lim : Int), vo, fv] :: Rg.sl u8 5 vo out :: F) 0) (hF : Fx fv F) :
    Ret Tryd.prog 38 #[pv b] w fun v w' => ∃ (vo' fv' : Value) (out' : List UInt8) (F' : List Rg) (a' x : Nat) (e : Int), v = .tuple #[.bool (decide ((x : Int) = 1)), i64 e] ∧ M w (fpU (Rg.blk b 74 [p, i64 ((a : Nat) : Int), i64 (lim : Int), vo, fv] :: Rg.sl u8 5 vo out :: F)) w' (Rg.blk b 74 [p, i64 ((a' : Nat) : Int), i64 (lim : Int), vo', fv'] :: Rg.sl u8 5 vo' out' :: F') ∧ Fx fv' F' ∧ Rds (Df.rblk lim l out (Df.ub l) a) (x, out') a' e ∧ out'.length ≤ lim := by
  have hM := M.startS hs
  refine enter Tryd.func38 rfl (by kernel_rfl) Tryd.ntmps38 rfl ?_
  refine C.seq <| C.region <| E.asg rfl rfl <| E.asg rfl rfl <| E.nil <| X.next <| C.seq <| C.region <| E.mv rfl rfl <| ?_
  have hul := Df.ub_len l
  refine E.call rfl rfl (sbits_ret 1 b a lim p vo fv l _ (hM.pick [0] (by decide)).sep (hM.arg hp ho) ((hM.pick [0] (by decide)).offS hp ho) (by omega) hl (by omega)) ?_
  rintro _ w1 ⟨x1, a1, e1, rfl, m, hr1⟩
  have hM := hM.calls [0] (by decide) rfl (by simp) m
  try dsimp only [List.nil_append, List.cons_append, List.set_cons_zero, List.set_cons_succ, repl] at hM
  try simp only [List.append_nil] at hM
  try dsimp only [List.nil_append, List.cons_append, List.set_cons_zero, List.set_cons_succ, repl] at hM
  refine E.mv rfl rfl <| E.ext rfl rfl rfl <| E.ext rfl rfl rfl <| E.asg rfl rfl <| E.asg rfl rfl <| E.nil <| X.next <| C.seq <| C.seq <| C.region <| E.mv rfl rfl <| E.bin rfl rfl rfl rfl <| E.nil <| X.next <| ?_
  refine C.cond' rfl (fun hC0 => ?_) (fun hC0 => ?_)
  ·
    refine C.seq <| C.region <| E.mv rfl rfl <| E.asg rfl rfl <| E.asg rfl rfl <| E.nil <| X.next <| C.ret <| X.retT <| ret2 rfl rfl rfl ?_
    exact ⟨vo, fv, out, F, a1, 0, e1, rfl, hM, hF, .err hC0 (Df.rblk_e1 (hr1.bad hC0)), hol⟩
  ·
    have hq1 := hr1.good hC0
    obtain ⟨hx1, he1, hb1⟩ := rbits_lt hq1
    refine C.skip <| X.next <| C.seq <| C.region <| E.mv rfl rfl <| ?_
    refine E.call rfl rfl (sbits_ret 2 b a1 lim p vo fv l _ (hM.pick [0] (by decide)).sep (hM.arg hp ho) ((hM.pick [0] (by decide)).offS hp ho) (by omega) hl (by omega)) ?_
    rintro _ w2 ⟨x2, a2, e2, rfl, m, hr2⟩
    have hM := hM.calls [0] (by decide) rfl (by simp) m
    try dsimp only [List.nil_append, List.cons_append, List.set_cons_zero, List.set_cons_succ, repl] at hM
    try simp only [List.append_nil] at hM
    try dsimp only [List.nil_append, List.cons_append, List.set_cons_zero, List.set_cons_succ, repl] at hM
    refine E.mv rfl rfl <| E.ext rfl rfl rfl <| E.ext rfl rfl rfl <| E.asg rfl rfl <| E.asg rfl rfl <| E.nil <| X.next <| C.seq <| C.seq <| C.region <| E.mv rfl rfl <| E.bin rfl rfl rfl rfl <| E.nil <| X.next <| ?_
    refine C.cond' rfl (fun hC1 => ?_) (fun hC1 => ?_)
    ·
      refine C.seq <| C.region <| E.mv rfl rfl <| E.asg rfl rfl <| E.asg rfl rfl <| E.nil <| X.next <| C.ret <| X.retT <| ret2 rfl rfl rfl ?_
      exact ⟨vo, fv, out, F, a2, 0, e2, rfl, hM, hF, .err hC1 (Df.rblk_e2 hq1 (hr2.bad hC1)), hol⟩
    ·
      have hq2 := hr2.good hC1
      obtain ⟨hx2, he2, hb2⟩ := rbits_lt hq2
      have hx4 : x2 < 4 := hx2
      refine C.skip <| X.next <| ?_

      refine C.cut6 [(4, _)] rfl (fun (voq : Value) (fvq : Value) (outq : (List UInt8)) (Fq : (List Rg)) (aq : Nat) (e : Int) => [(5, i64 e)]) (fun (voq : Value) (fvq : Value) (outq : (List UInt8)) (Fq : (List Rg)) (aq : Nat) (e : Int) w' => M w (fpU (Rg.blk b 74 [p, i64 ((a : Nat) : Int), i64 (lim : Int), vo, fv] :: Rg.sl u8 5 vo out :: F)) w' (Rg.blk b 74 [p, i64 ((aq : Nat) : Int), i64 (lim : Int), voq, fvq] :: Rg.sl u8 5 voq outq :: Fq) ∧ Fx fvq Fq ∧ Rds (Df.rkin lim l out x2 (Df.ub l) a2) outq aq e ∧ outq.length ≤ lim) ?_ ?_
      ·
        refine C.seq <| C.region <| E.mv rfl rfl <| E.nil <| X.next <| C.block <| C.seq <| C.region <| E.bin rfl rfl rfl rfl <| E.asg rfl rfl <| E.nil <| X.next <| ?_
        refine C.cond' rfl (fun hC2 => ?_) (fun hC2 => ?_)
        ·
          obtain rfl : x2 = 0 := by omega
          refine C.region <| E.mv rfl rfl <| ?_
          refine E.call rfl rfl (sstored_ret out b a2 lim p vo fv l _ (hM.pick [0, 1] (by decide)).sep (hM.arg hp ho) ((hM.pick [0, 1] (by decide)).offS hp ho) (by omega) hl hol hlim) ?_
          rintro _ w3 ⟨vo3, out3, a3, e3, rfl, m, hr3, hol3⟩
          have hM := hM.calls [0, 1] (by decide) rfl (by simp) m
          try dsimp only [List.nil_append, List.cons_append, List.set_cons_zero, List.set_cons_succ, repl] at hM
          try simp only [List.append_nil] at hM
          try dsimp only [List.nil_append, List.cons_append, List.set_cons_zero, List.set_cons_succ, repl] at hM

          refine E.asg rfl rfl <| E.nil <| X.outN <| X.join6 vo3 fv out3 F a3 e3 (Sub.cons rfl <| Sub.nil _) rfl ⟨hM, hF, by unfold Df.rkin; rw [if_pos rfl]; exact hr3, hol3⟩
        ·
          refine C.seq <| C.region <| E.bin rfl rfl rfl rfl <| E.asg rfl rfl <| E.nil <| X.next <| ?_
          refine C.cond' rfl (fun hC3 => ?_) (fun hC3 => ?_)
          ·
            obtain rfl : x2 = 1 := by omega

            refine C.cut5 [(0, _), (4, _)] rfl (fun (fv1 : Value) (bl : Nat) (bd : Nat) (vl : Value) (vd : Value) => []) (fun (fv1 : Value) (bl : Nat) (bd : Nat) (vl : Value) (vd : Value) w' => M w (fpU (Rg.blk b 74 [p, i64 ((a : Nat) : Int), i64 (lim : Int), vo, fv] :: Rg.sl u8 5 vo out :: F)) w' [Rg.blk b 74 [p, i64 ((a2 : Nat) : Int), i64 (lim : Int), vo, fv1], Rg.sl u8 5 vo out, Rg.sl pv 105 fv1 [bl, bd], Sym.Ax bl 132 16 (fun n => (Df.cn Df.fixL n : Int)) [vl, i64 (Df.mx Df.fixL : Int)], Rg.sl i64 3 vl (nz (Pf.od Df.fixL)), Sym.Ax bd 132 16 (fun n => (Df.cn Df.fixD n : Int)) [vd, i64 (Df.mx Df.fixD : Int)], Rg.sl i64 3 vd (nz (Pf.od Df.fixD))]) ?_ ?_
            ·
              refine C.seq <| C.region <| E.mv rfl rfl <| E.nilc rfl rfl <| ?_
              refine E.fld (o := 4) (sz := 0) rfl Tryd.underlying74 rfl rfl (by kernel_rfl) rfl ?_
              refine E.load rfl Tryd.underlying72 rfl (hM.bcell 0 rfl rfl) rfl ?_
              refine E.eqnilS rfl (hF.shape hM) rfl Tryd.underlying72 rfl ?_
              refine E.nil <| X.next <| ?_
              refine C.cond rfl (fun hC4 => ?_) (fun hC4 => ?_)
              ·
                obtain ⟨rfl, rfl⟩ := hF.isN hM (by simpa using hC4)
                refine C.seq <| C.region <| ?_
                refine E.call rfl rfl (fixedLengths_ret _) ?_
                rintro _ w5 ⟨fl, fd, rfl, m⟩
                have hM := hM.call m
                try dsimp only [List.nil_append, List.cons_append, List.set_cons_zero, List.set_cons_succ, repl] at hM
                try simp only [List.append_nil] at hM
                try dsimp only [List.nil_append, List.cons_append, List.set_cons_zero, List.set_cons_succ, repl] at hM
                refine E.mv rfl rfl <| E.ext rfl rfl rfl <| E.ext rfl rfl rfl <| E.asg rfl rfl <| E.asg rfl rfl <| E.nil <| X.next <| C.region <| E.mv rfl rfl <| E.mv rfl rfl <| ?_
                refine E.call rfl rfl (newDecoder_ret fl Df.fixL _ (hM.sl 2 rfl) (by decide) (by decide) Df.fix_le.1) ?_
                rintro _ w6 ⟨b43, vs43, rfl, m⟩
                have hM := hM.call m
                try dsimp only [List.nil_append, List.cons_append, List.set_cons_zero, List.set_cons_succ, repl] at hM
                try simp only [List.append_nil] at hM
                try dsimp only [List.nil_append, List.cons_append, List.set_cons_zero, List.set_cons_succ, repl] at hM
                refine E.mv rfl rfl <| ?_
                refine E.call rfl rfl (newDecoder_ret fd Df.fixD _ (hM.sl 3 rfl) (by decide) (by decide) Df.fix_le.2) ?_
                rintro _ w7 ⟨b45, vs45, rfl, m⟩
                have hM := hM.call m
                try dsimp only [List.nil_append, List.cons_append, List.set_cons_zero, List.set_cons_succ, repl] at hM
                try simp only [List.append_nil] at hM
                try dsimp only [List.nil_append, List.cons_append, List.set_cons_zero, List.set_cons_succ, repl] at hM
                refine E.mkM (enc := pv) (e := 105) [b43, b45] hM rfl (fun _ => by kernel_rfl) rfl rfl rfl ?_
                intro v46 w6 hM
                try dsimp only [List.nil_append, List.cons_append, List.set_cons_zero, List.set_cons_succ, repl] at hM
                refine E.nilc rfl rfl <| ?_
                refine E.fld (o := 4) (sz := 0) rfl Tryd.underlying74 rfl rfl (by kernel_rfl) rfl ?_
                refine E.storeM 0 hM rfl rfl rfl (by kernel_rfl) (hM.sl 8 rfl).one rfl ?_
                intro w7 hM
                try dsimp only [List.nil_append, List.cons_append, List.set_cons_zero, List.set_cons_succ, repl] at hM

                refine E.nil <| X.join5 v46 b43 b45 vs43 vs45 (Sub.nil _) rfl (hM.pick [0, 1, 8, 4, 5, 6, 7] (by decide))
              ·
                obtain ⟨bl, bd, vl, vd, rfl⟩ := hF.some (by simpa using hC4)

                refine C.skip <| X.join5 fv bl bd vl vd (Sub.nil _) rfl hM
            rintro fv1 bl bd vl vd w8 hM
            refine C.drawnT 13 (by kernel_rfl) (by kernel_rfl) fun wh9 hwh9 => ?_
            have hM := hM.ext hwh9
            refine S.mv rfl rfl <| S.mv rfl rfl <| S.nilc rfl rfl <| ?_
            refine S.fld (o := 4) (sz := 0) rfl Tryd.underlying74 rfl rfl (by kernel_rfl) rfl ?_
            refine S.load rfl Tryd.underlying72 rfl (by first | exact hM.bcell 0 rfl rfl | exact hM.bcell 1 rfl rfl | exact hM.bcell 2 rfl rfl | exact hM.bcell 3 rfl rfl) rfl ?_
            refine S.idx1 (k := 0) rfl rfl (by first | exact hM.sl 0 rfl | exact hM.sl 1 rfl | exact hM.sl 2 rfl | exact hM.sl 3 rfl | exact hM.arg0 (by assumption) | exact hM.arg (by assumption) (by assumption) | assumption) rfl (by first | omega | (simp only [List.length_replicate, List.length_append, List.length_set, List.length_cons, List.length_nil, List.length_map, List.length_range, List.length_take, List.length_drop, List.length_zipWith] at *; omega)) Tryd.underlying72 (by kernel_rfl) rfl ?_
            refine S.load rfl Tryd.underlying105 rfl (by first | exact (hM.sl 0 rfl).cellA rfl (by first | omega | (simp only [List.length_replicate, List.length_append, List.length_set, List.length_cons, List.length_nil, List.length_map, List.length_range, List.length_take, List.length_drop, List.length_zipWith] at *; omega)) | exact (hM.sl 1 rfl).cellA rfl (by first | omega | (simp only [List.length_replicate, List.length_append, List.length_set, List.length_cons, List.length_nil, List.length_map, List.length_range, List.length_take, List.length_drop, List.length_zipWith] at *; omega)) | exact (hM.sl 2 rfl).cellA rfl (by first | omega | (simp only [List.length_replicate, List.length_append, List.length_set, List.length_cons, List.length_nil, List.length_map, List.length_range, List.length_take, List.length_drop, List.length_zipWith] at *; omega)) | exact (hM.sl 3 rfl).cellA rfl (by first | omega | (simp only [List.length_replicate, List.length_append, List.length_set, List.length_cons, List.length_nil, List.length_map, List.length_range, List.length_take, List.length_drop, List.length_zipWith] at *; omega)) | exact (hM.arg0 (by assumption)).cellA rfl (by first | omega | (simp only [List.length_replicate, List.length_append, List.length_set, List.length_cons, List.length_nil, List.length_map, List.length_range, List.length_take, List.length_drop, List.length_zipWith] at *; omega)) | exact (hM.arg (by assumption) (by assumption)).cellA rfl (by first | omega | (simp only [List.length_replicate, List.length_append, List.length_set, List.length_cons, List.length_nil, List.length_map, List.length_range, List.length_take, List.length_drop, List.length_zipWith] at *; omega))) rfl ?_
            refine S.mv rfl rfl <| S.nilc rfl rfl <| ?_
            refine S.fld (o := 4) (sz := 0) rfl Tryd.underlying74 rfl rfl (by kernel_rfl) rfl ?_
            refine S.load rfl Tryd.underlying72 rfl (by first | exact hM.bcell 0 rfl rfl | exact hM.bcell 1 rfl rfl | exact hM.bcell 2 rfl rfl | exact hM.bcell 3 rfl rfl) rfl ?_
            refine S.idx1 (k := 1) rfl rfl (by first | exact hM.sl 0 rfl | exact hM.sl 1 rfl | exact hM.sl 2 rfl | exact hM.sl 3 rfl | exact hM.arg0 (by assumption) | exact hM.arg (by assumption) (by assumption) | assumption) rfl (by first | omega | (simp only [List.length_replicate, List.length_append, List.length_set, List.length_cons, List.length_nil, List.length_map, List.length_range, List.length_take, List.length_drop, List.length_zipWith] at *; omega)) Tryd.underlying72 (by kernel_rfl) rfl ?_
            refine S.load rfl Tryd.underlying105 rfl (by first | exact (hM.sl 0 rfl).cellA rfl (by first | omega | (simp only [List.length_replicate, List.length_append, List.length_set, List.length_cons, List.length_nil, List.length_map, List.length_range, List.length_take, List.length_drop, List.length_zipWith] at *; omega)) | exact (hM.sl 1 rfl).cellA rfl (by first | omega | (simp only [List.length_replicate, List.length_append, List.length_set, List.length_cons, List.length_nil, List.length_map, List.length_range, List.length_take, List.length_drop, List.length_zipWith] at *; omega)) | exact (hM.sl 2 rfl).cellA rfl (by first | omega | (simp only [List.length_replicate, List.length_append, List.length_set, List.length_cons, List.length_nil, List.length_map, List.length_range, List.length_take, List.length_drop, List.length_zipWith] at *; omega)) | exact (hM.sl 3 rfl).cellA rfl (by first | omega | (simp only [List.length_replicate, List.length_append, List.length_set, List.length_cons, List.length_nil, List.length_map, List.length_range, List.length_take, List.length_drop, List.length_zipWith] at *; omega)) | exact (hM.arg0 (by assumption)).cellA rfl (by first | omega | (simp only [List.length_replicate, List.length_append, List.length_set, List.length_cons, List.length_nil, List.length_map, List.length_range, List.length_take, List.length_drop, List.length_zipWith] at *; omega)) | exact (hM.arg (by assumption) (by assumption)).cellA rfl (by first | omega | (simp only [List.length_replicate, List.length_append, List.length_set, List.length_cons, List.length_nil, List.length_map, List.length_range, List.length_take, List.length_drop, List.length_zipWith] at *; omega))) rfl ?_
            refine S.nil ?_
            refine E.call rfl rfl (stokens_ret bl bd vl vd Df.fixL Df.fixD out b a2 lim p vo fv1 l _ (hM.pick [0, 1, 3, 4, 5, 6] (by decide)).sep (hM.arg hp ho) ((hM.pick [0, 1, 3, 4, 5, 6] (by decide)).offS hp ho) (by omega) hl Df.code_fix.1 Df.code_fix.2 (by rw [Df.fix_len.1]; decide) (by rw [Df.fix_len.2]; decide) hol hlim) ?_
            rintro _ w9 ⟨vo3, out3, a3, e3, rfl, m, hr3, hol3⟩
            have hM := hM.calls [0, 1, 3, 4, 5, 6] (by decide) rfl (by simp) m
            try dsimp only [List.nil_append, List.cons_append, List.set_cons_zero, List.set_cons_succ, repl] at hM
            try simp only [List.append_nil] at hM
            try dsimp only [List.nil_append, List.cons_append, List.set_cons_zero, List.set_cons_succ, repl] at hM

            refine E.asg rfl rfl <| E.nil <| X.outN <| X.join6 vo3 fv1 out3 [Rg.sl pv 105 fv1 [bl, bd], Sym.Ax bl 132 16 (fun n => (Df.cn Df.fixL n : Int)) [vl, i64 (Df.mx Df.fixL : Int)], Rg.sl i64 3 vl (nz (Pf.od Df.fixL)), Sym.Ax bd 132 16 (fun n => (Df.cn Df.fixD n : Int)) [vd, i64 (Df.mx Df.fixD : Int)], Rg.sl i64 3 vd (nz (Pf.od Df.fixD))] a3 e3 (Sub.cons rfl <| Sub.nil _) rfl ⟨hM, .inr ⟨bl, bd, vl, vd, rfl⟩, by unfold Df.rkin; rw [if_neg (by decide), if_pos rfl]; exact hr3, hol3⟩
          ·
            refine C.seq <| C.region <| E.bin rfl rfl rfl rfl <| E.asg rfl rfl <| E.nil <| X.next <| ?_
            refine C.cond' rfl (fun hC5 => ?_) (fun hC5 => ?_)
            ·
              obtain rfl : x2 = 2 := by omega
              refine C.region <| E.mv rfl rfl <| ?_
              refine E.call rfl rfl (sown_ret out b a2 lim p vo fv l _ (hM.pick [0, 1] (by decide)).sep (hM.arg hp ho) ((hM.pick [0, 1] (by decide)).offS hp ho) (by omega) hl hol hlim (hM.ord hO hn0) (M_no0 (hM.pick [0, 1] (by decide)) hO hn0)) ?_
              rintro _ w8 ⟨vo3, out3, a3, e3, rfl, m, hr3, hol3⟩
              have hM := hM.calls [0, 1] (by decide) rfl (by simp) m
              try dsimp only [List.nil_append, List.cons_append, List.set_cons_zero, List.set_cons_succ, repl] at hM
              try simp only [List.append_nil] at hM
              try dsimp only [List.nil_append, List.cons_append, List.set_cons_zero, List.set_cons_succ, repl] at hM

              refine E.asg rfl rfl <| E.nil <| X.outN <| X.join6 vo3 fv out3 F a3 e3 (Sub.cons rfl <| Sub.nil _) rfl ⟨hM, hF, by unfold Df.rkin; rw [if_neg (by decide), if_neg (by decide), if_pos rfl]; exact hr3, hol3⟩
            ·

              refine C.region <| E.asg rfl rfl <| E.nil <| X.outN <| X.join6 vo fv out F a2 9 (Sub.cons rfl <| Sub.nil _) rfl ⟨hM, hF, .err (by decide) (by unfold Df.rkin; rw [if_neg (by omega), if_neg (by omega), if_neg (by omega)]), hol⟩
      rintro voq fvq outq Fq aq e w12 ⟨hM, hF', hk, hol'⟩
      refine C.seq <| C.region <| E.mv rfl rfl <| E.bin rfl rfl rfl rfl <| E.mv rfl rfl <| E.asg rfl rfl <| E.asg rfl rfl <| E.nil <| X.next <| C.ret <| ret2 rfl rfl rfl ?_
      exact ⟨voq, fvq, outq, Fq, aq, x1, e, rfl, hM, hF', Df.rblk_rd hq1 hq2 hk, hol'⟩

end Go.Proofs.YtcmgbjmcklfkcaaDoor
