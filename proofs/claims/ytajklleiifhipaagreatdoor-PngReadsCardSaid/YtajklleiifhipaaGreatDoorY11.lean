/- Texts of the claim, laid together: Df3, Df8, Arg34, CrcMath, JnM, PgC. -/
import Derived.Lib.LaidTab
import Derived.Deep.Slices
import Derived.Test.YtajklleiifhipaaGreatDoorY0
import Derived.Test.YtajklleiifhipaaGreatDoorY1
import Derived.Test.YtajklleiifhipaaGreatDoorY5
import Derived.Test.YtajklleiifhipaaGreatDoorY6
import Derived.Test.YtajklleiifhipaaGreatDoorY10
set_option linter.unusedSimpArgs false
set_option linter.unusedVariables false
namespace Go.Proofs.YtajklleiifhipaaGreatDoor
open Go.RowKit Sym
set_option maxHeartbeats 4000000 in
set_option maxRecDepth 4000 in
theorem tokens_ret (b : Nat) (vo vl vc dl dc vt : Value) (B : List Bool) (L D ts : List Nat) (w : World) (hs : Sep w [Rg.blk b 81 [vo, i64 (fr B)], Rg.sl u8 5 vo (Df.pk B), Rg.sl i64 3 vl (nz L), Rg.sl i64 3 vc (Pf.cdl L), Rg.sl i64 3 dl (nz D), Rg.sl i64 3 dc (Pf.cdl D), Rg.sl i64 3 vt (nz ts)]) (htk : ∀ t ∈ ts, Df.Tok t) (hL : 286 ≤ L.length) (hD : 30 ≤ D.length) (hbL : ∀ n ∈ L, n ≤ 30) (hbD : ∀ n ∈ D, n ≤ 30) (hkL : Pf.kr L ≤ 1073741824) (hkD : Pf.kr D ≤ 1073741824) (hl : B.length + 100 * ts.length ≤ 274877906944) :
  Ret Tryz.prog 66 #[pv b, vt, .agg #[vl, vc], .agg #[dl, dc]] w fun v w' => ∃ vn, M w (fpU [Rg.blk b 81 [vo, i64 (fr B)], Rg.sl u8 5 vo (Df.pk B), Rg.sl i64 3 vl (nz L), Rg.sl i64 3 vc (Pf.cdl L), Rg.sl i64 3 dl (nz D), Rg.sl i64 3 dc (Pf.cdl D), Rg.sl i64 3 vt (nz ts)]) w' [Rg.blk b 81 [vn, i64 (fr (B ++ Df.tbs L D ts ++ btv (Pf.code L 256) (L.getD 256 0)))], Rg.sl u8 5 vn (Df.pk (B ++ Df.tbs L D ts ++ btv (Pf.code L 256) (L.getD 256 0))), Rg.sl i64 3 vl (nz L), Rg.sl i64 3 vc (Pf.cdl L), Rg.sl i64 3 dl (nz D), Rg.sl i64 3 dc (Pf.cdl D), Rg.sl i64 3 vt (nz ts)] := by
 have hM := M.startS hs
 refine enter Tryz.func66 rfl (by kernel_rfl) Tryz.ntmps66 rfl $ Kb $ ?_
 have hnt := nz_len ts
 refine E.boxM hM rfl rfl rfl ?_
 intro b6 w0 hM
 try dsimp only [Za, Zb, Zc, Zd, repl] at hM
 refine E.boxM hM rfl rfl rfl ?_
 intro b7 w1 hM
 try dsimp only [Za, Zb, Zc, Zd, repl] at hM
 refine Ka $ C.seq $ Kb $ Km rfl $ E.lenv rfl (Rd.shape (hM.sl 6 rfl)) U76 rfl ?_
 rw [nz_len]
 refine Km rfl $ Ka $ C.block $ C.loop2 [(0, _), (6, _), (7, _), (13, _), (14, _)] rfl (fun (i : Nat) (vs : Value) => [(15, i64 i)]) (fun (i : Nat) (vs : Value) w' => M w (fpU [Rg.blk b 81 [vo, i64 (fr B)], Rg.sl u8 5 vo (Df.pk B), Rg.sl i64 3 vl (nz L), Rg.sl i64 3 vc (Pf.cdl L), Rg.sl i64 3 dl (nz D), Rg.sl i64 3 dc (Pf.cdl D), Rg.sl i64 3 vt (nz ts)]) w' [Rg.blk b 81 [vs, i64 (fr (B ++ Df.tbs L D (ts.take i)))], Rg.sl u8 5 vs (Df.pk (B ++ Df.tbs L D (ts.take i))), Rg.sl i64 3 vl (nz L), Rg.sl i64 3 vc (Pf.cdl L), Rg.sl i64 3 dl (nz D), Rg.sl i64 3 dc (Pf.cdl D), Rg.sl i64 3 vt (nz ts), Rg.blk b6 89 [vl, vc], Rg.blk b7 89 [dl, dc]] ∧ i ≤ ts.length) (fun (i : Nat) (vs : Value) => ts.length - i) 0 vo ?_ ?_ ?_
 · exact S1 rfl
 · exact ⟨hM.to (by rw [List.take_zero, show Df.tbs L D [] = [] from rfl, List.append_nil]), Nat.zero_le _⟩
 rintro i vs w2 ⟨hM, hi⟩
 refine Kb $ Kp rfl $ Ka $ C.seq $ C.cond' rfl (fun hC0 => ?_) (fun hC0 => ?_)
 ·
  have hi' : i < ts.length := by omega
  obtain ⟨t, hte⟩ : ∃ t, t = ts[i] := ⟨_, rfl⟩
  have htt := htk ts[i] (List.getElem_mem hi')
  rw [← hte] at htt
  have hsn := Df.tbs_snoc (L := L) (D := D) hi'
  rw [← hte] at hsn
  have hBl : (B ++ Df.tbs L D (ts.take i)).length ≤ 274877906944 := by
   have := Df.tbs_len hbL hbD (ts := ts.take i) (fun x hx => htk x (List.mem_of_mem_take hx))
   rw [List.length_append]; rw [List.length_take] at this; omega
  obtain ⟨Bi, hBi⟩ : ∃ X, X = B ++ Df.tbs L D (ts.take i) := ⟨_, rfl⟩
  rw [← hBi] at hM hBl
  refine Kk $ C.cut1 [(0, _), (6, _), (7, _), (13, _), (14, _), (15, _)] rfl (fun (vn : Value) => []) (fun (vn : Value) w' => M w (fpU [Rg.blk b 81 [vo, i64 (fr B)], Rg.sl u8 5 vo (Df.pk B), Rg.sl i64 3 vl (nz L), Rg.sl i64 3 vc (Pf.cdl L), Rg.sl i64 3 dl (nz D), Rg.sl i64 3 dc (Pf.cdl D), Rg.sl i64 3 vt (nz ts)]) w' [Rg.blk b 81 [vn, i64 (fr (B ++ Df.tbs L D (ts.take (i + 1))))], Rg.sl u8 5 vn (Df.pk (B ++ Df.tbs L D (ts.take (i + 1)))), Rg.sl i64 3 vl (nz L), Rg.sl i64 3 vc (Pf.cdl L), Rg.sl i64 3 dl (nz D), Rg.sl i64 3 dc (Pf.cdl D), Rg.sl i64 3 vt (nz ts), Rg.blk b6 89 [vl, vc], Rg.blk b7 89 [dl, dc]]) ?_ ?_
  ·
   refine C.block $ Kb $ E.get (k := i) rfl rfl (hM.sl 6 rfl) rfl (by omega) U76 (by kernel_rfl) U3 rfl rfl rfl ?_
   rw [nz_get hi', ← hte]
   refine Kc rfl $ C.seq $ Kb $ Km rfl $ Kp rfl $ Ka $ C.cond' rfl (fun hC1 => ?_) (fun hC1 => ?_)
   ·
    have h255 : t ≤ 255 := by omega
    refine Kb $ Km rfl $ E.loadA (cs := [vl, vc]) rfl Tryz.underlying89 rfl (by kernel_rfl) (hM.bat 7 rfl) rfl $ Km rfl $ E.call rfl rfl (symbol_ret b vs vl vc Bi L t _ (hM.pick [0, 1, 2, 3] (by decide)).sep (by omega) hbL hkL (by omega)) ?_
    rintro _ w1 ⟨vn1, m⟩
    have hM := hM.calls [0, 1, 2, 3] (by decide) rfl (by simp) m
    try dsimp only [Za, Zb, Zc, Zd, repl] at hM
    try dsimp only [Za, Zb, Zc, Zd, repl] at hM
    refine Ka $ C.exit $ X.exitT $ X.outE $ X.join1 vn1 (Sub.nil _) rfl (hM.to (by rw [hsn, Df.tb, if_pos h255, hBi, List.append_assoc]))
   have h255 : ¬ t ≤ 255 := by omega
   obtain ⟨h3, h258, hd1, hd2⟩ := htt.resolve_left h255
   obtain ⟨ga, gb, gc, gd⟩ := Df.lsy_spec h3 h258
   obtain ⟨ka, kb, kc⟩ := Df.dsy_spec hd1 hd2
   have hx1 := Df.lx_bd (Df.lsy (t / 65536)) (by omega)
   have hx2 := Df.dx_bd (Df.dsy (t % 65536)) (by omega)
   have htb : t ≤ 16973823 := by omega
   have hgL := Df.gd30 hbL (Df.lsy (t / 65536))
   have hgD := Df.gd30 hbD (Df.dsy (t % 65536))
   rw [Df.tb, if_neg h255] at hsn
   refine Kk $ Kb $ Km rfl $ E.shr rfl rfl (by decide) (shr16 t) rfl $ E.call rfl rfl (lengthSymbol_ret (t / 65536) _ h3 h258) ?_
   rintro _ w2 ⟨rfl, x2⟩
   have hM := hM.ext x2
   try dsimp only [Za, Zb, Zc, Zd, repl] at hM
   refine Kd rfl $ Km rfl $ E.call rfl rfl (lengthOf_ret (Df.lsy (t / 65536)) _ ga gb) ?_
   rintro _ w3 ⟨rfl, x3⟩
   have hM := hM.ext x3
   try dsimp only [Za, Zb, Zc, Zd, repl] at hM
   refine Km rfl $ E.ext rfl rfl rfl $ E.ext rfl rfl rfl $ Kn rfl $ Kd rfl $ Km rfl $ E.loadA (cs := [vl, vc]) rfl Tryz.underlying89 rfl (by kernel_rfl) (hM.bat 7 rfl) rfl $ Km rfl $ E.call rfl rfl (symbol_ret b vs vl vc Bi L (Df.lsy (t / 65536)) _ (hM.pick [0, 1, 2, 3] (by decide)).sep (by omega) hbL hkL (by omega)) ?_
   rintro _ w4 ⟨vn4, m⟩
   have hM := hM.calls [0, 1, 2, 3] (by decide) rfl (by simp) m
   try dsimp only [Za, Zb, Zc, Zd, repl] at hM
   try dsimp only [Za, Zb, Zc, Zd, repl] at hM
   refine Ke $ Kf rfl $ E.shr rfl rfl (by decide) (shr16 t) rfl $ Km rfl $ E.subN (a := t / 65536) (b := Df.lls (Df.lsy (t / 65536))) rfl rfl (by omega) rfl $ Km rfl $ E.call rfl rfl (bits_ret b vn4 _ (t / 65536 - Df.lls (Df.lsy (t / 65536))) (Df.lxt (Df.lsy (t / 65536))) _ (hM.pick [0, 1] (by decide)).sep (by omega) (by omega) (by rw [List.length_append, btv_len]; omega)) ?_
   rintro _ w5 ⟨vn5, m⟩
   have hM := hM.calls [0, 1] (by decide) rfl (by simp) m
   try dsimp only [Za, Zb, Zc, Zd, repl] at hM
   try dsimp only [Za, Zb, Zc, Zd, repl] at hM
   refine Ke $ Km rfl $ E.binw rfl rfl rfl (congrArg _ (low16 t (by omega))) rfl $ E.call rfl rfl (distanceSymbol_ret (t % 65536) _ hd1) ?_
   rintro _ w6 ⟨rfl, x6⟩
   have hM := hM.ext x6
   try dsimp only [Za, Zb, Zc, Zd, repl] at hM
   refine Kd rfl $ Km rfl $ E.call rfl rfl (distanceOf_ret (Df.dsy (t % 65536)) _ ka) ?_
   rintro _ w7 ⟨rfl, x7⟩
   have hM := hM.ext x7
   try dsimp only [Za, Zb, Zc, Zd, repl] at hM
   refine Km rfl $ E.ext rfl rfl rfl $ E.ext rfl rfl rfl $ Kn rfl $ Kd rfl $ Km rfl $ E.loadA (cs := [dl, dc]) rfl Tryz.underlying89 rfl (by kernel_rfl) (hM.bat 8 rfl) rfl $ Km rfl $ E.call rfl rfl (symbol_ret b vn5 dl dc _ D (Df.dsy (t % 65536)) _ (hM.pick [0, 1, 4, 5] (by decide)).sep (by omega) hbD hkD (by rw [List.length_append, List.length_append, btv_len, Df.low_len]; omega)) ?_
   rintro _ w8 ⟨vn8, m⟩
   have hM := hM.calls [0, 1, 4, 5] (by decide) rfl (by simp) m
   try dsimp only [Za, Zb, Zc, Zd, repl] at hM
   try dsimp only [Za, Zb, Zc, Zd, repl] at hM
   refine Ka $ C.region $ Kf rfl $ E.binw rfl rfl rfl (congrArg _ (low16 t (by omega))) rfl $ Km rfl $ E.subN (a := t % 65536) (b := Df.dls (Df.dsy (t % 65536))) rfl rfl (by omega) rfl $ Km rfl $ E.call rfl rfl (bits_ret b vn8 _ (t % 65536 - Df.dls (Df.dsy (t % 65536))) (Df.dxt (Df.dsy (t % 65536))) _ (hM.pick [0, 1] (by decide)).sep (by omega) (by omega) (by rw [List.length_append, List.length_append, List.length_append, btv_len, Df.low_len, btv_len]; omega)) ?_
   rintro _ w9 ⟨vn9, m⟩
   have hM := hM.calls [0, 1] (by decide) rfl (by simp) m
   try dsimp only [Za, Zb, Zc, Zd, repl] at hM
   try dsimp only [Za, Zb, Zc, Zd, repl] at hM
   refine E.nil $ X.outN $ X.join1 vn9 (Sub.nil _) rfl (hM.to (by rw [hsn, hBi]; simp only [List.append_assoc]))
  rintro vn w12 hM
  refine C.region $ E.add rfl rfl (by omega) rfl $ Km rfl $ E.nil $ X.again2 (i + 1) vn (S1 rfl) rfl ⟨hM, by omega⟩ (by omega)
 obtain rfl : i = ts.length := by omega
 rw [List.take_length] at hM
 have hBl := Df.tbs_len hbL hbD htk
 refine Kx $ C.region $ Km rfl $ E.loadA (cs := [vl, vc]) rfl Tryz.underlying89 rfl (by kernel_rfl) (hM.bat 7 rfl) rfl $ E.call rfl rfl (symbol_ret b vs vl vc _ L 256 _ (hM.pick [0, 1, 2, 3] (by decide)).sep (by omega) hbL hkL (by rw [List.length_append]; omega)) ?_
 rintro _ w10 ⟨vn10, m⟩
 have hM := hM.calls [0, 1, 2, 3] (by decide) rfl (by simp) m
 try dsimp only [Za, Zb, Zc, Zd, repl] at hM
 try dsimp only [Za, Zb, Zc, Zd, repl] at hM
 refine E.nil $ end0 rfl ?_
 exact ⟨vn10, hM.pick [0, 1, 2, 3, 4, 5, 6] (by decide)⟩
end Go.Proofs.YtajklleiifhipaaGreatDoor
namespace Go.Proofs.YtajklleiifhipaaGreatDoor
open Go.RowKit Sym
open Df (Stp)
namespace Sym
section
variable {P : Program} {ops : Array Oper} {Q : Exit → Act → World → Prop} {s : St} {env : Env} {w : World} {rest : List Oper} {d : Nat} {ty : TypeId} {pos : String} {aft : Array Edge}
theorem run_idxV {t e : TypeId} {n k : Nat} {cs : List Value} {kd kk : IntKind} {v : Value} (ht : P.underlying t = some (.array n e)) (he : P.underlying e = some (.int kk)) (hs : (P.info? e).map (·.size) = some 1) (hk : k < n) (hv : cs[k]? = some v) : (Instr.index t (.agg cs.toArray) (.int kd (k : Int))).run P w = .ok v w := by
 obtain ⟨i, hi, hs'⟩ := Option.map_eq_some_iff.1 hs
 have h1 : (0 : Int) ≤ (k : Int) ∧ (k : Int) < (n : Int) := by omega
 have hagg : (isAgg e).run P w = .ok false w := by unfold isAgg; rw [Sem.run_bind, run_underlying he w]; rfl
 have h2 : ¬ n ≤ k := by omega
 simp [Instr.index, asIntOf, run_underlying ht, h1, hk, h2, sizeOf, typeInfo, hi, hs', part, hagg, hv]
theorem E.idxV {t e : TypeId} {n : Nat} {x ix : Operand} {cs : List Value} {i : Int} {kd kk : IntKind} {v : Value} (k : Nat) (hx : ev env x = some (.agg cs.toArray)) (hi : ev env ix = some (.int kd i)) (hik : i = (k : Int)) (ht : P.underlying t = some (.array n e)) (he : P.underlying e = some (.int kk)) (hs : (P.info? e).map (·.size) = some 1) (hk : k < n) (hv : cs[k]? = some v) (hd : Nat.blt d s.n = true)
  (h : wpE P ops Q s rest ((d, v) :: env) w) : wpE P ops Q s (⟨some d, .index t x ix, ty, pos, aft, none⟩ :: rest) env w := by
 subst hik
 exact E.op (fun a ha => by simp only [execOp, ha.ev hx, ha.ev hi]; rw [Sem.run_bind, run_idxV ht he hs hk hv]; rfl) hd h
end
end Sym
structure Ord (w : World) : Prop where
 at_ : At w 0 0 (Df.ordL.map fun n : Nat => i64 (n : Int))
 lt : 0 < w.heap.size
theorem Ord.step {S : Nat → Prop} {w0 w : World} (h : Ord w0) (k : FrS S w0 w) (hn : ¬ S 0) : Ord w := by
 refine ⟨fun j u hu => ?_, Nat.lt_of_lt_of_le h.lt k.size⟩
 have h1 := h.at_ j u hu
 have h2 := k.block 0 h.lt hn
 unfold World.cell? at h1 ⊢
 rw [h2]; exact h1
theorem Sym.M.ord {S : Nat → Prop} {w0 w : World} {rs : List Rg} (h : M w0 S w rs) (hO : Ord w0) (hn : ¬ S 0) : Ord w := hO.step h.fr hn
theorem Sym.M.ord0 {w0 w : World} {rs : List Rg} (h : M w0 Nn w rs) (hO : Ord w0) : Ord w := hO.step h.fr (fun h => h)
theorem Sym.M.no0 {w0 w : World} {rs : List Rg} (h : M w0 Nn w rs) (hO : Ord w0) : ¬ fpU rs 0 := fun ⟨i, r, hi, hk⟩ => by
 rcases h.mine i r hi 0 hk with h1 | h1
 · exact h1
 have := hO.lt; omega
theorem nz_app' (a b : List Nat) : nz (a ++ b) = nz a ++ nz b := List.map_append
theorem nz_cut {w : World} {p : Value} {l : List Nat} {n : Nat} (h : RdL i64 w p (nz l)) (hn : n ≤ l.length) : RdL i64 w (partV p 0 n) (nz (l.take n)) := by
 have := h.partV (a := 0) (b := n) (Nat.zero_le _) (by rw [nz_len]; exact hn)
 rw [show cutL 0 n (nz l) = nz (l.take n) by unfold cutL nz; rw [List.drop_zero, Nat.sub_zero, List.map_take]] at this; exact this
abbrev lsf (c : List Nat) (i : Nat) : Int := ((c.getD (Df.ordL.getD i 0) 0 : Nat) : Int)
theorem lsf_all (c : List Nat) : tab 19 (lsf c) = nz (Df.lst c) := rfl
theorem ord_lt : ∀ i, i < 19 → Df.ordL.getD i 0 < 19 := by decide
theorem ord_at {i : Nat} (h : i < 19) : (Df.ordL.map fun n : Nat => i64 (n : Int))[i]? = some (i64 ((Df.ordL.getD i 0 : Nat) : Int)) := by
 rw [List.getElem?_map, List.getElem?_eq_getElem (show i < Df.ordL.length from h), Pf.getD_eq (show i < Df.ordL.length from h)]; rfl
namespace Df
theorem hdr3_snoc {c : List Nat} {i : Nat} (h : i < 19) : hdr3 c (i + 1) = hdr3 c i ++ low ((lst c).getD i 0) 3 := by
 unfold hdr3
 rw [← List.take_append_getElem (show i < (lst c).length from h), List.flatMap_append, Pf.getD_eq (show i < (lst c).length from h)]; simp
theorem hdr3_len (c : List Nat) (i : Nat) : (hdr3 c i).length ≤ 3 * 19 := by
 unfold hdr3
 have : ∀ l : List Nat, (l.flatMap fun n => low n 3).length = 3 * l.length := fun l => by
  induction l with
  | nil => rfl
  | cons a l ih => rw [List.flatMap_cons, List.length_append, low_len, ih, List.length_cons]; omega
 rw [this, List.length_take, lst_len]; omega
theorem sbits_len {c : List Nat} (hc : ∀ n ∈ c, n ≤ 30) {m : Nat} (x : Stp) (hx : Sok m x) : (sbits c x).length ≤ 40 := by
 have := gd30 hc x.1
 unfold sbits
 rw [List.length_append, btv_len, low_len]
 rcases hx with h | h | h | h
 · rw [h.2]; show _ + 0 ≤ 40; omega
 · omega
 · omega
 omega
theorem sbs_len {c : List Nat} (hc : ∀ n ∈ c, n ≤ 30) {m : Nat} : ∀ {st : List Stp}, (∀ x ∈ st, Sok m x) → (st.flatMap (sbits c)).length ≤ 40 * st.length
 | [], _ => by simp
 | x :: st, h => by
  have h1 := sbits_len hc x (h x (by simp))
  have h2 := sbs_len hc (st := st) fun y hy => h y (by simp [hy])
  rw [List.flatMap_cons, List.length_append, List.length_cons]; omega
theorem sbs_snoc {c : List Nat} {st : List Stp} {i : Nat} (h : i < st.length) : (st.take (i + 1)).flatMap (sbits c) = (st.take i).flatMap (sbits c) ++ sbits c st[i] := by
 rw [← List.take_append_getElem h, List.flatMap_append]; simp
theorem allL_len {L D : List Nat} (hL : L.length = 286) (hD : D.length = 30) : (allL L D).length ≤ 316 := by
 have h1 := ctn_le L 257; have h2 := ctn_le D 1
 unfold allL; rw [List.length_append, List.length_take, List.length_take]; omega
theorem allL_mem {L D : List Nat} {m : Nat} (hL : ∀ n ∈ L, n ≤ m) (hD : ∀ n ∈ D, n ≤ m) : ∀ n ∈ allL L D, n ≤ m := fun n hn => by
 rcases List.mem_append.1 hn with h | h
 · exact hL n (List.mem_of_mem_take h)
 exact hD n (List.mem_of_mem_take h)
end Df
set_option maxHeartbeats 8000000 in
set_option maxRecDepth 8000 in
theorem header_ret (b : Nat) (vo vl dl : Value) (B : List Bool) (L D : List Nat) (w : World) (hs : Sep w [Rg.blk b 81 [vo, i64 (fr B)], Rg.sl u8 5 vo (Df.pk B), Rg.sl i64 3 vl (nz L), Rg.sl i64 3 dl (nz D)]) (hO : Ord w) (hn0 : ¬ fpU [Rg.blk b 81 [vo, i64 (fr B)], Rg.sl u8 5 vo (Df.pk B), Rg.sl i64 3 vl (nz L), Rg.sl i64 3 dl (nz D)] 0) (hL : L.length = 286) (hD : D.length = 30) (hbL : ∀ n ∈ L, n ≤ 15) (hbD : ∀ n ∈ D, n ≤ 15) (hl : B.length ≤ 1000) :
  Ret Tryz.prog 65 #[pv b, vl, dl] w fun v w' => ∃ vn, M w (fpU [Rg.blk b 81 [vo, i64 (fr B)], Rg.sl u8 5 vo (Df.pk B), Rg.sl i64 3 vl (nz L), Rg.sl i64 3 dl (nz D)]) w' [Rg.blk b 81 [vn, i64 (fr (B ++ Df.hdr L D))], Rg.sl u8 5 vn (Df.pk (B ++ Df.hdr L D)), Rg.sl i64 3 vl (nz L), Rg.sl i64 3 dl (nz D)] := by
 have hM := M.startS hs
 refine enter Tryz.func65 rfl (by kernel_rfl) Tryz.ntmps65 rfl $ Kb $ Km rfl $ ?_
 have hc1 := Df.ctn_le L 257
 have hc2 := Df.ctn_le D 1
 have hc3 := Df.ctn_ge (l := L) (least := 257) (by omega)
 have hc4 := Df.ctn_ge (l := D) (least := 1) (by omega)
 have hal := Df.allL_len hL hD
 have hst := Df.sq_ok (m := 15) (Df.allL_mem hbL hbD) 0
 have hsl := Df.sq_len (Df.allL L D) 0
 obtain ⟨st, hste⟩ : ∃ x, x = Df.sq (Df.allL L D) 0 := ⟨_, rfl⟩
 rw [← hste] at hst hsl
 obtain ⟨hlw, hll, hlp, _, _⟩ := Df.oln_law (fs := Df.frqS st) (m := 7) (by decide) (by decide) (fun n hn => by have := Df.frqS_bd st n hn; omega) (by rw [Df.frqS_len]; decide) (by rw [Df.frqS_len]; decide)
 obtain ⟨hcb, hck⟩ := Df.oln_ok (fs := Df.frqS st) (m := 7) (by decide) (by decide) (fun n hn => by have := Df.frqS_bd st n hn; omega) (by rw [Df.frqS_len]; decide) (by rw [Df.frqS_len]; decide)
 obtain ⟨c, hce⟩ : ∃ x, x = Df.oln (Df.frqS st) 7 := ⟨_, rfl⟩
 rw [← hce] at hlw hll hlp hcb hck
 rw [Df.frqS_len] at hll
 have hc30 : ∀ n ∈ c, n ≤ 30 := fun n hn => Nat.le_trans (hcb n hn) (by decide)
 have hhd : Df.hdr L D = Df.low (Df.ctn L 257 - 257) 5 ++ Df.low (Df.ctn D 1 - 1) 5 ++ Df.low (Df.ctn (Df.lst c) 4 - 4) 4 ++ Df.hdr3 c (Df.ctn (Df.lst c) 4) ++ st.flatMap (Df.sbits c) := by rw [hce, hste]; rfl
 have hk1 := Df.ctn_le (Df.lst c) 4
 have hk2 := Df.ctn_ge (l := Df.lst c) (least := 4) (by rw [Df.lst_len]; decide)
 rw [Df.lst_len] at hk1
 refine E.call rfl rfl (cut_ret vl L 257 _ (hM.sl 2 rfl)) ?_
 rintro _ w1 ⟨rfl, x1⟩
 have hM := hM.ext x1
 try dsimp only [Za, Zb, Zc, Zd, repl] at hM
 refine Km rfl $ E.call rfl rfl (cut_ret dl D 1 _ (hM.sl 3 rfl)) ?_
 rintro _ w2 ⟨rfl, x2⟩
 have hM := hM.ext x2
 try dsimp only [Za, Zb, Zc, Zd, repl] at hM
 refine Kn rfl $ Kd rfl $ E.mkM (enc := i64) (e := 3) [] hM rfl (fun _ => by kernel_rfl) rfl rfl rfl ?_
 intro v25 w2 hM
 try dsimp only [Za, Zb, Zc, Zd, repl] at hM
 refine Km rfl $ E.appendM 4 hM rfl rfl rfl U76 elem_Tint (nz_cut (hM.sl 2 rfl) hc1) (fun _ => rfl) (by simp only [nz_len, List.length_take, List.length_nil]; omega) (by simp only [nz_len, List.length_take, List.length_nil]; omega) rfl ?_
 intro v27 w3 hM
 try dsimp only [Za, Zb, Zc, Zd, repl] at hM
 refine Km rfl $ E.appendM 4 hM rfl rfl rfl U76 elem_Tint (nz_cut (hM.sl 3 rfl) hc2) (fun _ => rfl) (by simp only [nz_len, List.length_take]; omega) (by simp only [nz_len, List.length_take]; omega) rfl ?_
 intro v29 w4 hM
 try dsimp only [Za, Zb, Zc, Zd, repl] at hM
 rw [← nz_app'] at hM
 refine Kd rfl $ Km rfl $ E.call rfl rfl (sequence_ret v29 (Df.allL L D) _ (hM.sl 4 rfl) (by omega)) ?_
 rintro v31 w3 m
 have hM := hM.call m
 try dsimp only [Za, Zb, Zc, Zd, repl] at hM
 rw [← hste] at hM
 try dsimp only [Za, Zb, Zc, Zd, repl] at hM
 refine Kd rfl $ E.makeM (by_ := 8) (enc := i64) 0 hM rfl U76 (by kernel_rfl) rfl (by (simp only [List.length_replicate, List.length_append, List.length_set, List.length_cons, List.length_nil, List.length_map, List.length_range, List.length_take, List.length_drop, List.length_zipWith] at *; omega)) (by (simp only [List.length_replicate, List.length_append, List.length_set, List.length_cons, List.length_nil, List.length_map, List.length_range, List.length_take, List.length_drop, List.length_zipWith] at *; omega)) rfl ?_
 intro v32 w6 hM
 try dsimp only [Za, Zb, Zc, Zd, repl] at hM
 refine Kc rfl $ C.seq $ Kb $ Km rfl $ E.lenv rfl (RdF.shape (hM.slF 5 rfl)) Tryz.underlying122 rfl $ Km rfl $ Ka $ C.block $ C.loop1 [(0, _), (1, _), (2, _), (7, _), (8, _), (33, _), (34, _)] rfl (fun (i : Nat) => [(35, i64 i)]) (fun (i : Nat) w' => M w (fpU [Rg.blk b 81 [vo, i64 (fr B)], Rg.sl u8 5 vo (Df.pk B), Rg.sl i64 3 vl (nz L), Rg.sl i64 3 dl (nz D)]) w' [Rg.blk b 81 [vo, i64 (fr B)], Rg.sl u8 5 vo (Df.pk B), Rg.sl i64 3 vl (nz L), Rg.sl i64 3 dl (nz D), Rg.sl i64 3 v29 (nz (Df.allL L D)), Rg.slF es 3 125 v31 st, Rg.sl i64 3 v32 (nz (Df.frqS (st.take i)))] ∧ i ≤ st.length) (fun (i : Nat) => st.length - i) 0 ?_ ?_ ?_
 · exact S1 rfl
 · exact ⟨hM, Nat.zero_le _⟩
 rintro i w7 ⟨hM, hi⟩
 refine Kb $ Kp rfl $ Ka $ C.seq $ C.cond' rfl (fun hC0 => ?_) (fun hC0 => ?_)
 ·
  have hi' : i < st.length := by omega
  have hfl := Df.frqS_len (st.take i)
  have hfb := Df.frqS_bd (st.take i)
  have htl : (st.take i).length ≤ 316 := by rw [List.length_take]; omega
  have hx1 : st[i].1 < 19 := by rcases hst _ (List.getElem_mem hi') with h | h | h | h <;> omega
  have hfs := Df.frqS_snoc hi'
  refine Kk $ C.seq $ C.block $ Kb $ E.idxF (k := i) rfl rfl (hM.slF 5 rfl) rfl hi' (by decide) Tryz.underlying122 (by kernel_rfl) rfl $ E.loadA (cs := es st[i]) rfl Tryz.underlying125 rfl (by kernel_rfl) ((hM.slF 5 rfl).all hi') rfl $ E.allocM (z := .agg #[.int .i64 0, .int .i64 0, .int .i64 0]) (cs := [.int .i64 0, .int .i64 0, .int .i64 0]) hM (by kernel_rfl) rfl rfl ?_
  intro b10 w8 hM
  try dsimp only [Za, Zb, Zc, Zd, repl] at hM
  refine E.storeAM 7 (cs := es st[i]) hM rfl rfl rfl (by kernel_rfl) rfl (es_one _) ?_
  intro w9 hM
  try dsimp only [Za, Zb, Zc, Zd, repl] at hM
  refine Ka $ C.region $ Km rfl $ E.fld (o := 0) (sz := 0) rfl Tryz.underlying125 rfl rfl (by kernel_rfl) rfl $ E.load rfl U3 rfl (hM.bcell 7 rfl rfl) rfl $ E.get (k := st[i].1) rfl rfl (hM.sl 6 rfl) rfl (by rw [nz_len]; omega) U76 (by kernel_rfl) U3 rfl rfl rfl ?_
  rw [nz_gd]
  refine E.addN (a := (Df.frqS (st.take i)).getD st[i].1 0) (b := 1) rfl rfl (by have := gdB hfb st[i].1; omega) rfl $ E.idx1 (k := st[i].1) rfl rfl (hM.sl 6 rfl) rfl (by rw [nz_len]; omega) U76 (by kernel_rfl) rfl $ E.storeL (enc := i64) 6 (((Df.frqS (st.take i)).getD st[i].1 0 + 1 : Nat) : Int) hM rfl rfl rfl (by kernel_rfl) rfl rfl (by rw [nz_len]; omega) ?_
  intro w10 hM
  try dsimp only [Za, Zb, Zc, Zd, repl] at hM
  rw [Df.nz_bmp, ← hfs] at hM
  refine E.nil $ X.outN $ X.next $ C.region $ E.addN (a := i) (b := 1) rfl rfl (by omega) rfl $ Km rfl $ E.nil $ X.again1 (i + 1) (S1 rfl) rfl ⟨hM.pick [0, 1, 2, 3, 4, 5, 6] (by decide), by omega⟩ (by omega)
 obtain rfl : i = st.length := by omega
 rw [List.take_length] at hM
 refine Kx $ Kb $ Km rfl $ E.call rfl rfl (Lengths_ret v32 (nz (Df.frqS st)) 7 _ (hM.sl 6 rfl)) ?_
 rintro _ w5 ⟨v49, rfl, m⟩
 have hM := hM.call m
 try dsimp only [Za, Zb, Zc, Zd, repl] at hM
 rw [show lnv (nz (Df.frqS st)) 7 = _ from hlw] at hM
 try dsimp only [Za, Zb, Zc, Zd, repl] at hM
 refine Km rfl $ E.ext rfl rfl rfl $ E.ext rfl rfl rfl $ Kn rfl $ Kd rfl $ E.makeM (by_ := 8) (enc := i64) 0 hM rfl U76 (by kernel_rfl) rfl (by (simp only [List.length_replicate, List.length_append, List.length_set, List.length_cons, List.length_nil, List.length_map, List.length_range, List.length_take, List.length_drop, List.length_zipWith] at *; omega)) (by (simp only [List.length_replicate, List.length_append, List.length_set, List.length_cons, List.length_nil, List.length_map, List.length_range, List.length_take, List.length_drop, List.length_zipWith] at *; omega)) rfl ?_
 intro v52 w12 hM
 try dsimp only [Za, Zb, Zc, Zd, repl] at hM
 refine Kc rfl $ C.seq $ Kb $ E.loadA (b := 0) (cs := Df.ordL.map fun n : Nat => i64 (n : Int)) rfl Tryz.underlying126 rfl (by kernel_rfl) (hM.ord hO hn0).at_ rfl $ Km rfl $ Ka $ C.block $ C.loop1 [(0, _), (1, _), (2, _), (7, _), (11, _), (13, _), (53, _)] rfl (fun (i : Nat) => [(54, i64 i)]) (fun (i : Nat) w' => M w (fpU [Rg.blk b 81 [vo, i64 (fr B)], Rg.sl u8 5 vo (Df.pk B), Rg.sl i64 3 vl (nz L), Rg.sl i64 3 dl (nz D)]) w' [Rg.blk b 81 [vo, i64 (fr B)], Rg.sl u8 5 vo (Df.pk B), Rg.sl i64 3 vl (nz L), Rg.sl i64 3 dl (nz D), Rg.sl i64 3 v29 (nz (Df.allL L D)), Rg.slF es 3 125 v31 st, Rg.sl i64 3 v32 (nz (Df.frqS st)), Rg.sl i64 3 v49 (nz c), Rg.sl i64 3 v52 (tab i (lsf c) ++ List.replicate (19 - i) 0)] ∧ i ≤ 19) (fun (i : Nat) => 19 - i) 0 ?_ ?_ ?_
 · exact S1 rfl
 · exact ⟨hM, by omega⟩
 rintro i w13 ⟨hM, hi⟩
 refine Kb $ Kp rfl $ Ka $ C.seq $ C.cond' rfl (fun hC1 => ?_) (fun hC1 => ?_)
 ·
  have hi' : i < 19 := by omega
  have hol := ord_lt i hi'
  have htl : (tab i (lsf c) ++ List.replicate (19 - i) (0 : Int)).length = 19 := by rw [List.length_append, tab_len, List.length_replicate]; omega
  refine Kk $ C.seq $ C.block $ Kb $ Km rfl $ E.idxV i rfl rfl rfl Tryz.underlying126 U3 (by kernel_rfl) hi' (ord_at hi') rfl $ Kn rfl $ Kc rfl $ C.region $ Kf rfl $ Kf rfl $ E.get (k := Df.ordL.getD i 0) rfl rfl (hM.sl 7 rfl) rfl (by rw [nz_len]; omega) U76 (by kernel_rfl) U3 rfl rfl rfl ?_
  rw [nz_gd]
  refine E.idx1 (k := i) rfl rfl (hM.sl 8 rfl) rfl (by rw [htl]; omega) U76 (by kernel_rfl) rfl $ E.storeL (enc := i64) 8 (lsf c i) hM rfl rfl rfl (by kernel_rfl) rfl rfl (by rw [htl]; omega) ?_
  intro w14 hM
  try dsimp only [Za, Zb, Zc, Zd, repl] at hM
  rw [tab_set hi'] at hM
  refine E.nil $ X.outN $ X.next $ C.region $ E.addN (a := i) (b := 1) rfl rfl (by omega) rfl $ Km rfl $ E.nil $ X.again1 (i + 1) (S1 rfl) rfl ⟨hM, by omega⟩ (by omega)
 obtain rfl : i = 19 := by omega
 rw [show List.replicate (19 - 19) (0 : Int) = [] from rfl, List.append_nil, lsf_all] at hM
 refine Kx $ Kb $ Km rfl $ E.call rfl rfl (cut_ret v52 (Df.lst c) 4 _ (hM.sl 8 rfl)) ?_
 rintro _ w6 ⟨rfl, x6⟩
 have hM := hM.ext x6
 try dsimp only [Za, Zb, Zc, Zd, repl] at hM
 refine Kd rfl $ Kf rfl $ E.lenv rfl (Rd.shape (nz_cut (hM.sl 2 rfl) hc1)) U76 rfl ?_
 rw [nz_len, List.length_take, Nat.min_eq_left hc1]
 refine E.subN (a := Df.ctn L 257) (b := 257) rfl rfl (by omega) rfl $ E.call rfl rfl (bits_ret b vo _ (Df.ctn L 257 - 257) 5 _ (hM.pick [0, 1] (by decide)).sep (by omega) (by decide) (by omega)) ?_
 rintro _ w7 ⟨vn7, m⟩
 have hM := hM.calls [0, 1] (by decide) rfl (by simp) m
 try dsimp only [Za, Zb, Zc, Zd, repl] at hM
 try dsimp only [Za, Zb, Zc, Zd, repl] at hM
 refine Ke $ Kf rfl $ E.lenv rfl (Rd.shape (nz_cut (hM.sl 3 rfl) hc2)) U76 rfl ?_
 rw [nz_len, List.length_take, Nat.min_eq_left hc2]
 refine E.subN (a := Df.ctn D 1) (b := 1) rfl rfl (by omega) rfl $ E.call rfl rfl (bits_ret b vn7 _ (Df.ctn D 1 - 1) 5 _ (hM.pick [0, 1] (by decide)).sep (by omega) (by decide) (by simp only [List.length_append, Df.low_len]; omega)) ?_
 rintro _ w8 ⟨vn8, m⟩
 have hM := hM.calls [0, 1] (by decide) rfl (by simp) m
 try dsimp only [Za, Zb, Zc, Zd, repl] at hM
 try dsimp only [Za, Zb, Zc, Zd, repl] at hM
 refine Ke $ Kf rfl $ E.lenv rfl (Rd.shape (nz_cut (hM.sl 8 rfl) hk1)) U76 rfl ?_
 rw [nz_len, List.length_take, Df.lst_len, Nat.min_eq_left hk1]
 refine E.subN (a := Df.ctn (Df.lst c) 4) (b := 4) rfl rfl (by omega) rfl $ E.call rfl rfl (bits_ret b vn8 _ (Df.ctn (Df.lst c) 4 - 4) 4 _ (hM.pick [0, 1] (by decide)).sep (by omega) (by decide) (by simp only [List.length_append, Df.low_len]; omega)) ?_
 rintro _ w9 ⟨vn9, m⟩
 have hM := hM.calls [0, 1] (by decide) rfl (by simp) m
 try dsimp only [Za, Zb, Zc, Zd, repl] at hM
 try dsimp only [Za, Zb, Zc, Zd, repl] at hM
 refine Ka $ C.seq $ Kb $ Km rfl $ E.lenv rfl (Rd.shape (nz_cut (hM.sl 8 rfl) hk1)) U76 rfl ?_
 rw [nz_len, List.length_take, Df.lst_len, Nat.min_eq_left hk1]
 refine Km rfl $ Ka $ C.block $ C.loop2 [(0, _), (7, _), (11, _), (83, _), (84, _)] rfl (fun (i : Nat) (vs : Value) => [(85, i64 i)]) (fun (i : Nat) (vs : Value) w' => M w (fpU [Rg.blk b 81 [vo, i64 (fr B)], Rg.sl u8 5 vo (Df.pk B), Rg.sl i64 3 vl (nz L), Rg.sl i64 3 dl (nz D)]) w' [Rg.blk b 81 [vs, i64 (fr (B ++ Df.low (Df.ctn L 257 - 257) 5 ++ Df.low (Df.ctn D 1 - 1) 5 ++ Df.low (Df.ctn (Df.lst c) 4 - 4) 4 ++ Df.hdr3 c i))], Rg.sl u8 5 vs (Df.pk (B ++ Df.low (Df.ctn L 257 - 257) 5 ++ Df.low (Df.ctn D 1 - 1) 5 ++ Df.low (Df.ctn (Df.lst c) 4 - 4) 4 ++ Df.hdr3 c i)), Rg.sl i64 3 vl (nz L), Rg.sl i64 3 dl (nz D), Rg.sl i64 3 v29 (nz (Df.allL L D)), Rg.slF es 3 125 v31 st, Rg.sl i64 3 v32 (nz (Df.frqS st)), Rg.sl i64 3 v49 (nz c), Rg.sl i64 3 v52 (nz (Df.lst c))] ∧ i ≤ Df.ctn (Df.lst c) 4) (fun (i : Nat) (vs : Value) => Df.ctn (Df.lst c) 4 - i) 0 vn9 ?_ ?_ ?_
 · exact S1 rfl
 · exact ⟨hM.to (by rw [show Df.hdr3 c 0 = [] from rfl, List.append_nil]), Nat.zero_le _⟩
 rintro i vs w19 ⟨hM, hi⟩
 refine Kb $ Kp rfl $ Ka $ C.seq $ C.cond' rfl (fun hC2 => ?_) (fun hC2 => ?_)
 ·
  have hi' : i < Df.ctn (Df.lst c) 4 := by omega
  have hhl := Df.hdr3_len c i
  have hsn := Df.hdr3_snoc (c := c) (i := i) (by omega)
  have hlb : (Df.lst c).getD i 0 ≤ 7 := gdB (l := Df.lst c) (B := 7) (fun n hn => by obtain ⟨s, _, rfl⟩ := List.mem_map.1 hn; exact gdB hcb s) i
  refine Kk $ C.seq $ C.block $ Kb $ E.get (k := i) rfl rfl (nz_cut (hM.sl 8 rfl) hk1) rfl (by rw [nz_len, List.length_take, Df.lst_len]; omega) U76 (by kernel_rfl) U3 rfl rfl rfl ?_
  rw [nz_gd, List.getD_eq_getElem?_getD, List.getElem?_take_of_lt hi', ← List.getD_eq_getElem?_getD]
  refine Kc rfl $ C.region $ Kf rfl $ E.call rfl rfl (bits_ret b vs _ ((Df.lst c).getD i 0) 3 _ (hM.pick [0, 1] (by decide)).sep (by omega) (by decide) (by simp only [List.length_append, Df.low_len]; omega)) ?_
  rintro _ w10 ⟨vn10, m⟩
  have hM := hM.calls [0, 1] (by decide) rfl (by simp) m
  try dsimp only [Za, Zb, Zc, Zd, repl] at hM
  try dsimp only [Za, Zb, Zc, Zd, repl] at hM
  refine E.nil $ X.outN $ X.next $ C.region $ E.addN (a := i) (b := 1) rfl rfl (by omega) rfl $ Km rfl $ E.nil $ X.again2 (i + 1) vn10 (S1 rfl) rfl ⟨hM.to (by rw [hsn]; simp only [List.append_assoc]), by omega⟩ (by omega)
 obtain rfl : i = Df.ctn (Df.lst c) 4 := by omega
 obtain ⟨Bh, hBh⟩ : ∃ x, x = (B ++ Df.low (Df.ctn L 257 - 257) 5 ++ Df.low (Df.ctn D 1 - 1) 5 ++ Df.low (Df.ctn (Df.lst c) 4 - 4) 4 ++ Df.hdr3 c (Df.ctn (Df.lst c) 4)) := ⟨_, rfl⟩
 have hBl : Bh.length ≤ 1100 := by have := Df.hdr3_len c (Df.ctn (Df.lst c) 4); rw [hBh]; simp only [List.length_append, Df.low_len]; omega
 rw [← hBh] at hM
 refine Kx $ Kb $ Km rfl $ E.call rfl rfl (newCode_ret v49 (nz c) _ (hM.sl 7 rfl)) ?_
 rintro _ w11 ⟨vc, rfl, m⟩
 have hM := hM.call m
 try dsimp only [Za, Zb, Zc, Zd, repl] at hM
 rw [show cdv (nz c) = Pf.cdl c from cdv_ok hc30 hck (by omega)] at hM
 try dsimp only [Za, Zb, Zc, Zd, repl] at hM
 refine E.allocM (z := .agg #[.slice none 0 0, .slice none 0 0]) (cs := [.slice none 0 0, .slice none 0 0]) hM (by kernel_rfl) rfl rfl ?_
 intro b18 w22 hM
 try dsimp only [Za, Zb, Zc, Zd, repl] at hM
 refine E.storeAM 10 (cs := [v49, vc]) hM rfl rfl rfl (by kernel_rfl) rfl (ones (hM.sl 7 rfl).one $ ones (hM.sl 9 rfl).one $ ones_nil) ?_
 intro w23 hM
 try dsimp only [Za, Zb, Zc, Zd, repl] at hM
 refine Ke $ Km rfl $ E.lenv rfl (RdF.shape (hM.slF 5 rfl)) Tryz.underlying122 rfl $ Km rfl $ Ka $ C.block $ C.loop2 [(0, _), (18, _), (95, _), (96, _)] rfl (fun (i : Nat) (vs : Value) => [(97, i64 i)]) (fun (i : Nat) (vs : Value) w' => M w (fpU [Rg.blk b 81 [vo, i64 (fr B)], Rg.sl u8 5 vo (Df.pk B), Rg.sl i64 3 vl (nz L), Rg.sl i64 3 dl (nz D)]) w' [Rg.blk b 81 [vs, i64 (fr (Bh ++ (st.take i).flatMap (Df.sbits c)))], Rg.sl u8 5 vs (Df.pk (Bh ++ (st.take i).flatMap (Df.sbits c))), Rg.sl i64 3 vl (nz L), Rg.sl i64 3 dl (nz D), Rg.sl i64 3 v29 (nz (Df.allL L D)), Rg.slF es 3 125 v31 st, Rg.sl i64 3 v32 (nz (Df.frqS st)), Rg.sl i64 3 v49 (nz c), Rg.sl i64 3 v52 (nz (Df.lst c)), Rg.sl i64 3 vc (Pf.cdl c), Rg.blk b18 89 [v49, vc]] ∧ i ≤ st.length) (fun (i : Nat) (vs : Value) => st.length - i) 0 vs ?_ ?_ ?_
 · exact S1 rfl
 · exact ⟨hM.to (by rw [List.take_zero, List.flatMap_nil, List.append_nil]), Nat.zero_le _⟩
 rintro i vs w24 ⟨hM, hi⟩
 refine Kb $ Kp rfl $ Ka $ C.seq $ C.cond' rfl (fun hC3 => ?_) (fun hC3 => ?_)
 ·
  have hi' : i < st.length := by omega
  have hsx := hst _ (List.getElem_mem hi')
  have hx1 : st[i].1 < 19 := by rcases hsx with h | h | h | h <;> omega
  have hx2 : st[i].2.2 ≤ 7 ∧ st[i].2.1 ≤ 128 := by rcases hsx with h | h | h | h; (rw [h.2]; decide); omega; omega; omega
  have hsn := Df.sbs_snoc (c := c) hi'
  have hbl := Df.sbs_len hc30 (st := st.take i) (fun x hx => hst x (List.mem_of_mem_take hx))
  have htl : (st.take i).length ≤ 316 := by rw [List.length_take]; omega
  have hgc := Df.gd30 hc30 st[i].1
  refine Kk $ C.seq $ C.block $ Kb $ E.idxF (k := i) rfl rfl (hM.slF 5 rfl) rfl hi' (by decide) Tryz.underlying122 (by kernel_rfl) rfl $ E.loadA (cs := es st[i]) rfl Tryz.underlying125 rfl (by kernel_rfl) ((hM.slF 5 rfl).all hi') rfl $ E.allocM (z := .agg #[.int .i64 0, .int .i64 0, .int .i64 0]) (cs := [.int .i64 0, .int .i64 0, .int .i64 0]) hM (by kernel_rfl) rfl rfl ?_
  intro b20 w25 hM
  try dsimp only [Za, Zb, Zc, Zd, repl] at hM
  refine E.storeAM 11 (cs := es st[i]) hM rfl rfl rfl (by kernel_rfl) rfl (es_one _) ?_
  intro w26 hM
  try dsimp only [Za, Zb, Zc, Zd, repl] at hM
  refine Ke $ Km rfl $ E.loadA (cs := [v49, vc]) rfl Tryz.underlying89 rfl (by kernel_rfl) (hM.bat 10 rfl) rfl $ E.fld (o := 0) (sz := 0) rfl Tryz.underlying125 rfl rfl (by kernel_rfl) rfl $ E.load rfl U3 rfl (hM.bcell 11 rfl rfl) rfl $ E.call rfl rfl (symbol_ret b vs v49 vc _ c st[i].1 _ (hM.pick [0, 1, 7, 9] (by decide)).sep (by omega) hc30 hck (by rw [List.length_append]; omega)) ?_
  rintro _ w13 ⟨vn13, m⟩
  have hM := hM.calls [0, 1, 7, 9] (by decide) rfl (by simp) m
  try dsimp only [Za, Zb, Zc, Zd, repl] at hM
  try dsimp only [Za, Zb, Zc, Zd, repl] at hM
  refine Ka $ C.region $ Km rfl $ E.fld (o := 1) (sz := 0) rfl Tryz.underlying125 rfl rfl (by kernel_rfl) rfl $ E.load rfl U3 rfl (hM.bcell 11 rfl rfl) rfl $ E.fld (o := 2) (sz := 0) rfl Tryz.underlying125 rfl rfl (by kernel_rfl) rfl $ E.load rfl U3 rfl (hM.bcell 11 rfl rfl) rfl $ E.call rfl rfl (bits_ret b vn13 _ st[i].2.1 st[i].2.2 _ (hM.pick [0, 1] (by decide)).sep (by omega) (by omega) (by simp only [List.length_append, btv_len]; omega)) ?_
  rintro _ w14 ⟨vn14, m⟩
  have hM := hM.calls [0, 1] (by decide) rfl (by simp) m
  try dsimp only [Za, Zb, Zc, Zd, repl] at hM
  try dsimp only [Za, Zb, Zc, Zd, repl] at hM
  refine E.nil $ X.outN $ X.next $ C.region $ E.addN (a := i) (b := 1) rfl rfl (by omega) rfl $ Km rfl $ E.nil $ X.again2 (i + 1) vn14 (S1 rfl) rfl ⟨(hM.pick [0, 1, 2, 3, 4, 5, 6, 7, 8, 9, 10] (by decide)).to (by rw [hsn, Df.sbits]; simp only [List.append_assoc]; rfl), by omega⟩ (by omega)
 obtain rfl : i = st.length := by omega
 rw [List.take_length] at hM
 refine C.exit $ X.exitT $ X.exitT $ X.outE $ end0 rfl ?_
 exact ⟨vs, (hM.pick [0, 1, 2, 3] (by decide)).to (by rw [hhd, hBh]; simp only [List.append_assoc]; rfl)⟩
end Go.Proofs.YtajklleiifhipaaGreatDoor
namespace Go.Proofs.YtajklleiifhipaaGreatDoor
open Go.RowKit Sym Go.ChangeShapes Go.WideShapes Go.ChangeAt
theorem ord_tab {W : World} {name : String} (hg : Tryz.prog.globalNamed name = some 0) (h : Lib.TabIs Tryz.prog W name .i64 [16, 17, 18, 0, 8, 7, 9, 6, 10, 5, 11, 4, 12, 3, 13, 2, 14, 1, 15]) : Ord W := by
 have h0 := h.cell hg 0 (by decide)
 refine ⟨fun j u hu => ?_, World.block_lt_of_cell? W ⟨0, 0, none⟩ h0⟩
 have hj : j < 19 := by
  have := (List.getElem?_eq_some_iff.1 hu).1
  simpa [Df.ordL] using this
 have h1 := h.cell hg j hj
 rw [ord_at hj] at hu
 rw [Nat.zero_add, h1, ← hu]
 congr 2
 have : ∀ j, j < 19 → ([16, 17, 18, 0, 8, 7, 9, 6, 10, 5, 11, 4, 12, 3, 13, 2, 14, 1, 15] : List Int).getD j 0 = ((Df.ordL.getD j 0 : Nat) : Int) := by decide
 exact this j hj
end Go.Proofs.YtajklleiifhipaaGreatDoor
namespace Go.Proofs.YtajklleiifhipaaGreatDoor.Crc
def step (x : BitVec 32) : BitVec 32 := if x.getLsbD 0 then (x >>> 1) ^^^ 0xedb88320#32 else x >>> 1
def steps : Nat → BitVec 32 → BitVec 32
 | 0, x => x
 | n + 1, x => steps n (step x)
theorem step_xor (x y : BitVec 32) : step (x ^^^ y) = step x ^^^ step y := by
 unfold step
 simp only [BitVec.getLsbD_xor]
 cases hx : x.getLsbD 0 <;> cases hy : y.getLsbD 0 <;>
  simp [BitVec.ushiftRight_xor_distrib] <;> (apply BitVec.eq_of_getLsbD_eq; intro i hi; simp; try cases (3988292384#32).getLsbD i <;> simp)
theorem steps_xor (n : Nat) (x y : BitVec 32) : steps n (x ^^^ y) = steps n x ^^^ steps n y := by
 induction n generalizing x y with
 | zero => rfl
 | succ n ih => simp [steps, step_xor, ih]
theorem steps_add (m n : Nat) (x : BitVec 32) : steps (m + n) x = steps n (steps m x) := by
 induction m generalizing x with
 | zero => simp [steps]
 | succ m ih => rw [Nat.succ_add]; simp [steps, ih]
theorem steps_succ (n : Nat) (x : BitVec 32) : steps (n + 1) x = step (steps n x) := by
 rw [steps_add n 1]; rfl
theorem steps_low (k : Nat) (y : BitVec 32) (h : ∀ i, i < k → y.getLsbD i = false) : steps k y = y >>> k := by
 induction k generalizing y with
 | zero => simp [steps]
 | succ k ih =>
  have h0 : y.getLsbD 0 = false := h 0 (by omega)
  have hs : step y = y >>> 1 := by unfold step; rw [h0]; rfl
  rw [steps, hs, ih]
  · apply BitVec.eq_of_getLsbD_eq; intro i hi; simp [BitVec.getLsbD_ushiftRight]; congr 1; omega
  intro i hi
  rw [BitVec.getLsbD_ushiftRight]
  exact h (1 + i) (by omega)
theorem steps8_split (x : BitVec 32) : steps 8 x = (x >>> 8) ^^^ steps 8 (x &&& 0xff#32) := by
  have hx : x = (x &&& 0xffffff00#32) ^^^ (x &&& 0xff#32) := by
    apply BitVec.eq_of_getLsbD_eq; intro i hi
    simp only [BitVec.getLsbD_xor, BitVec.getLsbD_and]
    have : ∀ i, i < 32 → (0xffffff00#32).getLsbD i = !(0xff#32).getLsbD i := by decide
    rw [this i hi]
    cases x.getLsbD i <;> cases (0xff#32).getLsbD i <;> rfl
  have h8 : steps 8 (x &&& 0xffffff00#32) = x >>> 8 := by
    rw [steps_low]
    · apply BitVec.eq_of_getLsbD_eq; intro i hi
      simp only [BitVec.getLsbD_ushiftRight, BitVec.getLsbD_and]
      have : ∀ i, i < 24 → (0xffffff00#32).getLsbD (8 + i) = true := by decide
      by_cases h : i < 24
      · rw [this i h]; simp
      rw [BitVec.getLsbD_of_ge x _ (by omega)]; simp
    intro i hi
    have : ∀ i, i < 8 → (0xffffff00#32).getLsbD i = false := by decide
    simp [this i hi]
  rw [← h8, ← steps_xor, ← hx]
def ext (c : UInt8) : BitVec 32 := BitVec.ofNat 32 c.toNat
def reg (x : BitVec 32) (l : List UInt8) : BitVec 32 := l.foldl (fun x c => steps 8 (x ^^^ ext c)) x
def crc (l : List UInt8) : BitVec 32 := ~~~ reg 0xffffffff#32 l
theorem reg_snoc (x : BitVec 32) (l : List UInt8) (c : UInt8) : reg x (l ++ [c]) = steps 8 (reg x l ^^^ ext c) := by simp [reg]
def part (p q : BitVec 32) : Nat → BitVec 32
 | 0 => 0#32
 | k + 1 => part p q k ^^^ (if p.getLsbD (31 - k) then steps k q else 0#32)
end Go.Proofs.YtajklleiifhipaaGreatDoor.Crc
namespace Go.Proofs.YtajklleiifhipaaGreatDoor.Jn
def enc4 (n : Nat) : List UInt8 := [UInt8.ofNat (n / 16777216), UInt8.ofNat (n / 65536), UInt8.ofNat (n / 256), UInt8.ofNat n]
theorem dec4_ex : ∃ f : List UInt8 → Nat, ∀ l, f l = (l.getD 0 0).toNat * 16777216 + (l.getD 1 0).toNat * 65536 + (l.getD 2 0).toNat * 256 + (l.getD 3 0).toNat := ⟨_, fun _ => rfl⟩
noncomputable def dec4 : List UInt8 → Nat := Classical.choose dec4_ex
theorem dec4_eq (l : List UInt8) : dec4 l = (l.getD 0 0).toNat * 16777216 + (l.getD 1 0).toNat * 65536 + (l.getD 2 0).toNat * 256 + (l.getD 3 0).toNat := Classical.choose_spec dec4_ex l
theorem enc4_len (n : Nat) : (enc4 n).length = 4 := rfl
theorem dec4_lt (l : List UInt8) : dec4 l < 4294967296 := by
 have h0 := (l.getD 0 0).toNat_lt; have h1 := (l.getD 1 0).toNat_lt; have h2 := (l.getD 2 0).toNat_lt; have h3 := (l.getD 3 0).toNat_lt
 rw [dec4_eq]; omega
theorem dec_enc {n : Nat} (h : n < 4294967296) (l : List UInt8) : dec4 (enc4 n ++ l) = n := by
 rw [dec4_eq]; simp [enc4]; omega
theorem enc_dec {l : List UInt8} (h : 4 ≤ l.length) : enc4 (dec4 l) = l.take 4 := by
 match l, h with
 | a :: b :: c :: d :: r, _ =>
  have h0 := a.toNat_lt; have h1 := b.toNat_lt; have h2 := c.toNat_lt; have h3 := d.toNat_lt
  simp only [enc4, dec4_eq, List.getD_cons_zero, List.getD_cons_succ, List.take_succ_cons, List.take_zero]
  have e : ∀ (x : UInt8) (m : Nat), m % 256 = x.toNat → UInt8.ofNat m = x := fun x m hm => by
   apply UInt8.toNat.inj; simp [hm]
  rw [e a _ (by omega), e b _ (by omega), e c _ (by omega), e d _ (by omega)]
def crcN (l : List UInt8) : Nat := (Crc.crc l).toNat
theorem crcN_lt (l : List UInt8) : crcN l < 4294967296 := (Crc.crc l).isLt
end Go.Proofs.YtajklleiifhipaaGreatDoor.Jn
namespace Go.Proofs.YtajklleiifhipaaGreatDoor
namespace Pg
open Jn
abbrev Ck := List UInt8 × List UInt8
def isL (c : UInt8) : Bool := decide ((65 ≤ c.toNat ∧ c.toNat ≤ 90) ∨ (97 ≤ c.toNat ∧ c.toNat ≤ 122))
def let4 (t : List UInt8) : Prop := t.length = 4 ∧ ∀ c ∈ t, isL c = true
instance (t : List UInt8) : Decidable (let4 t) := inferInstanceAs (Decidable (_ ∧ _))
def sig : List UInt8 := [137, 80, 78, 71, 13, 10, 26, 10]
def tH : List UInt8 := [73, 72, 68, 82]
def tD : List UInt8 := [73, 68, 65, 84]
def tE : List UInt8 := [73, 69, 78, 68]
def ck (c : Ck) : List UInt8 := enc4 c.2.length ++ ((c.1 ++ c.2) ++ enc4 (crcN (c.1 ++ c.2)))
theorem ck_len {c : Ck} (h : c.1.length = 4) : (ck c).length = c.2.length + 12 := by
 simp only [ck, List.length_append, enc4_len, h]; omega
noncomputable def hd (l : List UInt8) : Except Int Ck :=
 if l.length < 12 then .error 10
 else if ¬ let4 ((l.drop 4).take 4) then .error 9
 else if l.length < dec4 l + 12 then .error 10
 else if crcN ((l.drop 4).take (dec4 l + 4)) ≠ dec4 (l.drop (8 + dec4 l)) then .error 26
 else .ok ((l.drop 4).take 4, (l.drop 8).take (dec4 l))
theorem hd_len {l : List UInt8} {c : Ck} (h : hd l = .ok c) : c.1.length = 4 ∧ let4 c.1 ∧ c.2.length = dec4 l ∧ dec4 l + 12 ≤ l.length := by
 unfold hd at h
 split at h
 · cases h
 split at h
 · cases h
 split at h
 · cases h
 split at h
 · cases h
 rename_i h1 h2 h3 h4
 cases h
 have h2 := Decidable.not_not.1 h2
 refine ⟨h2.1, h2, ?_, by omega⟩
 show ((l.drop 8).take (dec4 l)).length = dec4 l
 rw [List.length_take, List.length_drop]; omega
theorem take_eq_app {l : List UInt8} (a b : Nat) : l.take (a + b) = l.take a ++ (l.drop a).take b := by rw [List.take_add]
theorem hd_ck {l : List UInt8} {c : Ck} (h : hd l = .ok c) : l = ck c ++ l.drop (12 + c.2.length) := by
 have hl := hd_len h
 unfold hd at h
 split at h
 · cases h
 split at h
 · cases h
 split at h
 · cases h
 split at h
 · cases h
 rename_i h1 h2 h3 h4
 have h4 := Decidable.not_not.1 h4
 obtain ⟨l1, l2, l3, l4⟩ := hl
 cases h
 simp only at l1 l2 l3
 simp only [l3]
 have e1 : (l.drop 4).take (dec4 l + 4) = (l.drop 4).take 4 ++ (l.drop 8).take (dec4 l) := by
  rw [Nat.add_comm, take_eq_app, List.drop_drop]
 unfold ck
 simp only [l3, ← e1, h4]
 rw [enc_dec (l := l) (by omega), enc_dec (l := l.drop (8 + dec4 l)) (by rw [List.length_drop]; omega)]
 have e2 : l = l.take 4 ++ (l.drop 4).take (dec4 l + 4) ++ (l.drop (8 + dec4 l)).take 4 ++ l.drop (12 + dec4 l) := by
  rw [← take_eq_app 4 (dec4 l + 4), show 4 + (dec4 l + 4) = 8 + dec4 l by omega, ← take_eq_app, show 8 + dec4 l + 4 = 12 + dec4 l by omega, List.take_append_drop]
 rw [List.append_assoc (l.take 4), ← List.append_assoc (l.take 4)] 
 rw [List.append_assoc] at e2
 first | exact e2 | (simp only [List.append_assoc] at e2 ⊢; exact e2)
theorem hd_of {c : Ck} {r : List UInt8} (hk : let4 c.1) (hd_ : c.2.length < 4294967296) : hd (ck c ++ r) = .ok c := by
 have hn : dec4 (ck c ++ r) = c.2.length := by rw [ck, List.append_assoc]; exact dec_enc hd_ _
 have hlen : (ck c ++ r).length = c.2.length + 12 + r.length := by rw [List.length_append, ck_len hk.1]
 have e4 : (ck c ++ r).drop 4 = c.1 ++ (c.2 ++ (enc4 (crcN (c.1 ++ c.2)) ++ r)) := by
  rw [ck, List.append_assoc, List.drop_append_of_le_length (by rw [enc4_len]; omega), List.drop_of_length_le (by rw [enc4_len]; omega)]
  simp only [List.nil_append, List.append_assoc]
 have e8 : (ck c ++ r).drop 8 = c.2 ++ (enc4 (crcN (c.1 ++ c.2)) ++ r) := by
  rw [show 8 = 4 + 4 from rfl, ← List.drop_drop, e4, List.drop_append_of_le_length (by rw [hk.1]; omega), List.drop_of_length_le (by rw [hk.1]; omega), List.nil_append]
 have en : (ck c ++ r).drop (8 + c.2.length) = enc4 (crcN (c.1 ++ c.2)) ++ r := by
  rw [← List.drop_drop, e8, List.drop_left]
 have t4 : ((ck c ++ r).drop 4).take 4 = c.1 := by rw [e4, ← hk.1, List.take_left]
 have t8 : ((ck c ++ r).drop 4).take (c.2.length + 4) = c.1 ++ c.2 := by
  rw [e4, ← List.append_assoc, show c.2.length + 4 = (c.1 ++ c.2).length by rw [List.length_append, hk.1]; omega, List.take_left]
 unfold hd
 rw [hn, t4, t8, en, dec_enc (crcN_lt _), e8, List.take_left, if_neg (by omega), if_neg (Decidable.not_not.2 hk), if_neg (by omega), if_neg (by simp)]
noncomputable def chs : Nat → List UInt8 → Except Int (List Ck)
 | 0, _ => .error 4
 | n + 1, l => match hd l with
  | .error e => .error e
  | .ok c => if c.1 = tE then (if c.2 ≠ [] then .error 9 else if l.drop (12 + c.2.length) ≠ [] then .error 11 else .ok [c])
   else match chs n (l.drop (12 + c.2.length)) with
    | .error e => .error e
    | .ok r => .ok (c :: r)
noncomputable def rdf (l : List UInt8) : Except Int (List Ck) :=
 if 4194304 < l.length then .error 4 else if l.take 8 ≠ sig then .error 25 else chs 1024 (l.drop 8)
def gd : List Ck → Prop
 | [] => False
 | c :: r => let4 c.1 ∧ (match r with | [] => c.1 = tE ∧ c.2 = [] | _ :: _ => c.1 ≠ tE ∧ gd r)
def cks (l : List Ck) : List UInt8 := l.flatMap ck
def csz (l : List Ck) : Nat := (l.map fun c => 12 + c.2.length).sum
theorem csz_nil : csz [] = 0 := rfl
theorem csz_cons (c : Ck) (l : List Ck) : csz (c :: l) = 12 + c.2.length + csz l := by simp [csz]
theorem csz_app (a b : List Ck) : csz (a ++ b) = csz a + csz b := by simp [csz]
theorem cks_cons (c : Ck) (l : List Ck) : cks (c :: l) = ck c ++ cks l := rfl
theorem cks_app (a b : List Ck) : cks (a ++ b) = cks a ++ cks b := by simp [cks]
theorem cks_len {l : List Ck} (h : ∀ c ∈ l, c.1.length = 4) : (cks l).length = csz l := by
 induction l with
 | nil => rfl
 | cons c l ih => rw [cks_cons, List.length_append, ck_len (h c (by simp)), ih (fun d hd => h d (by simp [hd])), csz_cons]; omega
theorem gd_let : ∀ {l : List Ck}, gd l → ∀ c ∈ l, let4 c.1
 | c :: [], h, d, hd => by rw [List.mem_singleton.1 hd]; exact h.1
 | c :: e :: r, h, d, hd => by
  rcases List.mem_cons.1 hd with rfl | hd
  · exact h.1
  exact gd_let h.2.2 d hd
noncomputable def jn (l : List Ck) : Except Int (List UInt8) :=
 open Classical in if 1024 < l.length then .error 4 else if ¬ gd l then .error 9 else if 4194304 < 8 + csz l then .error 4 else .ok (sig ++ cks l)
theorem chs_of : ∀ {l : List Ck} {n : Nat}, gd l → l.length ≤ n → (∀ c ∈ l, c.2.length < 4294967296) → chs n (cks l) = .ok l
 | c :: [], n + 1, h, _, hs => by
  have e : hd (cks [c]) = .ok c := by rw [cks_cons]; exact hd_of h.1 (hs c (by simp))
  have e2 : (cks [c]).drop (12 + c.2.length) = [] := List.drop_of_length_le (by rw [cks_len (fun d hd => (gd_let h d hd).1), csz_cons, csz_nil]; omega)
  rw [chs, e]
  simp only
  rw [if_pos h.2.1, if_neg (Decidable.not_not.2 h.2.2), e2, if_neg (by simp)]
 | c :: d :: r, n + 1, h, hn, hs => by
  have e : hd (cks (c :: d :: r)) = .ok c := by rw [cks_cons]; exact hd_of h.1 (hs c (by simp))
  have e2 : (cks (c :: d :: r)).drop (12 + c.2.length) = cks (d :: r) := by
   rw [cks_cons, show 12 + c.2.length = (ck c).length by rw [ck_len h.1.1]; omega, List.drop_left]
  have ih := chs_of (l := d :: r) (n := n) h.2.2 (by simp only [List.length_cons] at hn ⊢; omega) (fun x hx => hs x (by simp [List.mem_cons.1 hx]))
  rw [chs, e]
  simp only
  rw [if_neg h.2.1, e2, ih]
theorem chs_ok : ∀ {n : Nat} {l : List UInt8} {r : List Ck}, chs n l = .ok r → gd r ∧ r.length ≤ n ∧ l = cks r
  | n + 1, l, r, h => by
    rw [chs] at h
    cases hh : hd l with
    | error e => rw [hh] at h; cases h
    | ok c =>
      rw [hh] at h
      simp only at h
      have h1 := hd_len hh
      have h2 := hd_ck hh
      by_cases he : c.1 = tE
      · rw [if_pos he] at h
        split at h
        · cases h
        split at h
        · cases h
        rename_i g1 g2
        cases h
        refine ⟨⟨h1.2.1, he, Decidable.not_not.1 g1⟩, by simp, ?_⟩
        rw [Decidable.not_not.1 g2] at h2; exact h2
      rw [if_neg he] at h
      cases hr : chs n (l.drop (12 + c.2.length)) with
      | error e => rw [hr] at h; cases h
      | ok r' =>
        rw [hr] at h
        cases h
        obtain ⟨g1, g2, g3⟩ := chs_ok hr
        refine ⟨?_, by simp; omega, ?_⟩
        · match r', g1 with
          | d :: q, g1 => exact ⟨h1.2.1, he, g1⟩
        rw [cks_cons, ← g3]; exact h2
theorem rdf_ok {l : List UInt8} {r : List Ck} (h : rdf l = .ok r) : gd r ∧ r.length ≤ 1024 ∧ l = sig ++ cks r ∧ l.length ≤ 4194304 := by
 unfold rdf at h
 split at h
 · cases h
 split at h
 · cases h
 rename_i g1 g2
 obtain ⟨a, b, c⟩ := chs_ok h
 refine ⟨a, b, ?_, by omega⟩
 rw [← c, ← Decidable.not_not.1 g2, List.take_append_drop]
theorem jn_ok {l : List Ck} {p : List UInt8} (h : jn l = .ok p) : l.length ≤ 1024 ∧ gd l ∧ 8 + csz l ≤ 4194304 ∧ p = sig ++ cks l := by
 unfold jn at h
 split at h
 · cases h
 split at h
 · cases h
 split at h
 · cases h
 rename_i a b c
 cases h
 exact ⟨by omega, Classical.not_not.1 b, by omega, rfl⟩
theorem csz_ge {l : List Ck} {c : Ck} (h : c ∈ l) : c.2.length + 12 ≤ csz l := by
 induction l with
 | nil => simp at h
 | cons d l ih =>
  rw [csz_cons]
  rcases List.mem_cons.1 h with rfl | h
  · omega
  have := ih h; omega
theorem rdf_jn {l : List Ck} {p : List UInt8} (h : jn l = .ok p) : rdf p = .ok l := by
 obtain ⟨h1, h2, h3, rfl⟩ := jn_ok h
 have hl := cks_len (fun c hc => (gd_let h2 c hc).1)
 unfold rdf
 rw [if_neg (by rw [List.length_append, hl]; show ¬ 4194304 < 8 + csz l; omega), show (sig ++ cks l).take 8 = sig from rfl, if_neg (by simp)]
 exact chs_of h2 h1 (fun c hc => by have := csz_ge hc; omega)
end Pg
end Go.Proofs.YtajklleiifhipaaGreatDoor
