/- journal: Compact, and what the laws want. -/
import Derived.Test.YtdcgmkoonanpgaaJn4
namespace Go.Proofs.Ytdcgmkoonanpgaa
set_option linter.unusedSimpArgs false
set_option linter.unusedVariables false
open Go.RowKit Sym Go.Conc.Locks

/-- what Compact answers -/
def CmpSp (ls m : LL) (e : Int) (ls' : LL) : Prop :=
  ((∃ p ∈ m, 4194304 < p.length) ∧ e = 4 ∧ ls' = ls) ∨ ((∀ p ∈ m, p.length ≤ 4194304) ∧ (65536 < m.length ∨ 16777216 < Jn.siz m) ∧ e = 16 ∧ ls' = ls) ∨ ((∀ p ∈ m, p.length ≤ 4194304) ∧ m.length ≤ 65536 ∧ Jn.siz m ≤ 16777216 ∧ e = 0 ∧ ls' = m)
theorem CmpSp.ok {ls m ls' : LL} {e : Int} (h : CmpSp ls m e ls') (hok : Jok ls) : Jok ls' := by
  rcases h with ⟨_, _, rfl⟩ | ⟨_, _, _, rfl⟩ | ⟨h1, h2, h3, _, rfl⟩
  · exact hok
  · exact hok
  · exact ⟨h2, h3, h1⟩
theorem Sym.M.stb {w0 w : World} {S : Nat → Prop} {rs ins : List Rg} {r : Rg} (h : M w0 S w rs) (is : List Nat) (hin : is.filterMap (rs[·]?) = ins) (k : Nat) (hk : ¬ k ∈ is) (hr : rs[k]? = some r) : ∀ w', FrS (fpU ins) w w' → r.ok w' := fun w' g =>
  r.keep (fun x hx => g.block x (r.live (h.ok hr) x hx) (fun ⟨a, q, ha, hq⟩ => by
    subst hin
    obtain ⟨j, hj, hqj⟩ := List.mem_filterMap.1 (List.mem_of_getElem? ha)
    exact h.sep.apart k j r q hr hqj (fun e => hk (e ▸ hj)) x hx hq)) (h.ok hr)
theorem Sym.M.stb0 {w0 w : World} {rs ins : List Rg} (h : M w0 Nn w rs) (is : List Nat) (hin : is.filterMap (rs[·]?) = ins) {φ : World → Prop} (hφ : ∀ w', Ext w0 w' → φ w') : ∀ w', FrS (fpU ins) w w' → φ w' := fun w' g =>
  hφ w' (h.fr.step g (fun x ⟨a, q, ha, hq⟩ => by
    subst hin
    obtain ⟨j, hj, hqj⟩ := List.mem_filterMap.1 (List.mem_of_getElem? ha)
    exact h.mine j q hqj x hq)).ext
theorem all_takeL {m : LL} {i : Nat} (hi : i < m.length) (h : ∀ p ∈ m.take i, p.length ≤ 4194304) (hx : m[i].length ≤ 4194304) : ∀ p ∈ m.take (i + 1), p.length ≤ 4194304 := fun p hp => by
  rw [← List.take_append_getElem hi, List.mem_append, List.mem_singleton] at hp
  rcases hp with hp | rfl
  · exact h p hp
  · exact hx
/-- the bytes of a constant string, in new memory -/
theorem Sym.E.litM {P : Program} {ops : Array Oper} {Q : Exit → Act → World → Prop} {s : St} {env : Env} {w0 w : World} {S : Nat → Prop} {rs : List Rg} {rest : List Oper} {d : Nat} {ty : TypeId} {pos : String} {aft : Array Edge} {t e ty2 : TypeId} {n d2 : Nat} {pos2 : String} {aft2 : Array Edge} {xs : List (Nat × Operand)} {vs : List (Nat × Value)} {l : List UInt8}
    (hM : M w0 S w rs) (hx : evp env xs = some vs) (hb : ∀ w, (Instr.buildSlice t n vs.toArray).run P w = .ok (.slice (some ⟨w.heap.size, 0, none⟩) n n) (w.alloc (.cells (l.map u8).toArray e))) (ht : P.underlying t = some (.slice e)) (he : P.underlying e = some (.int .u8)) (hl : l.length = n) (hn : n ≤ maxLen) (hd : Nat.blt d s.n = true) (hd2 : Nat.blt d2 s.n = true)
    (h : ∀ v w', M w0 S w' (rs ++ [Rg.rl v l]) → wpE P ops Q s rest ((d2, v) :: (d, v) :: env) w') : wpE P ops Q s (⟨some d, .buildSlice t n xs.toArray, ty, pos, aft, none⟩ :: ⟨some d2, .convert t t (.tmp d), ty2, pos2, aft2, none⟩ :: rest) env w :=
  E.lit (cs := l.map u8) hx hb ht he (by simp [hl]) hn hd hd2 fun v w' hr hbs _ x => h v w' (hM.new x (by subst hl; exact hr) (fun k hk => by rw [hk.2, hbs]; exact Nat.le_refl _))
theorem siz_le {m : LL} (h : ∀ p ∈ m, p.length ≤ 4194304) : Jn.siz m ≤ 4194312 * m.length := by
  induction m with
  | nil => simp [Jn.siz]
  | cons p m ih =>
    have h1 := h p (by simp)
    have h2 := ih fun q hq => h q (by simp [hq])
    rw [Jn.siz_cons, List.length_cons]; omega
set_option maxHeartbeats 2000000 in
theorem Compact_ret (b : Nat) (vr : Value) (hs : List Hd) (ls : LL) (q : Value) (hm : List Hd) (m : LL) (w : World) (hJ : Sep w (J3 b vr hs ls)) (hok : Jok ls) (hq : ∀ w', FrS (fpU (J3 b vr hs ls)) w w' → RdL slv w' q hm ∧ Bag w' hm m) (hml : m.length ≤ 1000000) :
    Ret Try.prog 30 #[jp b, q] w fun v w' => ∃ e ls', v = i64 e ∧ CmpSp ls m e ls' ∧ Jout b ls' w (fpU (J3 b vr hs ls)) w' [] := by
  have hM := M.startS hJ
  refine enterD Try.func30 rfl (by kernel_rfl) Try.ntmps30 rfl ?_
  refine C.seq <| C.region <| E.asg rfl rfl <| E.nil <| X.next <| C.seq <| C.seq <| C.region <| E.mv rfl rfl <| ?_
  refine E.call rfl rfl (lock_ret b _ _ _ (hM.sep1 0 rfl)) ?_
  rintro _ w1 ⟨rfl, m1⟩
  have hM := hM.call1 0 rfl (by simp) m1
  try dsimp only [List.nil_append, List.cons_append, List.set_cons_zero, List.set_cons_succ, repl] at hM
  have hbl := (hq _ hM.fr).2.1
  refine E.not rfl rfl <| E.nil <| X.next <| ?_
  refine C.cond rfl (fun hC0 => ?_) (fun hC0 => ?_)
  ·
    cases hC0
  ·
    clear hC0
    refine C.skip <| X.next <| C.seq <| C.region <| E.mv rfl rfl <| E.nilc rfl rfl <| ?_
    refine E.fld (o := 0) (sz := 1) rfl Try.underlying64 rfl rfl (by kernel_rfl) rfl ?_
    refine E.defer rfl ?_
    refine E.nil <| X.next <| C.seq <| C.region <| E.asg rfl rfl <| E.nil <| X.next <| C.seq <| C.seq <| C.region <| E.mv rfl rfl <| ?_
    refine E.lenv rfl (Rd.shape (hq _ hM.fr).1) Try.underlying27 rfl ?_
    refine E.mv rfl rfl <| E.nil <| X.next <| C.block <| ?_

    refine C.loop1 [(0, _), (1, _), (14, _), (15, _)] rfl (fun (i : Nat) => [(5, i64 (Jn.siz (m.take i) : Int)), (16, i64 i)]) (fun (i : Nat) w' => M w (fpU (J3 b vr hs ls)) w' [jb b 1 vr (Jn.siz ls), Rg.sl slv 22 vr hs, Rg.bag hs ls] ∧ i ≤ m.length ∧ ∀ p ∈ m.take i, p.length ≤ 4194304) (fun (i : Nat) => m.length - i) 0 ?_ ?_ ?_
    · exact Sub.cons rfl <| Sub.cons rfl <| Sub.nil _
    · exact ⟨hM, Nat.zero_le _, fun p hp => by simp at hp⟩
    rintro i w1 ⟨hM, hi, hall⟩
    refine C.seq <| C.region <| E.bin rfl rfl rfl rfl <| E.nil <| X.next <| C.seq <| ?_
    refine C.cond' rfl (fun hC1 => ?_) (fun hC1 => ?_)
    ·
      have hi' : i < m.length := by omega
      have hsl := siz_le hall
      have htl : (m.take i).length = i := by rw [List.length_take]; omega
      refine C.skip <| X.next <| C.seq <| C.block <| C.seq <| C.region <| ?_
      refine E.get (k := i) rfl rfl (hq _ hM.fr).1 rfl (by omega) Try.underlying27 (by kernel_rfl) Try.underlying22 rfl rfl rfl ?_
      refine E.asg rfl rfl <| E.nil <| X.next <| C.seq <| C.seq <| C.region <| E.mv rfl rfl <| ?_
      refine E.lenv rfl (Rd.shape ((hq _ hM.fr).2.at hi')) Try.underlying22 rfl ?_
      refine E.bin rfl rfl rfl rfl <| E.nil <| X.next <| ?_
      refine C.cond' rfl (fun hC2 => ?_) (fun hC2 => ?_)
      ·
        refine C.seq <| C.region <| E.asg rfl rfl <| E.nil <| X.next <| C.ret <| X.retT <| X.retB <| X.retT <| X.retT <| X.retB <| X.retT <| retU muLib unlockC 0 hM rfl rfl (fun a w' ha => res1 rfl rfl a ha) ?_
        exact fun w' hM => ⟨_, _, rfl, .inl ⟨⟨m[i], List.getElem_mem hi', by omega⟩, rfl, rfl⟩, _, _, hM⟩
      ·
        refine C.skip <| X.next <| C.region <| E.mv rfl rfl <| E.mv rfl rfl <| ?_
        refine E.lenv rfl (Rd.shape ((hq _ hM.fr).2.at hi')) Try.underlying22 rfl ?_
        refine E.addN (b := 8) rfl rfl (by first | omega | (simp only [List.length_replicate, List.length_append, List.length_set, List.length_cons, List.length_nil, List.length_map, List.length_range, List.length_take, List.length_drop, List.length_zipWith] at *; omega)) rfl ?_
        refine E.addN rfl rfl (by first | omega | (simp only [List.length_replicate, List.length_append, List.length_set, List.length_cons, List.length_nil, List.length_map, List.length_range, List.length_take, List.length_drop, List.length_zipWith] at *; omega)) rfl ?_
        rw [← siz_take_succ hi']
        refine E.asg rfl rfl <| E.nil <| X.outN <| X.next <| C.region <| ?_
        refine E.addN (b := 1) rfl rfl (by first | omega | (simp only [List.length_replicate, List.length_append, List.length_set, List.length_cons, List.length_nil, List.length_map, List.length_range, List.length_take, List.length_drop, List.length_zipWith] at *; omega)) rfl ?_

        refine E.mv rfl rfl <| E.nil <| X.again1 (i + 1) (Sub.cons rfl <| Sub.cons rfl <| Sub.nil _) rfl ⟨hM, by omega, all_takeL hi' hall (by omega)⟩ (by omega)
    ·
      obtain rfl : i = m.length := by omega
      rw [List.take_length] at hall
      refine C.exit <| X.exitT <| X.exitT <| X.outE <| X.next <| C.seq <| ?_

      refine C.chainE [(0, _), (1, _), (5, _)] rfl [(35, .bool (decide (65536 < m.length ∨ 16777216 < Jn.siz (m.take m.length))))] ?_ ?_
      ·
        refine C.region <| E.mv rfl rfl <| ?_
        refine E.lenv rfl (Rd.shape (hq _ hM.fr).1) Try.underlying27 rfl ?_
        refine E.bin rfl rfl rfl rfl <| E.mv rfl rfl <| ?_
        refine E.split 32 rfl (fun g32 => ?_) (fun g32 => ?_)
        ·
          try simp only [decide_eq_true_eq, decide_eq_false_iff_not, ne_eq, Decidable.not_not, Bool.not_eq_true', Bool.not_eq_false'] at g32
          refine E.off rfl rfl rfl rfl <| E.off rfl rfl rfl rfl <| E.pick rfl rfl rfl <| E.nil <| X.join0 (Sub.cons (by (first | exact leaf_f (by omega) | exact leaf_t (by omega) | exact leaf_d (by omega) | exact leaf_f (by first | (simp [*] <;> fail) | omega) | exact leaf_t (by first | (simp [*] <;> fail) | omega) | exact leaf_d (by first | (simp [*] <;> fail) | omega) | exact leaf_f (by (first | omega | ((try simp only [decide_eq_true_eq, decide_eq_false_iff_not, Bool.not_eq_true', Bool.not_eq_false'] at *); first | omega | (simp_all <;> fail) | (simp_all; omega)))) | exact leaf_t (by (first | omega | ((try simp only [decide_eq_true_eq, decide_eq_false_iff_not, Bool.not_eq_true', Bool.not_eq_false'] at *); first | omega | (simp_all <;> fail) | (simp_all; omega)))) | exact leaf_d (by (first | omega | ((try simp only [decide_eq_true_eq, decide_eq_false_iff_not, Bool.not_eq_true', Bool.not_eq_false'] at *); first | omega | (simp_all <;> fail) | (simp_all; omega)))))) <| Sub.nil _) rfl rfl
        ·
          try simp only [decide_eq_true_eq, decide_eq_false_iff_not, ne_eq, Decidable.not_not, Bool.not_eq_true', Bool.not_eq_false'] at g32
          refine E.on rfl rfl (E.mv rfl rfl ?_)
          refine E.on rfl rfl (E.bin rfl rfl rfl rfl ?_)
          refine E.pick rfl rfl rfl <| E.nil <| X.join0 (Sub.cons (by (first | exact leaf_f (by omega) | exact leaf_t (by omega) | exact leaf_d (by omega) | exact leaf_f (by first | (simp [*] <;> fail) | omega) | exact leaf_t (by first | (simp [*] <;> fail) | omega) | exact leaf_d (by first | (simp [*] <;> fail) | omega) | exact leaf_f (by (first | omega | ((try simp only [decide_eq_true_eq, decide_eq_false_iff_not, Bool.not_eq_true', Bool.not_eq_false'] at *); first | omega | (simp_all <;> fail) | (simp_all; omega)))) | exact leaf_t (by (first | omega | ((try simp only [decide_eq_true_eq, decide_eq_false_iff_not, Bool.not_eq_true', Bool.not_eq_false'] at *); first | omega | (simp_all <;> fail) | (simp_all; omega)))) | exact leaf_d (by (first | omega | ((try simp only [decide_eq_true_eq, decide_eq_false_iff_not, Bool.not_eq_true', Bool.not_eq_false'] at *); first | omega | (simp_all <;> fail) | (simp_all; omega)))))) <| Sub.nil _) rfl rfl
      refine C.cond' rfl (fun hC3 => ?_) (fun hC3 => ?_)
      ·
        refine C.seq <| C.region <| E.asg rfl rfl <| E.nil <| X.next <| C.ret <| X.retT <| retU muLib unlockC 0 hM rfl rfl (fun a w' ha => res1 rfl rfl a ha) ?_
        exact fun w' hM => ⟨_, _, rfl, .inr (.inl ⟨hall, by rw [List.take_length] at hC3; exact hC3, rfl, rfl⟩), _, _, hM⟩
      ·
        rw [List.take_length] at hC3
        refine C.skip <| X.next <| C.seq <| C.region <| E.mv rfl rfl <| E.mv rfl rfl <| E.mv rfl rfl <| ?_
        refine E.call rfl rfl (copies_ret q hm m _ (hq _ hM.fr).1 (hq _ hM.fr).2 (by omega) (fun p hp => by have := hall p hp; omega)) ?_
        rintro v39 w2 ⟨hs', m2⟩
        have hM := hM.call m2
        obtain ⟨x39, rfl⟩ := own_headG (hM.own 3 rfl)
        try dsimp only [List.nil_append, List.cons_append, List.set_cons_zero, List.set_cons_succ, repl] at hM
        refine E.mv rfl rfl <| E.nilc rfl rfl <| ?_
        refine E.fld (o := 3) (sz := 0) rfl Try.underlying64 rfl rfl (by kernel_rfl) rfl ?_
        first
          | refine E.storeM 0 hM rfl rfl rfl (by kernel_rfl) ?_ rfl ?_
          | refine E.storeM 1 hM rfl rfl rfl (by kernel_rfl) ?_ rfl ?_
          | refine E.storeM 2 hM rfl rfl rfl (by kernel_rfl) ?_ rfl ?_
          | refine E.storeM 3 hM rfl rfl rfl (by kernel_rfl) ?_ rfl ?_
          | refine E.storeM 4 hM rfl rfl rfl (by kernel_rfl) ?_ rfl ?_
          | refine E.storeM 5 hM rfl rfl rfl (by kernel_rfl) ?_ rfl ?_
        · exact (by first | rfl | exact (hM.sl 0 rfl).one | exact (hM.sl 1 rfl).one | exact (hM.sl 2 rfl).one | exact (hM.sl 3 rfl).one | exact (hM.sl 4 rfl).one | exact (hM.sl 5 rfl).one | exact (hM.slF 0 rfl).one | exact (hM.slF 1 rfl).one | exact (hM.slF 2 rfl).one | exact (hM.slF 3 rfl).one | exact (hM.slF 4 rfl).one | exact (hM.slF 5 rfl).one | exact RdL.one (by assumption) | exact RdF.one (by assumption) | assumption)
        intro w3 hM
        try dsimp only [List.nil_append, List.cons_append, List.set_cons_zero, List.set_cons_succ, repl] at hM
        refine E.nilc rfl rfl <| ?_
        refine E.fld (o := 4) (sz := 0) rfl Try.underlying64 rfl rfl (by kernel_rfl) rfl ?_
        first
          | refine E.storeM 0 hM rfl rfl rfl (by kernel_rfl) ?_ rfl ?_
          | refine E.storeM 1 hM rfl rfl rfl (by kernel_rfl) ?_ rfl ?_
          | refine E.storeM 2 hM rfl rfl rfl (by kernel_rfl) ?_ rfl ?_
          | refine E.storeM 3 hM rfl rfl rfl (by kernel_rfl) ?_ rfl ?_
          | refine E.storeM 4 hM rfl rfl rfl (by kernel_rfl) ?_ rfl ?_
          | refine E.storeM 5 hM rfl rfl rfl (by kernel_rfl) ?_ rfl ?_
        · exact (by first | rfl | exact (hM.sl 0 rfl).one | exact (hM.sl 1 rfl).one | exact (hM.sl 2 rfl).one | exact (hM.sl 3 rfl).one | exact (hM.sl 4 rfl).one | exact (hM.sl 5 rfl).one | exact (hM.slF 0 rfl).one | exact (hM.slF 1 rfl).one | exact (hM.slF 2 rfl).one | exact (hM.slF 3 rfl).one | exact (hM.slF 4 rfl).one | exact (hM.slF 5 rfl).one | exact RdL.one (by assumption) | exact RdF.one (by assumption) | assumption)
        intro w4 hM
        try dsimp only [List.nil_append, List.cons_append, List.set_cons_zero, List.set_cons_succ, repl] at hM
        rw [List.take_length] at hM
        refine E.nil <| X.next <| C.seq <| C.region <| E.asg rfl rfl <| E.nil <| X.next <| C.ret <| retU muLib unlockC 0 hM rfl rfl (fun a w' ha => res1 rfl rfl a ha) ?_
        exact fun w' hM => ⟨_, _, rfl, .inr (.inr ⟨hall, by omega, by omega, rfl, rfl⟩), _, _, hM.pick [0, 3, 4] (by decide)⟩

end Go.Proofs.Ytdcgmkoonanpgaa
