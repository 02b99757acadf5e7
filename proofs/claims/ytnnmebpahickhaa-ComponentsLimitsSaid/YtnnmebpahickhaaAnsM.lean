/- components: what its functions answer. -/
import Derived.Test.YtnnmebpahickhaaParts
import Derived.Test.YtnnmebpahickhaaLabel
namespace Go.Proofs.Ytnnmebpahickhaa
set_option linter.unusedSimpArgs false
set_option linter.unusedVariables false
open Go.RowKit Sym Uf

instance : Inhabited Bl := ⟨⟨0, 0, 0, 0, 0, 0, 0⟩⟩
abbrev mat0 : Value := .agg #[i64 0, i64 0, nilS]
theorem elem_Tbool : Elem Try.prog 4 1 1 := elem_of (z := .bool false) (by kernel_rfl) rfl (by decide)
theorem okMat.nat {W Ht : Int} {n : Nat} (h : okMat W Ht n) : ∃ a b : Nat, W = (a : Int) ∧ Ht = (b : Int) ∧ (1 ≤ a ∧ a ≤ 4096) ∧ (1 ≤ b ∧ b ≤ 4096) ∧ n = a * b ∧ n ≤ 4194304 := by
  obtain ⟨⟨h1, h2, h3, h4, h5⟩, h6⟩ := h
  obtain ⟨a, rfl⟩ : ∃ a : Nat, W = (a : Int) := ⟨W.toNat, by omega⟩
  obtain ⟨b, rfl⟩ : ∃ b : Nat, Ht = (b : Int) := ⟨Ht.toNat, by omega⟩
  have h7 : n = a * b := by
    have : (n : Int) = ((a * b : Nat) : Int) := by rw [h6]; simp
    omega
  exact ⟨a, b, rfl, rfl, by omega, by omega, h7, by omega⟩
theorem Labelled.uniq {dk : List Bool} {dark eight : Bool} {W n : Nat} {lab lab' : List Int} {bl bl' : List Bl} (h : Labelled (DD dk dark) (RR W eight dk dark) W n lab bl) (k : Labelled (DD dk dark) (RR W eight dk dark) W n lab' bl') : lab = lab' ∧ bl = bl' := Labelled.eq (R := RR W eight dk dark) (fun _ _ => Cl.symm) (fun _ _ _ => Cl.trans) h k
/-- a number of a component -/
def bk (bl : List Bl) (z : Int) : Bl := bl.getD z.toNat default
def despf (dk : List Bool) (lab : List Int) (bl : List Bl) (area : Int) (i : Nat) : Bool := dk.getD i false && decide (area ≤ (bk bl (lab.getD i 0)).area)
/-- a bitmap and an error, as an answer -/
def MatAns (Sp : Int → Int → List Bool → Int → Prop) (v : Value) (w0 w : World) : Prop := ∃ vo W1 H1 l e, v = .tuple #[mat W1 H1 vo, i64 e] ∧ Sp W1 H1 l e ∧ M w0 Nn w [Rg.sl Value.bool 4 vo l]
/-- Label's answer, in one form -/
theorem LabelAns.uni {W Ht : Int} {dk : List Bool} {eight : Bool} {v : Value} {w0 w : World} (h : LabelAns W Ht dk eight v w0 w) (x : Ext w0 w) : ∃ va vb lab bl e, v = .tuple #[va, vb, i64 e] ∧ M w0 Nn w [Rg.sl i64 3 va lab, Rg.slF Bl.cells 7 38 vb bl] ∧
    ((¬ okMat W Ht dk.length ∧ e = 1 ∧ lab = [] ∧ bl = []) ∨ (okMat W Ht dk.length ∧ 65536 < nf (DD dk true) (RR W.toNat eight dk true) dk.length ∧ e = 4 ∧ lab = [] ∧ bl = []) ∨ (okMat W Ht dk.length ∧ nf (DD dk true) (RR W.toNat eight dk true) dk.length ≤ 65536 ∧ e = 0 ∧ Labelled (DD dk true) (RR W.toNat eight dk true) W.toNat dk.length lab bl)) := by
  rcases h with ⟨h1, rfl⟩ | ⟨h1, h2, rfl⟩ | ⟨h1, h2, va, vb, lab, bl, rfl, m, hL⟩
  · exact ⟨_, _, [], [], _, rfl, ((M.ofExt x).nil i64 3).nilF Bl.cells 7 38, .inl ⟨h1, rfl, rfl, rfl⟩⟩
  · exact ⟨_, _, [], [], _, rfl, ((M.ofExt x).nil i64 3).nilF Bl.cells 7 38, .inr (.inl ⟨h1, h2, rfl, rfl, rfl⟩)⟩
  · exact ⟨_, _, _, _, _, rfl, m, .inr (.inr ⟨h1, h2, rfl, hL⟩)⟩
/-- what Despeckle answers -/
def DespSp (W Ht : Int) (dk : List Bool) (area W1 H1 : Int) (l : List Bool) (e : Int) : Prop :=
  (¬ okMat W Ht dk.length ∧ W1 = 0 ∧ H1 = 0 ∧ l = [] ∧ e = 1) ∨
  (okMat W Ht dk.length ∧ area < 0 ∧ W1 = 0 ∧ H1 = 0 ∧ l = [] ∧ e = 3) ∨
  (okMat W Ht dk.length ∧ 0 ≤ area ∧ 65536 < nf (DD dk true) (RR W.toNat true dk true) dk.length ∧ W1 = 0 ∧ H1 = 0 ∧ l = [] ∧ e = 4) ∨
  (okMat W Ht dk.length ∧ 0 ≤ area ∧ nf (DD dk true) (RR W.toNat true dk true) dk.length ≤ 65536 ∧ W1 = W ∧ H1 = Ht ∧ e = 0 ∧ ∃ lab bl, Labelled (DD dk true) (RR W.toNat true dk true) W.toNat dk.length lab bl ∧ l = tab dk.length (despf dk lab bl area))
theorem DespSp.det {W Ht : Int} {dk : List Bool} {area W1 H1 W2 H2 : Int} {l m : List Bool} {e g : Int} (h : DespSp W Ht dk area W1 H1 l e) (k : DespSp W Ht dk area W2 H2 m g) : W1 = W2 ∧ H1 = H2 ∧ l = m ∧ e = g := by
  rcases h with ⟨h0, rfl, rfl, rfl, rfl⟩ | ⟨h0, h1, rfl, rfl, rfl, rfl⟩ | ⟨h0, h1, h2, rfl, rfl, rfl, rfl⟩ | ⟨h0, h1, h2, rfl, rfl, rfl, lab, bl, hL, rfl⟩ <;> rcases k with ⟨k0, rfl, rfl, rfl, rfl⟩ | ⟨k0, k1, rfl, rfl, rfl, rfl⟩ | ⟨k0, k1, k2, rfl, rfl, rfl, rfl⟩ | ⟨k0, k1, k2, rfl, rfl, rfl, lab', bl', kL, rfl⟩ <;>
    first | exact ⟨rfl, rfl, rfl, rfl⟩ | exact (h0 k0).elim | exact (k0 h0).elim | omega | skip
  obtain ⟨rfl, rfl⟩ := Labelled.uniq hL kL
  exact ⟨rfl, rfl, rfl, rfl⟩
/-- the numbers of the labels -/
theorem Labelled.at {D : Nat → Prop} {R : Nat → Nat → Prop} {W n : Nat} {lab : List Int} {bl : List Bl} (h : Labelled D R W n lab bl) {i : Nat} (hi : i < n) (hD : D i) : ∃ (q : Nat), lab[i]? = some (q : Int) ∧ q < bl.length := by
  obtain ⟨f, f1, f2, f3, f4⟩ := h.on i hi hD
  exact ⟨_, f4, by rw [h.num]; exact nf_lt f2 (by omega)⟩
theorem despf_on {dk : List Bool} {lab : List Int} {bl : List Bl} {area : Int} {i q : Nat} (hd : dk[i]? = some true) (hl : lab[i]? = some (q : Int)) (hq : q < bl.length) : despf dk lab bl area i = decide (area ≤ bl[q].area) := by
  simp [despf, bk, hd, hl, hq]
theorem despf_off {dk : List Bool} {lab : List Int} {bl : List Bl} {area : Int} {i : Nat} (hd : dk[i]? = some false) : despf dk lab bl area i = false := by
  simp [despf, hd]
theorem dk_cases {dk : List Bool} {i : Nat} (h : i < dk.length) : dk[i]? = some true ∨ dk[i]? = some false := by
  rw [List.getElem?_eq_getElem h]; cases dk[i] <;> simp
end Go.Proofs.Ytnnmebpahickhaa
