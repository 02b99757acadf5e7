/- journal: numbers and records. -/
import Derived.Test.YtdcgmkoonanpgaaSymW
import Derived.Test.YtdcgmkoonanpgaaJnM
import Derived.Test.YtdcgmkoonanpgaaCrc
import Derived.Test.YtdcgmkoonanpgaaCrcR
namespace Go.Proofs.Ytdcgmkoonanpgaa
set_option linter.unusedSimpArgs false
set_option linter.unusedVariables false
open Go.RowKit Sym

theorem elem_Tuint8 : Elem Try.prog 5 1 1 := elem_of (z := .int .u8 0) (by kernel_rfl) rfl (by decide)
theorem elem_Tsl_uint8 : Elem Try.prog 22 1 24 := elem_of (z := .slice none 0 0) (by kernel_rfl) rfl (by decide)
abbrev nilS : Value := .slice none 0 0
theorem wrap8 (m : Nat) : IntKind.u8.wrap (m : Int) = ((UInt8.ofNat m).toNat : Int) := by
  rw [show (UInt8.ofNat m).toNat = m % 256 from by simp]
  simp [IntKind.wrap, IntKind.bits, IntKind.signed]
theorem or_nat {a b : Nat} (k : Nat) (hb : b < 2 ^ k) (h : a * 2 ^ k + b < 4294967296) : bits .or .u32 ((a * 2 ^ k : Nat) : Int) (b : Int) = ((a * 2 ^ k + b : Nat) : Int) := by
  rw [u32_or_nat _ _ (by omega) (by omega)]
  congr 1
  rw [← Nat.shiftLeft_eq, ← Nat.shiftLeft_add_eq_or_of_lt hb]
theorem or4 {a b c d : Nat} (ha : a < 256) (hb : b < 256) (hc : c < 256) (hd : d < 256) : bits .or .u32 (bits .or .u32 (bits .or .u32 ((a : Int) * 16777216) ((b : Int) * 65536)) ((c : Int) * 256)) (d : Int) = ((a * 16777216 + b * 65536 + c * 256 + d : Nat) : Int) := by
  have e1 := or_nat (a := a) (b := b * 65536) 24 (by omega) (by omega)
  have e2 := or_nat (a := a * 256 + b) (b := c * 256) 16 (by omega) (by omega)
  have e3 := or_nat (a := a * 65536 + b * 256 + c) (b := d) 8 (by omega) (by omega)
  rw [show ((a * 2 ^ 24 : Nat) : Int) = (a : Int) * 16777216 from by omega, show ((b * 65536 : Nat) : Int) = (b : Int) * 65536 from by omega] at e1
  rw [e1, show ((a * 2 ^ 24 + b * 65536 : Nat) : Int) = (((a * 256 + b) * 2 ^ 16 : Nat) : Int) from by omega, show (c : Int) * 256 = ((c * 256 : Nat) : Int) from by omega, e2,
    show (((a * 256 + b) * 2 ^ 16 + c * 256 : Nat) : Int) = (((a * 65536 + b * 256 + c) * 2 ^ 8 : Nat) : Int) from by omega, e3]
  omega
theorem getD_u8 {l : List UInt8} {k : Nat} (h : k < l.length) : l[k] = l.getD k 0 := by rw [List.getD_eq_getElem?_getD, List.getElem?_eq_getElem h]; rfl
theorem number_ret (p : Value) (l : List UInt8) (w : World) (hl : RdL u8 w p l) (h4 : 4 ≤ l.length) :
    Ret Try.prog 77 #[p] w fun v w' => v = .int .u32 (Jn.dec4 l : Int) ∧ Ext w w' := by
  have hu0 := (l.getD 0 0).toNat_lt
  have hu1 := (l.getD 1 0).toNat_lt
  have hu2 := (l.getD 2 0).toNat_lt
  have hu3 := (l.getD 3 0).toNat_lt
  have hg0 := getD_u8 (l := l) (k := 0) (by omega)
  have hg1 := getD_u8 (l := l) (k := 1) (by omega)
  have hg2 := getD_u8 (l := l) (k := 2) (by omega)
  have hg3 := getD_u8 (l := l) (k := 3) (by omega)
  have hM := M.start w
  refine enter Try.func77 rfl (by kernel_rfl) Try.ntmps77 rfl ?_
  refine C.seq <| C.region <| E.asg rfl rfl <| E.nil <| X.next <| C.seq <| C.drawn (by kernel_rfl) (by kernel_rfl) <| Q.mv rfl rfl <| ?_
  refine Q.idx1 (k := 0) rfl rfl (by first | exact hM.sl 0 rfl | exact hM.sl 1 rfl | exact hM.sl 2 rfl | exact hM.sl 3 rfl | exact hM.arg0 (by assumption) | exact hM.arg (by assumption) (by assumption) | assumption) rfl (by first | omega | (simp only [List.length_replicate, List.length_append, List.length_set, List.length_cons, List.length_nil, List.length_map, List.length_range, List.length_take, List.length_drop, List.length_zipWith] at *; omega)) Try.underlying22 (by kernel_rfl) rfl ?_
  refine Q.load rfl Try.underlying5 rfl (by first | exact (hM.sl 0 rfl).cellA rfl (by first | omega | (simp only [List.length_replicate, List.length_append, List.length_set, List.length_cons, List.length_nil, List.length_map, List.length_range, List.length_take, List.length_drop, List.length_zipWith] at *; omega)) | exact (hM.sl 1 rfl).cellA rfl (by first | omega | (simp only [List.length_replicate, List.length_append, List.length_set, List.length_cons, List.length_nil, List.length_map, List.length_range, List.length_take, List.length_drop, List.length_zipWith] at *; omega)) | exact (hM.sl 2 rfl).cellA rfl (by first | omega | (simp only [List.length_replicate, List.length_append, List.length_set, List.length_cons, List.length_nil, List.length_map, List.length_range, List.length_take, List.length_drop, List.length_zipWith] at *; omega)) | exact (hM.sl 3 rfl).cellA rfl (by first | omega | (simp only [List.length_replicate, List.length_append, List.length_set, List.length_cons, List.length_nil, List.length_map, List.length_range, List.length_take, List.length_drop, List.length_zipWith] at *; omega)) | exact (hM.arg0 (by assumption)).cellA rfl (by first | omega | (simp only [List.length_replicate, List.length_append, List.length_set, List.length_cons, List.length_nil, List.length_map, List.length_range, List.length_take, List.length_drop, List.length_zipWith] at *; omega)) | exact (hM.arg (by assumption) (by assumption)).cellA rfl (by first | omega | (simp only [List.length_replicate, List.length_append, List.length_set, List.length_cons, List.length_nil, List.length_map, List.length_range, List.length_take, List.length_drop, List.length_zipWith] at *; omega))) rfl ?_
  rw [hg0]
  refine Q.conv rfl Try.underlying5 Try.underlying58 (IntWalk.u32_in _ (by omega)) rfl ?_
  refine Q.shl (c := _ * 16777216) rfl rfl (by omega) (IntWalk.u32_in ((((l.getD 0 0).toNat : Int)) * 16777216) (by omega)) rfl ?_
  refine Q.mv rfl rfl <| ?_
  refine Q.idx1 (k := 1) rfl rfl (by first | exact hM.sl 0 rfl | exact hM.sl 1 rfl | exact hM.sl 2 rfl | exact hM.sl 3 rfl | exact hM.arg0 (by assumption) | exact hM.arg (by assumption) (by assumption) | assumption) rfl (by first | omega | (simp only [List.length_replicate, List.length_append, List.length_set, List.length_cons, List.length_nil, List.length_map, List.length_range, List.length_take, List.length_drop, List.length_zipWith] at *; omega)) Try.underlying22 (by kernel_rfl) rfl ?_
  refine Q.load rfl Try.underlying5 rfl (by first | exact (hM.sl 0 rfl).cellA rfl (by first | omega | (simp only [List.length_replicate, List.length_append, List.length_set, List.length_cons, List.length_nil, List.length_map, List.length_range, List.length_take, List.length_drop, List.length_zipWith] at *; omega)) | exact (hM.sl 1 rfl).cellA rfl (by first | omega | (simp only [List.length_replicate, List.length_append, List.length_set, List.length_cons, List.length_nil, List.length_map, List.length_range, List.length_take, List.length_drop, List.length_zipWith] at *; omega)) | exact (hM.sl 2 rfl).cellA rfl (by first | omega | (simp only [List.length_replicate, List.length_append, List.length_set, List.length_cons, List.length_nil, List.length_map, List.length_range, List.length_take, List.length_drop, List.length_zipWith] at *; omega)) | exact (hM.sl 3 rfl).cellA rfl (by first | omega | (simp only [List.length_replicate, List.length_append, List.length_set, List.length_cons, List.length_nil, List.length_map, List.length_range, List.length_take, List.length_drop, List.length_zipWith] at *; omega)) | exact (hM.arg0 (by assumption)).cellA rfl (by first | omega | (simp only [List.length_replicate, List.length_append, List.length_set, List.length_cons, List.length_nil, List.length_map, List.length_range, List.length_take, List.length_drop, List.length_zipWith] at *; omega)) | exact (hM.arg (by assumption) (by assumption)).cellA rfl (by first | omega | (simp only [List.length_replicate, List.length_append, List.length_set, List.length_cons, List.length_nil, List.length_map, List.length_range, List.length_take, List.length_drop, List.length_zipWith] at *; omega))) rfl ?_
  rw [hg1]
  refine Q.conv rfl Try.underlying5 Try.underlying58 (IntWalk.u32_in _ (by omega)) rfl ?_
  refine Q.shl (c := _ * 65536) rfl rfl (by omega) (IntWalk.u32_in ((((l.getD 1 0).toNat : Int)) * 65536) (by omega)) rfl ?_
  refine Q.bin rfl rfl rfl rfl <| Q.mv rfl rfl <| ?_
  refine Q.idx1 (k := 2) rfl rfl (by first | exact hM.sl 0 rfl | exact hM.sl 1 rfl | exact hM.sl 2 rfl | exact hM.sl 3 rfl | exact hM.arg0 (by assumption) | exact hM.arg (by assumption) (by assumption) | assumption) rfl (by first | omega | (simp only [List.length_replicate, List.length_append, List.length_set, List.length_cons, List.length_nil, List.length_map, List.length_range, List.length_take, List.length_drop, List.length_zipWith] at *; omega)) Try.underlying22 (by kernel_rfl) rfl ?_
  refine Q.load rfl Try.underlying5 rfl (by first | exact (hM.sl 0 rfl).cellA rfl (by first | omega | (simp only [List.length_replicate, List.length_append, List.length_set, List.length_cons, List.length_nil, List.length_map, List.length_range, List.length_take, List.length_drop, List.length_zipWith] at *; omega)) | exact (hM.sl 1 rfl).cellA rfl (by first | omega | (simp only [List.length_replicate, List.length_append, List.length_set, List.length_cons, List.length_nil, List.length_map, List.length_range, List.length_take, List.length_drop, List.length_zipWith] at *; omega)) | exact (hM.sl 2 rfl).cellA rfl (by first | omega | (simp only [List.length_replicate, List.length_append, List.length_set, List.length_cons, List.length_nil, List.length_map, List.length_range, List.length_take, List.length_drop, List.length_zipWith] at *; omega)) | exact (hM.sl 3 rfl).cellA rfl (by first | omega | (simp only [List.length_replicate, List.length_append, List.length_set, List.length_cons, List.length_nil, List.length_map, List.length_range, List.length_take, List.length_drop, List.length_zipWith] at *; omega)) | exact (hM.arg0 (by assumption)).cellA rfl (by first | omega | (simp only [List.length_replicate, List.length_append, List.length_set, List.length_cons, List.length_nil, List.length_map, List.length_range, List.length_take, List.length_drop, List.length_zipWith] at *; omega)) | exact (hM.arg (by assumption) (by assumption)).cellA rfl (by first | omega | (simp only [List.length_replicate, List.length_append, List.length_set, List.length_cons, List.length_nil, List.length_map, List.length_range, List.length_take, List.length_drop, List.length_zipWith] at *; omega))) rfl ?_
  rw [hg2]
  refine Q.conv rfl Try.underlying5 Try.underlying58 (IntWalk.u32_in _ (by omega)) rfl ?_
  refine Q.shl (c := _ * 256) rfl rfl (by omega) (IntWalk.u32_in ((((l.getD 2 0).toNat : Int)) * 256) (by omega)) rfl ?_
  refine Q.bin rfl rfl rfl rfl <| Q.mv rfl rfl <| ?_
  refine Q.idx1 (k := 3) rfl rfl (by first | exact hM.sl 0 rfl | exact hM.sl 1 rfl | exact hM.sl 2 rfl | exact hM.sl 3 rfl | exact hM.arg0 (by assumption) | exact hM.arg (by assumption) (by assumption) | assumption) rfl (by first | omega | (simp only [List.length_replicate, List.length_append, List.length_set, List.length_cons, List.length_nil, List.length_map, List.length_range, List.length_take, List.length_drop, List.length_zipWith] at *; omega)) Try.underlying22 (by kernel_rfl) rfl ?_
  refine Q.load rfl Try.underlying5 rfl (by first | exact (hM.sl 0 rfl).cellA rfl (by first | omega | (simp only [List.length_replicate, List.length_append, List.length_set, List.length_cons, List.length_nil, List.length_map, List.length_range, List.length_take, List.length_drop, List.length_zipWith] at *; omega)) | exact (hM.sl 1 rfl).cellA rfl (by first | omega | (simp only [List.length_replicate, List.length_append, List.length_set, List.length_cons, List.length_nil, List.length_map, List.length_range, List.length_take, List.length_drop, List.length_zipWith] at *; omega)) | exact (hM.sl 2 rfl).cellA rfl (by first | omega | (simp only [List.length_replicate, List.length_append, List.length_set, List.length_cons, List.length_nil, List.length_map, List.length_range, List.length_take, List.length_drop, List.length_zipWith] at *; omega)) | exact (hM.sl 3 rfl).cellA rfl (by first | omega | (simp only [List.length_replicate, List.length_append, List.length_set, List.length_cons, List.length_nil, List.length_map, List.length_range, List.length_take, List.length_drop, List.length_zipWith] at *; omega)) | exact (hM.arg0 (by assumption)).cellA rfl (by first | omega | (simp only [List.length_replicate, List.length_append, List.length_set, List.length_cons, List.length_nil, List.length_map, List.length_range, List.length_take, List.length_drop, List.length_zipWith] at *; omega)) | exact (hM.arg (by assumption) (by assumption)).cellA rfl (by first | omega | (simp only [List.length_replicate, List.length_append, List.length_set, List.length_cons, List.length_nil, List.length_map, List.length_range, List.length_take, List.length_drop, List.length_zipWith] at *; omega))) rfl ?_
  rw [hg3]
  refine Q.conv rfl Try.underlying5 Try.underlying58 (IntWalk.u32_in _ (by omega)) rfl ?_
  refine Q.bin rfl rfl rfl rfl <| Q.asg rfl rfl <| Q.nil <| fun w0 hx0 => ?_
  have hM := hM.ext hx0
  refine X.next <| C.ret <| ret1 rfl rfl ?_
  exact ⟨congrArg _ (by rw [Jn.dec4_eq]; exact or4 hu0 hu1 hu2 hu3), hM.toExt⟩

theorem rnumber_ret (p : Value) (l : List UInt8) (w : World) (hl : RdL u8 w p l) (h4 : 4 ≤ l.length) :
    Ret Try.prog 52 #[p] w fun v w' => v = i64 (Jn.dec4 l : Int) ∧ Ext w w' := by
  have hu0 := (l.getD 0 0).toNat_lt
  have hu1 := (l.getD 1 0).toNat_lt
  have hu2 := (l.getD 2 0).toNat_lt
  have hu3 := (l.getD 3 0).toNat_lt
  have hg0 := getD_u8 (l := l) (k := 0) (by omega)
  have hg1 := getD_u8 (l := l) (k := 1) (by omega)
  have hg2 := getD_u8 (l := l) (k := 2) (by omega)
  have hg3 := getD_u8 (l := l) (k := 3) (by omega)
  have hM := M.start w
  refine enter Try.func52 rfl (by kernel_rfl) Try.ntmps52 rfl ?_
  refine C.seq <| C.region <| E.asg rfl rfl <| E.nil <| X.next <| C.seq <| C.drawn (by kernel_rfl) (by kernel_rfl) <| Q.mv rfl rfl <| ?_
  refine Q.idx1 (k := 0) rfl rfl (by first | exact hM.sl 0 rfl | exact hM.sl 1 rfl | exact hM.sl 2 rfl | exact hM.sl 3 rfl | exact hM.arg0 (by assumption) | exact hM.arg (by assumption) (by assumption) | assumption) rfl (by first | omega | (simp only [List.length_replicate, List.length_append, List.length_set, List.length_cons, List.length_nil, List.length_map, List.length_range, List.length_take, List.length_drop, List.length_zipWith] at *; omega)) Try.underlying22 (by kernel_rfl) rfl ?_
  refine Q.load rfl Try.underlying5 rfl (by first | exact (hM.sl 0 rfl).cellA rfl (by first | omega | (simp only [List.length_replicate, List.length_append, List.length_set, List.length_cons, List.length_nil, List.length_map, List.length_range, List.length_take, List.length_drop, List.length_zipWith] at *; omega)) | exact (hM.sl 1 rfl).cellA rfl (by first | omega | (simp only [List.length_replicate, List.length_append, List.length_set, List.length_cons, List.length_nil, List.length_map, List.length_range, List.length_take, List.length_drop, List.length_zipWith] at *; omega)) | exact (hM.sl 2 rfl).cellA rfl (by first | omega | (simp only [List.length_replicate, List.length_append, List.length_set, List.length_cons, List.length_nil, List.length_map, List.length_range, List.length_take, List.length_drop, List.length_zipWith] at *; omega)) | exact (hM.sl 3 rfl).cellA rfl (by first | omega | (simp only [List.length_replicate, List.length_append, List.length_set, List.length_cons, List.length_nil, List.length_map, List.length_range, List.length_take, List.length_drop, List.length_zipWith] at *; omega)) | exact (hM.arg0 (by assumption)).cellA rfl (by first | omega | (simp only [List.length_replicate, List.length_append, List.length_set, List.length_cons, List.length_nil, List.length_map, List.length_range, List.length_take, List.length_drop, List.length_zipWith] at *; omega)) | exact (hM.arg (by assumption) (by assumption)).cellA rfl (by first | omega | (simp only [List.length_replicate, List.length_append, List.length_set, List.length_cons, List.length_nil, List.length_map, List.length_range, List.length_take, List.length_drop, List.length_zipWith] at *; omega))) rfl ?_
  rw [hg0]
  refine Q.conv rfl Try.underlying5 Try.underlying3 (IntWalk.i64_in _ (by omega)) rfl ?_
  refine Q.shl (c := _ * 16777216) rfl rfl (by omega) (IntWalk.i64_in ((((l.getD 0 0).toNat : Int)) * 16777216) (by omega)) rfl ?_
  refine Q.mv rfl rfl <| ?_
  refine Q.idx1 (k := 1) rfl rfl (by first | exact hM.sl 0 rfl | exact hM.sl 1 rfl | exact hM.sl 2 rfl | exact hM.sl 3 rfl | exact hM.arg0 (by assumption) | exact hM.arg (by assumption) (by assumption) | assumption) rfl (by first | omega | (simp only [List.length_replicate, List.length_append, List.length_set, List.length_cons, List.length_nil, List.length_map, List.length_range, List.length_take, List.length_drop, List.length_zipWith] at *; omega)) Try.underlying22 (by kernel_rfl) rfl ?_
  refine Q.load rfl Try.underlying5 rfl (by first | exact (hM.sl 0 rfl).cellA rfl (by first | omega | (simp only [List.length_replicate, List.length_append, List.length_set, List.length_cons, List.length_nil, List.length_map, List.length_range, List.length_take, List.length_drop, List.length_zipWith] at *; omega)) | exact (hM.sl 1 rfl).cellA rfl (by first | omega | (simp only [List.length_replicate, List.length_append, List.length_set, List.length_cons, List.length_nil, List.length_map, List.length_range, List.length_take, List.length_drop, List.length_zipWith] at *; omega)) | exact (hM.sl 2 rfl).cellA rfl (by first | omega | (simp only [List.length_replicate, List.length_append, List.length_set, List.length_cons, List.length_nil, List.length_map, List.length_range, List.length_take, List.length_drop, List.length_zipWith] at *; omega)) | exact (hM.sl 3 rfl).cellA rfl (by first | omega | (simp only [List.length_replicate, List.length_append, List.length_set, List.length_cons, List.length_nil, List.length_map, List.length_range, List.length_take, List.length_drop, List.length_zipWith] at *; omega)) | exact (hM.arg0 (by assumption)).cellA rfl (by first | omega | (simp only [List.length_replicate, List.length_append, List.length_set, List.length_cons, List.length_nil, List.length_map, List.length_range, List.length_take, List.length_drop, List.length_zipWith] at *; omega)) | exact (hM.arg (by assumption) (by assumption)).cellA rfl (by first | omega | (simp only [List.length_replicate, List.length_append, List.length_set, List.length_cons, List.length_nil, List.length_map, List.length_range, List.length_take, List.length_drop, List.length_zipWith] at *; omega))) rfl ?_
  rw [hg1]
  refine Q.conv rfl Try.underlying5 Try.underlying3 (IntWalk.i64_in _ (by omega)) rfl ?_
  refine Q.shl (c := _ * 65536) rfl rfl (by omega) (IntWalk.i64_in ((((l.getD 1 0).toNat : Int)) * 65536) (by omega)) rfl ?_
  refine Q.add rfl rfl (by omega) rfl ?_
  refine Q.mv rfl rfl <| ?_
  refine Q.idx1 (k := 2) rfl rfl (by first | exact hM.sl 0 rfl | exact hM.sl 1 rfl | exact hM.sl 2 rfl | exact hM.sl 3 rfl | exact hM.arg0 (by assumption) | exact hM.arg (by assumption) (by assumption) | assumption) rfl (by first | omega | (simp only [List.length_replicate, List.length_append, List.length_set, List.length_cons, List.length_nil, List.length_map, List.length_range, List.length_take, List.length_drop, List.length_zipWith] at *; omega)) Try.underlying22 (by kernel_rfl) rfl ?_
  refine Q.load rfl Try.underlying5 rfl (by first | exact (hM.sl 0 rfl).cellA rfl (by first | omega | (simp only [List.length_replicate, List.length_append, List.length_set, List.length_cons, List.length_nil, List.length_map, List.length_range, List.length_take, List.length_drop, List.length_zipWith] at *; omega)) | exact (hM.sl 1 rfl).cellA rfl (by first | omega | (simp only [List.length_replicate, List.length_append, List.length_set, List.length_cons, List.length_nil, List.length_map, List.length_range, List.length_take, List.length_drop, List.length_zipWith] at *; omega)) | exact (hM.sl 2 rfl).cellA rfl (by first | omega | (simp only [List.length_replicate, List.length_append, List.length_set, List.length_cons, List.length_nil, List.length_map, List.length_range, List.length_take, List.length_drop, List.length_zipWith] at *; omega)) | exact (hM.sl 3 rfl).cellA rfl (by first | omega | (simp only [List.length_replicate, List.length_append, List.length_set, List.length_cons, List.length_nil, List.length_map, List.length_range, List.length_take, List.length_drop, List.length_zipWith] at *; omega)) | exact (hM.arg0 (by assumption)).cellA rfl (by first | omega | (simp only [List.length_replicate, List.length_append, List.length_set, List.length_cons, List.length_nil, List.length_map, List.length_range, List.length_take, List.length_drop, List.length_zipWith] at *; omega)) | exact (hM.arg (by assumption) (by assumption)).cellA rfl (by first | omega | (simp only [List.length_replicate, List.length_append, List.length_set, List.length_cons, List.length_nil, List.length_map, List.length_range, List.length_take, List.length_drop, List.length_zipWith] at *; omega))) rfl ?_
  rw [hg2]
  refine Q.conv rfl Try.underlying5 Try.underlying3 (IntWalk.i64_in _ (by omega)) rfl ?_
  refine Q.shl (c := _ * 256) rfl rfl (by omega) (IntWalk.i64_in ((((l.getD 2 0).toNat : Int)) * 256) (by omega)) rfl ?_
  refine Q.add rfl rfl (by omega) rfl ?_
  refine Q.mv rfl rfl <| ?_
  refine Q.idx1 (k := 3) rfl rfl (by first | exact hM.sl 0 rfl | exact hM.sl 1 rfl | exact hM.sl 2 rfl | exact hM.sl 3 rfl | exact hM.arg0 (by assumption) | exact hM.arg (by assumption) (by assumption) | assumption) rfl (by first | omega | (simp only [List.length_replicate, List.length_append, List.length_set, List.length_cons, List.length_nil, List.length_map, List.length_range, List.length_take, List.length_drop, List.length_zipWith] at *; omega)) Try.underlying22 (by kernel_rfl) rfl ?_
  refine Q.load rfl Try.underlying5 rfl (by first | exact (hM.sl 0 rfl).cellA rfl (by first | omega | (simp only [List.length_replicate, List.length_append, List.length_set, List.length_cons, List.length_nil, List.length_map, List.length_range, List.length_take, List.length_drop, List.length_zipWith] at *; omega)) | exact (hM.sl 1 rfl).cellA rfl (by first | omega | (simp only [List.length_replicate, List.length_append, List.length_set, List.length_cons, List.length_nil, List.length_map, List.length_range, List.length_take, List.length_drop, List.length_zipWith] at *; omega)) | exact (hM.sl 2 rfl).cellA rfl (by first | omega | (simp only [List.length_replicate, List.length_append, List.length_set, List.length_cons, List.length_nil, List.length_map, List.length_range, List.length_take, List.length_drop, List.length_zipWith] at *; omega)) | exact (hM.sl 3 rfl).cellA rfl (by first | omega | (simp only [List.length_replicate, List.length_append, List.length_set, List.length_cons, List.length_nil, List.length_map, List.length_range, List.length_take, List.length_drop, List.length_zipWith] at *; omega)) | exact (hM.arg0 (by assumption)).cellA rfl (by first | omega | (simp only [List.length_replicate, List.length_append, List.length_set, List.length_cons, List.length_nil, List.length_map, List.length_range, List.length_take, List.length_drop, List.length_zipWith] at *; omega)) | exact (hM.arg (by assumption) (by assumption)).cellA rfl (by first | omega | (simp only [List.length_replicate, List.length_append, List.length_set, List.length_cons, List.length_nil, List.length_map, List.length_range, List.length_take, List.length_drop, List.length_zipWith] at *; omega))) rfl ?_
  rw [hg3]
  refine Q.conv rfl Try.underlying5 Try.underlying3 (IntWalk.i64_in _ (by omega)) rfl ?_
  refine Q.add rfl rfl (by omega) rfl ?_
  refine Q.asg rfl rfl <| Q.nil <| fun w0 hx0 => ?_
  have hM := hM.ext hx0
  refine X.next <| C.ret <| ret1 rfl rfl ?_
  exact ⟨congrArg _ (by rw [Jn.dec4_eq]; omega), hM.toExt⟩

theorem appendNumber_ret (p : Value) (l : List UInt8) (n : Nat) (w : World) (hs : Sep w [Rg.sl u8 5 p l]) (hn : n < 4294967296) (hl : l.length ≤ 1000000000) :
    Ret Try.prog 74 #[p, .int .u32 (n : Int)] w fun v w' => M w (fpU [Rg.sl u8 5 p l]) w' [Rg.sl u8 5 v (l ++ Jn.enc4 n)] := by
  have hM := M.startS hs
  refine enter Try.func74 rfl (by kernel_rfl) Try.ntmps74 rfl ?_
  refine C.seq <| C.region <| E.asg rfl rfl <| E.nil <| X.next <| C.seq <| C.region <| E.mv rfl rfl <| E.mv rfl rfl <| ?_
  refine E.shr rfl rfl (by decide) (c := _ / 16777216) rfl rfl ?_
  refine E.conv rfl Try.underlying58 Try.underlying5 (c := ((UInt8.ofNat (n / 16777216)).toNat : Int)) (wrap8 (n / 16777216)) rfl ?_
  refine E.mv rfl rfl <| ?_
  refine E.shr rfl rfl (by decide) (c := _ / 65536) rfl rfl ?_
  refine E.conv rfl Try.underlying58 Try.underlying5 (c := ((UInt8.ofNat (n / 65536)).toNat : Int)) (wrap8 (n / 65536)) rfl ?_
  refine E.mv rfl rfl <| ?_
  refine E.shr rfl rfl (by decide) (c := _ / 256) rfl rfl ?_
  refine E.conv rfl Try.underlying58 Try.underlying5 (c := ((UInt8.ofNat (n / 256)).toNat : Int)) (wrap8 (n / 256)) rfl ?_
  refine E.mv rfl rfl <| ?_
  refine E.conv rfl Try.underlying58 Try.underlying5 (c := ((UInt8.ofNat (n)).toNat : Int)) (wrap8 (n)) rfl ?_
  refine E.mkM (enc := u8) (e := 5) (Jn.enc4 n) hM rfl (fun _ => by kernel_rfl) rfl rfl rfl ?_
  intro v17 w0 hM
  try dsimp only [List.nil_append, List.cons_append, List.set_cons_zero, List.set_cons_succ, repl] at hM
  refine E.appendM 0 hM rfl rfl rfl Try.underlying22 elem_Tuint8 (hM.sl 1 rfl) (fun _ => rfl) (by rw [Jn.enc4_len]; omega) (by rw [Jn.enc4_len]; omega) rfl ?_
  intro v18 w1 hM
  try dsimp only [List.nil_append, List.cons_append, List.set_cons_zero, List.set_cons_succ, repl] at hM
  refine E.asg rfl rfl <| E.nil <| X.next <| C.ret <| ret1 rfl rfl ?_
  exact hM.pick [0] (by decide)

theorem rfour_ret (n : Nat) (w : World) (hn : n < 4294967296) :
    Ret Try.prog 49 #[.int .u32 (n : Int)] w fun v w' => M w Nn w' [Rg.sl u8 5 v (Jn.enc4 n)] := by
  have hM := M.start w
  refine enter Try.func49 rfl (by kernel_rfl) Try.ntmps49 rfl ?_
  refine C.seq <| C.region <| E.asg rfl rfl <| E.nil <| X.next <| C.seq <| C.region <| E.mv rfl rfl <| ?_
  refine E.shr rfl rfl (by decide) (c := _ / 16777216) rfl rfl ?_
  refine E.conv rfl Try.underlying58 Try.underlying5 (c := ((UInt8.ofNat (n / 16777216)).toNat : Int)) (wrap8 (n / 16777216)) rfl ?_
  refine E.mv rfl rfl <| ?_
  refine E.shr rfl rfl (by decide) (c := _ / 65536) rfl rfl ?_
  refine E.conv rfl Try.underlying58 Try.underlying5 (c := ((UInt8.ofNat (n / 65536)).toNat : Int)) (wrap8 (n / 65536)) rfl ?_
  refine E.mv rfl rfl <| ?_
  refine E.shr rfl rfl (by decide) (c := _ / 256) rfl rfl ?_
  refine E.conv rfl Try.underlying58 Try.underlying5 (c := ((UInt8.ofNat (n / 256)).toNat : Int)) (wrap8 (n / 256)) rfl ?_
  refine E.mv rfl rfl <| ?_
  refine E.conv rfl Try.underlying58 Try.underlying5 (c := ((UInt8.ofNat (n)).toNat : Int)) (wrap8 (n)) rfl ?_
  refine E.mkM (enc := u8) (e := 5) (Jn.enc4 n) hM rfl (fun _ => by kernel_rfl) rfl rfl rfl ?_
  intro v14 w0 hM
  try dsimp only [List.nil_append, List.cons_append, List.set_cons_zero, List.set_cons_succ, repl] at hM
  refine E.asg rfl rfl <| E.nil <| X.next <| C.ret <| ret1 rfl rfl ?_
  exact hM

theorem crc_u32 (l : List UInt8) : u32 (Crc.crc l) = .int .u32 (Jn.crcN l : Int) := rfl
theorem appendRecord_ret (p q : Value) (l m : List UInt8) (w : World) (hs : Sep w [Rg.sl u8 5 p l]) (hm : RdL u8 w q m) (ho : Off (fpU [Rg.sl u8 5 p l]) q m) (hlm : m.length ≤ 4194304) (hl : l.length ≤ 100000000) :
    Ret Try.prog 48 #[p, q] w fun v w' => M w (fpU [Rg.sl u8 5 p l]) w' [Rg.sl u8 5 v (l ++ Jn.rec m)] := by
  have hM := M.startS hs
  refine enter Try.func48 rfl (by kernel_rfl) Try.ntmps48 rfl ?_
  refine C.seq <| C.region <| E.asg rfl rfl <| E.nil <| X.next <| C.seq <| C.region <| E.mv rfl rfl <| ?_
  refine E.lenv rfl (Rd.shape (by first | exact hM.sl 0 rfl | exact hM.sl 1 rfl | exact hM.sl 2 rfl | exact hM.sl 3 rfl | exact hM.arg0 (by assumption) | exact hM.arg (by assumption) (by assumption) | assumption)) Try.underlying22 rfl ?_
  refine E.asg rfl rfl <| E.nil <| X.next <| C.seq <| C.region <| E.mv rfl rfl <| E.mv rfl rfl <| ?_
  refine E.lenv rfl (Rd.shape (by first | exact hM.sl 0 rfl | exact hM.sl 1 rfl | exact hM.sl 2 rfl | exact hM.sl 3 rfl | exact hM.arg0 (by assumption) | exact hM.arg (by assumption) (by assumption) | assumption)) Try.underlying22 rfl ?_
  refine E.conv rfl Try.underlying3 Try.underlying58 (IntWalk.u32_in _ (by omega)) rfl ?_
  refine E.call rfl rfl (appendNumber_ret p l m.length _ (hM.sep1 0 rfl) (by omega) (by omega)) ?_
  rintro v12 w1 m1
  have hM := hM.call1 0 rfl (by simp) m1
  try dsimp only [List.nil_append, List.cons_append, List.set_cons_zero, List.set_cons_succ, repl] at hM
  refine E.mv rfl rfl <| ?_
  refine E.appendM 0 hM rfl rfl rfl Try.underlying22 elem_Tuint8 (hM.arg hm ho) (fun _ => rfl) (by rw [List.length_append, Jn.enc4_len]; omega) (by rw [List.length_append, Jn.enc4_len]; omega) rfl ?_
  intro v14 w1 hM
  try dsimp only [List.nil_append, List.cons_append, List.set_cons_zero, List.set_cons_succ, repl] at hM
  have hlen : (l ++ Jn.enc4 m.length ++ m).length = l.length + 4 + m.length := by simp [Jn.enc4_len]; omega
  refine E.asg rfl rfl <| E.nil <| X.next <| C.seq <| C.region <| E.mv rfl rfl <| E.mv rfl rfl <| E.mv rfl rfl <| ?_
  refine E.slcL (k' := .i64) _ _ rfl (.inl rfl) (.inr ⟨rfl, rfl⟩) (hM.sl 0 rfl) Try.underlying22 (by kernel_rfl) (by omega) (by omega) rfl ?_
  intro v18 p18 r18
  rw [show cutL l.length (l ++ Jn.enc4 m.length ++ m).length (l ++ Jn.enc4 m.length ++ m) = Jn.head m from by rw [cutL, List.append_assoc, List.drop_left]; exact List.take_of_length_le (by simp [Jn.enc4_len])] at r18
  refine E.call rfl rfl (CRC32_ret v18 (Jn.head m) _ r18) ?_
  rintro _ w2 ⟨rfl, x2⟩
  have hM := hM.ext x2
  try dsimp only [List.nil_append, List.cons_append, List.set_cons_zero, List.set_cons_succ, repl] at hM
  refine E.call rfl rfl (appendNumber_ret v14 _ (Jn.crcN (Jn.head m)) _ (hM.sep1 0 rfl) (Jn.crcN_lt _) (by omega)) ?_
  rintro v20 w3 m3
  have hM := hM.call1 0 rfl (by simp) m3
  try dsimp only [List.nil_append, List.cons_append, List.set_cons_zero, List.set_cons_succ, repl] at hM
  refine E.asg rfl rfl <| E.nil <| X.next <| C.ret <| ret1 rfl rfl ?_
  exact by rw [Jn.rec, Jn.head, ← List.append_assoc, ← List.append_assoc]; exact hM

end Go.Proofs.Ytdcgmkoonanpgaa
