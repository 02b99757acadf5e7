/- Texts of the claim, laid together: Df6, Df5, Df9, Pf7. -/
import Derived.Test.YtplbgehpohdmdaaGreatDoorW0
import Derived.Test.YtplbgehpohdmdaaGreatDoorW5
import Derived.Test.YtplbgehpohdmdaaGreatDoorW13
import Derived.Test.YtplbgehpohdmdaaGreatDoorW15
set_option linter.unusedSimpArgs false
set_option linter.unusedVariables false
namespace Go.Proofs.YtplbgehpohdmdaaGreatDoor
open Go.RowKit Sym
theorem shr_u32 {c k : Nat} (hk : k ≤ 31) : (c : Int) / 2 ^ min ((k : Int)).toNat IntKind.u32.bits = ((c / 2 ^ k : Nat) : Int) := by
 have e1 : min ((k : Int)).toNat IntKind.u32.bits = k := by rw [Int.toNat_natCast]; simp [IntKind.bits]; omega
 rw [e1]; simp
theorem conv_u8 (n : Nat) : IntKind.u8.wrap (n : Int) = ((UInt8.ofNat n).toNat : Int) := by
 rw [IntKind.wrap_u8']; simp
theorem repeat_ret (p : Value) (out : List UInt8) (n d : Nat) (w : World) (hs : Sep w [Rg.sl u8 5 p out]) (hd1 : 1 ≤ d) (hd2 : d ≤ out.length) (hl : out.length + n ≤ 1099511627776) :
  Ret Tryz.prog 168 #[p, i64 n, i64 d] w fun v w' => M w (fpU [Rg.sl u8 5 p out]) w' [Rg.sl u8 5 v (Df.rp d out n)] := by
 have hM := M.startS hs
 refine enter Tryz.func168 rfl (by kernel_rfl) Tryz.ntmps168 rfl ?_
 refine C.seq <| C.region <| E.asg rfl rfl <| E.nil <| X.next <| C.seq <| C.seq <| C.region <| E.mv rfl rfl <| E.mv rfl rfl <| E.nil <| X.next <| C.block <| ?_

 refine C.loop2 [(2, _), (7, _)] rfl (fun (k : Nat) (vo : Value) => [(0, vo), (8, i64 k)]) (fun (k : Nat) (vo : Value) w' => M w (fpU [Rg.sl u8 5 p out]) w' [Rg.sl u8 5 vo (Df.rp d out k)] ∧ k ≤ n) (fun (k : Nat) (vo : Value) => n - k) 0 p ?_ ?_ ?_
 · exact Sub.cons rfl <| Sub.cons rfl <| Sub.nil _
 · exact ⟨hM, Nat.zero_le _⟩
 rintro k vo w0 ⟨hM, hk⟩
 refine C.seq <| C.region <| E.bin rfl rfl rfl rfl <| E.nil <| X.next <| C.seq <| ?_
 refine C.cond' rfl (fun hC0 => ?_) (fun hC0 => ?_)
 ·
  have hrl := Df.rp_len d out k
  refine C.skip <| X.next <| C.seq <| C.block <| C.region <| E.mv rfl rfl <| E.mv rfl rfl <| E.mv rfl rfl <| ?_
  refine E.lenv rfl (Rd.shape (hM.sl 0 rfl)) Tryz.underlying22 rfl ?_
  rw [hrl]
  refine E.mv rfl rfl <| ?_
  refine E.subN (a := out.length + k) (b := d) rfl rfl (by omega) rfl ?_
  refine E.get (k := out.length + k - d) rfl rfl (hM.sl 0 rfl) rfl (by omega) Tryz.underlying22 (by kernel_rfl) Tryz.underlying5 rfl rfl rfl ?_
  refine E.pushM (enc := u8) 0 ((Df.rp d out k).getD (out.length + k - d) 0) hM rfl rfl (look_eq rfl (by rw [gdU (by omega)])) Tryz.underlying22 elem_Tuint8 rfl (by omega) (by omega) (by simp) rfl rfl ?_
  intro v19 u19 w1 hM
  try dsimp only [Za, Zb, Zc, Zd, repl] at hM
  refine E.asg rfl rfl <| E.nil <| X.outN <| X.next <| C.region <| ?_
  refine E.addN (a := k) (b := 1) rfl rfl (by omega) rfl ?_

  refine E.mv rfl rfl <| E.nil <| X.again2 (k + 1) v19 (Sub.cons rfl <| Sub.cons rfl <| Sub.nil _) rfl ⟨hM.to (by rw [Df.rp, hrl]), by omega⟩ (by omega)
 ·
  obtain rfl : k = n := by omega
  refine C.exit <| X.exitT <| X.exitT <| X.outE <| X.next <| C.seq <| C.region <| E.mv rfl rfl <| E.asg rfl rfl <| E.nil <| X.next <| C.ret <| ret1 rfl rfl ?_
  exact hM
namespace Df
def sto (l : List UInt8) : List UInt8 := [1, UInt8.ofNat l.length, UInt8.ofNat (l.length / 256), UInt8.ofNat (255 - l.length % 256), UInt8.ofNat (255 - l.length / 256 % 256)] ++ l
def ad4 (l : List UInt8) : List UInt8 := [UInt8.ofNat (Adler.sum l / 16777216), UInt8.ofNat (Adler.sum l / 65536), UInt8.ofNat (Adler.sum l / 256), UInt8.ofNat (Adler.sum l)]
end Df
theorem conv_not (n : Nat) : IntKind.u8.wrap (-1 - (n : Int)) = ((UInt8.ofNat (255 - n % 256)).toNat : Int) := by
 rw [IntKind.wrap_u8']
 have : (UInt8.ofNat (255 - n % 256)).toNat = 255 - n % 256 := by simp; omega
 rw [this]; omega
theorem shr_not (n : Nat) : (-1 - (n : Int)) / 2 ^ min (Int.toNat 8) IntKind.i64.bits = -1 - ((n / 256 : Nat) : Int) := by
 have e1 : min (Int.toNat 8) IntKind.i64.bits = 8 := rfl
 rw [e1, show (2 : Int) ^ 8 = 256 from rfl]; omega
set_option maxHeartbeats 1000000 in
theorem stored_ret (p : Value) (l : List UInt8) (w : World) (hp : RdL u8 w p l) (hl : l.length ≤ 65535) :
  Ret Tryz.prog 78 #[p] w fun v w' => M w Nn w' [Rg.sl u8 5 v (Df.sto l)] := by
 have hM := M.start w
 refine enter Tryz.func78 rfl (by kernel_rfl) Tryz.ntmps78 rfl ?_
 refine C.seq <| C.region <| E.asg rfl rfl <| E.nil <| X.next <| C.seq <| C.region <| E.asg rfl rfl <| E.nil <| X.next <| C.block <| ?_
 have hM := hM.nil u8 5
 try dsimp only [Za, Zb, Zc, Zd, repl] at hM

 refine C.loop1 [] rfl (fun (z : Nat) => [(0, p), (3, .slice none 0 0)]) (fun (z : Nat) w' => M w (Nn) w' [Rg.sl u8 5 (.slice none 0 0) []]) (fun (z : Nat) => z) 0 ?_ ?_ ?_
 · exact Sub.cons rfl <| Sub.cons rfl <| Sub.nil _
 · exact hM
 rintro z w0 hM
 refine C.block <| C.seq <| C.region <| E.mv rfl rfl <| ?_
 refine E.lenv rfl (Rd.shape (hM.arg0 hp)) Tryz.underlying22 rfl ?_
 refine E.min2 rfl rfl rfl ?_
 rw [show min (l.length : Int) 65535 = (l.length : Int) by omega]
 refine E.asg rfl rfl <| E.nil <| X.next <| C.seq <| C.region <| E.asg rfl rfl <| E.nil <| X.next <| ?_

 refine C.cut0 [(0, _), (3, _), (4, _)] rfl [(5, .int .u8 1)] (fun w' => M w (Nn) w' [Rg.sl u8 5 (.slice none 0 0) []]) ?_ ?_
 ·
  refine C.seq <| C.region <| E.mv rfl rfl <| E.mv rfl rfl <| ?_
  refine E.lenv rfl (Rd.shape (hM.arg0 hp)) Tryz.underlying22 rfl ?_
  refine E.bin rfl rfl rfl rfl <| E.nil <| X.next <| ?_
  refine C.cond' rfl (fun hC0 => ?_) (fun hC0 => ?_)
  ·

   refine C.region <| E.asg rfl rfl <| E.nil <| X.join0  (Sub.cons rfl <| Sub.nil _) rfl hM
  ·
   exact (hC0 rfl).elim
 rintro  w1 hM
 refine C.seq <| C.region <| E.mv rfl rfl <| E.mv rfl rfl <| E.mv rfl rfl <| ?_
 refine E.conv rfl Tryz.underlying3 Tryz.underlying5 (conv_u8 l.length) rfl ?_
 refine E.mv rfl rfl <| ?_
 refine E.shr rfl rfl (by decide) (shr_nat (c := l.length) (k := 8) (by decide)) rfl ?_
 refine E.conv rfl Tryz.underlying3 Tryz.underlying5 (conv_u8 (l.length / 256)) rfl ?_
 refine E.mv rfl rfl <| ?_
 refine E.flip rfl (i64_not l.length (by omega)) rfl ?_
 refine E.conv rfl Tryz.underlying3 Tryz.underlying5 (conv_not l.length) rfl ?_
 refine E.mv rfl rfl <| ?_
 refine E.flip rfl (i64_not l.length (by omega)) rfl ?_
 refine E.shr rfl rfl (by decide) (shr_not l.length) rfl ?_
 refine E.conv rfl Tryz.underlying3 Tryz.underlying5 (conv_not (l.length / 256)) rfl ?_
 refine E.mkM (enc := u8) (e := 5) [1, UInt8.ofNat l.length, UInt8.ofNat (l.length / 256), UInt8.ofNat (255 - l.length % 256), UInt8.ofNat (255 - l.length / 256 % 256)] hM rfl (fun _ => by kernel_rfl) rfl rfl rfl ?_
 intro v27 w2 hM
 try dsimp only [Za, Zb, Zc, Zd, repl] at hM
 refine E.appendM 0 hM rfl rfl rfl Tryz.underlying22 elem_Tuint8 (hM.sl 1 rfl) (fun _ => rfl) (by simp) (by simp) rfl ?_
 intro v28 w3 hM
 try dsimp only [Za, Zb, Zc, Zd, repl] at hM
 refine E.asg rfl rfl <| E.nil <| X.next <| C.seq <| C.region <| E.mv rfl rfl <| E.mv rfl rfl <| E.mv rfl rfl <| ?_
 refine E.slcP (k := .i64) 0 l.length rfl (.inr ⟨rfl, rfl⟩) (.inl rfl) (hM.arg0 hp) Tryz.underlying22 (by kernel_rfl) (by omega) (by omega) rfl ?_
 have hc := (hM.arg0 hp).partV (a := 0) (b := l.length) (by omega) (by omega)
 rw [show cutL 0 l.length l = l by unfold cutL; rw [List.drop_zero, Nat.sub_zero, List.take_length]] at hc
 refine E.appendM 0 hM rfl rfl rfl Tryz.underlying22 elem_Tuint8 hc (fun _ => rfl) (by simp; omega) (by simp; omega) rfl ?_
 intro v33 w4 hM
 try dsimp only [Za, Zb, Zc, Zd, repl] at hM
 refine E.asg rfl rfl <| E.nil <| X.next <| C.seq <| C.region <| E.mv rfl rfl <| E.mv rfl rfl <| ?_
 refine E.slcP (k' := .i64) l.length l.length rfl (.inl rfl) (.inr ⟨rfl, rfl⟩) (hM.arg0 hp) Tryz.underlying22 (by kernel_rfl) (by omega) (by omega) rfl ?_
 refine E.asg rfl rfl <| E.nil <| X.next <| C.seq <| C.region <| E.mv rfl rfl <| E.bin rfl rfl rfl rfl <| E.nil <| X.next <| ?_
 refine C.cond' rfl (fun hC1 => ?_) (fun hC1 => ?_)
 ·
  refine C.seq <| C.region <| E.mv rfl rfl <| E.asg rfl rfl <| E.nil <| X.next <| C.ret <| X.retB <| X.retT <| X.retB <| ret1 rfl rfl ?_
  exact hM.pick [0] (by decide)
 ·
  exact (hC1 rfl).elim
set_option maxHeartbeats 1000000 in
theorem sumOf_ret (p : Value) (l : List UInt8) (w : World) (hp : RdL u8 w p l) :
  Ret Tryz.prog 64 #[p] w fun v w' => v = .agg ((Df.ad4 l).map u8).toArray ∧ Ext w w' := by
 have hM := M.start w
 refine enter Tryz.func64 rfl (by kernel_rfl) Tryz.ntmps64 rfl ?_
 refine C.seq <| C.region <| ?_
 refine E.allocM (z := .agg #[.int .u8 0, .int .u8 0, .int .u8 0, .int .u8 0]) (cs := [.int .u8 0, .int .u8 0, .int .u8 0, .int .u8 0]) hM (by kernel_rfl) rfl rfl ?_
 intro b2 w0 hM
 try dsimp only [Za, Zb, Zc, Zd, repl] at hM
 refine E.nil <| X.next <| C.seq <| C.region <| E.mv rfl rfl <| ?_
 refine E.call rfl rfl (Adler32_ret p l _ (hM.arg0 hp)) ?_
 rintro _ _ ⟨rfl, rfl⟩
 
 try dsimp only [Za, Zb, Zc, Zd, repl] at hM
 refine E.asg rfl rfl <| E.nil <| X.next <| C.seq <| C.region <| E.mv rfl rfl <| ?_
 refine E.shr rfl rfl (by decide) (shr_u32 (c := Adler.sum l) (k := 24) (by decide)) rfl ?_
 refine E.conv rfl Tryz.underlying53 Tryz.underlying5 (conv_u8 (Adler.sum l / 16777216)) rfl ?_
 refine E.mv rfl rfl <| ?_
 refine E.shr rfl rfl (by decide) (shr_u32 (c := Adler.sum l) (k := 16) (by decide)) rfl ?_
 refine E.conv rfl Tryz.underlying53 Tryz.underlying5 (conv_u8 (Adler.sum l / 65536)) rfl ?_
 refine E.mv rfl rfl <| ?_
 refine E.shr rfl rfl (by decide) (shr_u32 (c := Adler.sum l) (k := 8) (by decide)) rfl ?_
 refine E.conv rfl Tryz.underlying53 Tryz.underlying5 (conv_u8 (Adler.sum l / 256)) rfl ?_
 refine E.mv rfl rfl <| ?_
 refine E.conv rfl Tryz.underlying53 Tryz.underlying5 (conv_u8 (Adler.sum l)) rfl ?_
 refine E.build (cs := (Df.ad4 l).map u8) rfl (by kernel_rfl) rfl ?_
 refine E.storeAM 0 (cs := (Df.ad4 l).map u8) hM rfl rfl rfl (by kernel_rfl) rfl (ones rfl <| ones rfl <| ones rfl <| ones rfl <| ones_nil) ?_
 intro w2 hM
 try dsimp only [Za, Zb, Zc, Zd, repl] at hM
 refine E.nil <| X.next <| C.ret <| retA rfl rfl Tryz.underlying78 rfl (by exact hM.blk 0 rfl) (by kernel_rfl) ?_
 exact ⟨rfl, hM.toExt⟩
end Go.Proofs.YtplbgehpohdmdaaGreatDoor
namespace Go.Proofs.YtplbgehpohdmdaaGreatDoor
open Go.RowKit Sym
theorem Fs.look {l : List UInt8} {a : Nat} {m : List (Int × Int)} {bf : List Int} (h : Fs l a m bf) (k : Nat) : (aget m (k : Int) = none ∧ Df.pv l k a = -1) ∨ (aget m (k : Int) = some (Df.pv l k a) ∧ 0 ≤ Df.pv l k a) := by
 rw [h.last k]
 rcases Df.pv_spec l k a with ⟨h1, _⟩ | ⟨q, h1, _⟩
 · left; rw [if_pos h1]; exact ⟨rfl, h1⟩
 · right; rw [if_neg (by omega)]; exact ⟨rfl, by omega⟩
theorem bgo_none {l : List UInt8} {a m len dist seen : Nat} (ha : a + 3 ≤ l.length) (hm : m ≤ a) (h : Df.pv l (Df.key l a) m < 0) : Df.bgo l a m len dist seen = (len, dist) := by
 rcases Df.bgo_pv (len := len) (dist := dist) (seen := seen) ha hm with ⟨_, h2⟩ | ⟨q, h1, _⟩
 · exact h2
 · omega
theorem bgo_some {l : List UInt8} {a m len dist seen : Nat} (ha : a + 3 ≤ l.length) (hm : m ≤ a) (h : 0 ≤ Df.pv l (Df.key l a) m) (hs : seen < 32) : ∃ q : Nat, Df.pv l (Df.key l a) m = (q : Int) ∧ q < m ∧ q + 3 ≤ l.length ∧ Df.key l q = Df.key l a ∧
    Df.bgo l a m len dist seen = if len < Df.eqn l q a then Df.bgo l a q (Df.eqn l q a) (a - q) (seen + 1) else Df.bgo l a q len dist (seen + 1) := by
  rcases Df.bgo_pv (len := len) (dist := dist) (seen := seen) ha hm with ⟨h1, _⟩ | ⟨q, h1, h2, h3, h4, h5, h6⟩
  · omega
  · refine ⟨q, h1, h2, h3, h4, ?_⟩
    rw [h6, Df.bgo, if_neg (by omega), if_pos h5]
set_option maxHeartbeats 2000000 in
theorem best_ret (b r a : Nat) (p vb : Value) (l : List UInt8) (m : List (Int × Int)) (bf : List Int) (w : World) (hs : Sep w [Rg.blk b 124 [p, .map (some r), vb], Rg.mp r .u32 i64 m, Rg.sl i64 3 vb bf]) (hp : RdL u8 w p l) (ho : Off (fpU [Rg.blk b 124 [p, .map (some r), vb], Rg.mp r .u32 i64 m, Rg.sl i64 3 vb bf]) p l) (hF : Fs l a m bf) (ha : a < l.length) (hl : l.length ≤ 32768) :
  Ret Tryz.prog 102 #[pv b, i64 a] w fun v w' => v = .tuple #[i64 ((Df.bst l a).1 : Int), i64 ((Df.bst l a).2 : Int)] ∧ M w (fpU [Rg.blk b 124 [p, .map (some r), vb], Rg.mp r .u32 i64 m, Rg.sl i64 3 vb bf]) w' [Rg.blk b 124 [p, .map (some r), vb], Rg.mp r .u32 i64 m, Rg.sl i64 3 vb bf] := by
 have hM := M.startS hs
 refine enter Tryz.func102 rfl (by kernel_rfl) Tryz.ntmps102 rfl ?_
 refine C.seq <| C.region <| E.asg rfl rfl <| E.asg rfl rfl <| E.nil <| X.next <| C.seq <| C.seq <| C.region <| E.mv rfl rfl <| ?_
 refine E.addN (a := a) (b := 3) rfl rfl (by omega) rfl ?_
 refine E.mv rfl rfl <| E.nilc rfl rfl <| ?_
 refine E.fld (o := 0) (sz := 0) rfl Tryz.underlying124 rfl rfl (by kernel_rfl) rfl ?_
 refine E.load rfl Tryz.underlying22 rfl (hM.bcell 0 rfl rfl) rfl ?_
 refine E.lenv rfl (Rd.shape (hM.arg hp ho)) Tryz.underlying22 rfl ?_
 refine E.bin rfl rfl rfl rfl <| E.nil <| X.next <| ?_
 refine C.cond' rfl (fun hC0 => ?_) (fun hC0 => ?_)
 ·
  refine C.seq <| C.region <| E.asg rfl rfl <| E.asg rfl rfl <| E.nil <| X.next <| C.ret <| X.retT <| ret2 rfl rfl rfl ?_
  exact ⟨by rw [Df.bst_short (by omega)]; rfl, hM⟩
 ·
  have h3 : a + 3 ≤ l.length := by omega
  refine C.skip <| X.next <| C.seq <| C.drawn (by kernel_rfl) (by kernel_rfl) <| Q.mv rfl rfl <| Q.nilc rfl rfl <| ?_
  refine Q.fld (o := 1) (sz := 0) rfl Tryz.underlying124 rfl rfl (by kernel_rfl) rfl ?_
  refine Q.load rfl Tryz.underlying122 rfl (hM.bcell 0 rfl rfl) rfl ?_
  refine Q.mv rfl rfl <| Q.mv rfl rfl <| ?_
  refine Q.call (v := .int .u32 (Df.key l a : Int)) rfl rfl (fun w' hw' => key_ret b a p l _ ((hM.ext hw').bcell 0 rfl rfl) ((hM.ext hw').arg hp ho) h3) ?_
  refine Q.lookup2 (z := .int .i64 0) rfl rfl Tryz.underlying122 Tryz.underlying53 (by kernel_rfl) (hM.mp 1 rfl) rfl ?_
  refine Q.mv rfl rfl <| Q.ext rfl rfl rfl <| Q.ext rfl rfl rfl <| Q.asg rfl rfl <| Q.asg rfl rfl <| Q.nil <| fun w0 hx0 => ?_
  have hM := hM.ext hx0
  refine X.next <| C.seq <| C.seq <| C.region <| E.mv rfl rfl <| E.not rfl rfl <| E.nil <| X.next <| ?_
  refine C.cond rfl (fun hC1 => ?_) (fun hC1 => ?_)
  ·
   have hz : aget m (Df.key l a : Int) = none := by simpa using hC1
   refine C.seq <| C.region <| E.asg rfl rfl <| E.asg rfl rfl <| E.nil <| X.next <| C.ret <| X.retT <| ret2 rfl rfl rfl ?_
   exact ⟨(by
     rcases hF.look (Df.key l a) with ⟨_, h1⟩ | ⟨h1, _⟩
     · rw [Df.bst, bgo_none h3 (Nat.le_refl _) (by omega)]; rfl
     · rw [hz] at h1; cases h1), hM⟩
  ·
   have hz : aget m (Df.key l a : Int) = some (Df.pv l (Df.key l a) a) := by
    rcases hF.look (Df.key l a) with ⟨h1, _⟩ | ⟨h1, _⟩
    · rw [h1] at hC1; simp at hC1
    · exact h1
   rw [hz]
   refine C.skip <| X.next <| C.seq <| C.seq <| C.region <| E.asg rfl rfl <| E.nil <| X.next <| C.block <| ?_

   refine C.loop4 [(0, _), (1, _)] rfl (fun (n : Nat) (len : Nat) (dist : Nat) (k : Nat) => [(4, i64 len), (5, i64 dist), (6, i64 (Df.pv l (Df.key l a) k)), (8, i64 n)]) (fun (n : Nat) (len : Nat) (dist : Nat) (k : Nat) w' => M w (fpU [Rg.blk b 124 [p, .map (some r), vb], Rg.mp r .u32 i64 m, Rg.sl i64 3 vb bf]) w' [Rg.blk b 124 [p, .map (some r), vb], Rg.mp r .u32 i64 m, Rg.sl i64 3 vb bf] ∧ n ≤ 32 ∧ k ≤ a ∧ len ≤ 258 ∧ dist ≤ a ∧ Df.bgo l a k len dist n = Df.bst l a) (fun (n : Nat) (len : Nat) (dist : Nat) (k : Nat) => 32 - n) 0 0 0 a ?_ ?_ ?_
   · exact Sub.cons rfl <| Sub.cons rfl <| Sub.cons rfl <| Sub.cons rfl <| Sub.nil _
   · exact ⟨hM, by omega, Nat.le_refl _, by omega, by omega, rfl⟩
   rintro n len dist k w1 ⟨hM, hn, hk, hle, hdi, hbg⟩
   obtain ⟨j, hj⟩ : ∃ j, j = Df.pv l (Df.key l a) k := ⟨_, rfl⟩
   rw [← hj]
   have hjk : j < k := by rcases Df.pv_spec l (Df.key l a) k with ⟨h1, _⟩ | ⟨q, h1, h2, _⟩ <;> omega
   have hj1 : -1 ≤ j := by rcases Df.pv_spec l (Df.key l a) k with ⟨h1, _⟩ | ⟨q, h1, h2, _⟩ <;> omega
   refine C.seq <| ?_

   refine C.chainE [(0, _), (1, _), (4, _), (5, _), (6, _), (8, _)] rfl [(42, .bool (decide (n < 32 ∧ 0 ≤ j)))] ?_ ?_
   ·
    refine C.region <| E.mv rfl rfl <| E.bin rfl rfl rfl rfl <| E.mv rfl rfl <| ?_
    refine E.split 33 rfl (fun g33 => ?_) (fun g33 => ?_)
    ·
     try simp only [Ya, Yb, Yc, Yd, Ye, Yf] at g33
     refine E.on rfl rfl (E.mv rfl rfl ?_)
     refine E.on rfl rfl (E.bin rfl rfl rfl rfl ?_)
     refine E.pick rfl rfl rfl <| E.mv rfl rfl <| ?_
     refine E.split 37 rfl (fun g37 => ?_) (fun g37 => ?_)
     ·
      try simp only [Ya, Yb, Yc, Yd, Ye, Yf] at g37
      refine E.on rfl rfl (E.mv rfl rfl ?_)
      refine E.on rfl rfl (E.mv rfl rfl ?_)
      refine E.on rfl rfl (E.sub' rfl rfl (by omega) rfl ?_)
      refine E.on rfl rfl (E.bin rfl rfl rfl rfl ?_)
      refine E.pick rfl rfl rfl <| E.nil <| X.join0 (Sub.cons (by exact leaf_d (by omega)) <| Sub.nil _) rfl rfl
     ·
      try simp only [Ya, Yb, Yc, Yd, Ye, Yf] at g37
      refine E.off rfl rfl rfl rfl <| E.off rfl rfl rfl rfl <| E.off rfl rfl rfl rfl <| E.off rfl rfl rfl rfl <| E.pick rfl rfl rfl <| E.nil <| X.join0 (Sub.cons (by exact leaf_f (by omega)) <| Sub.nil _) rfl rfl
    ·
     try simp only [Ya, Yb, Yc, Yd, Ye, Yf] at g33
     refine E.off rfl rfl rfl rfl <| E.off rfl rfl rfl rfl <| E.pick rfl rfl rfl <| E.mv rfl rfl <| E.off rfl rfl rfl rfl <| E.off rfl rfl rfl rfl <| E.off rfl rfl rfl rfl <| E.off rfl rfl rfl rfl <| E.pick rfl rfl rfl <| E.nil <| X.join0 (Sub.cons (by exact leaf_f (by omega)) <| Sub.nil _) rfl rfl
   refine C.cond' rfl (fun hC2 => ?_) (fun hC2 => ?_)
   ·
    rw [hj] at hC2
    obtain ⟨q, hq1, hq2, hq3, hq4, hq5⟩ := bgo_some (len := len) (dist := dist) h3 hk hC2.2 hC2.1
    rw [hbg] at hq5
    rw [hj, hq1]
    have hbl := hF.len
    have hgq := hF.bef q (by omega) hq3
    rw [hq4, List.getD_eq_getElem?_getD, List.getElem?_eq_getElem (by omega)] at hgq
    have hgq : bf[q] = Df.pv l (Df.key l a) q := hgq
    have heq := (Df.eqn_spec l q a).1
    refine C.skip <| X.next <| C.seq <| C.block <| ?_

    refine C.cut2 [(0, _), (1, _), (6, _), (8, _)] rfl (fun (len : Nat) (dist : Nat) => [(4, i64 len), (5, i64 dist)]) (fun (len : Nat) (dist : Nat) w' => M w (fpU [Rg.blk b 124 [p, .map (some r), vb], Rg.mp r .u32 i64 m, Rg.sl i64 3 vb bf]) w' [Rg.blk b 124 [p, .map (some r), vb], Rg.mp r .u32 i64 m, Rg.sl i64 3 vb bf] ∧ len ≤ 258 ∧ dist ≤ a ∧ Df.bgo l a q len dist (n + 1) = Df.bst l a) ?_ ?_
    ·
     refine C.seq <| C.region <| E.mv rfl rfl <| E.mv rfl rfl <| E.mv rfl rfl <| ?_
     refine E.call rfl rfl (equal_ret b q a p (.map (some r)) vb l _ (hM.pick [0] (by decide)).sep (hM.arg hp ho) (offB ho) (by omega) (by omega) (by omega)) ?_
     rintro _ w3 ⟨rfl, m3⟩
     have hM := hM.calls [0] (by decide) rfl (by simp) m3
     try dsimp only [Za, Zb, Zc, Zd, repl] at hM
     refine E.asg rfl rfl <| E.nil <| X.next <| C.seq <| C.region <| E.mv rfl rfl <| E.mv rfl rfl <| E.bin rfl rfl rfl rfl <| E.nil <| X.next <| ?_
     refine C.cond' rfl (fun hC3 => ?_) (fun hC3 => ?_)
     ·
      rw [if_pos (by omega)] at hq5
      refine C.region <| E.mv rfl rfl <| E.mv rfl rfl <| E.mv rfl rfl <| ?_
      refine E.subN (a := a) (b := q) rfl rfl (by omega) rfl ?_

      refine E.asg rfl rfl <| E.asg rfl rfl <| E.nil <| X.join2 (Df.eqn l q a) (a - q) (Sub.cons rfl <| Sub.cons rfl <| Sub.nil _) rfl ⟨hM, heq, by omega, hq5.symm⟩
     ·
      rw [if_neg (by omega)] at hq5

      refine C.skip <| X.join2 len dist (Sub.cons rfl <| Sub.cons rfl <| Sub.nil _) rfl ⟨hM, hle, hdi, hq5.symm⟩
    rintro len dist w3 ⟨hM, hle, hdi, hbg⟩
    refine C.region <| E.mv rfl rfl <| E.nilc rfl rfl <| ?_
    refine E.fld (o := 2) (sz := 0) rfl Tryz.underlying124 rfl rfl (by kernel_rfl) rfl ?_
    refine E.load rfl Tryz.underlying86 rfl (hM.bcell 0 rfl rfl) rfl ?_
    refine E.mv rfl rfl <| ?_
    refine E.get (k := q) rfl rfl (hM.sl 2 rfl) rfl (by omega) Tryz.underlying86 (by kernel_rfl) Tryz.underlying3 rfl rfl rfl ?_
    rw [hgq]
    refine E.asg rfl rfl <| E.nil <| X.outN <| X.next <| C.region <| E.mv rfl rfl <| ?_
    refine E.addN (a := n) (b := 1) rfl rfl (by omega) rfl ?_

    refine E.asg rfl rfl <| E.nil <| X.again4 (n + 1) len dist q (Sub.cons rfl <| Sub.cons rfl <| Sub.cons rfl <| Sub.cons rfl <| Sub.nil _) rfl ⟨hM, by omega, by omega, hle, hdi, hbg⟩ (by omega)
   ·
    have hfin : Df.bst l a = (len, dist) := by
     rw [← hbg]
     by_cases h32 : n < 32
     · exact bgo_none h3 hk (by rw [← hj]; omega)
     · exact Df.bgo_full (by omega) k
    refine C.exit <| X.exitT <| X.exitT <| X.outE <| X.next <| C.seq <| C.region <| E.mv rfl rfl <| E.mv rfl rfl <| E.asg rfl rfl <| E.asg rfl rfl <| E.nil <| X.next <| C.ret <| ret2 rfl rfl rfl ?_
    exact ⟨by rw [hfin], hM⟩
abbrev AL := List (Int × Int)
theorem nz_snoc (ts : List Nat) (t : Nat) : nz ts ++ [(t : Int)] = nz (ts ++ [t]) := by unfold nz; rw [List.map_append]; rfl
set_option maxHeartbeats 4000000 in
set_option maxRecDepth 4000 in
theorem Matches_ret (p : Value) (l : List UInt8) (w : World) (hp : RdL u8 w p l) (hl : l.length ≤ 32768) :
  Ret Tryz.prog 79 #[p] w fun v w' => ∃ vt, v = .tuple #[vt, i64 0] ∧ M w Nn w' [Rg.sl i64 3 vt (nz (Df.toks l 0))] := by
 have hM := M.start w
 refine enter Tryz.func79 rfl (by kernel_rfl) Tryz.ntmps79 rfl ?_
 refine C.seq <| C.region <| E.asg rfl rfl <| E.asg rfl rfl <| E.nil <| X.next <| C.seq <| C.seq <| C.region <| E.mv rfl rfl <| ?_
 refine E.lenv rfl (Rd.shape (hM.arg0 hp)) Tryz.underlying22 rfl ?_
 refine E.bin rfl rfl rfl rfl <| E.nil <| X.next <| ?_
 refine C.cond' rfl (fun hC0 => ?_) (fun hC0 => ?_)
 ·
  omega
 ·
  refine C.skip <| X.next <| C.seq <| C.region <| E.mv rfl rfl <| ?_
  refine E.mkmapM .u32 i64 hM rfl ?_
  intro r13 w0 hM
  try dsimp only [Za, Zb, Zc, Zd, repl] at hM
  refine E.mv rfl rfl <| ?_
  refine E.lenv rfl (Rd.shape (hM.arg0 hp)) Tryz.underlying22 rfl ?_
  refine E.makeM (by_ := 8) (enc := i64) 0 hM rfl Tryz.underlying86 (by kernel_rfl) rfl (by omega) (by omega) rfl ?_
  intro v16 w1 hM
  try dsimp only [Za, Zb, Zc, Zd, repl] at hM
  obtain ⟨pa, pc, rfl⟩ := Rd.shape hp
  obtain ⟨qa, qc, rfl⟩ := Rd.shape (hM.sl 1 rfl)
  refine E.buildC (cs := [_, _, _]) [.slice none 0 0, .map none, .slice none 0 0] [0, 1, 2] rfl rfl (by kernel_rfl) rfl ?_
  refine E.boxM hM rfl rfl rfl ?_
  intro b18 w2 hM
  try dsimp only [Za, Zb, Zc, Zd, repl] at hM
  refine E.asg rfl rfl <| E.nil <| X.next <| C.seq <| C.region <| E.asg rfl rfl <| E.nil <| X.next <| C.seq <| C.seq <| C.region <| E.asg rfl rfl <| E.nil <| X.next <| C.block <| ?_
  obtain ⟨p, hpe⟩ : ∃ p, p = Value.slice pa l.length pc := ⟨_, rfl⟩
  rw [← hpe] at hM hp ⊢
  obtain ⟨v16, hve⟩ : ∃ v16, v16 = Value.slice qa (List.replicate l.length (0 : Int)).length qc := ⟨_, rfl⟩
  rw [← hve] at hM
  have hM := hM.nil i64 3
  try dsimp only [Za, Zb, Zc, Zd, repl] at hM

  refine C.loop5 [(0, _), (4, _)] rfl (fun (a : Nat) (ts : (List Nat)) (m : AL) (bf : (List Int)) (vt : Value) => [(5, vt), (6, i64 a)]) (fun (a : Nat) (ts : (List Nat)) (m : AL) (bf : (List Int)) (vt : Value) w' => M w (Nn) w' [Rg.mp r13 .u32 i64 m, Rg.sl i64 3 v16 bf, Rg.blk b18 124 [p, .map (some r13), v16], Rg.sl i64 3 vt (nz ts)] ∧ a ≤ l.length ∧ Df.toks l 0 = ts ++ Df.toks l a ∧ Fs l a m bf ∧ ts.length ≤ a) (fun (a : Nat) (ts : (List Nat)) (m : AL) (bf : (List Int)) (vt : Value) => l.length - a) 0 [] [] (List.replicate l.length 0) (.slice none 0 0) ?_ ?_ ?_
  · exact Sub.cons rfl <| Sub.cons rfl <| Sub.nil _
  · exact ⟨hM, Nat.zero_le _, rfl, Fs.zero l, Nat.le_refl _⟩
  rintro a ts m bf vt w3 ⟨hM, ha, htk, hF, htl⟩
  refine C.seq <| C.seq <| C.region <| E.mv rfl rfl <| E.mv rfl rfl <| ?_
  refine E.lenv rfl (Rd.shape (hM.arg0 hp)) Tryz.underlying22 rfl ?_
  refine E.bin rfl rfl rfl rfl <| E.nil <| X.next <| ?_
  refine C.cond' rfl (fun hC1 => ?_) (fun hC1 => ?_)
  ·
   have ha' : a < l.length := by omega
   obtain ⟨gb1, gb2, gb3⟩ := Df.bst_bd ha'
   have hnl := nz_len ts
   refine C.skip <| X.next <| C.block <| C.seq <| C.region <| E.mv rfl rfl <| E.mv rfl rfl <| ?_
   refine E.call rfl rfl (best_ret b18 r13 a p v16 l m bf _ (hM.pick [2, 0, 1] (by decide)).sep (hM.arg0 hp) ((hM.pick [2, 0, 1] (by decide)).off0 hp) hF ha' hl) ?_
   rintro _ w4 ⟨rfl, m4⟩
   have hM := hM.calls [2, 0, 1] (by decide) rfl (by simp) m4
   try dsimp only [Za, Zb, Zc, Zd, repl] at hM
   refine E.mv rfl rfl <| E.ext rfl rfl rfl <| E.ext rfl rfl rfl <| E.asg rfl rfl <| E.asg rfl rfl <| E.nil <| X.next <| ?_

   refine C.cut3 [(0, _), (4, _), (6, _)] rfl (fun (n : Nat) (ts : (List Nat)) (vt : Value) => [(5, vt), (7, i64 n)]) (fun (n : Nat) (ts : (List Nat)) (vt : Value) w' => M w (Nn) w' [Rg.mp r13 .u32 i64 m, Rg.sl i64 3 v16 bf, Rg.blk b18 124 [p, .map (some r13), v16], Rg.sl i64 3 vt (nz ts)] ∧ 1 ≤ n ∧ a + n ≤ l.length ∧ Df.toks l 0 = ts ++ Df.toks l (a + n) ∧ ts.length ≤ a + 1) ?_ ?_
   ·
    refine C.seq <| C.region <| E.mv rfl rfl <| E.bin rfl rfl rfl rfl <| E.nil <| X.next <| ?_
    refine C.cond' rfl (fun hC2 => ?_) (fun hC2 => ?_)
    ·
     have h0 : (Df.bst l a).1 = 0 := by omega
     have hb8 := l[a].toNat_lt
     rw [Df.toks_lit ha' h0, gdU ha'] at htk
     refine C.seq <| C.region <| E.mv rfl rfl <| E.mv rfl rfl <| E.mv rfl rfl <| ?_
     refine E.get (k := a) rfl rfl (hM.arg0 hp) rfl (by omega) Tryz.underlying22 (by kernel_rfl) Tryz.underlying5 rfl rfl rfl ?_
     refine E.conv rfl Tryz.underlying5 Tryz.underlying3 (IntWalk.i64_in _ (by omega)) rfl ?_
     refine E.pushM (enc := i64) 3 (l[a].toNat : Int) hM rfl rfl rfl Tryz.underlying86 elem_Tint rfl (by omega) (by omega) (by simp) rfl rfl ?_
     intro v38 u38 w5 hM
     try dsimp only [Za, Zb, Zc, Zd, repl] at hM
     rw [nz_snoc] at hM

     refine E.asg rfl rfl <| E.nil <| X.next <| C.region <| E.asg rfl rfl <| E.nil <| X.join3 1 (ts ++ [l[a].toNat]) v38 (Sub.cons rfl <| Sub.cons rfl <| Sub.nil _) rfl ⟨hM, by omega, by omega, by rw [htk, List.append_assoc]; rfl, by rw [List.length_append, List.length_singleton]; omega⟩
    ·
     have h0 : ¬ (Df.bst l a).1 = 0 := by omega
     rw [Df.toks_mat ha' h0] at htk
     refine C.region <| E.mv rfl rfl <| E.mv rfl rfl <| ?_
     refine E.shl rfl rfl (by decide) (shl_nat (k := 16) (c := (Df.bst l a).1 * 65536) (by decide) (by omega) (by omega)) rfl ?_
     refine E.mv rfl rfl <| ?_
     refine E.addN (a := (Df.bst l a).1 * 65536) (b := (Df.bst l a).2) rfl rfl (by omega) rfl ?_
     refine E.pushM (enc := i64) 3 (((Df.bst l a).1 * 65536 + (Df.bst l a).2 : Nat) : Int) hM rfl rfl rfl Tryz.underlying86 elem_Tint rfl (by omega) (by omega) (by simp) rfl rfl ?_
     intro v45 u45 w6 hM
     try dsimp only [Za, Zb, Zc, Zd, repl] at hM
     rw [nz_snoc] at hM

     refine E.asg rfl rfl <| E.nil <| X.join3 (Df.bst l a).1 (ts ++ [(Df.bst l a).1 * 65536 + (Df.bst l a).2]) v45 (Sub.cons rfl <| Sub.cons rfl <| Sub.nil _) rfl ⟨hM, by omega, gb3, by rw [htk, List.append_assoc]; rfl, by rw [List.length_append, List.length_singleton]; omega⟩
   rintro n ts vt w7 ⟨hM, hn1, han, htk, htl⟩
   refine C.seq <| C.region <| E.mv rfl rfl <| E.mv rfl rfl <| E.nil <| X.next <| C.block <| ?_

   refine C.loop3 [(0, _), (4, _), (5, _), (46, _)] rfl (fun (k : Nat) (m : AL) (bf : (List Int)) => [(6, i64 ((a + k : Nat) : Int)), (47, i64 k)]) (fun (k : Nat) (m : AL) (bf : (List Int)) w' => M w (Nn) w' [Rg.mp r13 .u32 i64 m, Rg.sl i64 3 v16 bf, Rg.blk b18 124 [p, .map (some r13), v16], Rg.sl i64 3 vt (nz ts)] ∧ k ≤ n ∧ Fs l (a + k) m bf) (fun (k : Nat) (m : AL) (bf : (List Int)) => n - k) 0 m bf ?_ ?_ ?_
   · exact Sub.cons rfl <| Sub.cons rfl <| Sub.nil _
   · exact ⟨hM, Nat.zero_le _, hF⟩
   rintro k m bf w8 ⟨hM, hk, hF⟩
   refine C.seq <| C.region <| E.bin rfl rfl rfl rfl <| E.nil <| X.next <| C.seq <| ?_
   refine C.cond' rfl (fun hC3 => ?_) (fun hC3 => ?_)
   ·
    refine C.skip <| X.next <| C.seq <| C.block <| C.seq <| C.region <| E.mv rfl rfl <| E.mv rfl rfl <| ?_
    refine E.call rfl rfl (add_ret b18 r13 (a + k) p v16 l m bf _ (hM.pick [2, 0, 1] (by decide)).sep (hM.arg0 hp) ((hM.pick [2, 0, 1] (by decide)).off0 hp) hF (by omega)) ?_
    rintro _ w6 ⟨m', bf', m6, hF'⟩
    have hM := hM.calls [2, 0, 1] (by decide) rfl (by simp) m6
    try dsimp only [Za, Zb, Zc, Zd, repl] at hM
    refine E.nil <| X.next <| C.region <| E.mv rfl rfl <| ?_
    refine E.addN (a := a + k) (b := 1) rfl rfl (by omega) rfl ?_
    refine E.asg rfl rfl <| E.nil <| X.outN <| X.next <| C.region <| ?_
    refine E.addN (a := k) (b := 1) rfl rfl (by omega) rfl ?_

    refine E.mv rfl rfl <| E.nil <| X.again3 (k + 1) m' bf' (Sub.cons rfl <| Sub.cons rfl <| Sub.nil _) rfl ⟨hM, by omega, hF'⟩ (by omega)
   ·
    obtain rfl : k = n := by omega

    refine C.exit <| X.exitT <| X.exitT <| X.outE <| X.outN <| X.again5 (a + k) ts m bf vt (Sub.cons rfl <| Sub.cons rfl <| Sub.nil _) rfl ⟨hM, han, htk, hF, by omega⟩ (by omega)
  ·
   rw [Df.toks_end (show l.length ≤ a by omega), List.append_nil] at htk
   refine C.exit <| X.exitT <| X.exitT <| X.outE <| X.next <| C.seq <| C.region <| E.mv rfl rfl <| E.asg rfl rfl <| E.asg rfl rfl <| E.nil <| X.next <| C.ret <| ret2 rfl rfl rfl ?_
   exact ⟨vt, rfl, by rw [htk]; exact hM.pick [3] (by decide)⟩
end Go.Proofs.YtplbgehpohdmdaaGreatDoor
namespace Go.Proofs.YtplbgehpohdmdaaGreatDoor
open Go.RowKit Sym
namespace Df
noncomputable def blL (lv : Nat) (ts : List Nat) : List Nat := if lv = 1 then fixL else oln (fql ts) 15
noncomputable def blD (lv : Nat) (ts : List Nat) : List Nat := if lv = 1 then fixD else oln (fqd ts) 15
noncomputable def hdv (lv : Nat) (ts : List Nat) : List Bool := if lv = 1 then [] else hdr (blL lv ts) (blD lv ts)
noncomputable def cbits (lv : Nat) (ts : List Nat) : List Bool := low 1 1 ++ low lv 2 ++ hdv lv ts ++ tbs (blL lv ts) (blD lv ts) ts ++ btv (Pf.code (blL lv ts) 256) ((blL lv ts).getD 256 0)
noncomputable def cmp (l : List UInt8) (lv : Nat) : List UInt8 := if lv = 0 then sto l else pk (cbits lv (toks l 0))
noncomputable def cmv (l : List UInt8) (x : Int) : List UInt8 := if x < 0 ∨ 2 < x then [] else cmp l x.toNat
theorem fix_kr : Pf.kr fixL = 1073741824 ∧ Pf.kr fixD = 1073741824 := by decide +kernel
theorem fix_le : (∀ n ∈ fixL, n ≤ 15) ∧ ∀ n ∈ fixD, n ≤ 15 := by decide +kernel
theorem fix_len : fixL.length = 288 ∧ fixD.length = 32 := ⟨tab_len _ _, tab_len _ _⟩
theorem bl_ok (lv : Nat) {ts : List Nat} (hl : ts.length ≤ 1000000) : 286 ≤ (blL lv ts).length ∧ 30 ≤ (blD lv ts).length ∧ (∀ n ∈ blL lv ts, n ≤ 15) ∧ (∀ n ∈ blD lv ts, n ≤ 15) ∧ Pf.kr (blL lv ts) ≤ 1073741824 ∧ Pf.kr (blD lv ts) ≤ 1073741824 ∧ (blL lv ts).length ≤ 288 ∧ (blD lv ts).length ≤ 32 ∧ (lv ≠ 1 → (blL lv ts).length = 286 ∧ (blD lv ts).length = 30) := by
  unfold blL blD
  by_cases h : lv = 1
  · rw [if_pos h, if_pos h, fix_len.1, fix_len.2, fix_kr.1, fix_kr.2]
    exact ⟨by decide, by decide, fix_le.1, fix_le.2, by decide, by decide, by decide, by decide, fun c => (c h).elim⟩
  · rw [if_neg h, if_neg h]
    have g1 := oln_law (fs := fql ts) (m := 15) (by decide) (by decide) (fun n hn => by have := fql_bd ts n hn; omega) (by rw [fql_len]; decide) (by rw [fql_len]; decide)
    have g2 := oln_law (fs := fqd ts) (m := 15) (by decide) (by decide) (fun n hn => by have := fqd_bd ts n hn; omega) (by rw [fqd_len]; decide) (by rw [fqd_len]; decide)
    have k1 := oln_ok (fs := fql ts) (m := 15) (by decide) (by decide) (fun n hn => by have := fql_bd ts n hn; omega) (by rw [fql_len]; decide) (by rw [fql_len]; decide)
    have k2 := oln_ok (fs := fqd ts) (m := 15) (by decide) (by decide) (fun n hn => by have := fqd_bd ts n hn; omega) (by rw [fqd_len]; decide) (by rw [fqd_len]; decide)
    rw [g1.2.1, g2.2.1, fql_len, fqd_len]
    exact ⟨by decide, by decide, k1.1, k2.1, k1.2, k2.2, by decide, by decide, fun _ => ⟨rfl, rfl⟩⟩
theorem toks_len (p : List UInt8) (i : Nat) : (toks p i).length ≤ p.length - i := by
  by_cases h : i < p.length
  · by_cases h2 : (bst p i).1 = 0
    · rw [toks_lit h h2, List.length_cons]; have := toks_len p (i + 1); omega
    · rw [toks_mat h h2, List.length_cons]; have := toks_len p (i + (bst p i).1); have := bst_bd h; omega
  · rw [toks_end (by omega)]; simp
termination_by p.length - i
theorem toks_tok {p : List UInt8} (hp : p.length ≤ 32768) : ∀ t ∈ toks p 0, Tok t := fun t ht => by
 rcases toks_ok hp 0 t ht with h | ⟨h1, h2, h3, h4⟩
 · exact .inl h
 · exact .inr ⟨h1, h2, h3, by omega⟩
theorem hdr_len {L D : List Nat} (hL : L.length = 286) (hD : D.length = 30) (hbL : ∀ n ∈ L, n ≤ 15) (hbD : ∀ n ∈ D, n ≤ 15) : (hdr L D).length ≤ 20000 := by
 have hal := allL_len hL hD
 have hst := sq_ok (m := 15) (allL_mem hbL hbD) 0
 have hsl := sq_len (allL L D) 0
 unfold hdr
 generalize sq (allL L D) 0 = st at *
 have hcb := (oln_ok (fs := frqS st) (m := 7) (by decide) (by decide) (fun n hn => by have := frqS_bd st n hn; omega) (by rw [frqS_len]; decide) (by rw [frqS_len]; decide)).1
 generalize oln (frqS st) 7 = c at *
 have h1 := hdr3_len c (ctn (lst c) 4)
 have h2 := sbs_len (c := c) (fun n hn => Nat.le_trans (hcb n hn) (by decide)) hst
 simp only [List.length_append, low_len]; omega
end Df
theorem Sym.M.as {w0 w : World} {S : Nat → Prop} {rs rs' : List Rg} (h : M w0 S w rs) (e : rs = rs') : M w0 S w rs' := e ▸ h
set_option maxHeartbeats 8000000 in
set_option maxRecDepth 8000 in
theorem Compress_ret (p : Value) (l : List UInt8) (x : Int) (w : World) (hp : RdL u8 w p l) (hl : l.length ≤ 32768) (hO : Ord w) :
  Ret Tryz.prog 63 #[p, i64 x] w fun v w' => ∃ vo, v = .tuple #[vo, i64 (if x < 0 ∨ 2 < x then 3 else 0)] ∧ M w Nn w' [Rg.sl u8 5 vo (Df.cmv l x)] := by
 have hM := M.start w
 refine enter Tryz.func63 rfl (by kernel_rfl) Tryz.ntmps63 rfl ?_
 refine C.seq <| C.region <| E.asg rfl rfl <| E.asg rfl rfl <| E.nil <| X.next <| C.seq <| ?_

 refine C.chainE [(0, _), (1, _)] rfl [(16, .bool (decide (x < 0 ∨ 2 < x)))] ?_ ?_
 ·
  refine C.region <| E.mv rfl rfl <| E.bin rfl rfl rfl rfl <| E.mv rfl rfl <| ?_
  refine E.split 13 rfl (fun g13 => ?_) (fun g13 => ?_)
  ·
   try simp only [Ya, Yb, Yc, Yd, Ye, Yf] at g13
   refine E.off rfl rfl rfl rfl <| E.off rfl rfl rfl rfl <| E.pick rfl rfl rfl <| E.nil <| X.join0 (Sub.cons (by exact leaf_t (by omega)) <| Sub.nil _) rfl rfl
  ·
   try simp only [Ya, Yb, Yc, Yd, Ye, Yf] at g13
   refine E.on rfl rfl (E.mv rfl rfl ?_)
   refine E.on rfl rfl (E.bin rfl rfl rfl rfl ?_)
   refine E.pick rfl rfl rfl <| E.nil <| X.join0 (Sub.cons (by exact leaf_d (by omega)) <| Sub.nil _) rfl rfl
 refine C.cond' rfl (fun hC0 => ?_) (fun hC0 => ?_)
 ·
  refine C.seq <| C.region <| E.asg rfl rfl <| E.asg rfl rfl <| E.nil <| X.next <| C.ret <| X.retT <| ret2 rfl rfl rfl ?_
  exact ⟨_, by rw [if_pos hC0], by rw [Df.cmv, if_pos hC0]; exact hM.nil u8 5⟩
 ·
  obtain ⟨lv, rfl⟩ : ∃ lv : Nat, x = (lv : Int) := ⟨x.toNat, by omega⟩
  have hcv : Df.cmv l lv = Df.cmp l lv := by rw [Df.cmv, if_neg hC0, Int.toNat_natCast]
  rw [hcv, if_neg hC0]
  have hlv : lv ≤ 2 := by omega
  clear hcv
  refine C.skip <| X.next <| C.seq <| C.seq <| C.region <| E.mv rfl rfl <| ?_
  refine E.lenv rfl (Rd.shape (hM.arg0 hp)) Tryz.underlying22 rfl ?_
  refine E.bin rfl rfl rfl rfl <| E.nil <| X.next <| ?_
  refine C.cond' rfl (fun hC1 => ?_) (fun hC1 => ?_)
  ·
   omega
  ·
   refine C.skip <| X.next <| C.seq <| C.seq <| C.region <| E.mv rfl rfl <| E.bin rfl rfl rfl rfl <| E.nil <| X.next <| ?_
   refine C.cond' rfl (fun hC2 => ?_) (fun hC2 => ?_)
   ·
    obtain rfl : lv = 0 := by omega
    refine C.seq <| C.region <| E.mv rfl rfl <| ?_
    refine E.call rfl rfl (stored_ret p l _ (hM.arg0 hp) (by omega)) ?_
    rintro v23 w1 m
    have hM := hM.call m
    try dsimp only [Za, Zb, Zc, Zd, repl] at hM
    refine E.asg rfl rfl <| E.asg rfl rfl <| E.nil <| X.next <| C.ret <| X.retT <| ret2 rfl rfl rfl ?_
    exact ⟨_, rfl, by rw [Df.cmp, if_pos rfl]; exact hM⟩
   ·
    have hlv0 : ¬ lv = 0 := by omega
    rw [show Df.cmp l lv = Df.pk (Df.cbits lv (Df.toks l 0)) by rw [Df.cmp, if_neg hlv0]]
    refine C.skip <| X.next <| C.seq <| C.region <| E.mv rfl rfl <| ?_
    refine E.call rfl rfl (Matches_ret p l _ (hM.arg0 hp) hl) ?_
    rintro _ w2 ⟨vt, rfl, m⟩
    have hM := hM.call m
    try dsimp only [Za, Zb, Zc, Zd, repl] at hM
    have htk := Df.toks_tok hl
    have htl := Df.toks_len l 0
    obtain ⟨ts, hts⟩ : ∃ ts, ts = Df.toks l 0 := ⟨_, rfl⟩
    rw [← hts] at hM htk htl ⊢
    obtain ⟨ga, gb, gc, gd, ge, gf, gg, gh, gi⟩ := Df.bl_ok lv (ts := ts) (by omega)
    try dsimp only [Za, Zb, Zc, Zd, repl] at hM
    refine E.mv rfl rfl <| E.ext rfl rfl rfl <| E.ext rfl rfl rfl <| E.asg rfl rfl <| E.asg rfl rfl <| E.nil <| X.next <| C.seq <| C.seq <| C.region <| E.mv rfl rfl <| E.bin rfl rfl rfl rfl <| E.nil <| X.next <| ?_
    refine C.cond' rfl (fun hC3 => ?_) (fun hC3 => ?_)
    ·
     exact (hC3 rfl).elim
    ·
     refine C.skip <| X.next <| C.seq <| C.region <| ?_
     refine E.buildC (cs := [_, _]) [.slice none 0 0, .int .i64 0] [] rfl rfl (by kernel_rfl) rfl ?_
     refine E.boxM hM rfl rfl rfl ?_
     intro b33 w2 hM
     try dsimp only [Za, Zb, Zc, Zd, repl] at hM
     have hM := ((hM.nil u8 5).pick [1, 2, 0] (by decide)).as (show _ = [Rg.blk b33 91 [(.slice none 0 0), i64 (fr [])], Rg.sl u8 5 (.slice none 0 0) (Df.pk []), Rg.sl i64 3 vt (nz ts)] from rfl)
     refine E.asg rfl rfl <| E.nil <| X.next <| C.seq <| C.region <| E.mv rfl rfl <| ?_
     refine E.call rfl rfl (bits_ret b33 _ [] 1 1 _ (hM.pick [0, 1] (by decide)).sep (by decide) (by decide) (by decide)) ?_
     rintro _ w3 ⟨vn3, m⟩
     have hM := hM.calls [0, 1] (by decide) rfl (by simp) m
     try dsimp only [Za, Zb, Zc, Zd, repl] at hM
     try dsimp only [Za, Zb, Zc, Zd, repl] at hM
     refine E.nil <| X.next <| C.seq <| C.region <| E.mv rfl rfl <| E.mv rfl rfl <| ?_
     refine E.call rfl rfl (bits_ret b33 vn3 _ lv 2 _ (hM.pick [0, 1] (by decide)).sep (by omega) (by decide) (by simp only [List.length_append, Df.low_len, List.length_nil]; omega)) ?_
     rintro _ w4 ⟨vn4, m⟩
     have hM := hM.calls [0, 1] (by decide) rfl (by simp) m
     try dsimp only [Za, Zb, Zc, Zd, repl] at hM
     try dsimp only [Za, Zb, Zc, Zd, repl] at hM
     refine E.nil <| X.next <| C.seq <| C.region <| ?_
     refine E.call rfl rfl (fixedLengths_ret _) ?_
     rintro _ w5 ⟨fl, fd, rfl, m⟩
     have hM := hM.call m
     try dsimp only [Za, Zb, Zc, Zd, repl] at hM
     try dsimp only [Za, Zb, Zc, Zd, repl] at hM
     refine E.mv rfl rfl <| E.ext rfl rfl rfl <| E.ext rfl rfl rfl <| E.asg rfl rfl <| E.asg rfl rfl <| E.nil <| X.next <| ?_

     refine C.cut3 [(6, _), (8, _)] rfl (fun (vl : Value) (dl : Value) (vs : Value) => [(9, vl), (10, dl)]) (fun (vl : Value) (dl : Value) (vs : Value) w' => M w (Nn) w' [Rg.blk b33 91 [vs, i64 (fr (Df.low 1 1 ++ Df.low lv 2 ++ Df.hdv lv ts))], Rg.sl u8 5 vs (Df.pk (Df.low 1 1 ++ Df.low lv 2 ++ Df.hdv lv ts)), Rg.sl i64 3 vt (nz ts), Rg.sl i64 3 vl (nz (Df.blL lv ts)), Rg.sl i64 3 dl (nz (Df.blD lv ts))]) ?_ ?_
     ·
      refine C.seq <| C.region <| E.mv rfl rfl <| E.bin rfl rfl rfl rfl <| E.nil <| X.next <| ?_
      refine C.cond' rfl (fun hC4 => ?_) (fun hC4 => ?_)
      ·
       obtain rfl : lv = 2 := by omega
       refine C.seq <| C.region <| E.mv rfl rfl <| ?_
       refine E.call rfl rfl (ownLengths_ret vt ts _ (hM.sl 2 rfl) htk (by omega)) ?_
       rintro _ w6 ⟨ol, od, rfl, m⟩
       have hM := hM.call m
       try dsimp only [Za, Zb, Zc, Zd, repl] at hM
       have hM := hM.as (show _ = [Rg.blk b33 91 [vn4, i64 (fr (Df.low 1 1 ++ Df.low 2 2))], Rg.sl u8 5 vn4 (Df.pk (Df.low 1 1 ++ Df.low 2 2)), Rg.sl i64 3 vt (nz ts), Rg.sl i64 3 fl (nz Df.fixL), Rg.sl i64 3 fd (nz Df.fixD), Rg.sl i64 3 ol (nz (Df.blL 2 ts)), Rg.sl i64 3 od (nz (Df.blD 2 ts))] from rfl)
       try dsimp only [Za, Zb, Zc, Zd, repl] at hM
       refine E.mv rfl rfl <| E.ext rfl rfl rfl <| E.ext rfl rfl rfl <| E.asg rfl rfl <| E.asg rfl rfl <| E.nil <| X.next <| C.region <| E.mv rfl rfl <| E.mv rfl rfl <| E.mv rfl rfl <| ?_
       refine E.call rfl rfl (header_ret b33 vn4 ol od _ (Df.blL 2 ts) (Df.blD 2 ts) _ (hM.pick [0, 1, 5, 6] (by decide)).sep (hM.ord0 hO) ((hM.pick [0, 1, 5, 6] (by decide)).no0 hO) (gi (by decide)).1 (gi (by decide)).2 gc gd (by simp only [List.length_append, Df.low_len]; omega)) ?_
       rintro _ w7 ⟨vn7, m⟩
       have hM := hM.calls [0, 1, 5, 6] (by decide) rfl (by simp) m
       try dsimp only [Za, Zb, Zc, Zd, repl] at hM
       try dsimp only [Za, Zb, Zc, Zd, repl] at hM

       refine E.nil <| X.join3 ol od vn7 (Sub.cons rfl <| Sub.cons rfl <| Sub.nil _) rfl (hM.pick [0, 1, 2, 5, 6] (by decide))
      ·
       obtain rfl : lv = 1 := by omega

       refine C.skip <| X.join3 fl fd vn4 (Sub.cons rfl <| Sub.cons rfl <| Sub.nil _) rfl (hM.as (by rw [show Df.hdv 1 ts = [] from rfl, List.append_nil]; rfl))
     rintro vl dl vs w8 hM
     have hdl : (Df.hdv lv ts).length ≤ 20000 := by
      unfold Df.hdv
      split
      · simp
      · exact Df.hdr_len (gi ‹_›).1 (gi ‹_›).2 gc gd
     refine C.seq <| C.region <| E.mv rfl rfl <| E.mv rfl rfl <| E.mv rfl rfl <| ?_
     refine E.call rfl rfl (newCode_ret vl _ _ (hM.sl 3 rfl)) ?_
     rintro _ w8 ⟨vc, rfl, m⟩
     have hM := hM.call m
     try dsimp only [Za, Zb, Zc, Zd, repl] at hM
     rw [cdv_ok (fun n hn => Nat.le_trans (gc n hn) (by decide)) ge (by omega)] at hM
     try dsimp only [Za, Zb, Zc, Zd, repl] at hM
     refine E.mv rfl rfl <| ?_
     refine E.call rfl rfl (newCode_ret dl _ _ (hM.sl 4 rfl)) ?_
     rintro _ w9 ⟨dc, rfl, m⟩
     have hM := hM.call m
     try dsimp only [Za, Zb, Zc, Zd, repl] at hM
     rw [cdv_ok (fun n hn => Nat.le_trans (gd n hn) (by decide)) gf (by omega)] at hM
     try dsimp only [Za, Zb, Zc, Zd, repl] at hM
     refine E.call rfl rfl (tokens_ret b33 vs vl vc dl dc vt _ (Df.blL lv ts) (Df.blD lv ts) ts _ (hM.pick [0, 1, 3, 5, 4, 6, 2] (by decide)).sep htk ga gb (fun n hn => Nat.le_trans (gc n hn) (by decide)) (fun n hn => Nat.le_trans (gd n hn) (by decide)) ge gf (by simp only [List.length_append, Df.low_len]; omega)) ?_
     rintro _ w10 ⟨vn10, m⟩
     have hM := hM.calls [0, 1, 3, 5, 4, 6, 2] (by decide) rfl (by simp) m
     try dsimp only [Za, Zb, Zc, Zd, repl] at hM
     try dsimp only [Za, Zb, Zc, Zd, repl] at hM
     refine E.nil <| X.next <| C.seq <| C.region <| E.mv rfl rfl <| E.nilc rfl rfl <| ?_
     refine E.fld (o := 0) (sz := 0) rfl Tryz.underlying91 rfl rfl (by kernel_rfl) rfl ?_
     refine E.load rfl Tryz.underlying22 rfl (hM.bcell 0 rfl rfl) rfl ?_
     refine E.asg rfl rfl <| E.asg rfl rfl <| E.nil <| X.next <| C.ret <| ret2 rfl rfl rfl ?_
     exact ⟨_, rfl, hM.pick [1] (by decide)⟩
end Go.Proofs.YtplbgehpohdmdaaGreatDoor
namespace Go.Proofs.YtplbgehpohdmdaaGreatDoor
open Go.RowKit Sym
namespace Pf
theorem ord_pre (l : List Nat) {a b : Nat} (h : a ≤ b) : ∃ t, ord l b = ord l a ++ t := by
  induction b with
  | zero => obtain rfl : a = 0 := by omega
            exact ⟨[], by simp⟩
  | succ b ih =>
    by_cases e : a = b + 1
    · subst e; exact ⟨[], by simp⟩
    · obtain ⟨t, ht⟩ := ih (by omega)
      exact ⟨t ++ sy l (b + 1), by rw [ord, ht]; simp⟩
theorem place {l : List Nat} {k m : Nat} (hk : k < (od l).length) (hm : m ≤ 31) : k < nx l m ↔ l.getD (od l)[k] 0 < m := by
  obtain ⟨t, ht⟩ := ord_pre l (show m - 1 ≤ 30 by omega)
  have hmem := (od_mem.1 (List.getElem_mem hk)).2
  constructor
  · intro h
    unfold nx at h
    have e : (od l)[k]? = (ord l (m - 1))[k]? := by rw [od_eq, ht, List.getElem?_append_left h]
    rw [List.getElem?_eq_getElem hk, List.getElem?_eq_getElem h, Option.some.injEq] at e
    have := (ord_mem.1 (List.getElem_mem h)).2
    rw [← e] at this; omega
  · intro h
    have hin : (od l)[k] ∈ ord l (m - 1) := ord_mem.2 ⟨(od_mem.1 (List.getElem_mem hk)).1, hmem.1, by omega⟩
    obtain ⟨j, hj, e⟩ := List.getElem_of_mem hin
    have hj' : j < (od l).length := by rw [od_eq, ht, List.length_append]; omega
    have e2 : (od l)[j]? = (ord l (m - 1))[j]? := by rw [od_eq, ht, List.getElem?_append_left hj]
    rw [List.getElem?_eq_getElem hj', List.getElem?_eq_getElem hj, Option.some.injEq, e] at e2
    have e3 := (od_nodup l).idxOf_getElem j hj'
    have e4 := (od_nodup l).idxOf_getElem k hk
    rw [e2] at e3
    have : j = k := by omega
    unfold nx; omega
theorem place_eq {l : List Nat} {k n : Nat} (hk : k < (od l).length) (hn : n ≤ 30) (h : nx l n ≤ k) : k < nx l (n + 1) ↔ l.getD ((od l).getD k 0) 0 = n := by
 have h1 := place hk (show n ≤ 31 by omega)
 have h2 := place hk (show n + 1 ≤ 31 by omega)
 rw [getD_eq hk]; omega
noncomputable def fnd (l : List Nat) (v n : Nat) : Option Nat := (List.range l.length).find? fun i => decide (0 < n ∧ l.getD i 0 = n ∧ code l i = v)
theorem fnd_none {l : List Nat} {v n : Nat} : fnd l v n = none ↔ ∀ i, i < l.length → ¬ (0 < n ∧ l.getD i 0 = n ∧ code l i = v) := by
 unfold fnd; simp only [List.find?_eq_none, List.mem_range, decide_eq_true_eq]
theorem fnd_some {l : List Nat} {v n i : Nat} (hb : ∀ n ∈ l, n ≤ 30) (hi : i < l.length) (h0 : 0 < n) (h1 : l.getD i 0 = n) (h2 : code l i = v) : fnd l v n = some i := by
  cases h : fnd l v n with
  | none => exact (fnd_none.1 h i hi ⟨h0, h1, h2⟩).elim
  | some j =>
    have hp := List.find?_some h
    have hm := List.mem_of_find?_eq_some h
    rw [List.mem_range] at hm
    rw [decide_eq_true_eq] at hp
    have hbd : ∀ {q}, q < l.length → l.getD q 0 = n → q ∈ od l := fun {q} hq e => od_mem.2 ⟨hq, by omega, by have := hb l[q] (List.getElem_mem hq); rw [getD_eq hq]; exact this⟩
    have ii := hbd hi h1
    have ij := hbd hm hp.2.1
    by_cases e : j = i
    · rw [e]
    · rcases bf_total (l := l) e with hb1 | hb1
      · have := front_gt ii ij (by omega) hb1; omega
      · have := front_gt ij ii (by omega) hb1; omega
end Pf
end Go.Proofs.YtplbgehpohdmdaaGreatDoor
