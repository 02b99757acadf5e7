/- The numbers under which the program holds sync.Mutex, and that it holds it. -/
import Derived.Test.YtdcgmkoonanpgaaProg
import Derived.Test.YtdcgmkoonanpgaaSymW
import Derived.KernelRfl
namespace Go.Proofs.Ytdcgmkoonanpgaa
set_option linter.unusedSimpArgs false
set_option linter.unusedVariables false
open Go.RowKit Sym Go.Conc.Locks

abbrev muLink : MuLink := { lock := 78, unlock := 54, ilock := 83, iunlock := 79, lockSlow := 94, unlockSlow := 87, disable := 85, enable := 88, acquire := 93, relMerge := 84, cas32 := 92, add32 := 86, tMutex := 62, tIMutex := 60, tPMutex := 118, tPIMutex := 123, tPI32 := 127, tUP := 125, tNoCopy := 57, tU32 := 58 }
theorem muLib : MuLib Try.prog muLink :=
  ⟨Try.func78, Try.func54, Try.func83, Try.func79, Try.func85, Try.func88, Try.func93, Try.func84, Try.func92, Try.func86, Try.underlying60, Try.runUnderlying60, Try.sizeOf60, Try.isAgg60, Try.zeroValue60, Try.underlying62, Try.runUnderlying62, Try.sizeOf62, Try.isAgg62, Try.zeroValue62, Try.underlying118, Try.runUnderlying118, Try.sizeOf118, Try.isAgg118, Try.zeroValue118, Try.underlying123, Try.runUnderlying123, Try.sizeOf123, Try.isAgg123, Try.zeroValue123, Try.underlying127, Try.runUnderlying127, Try.sizeOf127, Try.isAgg127, Try.zeroValue127, Try.underlying125, Try.runUnderlying125, Try.sizeOf125, Try.isAgg125, Try.zeroValue125, Try.underlying57, Try.runUnderlying57, Try.sizeOf57, Try.isAgg57, Try.zeroValue57, Try.underlying21, Try.runUnderlying21, Try.sizeOf21, Try.isAgg21, Try.zeroValue21, by kernel_rfl⟩
theorem lockC : Callable Try.prog 78 := ⟨_, Try.func78, by kernel_rfl, by kernel_rfl⟩
theorem unlockC : Callable Try.prog 54 := ⟨_, Try.func54, by kernel_rfl, by kernel_rfl⟩
end Go.Proofs.Ytdcgmkoonanpgaa
