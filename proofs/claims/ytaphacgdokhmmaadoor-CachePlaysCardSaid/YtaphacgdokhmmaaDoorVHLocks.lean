/- The numbers under which this dump holds sync.Mutex (as the kit's tool lock-link lays them). -/
import Derived.Test.YtaphacgdokhmmaaDoorVHx0
import Derived.Conc.MuLone
import Derived.Conc.RwLib
import Derived.Conc.MuData
import Derived.KernelRfl
set_option linter.unusedVariables false
set_option linter.unusedSimpArgs false
namespace Go.Proofs.YtaphacgdokhmmaaDoor.H
abbrev muLink : Go.Conc.Locks.MuLink := { lock := 22, unlock := 23, ilock := 30, iunlock := 31, lockSlow := 38, unlockSlow := 41, disable := 34, enable := 36, acquire := 37, relMerge := 39, cas32 := 35, add32 := 40, tMutex := 48, tIMutex := 46, tPMutex := 76, tPIMutex := 81, tPI32 := 83, tUP := 85, tNoCopy := 43, tU32 := 44 }
theorem muLib : Go.Conc.Locks.MuLib Tryd.prog muLink :=
  ⟨Tryd.func22, Tryd.func23, Tryd.func30, Tryd.func31, Tryd.func34, Tryd.func36, Tryd.func37, Tryd.func39, Tryd.func35, Tryd.func40, Tryd.underlying46, Tryd.runUnderlying46, Tryd.sizeOf46, Tryd.isAgg46, Tryd.zeroValue46, Tryd.underlying48, Tryd.runUnderlying48, Tryd.sizeOf48, Tryd.isAgg48, Tryd.zeroValue48, Tryd.underlying76, Tryd.runUnderlying76, Tryd.sizeOf76, Tryd.isAgg76, Tryd.zeroValue76, Tryd.underlying81, Tryd.runUnderlying81, Tryd.sizeOf81, Tryd.isAgg81, Tryd.zeroValue81, Tryd.underlying83, Tryd.runUnderlying83, Tryd.sizeOf83, Tryd.isAgg83, Tryd.zeroValue83, Tryd.underlying85, Tryd.runUnderlying85, Tryd.sizeOf85, Tryd.isAgg85, Tryd.zeroValue85, Tryd.underlying43, Tryd.runUnderlying43, Tryd.sizeOf43, Tryd.isAgg43, Tryd.zeroValue43, Tryd.underlying21, Tryd.runUnderlying21, Tryd.sizeOf21, Tryd.isAgg21, Tryd.zeroValue21, (by kernel_rfl)⟩
end Go.Proofs.YtaphacgdokhmmaaDoor.H
