/- The numbers under which this dump holds the library's lock and its types, and that it holds them (checked by the kernel). -/
import Derived.Test.YtbdlkpmaalhnnaaProg
import Derived.Conc.RwLib
import Derived.Conc.MuData
import Derived.KernelRfl
namespace Go.Proofs.Ytbdlkpmaalhnnaa.X
open Go.Proofs
abbrev muLink : Go.Conc.Locks.MuLink := { lock := 39, unlock := 40, ilock := 49, iunlock := 50, lockSlow := 58, unlockSlow := 61, disable := 54, enable := 56, acquire := 57, relMerge := 59, cas32 := 55, add32 := 60, tMutex := 54, tIMutex := 52, tPMutex := 118, tPIMutex := 122, tPI32 := 124, tUP := 126, tNoCopy := 49, tU32 := 50 }
theorem muLib : Go.Conc.Locks.MuLib Try.prog muLink :=
  ⟨Try.func39, Try.func40, Try.func49, Try.func50, Try.func54, Try.func56, Try.func57, Try.func59, Try.func55, Try.func60, Try.underlying52, Try.runUnderlying52, Try.sizeOf52, Try.isAgg52, Try.zeroValue52, Try.underlying54, Try.runUnderlying54, Try.sizeOf54, Try.isAgg54, Try.zeroValue54, Try.underlying118, Try.runUnderlying118, Try.sizeOf118, Try.isAgg118, Try.zeroValue118, Try.underlying122, Try.runUnderlying122, Try.sizeOf122, Try.isAgg122, Try.zeroValue122, Try.underlying124, Try.runUnderlying124, Try.sizeOf124, Try.isAgg124, Try.zeroValue124, Try.underlying126, Try.runUnderlying126, Try.sizeOf126, Try.isAgg126, Try.zeroValue126, Try.underlying49, Try.runUnderlying49, Try.sizeOf49, Try.isAgg49, Try.zeroValue49, Try.underlying21, Try.runUnderlying21, Try.sizeOf21, Try.isAgg21, Try.zeroValue21, (by kernel_rfl)⟩
end Go.Proofs.Ytbdlkpmaalhnnaa.X
