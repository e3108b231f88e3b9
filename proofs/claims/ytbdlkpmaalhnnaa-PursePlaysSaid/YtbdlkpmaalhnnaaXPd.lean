/- By hand: PurseNames' walk. -/
import Derived.Test.YtbdlkpmaalhnnaaXPc
namespace Go.Proofs.Ytbdlkpmaalhnnaa.X
open Go.RowKit Go.Proofs.YtbdlkpmaalhnnaaW.PrintWords Go.Proofs.YtbdlkpmaalhnnaaW.PrintLast Go.Proofs.YtbdlkpmaalhnnaaW.PrintMore
theorem names_walk {w : World} : Calls Try.prog 3 #[] w fun e w' => e = .returned (.bool true) ∧ Below w.heap.size w w' := by
  go_enter Try.func3, Try.ntmps3
  go_wp2_with (fail)
  refine lives_ok.mono ?_
  rintro e w1 ⟨rfl, hB⟩
  go_wp2
  go_ret
  exact ⟨rfl, hB⟩
end Go.Proofs.Ytbdlkpmaalhnnaa.X
