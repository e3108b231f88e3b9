/- The law SaisNames holds: the errors' numbers are as the document has them and the three examples' orders are as told. No condition: the law takes no input. -/
import Derived.Test.YtgnhangjacdfbaaXx13
namespace Go.Proofs.Ytgnhangjacdfbaa.Pure
open Go.RowKit Go.Proofs.Ytgnhangjacdfbaa.X Go.Proofs.YtgnhangjacdfbaaW.PrintWords Go.Proofs.YtgnhangjacdfbaaW.PrintLast

theorem SaisNames : sapperlaw12_SaisNames.Pure := by
  refine ⟨100, ?_⟩
  decide +kernel

end Go.Proofs.Ytgnhangjacdfbaa.Pure
