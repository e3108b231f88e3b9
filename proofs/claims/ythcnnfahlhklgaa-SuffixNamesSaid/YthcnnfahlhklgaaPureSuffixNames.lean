/- The law SuffixNames: the errors' numbers and the limit are the document's, and "banana" has the order that the document says. No condition. -/
import Derived.Test.YthcnnfahlhklgaaSXc
import Derived.Test.YthcnnfahlhklgaaXx20
namespace Go.Proofs.Ythcnnfahlhklgaa.Pure
open Go.RowKit Go.Proofs.Ythcnnfahlhklgaa Go.Proofs.Ythcnnfahlhklgaa.X Go.Proofs.Ythcnnfahlhklgaa.SD Go.Proofs.YthcnnfahlhklgaaW.PrintWords Go.Proofs.YthcnnfahlhklgaaW.PrintLast
theorem SuffixNames : sapperlaw13_SuffixNames.Pure := by
  obtain ⟨K, h⟩ := lives_f
  refine ⟨K, ?_⟩
  unfold sapperlaw13_SuffixNames.f
  rw [h K (Nat.le_refl _)]; rfl
end Go.Proofs.Ythcnnfahlhklgaa.Pure
