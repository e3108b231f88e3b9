/- The law ScanNames holds: the error's number, and the first steps. No condition. -/
import Derived.Test.YtobknpeglagaaaaXx39
namespace Go.Proofs.Ytobknpeglagaaaa.Pure
open Go.RowKit Go.Proofs.Ytobknpeglagaaaa Go.Proofs.Ytobknpeglagaaaa.X Go.Proofs.YtobknpeglagaaaaW.PrintWords Go.Proofs.YtobknpeglagaaaaW.PrintLast

theorem lives15_f : ∃ K, ∀ k, K ≤ k → sapperlaw15_lives.f k = some true := by
  have h : sapperlaw15_lives.f 400 = some true := by decide +kernel
  exact ⟨400, fun k hk => at_rounds (g := fun k => sapperlaw15_lives.f k) (fun k => sapperlaw15_lives.mono k) hk h⟩
theorem ScanNames : sapperlaw15_ScanNames.Pure := by
  obtain ⟨K, h⟩ := lives15_f
  exact ⟨K, by unfold sapperlaw15_ScanNames.f; rw [h K (Nat.le_refl _)]; rfl⟩
end Go.Proofs.Ytobknpeglagaaaa.Pure
