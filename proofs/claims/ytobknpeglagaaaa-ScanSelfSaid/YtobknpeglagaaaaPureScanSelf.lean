/- The law ScanSelf holds of any image: to itself one step adds all; from nothing one copies all; to nothing there is none. No condition. -/
import Derived.Test.YtobknpeglagaaaaSCScanSelf
import Derived.Test.YtobknpeglagaaaaXx41
namespace Go.Proofs.Ytobknpeglagaaaa.Pure
open Go.RowKit Go.Proofs.Ytobknpeglagaaaa Go.Proofs.Ytobknpeglagaaaa.X Go.Proofs.Ytobknpeglagaaaa.SD Go.Proofs.Ytobknpeglagaaaa.SM Go.Proofs.YtobknpeglagaaaaW.PrintWords Go.Proofs.YtobknpeglagaaaaW.PrintLast

theorem lives15S : ∃ K, ∀ k, K ≤ k → sapperlaw15_lives.f k = some true := by
  have h : sapperlaw15_lives.f 400 = some true := by decide +kernel
  exact ⟨400, fun k hk => at_rounds (g := fun k => sapperlaw15_lives.f k) (fun k => sapperlaw15_lives.mono k) hk h⟩
theorem ScanSelf : sapperlaw15_ScanSelf.Pure := by
  intro o _ _ hwo
  obtain ⟨K1, h1⟩ := lives15S
  by_cases hol : o.length ≤ 16777216
  case neg =>
    refine ⟨K1, ?_⟩
    unfold sapperlaw15_ScanSelf.f
    rw [if_pos (by omega), h1 _ (Nat.le_refl _)]; rfl
  obtain ⟨K2, x, h2, hx⟩ := index_ok hol (byt_wf hwo)
  obtain ⟨K3, y, h3, hy⟩ := index_ok (s := []) (by decide) (byt_wf (by simp))
  obtain ⟨K4, h4⟩ := Steps_none hol hx
  by_cases h0 : o.length = 0
  · have e : o = [] := List.eq_nil_of_length_eq_zero h0
    subst e
    obtain ⟨K5, h5⟩ := Steps_none (o := []) (by decide) hy
    refine ⟨K1 + K2 + K3 + K4 + K5 + 2, ?_⟩
    unfold sapperlaw15_ScanSelf.f
    have q2 := h2 (K1 + K2 + K3 + K4 + K5 + 2) (by omega)
    rw [if_neg (by decide), q2, Option.bind_some, h4 _ (by omega), Option.bind_some, Option.bind_some, h4 _ (by omega), Option.bind_some, Option.bind_some, h4 _ (by omega), Option.bind_some, if_pos rfl, if_pos rfl, if_pos rfl, sapperlaw15_ScanSelf.j0, if_neg (by decide), if_pos (show ((([] : List Int).length : Nat) : Int) = 0 from rfl), if_pos (show (((([] : List S39), (0 : Int)).1.length : Nat) : Int) = 0 from rfl), if_pos (show (((([] : List S39), (0 : Int)).1.length : Nat) : Int) = 0 from rfl), h1 _ (by omega)]
    rfl
  · obtain ⟨K5, h5⟩ := Steps_self hol hx (by omega)
    obtain ⟨K6, h6⟩ := Steps_nil hol hy (by omega)
    refine ⟨K1 + K2 + K3 + K4 + K5 + K6 + 2, ?_⟩
    unfold sapperlaw15_ScanSelf.f
    rw [if_neg (by omega), h2 _ (by omega), Option.bind_some, h5 _ (by omega), Option.bind_some, h3 _ (by omega), Option.bind_some, h6 _ (by omega), Option.bind_some, Option.bind_some, h4 _ (by omega), Option.bind_some, if_pos rfl, if_pos rfl, if_pos rfl, sapperlaw15_ScanSelf.j0, if_neg (by simp), if_neg (by omega)]
    have r1 : rd_T39 [(⟨0, (o.length : Int), 0⟩ : S39)] 0 = ⟨0, (o.length : Int), 0⟩ := rfl
    have r2 : rd_T39 [(⟨(o.length : Int), 0, 0⟩ : S39)] 0 = ⟨(o.length : Int), 0, 0⟩ := rfl
    rw [r1, r2]
    rw [if_pos (by rfl), if_pos (by simp), if_neg (by simp)]
    by_cases c9 : (o.length : Int) < 9
    · rw [if_pos c9]
    · rw [if_neg c9, if_pos (by rfl), if_pos (by simp), if_pos (by simp), h1 _ (by omega)]
      rfl
end Go.Proofs.Ytobknpeglagaaaa.Pure
