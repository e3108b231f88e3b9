/- The law SuffixCommons holds of any bytes and any two places: what two suffixes have in common is the document's answer. No condition. -/
import Derived.Test.YthcnnfahlhklgaaSXc
import Derived.Test.YthcnnfahlhklgaaXx24
namespace Go.Proofs.Ythcnnfahlhklgaa.Pure
open Go.RowKit Go.Proofs.Ythcnnfahlhklgaa Go.Proofs.Ythcnnfahlhklgaa.X Go.Proofs.Ythcnnfahlhklgaa.SD Go.Proofs.Ythcnnfahlhklgaa.SM Go.Proofs.YthcnnfahlhklgaaW.PrintWords Go.Proofs.YthcnnfahlhklgaaW.PrintLast
theorem SuffixCommons : sapperlaw13_SuffixCommons.Pure := by
  intro s a1 a2 _ _ hw _ _
  obtain ⟨K1, h1⟩ := lives_f
  by_cases hs : s.length ≤ 16777216
  case neg =>
    refine ⟨1, ?_⟩
    unfold sapperlaw13_SuffixCommons.f
    rw [New_many (by omega), Option.bind_some, if_pos (by omega), if_pos (by simp)]; rfl
  obtain ⟨K2, x, h2, hx⟩ := New_ok hs (byt_wf hw)
  refine ⟨K1 + K2 + s.length + 100, ?_⟩
  unfold sapperlaw13_SuffixCommons.f
  rw [h2 _ (by omega), Option.bind_some, if_neg (by omega), if_pos rfl]
  dsimp only
  rw [show K1 + K2 + s.length + 100 = K1 + K2 + s.length + 98 + 1 + 1 by omega, sapperlaw13_SuffixCommons.j0, if_neg (by simp)]
  by_cases hin : 0 ≤ a1 ∧ a1 < (s.length : Int) ∧ 0 ≤ a2 ∧ a2 < (s.length : Int)
  · obtain ⟨i, rfl⟩ := Int.eq_ofNat_of_zero_le hin.1
    obtain ⟨j, rfl⟩ := Int.eq_ofNat_of_zero_le hin.2.2.1
    rw [Common_in hs hx (by omega) (by omega) (by omega), Option.bind_some, if_neg (by omega), if_neg (by omega), if_neg (by omega), decide_eq_false (by omega), sapperlaw13_SuffixCommons.j1, if_neg (by simp)]
    dsimp only
    rw [if_pos rfl, if_pos (by omega), if_pos (by omega), if_pos (by omega), if_pos (by omega), Int.toNat_natCast, Int.toNat_natCast, refCommon_com hs _ _ (by omega), Option.bind_some, if_pos rfl, h1 _ (by omega)]; rfl
  · have hj : sapperlaw13_SuffixCommons.j1 (K1 + K2 + s.length + 98 + 1) s a1 a2 0 132 true = some true := by
      rw [sapperlaw13_SuffixCommons.j1, if_pos rfl, if_pos rfl, if_pos rfl, h1 _ (by omega)]; rfl
    rw [Common_out hx hin (by omega), Option.bind_some]
    dsimp only
    by_cases c1 : a1 < 0
    · rw [if_pos c1]; exact hj
    rw [if_neg c1]
    by_cases c2 : a1 ≥ (s.length : Int)
    · rw [if_pos c2]; exact hj
    rw [if_neg c2]
    by_cases c3 : a2 < 0
    · rw [if_pos c3]; exact hj
    rw [if_neg c3, decide_eq_true (by omega)]
    exact hj
end Go.Proofs.Ythcnnfahlhklgaa.Pure
