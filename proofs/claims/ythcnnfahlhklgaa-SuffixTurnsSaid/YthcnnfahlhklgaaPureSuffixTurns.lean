/- The law SuffixTurns holds of any two byte lists and any number: Turn and Unturn tell what the document tells, and what Turn hands out is its caller's own. No condition. -/
import Derived.Test.YthcnnfahlhklgaaSCSuffixTurns
import Derived.Test.YthcnnfahlhklgaaXL
import Derived.Test.YthcnnfahlhklgaaXx29
namespace Go.Proofs.Ythcnnfahlhklgaa.Pure
open Go.RowKit Go.Proofs.Ythcnnfahlhklgaa Go.Proofs.Ythcnnfahlhklgaa.X Go.Proofs.Ythcnnfahlhklgaa.SD Go.Proofs.Ythcnnfahlhklgaa.SM Go.Proofs.YthcnnfahlhklgaaW.PrintWords Go.Proofs.YthcnnfahlhklgaaW.PrintLast

section
variable {s l p : List Int}
attribute [local irreducible] cn cv fr tov rk3 loc2 ch rank
theorem lives_f : ∃ K, ∀ k, K ≤ k → sapperlaw13_lives.f k = some true := by
  have h : sapperlaw13_lives.f 400 = some true := by decide +kernel
  exact ⟨400, fun k hk => at_rounds (g := fun k => sapperlaw13_lives.f k) (fun k => sapperlaw13_lives.mono k) hk h⟩
theorem lend_f (h : l.length ≤ 140737488351232) : sapperref01_Lend.f l = some (l ++ [171, 172, 173, 174, 175]) := by
  unfold sapperref01_Lend.f
  rw [Option.bind_some, if_pos (by simp; omega), Option.bind_some, Option.bind_some, if_pos (by simp; omega), Option.bind_some, if_pos (by omega), if_pos (by simp; omega), List.nil_append]
theorem kept_f (h : l.length ≤ 140737488351232) : sapperref01_Kept.f (l ++ [171, 172, 173, 174, 175]) l = some true := by
  unfold sapperref01_Kept.f
  rw [lend_f h, Option.bind_some, if_pos (by omega), if_pos (by simp; omega)]
  unfold sapperref01_Same.f
  rw [Option.bind_some, beq_self_eq_true]
theorem same01_f : sapperref01_Same.f l l = some true := by
  unfold sapperref01_Same.f
  rw [beq_self_eq_true]
theorem own_f (h : l.length ≤ 1073741824) : sapperref01_Own.f [l, l] = some true := by
  unfold sapperref01_Own.f
  rw [if_pos ⟨rfl, by simp; omega⟩]
end
theorem SuffixTurns : sapperlaw13_SuffixTurns.Pure := by
  intro s b a _ hs0 hw _ hb0 hwb _
  obtain ⟨K1, h1⟩ := lives_f
  have hb := bl_of_wf hw
  have hbb := bl_of_wf hwb
  have e1 : (s ++ [171, 172, 173, 174, 175]).take s.length = s := by simp
  have e3 : (s ++ [171, 172, 173, 174, 175]).length = s.length + 5 := by simp
  have e1b : (b ++ [171, 172, 173, 174, 175]).take b.length = b := by simp
  have e3b : (b ++ [171, 172, 173, 174, 175]).length = b.length + 5 := by simp
  obtain ⟨K2, r, u1, u2⟩ := unturns_ok hbb a
  have key : ∃ K x t, x.length ≤ 1073741824 ∧ ∀ k, K ≤ k → suffix_Turn.f k s = some (x, t) ∧ sapperref13_Turn.f k s = some (x, t) := by
    by_cases hs : s.length ≤ 16777216
    · obtain ⟨K, x, e, t1, t2, _, _⟩ := turns_ok hs hb
      exact ⟨K, x, ((e : Int), 0), by omega, t1⟩
    · exact ⟨0, [], (0, 130), by simp, fun k _ => turns_many (by omega) k⟩
  obtain ⟨K3, x, t, hx, k3⟩ := key
  refine ⟨K1 + K2 + K3 + 10, ?_⟩
  have hj : sapperlaw13_SuffixTurns.j0 (K1 + K2 + K3 + 10) b a false = some true := by
    rw [show K1 + K2 + K3 + 10 = K1 + K2 + K3 + 9 + 1 by omega, sapperlaw13_SuffixTurns.j0, if_neg (by decide), lend_f (by omega), Option.bind_some, if_pos (by omega), if_pos (by omega), Int.toNat_natCast, e1b, u2, Option.bind_some, u1 _ (by omega), Option.bind_some, if_pos rfl, same01_f, Option.bind_some, if_pos rfl, kept_f (by omega), Option.bind_some, if_pos rfl, h1 _ (by omega)]; rfl
  obtain ⟨q1, q2⟩ := k3 (K1 + K2 + K3 + 10) (by omega)
  unfold sapperlaw13_SuffixTurns.f
  rw [lend_f (by omega), Option.bind_some, if_pos (by omega), if_pos (by omega), Option.bind_some, Int.toNat_natCast, e1, q1, Option.bind_some, Option.bind_some, q2, Option.bind_some]
  dsimp only
  rw [if_pos rfl, if_pos rfl, same01_f, Option.bind_some, if_pos rfl, Option.bind_some, if_pos rfl, kept_f (by omega), Option.bind_some, if_pos rfl, own_f hx, Option.bind_some]
  exact hj
end Go.Proofs.Ythcnnfahlhklgaa.Pure
