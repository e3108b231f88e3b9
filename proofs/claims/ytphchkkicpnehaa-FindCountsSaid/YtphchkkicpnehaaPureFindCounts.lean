/- The law FindCounts holds of any bytes: Distinct is all texts less what neighbours have in common. No condition. -/
import Derived.Test.YtphchkkicpnehaaSYa
import Derived.Test.YtphchkkicpnehaaXx47
namespace Go.Proofs.Ytphchkkicpnehaa.Pure
open Go.RowKit Go.Proofs.Ytphchkkicpnehaa Go.Proofs.Ytphchkkicpnehaa.X Go.Proofs.Ytphchkkicpnehaa.SD Go.Proofs.Ytphchkkicpnehaa.SM Go.Proofs.YtphchkkicpnehaaW.PrintWords Go.Proofs.YtphchkkicpnehaaW.PrintLast

section
variable {s : List Int} {x : S61}
attribute [local irreducible] cn cv fr tov rk3 loc2 ch rank
theorem counts_l0 (hs : s.length ≤ 16777216) (hx : IsIx s x) {K1 : Nat} (h1 : ∀ k, K1 ≤ k → sapperlaw14_awake.f k = some true) (d : Nat) : ∀ q, s.length - q = d → q ≤ s.length → ∀ k, K1 + s.length + 5 ≤ k → sapperlaw14_FindCounts.l0 (k + d + 1) s [x] ((base s x.f2 s.length + sumL s x.f2 s.length - sumL s x.f2 q : Nat) : Int) (q : Int) x.f4 = some true := by
  have hl := hx.2.2.2.2.2.1
  have hsm := base_small hs hx.2.2.1
  induction d with
  | zero =>
    intro q hd hq k hk
    have : q = s.length := by omega
    subst this
    rw [show k + 0 + 1 = k + 1 by omega, sapperlaw14_FindCounts.l0, if_neg (by omega), Nat.add_sub_cancel, Distinct_f hs hx (by omega), Option.bind_some, if_pos rfl, if_pos rfl, if_pos (by omega), h1 _ (by omega)]; rfl
  | succ d ih =>
    intro q hd hq k hk
    have g := hx.2.2.2.2.2.2 q (by omega)
    have e : sumL s x.f2 (q + 1) = sumL s x.f2 q + lcv s x.f2 q := rfl
    have hm := sumL_mono s x.f2 (show q + 1 ≤ s.length by omega)
    rw [show k + (d + 1) + 1 = k + d + 1 + 1 by omega, sapperlaw14_FindCounts.l0, if_pos (by omega), if_pos (by omega), rd_nat, g,
      wp (x := ((base s x.f2 s.length + sumL s x.f2 s.length - sumL s x.f2 q : Nat) : Int) - (lcv s x.f2 q : Int)) (y := ((base s x.f2 s.length + sumL s x.f2 s.length - sumL s x.f2 (q + 1) : Nat) : Int)) (by omega) (by omega) (by omega),
      wp (x := (q : Int) + 1) (y := ((q + 1 : Nat) : Int)) (by omega) (by omega) (by omega)]
    exact ih (q + 1) (by omega) (by omega) k hk
end
theorem FindCounts : sapperlaw14_FindCounts.Pure := by
  intro s _ _ hw
  obtain ⟨K1, h1⟩ := awake_f
  by_cases hs : s.length ≤ 16777216
  case neg =>
    refine ⟨K1 + 1, ?_⟩
    unfold sapperlaw14_FindCounts.f
    rw [index_many (by omega), Option.bind_some, if_pos rfl, sapperlaw14_FindCounts.j0, if_pos (by rfl), if_pos rfl, h1 _ (by omega)]; rfl
  obtain ⟨K2, x, h2, hx⟩ := index_ok hs (byt_wf hw)
  refine ⟨K1 + K2 + 2 * s.length + 10 + 1, ?_⟩
  unfold sapperlaw14_FindCounts.f
  rw [h2 _ (by omega), Option.bind_some, if_pos rfl, sapperlaw14_FindCounts.j0, if_neg (by simp), Lcp_f hs hx, Option.bind_some, all_texts hs hx.2.2.1]
  have := counts_l0 hs hx h1 s.length 0 (by omega) (by omega) (K1 + K2 + s.length + 9) (by omega)
  rw [show K1 + K2 + s.length + 9 + s.length + 1 = K1 + K2 + 2 * s.length + 10 by omega, show ((0 : Nat) : Int) = 0 from rfl] at this
  exact this
end Go.Proofs.Ytphchkkicpnehaa.Pure
