/- The law FindStatistics holds of any bytes and any text, each of at most 1048576 bytes: of each place of the text what stands anywhere, as the document tells; the answer is one's own. -/
import Derived.Test.YtphchkkicpnehaaSCFindStatistics
import Derived.Test.YtphchkkicpnehaaXx42
namespace Go.Proofs.Ytphchkkicpnehaa.Pure
open Go.RowKit Go.Proofs.Ytphchkkicpnehaa Go.Proofs.Ytphchkkicpnehaa.X Go.Proofs.Ytphchkkicpnehaa.SD Go.Proofs.Ytphchkkicpnehaa.SM Go.Proofs.YtphchkkicpnehaaW.PrintWords Go.Proofs.YtphchkkicpnehaaW.PrintLast

theorem st_l1 (b w : List Int) (d : Nat) : ∀ (a : List Int) (i : Nat), 40 - i = d → a.length ≤ 2000000 + i → ∀ k, sapperlaw14_FindStatistics.l1 (k + d + 1) a b w (i : Int) = (sapperlaw14_Same.f k b w).bind fun t => (if t = true then ((sapperlaw14_awake.f k).bind fun t => (some t)) else (some false)) := by
  induction d with
  | zero =>
    intro a i hd ha
    intro k
    rw [show k + 0 + 1 = k + 1 by omega, sapperlaw14_FindStatistics.l1, if_neg (by omega)]
  | succ d ih =>
    intro a i hd ha
    have h := ih (a ++ [82]) (i + 1) (by omega) (by rw [List.length_append, List.length_singleton]; omega)
    intro k
    rw [show k + (d + 1) + 1 = k + d + 1 + 1 by omega, sapperlaw14_FindStatistics.l1, if_pos (by omega), if_pos (by omega), wp (x := (i : Int) + 1) (y := ((i + 1 : Nat) : Int)) (by omega) (by omega) (by omega)]
    exact h k
theorem st_l0 (b w : List Int) (d : Nat) : ∀ (a : List Int) (i : Nat), a.length - i = d → i ≤ a.length → a.length ≤ 2000000 → ∃ a' : List Int, a'.length = a.length ∧ ∀ k, sapperlaw14_FindStatistics.l0 (k + d + 1) a b w (i : Int) = sapperlaw14_FindStatistics.l1 k a' b w 0 := by
  induction d with
  | zero =>
    intro a i hd hi ha
    exact ⟨a, rfl, fun k => by rw [show k + 0 + 1 = k + 1 by omega, sapperlaw14_FindStatistics.l0, if_neg (by omega)]⟩
  | succ d ih =>
    intro a i hd hi ha
    obtain ⟨a', e, h⟩ := ih (a.set i 81) (i + 1) (by rw [List.length_set]; omega) (by rw [List.length_set]; omega) (by rw [List.length_set]; omega)
    rw [List.length_set] at e
    refine ⟨a', e, fun k => ?_⟩
    rw [show k + (d + 1) + 1 = k + d + 1 + 1 by omega, sapperlaw14_FindStatistics.l0, if_pos (by omega), if_pos (by omega), Int.toNat_natCast, wp (x := (i : Int) + 1) (y := ((i + 1 : Nat) : Int)) (by omega) (by omega) (by omega)]
    exact h k
theorem FindStatisticsUpto : ∀ (s p : List Int), s.length ≤ maxLen → s.length * 1 ≤ 140737488351232 → (∀ x ∈ s, (Lit.int .u8 x).wf = true) → p.length ≤ maxLen → p.length * 1 ≤ 140737488351232 → (∀ x ∈ p, (Lit.int .u8 x).wf = true) → s.length ≤ 1048576 → p.length ≤ 1048576 → ∃ k, sapperlaw14_FindStatistics.f k s p = some true := by
  intro s p _ _ hw _ _ _ hs hp
  obtain ⟨K1, h1⟩ := awake_f
  obtain ⟨K2, x, h2, hx⟩ := index_ok (show s.length ≤ 16777216 by omega) (byt_wf hw)
  have hl := sts_len (s := s) (p := p)
  obtain ⟨a', e, h4⟩ := st_l0 (sts s p) (sts s p) (sts s p).length (sts s p) 0 (by omega) (by omega) (by omega)
  have h5 := st_l1 (sts s p) (sts s p) 40 a' 0 (by omega) (by omega)
  have hs' : s.length ≤ 16777216 := by omega
  refine ⟨K1 + K2 + 4 * s.length + 4 * p.length + 200 + 41 + (sts s p).length + 1 + 2, ?_⟩
  unfold sapperlaw14_FindStatistics.f
  rw [h2 _ (by omega), Option.bind_some, if_pos rfl, sapperlaw14_FindStatistics.j0, if_neg (by simp), lend14_f (by omega), Option.bind_some, if_pos (by omega), if_pos (by rw [List.length_append]; omega), take_room, Statistics_f hs' hx hp (by omega), Option.bind_some, Option.bind_some, refStatistics_f hs' hp (by omega), Option.bind_some]
  dsimp only
  rw [if_pos rfl, if_pos rfl, same14_f (by omega) (by omega), Option.bind_some, if_pos rfl, Option.bind_some, if_pos rfl, kept14_f (by omega), Option.bind_some, sapperlaw14_FindStatistics.j1, if_neg (by decide)]
  rw [show ((0 : Nat) : Int) = 0 from rfl] at h4 h5
  rw [show K1 + K2 + 4 * s.length + 4 * p.length + 200 + 41 + (sts s p).length + 1 = (K1 + K2 + 4 * s.length + 4 * p.length + 200 + 40 + 1) + (sts s p).length + 1 by omega, h4, h5, same14_f (by omega) (by omega), Option.bind_some, if_pos rfl, h1 _ (by omega)]; rfl
end Go.Proofs.Ytphchkkicpnehaa.Pure
