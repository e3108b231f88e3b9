/- The law SaisRefuses holds of every alphabet and every list of numbers: what may not be is refused by Array, Buckets and Induce with one error and with nothing else. No condition. -/
import Derived.Test.YtgnhangjacdfbaaSMd
import Derived.Test.YtgnhangjacdfbaaXx63
namespace Go.Proofs.Ytgnhangjacdfbaa.Pure
open Go.RowKit Go.Proofs.Ytgnhangjacdfbaa Go.Proofs.Ytgnhangjacdfbaa.X Go.Proofs.Ytgnhangjacdfbaa.SD Go.Proofs.Ytgnhangjacdfbaa.SM Go.Proofs.YtgnhangjacdfbaaW.PrintWords Go.Proofs.YtgnhangjacdfbaaW.PrintLast

theorem awake_f' : ∃ K, ∀ k, K ≤ k → sapperlaw12_awake.f k = some true := by
  have h : sapperlaw12_awake.f 100 = some true := by decide +kernel
  refine ⟨100, fun k hk => ?_⟩
  obtain ⟨d, rfl⟩ : ∃ d, k = 100 + d := ⟨k - 100, by omega⟩
  induction d with
  | zero => exact h
  | succ d ih => exact sapperlaw12_awake.mono (100 + d) _ (ih (by omega))

open Classical in
theorem may_loop (k0 : Int) (s : List Int) (hs : s.length ≤ 16777216) (d : Nat) : ∀ q, s.length - q = d → q ≤ s.length → ∀ k,
    sapperlaw12_may.l0 (k + d + 1) k0 s (q : Int) = some (decide (∀ j, q ≤ j → j < s.length → 0 ≤ ch s j ∧ ch s j < k0)) := by
  induction d with
  | zero =>
    intro q hd hq k
    rw [sapperlaw12_may.l0, if_neg (by omega), decide_eq_true (fun j h1 h2 => by omega)]
  | succ d ih =>
    intro q hd hq k
    rw [show k + (d + 1) + 1 = (k + d + 1) + 1 by omega, sapperlaw12_may.l0, if_pos (by omega), if_pos (by omega), rd_nat]
    by_cases a : ch s q < 0
    · rw [if_pos a, decide_eq_false (fun h => by have := h q (Nat.le_refl _) (by omega); omega)]
    · rw [if_neg a]
      by_cases b : ch s q ≥ k0
      · rw [if_pos b, decide_eq_false (fun h => by have := h q (Nat.le_refl _) (by omega); omega)]
      · rw [if_neg b, show wrap64 ((q : Int) + 1) = ((q + 1 : Nat) : Int) by rw [w64 (by omega) (by omega)]; omega, ih (q + 1) (by omega) (by omega) k]
        congr 1
        have : (∀ j, q ≤ j → j < s.length → 0 ≤ ch s j ∧ ch s j < k0) ↔ (∀ j, q + 1 ≤ j → j < s.length → 0 ≤ ch s j ∧ ch s j < k0) := by
          constructor
          · intro h j h1 h2; exact h j (by omega) h2
          · intro h j h1 h2
            rcases Nat.lt_or_ge q j with h3 | h3
            · exact h j (by omega) h2
            · obtain rfl : j = q := by omega
              omega
        simp only [this]
open Classical in
theorem may_f (k0 : Int) (s : List Int) : ∃ K, ∀ k, K ≤ k → sapperlaw12_may.f k k0 s = some (decide (Ok k0 s)) := by
  refine ⟨s.length + 2, fun k hk => ?_⟩
  obtain ⟨k, rfl⟩ : ∃ m, k = m + s.length + 2 := ⟨k - s.length - 2, by omega⟩
  unfold sapperlaw12_may.f
  by_cases a : k0 < 0
  · rw [if_pos a, sapperlaw12_may.j0, if_pos rfl, decide_eq_false (fun h => by have := h.1; omega)]
  · rw [if_neg a]
    by_cases b : k0 > 33554432
    · rw [if_pos b, sapperlaw12_may.j0, if_pos rfl, decide_eq_false (fun h => by have := h.2.1; omega)]
    · rw [if_neg b, sapperlaw12_may.j0]
      by_cases c : s.length > 16777216
      · rw [if_pos (by simp <;> omega), decide_eq_false (fun h => by have := h.2.2.1; omega)]
      · rw [if_neg (by simp <;> omega), show ((0 : Int)) = ((0 : Nat) : Int) from rfl, may_loop k0 s (by omega) s.length 0 (by omega) (by omega) k]
        congr 1
        have : (∀ j, 0 ≤ j → j < s.length → 0 ≤ ch s j ∧ ch s j < k0) ↔ Ok k0 s := ⟨fun h => ⟨by omega, by omega, by omega, fun q hq => h q (by omega) hq⟩, fun h j _ hj => h.2.2.2 j hj⟩
        simp only [this]

open Classical in
theorem SaisRefuses : sapperlaw12_SaisRefuses.Pure := by
  intro k0 s _ _ hs _
  obtain ⟨K1, h1⟩ := may_f k0 s
  obtain ⟨K2, e, h2, h3, h4⟩ := check_f k0 s (by omega)
  obtain ⟨K3, h5⟩ := awake_f'
  refine ⟨K1 + K2 + K3 + 3, ?_⟩
  unfold sapperlaw12_SaisRefuses.f
  rw [h1 _ (by omega), Option.bind_some]
  by_cases hok : Ok k0 s
  · rw [if_pos (decide_eq_true hok), h5 _ (by omega), Option.bind_some]
  · rw [if_neg (by simp [hok])]
    have hne : e ≠ 0 := fun h => hok (h3.1 h)
    have hc : sais_check.f (K1 + K2 + K3) k0 s = some e := h2 _ (by omega)
    have ha : sapperlaw12_awake.f (K1 + K2 + K3) = some true := h5 _ (by omega)
    have last : sapperlaw12_SaisRefuses.j2 (K1 + K2 + K3 + 1) k0 s e = some true := by
      rw [sapperlaw12_SaisRefuses.j2]
      unfold sais_Array.f sais_Buckets.f sais_Induce.f
      rw [hc]
      simp only [Option.bind_some, if_neg hne]
      rw [ha]
      rfl
    by_cases a : k0 < 0 ∨ k0 > 33554432
    · rw [if_pos a] at h4
      have key : ∀ x, sapperlaw12_SaisRefuses.j0 (K1 + K2 + K3 + 3) k0 s x = some true := by
        intro x
        rw [sapperlaw12_SaisRefuses.j0]
        by_cases b : k0 < 0
        · rw [if_pos b, sapperlaw12_SaisRefuses.j1, if_pos rfl, ← h4]; exact last
        · rw [if_neg b, sapperlaw12_SaisRefuses.j1, if_pos (decide_eq_true (by omega)), ← h4]; exact last
      split <;> exact key _
    · rw [if_neg a] at h4
      have key : sapperlaw12_SaisRefuses.j0 (K1 + K2 + K3 + 3) k0 s e = some true := by
        rw [sapperlaw12_SaisRefuses.j0, if_neg (by omega), sapperlaw12_SaisRefuses.j1, if_neg (by simp <;> omega)]; exact last
      by_cases b : s.length > 16777216
      · rw [if_pos b] at h4; rw [if_pos (by omega), ← h4]; exact key
      · rw [if_neg b, if_neg (fun h => hok ⟨by omega, by omega, by omega, h⟩)] at h4
        rw [if_neg (by omega), ← h4]; exact key
end Go.Proofs.Ytgnhangjacdfbaa.Pure
