/- Plain mathematics: how much two suffixes have in common; what neighbours in the order have; the walk by places (Kasai). No program is in sight. -/
import Derived.Test.YtphchkkicpnehaaSMc
namespace Go.Proofs.Ytphchkkicpnehaa.SM

/-- How many numbers the suffixes i and j have in common. -/
def com (n : Nat) (c : Nat → Int) (i j : Nat) : Nat :=
  if _h : i < n then (if j < n ∧ c i = c j then com n c (i + 1) (j + 1) + 1 else 0) else 0
termination_by n - i

section
variable {n : Nat} {c : Nat → Int}
theorem com_step {i j : Nat} (hi : i < n) (hj : j < n) (h : c i = c j) : com n c i j = com n c (i + 1) (j + 1) + 1 := by
  rw [com, dif_pos hi, if_pos ⟨hj, h⟩]
theorem com_stop {i j : Nat} (h : ¬ (i < n ∧ j < n ∧ c i = c j)) : com n c i j = 0 := by
  rw [com]
  by_cases hi : i < n
  · rw [dif_pos hi, if_neg (fun h' => h ⟨hi, h'⟩)]
  · rw [dif_neg hi]
theorem com_pos {i j : Nat} (h : 0 < com n c i j) : i < n ∧ j < n ∧ c i = c j := by
  by_cases h' : i < n ∧ j < n ∧ c i = c j
  · exact h'
  · rw [com_stop h'] at h; omega
theorem com_pred {i j : Nat} (h : 0 < com n c i j) : com n c (i + 1) (j + 1) + 1 = com n c i j := by
  obtain ⟨h1, h2, h3⟩ := com_pos h
  exact (com_step h1 h2 h3).symm
theorem com_comm' (d : Nat) : ∀ i j, n - i = d → com n c i j = com n c j i := by
  induction d with
  | zero => intro i j h; rw [com_stop (by omega), com_stop (by omega)]
  | succ d ih =>
    intro i j h
    by_cases h' : i < n ∧ j < n ∧ c i = c j
    · rw [com_step h'.1 h'.2.1 h'.2.2, com_step h'.2.1 h'.1 h'.2.2.symm, ih (i + 1) (j + 1) (by omega)]
    · rw [com_stop h', com_stop (fun h2 => h' ⟨h2.2.1, h2.1, h2.2.2.symm⟩)]
theorem com_comm (i j : Nat) : com n c i j = com n c j i := com_comm' _ i j rfl
theorem com_le' (d : Nat) : ∀ i j, n - i = d → com n c i j ≤ n - i ∧ com n c i j ≤ n - j := by
  induction d with
  | zero => intro i j h; rw [com_stop (by omega)]; omega
  | succ d ih =>
    intro i j h
    by_cases h' : i < n ∧ j < n ∧ c i = c j
    · rw [com_step h'.1 h'.2.1 h'.2.2]; have := ih (i + 1) (j + 1) (by omega); omega
    · rw [com_stop h']; omega
theorem com_le (i j : Nat) : com n c i j ≤ n - i ∧ com n c i j ≤ n - j := com_le' _ i j rfl
/-- From h places on, as long as these are the same. -/
theorem com_from (h : Nat) : ∀ i j, h ≤ com n c i j → com n c (i + h) (j + h) + h = com n c i j := by
  induction h with
  | zero => intro i j _; rfl
  | succ h ih =>
    intro i j hh
    have h1 := com_pred (n := n) (c := c) (i := i) (j := j) (by omega)
    have h2 := ih (i + 1) (j + 1) (by omega)
    rw [show i + (h + 1) = i + 1 + h by omega, show j + (h + 1) = j + 1 + h by omega]
    omega
/-- The first so many numbers are the same. -/
theorem com_same (d : Nat) : ∀ i j, n - i = d → ∀ q, q < com n c i j → i + q < n ∧ j + q < n ∧ c (i + q) = c (j + q) := by
  induction d with
  | zero => intro i j h q hq; rw [com_stop (by omega)] at hq; omega
  | succ d ih =>
    intro i j h q hq
    have h1 := com_pos (n := n) (c := c) (i := i) (j := j) (by omega)
    have h2 := com_pred (n := n) (c := c) (i := i) (j := j) (by omega)
    cases q with
    | zero => exact h1
    | succ q =>
      have h3 := ih (i + 1) (j + 1) (by omega) q (by omega)
      rw [show i + (q + 1) = i + 1 + q by omega, show j + (q + 1) = j + 1 + q by omega]
      exact h3
theorem com_get {i j q : Nat} (hq : q < com n c i j) : i + q < n ∧ j + q < n ∧ c (i + q) = c (j + q) := com_same _ i j rfl q hq
/-- .. and behind them they part, or one ends. -/
theorem com_end {i j : Nat} : ¬ (i + com n c i j < n ∧ j + com n c i j < n ∧ c (i + com n c i j) = c (j + com n c i j)) := by
  intro h
  have h1 := com_from (n := n) (c := c) (com n c i j) i j (Nat.le_refl _)
  have h2 := com_step h.1 h.2.1 h.2.2
  omega
/-- So many are the same: then at least so many are in common. -/
theorem com_ge (m : Nat) : ∀ i j, (∀ q, q < m → i + q < n ∧ j + q < n ∧ c (i + q) = c (j + q)) → m ≤ com n c i j := by
  induction m with
  | zero => intro i j _; omega
  | succ m ih =>
    intro i j h
    have h0 := h 0 (by omega)
    simp only [Nat.add_zero] at h0
    rw [com_step h0.1 h0.2.1 h0.2.2]
    have := ih (i + 1) (j + 1) (fun q hq => by
      have := h (q + 1) (by omega)
      rw [show i + (q + 1) = i + 1 + q by omega, show j + (q + 1) = j + 1 + q by omega] at this
      exact this)
    omega
theorem com_self {i : Nat} (hi : i ≤ n) : com n c i i = n - i := by
  have h1 := com_ge (n := n) (c := c) (n - i) i i (fun q hq => ⟨by omega, by omega, rfl⟩)
  have h2 := com_le (n := n) (c := c) i i
  omega
/-- Which one is less shows behind what they have in common. -/
theorem slt_com' (d : Nat) : ∀ i j, n - i = d → (slt n c i j = true ↔ j + com n c i j < n ∧ (i + com n c i j < n → c (i + com n c i j) < c (j + com n c i j))) := by
  induction d with
  | zero =>
    intro i j h
    rw [slt_end (by omega), com_stop (by omega)]
    simp only [Nat.add_zero]
    exact ⟨fun hj => ⟨hj, fun hi => by omega⟩, fun h => h.1⟩
  | succ d ih =>
    intro i j h
    have hi : i < n := by omega
    by_cases hj : j < n
    · rw [slt_in hi hj]
      by_cases he : c i = c j
      · rw [com_step hi hj he, ih (i + 1) (j + 1) (by omega), show i + (com n c (i + 1) (j + 1) + 1) = i + 1 + com n c (i + 1) (j + 1) by omega, show j + (com n c (i + 1) (j + 1) + 1) = j + 1 + com n c (i + 1) (j + 1) by omega]
        constructor
        · rintro (h1 | h1)
          · omega
          · exact h1.2
        · exact fun h1 => .inr ⟨he, h1⟩
      · rw [com_stop (fun h' => he h'.2.2)]
        simp only [Nat.add_zero]
        constructor
        · rintro (h1 | h1)
          · exact ⟨hj, fun _ => h1⟩
          · exact absurd h1.1 he
        · exact fun h1 => .inl (h1.2 hi)
    · rw [slt_to_end (by omega), com_stop (fun h' => hj h'.2.1)]
      simp only [Nat.add_zero]
      constructor
      · intro h'; cases h'
      · intro h'; exact absurd h'.1 hj
theorem slt_com {i j : Nat} : slt n c i j = true ↔ j + com n c i j < n ∧ (i + com n c i j < n → c (i + com n c i j) < c (j + com n c i j)) := slt_com' _ i j rfl
/-- One number less at the front: the order stays. -/
theorem slt_tail {i j : Nat} (h : slt n c i j = true) (hp : 0 < com n c i j) : slt n c (i + 1) (j + 1) = true := by
  obtain ⟨h1, h2, h3⟩ := com_pos hp
  rcases (slt_in h1 h2).1 h with h4 | h4
  · omega
  · exact h4.2
/-- Of three in their order, the outer ones have the least in common. -/
theorem com_mid' (d : Nat) : ∀ i j k, n - i = d → slt n c i j = true → slt n c j k = true → com n c i k = min (com n c i j) (com n c j k) := by
  induction d with
  | zero =>
    intro i j k h h1 h2
    rw [com_stop (show ¬ (i < n ∧ k < n ∧ c i = c k) by omega), com_stop (show ¬ (i < n ∧ j < n ∧ c i = c j) by omega)]
    omega
  | succ d ih =>
    intro i j k h h1 h2
    have hi : i < n := by omega
    have hj : j < n := by
      rcases Nat.lt_or_ge j n with h3 | h3
      · exact h3
      · rw [slt_to_end h3] at h1; cases h1
    have hk : k < n := by
      rcases Nat.lt_or_ge k n with h3 | h3
      · exact h3
      · rw [slt_to_end h3] at h2; cases h2
    rcases (slt_in hi hj).1 h1 with a | ⟨a, a'⟩ <;> rcases (slt_in hj hk).1 h2 with b | ⟨b, b'⟩
    · rw [com_stop (show ¬ (i < n ∧ k < n ∧ c i = c k) by omega), com_stop (show ¬ (i < n ∧ j < n ∧ c i = c j) by omega)]; omega
    · rw [com_stop (show ¬ (i < n ∧ k < n ∧ c i = c k) by omega), com_stop (show ¬ (i < n ∧ j < n ∧ c i = c j) by omega)]; omega
    · rw [com_stop (show ¬ (i < n ∧ k < n ∧ c i = c k) by omega), com_stop (show ¬ (j < n ∧ k < n ∧ c j = c k) by omega)]; omega
    · rw [com_step hi hk (by omega), com_step hi hj a, com_step hj hk b, ih (i + 1) (j + 1) (k + 1) (by omega) a' b']; omega
theorem com_mid {i j k : Nat} (h1 : slt n c i j = true) (h2 : slt n c j k = true) : com n c i k = min (com n c i j) (com n c j k) := com_mid' _ i j k rfl h1 h2

/-- The suffix ahead of i in the order (0 if there is none), told by an order's places: p q is the suffix of rank q. -/
theorem kasai {p : Nat → Nat} (hp : ∀ i, i < n → p (rank n c i) = i) {i : Nat} (hi : i + 1 < n) (hr : 0 < rank n c i) :
    com n c (p (rank n c i - 1)) i ≤ com n c (p (rank n c (i + 1) - 1)) (i + 1) + 1 ∧ (rank n c (i + 1) = 0 → com n c (p (rank n c i - 1)) i ≤ 1) := by
  obtain ⟨j, hj, hjr⟩ := rank_onto (n := n) (c := c) (q := rank n c i - 1) (by have := rank_lt (c := c) (show i < n by omega); omega)
  have hpj : p (rank n c i - 1) = j := by rw [← hjr]; exact hp j hj
  have hji : slt n c j i = true := (rank_iff hj (by omega)).1 (by omega)
  rw [hpj]
  by_cases h1 : com n c j i ≤ 1
  · exact ⟨by omega, fun _ => h1⟩
  · have h2 := slt_tail hji (by omega)
    have h3 := com_pred (n := n) (c := c) (i := j) (j := i) (by omega)
    have h4 := com_pos (n := n) (c := c) (i := j + 1) (j := i + 1) (by omega)
    have h5 := rank_mono h4.1 h2
    obtain ⟨q, hq, hqr⟩ := rank_onto (n := n) (c := c) (q := rank n c (i + 1) - 1) (by have := rank_lt (c := c) hi; omega)
    have hpq : p (rank n c (i + 1) - 1) = q := by rw [← hqr]; exact hp q hq
    rw [hpq]
    refine ⟨?_, fun h => by omega⟩
    by_cases h6 : q = j + 1
    · subst h6; omega
    · have h7 : slt n c (j + 1) q = true := (rank_iff h4.1 hq).1 (by
        have : rank n c (j + 1) ≠ rank n c q := fun e => h6 (rank_inj h4.1 hq e).symm
        omega)
      have h8 : slt n c q (i + 1) = true := (rank_iff hq hi).1 (by omega)
      have := com_mid h7 h8
      omega
/-- Neighbours' least, over a stretch of the order. -/
theorem com_range {p : Nat → Nat} (hp : ∀ i, i < n → p (rank n c i) = i) (m r : Nat) (hr : r + (m + 1) < n) : ∀ k, k ≤ m → com n c (p r) (p (r + (m + 1))) ≤ com n c (p (r + k)) (p (r + k + 1)) := by
  have hs : ∀ a b, a < b → b < n → slt n c (p a) (p b) = true ∧ p a < n ∧ p b < n := by
    intro a b hab hb
    obtain ⟨i, hi, hir⟩ := rank_onto (n := n) (c := c) (q := a) (by omega)
    obtain ⟨j, hj, hjr⟩ := rank_onto (n := n) (c := c) (q := b) hb
    rw [← hir, ← hjr, hp i hi, hp j hj]
    exact ⟨(rank_iff hi hj).1 (by omega), hi, hj⟩
  intro k hk
  have h1 : com n c (p r) (p (r + (m + 1))) ≤ com n c (p (r + k)) (p (r + (m + 1))) := by
    by_cases e : k = 0
    · subst e; exact Nat.le_refl _
    · rw [com_mid (hs r (r + k) (by omega) (by omega)).1 (hs (r + k) (r + (m + 1)) (by omega) hr).1]; omega
  by_cases e : k = m
  · subst e; rw [show r + k + 1 = r + (k + 1) by omega]; exact h1
  · have := com_mid (hs (r + k) (r + k + 1) (by omega) (by omega)).1 (hs (r + k + 1) (r + (m + 1)) (by omega) hr).1
    omega
theorem com_range_min {p : Nat → Nat} (hp : ∀ i, i < n → p (rank n c i) = i) (m r : Nat) (hr : r + (m + 1) < n) : ∃ k, k ≤ m ∧ com n c (p r) (p (r + (m + 1))) = com n c (p (r + k)) (p (r + k + 1)) := by
  have hs : ∀ a b, a < b → b < n → slt n c (p a) (p b) = true := by
    intro a b hab hb
    obtain ⟨i, hi, hir⟩ := rank_onto (n := n) (c := c) (q := a) (by omega)
    obtain ⟨j, hj, hjr⟩ := rank_onto (n := n) (c := c) (q := b) hb
    rw [← hir, ← hjr, hp i hi, hp j hj]
    exact (rank_iff hi hj).1 (by omega)
  induction m with
  | zero => exact ⟨0, Nat.le_refl _, rfl⟩
  | succ m ih =>
    obtain ⟨k, hk, e⟩ := ih (by omega)
    have h1 := com_mid (hs r (r + (m + 1)) (by omega) (by omega)) (hs (r + (m + 1)) (r + (m + 1 + 1)) (by omega) hr)
    by_cases h : com n c (p r) (p (r + (m + 1))) ≤ com n c (p (r + (m + 1))) (p (r + (m + 1 + 1)))
    · exact ⟨k, by omega, by rw [h1, ← e]; omega⟩
    · exact ⟨m + 1, Nat.le_refl _, by rw [h1, show r + (m + 1) + 1 = r + (m + 1 + 1) by omega]; omega⟩
end
end Go.Proofs.Ytphchkkicpnehaa.SM
