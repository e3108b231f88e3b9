/- Plain mathematics for the order of suffixes: n numbers c 0 .. c (n-1); suffixes compared from the front; small suffixes and turns; what inducing makes of any order of the turns. No program is in sight. -/
namespace Go.Proofs.Ytphchkkicpnehaa.SM

/-! ### counting -/
def cn : Nat → (Nat → Bool) → Nat
  | 0, _ => 0
  | n + 1, P => cn n P + (if P n then 1 else 0)

theorem cn_congr {n : Nat} {P Q : Nat → Bool} (h : ∀ j, j < n → P j = Q j) : cn n P = cn n Q := by
  induction n with
  | zero => rfl
  | succ n ih => simp only [cn]; rw [ih (fun j hj => h j (by omega)), h n (by omega)]

theorem cn_mono {n : Nat} {P Q : Nat → Bool} (h : ∀ j, j < n → P j = true → Q j = true) : cn n P ≤ cn n Q := by
  induction n with
  | zero => exact Nat.le_refl _
  | succ n ih =>
    simp only [cn]
    have h1 := ih (fun j hj => h j (by omega))
    by_cases hp : P n = true
    · rw [if_pos hp, if_pos (h n (by omega) hp)]; omega
    · rw [if_neg hp]; omega

theorem cn_lt {n : Nat} {P Q : Nat → Bool} (h : ∀ j, j < n → P j = true → Q j = true) {i : Nat} (hi : i < n) (hq : Q i = true) (hp : P i = false) : cn n P < cn n Q := by
  induction n with
  | zero => omega
  | succ n ih =>
    simp only [cn]
    by_cases e : i = n
    · subst e
      have h1 := cn_mono (n := i) (P := P) (Q := Q) (fun j hj => h j (by omega))
      rw [if_pos hq, if_neg (by rw [hp]; simp)]; omega
    · have h1 := ih (fun j hj => h j (by omega)) (by omega)
      by_cases hn : P n = true
      · rw [if_pos hn, if_pos (h n (by omega) hn)]; omega
      · rw [if_neg hn]; omega

theorem cn_le {n : Nat} (P : Nat → Bool) : cn n P ≤ n := by
  induction n with
  | zero => exact Nat.le_refl _
  | succ n ih => simp only [cn]; split <;> omega

theorem cn_or {n : Nat} {P Q : Nat → Bool} (h : ∀ j, j < n → ¬ (P j = true ∧ Q j = true)) : cn n (fun j => P j || Q j) = cn n P + cn n Q := by
  induction n with
  | zero => rfl
  | succ n ih =>
    simp only [cn]
    rw [ih (fun j hj => h j (by omega))]
    have h1 := h n (by omega)
    by_cases hp : P n = true
    · have hq : Q n = false := by
        cases hq : Q n with
        | false => rfl
        | true => exact absurd ⟨hp, hq⟩ h1
      rw [if_pos (show (P n || Q n) = true by rw [hp]; rfl), if_pos hp, if_neg (show ¬ Q n = true by rw [hq]; simp)]; omega
    · have hp' : P n = false := by simpa using hp
      rw [if_neg hp]
      by_cases hq : Q n = true
      · rw [if_pos (show (P n || Q n) = true by rw [hq]; simp), if_pos hq]; omega
      · rw [if_neg (show ¬ (P n || Q n) = true by rw [hp']; simpa using hq), if_neg hq]; omega

theorem cn_one {n i : Nat} (hi : i < n) : cn n (fun j => j == i) = 1 := by
  induction n with
  | zero => omega
  | succ n ih =>
    simp only [cn]
    by_cases e : i = n
    · subst e
      have : cn i (fun j => j == i) = 0 := by
        have h1 : ∀ m, m ≤ i → cn m (fun j => j == i) = 0 := by
          intro m
          induction m with
          | zero => intro _; rfl
          | succ m ih2 => intro hm; simp only [cn]; rw [ih2 (by omega), if_neg (by simp; omega)]
        exact h1 i (Nat.le_refl _)
      rw [this]; simp
    · rw [ih (by omega), if_neg (by simp; omega)]

theorem cn_false {n : Nat} {P : Nat → Bool} (h : ∀ j, j < n → P j = false) : cn n P = 0 := by
  induction n with
  | zero => rfl
  | succ n ih => simp only [cn]; rw [ih (fun j hj => h j (by omega)), h n (by omega)]; rfl

theorem cn_true {n : Nat} {P : Nat → Bool} (h : ∀ j, j < n → P j = true) : cn n P = n := by
  induction n with
  | zero => rfl
  | succ n ih => simp only [cn]; rw [ih (fun j hj => h j (by omega)), h n (by omega)]; rfl

/-- One more than P: Q has just i besides. -/
theorem cn_succ {n : Nat} {P Q : Nat → Bool} {i : Nat} (hi : i < n) (hp : P i = false) (h : ∀ j, j < n → Q j = (P j || j == i)) : cn n Q = cn n P + 1 := by
  rw [cn_congr h, cn_or (fun j _ hh => ?_), cn_one hi]
  obtain ⟨h1, h2⟩ := hh
  have : j = i := by simpa using h2
  rw [this, hp] at h1
  exact absurd h1 (by simp)

theorem pigeon : ∀ (n : Nat) (f : Nat → Nat), (∀ i, i < n → f i < n) → (∀ i j, i < n → j < n → f i = f j → i = j) → ∀ q, q < n → ∃ i, i < n ∧ f i = q := by
  intro n
  induction n with
  | zero => intro f _ _ q hq; omega
  | succ n ih =>
    intro f hf inj q hq
    have hm := hf n (by omega)
    by_cases e : f n = n
    · have h := ih f (fun i hi => by
        have h1 := hf i (by omega)
        rcases Nat.lt_or_ge (f i) n with h2 | h2
        · exact h2
        · have h3 : f i = f n := by omega
          have := inj i n (by omega) (by omega) h3
          omega) (fun i j hi hj => inj i j (by omega) (by omega))
      by_cases e2 : q = n
      · exact ⟨n, by omega, by omega⟩
      · obtain ⟨i, hi, he⟩ := h q (by omega)
        exact ⟨i, by omega, he⟩
    · have hg : ∀ i, i < n → (if f i = n then f n else f i) < n := by
        intro i hi
        have h1 := hf i (by omega)
        split
        · omega
        · omega
      have hinj : ∀ i j, i < n → j < n → (if f i = n then f n else f i) = (if f j = n then f n else f j) → i = j := by
        intro i j hi hj h
        split at h
        · split at h
          · exact inj i j (by omega) (by omega) (by omega)
          · have := inj n j (by omega) (by omega) h; omega
        · split at h
          · have := inj i n (by omega) (by omega) h; omega
          · exact inj i j (by omega) (by omega) h
      have h := ih (fun i => if f i = n then f n else f i) hg hinj
      by_cases e1 : q = f n
      · exact ⟨n, by omega, by omega⟩
      · by_cases e2 : q = n
        · obtain ⟨i, hi, he⟩ := h (f n) (by omega)
          split at he
          · exact ⟨i, by omega, by omega⟩
          · have := inj i n (by omega) (by omega) he; omega
        · obtain ⟨i, hi, he⟩ := h q (by omega)
          split at he
          · exact absurd he.symm e1
          · exact ⟨i, by omega, he⟩

/-! ### suffixes -/
/-- Is the suffix i less than the suffix j? -/
def slt (n : Nat) (c : Nat → Int) (i j : Nat) : Bool :=
  if _h : i < n then
    if j < n then decide (c i < c j) || (decide (c i = c j) && slt n c (i + 1) (j + 1)) else false
  else decide (j < n)
termination_by n - i

/-- Is the suffix i small? -/
def sm (n : Nat) (c : Nat → Int) (i : Nat) : Bool :=
  if _h : i + 1 < n then decide (c i < c (i + 1)) || (decide (c i = c (i + 1)) && sm n c (i + 1)) else false
termination_by n - i

/-- Is i a turn? -/
def trn (n : Nat) (c : Nat → Int) (i : Nat) : Bool := decide (0 < i) && (sm n c i && !sm n c (i - 1))

section
variable {n : Nat} {c : Nat → Int}

theorem slt_in {i j : Nat} (hi : i < n) (hj : j < n) : slt n c i j = true ↔ c i < c j ∨ (c i = c j ∧ slt n c (i + 1) (j + 1) = true) := by
  rw [slt, dif_pos hi, if_pos hj]; simp
theorem slt_end {i j : Nat} (hi : n ≤ i) : slt n c i j = true ↔ j < n := by
  rw [slt, dif_neg (by omega)]; simp
theorem slt_to_end {i j : Nat} (hj : n ≤ j) : slt n c i j = false := by
  rw [slt]; split
  · rw [if_neg (by omega)]
  · simp; omega
theorem slt_irrefl (d : Nat) : ∀ i, n - i = d → slt n c i i = false := by
  induction d with
  | zero => intro i h; exact slt_to_end (by omega)
  | succ d ih =>
    intro i h
    have h1 := ih (i + 1) (by omega)
    have h2 := slt_in (c := c) (i := i) (j := i) (n := n) (by omega) (by omega)
    cases h3 : slt n c i i with
    | false => rfl
    | true => rcases h2.1 h3 with h4 | h4
              · omega
              · rw [h1] at h4; exact absurd h4.2 (by simp)
theorem slt_irr (i : Nat) : slt n c i i = false := slt_irrefl _ i rfl
theorem slt_trans' (d : Nat) : ∀ i j k, n - i = d → slt n c i j = true → slt n c j k = true → slt n c i k = true := by
  induction d with
  | zero =>
    intro i j k h h1 h2
    have hj := (slt_end (by omega)).1 h1
    have hk : k < n := by
      rcases Nat.lt_or_ge k n with h3 | h3
      · exact h3
      · rw [slt_to_end h3] at h2; cases h2
    exact (slt_end (by omega)).2 hk
  | succ d ih =>
    intro i j k h h1 h2
    have hj : j < n := by
      rcases Nat.lt_or_ge j n with h3 | h3
      · exact h3
      · rw [slt_to_end h3] at h1; cases h1
    have hk : k < n := by
      rcases Nat.lt_or_ge k n with h3 | h3
      · exact h3
      · rw [slt_to_end h3] at h2; cases h2
    have hi : i < n := by omega
    refine (slt_in hi hk).2 ?_
    rcases (slt_in hi hj).1 h1 with a | ⟨a, a'⟩ <;> rcases (slt_in hj hk).1 h2 with b | ⟨b, b'⟩
    · left; omega
    · left; omega
    · left; omega
    · right; exact ⟨by omega, ih _ _ _ (by omega) a' b'⟩
theorem slt_trans {i j k : Nat} (h1 : slt n c i j = true) (h2 : slt n c j k = true) : slt n c i k = true := slt_trans' _ i j k rfl h1 h2
theorem slt_asymm {i j : Nat} (h1 : slt n c i j = true) : slt n c j i = false := by
  cases h : slt n c j i with
  | false => rfl
  | true => have := slt_trans h1 h; rw [slt_irr] at this; cases this
theorem slt_total' (d : Nat) : ∀ i j, n - i = d → i ≤ n → j ≤ n → i ≠ j → slt n c i j = true ∨ slt n c j i = true := by
  induction d with
  | zero =>
    intro i j h hi hj hne
    left; exact (slt_end (by omega)).2 (by omega)
  | succ d ih =>
    intro i j h hi hj hne
    have hi' : i < n := by omega
    rcases Nat.lt_or_ge j n with hj' | hj'
    · rcases Int.lt_trichotomy (c i) (c j) with a | a | a
      · left; exact (slt_in hi' hj').2 (.inl a)
      · rcases ih (i + 1) (j + 1) (by omega) (by omega) (by omega) (by omega) with b | b
        · left; exact (slt_in hi' hj').2 (.inr ⟨a, b⟩)
        · right; exact (slt_in hj' hi').2 (.inr ⟨a.symm, b⟩)
      · right; exact (slt_in hj' hi').2 (.inl a)
    · right; exact (slt_end hj').2 hi'
theorem slt_total {i j : Nat} (hi : i ≤ n) (hj : j ≤ n) (hne : i ≠ j) : slt n c i j = true ∨ slt n c j i = true := slt_total' _ i j rfl hi hj hne

theorem sm_in {i : Nat} (h : i + 1 < n) : sm n c i = true ↔ c i < c (i + 1) ∨ (c i = c (i + 1) ∧ sm n c (i + 1) = true) := by
  rw [sm, dif_pos h]; simp
theorem sm_out {i : Nat} (h : n ≤ i + 1) : sm n c i = false := by
  rw [sm, dif_neg (by omega)]
theorem sm_lt {i : Nat} (h : sm n c i = true) : i + 1 < n := by
  rcases Nat.lt_or_ge (i + 1) n with h1 | h1
  · exact h1
  · rw [sm_out h1] at h; cases h
theorem sm_false {i : Nat} (h : sm n c i = false) (hi : i + 1 < n) : c (i + 1) < c i ∨ (c i = c (i + 1) ∧ sm n c (i + 1) = false) := by
  rcases Int.lt_trichotomy (c i) (c (i + 1)) with a | a | a
  · rw [(sm_in hi).2 (.inl a)] at h; cases h
  · cases hs : sm n c (i + 1) with
    | false => exact .inr ⟨a, rfl⟩
    | true => rw [(sm_in hi).2 (.inr ⟨a, hs⟩)] at h; cases h
  · exact .inl a

/-- Small just if less than the next one. -/
theorem sm_iff' (d : Nat) : ∀ i, n - i = d → i < n → (sm n c i = true ↔ slt n c i (i + 1) = true) := by
  induction d with
  | zero => intro i h hi; omega
  | succ d ih =>
    intro i h hi
    rcases Nat.lt_or_ge (i + 1) n with h1 | h1
    · rw [sm_in h1, slt_in hi h1, ih (i + 1) (by omega) h1]
    · rw [sm_out h1, slt_to_end h1]
theorem sm_iff {i : Nat} (hi : i < n) : sm n c i = true ↔ slt n c i (i + 1) = true := sm_iff' _ i rfl hi

/-- With one number at the front, one that is not small is less than one that is. -/
theorem big_lt_small' (d : Nat) : ∀ i j, n - i = d → i < n → j < n → c i = c j → sm n c i = false → sm n c j = true → slt n c i j = true := by
  induction d with
  | zero => intro i j h hi; omega
  | succ d ih =>
    intro i j h hi hj e hs ht
    have hj1 := sm_lt ht
    refine (slt_in hi hj).2 (.inr ⟨e, ?_⟩)
    rcases Nat.lt_or_ge (i + 1) n with h1 | h1
    · rcases sm_false hs h1 with a | ⟨a, a'⟩ <;> rcases (sm_in hj1).1 ht with b | ⟨b, b'⟩
      · exact (slt_in h1 hj1).2 (.inl (by omega))
      · exact (slt_in h1 hj1).2 (.inl (by omega))
      · exact (slt_in h1 hj1).2 (.inl (by omega))
      · exact ih _ _ (by omega) h1 hj1 (by omega) a' b'
    · exact (slt_end h1).2 hj1
theorem big_lt_small {i j : Nat} (hi : i < n) (hj : j < n) (e : c i = c j) (hs : sm n c i = false) (ht : sm n c j = true) : slt n c i j = true := big_lt_small' _ i j rfl hi hj e hs ht

theorem trn_iff {i : Nat} : trn n c i = true ↔ 0 < i ∧ sm n c i = true ∧ sm n c (i - 1) = false := by
  unfold trn; simp
/-- Behind one that is not small: the end, one that is not small, or a turn. -/
theorem next_big {i : Nat} (_hi : i < n) (h : sm n c i = false) : i + 1 = n ∨ sm n c (i + 1) = false ∨ trn n c (i + 1) = true := by
  cases hs : sm n c (i + 1) with
  | false => exact .inr (.inl rfl)
  | true => exact .inr (.inr (trn_iff.2 ⟨by omega, hs, by simpa using h⟩))
end
end Go.Proofs.Ytphchkkicpnehaa.SM
