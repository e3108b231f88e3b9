import Derived.Test.YtobknpeglagaaaaXY
import Derived.Test.YtobknpeglagaaaaXx2
import Derived.Test.YtobknpeglagaaaaXx4
import Derived.Test.YtobknpeglagaaaaXx5
import Derived.Test.YtobknpeglagaaaaXx6
import Derived.Test.YtobknpeglagaaaaXx7
import Derived.Test.YtobknpeglagaaaaXx8
import Derived.Test.YtobknpeglagaaaaXx9
section
/- Plain mathematics for the order of suffixes: n numbers c 0 .. c (n-1); suffixes compared from the front; small suffixes and turns; what inducing makes of any order of the turns. No program is in sight. -/
namespace Go.Proofs.Ytobknpeglagaaaa.SM

/-! ### counting -/
def cn : Nat → (Nat → Bool) → Nat
  | 0, _ => 0
  | n + 1, P => cn n P + (if P n then 1 else 0)


theorem cn_mono {n : Nat} {P Q : Nat → Bool} (h : ∀ j, j < n → P j = true → Q j = true) : cn n P ≤ cn n Q := by
  induction n with
  | zero => exact Nat.le_refl _
  | succ n ih =>
    simp only [cn]
    have h1 := ih (fun j hj => h j (by omega))
    by_cases hp : P n = true
    · rw [if_pos hp, if_pos (h n (by omega) hp)]; omega
    · rw [if_neg hp]; omega

theorem cn_lt {n : Nat} {P Q : Nat → Bool} (h : ∀ j, j < n → P j = true → Q j = true) {i : Nat} (hi : i < n) (hq : Q i = true) (hp : P i = false) : cn n P < cn n Q := by
  induction n with
  | zero => omega
  | succ n ih =>
    simp only [cn]
    by_cases e : i = n
    · subst e
      have h1 := cn_mono (n := i) (P := P) (Q := Q) (fun j hj => h j (by omega))
      rw [if_pos hq, if_neg (by rw [hp]; simp)]; omega
    · have h1 := ih (fun j hj => h j (by omega)) (by omega)
      by_cases hn : P n = true
      · rw [if_pos hn, if_pos (h n (by omega) hn)]; omega
      · rw [if_neg hn]; omega





theorem cn_true {n : Nat} {P : Nat → Bool} (h : ∀ j, j < n → P j = true) : cn n P = n := by
  induction n with
  | zero => rfl
  | succ n ih => simp only [cn]; rw [ih (fun j hj => h j (by omega)), h n (by omega)]; rfl


theorem pigeon : ∀ (n : Nat) (f : Nat → Nat), (∀ i, i < n → f i < n) → (∀ i j, i < n → j < n → f i = f j → i = j) → ∀ q, q < n → ∃ i, i < n ∧ f i = q := by
  intro n
  induction n with
  | zero => intro f _ _ q hq; omega
  | succ n ih =>
    intro f hf inj q hq
    have hm := hf n (by omega)
    by_cases e : f n = n
    · have h := ih f (fun i hi => by
        have h1 := hf i (by omega)
        rcases Nat.lt_or_ge (f i) n with h2 | h2
        · exact h2
        · have h3 : f i = f n := by omega
          have := inj i n (by omega) (by omega) h3
          omega) (fun i j hi hj => inj i j (by omega) (by omega))
      by_cases e2 : q = n
      · exact ⟨n, by omega, by omega⟩
      · obtain ⟨i, hi, he⟩ := h q (by omega)
        exact ⟨i, by omega, he⟩
    · have hg : ∀ i, i < n → (if f i = n then f n else f i) < n := by
        intro i hi
        have h1 := hf i (by omega)
        split
        · omega
        · omega
      have hinj : ∀ i j, i < n → j < n → (if f i = n then f n else f i) = (if f j = n then f n else f j) → i = j := by
        intro i j hi hj h
        split at h
        · split at h
          · exact inj i j (by omega) (by omega) (by omega)
          · have := inj n j (by omega) (by omega) h; omega
        · split at h
          · have := inj i n (by omega) (by omega) h; omega
          · exact inj i j (by omega) (by omega) h
      have h := ih (fun i => if f i = n then f n else f i) hg hinj
      by_cases e1 : q = f n
      · exact ⟨n, by omega, by omega⟩
      · by_cases e2 : q = n
        · obtain ⟨i, hi, he⟩ := h (f n) (by omega)
          split at he
          · exact ⟨i, by omega, by omega⟩
          · have := inj i n (by omega) (by omega) he; omega
        · obtain ⟨i, hi, he⟩ := h q (by omega)
          split at he
          · exact absurd he.symm e1
          · exact ⟨i, by omega, he⟩

/-! ### suffixes -/
/-- Is the suffix i less than the suffix j? -/
def slt (n : Nat) (c : Nat → Int) (i j : Nat) : Bool :=
  if _h : i < n then
    if j < n then decide (c i < c j) || (decide (c i = c j) && slt n c (i + 1) (j + 1)) else false
  else decide (j < n)
termination_by n - i

/-- Is the suffix i small? -/
def sm (n : Nat) (c : Nat → Int) (i : Nat) : Bool :=
  if _h : i + 1 < n then decide (c i < c (i + 1)) || (decide (c i = c (i + 1)) && sm n c (i + 1)) else false
termination_by n - i

/-- Is i a turn? -/
def trn (n : Nat) (c : Nat → Int) (i : Nat) : Bool := decide (0 < i) && (sm n c i && !sm n c (i - 1))

section
variable {n : Nat} {c : Nat → Int}

theorem slt_in {i j : Nat} (hi : i < n) (hj : j < n) : slt n c i j = true ↔ c i < c j ∨ (c i = c j ∧ slt n c (i + 1) (j + 1) = true) := by
  rw [slt, dif_pos hi, if_pos hj]; simp
theorem slt_end {i j : Nat} (hi : n ≤ i) : slt n c i j = true ↔ j < n := by
  rw [slt, dif_neg (by omega)]; simp
theorem slt_to_end {i j : Nat} (hj : n ≤ j) : slt n c i j = false := by
  rw [slt]; split
  · rw [if_neg (by omega)]
  · simp; omega
theorem slt_irrefl (d : Nat) : ∀ i, n - i = d → slt n c i i = false := by
  induction d with
  | zero => intro i h; exact slt_to_end (by omega)
  | succ d ih =>
    intro i h
    have h1 := ih (i + 1) (by omega)
    have h2 := slt_in (c := c) (i := i) (j := i) (n := n) (by omega) (by omega)
    cases h3 : slt n c i i with
    | false => rfl
    | true => rcases h2.1 h3 with h4 | h4
              · omega
              · rw [h1] at h4; exact absurd h4.2 (by simp)
theorem slt_irr (i : Nat) : slt n c i i = false := slt_irrefl _ i rfl
theorem slt_trans' (d : Nat) : ∀ i j k, n - i = d → slt n c i j = true → slt n c j k = true → slt n c i k = true := by
  induction d with
  | zero =>
    intro i j k h h1 h2
    have hj := (slt_end (by omega)).1 h1
    have hk : k < n := by
      rcases Nat.lt_or_ge k n with h3 | h3
      · exact h3
      · rw [slt_to_end h3] at h2; cases h2
    exact (slt_end (by omega)).2 hk
  | succ d ih =>
    intro i j k h h1 h2
    have hj : j < n := by
      rcases Nat.lt_or_ge j n with h3 | h3
      · exact h3
      · rw [slt_to_end h3] at h1; cases h1
    have hk : k < n := by
      rcases Nat.lt_or_ge k n with h3 | h3
      · exact h3
      · rw [slt_to_end h3] at h2; cases h2
    have hi : i < n := by omega
    refine (slt_in hi hk).2 ?_
    rcases (slt_in hi hj).1 h1 with a | ⟨a, a'⟩ <;> rcases (slt_in hj hk).1 h2 with b | ⟨b, b'⟩
    · left; omega
    · left; omega
    · left; omega
    · right; exact ⟨by omega, ih _ _ _ (by omega) a' b'⟩
theorem slt_trans {i j k : Nat} (h1 : slt n c i j = true) (h2 : slt n c j k = true) : slt n c i k = true := slt_trans' _ i j k rfl h1 h2
theorem slt_asymm {i j : Nat} (h1 : slt n c i j = true) : slt n c j i = false := by
  cases h : slt n c j i with
  | false => rfl
  | true => have := slt_trans h1 h; rw [slt_irr] at this; cases this
theorem slt_total' (d : Nat) : ∀ i j, n - i = d → i ≤ n → j ≤ n → i ≠ j → slt n c i j = true ∨ slt n c j i = true := by
  induction d with
  | zero =>
    intro i j h hi hj hne
    left; exact (slt_end (by omega)).2 (by omega)
  | succ d ih =>
    intro i j h hi hj hne
    have hi' : i < n := by omega
    rcases Nat.lt_or_ge j n with hj' | hj'
    · rcases Int.lt_trichotomy (c i) (c j) with a | a | a
      · left; exact (slt_in hi' hj').2 (.inl a)
      · rcases ih (i + 1) (j + 1) (by omega) (by omega) (by omega) (by omega) with b | b
        · left; exact (slt_in hi' hj').2 (.inr ⟨a, b⟩)
        · right; exact (slt_in hj' hi').2 (.inr ⟨a.symm, b⟩)
      · right; exact (slt_in hj' hi').2 (.inl a)
    · right; exact (slt_end hj').2 hi'
theorem slt_total {i j : Nat} (hi : i ≤ n) (hj : j ≤ n) (hne : i ≠ j) : slt n c i j = true ∨ slt n c j i = true := slt_total' _ i j rfl hi hj hne

theorem sm_in {i : Nat} (h : i + 1 < n) : sm n c i = true ↔ c i < c (i + 1) ∨ (c i = c (i + 1) ∧ sm n c (i + 1) = true) := by
  rw [sm, dif_pos h]; simp
theorem sm_out {i : Nat} (h : n ≤ i + 1) : sm n c i = false := by
  rw [sm, dif_neg (by omega)]
theorem sm_lt {i : Nat} (h : sm n c i = true) : i + 1 < n := by
  rcases Nat.lt_or_ge (i + 1) n with h1 | h1
  · exact h1
  · rw [sm_out h1] at h; cases h
theorem sm_false {i : Nat} (h : sm n c i = false) (hi : i + 1 < n) : c (i + 1) < c i ∨ (c i = c (i + 1) ∧ sm n c (i + 1) = false) := by
  rcases Int.lt_trichotomy (c i) (c (i + 1)) with a | a | a
  · rw [(sm_in hi).2 (.inl a)] at h; cases h
  · cases hs : sm n c (i + 1) with
    | false => exact .inr ⟨a, rfl⟩
    | true => rw [(sm_in hi).2 (.inr ⟨a, hs⟩)] at h; cases h
  · exact .inl a


/-- With one number at the front, one that is not small is less than one that is. -/
theorem big_lt_small' (d : Nat) : ∀ i j, n - i = d → i < n → j < n → c i = c j → sm n c i = false → sm n c j = true → slt n c i j = true := by
  induction d with
  | zero => intro i j h hi; omega
  | succ d ih =>
    intro i j h hi hj e hs ht
    have hj1 := sm_lt ht
    refine (slt_in hi hj).2 (.inr ⟨e, ?_⟩)
    rcases Nat.lt_or_ge (i + 1) n with h1 | h1
    · rcases sm_false hs h1 with a | ⟨a, a'⟩ <;> rcases (sm_in hj1).1 ht with b | ⟨b, b'⟩
      · exact (slt_in h1 hj1).2 (.inl (by omega))
      · exact (slt_in h1 hj1).2 (.inl (by omega))
      · exact (slt_in h1 hj1).2 (.inl (by omega))
      · exact ih _ _ (by omega) h1 hj1 (by omega) a' b'
    · exact (slt_end h1).2 hj1
theorem big_lt_small {i j : Nat} (hi : i < n) (hj : j < n) (e : c i = c j) (hs : sm n c i = false) (ht : sm n c j = true) : slt n c i j = true := big_lt_small' _ i j rfl hi hj e hs ht

theorem trn_iff {i : Nat} : trn n c i = true ↔ 0 < i ∧ sm n c i = true ∧ sm n c (i - 1) = false := by
  unfold trn; simp
/-- Behind one that is not small: the end, one that is not small, or a turn. -/
theorem next_big {i : Nat} (_hi : i < n) (h : sm n c i = false) : i + 1 = n ∨ sm n c (i + 1) = false ∨ trn n c (i + 1) = true := by
  cases hs : sm n c (i + 1) with
  | false => exact .inr (.inl rfl)
  | true => exact .inr (.inr (trn_iff.2 ⟨by omega, hs, by simpa using h⟩))
end
end Go.Proofs.Ytobknpeglagaaaa.SM
end

section
/- Plain mathematics for inducing: the order that the passes make out of any order r of the turns, its ranks, when it is the suffixes' own order, and the pieces' names. No program is in sight. -/
namespace Go.Proofs.Ytobknpeglagaaaa.SM

/-- The order of what the second pass scans: by the number, not small ones ahead, turns by r, others by what stands behind them. -/
def lt2 (n : Nat) (c : Nat → Int) (r : Nat → Nat) (i j : Nat) : Bool :=
  if _h : i < n then
    if j < n then
      if c i = c j then
        if sm n c i then (if sm n c j then decide (r i < r j) else false)
        else (if sm n c j then true else lt2 n c r (i + 1) (j + 1))
      else decide (c i < c j)
    else false
  else decide (j < n)
termination_by n - i

/-- The order of the whole row. -/
def lt3 (n : Nat) (c : Nat → Int) (r : Nat → Nat) (i j : Nat) : Bool :=
  if _h : i < n then
    if j < n then
      if c i = c j then
        if sm n c i then (if sm n c j then lt3 n c r (i + 1) (j + 1) else false)
        else (if sm n c j then true else lt2 n c r (i + 1) (j + 1))
      else decide (c i < c j)
    else false
  else decide (j < n)
termination_by n - i

/-- Are two alike up to their next turns? -/
def eq2 (n : Nat) (c : Nat → Int) (i j : Nat) : Bool :=
  if _h : i < n then
    if j < n ∧ c i = c j then (if sm n c i then sm n c j else (if sm n c j then false else eq2 n c (i + 1) (j + 1))) else false
  else false
termination_by n - i
def eq3 (n : Nat) (c : Nat → Int) (i j : Nat) : Bool :=
  if _h : i < n then
    if j < n ∧ c i = c j then (if sm n c i then (if sm n c j then eq3 n c (i + 1) (j + 1) else false) else (if sm n c j then false else eq2 n c (i + 1) (j + 1))) else false
  else false
termination_by n - i

section
variable {n : Nat} {c : Nat → Int} {r : Nat → Nat}

theorem lt2_ne {i j : Nat} (hi : i < n) (hj : j < n) (h : c i ≠ c j) : lt2 n c r i j = decide (c i < c j) := by
  rw [lt2, dif_pos hi, if_pos hj, if_neg h]
theorem lt2_bb {i j : Nat} (hi : i < n) (hj : j < n) (h : c i = c j) (hs : sm n c i = false) (ht : sm n c j = false) : lt2 n c r i j = lt2 n c r (i + 1) (j + 1) := by
  rw [lt2, dif_pos hi, if_pos hj, if_pos h, hs, ht]; rfl
theorem lt2_bs {i j : Nat} (hi : i < n) (hj : j < n) (h : c i = c j) (hs : sm n c i = false) (ht : sm n c j = true) : lt2 n c r i j = true := by
  rw [lt2, dif_pos hi, if_pos hj, if_pos h, hs, ht]; rfl
theorem lt2_sb {i j : Nat} (hi : i < n) (hj : j < n) (h : c i = c j) (hs : sm n c i = true) (ht : sm n c j = false) : lt2 n c r i j = false := by
  rw [lt2, dif_pos hi, if_pos hj, if_pos h, hs, ht]; rfl
theorem lt2_ss {i j : Nat} (hi : i < n) (hj : j < n) (h : c i = c j) (hs : sm n c i = true) (ht : sm n c j = true) : lt2 n c r i j = decide (r i < r j) := by
  rw [lt2, dif_pos hi, if_pos hj, if_pos h, hs, ht]; rfl
theorem lt2_end {i j : Nat} (hi : n ≤ i) : lt2 n c r i j = decide (j < n) := by rw [lt2, dif_neg (by omega)]
theorem lt2_to_end {i j : Nat} (hj : n ≤ j) : lt2 n c r i j = false := by
  rw [lt2]; split
  · rw [if_neg (by omega)]
  · simp; omega
theorem lt3_ne {i j : Nat} (hi : i < n) (hj : j < n) (h : c i ≠ c j) : lt3 n c r i j = decide (c i < c j) := by
  rw [lt3, dif_pos hi, if_pos hj, if_neg h]
theorem lt3_bb {i j : Nat} (hi : i < n) (hj : j < n) (h : c i = c j) (hs : sm n c i = false) (ht : sm n c j = false) : lt3 n c r i j = lt2 n c r (i + 1) (j + 1) := by
  rw [lt3, dif_pos hi, if_pos hj, if_pos h, hs, ht]; rfl
theorem lt3_bs {i j : Nat} (hi : i < n) (hj : j < n) (h : c i = c j) (hs : sm n c i = false) (ht : sm n c j = true) : lt3 n c r i j = true := by
  rw [lt3, dif_pos hi, if_pos hj, if_pos h, hs, ht]; rfl
theorem lt3_sb {i j : Nat} (hi : i < n) (hj : j < n) (h : c i = c j) (hs : sm n c i = true) (ht : sm n c j = false) : lt3 n c r i j = false := by
  rw [lt3, dif_pos hi, if_pos hj, if_pos h, hs, ht]; rfl
theorem lt3_ss {i j : Nat} (hi : i < n) (hj : j < n) (h : c i = c j) (hs : sm n c i = true) (ht : sm n c j = true) : lt3 n c r i j = lt3 n c r (i + 1) (j + 1) := by
  rw [lt3, dif_pos hi, if_pos hj, if_pos h, hs, ht]; rfl
theorem lt3_end {i j : Nat} (hi : n ≤ i) : lt3 n c r i j = decide (j < n) := by rw [lt3, dif_neg (by omega)]
theorem lt3_to_end {i j : Nat} (hj : n ≤ j) : lt3 n c r i j = false := by
  rw [lt3]; split
  · rw [if_neg (by omega)]
  · simp; omega


theorem lt2_in {i j : Nat} (h : lt2 n c r i j = true) : j < n := by
  rcases Nat.lt_or_ge j n with h1 | h1
  · exact h1
  · rw [lt2_to_end h1] at h; cases h
theorem lt3_in {i j : Nat} (h : lt3 n c r i j = true) : j < n := by
  rcases Nat.lt_or_ge j n with h1 | h1
  · exact h1
  · rw [lt3_to_end h1] at h; cases h
theorem lt2_le {i j : Nat} (hi : i < n) (h : lt2 n c r i j = true) : c i ≤ c j := by
  have hj := lt2_in h
  by_cases e : c i = c j
  · omega
  · rw [lt2_ne hi hj e] at h
    have := of_decide_eq_true h; omega
theorem lt3_le {i j : Nat} (hi : i < n) (h : lt3 n c r i j = true) : c i ≤ c j := by
  have hj := lt3_in h
  by_cases e : c i = c j
  · omega
  · rw [lt3_ne hi hj e] at h
    have := of_decide_eq_true h; omega

theorem lt2_trans' (d : Nat) : ∀ i j k, n - i = d → lt2 n c r i j = true → lt2 n c r j k = true → lt2 n c r i k = true := by
  induction d with
  | zero =>
    intro i j k h h1 h2
    rw [lt2_end (by omega)]; exact decide_eq_true (lt2_in h2)
  | succ d ih =>
    intro i j k h h1 h2
    have hi : i < n := by omega
    have hj := lt2_in h1
    have hk := lt2_in h2
    have e1 := lt2_le hi h1
    have e2 := lt2_le hj h2
    by_cases e : c i = c k
    · have a : c i = c j := by omega
      have b : c j = c k := by omega
      cases hs : sm n c i <;> cases ht : sm n c j <;> cases hu : sm n c k
      · rw [lt2_bb hi hj a hs ht] at h1; rw [lt2_bb hj hk b ht hu] at h2
        rw [lt2_bb hi hk e hs hu]; exact ih _ _ _ (by omega) h1 h2
      · exact lt2_bs hi hk e hs hu
      · rw [lt2_sb hj hk b ht hu] at h2; cases h2
      · exact lt2_bs hi hk e hs hu
      · rw [lt2_sb hi hj a hs ht] at h1; cases h1
      · rw [lt2_sb hi hj a hs ht] at h1; cases h1
      · rw [lt2_sb hj hk b ht hu] at h2; cases h2
      · rw [lt2_ss hi hj a hs ht] at h1; rw [lt2_ss hj hk b ht hu] at h2
        rw [lt2_ss hi hk e hs hu]
        have := of_decide_eq_true h1; have := of_decide_eq_true h2
        exact decide_eq_true (by omega)
    · rw [lt2_ne hi hk e]; exact decide_eq_true (by omega)
theorem lt2_trans {i j k : Nat} (h1 : lt2 n c r i j = true) (h2 : lt2 n c r j k = true) : lt2 n c r i k = true := lt2_trans' _ i j k rfl h1 h2
theorem lt3_trans' (d : Nat) : ∀ i j k, n - i = d → lt3 n c r i j = true → lt3 n c r j k = true → lt3 n c r i k = true := by
  induction d with
  | zero =>
    intro i j k h h1 h2
    rw [lt3_end (by omega)]; exact decide_eq_true (lt3_in h2)
  | succ d ih =>
    intro i j k h h1 h2
    have hi : i < n := by omega
    have hj := lt3_in h1
    have hk := lt3_in h2
    have e1 := lt3_le hi h1
    have e2 := lt3_le hj h2
    by_cases e : c i = c k
    · have a : c i = c j := by omega
      have b : c j = c k := by omega
      cases hs : sm n c i <;> cases ht : sm n c j <;> cases hu : sm n c k
      · rw [lt3_bb hi hj a hs ht] at h1; rw [lt3_bb hj hk b ht hu] at h2
        rw [lt3_bb hi hk e hs hu]; exact lt2_trans h1 h2
      · exact lt3_bs hi hk e hs hu
      · rw [lt3_sb hj hk b ht hu] at h2; cases h2
      · exact lt3_bs hi hk e hs hu
      · rw [lt3_sb hi hj a hs ht] at h1; cases h1
      · rw [lt3_sb hi hj a hs ht] at h1; cases h1
      · rw [lt3_sb hj hk b ht hu] at h2; cases h2
      · rw [lt3_ss hi hj a hs ht] at h1; rw [lt3_ss hj hk b ht hu] at h2
        rw [lt3_ss hi hk e hs hu]; exact ih _ _ _ (by omega) h1 h2
    · rw [lt3_ne hi hk e]; exact decide_eq_true (by omega)
theorem lt3_trans {i j k : Nat} (h1 : lt3 n c r i j = true) (h2 : lt3 n c r j k = true) : lt3 n c r i k = true := lt3_trans' _ i j k rfl h1 h2

/-- What the second pass scans: the end, those that are not small, the turns. -/
def InA (n : Nat) (c : Nat → Int) (i : Nat) : Prop := i ≤ n ∧ (i < n → sm n c i = true → trn n c i = true)
theorem InA.next {i : Nat} (hi : i < n) (h : sm n c i = false) : InA n c (i + 1) := by
  refine ⟨by omega, fun h1 h2 => ?_⟩
  rcases next_big hi h with a | a | a
  · omega
  · rw [a] at h2; cases h2
  · exact a
theorem InA.turn {i : Nat} (h : trn n c i = true) : InA n c i := ⟨by have := sm_lt (trn_iff.1 h).2.1; omega, fun _ _ => h⟩

/-- r tells the turns apart. -/
def Inj (n : Nat) (c : Nat → Int) (r : Nat → Nat) : Prop := ∀ t u, trn n c t = true → trn n c u = true → r t = r u → t = u



/-! ### where all stand -/
def rk3 (n : Nat) (c : Nat → Int) (r : Nat → Nat) (i : Nat) : Nat := cn n (fun j => lt3 n c r j i)
def fr (n : Nat) (c : Nat → Int) (v : Int) : Nat := cn n (fun j => decide (c j < v))
def tov (n : Nat) (c : Nat → Int) (v : Int) : Nat := cn n (fun j => decide (c j ≤ v))
/-- How many turns of t's number stand from t on in the order. -/
def tl (n : Nat) (c : Nat → Int) (r : Nat → Nat) (t : Nat) : Nat := cn n (fun u => trn n c u && (decide (c u = c t) && decide (r t ≤ r u)))
def loc2 (n : Nat) (c : Nat → Int) (r : Nat → Nat) (i : Nat) : Nat := if sm n c i then tov n c (c i) - tl n c r i else rk3 n c r i


end
end Go.Proofs.Ytobknpeglagaaaa.SM
end

section
/- Plain mathematics for inducing: an order of the turns that is their suffixes' own induces the suffixes' own order; names of pieces; the shorter list. No program is in sight. -/
namespace Go.Proofs.Ytobknpeglagaaaa.SM
section
variable {n : Nat} {c : Nat → Int} {r : Nat → Nat}

/-- The order of the turns is that of their suffixes. -/
def Own (n : Nat) (c : Nat → Int) (r : Nat → Nat) : Prop := ∀ t u, trn n c t = true → trn n c u = true → (r t < r u ↔ slt n c t u = true)

theorem slt_ne {i j : Nat} (hi : i < n) (hj : j < n) (h : c i ≠ c j) : slt n c i j = decide (c i < c j) := by
  rw [Bool.eq_iff_iff, slt_in hi hj]; simp; omega
theorem slt_eq {i j : Nat} (hi : i < n) (hj : j < n) (h : c i = c j) : slt n c i j = slt n c (i + 1) (j + 1) := by
  rw [Bool.eq_iff_iff, slt_in hi hj]
  exact ⟨fun h1 => h1.elim (fun h2 => by omega) (fun h2 => h2.2), fun h1 => .inr ⟨h, h1⟩⟩
theorem slt_endb {i j : Nat} (hi : n ≤ i) : slt n c i j = decide (j < n) := by
  rw [Bool.eq_iff_iff, slt_end hi]; simp


/-- How many suffixes are less. -/
def rank (n : Nat) (c : Nat → Int) (i : Nat) : Nat := cn n (fun j => slt n c j i)
theorem Own.inj (ho : Own n c r) : Inj n c r := by
  intro t u ht hu h
  by_cases e : t = u
  · exact e
  · have h1 := sm_lt (trn_iff.1 ht).2.1
    have h2 := sm_lt (trn_iff.1 hu).2.1
    rcases slt_total (n := n) (c := c) (i := t) (j := u) (by omega) (by omega) e with a | a
    · have := (ho t u ht hu).2 a; omega
    · have := (ho u t hu ht).2 a; omega
theorem rank_lt {i : Nat} (hi : i < n) : rank n c i < n := by
  have h := cn_lt (n := n) (P := fun j => slt n c j i) (Q := fun _ => true) (fun _ _ _ => rfl) hi rfl (slt_irr i)
  rw [cn_true (fun _ _ => rfl)] at h; exact h
theorem rank_mono {i j : Nat} (hi : i < n) (h : slt n c i j = true) : rank n c i < rank n c j := cn_lt (fun _ _ hk => slt_trans hk h) hi h (slt_irr i)
theorem rank_iff {i j : Nat} (hi : i < n) (hj : j < n) : rank n c i < rank n c j ↔ slt n c i j = true := by
  refine ⟨fun h => ?_, fun h => rank_mono hi h⟩
  by_cases e : i = j
  · subst e; omega
  · rcases slt_total (n := n) (c := c) (Nat.le_of_lt hi) (Nat.le_of_lt hj) e with a | a
    · exact a
    · have := rank_mono hj a; omega
theorem rank_inj {i j : Nat} (hi : i < n) (hj : j < n) (h : rank n c i = rank n c j) : i = j := by
  by_cases e : i = j
  · exact e
  · rcases slt_total (n := n) (c := c) (Nat.le_of_lt hi) (Nat.le_of_lt hj) e with a | a
    · have := rank_mono hi a; omega
    · have := rank_mono hj a; omega
theorem rank_onto {q : Nat} (hq : q < n) : ∃ i, i < n ∧ rank n c i = q := pigeon n (rank n c) (fun _ h => rank_lt h) (fun _ _ h h' e => rank_inj h h' e) q hq

/-! ### pieces -/
theorem eq2_in {i j : Nat} (hi : i < n) : eq2 n c i j = true ↔ j < n ∧ c i = c j ∧ sm n c i = sm n c j ∧ (sm n c i = false → eq2 n c (i + 1) (j + 1) = true) := by
  rw [eq2, dif_pos hi]
  by_cases h : j < n ∧ c i = c j
  · rw [if_pos h]; cases sm n c i <;> cases sm n c j <;> simp [h.1, h.2]
  · rw [if_neg h]; simp; intro h1 h2; exact absurd ⟨h1, h2⟩ h
theorem eq2_out {i j : Nat} (hi : n ≤ i) : eq2 n c i j = false := by rw [eq2, dif_neg (by omega)]
theorem eq3_in {i j : Nat} (hi : i < n) : eq3 n c i j = true ↔ j < n ∧ c i = c j ∧ sm n c i = sm n c j ∧ (sm n c i = true → eq3 n c (i + 1) (j + 1) = true) ∧ (sm n c i = false → eq2 n c (i + 1) (j + 1) = true) := by
  rw [eq3, dif_pos hi]
  by_cases h : j < n ∧ c i = c j
  · rw [if_pos h]; cases sm n c i <;> cases sm n c j <;> simp [h.1, h.2]
  · rw [if_neg h]; simp; intro h1 h2; exact absurd ⟨h1, h2⟩ h
theorem eq3_out {i j : Nat} (hi : n ≤ i) : eq3 n c i j = false := by rw [eq3, dif_neg (by omega)]

theorem eq2_symm' (d : Nat) : ∀ i j, n - i = d → eq2 n c i j = true → eq2 n c j i = true := by
  induction d with
  | zero => intro i j h h1; rw [eq2_out (by omega)] at h1; cases h1
  | succ d ih =>
    intro i j h h1
    obtain ⟨a, b, e, f⟩ := (eq2_in (by omega)).1 h1
    exact (eq2_in a).2 ⟨by omega, b.symm, e.symm, fun g => ih _ _ (by omega) (f (by rw [e]; exact g))⟩
theorem eq2_symm (i j : Nat) : eq2 n c i j = eq2 n c j i := by
  rw [Bool.eq_iff_iff]; exact ⟨eq2_symm' _ i j rfl, eq2_symm' _ j i rfl⟩
theorem eq3_symm' (d : Nat) : ∀ i j, n - i = d → eq3 n c i j = true → eq3 n c j i = true := by
  induction d with
  | zero => intro i j h h1; rw [eq3_out (by omega)] at h1; cases h1
  | succ d ih =>
    intro i j h h1
    obtain ⟨a, b, e, f, g⟩ := (eq3_in (by omega)).1 h1
    exact (eq3_in a).2 ⟨by omega, b.symm, e.symm, fun z => ih _ _ (by omega) (f (by rw [e]; exact z)), fun z => by rw [eq2_symm]; exact g (by rw [e]; exact z)⟩
theorem eq3_symm (i j : Nat) : eq3 n c i j = eq3 n c j i := by
  rw [Bool.eq_iff_iff]; exact ⟨eq3_symm' _ i j rfl, eq3_symm' _ j i rfl⟩

/-- Where the pieces are unlike, the two orders agree. -/
theorem eq2_unlike' (d : Nat) : ∀ i j, n - i = d → eq2 n c i j = false → lt2 n c r i j = slt n c i j := by
  induction d with
  | zero => intro i j h _; rw [lt2_end (by omega), slt_endb (by omega)]
  | succ d ih =>
    intro i j h he
    have hi' : i < n := by omega
    rcases Nat.lt_or_ge j n with hj' | hj'
    · by_cases e : c i = c j
      · cases hs : sm n c i <;> cases ht : sm n c j
        · rw [lt2_bb hi' hj' e hs ht, slt_eq hi' hj' e]
          refine ih _ _ (by omega) ?_
          cases h2 : eq2 n c (i + 1) (j + 1) with
          | false => rfl
          | true => rw [(eq2_in hi').2 ⟨hj', e, by rw [hs, ht], fun _ => h2⟩] at he; cases he
        · rw [lt2_bs hi' hj' e hs ht, big_lt_small hi' hj' e hs ht]
        · rw [lt2_sb hi' hj' e hs ht, slt_asymm (big_lt_small hj' hi' e.symm ht hs)]
        · rw [(eq2_in hi').2 ⟨hj', e, by rw [hs, ht], (fun h2 => by rw [hs] at h2; cases h2)⟩] at he; cases he
      · rw [lt2_ne hi' hj' e, slt_ne hi' hj' e]
    · rw [lt2_to_end hj', slt_to_end hj']
theorem eq3_unlike' (d : Nat) : ∀ i j, n - i = d → eq3 n c i j = false → lt3 n c r i j = slt n c i j := by
  induction d with
  | zero => intro i j h _; rw [lt3_end (by omega), slt_endb (by omega)]
  | succ d ih =>
    intro i j h he
    have hi' : i < n := by omega
    rcases Nat.lt_or_ge j n with hj' | hj'
    · by_cases e : c i = c j
      · cases hs : sm n c i <;> cases ht : sm n c j
        · rw [lt3_bb hi' hj' e hs ht, slt_eq hi' hj' e]
          refine eq2_unlike' _ _ _ rfl ?_
          cases h2 : eq2 n c (i + 1) (j + 1) with
          | false => rfl
          | true => rw [(eq3_in hi').2 ⟨hj', e, by rw [hs, ht], (fun h3 => by rw [hs] at h3; cases h3), fun _ => h2⟩] at he; cases he
        · rw [lt3_bs hi' hj' e hs ht, big_lt_small hi' hj' e hs ht]
        · rw [lt3_sb hi' hj' e hs ht, slt_asymm (big_lt_small hj' hi' e.symm ht hs)]
        · rw [lt3_ss hi' hj' e hs ht, slt_eq hi' hj' e]
          refine ih _ _ (by omega) ?_
          cases h2 : eq3 n c (i + 1) (j + 1) with
          | false => rfl
          | true => rw [(eq3_in hi').2 ⟨hj', e, by rw [hs, ht], fun _ => h2, (fun h3 => by rw [hs] at h3; cases h3)⟩] at he; cases he
      · rw [lt3_ne hi' hj' e, slt_ne hi' hj' e]
    · rw [lt3_to_end hj', slt_to_end hj']
theorem eq3_unlike {i j : Nat} (h : eq3 n c i j = false) : lt3 n c r i j = slt n c i j := eq3_unlike' _ i j rfl h

/-- Two alike stand to any third one alike. -/
theorem eq2_trade' (d : Nat) : ∀ i k j, n - i = d → eq2 n c i k = true → eq2 n c i j = eq2 n c k j ∧ (eq2 n c i j = false → slt n c i j = slt n c k j) := by
  induction d with
  | zero => intro i k j h h1; rw [eq2_out (by omega)] at h1; cases h1
  | succ d ih =>
    intro i k j h h1
    have hi : i < n := by omega
    obtain ⟨hk, e, s, f⟩ := (eq2_in hi).1 h1
    rcases Nat.lt_or_ge j n with hj | hj
    · by_cases a : c i = c j
      · cases hs : sm n c i with
        | false =>
          have hk' : sm n c k = false := by rw [← s]; exact hs
          have h2 := ih _ _ (j + 1) (by omega) (f hs)
          constructor
          · rw [Bool.eq_iff_iff, eq2_in hi, eq2_in hk, hs, hk', h2.1, e]
          · intro h3
            rw [slt_eq hi hj a, slt_eq hk hj (by omega)]
            cases ht : sm n c j with
            | false =>
              refine h2.2 ?_
              cases h4 : eq2 n c (i + 1) (j + 1) with
              | false => rfl
              | true => rw [(eq2_in hi).2 ⟨hj, a, by rw [hs, ht], fun _ => h4⟩] at h3; cases h3
            | true =>
              have h5 := big_lt_small hi hj a hs ht
              have h6 := big_lt_small hk hj (by omega) hk' ht
              rw [slt_eq hi hj a] at h5; rw [slt_eq hk hj (by omega)] at h6
              rw [h5, h6]
        | true =>
          have hk' : sm n c k = true := by rw [← s]; exact hs
          constructor
          · rw [Bool.eq_iff_iff, eq2_in hi, eq2_in hk, hs, hk', e]; simp
          · intro h3
            cases ht : sm n c j with
            | false =>
              rw [slt_asymm (big_lt_small hj hi a.symm ht hs), slt_asymm (big_lt_small hj hk (by omega) ht hk')]
            | true => rw [(eq2_in hi).2 ⟨hj, a, by rw [hs, ht], (fun h4 => by rw [hs] at h4; cases h4)⟩] at h3; cases h3
      · constructor
        · rw [Bool.eq_iff_iff, eq2_in hi, eq2_in hk]
          exact ⟨fun h2 => absurd h2.2.1 a, fun h2 => absurd (e.trans h2.2.1) a⟩
        · intro _; rw [slt_ne hi hj a, slt_ne hk hj (by omega), e]
    · constructor
      · rw [Bool.eq_iff_iff, eq2_in hi, eq2_in hk]; omega
      · intro _; rw [slt_to_end hj, slt_to_end hj]
theorem eq3_trade' (d : Nat) : ∀ i k j, n - i = d → eq3 n c i k = true → eq3 n c i j = eq3 n c k j ∧ (eq3 n c i j = false → slt n c i j = slt n c k j) := by
  induction d with
  | zero => intro i k j h h1; rw [eq3_out (by omega)] at h1; cases h1
  | succ d ih =>
    intro i k j h h1
    have hi : i < n := by omega
    obtain ⟨hk, e, s, f, g⟩ := (eq3_in hi).1 h1
    rcases Nat.lt_or_ge j n with hj | hj
    · by_cases a : c i = c j
      · cases hs : sm n c i with
        | false =>
          have hk' : sm n c k = false := by rw [← s]; exact hs
          have h2 := eq2_trade' _ _ _ (j + 1) rfl (g hs)
          constructor
          · rw [Bool.eq_iff_iff, eq3_in hi, eq3_in hk, hs, hk', h2.1, e]; simp
          · intro h3
            rw [slt_eq hi hj a, slt_eq hk hj (by omega)]
            cases ht : sm n c j with
            | false =>
              refine h2.2 ?_
              cases h4 : eq2 n c (i + 1) (j + 1) with
              | false => rfl
              | true => rw [(eq3_in hi).2 ⟨hj, a, by rw [hs, ht], (fun h5 => by rw [hs] at h5; cases h5), fun _ => h4⟩] at h3; cases h3
            | true =>
              have h5 := big_lt_small hi hj a hs ht
              have h6 := big_lt_small hk hj (by omega) hk' ht
              rw [slt_eq hi hj a] at h5; rw [slt_eq hk hj (by omega)] at h6
              rw [h5, h6]
        | true =>
          have hk' : sm n c k = true := by rw [← s]; exact hs
          have h2 := ih _ _ (j + 1) (by omega) (f hs)
          constructor
          · rw [Bool.eq_iff_iff, eq3_in hi, eq3_in hk, hs, hk', h2.1, e]; simp
          · intro h3
            cases ht : sm n c j with
            | false =>
              rw [slt_asymm (big_lt_small hj hi a.symm ht hs), slt_asymm (big_lt_small hj hk (by omega) ht hk')]
            | true =>
              rw [slt_eq hi hj a, slt_eq hk hj (by omega)]
              refine h2.2 ?_
              cases h4 : eq3 n c (i + 1) (j + 1) with
              | false => rfl
              | true => rw [(eq3_in hi).2 ⟨hj, a, by rw [hs, ht], fun _ => h4, (fun h5 => by rw [hs] at h5; cases h5)⟩] at h3; cases h3
      · constructor
        · rw [Bool.eq_iff_iff, eq3_in hi, eq3_in hk]
          exact ⟨fun h2 => absurd h2.2.1 a, fun h2 => absurd (e.trans h2.2.1) a⟩
        · intro _; rw [slt_ne hi hj a, slt_ne hk hj (by omega), e]
    · constructor
      · rw [Bool.eq_iff_iff, eq3_in hi, eq3_in hk]; omega
      · intro _; rw [slt_to_end hj, slt_to_end hj]
theorem eq3_trade {i k : Nat} (j : Nat) (h : eq3 n c i k = true) : eq3 n c i j = eq3 n c k j ∧ (eq3 n c i j = false → slt n c i j = slt n c k j) := eq3_trade' _ i k j rfl h


/-! ### names -/
/-- Turns in the row's order have names that go on by one where the piece is another one. -/
structure Named (n : Nat) (c : Nat → Int) (r : Nat → Nat) (m : Nat) (o : Nat → Nat) (nm : Nat → Int) : Prop where
  turn : ∀ a, a < m → trn n c (o a) = true
  sorted : ∀ a, a + 1 < m → lt3 n c r (o a) (o (a + 1)) = true
  step : ∀ a, a + 1 < m → nm (o (a + 1)) = nm (o a) + (if eq3 n c (o a) (o (a + 1)) then 0 else 1)

theorem Named.lt {m : Nat} {o : Nat → Nat} {nm : Nat → Int} (h : Named n c r m o nm) (d : Nat) : ∀ a, a + d + 1 < m → lt3 n c r (o a) (o (a + d + 1)) = true := by
  induction d with
  | zero => intro a ha; exact h.sorted a ha
  | succ d ih => intro a ha; exact lt3_trans (ih a (by omega)) (h.sorted (a + d + 1) (by omega))
/-- Two have one name just if their pieces are alike; else names are as the suffixes. -/
theorem Named.pair {m : Nat} {o : Nat → Nat} {nm : Nat → Int} (h : Named n c r m o nm) (d : Nat) : ∀ a, a + d + 1 < m →
    (eq3 n c (o a) (o (a + d + 1)) = true → nm (o a) = nm (o (a + d + 1))) ∧ (eq3 n c (o a) (o (a + d + 1)) = false → nm (o a) < nm (o (a + d + 1)) ∧ slt n c (o a) (o (a + d + 1)) = true) := by
  induction d with
  | zero =>
    intro a ha
    have h1 := h.step a (by omega)
    have h2 := h.sorted a (by omega)
    constructor
    · intro he; rw [if_pos he] at h1; rw [Nat.add_zero]; omega
    · intro he; rw [Nat.add_zero] at *; rw [if_neg (by rw [he]; simp)] at h1
      exact ⟨by omega, by rw [← eq3_unlike (r := r) he]; exact h2⟩
  | succ d ih =>
    intro a ha
    obtain ⟨g1, g2⟩ := ih a (by omega)
    have h1 := h.step (a + d + 1) (by omega)
    have h2 := h.sorted (a + d + 1) (by omega)
    have h3 := h.lt (d + 1) a (by omega)
    have h4 := h.lt d a (by omega)
    rw [show a + (d + 1) + 1 = a + d + 1 + 1 by omega] at *
    constructor
    · intro he
      cases hb : eq3 n c (o (a + d + 1)) (o (a + d + 1 + 1)) with
      | true =>
        rw [if_pos hb] at h1
        have t := (eq3_trade (o a) hb).1
        rw [eq3_symm (o (a + d + 1 + 1)), he, eq3_symm] at t
        have := g1 t; omega
      | false =>
        exfalso
        have s1 : slt n c (o (a + d + 1)) (o (a + d + 1 + 1)) = true := by rw [← eq3_unlike (r := r) hb]; exact h2
        have t := eq3_trade (o (a + d + 1)) he
        have t1 : eq3 n c (o a) (o (a + d + 1)) = false := by rw [t.1, eq3_symm]; exact hb
        have t2 := t.2 t1
        rw [slt_asymm s1, ← eq3_unlike (r := r) t1, h4] at t2
        cases t2
    · intro he
      have hs : slt n c (o a) (o (a + d + 1 + 1)) = true := by rw [← eq3_unlike (r := r) he]; exact h3
      refine ⟨?_, hs⟩
      cases hb : eq3 n c (o (a + d + 1)) (o (a + d + 1 + 1)) with
      | true =>
        rw [if_pos hb] at h1
        have t := (eq3_trade (o a) hb).1
        rw [eq3_symm (o (a + d + 1 + 1)), he, eq3_symm] at t
        have := (g2 t).1; omega
      | false =>
        rw [if_neg (by rw [hb]; simp)] at h1
        cases ha2 : eq3 n c (o a) (o (a + d + 1)) with
        | true => have := g1 ha2; omega
        | false => have := (g2 ha2).1; omega

/-- What names tell of any two turns. -/
def Names (n : Nat) (c : Nat → Int) (nm : Nat → Int) : Prop := ∀ t u, trn n c t = true → trn n c u = true → t ≠ u →
  (nm t < nm u → slt n c t u = true) ∧ (nm t = nm u → eq3 n c t u = true)
theorem Named.names {m : Nat} {o : Nat → Nat} {nm : Nat → Int} (h : Named n c r m o nm) (hall : ∀ t, trn n c t = true → ∃ a, a < m ∧ o a = t) : Names n c nm := by
  intro t u ht hu hne
  obtain ⟨a, ha, rfl⟩ := hall t ht
  obtain ⟨b, hb, rfl⟩ := hall u hu
  rcases Nat.lt_trichotomy a b with hab | hab | hab
  · obtain ⟨g1, g2⟩ := h.pair (b - a - 1) a (by omega)
    rw [show a + (b - a - 1) + 1 = b by omega] at g1 g2
    cases he : eq3 n c (o a) (o b) with
    | true => exact ⟨fun h1 => by have := g1 he; omega, fun _ => rfl⟩
    | false => exact ⟨fun _ => (g2 he).2, fun h1 => by have := (g2 he).1; omega⟩
  · subst hab; exact absurd rfl hne
  · obtain ⟨g1, g2⟩ := h.pair (a - b - 1) b (by omega)
    rw [show b + (a - b - 1) + 1 = a by omega] at g1 g2
    cases he : eq3 n c (o b) (o a) with
    | true => exact ⟨fun h1 => by have := g1 he; omega, fun _ => by rw [eq3_symm]; exact he⟩
    | false => exact ⟨fun h1 => by have := (g2 he).1; omega, fun h1 => by have := (g2 he).1; omega⟩

/-- The turns, rising. -/
structure Turns (n : Nat) (c : Nat → Int) (m : Nat) (T : Nat → Nat) : Prop where
  turn : ∀ a, a < m → trn n c (T a) = true
  rise : ∀ a b, a < b → b < m → T a < T b
  all : ∀ t, trn n c t = true → ∃ a, a < m ∧ T a = t

theorem Turns.next {m : Nat} {T : Nat → Nat} (h : Turns n c m T) {a e : Nat} (ha : a < m) (he : 0 < e) (ht : trn n c (T a + e) = true) (hno : ∀ q, 0 < q → q < e → trn n c (T a + q) = false) : a + 1 < m ∧ T (a + 1) = T a + e := by
  obtain ⟨b, hb, hbe⟩ := h.all _ ht
  have hab : a < b := by
    rcases Nat.lt_or_ge a b with h1 | h1
    · exact h1
    · rcases Nat.lt_or_eq_of_le h1 with h2 | h2
      · have := h.rise b a h2 ha; omega
      · subst h2; omega
  refine ⟨by omega, ?_⟩
  have h1 := h.rise a (a + 1) (by omega) (by omega)
  have h2 : T (a + 1) ≤ T b := by
    rcases Nat.lt_or_eq_of_le (show a + 1 ≤ b by omega) with h3 | h3
    · exact Nat.le_of_lt (h.rise _ _ h3 hb)
    · rw [h3]; exact Nat.le_refl _
  rcases Nat.lt_or_ge (T (a + 1)) (T a + e) with h3 | h3
  · have h4 := hno (T (a + 1) - T a) (by omega) (by omega)
    rw [show T a + (T (a + 1) - T a) = T (a + 1) by omega, h.turn (a + 1) (by omega)] at h4
    cases h4
  · omega

end
end Go.Proofs.Ytobknpeglagaaaa.SM
end

section
/- The printed functions of package sais against the plain mathematics: types, turns, check, buckets. -/
namespace Go.Proofs.Ytobknpeglagaaaa.SD
open Go.RowKit Go.Proofs.Ytobknpeglagaaaa.X Go.Proofs.Ytobknpeglagaaaa.SM Go.Proofs.YtobknpeglagaaaaW.PrintWords Go.Proofs.YtobknpeglagaaaaW.PrintLast

/-- The q-th number. -/
def ch (s : List Int) (q : Nat) : Int := s.getD q 0
/-- The turns, rising. -/
def tul (s : List Int) : List Int := ((List.range s.length).filter (trn s.length (ch s))).map (fun i : Nat => (i : Int))

theorem rd_nat (s : List Int) (q : Nat) : rd s (q : Int) = ch s q := by unfold rd ch; rw [Int.toNat_natCast]

theorem w64 {x : Int} (h1 : -9223372036854775808 ≤ x) (h2 : x ≤ 9223372036854775807) : wrap64 x = x := by unfold wrap64; omega



theorem range_succ_filter (P : Nat → Bool) (q : Nat) : (List.range (q + 1)).filter P = (List.range q).filter P ++ (if P q then [q] else []) := by
  rw [List.range_succ, List.filter_append]
  congr 1
  by_cases h : P q = true
  · simp [h]
  · simp [h]


end Go.Proofs.Ytobknpeglagaaaa.SD
end

section
/- The printed functions buckets and induce of package sais against the plain mathematics: what the passes make of any order of the turns. -/
namespace Go.Proofs.Ytobknpeglagaaaa.SD
open Go.RowKit Go.Proofs.Ytobknpeglagaaaa Go.Proofs.Ytobknpeglagaaaa.X Go.Proofs.Ytobknpeglagaaaa.SM Go.Proofs.YtobknpeglagaaaaW.PrintWords Go.Proofs.YtobknpeglagaaaaW.PrintLast


/-- How many numbers are v. -/
def cv (n : Nat) (c : Nat → Int) (v : Int) : Nat := cn n (fun j => decide (c j = v))


section
variable {k0 : Int} {s : List Int}
attribute [local irreducible] cn cv fr tov rk3 loc2 ch




/-! ### inducing -/
/-- o is an order of the turns; r tells where each stands in it. -/
structure Ord (s : List Int) (o : List Int) (r : Nat → Nat) : Prop where
  turn : ∀ a, a < o.length → ∃ t, trn s.length (ch s) t = true ∧ ch o a = (t : Int) ∧ r t = a
  all : ∀ t, trn s.length (ch s) t = true → r t < o.length ∧ ch o (r t) = (t : Int)
theorem Ord.inj {o : List Int} {r : Nat → Nat} (h : Ord s o r) : Inj s.length (ch s) r := by
  intro t u ht hu e
  have h1 := (h.all t ht).2
  have h2 := (h.all u hu).2
  rw [e] at h1; omega
theorem trn_lt {n : Nat} {c : Nat → Int} {t : Nat} (h : trn n c t = true) : t + 1 < n := sm_lt (trn_iff.1 h).2.1

variable {o : List Int} {r : Nat → Nat}





end
end Go.Proofs.Ytobknpeglagaaaa.SD
end

section
/- The printed function induce of package sais: whatever order of the turns is given, the row has all in the order that the passes make of it. -/
namespace Go.Proofs.Ytobknpeglagaaaa.SD
open Go.RowKit Go.Proofs.Ytobknpeglagaaaa Go.Proofs.Ytobknpeglagaaaa.X Go.Proofs.Ytobknpeglagaaaa.SM Go.Proofs.YtobknpeglagaaaaW.PrintWords Go.Proofs.YtobknpeglagaaaaW.PrintLast

theorem wp {x y : Int} (h : x = y) (h1 : -9223372036854775808 ≤ y) (h2 : y ≤ 9223372036854775807) : wrap64 x = y := by rw [h]; exact w64 h1 h2

section
variable {k0 : Int} {s : List Int} {o : List Int} {r : Nat → Nat}
attribute [local irreducible] cn cv fr tov rk3 loc2 ch







end
end Go.Proofs.Ytobknpeglagaaaa.SD
end

section
/- The printed functions same, array and Array of package sais: the answer has all suffixes in their order. -/
namespace Go.Proofs.Ytobknpeglagaaaa.SD
open Go.RowKit Go.Proofs.Ytobknpeglagaaaa Go.Proofs.Ytobknpeglagaaaa.X Go.Proofs.Ytobknpeglagaaaa.SM Go.Proofs.YtobknpeglagaaaaW.PrintWords Go.Proofs.YtobknpeglagaaaaW.PrintLast

/-! ### the turns in the text's order -/
theorem filter_length (P : Nat → Bool) (n : Nat) : ((List.range n).filter P).length = cn n P := by
  induction n with
  | zero => rfl
  | succ n ih =>
    rw [range_succ_filter, List.length_append, ih, cn]
    by_cases h : P n = true
    · rw [if_pos h, if_pos h]; rfl
    · rw [if_neg h, if_neg h]; rfl
theorem cn_up {P : Nat → Bool} {m n : Nat} (h : m ≤ n) : cn m P ≤ cn n P := by
  induction n with
  | zero => obtain rfl : m = 0 := by omega
            exact Nat.le_refl _
  | succ n ih =>
    by_cases e : m = n + 1
    · rw [e]; exact Nat.le_refl _
    · have := ih (by omega)
      rw [cn]; omega
theorem cn_up_lt {P : Nat → Bool} {t n : Nat} (h : t < n) (hP : P t = true) : cn t P < cn n P := by
  have h1 := cn_up (P := P) (show t + 1 ≤ n by omega)
  rw [cn, if_pos hP] at h1; omega
theorem filter_get (P : Nat → Bool) (n : Nat) : ∀ t, t < n → P t = true → ((List.range n).filter P)[cn t P]? = some t := by
  induction n with
  | zero => intro t ht; omega
  | succ n ih =>
    intro t ht hP
    rw [range_succ_filter]
    by_cases e : t = n
    · subst e
      rw [List.getElem?_append_right (by rw [filter_length]; exact Nat.le_refl _), filter_length, Nat.sub_self, if_pos hP]; rfl
    · have := cn_up_lt (n := n) (by omega) hP
      rw [List.getElem?_append_left (by rw [filter_length]; exact this)]
      exact ih t (by omega) hP
theorem cn_find (P : Nat → Bool) (n : Nat) : ∀ a, a < cn n P → ∃ t, t < n ∧ P t = true ∧ cn t P = a := by
  induction n with
  | zero => intro a ha; rw [cn] at ha; omega
  | succ n ih =>
    intro a ha
    by_cases h : P n = true
    · rw [cn, if_pos h] at ha
      by_cases e : a = cn n P
      · exact ⟨n, by omega, h, e.symm⟩
      · obtain ⟨t, h1, h2, h3⟩ := ih a (by omega)
        exact ⟨t, by omega, h2, h3⟩
    · rw [cn, if_neg h] at ha
      obtain ⟨t, h1, h2, h3⟩ := ih a (by omega)
      exact ⟨t, by omega, h2, h3⟩

section
variable {k0 : Int} {s : List Int} {r : Nat → Nat}

theorem tul_length (s : List Int) : (tul s).length = cn s.length (trn s.length (ch s)) := by unfold tul; rw [List.length_map, filter_length]
theorem tul_get {t : Nat} (h : trn s.length (ch s) t = true) : ch (tul s) (cn t (trn s.length (ch s))) = (t : Int) := by
  unfold tul ch
  have h1 := trn_lt h
  rw [List.getD_eq_getElem?_getD, List.getElem?_map]
  have := filter_get (trn s.length (ch s)) s.length t (by omega) h
  unfold ch at this
  rw [this]; rfl
theorem tul_ord (s : List Int) : Ord s (tul s) (fun t => cn t (trn s.length (ch s))) := by
  refine ⟨fun a ha => ?_, fun t ht => ⟨?_, tul_get ht⟩⟩
  · rw [tul_length] at ha
    obtain ⟨t, _, h2, h3⟩ := cn_find _ _ a ha
    exact ⟨t, h2, by rw [← h3]; exact tul_get h2, h3⟩
  · rw [tul_length]; exact cn_up_lt (by have := trn_lt ht; omega) ht
/-- The a-th turn. -/
def T (s : List Int) (a : Nat) : Nat := (ch (tul s) a).toNat
theorem T_spec {a : Nat} (h : a < (tul s).length) : trn s.length (ch s) (T s a) = true ∧ ch (tul s) a = (T s a : Int) ∧ cn (T s a) (trn s.length (ch s)) = a := by
  obtain ⟨t, h1, h2, h3⟩ := (tul_ord s).turn a h
  have : T s a = t := by unfold T; rw [h2]; rfl
  rw [this]; exact ⟨h1, h2, h3⟩
theorem turns (s : List Int) : Turns s.length (ch s) (tul s).length (T s) := by
  refine ⟨fun a ha => (T_spec ha).1, fun a b hab hb => ?_, fun t ht => ?_⟩
  · have h1 := T_spec (s := s) (a := a) (by omega)
    have h2 := T_spec (s := s) (a := b) hb
    rcases Nat.lt_or_ge (T s a) (T s b) with h3 | h3
    · exact h3
    · have := cn_up (P := trn s.length (ch s)) h3; omega
  · have h1 := (tul_ord s).all t ht
    exact ⟨_, h1.1, by unfold T; rw [h1.2]; rfl⟩

/-! ### same -/
attribute [local irreducible] cn cv fr tov rk3 loc2 ch


end
end Go.Proofs.Ytobknpeglagaaaa.SD
end

section
/- The printed functions array and Array of package sais: the answer has all suffixes in their order. -/
namespace Go.Proofs.Ytobknpeglagaaaa.SD
open Go.RowKit Go.Proofs.Ytobknpeglagaaaa Go.Proofs.Ytobknpeglagaaaa.X Go.Proofs.Ytobknpeglagaaaa.SM Go.Proofs.YtobknpeglagaaaaW.PrintWords Go.Proofs.YtobknpeglagaaaaW.PrintLast


/-- l has the suffixes of s in their order. -/
def IsSA (s l : List Int) : Prop := l.length = s.length ∧ ∀ i, i < s.length → ch l (rank s.length (ch s) i) = (i : Int)


section
variable {k0 : Int} {s : List Int} {r : Nat → Nat}
attribute [local irreducible] cn cv fr tov rk3 loc2 ch









end
end Go.Proofs.Ytobknpeglagaaaa.SD
end

section
/- Plain mathematics: how much two suffixes have in common; what neighbours in the order have; the walk by places (Kasai). No program is in sight. -/
namespace Go.Proofs.Ytobknpeglagaaaa.SM

/-- How many numbers the suffixes i and j have in common. -/
def com (n : Nat) (c : Nat → Int) (i j : Nat) : Nat :=
  if _h : i < n then (if j < n ∧ c i = c j then com n c (i + 1) (j + 1) + 1 else 0) else 0
termination_by n - i

section
variable {n : Nat} {c : Nat → Int}
theorem com_step {i j : Nat} (hi : i < n) (hj : j < n) (h : c i = c j) : com n c i j = com n c (i + 1) (j + 1) + 1 := by
  rw [com, dif_pos hi, if_pos ⟨hj, h⟩]
theorem com_stop {i j : Nat} (h : ¬ (i < n ∧ j < n ∧ c i = c j)) : com n c i j = 0 := by
  rw [com]
  by_cases hi : i < n
  · rw [dif_pos hi, if_neg (fun h' => h ⟨hi, h'⟩)]
  · rw [dif_neg hi]
theorem com_pos {i j : Nat} (h : 0 < com n c i j) : i < n ∧ j < n ∧ c i = c j := by
  by_cases h' : i < n ∧ j < n ∧ c i = c j
  · exact h'
  · rw [com_stop h'] at h; omega
theorem com_pred {i j : Nat} (h : 0 < com n c i j) : com n c (i + 1) (j + 1) + 1 = com n c i j := by
  obtain ⟨h1, h2, h3⟩ := com_pos h
  exact (com_step h1 h2 h3).symm
theorem com_le' (d : Nat) : ∀ i j, n - i = d → com n c i j ≤ n - i ∧ com n c i j ≤ n - j := by
  induction d with
  | zero => intro i j h; rw [com_stop (by omega)]; omega
  | succ d ih =>
    intro i j h
    by_cases h' : i < n ∧ j < n ∧ c i = c j
    · rw [com_step h'.1 h'.2.1 h'.2.2]; have := ih (i + 1) (j + 1) (by omega); omega
    · rw [com_stop h']; omega
theorem com_le (i j : Nat) : com n c i j ≤ n - i ∧ com n c i j ≤ n - j := com_le' _ i j rfl
/-- The first so many numbers are the same. -/
theorem com_same (d : Nat) : ∀ i j, n - i = d → ∀ q, q < com n c i j → i + q < n ∧ j + q < n ∧ c (i + q) = c (j + q) := by
  induction d with
  | zero => intro i j h q hq; rw [com_stop (by omega)] at hq; omega
  | succ d ih =>
    intro i j h q hq
    have h1 := com_pos (n := n) (c := c) (i := i) (j := j) (by omega)
    have h2 := com_pred (n := n) (c := c) (i := i) (j := j) (by omega)
    cases q with
    | zero => exact h1
    | succ q =>
      have h3 := ih (i + 1) (j + 1) (by omega) q (by omega)
      rw [show i + (q + 1) = i + 1 + q by omega, show j + (q + 1) = j + 1 + q by omega]
      exact h3
theorem com_get {i j q : Nat} (hq : q < com n c i j) : i + q < n ∧ j + q < n ∧ c (i + q) = c (j + q) := com_same _ i j rfl q hq
/-- Which one is less shows behind what they have in common. -/
theorem slt_com' (d : Nat) : ∀ i j, n - i = d → (slt n c i j = true ↔ j + com n c i j < n ∧ (i + com n c i j < n → c (i + com n c i j) < c (j + com n c i j))) := by
  induction d with
  | zero =>
    intro i j h
    rw [slt_end (by omega), com_stop (by omega)]
    simp only [Nat.add_zero]
    exact ⟨fun hj => ⟨hj, fun hi => by omega⟩, fun h => h.1⟩
  | succ d ih =>
    intro i j h
    have hi : i < n := by omega
    by_cases hj : j < n
    · rw [slt_in hi hj]
      by_cases he : c i = c j
      · rw [com_step hi hj he, ih (i + 1) (j + 1) (by omega), show i + (com n c (i + 1) (j + 1) + 1) = i + 1 + com n c (i + 1) (j + 1) by omega, show j + (com n c (i + 1) (j + 1) + 1) = j + 1 + com n c (i + 1) (j + 1) by omega]
        constructor
        · rintro (h1 | h1)
          · omega
          · exact h1.2
        · exact fun h1 => .inr ⟨he, h1⟩
      · rw [com_stop (fun h' => he h'.2.2)]
        simp only [Nat.add_zero]
        constructor
        · rintro (h1 | h1)
          · exact ⟨hj, fun _ => h1⟩
          · exact absurd h1.1 he
        · exact fun h1 => .inl (h1.2 hi)
    · rw [slt_to_end (by omega), com_stop (fun h' => hj h'.2.1)]
      simp only [Nat.add_zero]
      constructor
      · intro h'; cases h'
      · intro h'; exact absurd h'.1 hj
theorem slt_com {i j : Nat} : slt n c i j = true ↔ j + com n c i j < n ∧ (i + com n c i j < n → c (i + com n c i j) < c (j + com n c i j)) := slt_com' _ i j rfl

end
end Go.Proofs.Ytobknpeglagaaaa.SM
end

section
/- Bytes as strings: equal, less; the suffixes' order is that of the strings. -/
namespace Go.Proofs.Ytobknpeglagaaaa.SD
open Go.RowKit Go.Proofs.Ytobknpeglagaaaa Go.Proofs.Ytobknpeglagaaaa.X Go.Proofs.Ytobknpeglagaaaa.SM Go.Proofs.YtobknpeglagaaaaW.PrintWords Go.Proofs.YtobknpeglagaaaaW.PrintLast

/-- All are bytes. -/
def BL (l : List Int) : Prop := ∀ x ∈ l, 0 ≤ x ∧ x < 256
theorem BL.drop {l : List Int} (h : BL l) (i : Nat) : BL (l.drop i) := fun x hx => h x (List.mem_of_mem_drop hx)
theorem BL.take {l : List Int} (h : BL l) (i : Nat) : BL (l.take i) := fun x hx => h x (List.mem_of_mem_take hx)
def lessL : List Int → List Int → Bool
  | _, [] => false
  | [], _ :: _ => true
  | a :: x, b :: y => decide (a < b) || (decide (a = b) && lessL x y)

section
variable {s : List Int}
/-- Less, by the first place where they part. -/
theorem lessL_of : ∀ (p : Nat) {a b : List Int}, p < b.length → (∀ q, q < p → q < a.length ∧ ch a q = ch b q) → (a.length ≤ p ∨ ch a p < ch b p) → lessL a b = true
  | p, a, [], h, _, _ => by simp at h
  | p, [], y :: b, _, _, _ => rfl
  | 0, x :: a, y :: b, _, _, h => by
    have h1 : ch (x :: a) 0 = x := rfl
    have h2 : ch (y :: b) 0 = y := rfl
    rw [h1, h2] at h
    simp only [List.length_cons] at h
    have : x < y := by omega
    simp [lessL, this]
  | p + 1, x :: a, y :: b, hp, hq, h => by
    have h0 := (hq 0 (by omega)).2
    have h1 : ch (x :: a) 0 = x := rfl
    have h2 : ch (y :: b) 0 = y := rfl
    rw [h1, h2] at h0
    subst h0
    have hs : ∀ (z : Int) (l : List Int) (q : Nat), ch (z :: l) (q + 1) = ch l q := fun z l q => by unfold ch; rfl
    have := lessL_of p (a := a) (b := b) (by simp only [List.length_cons] at hp; omega) (fun q hlt => by
      have h3 := hq (q + 1) (by omega)
      rw [hs, hs] at h3
      simp only [List.length_cons] at h3
      exact ⟨by omega, h3.2⟩) (by
      rw [hs, hs] at h
      simp only [List.length_cons] at h
      omega)
    simp [lessL, this]
theorem ch_take (i q : Nat) : ch (s.take i) q = if q < i then ch s q else 0 := by
  unfold ch
  rw [List.getD_eq_getElem?_getD, List.getElem?_take]
  split
  · rw [List.getD_eq_getElem?_getD]
  · rfl
theorem ch_drop (i q : Nat) : ch (s.drop i) q = ch s (i + q) := by
  unfold ch
  rw [List.getD_eq_getElem?_getD, List.getD_eq_getElem?_getD, List.getElem?_drop]
end
end Go.Proofs.Ytobknpeglagaaaa.SD
end

section
/- How many two lists have in common. -/
namespace Go.Proofs.Ytobknpeglagaaaa.SD
open Go.RowKit Go.Proofs.Ytobknpeglagaaaa Go.Proofs.Ytobknpeglagaaaa.X Go.Proofs.Ytobknpeglagaaaa.SM Go.Proofs.YtobknpeglagaaaaW.PrintWords Go.Proofs.YtobknpeglagaaaaW.PrintLast

section
variable {s : List Int}
attribute [local irreducible] cn ch
end
end Go.Proofs.Ytobknpeglagaaaa.SD
end
