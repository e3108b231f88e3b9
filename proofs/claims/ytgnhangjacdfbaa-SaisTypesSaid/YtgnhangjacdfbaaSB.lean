import Derived.Test.YtgnhangjacdfbaaXx1
import Derived.Test.YtgnhangjacdfbaaXx2
import Derived.Test.YtgnhangjacdfbaaXx4
import Derived.Test.YtgnhangjacdfbaaXx5
import Derived.Test.YtgnhangjacdfbaaXx6
import Derived.Test.YtgnhangjacdfbaaXx7
import Derived.Test.YtgnhangjacdfbaaXx8
import Derived.Test.YtgnhangjacdfbaaXx9
section
/- Plain mathematics for the order of suffixes: n numbers c 0 .. c (n-1); suffixes compared from the front; small suffixes and turns; what inducing makes of any order of the turns. No program is in sight. -/
namespace Go.Proofs.Ytgnhangjacdfbaa.SM

/-! ### counting -/
def cn : Nat → (Nat → Bool) → Nat
  | 0, _ => 0
  | n + 1, P => cn n P + (if P n then 1 else 0)











/-! ### suffixes -/
/-- Is the suffix i less than the suffix j? -/
def slt (n : Nat) (c : Nat → Int) (i j : Nat) : Bool :=
  if _h : i < n then
    if j < n then decide (c i < c j) || (decide (c i = c j) && slt n c (i + 1) (j + 1)) else false
  else decide (j < n)
termination_by n - i

/-- Is the suffix i small? -/
def sm (n : Nat) (c : Nat → Int) (i : Nat) : Bool :=
  if _h : i + 1 < n then decide (c i < c (i + 1)) || (decide (c i = c (i + 1)) && sm n c (i + 1)) else false
termination_by n - i

/-- Is i a turn? -/
def trn (n : Nat) (c : Nat → Int) (i : Nat) : Bool := decide (0 < i) && (sm n c i && !sm n c (i - 1))

section
variable {n : Nat} {c : Nat → Int}

theorem slt_in {i j : Nat} (hi : i < n) (hj : j < n) : slt n c i j = true ↔ c i < c j ∨ (c i = c j ∧ slt n c (i + 1) (j + 1) = true) := by
  rw [slt, dif_pos hi, if_pos hj]; simp
theorem slt_end {i j : Nat} (hi : n ≤ i) : slt n c i j = true ↔ j < n := by
  rw [slt, dif_neg (by omega)]; simp
theorem slt_to_end {i j : Nat} (hj : n ≤ j) : slt n c i j = false := by
  rw [slt]; split
  · rw [if_neg (by omega)]
  · simp; omega
theorem slt_irrefl (d : Nat) : ∀ i, n - i = d → slt n c i i = false := by
  induction d with
  | zero => intro i h; exact slt_to_end (by omega)
  | succ d ih =>
    intro i h
    have h1 := ih (i + 1) (by omega)
    have h2 := slt_in (c := c) (i := i) (j := i) (n := n) (by omega) (by omega)
    cases h3 : slt n c i i with
    | false => rfl
    | true => rcases h2.1 h3 with h4 | h4
              · omega
              · rw [h1] at h4; exact absurd h4.2 (by simp)
theorem slt_irr (i : Nat) : slt n c i i = false := slt_irrefl _ i rfl
theorem slt_trans' (d : Nat) : ∀ i j k, n - i = d → slt n c i j = true → slt n c j k = true → slt n c i k = true := by
  induction d with
  | zero =>
    intro i j k h h1 h2
    have hj := (slt_end (by omega)).1 h1
    have hk : k < n := by
      rcases Nat.lt_or_ge k n with h3 | h3
      · exact h3
      · rw [slt_to_end h3] at h2; cases h2
    exact (slt_end (by omega)).2 hk
  | succ d ih =>
    intro i j k h h1 h2
    have hj : j < n := by
      rcases Nat.lt_or_ge j n with h3 | h3
      · exact h3
      · rw [slt_to_end h3] at h1; cases h1
    have hk : k < n := by
      rcases Nat.lt_or_ge k n with h3 | h3
      · exact h3
      · rw [slt_to_end h3] at h2; cases h2
    have hi : i < n := by omega
    refine (slt_in hi hk).2 ?_
    rcases (slt_in hi hj).1 h1 with a | ⟨a, a'⟩ <;> rcases (slt_in hj hk).1 h2 with b | ⟨b, b'⟩
    · left; omega
    · left; omega
    · left; omega
    · right; exact ⟨by omega, ih _ _ _ (by omega) a' b'⟩
theorem slt_trans {i j k : Nat} (h1 : slt n c i j = true) (h2 : slt n c j k = true) : slt n c i k = true := slt_trans' _ i j k rfl h1 h2
theorem slt_asymm {i j : Nat} (h1 : slt n c i j = true) : slt n c j i = false := by
  cases h : slt n c j i with
  | false => rfl
  | true => have := slt_trans h1 h; rw [slt_irr] at this; cases this

theorem sm_in {i : Nat} (h : i + 1 < n) : sm n c i = true ↔ c i < c (i + 1) ∨ (c i = c (i + 1) ∧ sm n c (i + 1) = true) := by
  rw [sm, dif_pos h]; simp
theorem sm_out {i : Nat} (h : n ≤ i + 1) : sm n c i = false := by
  rw [sm, dif_neg (by omega)]
theorem sm_lt {i : Nat} (h : sm n c i = true) : i + 1 < n := by
  rcases Nat.lt_or_ge (i + 1) n with h1 | h1
  · exact h1
  · rw [sm_out h1] at h; cases h
theorem sm_false {i : Nat} (h : sm n c i = false) (hi : i + 1 < n) : c (i + 1) < c i ∨ (c i = c (i + 1) ∧ sm n c (i + 1) = false) := by
  rcases Int.lt_trichotomy (c i) (c (i + 1)) with a | a | a
  · rw [(sm_in hi).2 (.inl a)] at h; cases h
  · cases hs : sm n c (i + 1) with
    | false => exact .inr ⟨a, rfl⟩
    | true => rw [(sm_in hi).2 (.inr ⟨a, hs⟩)] at h; cases h
  · exact .inl a


/-- With one number at the front, one that is not small is less than one that is. -/
theorem big_lt_small' (d : Nat) : ∀ i j, n - i = d → i < n → j < n → c i = c j → sm n c i = false → sm n c j = true → slt n c i j = true := by
  induction d with
  | zero => intro i j h hi; omega
  | succ d ih =>
    intro i j h hi hj e hs ht
    have hj1 := sm_lt ht
    refine (slt_in hi hj).2 (.inr ⟨e, ?_⟩)
    rcases Nat.lt_or_ge (i + 1) n with h1 | h1
    · rcases sm_false hs h1 with a | ⟨a, a'⟩ <;> rcases (sm_in hj1).1 ht with b | ⟨b, b'⟩
      · exact (slt_in h1 hj1).2 (.inl (by omega))
      · exact (slt_in h1 hj1).2 (.inl (by omega))
      · exact (slt_in h1 hj1).2 (.inl (by omega))
      · exact ih _ _ (by omega) h1 hj1 (by omega) a' b'
    · exact (slt_end h1).2 hj1
theorem big_lt_small {i j : Nat} (hi : i < n) (hj : j < n) (e : c i = c j) (hs : sm n c i = false) (ht : sm n c j = true) : slt n c i j = true := big_lt_small' _ i j rfl hi hj e hs ht

theorem trn_iff {i : Nat} : trn n c i = true ↔ 0 < i ∧ sm n c i = true ∧ sm n c (i - 1) = false := by
  unfold trn; simp
/-- Behind one that is not small: the end, one that is not small, or a turn. -/
theorem next_big {i : Nat} (_hi : i < n) (h : sm n c i = false) : i + 1 = n ∨ sm n c (i + 1) = false ∨ trn n c (i + 1) = true := by
  cases hs : sm n c (i + 1) with
  | false => exact .inr (.inl rfl)
  | true => exact .inr (.inr (trn_iff.2 ⟨by omega, hs, by simpa using h⟩))
end
end Go.Proofs.Ytgnhangjacdfbaa.SM
end

section
/- Plain mathematics for inducing: the order that the passes make out of any order r of the turns, its ranks, when it is the suffixes' own order, and the pieces' names. No program is in sight. -/
namespace Go.Proofs.Ytgnhangjacdfbaa.SM

/-- The order of what the second pass scans: by the number, not small ones ahead, turns by r, others by what stands behind them. -/
def lt2 (n : Nat) (c : Nat → Int) (r : Nat → Nat) (i j : Nat) : Bool :=
  if _h : i < n then
    if j < n then
      if c i = c j then
        if sm n c i then (if sm n c j then decide (r i < r j) else false)
        else (if sm n c j then true else lt2 n c r (i + 1) (j + 1))
      else decide (c i < c j)
    else false
  else decide (j < n)
termination_by n - i

/-- The order of the whole row. -/
def lt3 (n : Nat) (c : Nat → Int) (r : Nat → Nat) (i j : Nat) : Bool :=
  if _h : i < n then
    if j < n then
      if c i = c j then
        if sm n c i then (if sm n c j then lt3 n c r (i + 1) (j + 1) else false)
        else (if sm n c j then true else lt2 n c r (i + 1) (j + 1))
      else decide (c i < c j)
    else false
  else decide (j < n)
termination_by n - i

/-- Are two alike up to their next turns? -/
def eq2 (n : Nat) (c : Nat → Int) (i j : Nat) : Bool :=
  if _h : i < n then
    if j < n ∧ c i = c j then (if sm n c i then sm n c j else (if sm n c j then false else eq2 n c (i + 1) (j + 1))) else false
  else false
termination_by n - i
def eq3 (n : Nat) (c : Nat → Int) (i j : Nat) : Bool :=
  if _h : i < n then
    if j < n ∧ c i = c j then (if sm n c i then (if sm n c j then eq3 n c (i + 1) (j + 1) else false) else (if sm n c j then false else eq2 n c (i + 1) (j + 1))) else false
  else false
termination_by n - i

section
variable {n : Nat} {c : Nat → Int} {r : Nat → Nat}

theorem lt2_ne {i j : Nat} (hi : i < n) (hj : j < n) (h : c i ≠ c j) : lt2 n c r i j = decide (c i < c j) := by
  rw [lt2, dif_pos hi, if_pos hj, if_neg h]
theorem lt2_bb {i j : Nat} (hi : i < n) (hj : j < n) (h : c i = c j) (hs : sm n c i = false) (ht : sm n c j = false) : lt2 n c r i j = lt2 n c r (i + 1) (j + 1) := by
  rw [lt2, dif_pos hi, if_pos hj, if_pos h, hs, ht]; rfl
theorem lt2_bs {i j : Nat} (hi : i < n) (hj : j < n) (h : c i = c j) (hs : sm n c i = false) (ht : sm n c j = true) : lt2 n c r i j = true := by
  rw [lt2, dif_pos hi, if_pos hj, if_pos h, hs, ht]; rfl
theorem lt2_sb {i j : Nat} (hi : i < n) (hj : j < n) (h : c i = c j) (hs : sm n c i = true) (ht : sm n c j = false) : lt2 n c r i j = false := by
  rw [lt2, dif_pos hi, if_pos hj, if_pos h, hs, ht]; rfl
theorem lt2_ss {i j : Nat} (hi : i < n) (hj : j < n) (h : c i = c j) (hs : sm n c i = true) (ht : sm n c j = true) : lt2 n c r i j = decide (r i < r j) := by
  rw [lt2, dif_pos hi, if_pos hj, if_pos h, hs, ht]; rfl
theorem lt2_end {i j : Nat} (hi : n ≤ i) : lt2 n c r i j = decide (j < n) := by rw [lt2, dif_neg (by omega)]
theorem lt2_to_end {i j : Nat} (hj : n ≤ j) : lt2 n c r i j = false := by
  rw [lt2]; split
  · rw [if_neg (by omega)]
  · simp; omega
theorem lt3_ne {i j : Nat} (hi : i < n) (hj : j < n) (h : c i ≠ c j) : lt3 n c r i j = decide (c i < c j) := by
  rw [lt3, dif_pos hi, if_pos hj, if_neg h]
theorem lt3_bb {i j : Nat} (hi : i < n) (hj : j < n) (h : c i = c j) (hs : sm n c i = false) (ht : sm n c j = false) : lt3 n c r i j = lt2 n c r (i + 1) (j + 1) := by
  rw [lt3, dif_pos hi, if_pos hj, if_pos h, hs, ht]; rfl
theorem lt3_bs {i j : Nat} (hi : i < n) (hj : j < n) (h : c i = c j) (hs : sm n c i = false) (ht : sm n c j = true) : lt3 n c r i j = true := by
  rw [lt3, dif_pos hi, if_pos hj, if_pos h, hs, ht]; rfl
theorem lt3_sb {i j : Nat} (hi : i < n) (hj : j < n) (h : c i = c j) (hs : sm n c i = true) (ht : sm n c j = false) : lt3 n c r i j = false := by
  rw [lt3, dif_pos hi, if_pos hj, if_pos h, hs, ht]; rfl
theorem lt3_ss {i j : Nat} (hi : i < n) (hj : j < n) (h : c i = c j) (hs : sm n c i = true) (ht : sm n c j = true) : lt3 n c r i j = lt3 n c r (i + 1) (j + 1) := by
  rw [lt3, dif_pos hi, if_pos hj, if_pos h, hs, ht]; rfl
theorem lt3_end {i j : Nat} (hi : n ≤ i) : lt3 n c r i j = decide (j < n) := by rw [lt3, dif_neg (by omega)]
theorem lt3_to_end {i j : Nat} (hj : n ≤ j) : lt3 n c r i j = false := by
  rw [lt3]; split
  · rw [if_neg (by omega)]
  · simp; omega


theorem lt2_in {i j : Nat} (h : lt2 n c r i j = true) : j < n := by
  rcases Nat.lt_or_ge j n with h1 | h1
  · exact h1
  · rw [lt2_to_end h1] at h; cases h
theorem lt3_in {i j : Nat} (h : lt3 n c r i j = true) : j < n := by
  rcases Nat.lt_or_ge j n with h1 | h1
  · exact h1
  · rw [lt3_to_end h1] at h; cases h
theorem lt2_le {i j : Nat} (hi : i < n) (h : lt2 n c r i j = true) : c i ≤ c j := by
  have hj := lt2_in h
  by_cases e : c i = c j
  · omega
  · rw [lt2_ne hi hj e] at h
    have := of_decide_eq_true h; omega
theorem lt3_le {i j : Nat} (hi : i < n) (h : lt3 n c r i j = true) : c i ≤ c j := by
  have hj := lt3_in h
  by_cases e : c i = c j
  · omega
  · rw [lt3_ne hi hj e] at h
    have := of_decide_eq_true h; omega

theorem lt2_trans' (d : Nat) : ∀ i j k, n - i = d → lt2 n c r i j = true → lt2 n c r j k = true → lt2 n c r i k = true := by
  induction d with
  | zero =>
    intro i j k h h1 h2
    rw [lt2_end (by omega)]; exact decide_eq_true (lt2_in h2)
  | succ d ih =>
    intro i j k h h1 h2
    have hi : i < n := by omega
    have hj := lt2_in h1
    have hk := lt2_in h2
    have e1 := lt2_le hi h1
    have e2 := lt2_le hj h2
    by_cases e : c i = c k
    · have a : c i = c j := by omega
      have b : c j = c k := by omega
      cases hs : sm n c i <;> cases ht : sm n c j <;> cases hu : sm n c k
      · rw [lt2_bb hi hj a hs ht] at h1; rw [lt2_bb hj hk b ht hu] at h2
        rw [lt2_bb hi hk e hs hu]; exact ih _ _ _ (by omega) h1 h2
      · exact lt2_bs hi hk e hs hu
      · rw [lt2_sb hj hk b ht hu] at h2; cases h2
      · exact lt2_bs hi hk e hs hu
      · rw [lt2_sb hi hj a hs ht] at h1; cases h1
      · rw [lt2_sb hi hj a hs ht] at h1; cases h1
      · rw [lt2_sb hj hk b ht hu] at h2; cases h2
      · rw [lt2_ss hi hj a hs ht] at h1; rw [lt2_ss hj hk b ht hu] at h2
        rw [lt2_ss hi hk e hs hu]
        have := of_decide_eq_true h1; have := of_decide_eq_true h2
        exact decide_eq_true (by omega)
    · rw [lt2_ne hi hk e]; exact decide_eq_true (by omega)
theorem lt2_trans {i j k : Nat} (h1 : lt2 n c r i j = true) (h2 : lt2 n c r j k = true) : lt2 n c r i k = true := lt2_trans' _ i j k rfl h1 h2
theorem lt3_trans' (d : Nat) : ∀ i j k, n - i = d → lt3 n c r i j = true → lt3 n c r j k = true → lt3 n c r i k = true := by
  induction d with
  | zero =>
    intro i j k h h1 h2
    rw [lt3_end (by omega)]; exact decide_eq_true (lt3_in h2)
  | succ d ih =>
    intro i j k h h1 h2
    have hi : i < n := by omega
    have hj := lt3_in h1
    have hk := lt3_in h2
    have e1 := lt3_le hi h1
    have e2 := lt3_le hj h2
    by_cases e : c i = c k
    · have a : c i = c j := by omega
      have b : c j = c k := by omega
      cases hs : sm n c i <;> cases ht : sm n c j <;> cases hu : sm n c k
      · rw [lt3_bb hi hj a hs ht] at h1; rw [lt3_bb hj hk b ht hu] at h2
        rw [lt3_bb hi hk e hs hu]; exact lt2_trans h1 h2
      · exact lt3_bs hi hk e hs hu
      · rw [lt3_sb hj hk b ht hu] at h2; cases h2
      · exact lt3_bs hi hk e hs hu
      · rw [lt3_sb hi hj a hs ht] at h1; cases h1
      · rw [lt3_sb hi hj a hs ht] at h1; cases h1
      · rw [lt3_sb hj hk b ht hu] at h2; cases h2
      · rw [lt3_ss hi hj a hs ht] at h1; rw [lt3_ss hj hk b ht hu] at h2
        rw [lt3_ss hi hk e hs hu]; exact ih _ _ _ (by omega) h1 h2
    · rw [lt3_ne hi hk e]; exact decide_eq_true (by omega)
theorem lt3_trans {i j k : Nat} (h1 : lt3 n c r i j = true) (h2 : lt3 n c r j k = true) : lt3 n c r i k = true := lt3_trans' _ i j k rfl h1 h2

/-- What the second pass scans: the end, those that are not small, the turns. -/
def InA (n : Nat) (c : Nat → Int) (i : Nat) : Prop := i ≤ n ∧ (i < n → sm n c i = true → trn n c i = true)
theorem InA.next {i : Nat} (hi : i < n) (h : sm n c i = false) : InA n c (i + 1) := by
  refine ⟨by omega, fun h1 h2 => ?_⟩
  rcases next_big hi h with a | a | a
  · omega
  · rw [a] at h2; cases h2
  · exact a
theorem InA.turn {i : Nat} (h : trn n c i = true) : InA n c i := ⟨by have := sm_lt (trn_iff.1 h).2.1; omega, fun _ _ => h⟩




/-! ### where all stand -/
def rk3 (n : Nat) (c : Nat → Int) (r : Nat → Nat) (i : Nat) : Nat := cn n (fun j => lt3 n c r j i)
def fr (n : Nat) (c : Nat → Int) (v : Int) : Nat := cn n (fun j => decide (c j < v))
def tov (n : Nat) (c : Nat → Int) (v : Int) : Nat := cn n (fun j => decide (c j ≤ v))
/-- How many turns of t's number stand from t on in the order. -/
def tl (n : Nat) (c : Nat → Int) (r : Nat → Nat) (t : Nat) : Nat := cn n (fun u => trn n c u && (decide (c u = c t) && decide (r t ≤ r u)))
def loc2 (n : Nat) (c : Nat → Int) (r : Nat → Nat) (i : Nat) : Nat := if sm n c i then tov n c (c i) - tl n c r i else rk3 n c r i


end
end Go.Proofs.Ytgnhangjacdfbaa.SM
end

section
/- Plain mathematics for inducing: an order of the turns that is their suffixes' own induces the suffixes' own order; names of pieces; the shorter list. No program is in sight. -/
namespace Go.Proofs.Ytgnhangjacdfbaa.SM
section
variable {n : Nat} {c : Nat → Int} {r : Nat → Nat}


theorem slt_ne {i j : Nat} (hi : i < n) (hj : j < n) (h : c i ≠ c j) : slt n c i j = decide (c i < c j) := by
  rw [Bool.eq_iff_iff, slt_in hi hj]; simp; omega
theorem slt_eq {i j : Nat} (hi : i < n) (hj : j < n) (h : c i = c j) : slt n c i j = slt n c (i + 1) (j + 1) := by
  rw [Bool.eq_iff_iff, slt_in hi hj]
  exact ⟨fun h1 => h1.elim (fun h2 => by omega) (fun h2 => h2.2), fun h1 => .inr ⟨h, h1⟩⟩
theorem slt_endb {i j : Nat} (hi : n ≤ i) : slt n c i j = decide (j < n) := by
  rw [Bool.eq_iff_iff, slt_end hi]; simp



/-! ### pieces -/
theorem eq2_in {i j : Nat} (hi : i < n) : eq2 n c i j = true ↔ j < n ∧ c i = c j ∧ sm n c i = sm n c j ∧ (sm n c i = false → eq2 n c (i + 1) (j + 1) = true) := by
  rw [eq2, dif_pos hi]
  by_cases h : j < n ∧ c i = c j
  · rw [if_pos h]; cases sm n c i <;> cases sm n c j <;> simp [h.1, h.2]
  · rw [if_neg h]; simp; intro h1 h2; exact absurd ⟨h1, h2⟩ h
theorem eq2_out {i j : Nat} (hi : n ≤ i) : eq2 n c i j = false := by rw [eq2, dif_neg (by omega)]
theorem eq3_in {i j : Nat} (hi : i < n) : eq3 n c i j = true ↔ j < n ∧ c i = c j ∧ sm n c i = sm n c j ∧ (sm n c i = true → eq3 n c (i + 1) (j + 1) = true) ∧ (sm n c i = false → eq2 n c (i + 1) (j + 1) = true) := by
  rw [eq3, dif_pos hi]
  by_cases h : j < n ∧ c i = c j
  · rw [if_pos h]; cases sm n c i <;> cases sm n c j <;> simp [h.1, h.2]
  · rw [if_neg h]; simp; intro h1 h2; exact absurd ⟨h1, h2⟩ h
theorem eq3_out {i j : Nat} (hi : n ≤ i) : eq3 n c i j = false := by rw [eq3, dif_neg (by omega)]

theorem eq2_symm' (d : Nat) : ∀ i j, n - i = d → eq2 n c i j = true → eq2 n c j i = true := by
  induction d with
  | zero => intro i j h h1; rw [eq2_out (by omega)] at h1; cases h1
  | succ d ih =>
    intro i j h h1
    obtain ⟨a, b, e, f⟩ := (eq2_in (by omega)).1 h1
    exact (eq2_in a).2 ⟨by omega, b.symm, e.symm, fun g => ih _ _ (by omega) (f (by rw [e]; exact g))⟩
theorem eq2_symm (i j : Nat) : eq2 n c i j = eq2 n c j i := by
  rw [Bool.eq_iff_iff]; exact ⟨eq2_symm' _ i j rfl, eq2_symm' _ j i rfl⟩
theorem eq3_symm' (d : Nat) : ∀ i j, n - i = d → eq3 n c i j = true → eq3 n c j i = true := by
  induction d with
  | zero => intro i j h h1; rw [eq3_out (by omega)] at h1; cases h1
  | succ d ih =>
    intro i j h h1
    obtain ⟨a, b, e, f, g⟩ := (eq3_in (by omega)).1 h1
    exact (eq3_in a).2 ⟨by omega, b.symm, e.symm, fun z => ih _ _ (by omega) (f (by rw [e]; exact z)), fun z => by rw [eq2_symm]; exact g (by rw [e]; exact z)⟩
theorem eq3_symm (i j : Nat) : eq3 n c i j = eq3 n c j i := by
  rw [Bool.eq_iff_iff]; exact ⟨eq3_symm' _ i j rfl, eq3_symm' _ j i rfl⟩

/-- Where the pieces are unlike, the two orders agree. -/
theorem eq2_unlike' (d : Nat) : ∀ i j, n - i = d → eq2 n c i j = false → lt2 n c r i j = slt n c i j := by
  induction d with
  | zero => intro i j h _; rw [lt2_end (by omega), slt_endb (by omega)]
  | succ d ih =>
    intro i j h he
    have hi' : i < n := by omega
    rcases Nat.lt_or_ge j n with hj' | hj'
    · by_cases e : c i = c j
      · cases hs : sm n c i <;> cases ht : sm n c j
        · rw [lt2_bb hi' hj' e hs ht, slt_eq hi' hj' e]
          refine ih _ _ (by omega) ?_
          cases h2 : eq2 n c (i + 1) (j + 1) with
          | false => rfl
          | true => rw [(eq2_in hi').2 ⟨hj', e, by rw [hs, ht], fun _ => h2⟩] at he; cases he
        · rw [lt2_bs hi' hj' e hs ht, big_lt_small hi' hj' e hs ht]
        · rw [lt2_sb hi' hj' e hs ht, slt_asymm (big_lt_small hj' hi' e.symm ht hs)]
        · rw [(eq2_in hi').2 ⟨hj', e, by rw [hs, ht], (fun h2 => by rw [hs] at h2; cases h2)⟩] at he; cases he
      · rw [lt2_ne hi' hj' e, slt_ne hi' hj' e]
    · rw [lt2_to_end hj', slt_to_end hj']
theorem eq3_unlike' (d : Nat) : ∀ i j, n - i = d → eq3 n c i j = false → lt3 n c r i j = slt n c i j := by
  induction d with
  | zero => intro i j h _; rw [lt3_end (by omega), slt_endb (by omega)]
  | succ d ih =>
    intro i j h he
    have hi' : i < n := by omega
    rcases Nat.lt_or_ge j n with hj' | hj'
    · by_cases e : c i = c j
      · cases hs : sm n c i <;> cases ht : sm n c j
        · rw [lt3_bb hi' hj' e hs ht, slt_eq hi' hj' e]
          refine eq2_unlike' _ _ _ rfl ?_
          cases h2 : eq2 n c (i + 1) (j + 1) with
          | false => rfl
          | true => rw [(eq3_in hi').2 ⟨hj', e, by rw [hs, ht], (fun h3 => by rw [hs] at h3; cases h3), fun _ => h2⟩] at he; cases he
        · rw [lt3_bs hi' hj' e hs ht, big_lt_small hi' hj' e hs ht]
        · rw [lt3_sb hi' hj' e hs ht, slt_asymm (big_lt_small hj' hi' e.symm ht hs)]
        · rw [lt3_ss hi' hj' e hs ht, slt_eq hi' hj' e]
          refine ih _ _ (by omega) ?_
          cases h2 : eq3 n c (i + 1) (j + 1) with
          | false => rfl
          | true => rw [(eq3_in hi').2 ⟨hj', e, by rw [hs, ht], fun _ => h2, (fun h3 => by rw [hs] at h3; cases h3)⟩] at he; cases he
      · rw [lt3_ne hi' hj' e, slt_ne hi' hj' e]
    · rw [lt3_to_end hj', slt_to_end hj']
theorem eq3_unlike {i j : Nat} (h : eq3 n c i j = false) : lt3 n c r i j = slt n c i j := eq3_unlike' _ i j rfl h

/-- Two alike stand to any third one alike. -/
theorem eq2_trade' (d : Nat) : ∀ i k j, n - i = d → eq2 n c i k = true → eq2 n c i j = eq2 n c k j ∧ (eq2 n c i j = false → slt n c i j = slt n c k j) := by
  induction d with
  | zero => intro i k j h h1; rw [eq2_out (by omega)] at h1; cases h1
  | succ d ih =>
    intro i k j h h1
    have hi : i < n := by omega
    obtain ⟨hk, e, s, f⟩ := (eq2_in hi).1 h1
    rcases Nat.lt_or_ge j n with hj | hj
    · by_cases a : c i = c j
      · cases hs : sm n c i with
        | false =>
          have hk' : sm n c k = false := by rw [← s]; exact hs
          have h2 := ih _ _ (j + 1) (by omega) (f hs)
          constructor
          · rw [Bool.eq_iff_iff, eq2_in hi, eq2_in hk, hs, hk', h2.1, e]
          · intro h3
            rw [slt_eq hi hj a, slt_eq hk hj (by omega)]
            cases ht : sm n c j with
            | false =>
              refine h2.2 ?_
              cases h4 : eq2 n c (i + 1) (j + 1) with
              | false => rfl
              | true => rw [(eq2_in hi).2 ⟨hj, a, by rw [hs, ht], fun _ => h4⟩] at h3; cases h3
            | true =>
              have h5 := big_lt_small hi hj a hs ht
              have h6 := big_lt_small hk hj (by omega) hk' ht
              rw [slt_eq hi hj a] at h5; rw [slt_eq hk hj (by omega)] at h6
              rw [h5, h6]
        | true =>
          have hk' : sm n c k = true := by rw [← s]; exact hs
          constructor
          · rw [Bool.eq_iff_iff, eq2_in hi, eq2_in hk, hs, hk', e]; simp
          · intro h3
            cases ht : sm n c j with
            | false =>
              rw [slt_asymm (big_lt_small hj hi a.symm ht hs), slt_asymm (big_lt_small hj hk (by omega) ht hk')]
            | true => rw [(eq2_in hi).2 ⟨hj, a, by rw [hs, ht], (fun h4 => by rw [hs] at h4; cases h4)⟩] at h3; cases h3
      · constructor
        · rw [Bool.eq_iff_iff, eq2_in hi, eq2_in hk]
          exact ⟨fun h2 => absurd h2.2.1 a, fun h2 => absurd (e.trans h2.2.1) a⟩
        · intro _; rw [slt_ne hi hj a, slt_ne hk hj (by omega), e]
    · constructor
      · rw [Bool.eq_iff_iff, eq2_in hi, eq2_in hk]; omega
      · intro _; rw [slt_to_end hj, slt_to_end hj]
theorem eq3_trade' (d : Nat) : ∀ i k j, n - i = d → eq3 n c i k = true → eq3 n c i j = eq3 n c k j ∧ (eq3 n c i j = false → slt n c i j = slt n c k j) := by
  induction d with
  | zero => intro i k j h h1; rw [eq3_out (by omega)] at h1; cases h1
  | succ d ih =>
    intro i k j h h1
    have hi : i < n := by omega
    obtain ⟨hk, e, s, f, g⟩ := (eq3_in hi).1 h1
    rcases Nat.lt_or_ge j n with hj | hj
    · by_cases a : c i = c j
      · cases hs : sm n c i with
        | false =>
          have hk' : sm n c k = false := by rw [← s]; exact hs
          have h2 := eq2_trade' _ _ _ (j + 1) rfl (g hs)
          constructor
          · rw [Bool.eq_iff_iff, eq3_in hi, eq3_in hk, hs, hk', h2.1, e]; simp
          · intro h3
            rw [slt_eq hi hj a, slt_eq hk hj (by omega)]
            cases ht : sm n c j with
            | false =>
              refine h2.2 ?_
              cases h4 : eq2 n c (i + 1) (j + 1) with
              | false => rfl
              | true => rw [(eq3_in hi).2 ⟨hj, a, by rw [hs, ht], (fun h5 => by rw [hs] at h5; cases h5), fun _ => h4⟩] at h3; cases h3
            | true =>
              have h5 := big_lt_small hi hj a hs ht
              have h6 := big_lt_small hk hj (by omega) hk' ht
              rw [slt_eq hi hj a] at h5; rw [slt_eq hk hj (by omega)] at h6
              rw [h5, h6]
        | true =>
          have hk' : sm n c k = true := by rw [← s]; exact hs
          have h2 := ih _ _ (j + 1) (by omega) (f hs)
          constructor
          · rw [Bool.eq_iff_iff, eq3_in hi, eq3_in hk, hs, hk', h2.1, e]; simp
          · intro h3
            cases ht : sm n c j with
            | false =>
              rw [slt_asymm (big_lt_small hj hi a.symm ht hs), slt_asymm (big_lt_small hj hk (by omega) ht hk')]
            | true =>
              rw [slt_eq hi hj a, slt_eq hk hj (by omega)]
              refine h2.2 ?_
              cases h4 : eq3 n c (i + 1) (j + 1) with
              | false => rfl
              | true => rw [(eq3_in hi).2 ⟨hj, a, by rw [hs, ht], fun _ => h4, (fun h5 => by rw [hs] at h5; cases h5)⟩] at h3; cases h3
      · constructor
        · rw [Bool.eq_iff_iff, eq3_in hi, eq3_in hk]
          exact ⟨fun h2 => absurd h2.2.1 a, fun h2 => absurd (e.trans h2.2.1) a⟩
        · intro _; rw [slt_ne hi hj a, slt_ne hk hj (by omega), e]
    · constructor
      · rw [Bool.eq_iff_iff, eq3_in hi, eq3_in hk]; omega
      · intro _; rw [slt_to_end hj, slt_to_end hj]
theorem eq3_trade {i k : Nat} (j : Nat) (h : eq3 n c i k = true) : eq3 n c i j = eq3 n c k j ∧ (eq3 n c i j = false → slt n c i j = slt n c k j) := eq3_trade' _ i k j rfl h


/-! ### names -/
/-- Turns in the row's order have names that go on by one where the piece is another one. -/
structure Named (n : Nat) (c : Nat → Int) (r : Nat → Nat) (m : Nat) (o : Nat → Nat) (nm : Nat → Int) : Prop where
  turn : ∀ a, a < m → trn n c (o a) = true
  sorted : ∀ a, a + 1 < m → lt3 n c r (o a) (o (a + 1)) = true
  step : ∀ a, a + 1 < m → nm (o (a + 1)) = nm (o a) + (if eq3 n c (o a) (o (a + 1)) then 0 else 1)

theorem Named.lt {m : Nat} {o : Nat → Nat} {nm : Nat → Int} (h : Named n c r m o nm) (d : Nat) : ∀ a, a + d + 1 < m → lt3 n c r (o a) (o (a + d + 1)) = true := by
  induction d with
  | zero => intro a ha; exact h.sorted a ha
  | succ d ih => intro a ha; exact lt3_trans (ih a (by omega)) (h.sorted (a + d + 1) (by omega))
/-- Two have one name just if their pieces are alike; else names are as the suffixes. -/
theorem Named.pair {m : Nat} {o : Nat → Nat} {nm : Nat → Int} (h : Named n c r m o nm) (d : Nat) : ∀ a, a + d + 1 < m →
    (eq3 n c (o a) (o (a + d + 1)) = true → nm (o a) = nm (o (a + d + 1))) ∧ (eq3 n c (o a) (o (a + d + 1)) = false → nm (o a) < nm (o (a + d + 1)) ∧ slt n c (o a) (o (a + d + 1)) = true) := by
  induction d with
  | zero =>
    intro a ha
    have h1 := h.step a (by omega)
    have h2 := h.sorted a (by omega)
    constructor
    · intro he; rw [if_pos he] at h1; rw [Nat.add_zero]; omega
    · intro he; rw [Nat.add_zero] at *; rw [if_neg (by rw [he]; simp)] at h1
      exact ⟨by omega, by rw [← eq3_unlike (r := r) he]; exact h2⟩
  | succ d ih =>
    intro a ha
    obtain ⟨g1, g2⟩ := ih a (by omega)
    have h1 := h.step (a + d + 1) (by omega)
    have h2 := h.sorted (a + d + 1) (by omega)
    have h3 := h.lt (d + 1) a (by omega)
    have h4 := h.lt d a (by omega)
    rw [show a + (d + 1) + 1 = a + d + 1 + 1 by omega] at *
    constructor
    · intro he
      cases hb : eq3 n c (o (a + d + 1)) (o (a + d + 1 + 1)) with
      | true =>
        rw [if_pos hb] at h1
        have t := (eq3_trade (o a) hb).1
        rw [eq3_symm (o (a + d + 1 + 1)), he, eq3_symm] at t
        have := g1 t; omega
      | false =>
        exfalso
        have s1 : slt n c (o (a + d + 1)) (o (a + d + 1 + 1)) = true := by rw [← eq3_unlike (r := r) hb]; exact h2
        have t := eq3_trade (o (a + d + 1)) he
        have t1 : eq3 n c (o a) (o (a + d + 1)) = false := by rw [t.1, eq3_symm]; exact hb
        have t2 := t.2 t1
        rw [slt_asymm s1, ← eq3_unlike (r := r) t1, h4] at t2
        cases t2
    · intro he
      have hs : slt n c (o a) (o (a + d + 1 + 1)) = true := by rw [← eq3_unlike (r := r) he]; exact h3
      refine ⟨?_, hs⟩
      cases hb : eq3 n c (o (a + d + 1)) (o (a + d + 1 + 1)) with
      | true =>
        rw [if_pos hb] at h1
        have t := (eq3_trade (o a) hb).1
        rw [eq3_symm (o (a + d + 1 + 1)), he, eq3_symm] at t
        have := (g2 t).1; omega
      | false =>
        rw [if_neg (by rw [hb]; simp)] at h1
        cases ha2 : eq3 n c (o a) (o (a + d + 1)) with
        | true => have := g1 ha2; omega
        | false => have := (g2 ha2).1; omega

/-- What names tell of any two turns. -/
def Names (n : Nat) (c : Nat → Int) (nm : Nat → Int) : Prop := ∀ t u, trn n c t = true → trn n c u = true → t ≠ u →
  (nm t < nm u → slt n c t u = true) ∧ (nm t = nm u → eq3 n c t u = true)
theorem Named.names {m : Nat} {o : Nat → Nat} {nm : Nat → Int} (h : Named n c r m o nm) (hall : ∀ t, trn n c t = true → ∃ a, a < m ∧ o a = t) : Names n c nm := by
  intro t u ht hu hne
  obtain ⟨a, ha, rfl⟩ := hall t ht
  obtain ⟨b, hb, rfl⟩ := hall u hu
  rcases Nat.lt_trichotomy a b with hab | hab | hab
  · obtain ⟨g1, g2⟩ := h.pair (b - a - 1) a (by omega)
    rw [show a + (b - a - 1) + 1 = b by omega] at g1 g2
    cases he : eq3 n c (o a) (o b) with
    | true => exact ⟨fun h1 => by have := g1 he; omega, fun _ => rfl⟩
    | false => exact ⟨fun _ => (g2 he).2, fun h1 => by have := (g2 he).1; omega⟩
  · subst hab; exact absurd rfl hne
  · obtain ⟨g1, g2⟩ := h.pair (a - b - 1) b (by omega)
    rw [show b + (a - b - 1) + 1 = a by omega] at g1 g2
    cases he : eq3 n c (o b) (o a) with
    | true => exact ⟨fun h1 => by have := g1 he; omega, fun _ => by rw [eq3_symm]; exact he⟩
    | false => exact ⟨fun h1 => by have := (g2 he).1; omega, fun h1 => by have := (g2 he).1; omega⟩

/-- The turns, rising. -/
structure Turns (n : Nat) (c : Nat → Int) (m : Nat) (T : Nat → Nat) : Prop where
  turn : ∀ a, a < m → trn n c (T a) = true
  rise : ∀ a b, a < b → b < m → T a < T b
  all : ∀ t, trn n c t = true → ∃ a, a < m ∧ T a = t

theorem Turns.next {m : Nat} {T : Nat → Nat} (h : Turns n c m T) {a e : Nat} (ha : a < m) (he : 0 < e) (ht : trn n c (T a + e) = true) (hno : ∀ q, 0 < q → q < e → trn n c (T a + q) = false) : a + 1 < m ∧ T (a + 1) = T a + e := by
  obtain ⟨b, hb, hbe⟩ := h.all _ ht
  have hab : a < b := by
    rcases Nat.lt_or_ge a b with h1 | h1
    · exact h1
    · rcases Nat.lt_or_eq_of_le h1 with h2 | h2
      · have := h.rise b a h2 ha; omega
      · subst h2; omega
  refine ⟨by omega, ?_⟩
  have h1 := h.rise a (a + 1) (by omega) (by omega)
  have h2 : T (a + 1) ≤ T b := by
    rcases Nat.lt_or_eq_of_le (show a + 1 ≤ b by omega) with h3 | h3
    · exact Nat.le_of_lt (h.rise _ _ h3 hb)
    · rw [h3]; exact Nat.le_refl _
  rcases Nat.lt_or_ge (T (a + 1)) (T a + e) with h3 | h3
  · have h4 := hno (T (a + 1) - T a) (by omega) (by omega)
    rw [show T a + (T (a + 1) - T a) = T (a + 1) by omega, h.turn (a + 1) (by omega)] at h4
    cases h4
  · omega

end
end Go.Proofs.Ytgnhangjacdfbaa.SM
end

section
/- The printed functions of package sais against the plain mathematics: types, turns, check, buckets. -/
namespace Go.Proofs.Ytgnhangjacdfbaa.SD
open Go.RowKit Go.Proofs.Ytgnhangjacdfbaa.X Go.Proofs.Ytgnhangjacdfbaa.SM Go.Proofs.YtgnhangjacdfbaaW.PrintWords Go.Proofs.YtgnhangjacdfbaaW.PrintLast

/-- The q-th number. -/
def ch (s : List Int) (q : Nat) : Int := s.getD q 0
def tyl (s : List Int) : List Bool := (List.range s.length).map (sm s.length (ch s))
/-- The turns, rising. -/
def tul (s : List Int) : List Int := ((List.range s.length).filter (trn s.length (ch s))).map (fun i : Nat => (i : Int))

theorem rd_nat (s : List Int) (q : Nat) : rd s (q : Int) = ch s q := by unfold rd ch; rw [Int.toNat_natCast]
theorem rdB_nat (t : List Bool) (q : Nat) : rdOf false t (q : Int) = t.getD q false := by unfold rdOf; rw [Int.toNat_natCast]
theorem getD_set {α : Type} (t : List α) (q j : Nat) (v d : α) (h : q < t.length) : (t.set q v).getD j d = if q = j then v else t.getD j d := by
  rw [List.getD_eq_getElem?_getD, List.getD_eq_getElem?_getD, List.getElem?_set]
  by_cases e : q = j
  · rw [if_pos e, if_pos e, if_pos h]; rfl
  · rw [if_neg e, if_neg e]
theorem tyl_length (s : List Int) : (tyl s).length = s.length := by unfold tyl; simp
theorem tyl_get {s : List Int} {q : Nat} (h : q < s.length) : (tyl s).getD q false = sm s.length (ch s) q := by
  unfold tyl
  rw [List.getD_eq_getElem?_getD, List.getElem?_map, List.getElem?_range h]; rfl
theorem tyl_ext {s : List Int} {t : List Bool} (hl : t.length = s.length) (h : ∀ q, q < s.length → t.getD q false = sm s.length (ch s) q) : t = tyl s := by
  apply List.ext_getElem?
  intro q
  rcases Nat.lt_or_ge q s.length with hq | hq
  · have h1 := h q hq
    have h2 := tyl_get hq
    rw [List.getD_eq_getElem?_getD] at h1 h2
    have e1 : t[q]? = some t[q] := List.getElem?_eq_getElem (by omega)
    have hq2 : q < (tyl s).length := by rw [tyl_length]; exact hq
    have e2 : (tyl s)[q]? = some (tyl s)[q] := List.getElem?_eq_getElem hq2
    rw [e1] at h1 ⊢; rw [e2] at h2 ⊢
    simp only [Option.getD_some] at h1 h2
    rw [h1, h2]
  · rw [List.getElem?_eq_none (by omega), List.getElem?_eq_none (by rw [tyl_length]; exact hq)]

theorem w64 {x : Int} (h1 : -9223372036854775808 ≤ x) (h2 : x ≤ 9223372036854775807) : wrap64 x = x := by unfold wrap64; omega

theorem types_neg (k : Nat) (s : List Int) (i : Int) (t : List Bool) (h : i < 0) : sais_Types.l0 (k + 1) s i t = some t := by
  rw [sais_Types.l0]; rw [if_neg (by omega)]
theorem types_loop (s : List Int) (hs : s.length ≤ 140737488351328) (q : Nat) : ∀ (t : List Bool), q + 1 < s.length → t.length = s.length →
    (∀ j, q < j → j < s.length → t.getD j false = sm s.length (ch s) j) → ∀ k, sais_Types.l0 (k + q + 2) s (q : Int) t = some (tyl s) := by
  induction q with
  | zero =>
    intro t hq ht hi k
    have w1 : wrap64 ((0 : Nat) + 1 : Int) = ((1 : Nat) : Int) := by rw [w64 (by omega) (by omega)]; rfl
    have w2 : wrap64 (((0 : Nat) : Int) - 1) = -1 := by rw [w64 (by omega) (by omega)]; rfl
    rw [show k + 0 + 2 = (k + 1) + 1 from rfl, sais_Types.l0]
    rw [w1, w2, if_pos (by omega), if_pos (by omega), if_pos (by omega), if_pos (by omega), if_pos (by omega), rd_nat, rd_nat, rdB_nat]
    have hx : sm s.length (ch s) 0 = true ↔ ch s 0 < ch s 1 ∨ (ch s 0 = ch s 1 ∧ sm s.length (ch s) 1 = true) := sm_in (n := s.length) (c := ch s) (i := 0) hq
    have h1 := hi 1 (by omega) (by omega)
    have fin : ∀ v, v = sm s.length (ch s) 0 → (t.set (((0 : Nat) : Int)).toNat v) = tyl s := by
      intro v hv
      refine tyl_ext (by rw [List.length_set]; exact ht) (fun j hj => ?_)
      rw [Int.toNat_natCast, getD_set _ _ _ _ _ (by omega)]
      by_cases e : 0 = j
      · rw [if_pos e, ← e]; exact hv
      · rw [if_neg e]; exact hi j (by omega) hj
    by_cases a : ch s 0 < ch s 1
    · rw [if_pos a, if_pos (by omega), types_neg _ _ _ _ (by omega), fin true (hx.2 (.inl a)).symm]
    · rw [if_neg a]
      by_cases b : ch s 0 = ch s 1
      · rw [if_pos b, if_pos (by omega), if_pos (by omega), types_neg _ _ _ _ (by omega), fin _ ?_]
        rw [h1, Bool.eq_iff_iff, hx]
        exact ⟨fun h => .inr ⟨b, h⟩, fun h => h.elim (fun h2 => absurd h2 a) (fun h2 => h2.2)⟩
      · rw [if_neg b, if_pos (by omega), types_neg _ _ _ _ (by omega), fin false ?_]
        cases h2 : sm s.length (ch s) 0 with
        | false => rfl
        | true => exact absurd (hx.1 h2) (fun h => h.elim a (fun h3 => b h3.1))
  | succ q ih =>
    intro t hq ht hi k
    have w1 : wrap64 (((q + 1 : Nat) : Int) + 1) = ((q + 2 : Nat) : Int) := by rw [w64 (by omega) (by omega)]; omega
    have w2 : wrap64 (((q + 1 : Nat) : Int) - 1) = (q : Int) := by rw [w64 (by omega) (by omega)]; omega
    rw [show k + (q + 1) + 2 = (k + q + 2) + 1 by omega]
    rw [sais_Types.l0]
    rw [w1, w2, if_pos (by omega), if_pos (by omega), if_pos (by omega), if_pos (by omega), if_pos (by omega), rd_nat, rd_nat, rdB_nat]
    have hx : sm s.length (ch s) (q + 1) = true ↔ ch s (q + 1) < ch s (q + 2) ∨ (ch s (q + 1) = ch s (q + 2) ∧ sm s.length (ch s) (q + 2) = true) := sm_in (n := s.length) (c := ch s) (i := q + 1) hq
    have h1 := hi (q + 2) (by omega) (by omega)
    have fin : ∀ v, v = sm s.length (ch s) (q + 1) → ∀ k, sais_Types.l0 (k + q + 2) s (q : Int) (t.set (((q + 1 : Nat) : Int)).toNat v) = some (tyl s) := by
      intro v hv k
      refine ih _ (by omega) (by rw [List.length_set]; exact ht) (fun j hj hj2 => ?_) k
      rw [Int.toNat_natCast, getD_set _ _ _ _ _ (by omega)]
      by_cases e : q + 1 = j
      · rw [if_pos e, ← e]; exact hv
      · rw [if_neg e]; exact hi j (by omega) hj2
    by_cases a : ch s (q + 1) < ch s (q + 2)
    · rw [if_pos a, if_pos (by omega), fin true (hx.2 (.inl a)).symm]
    · rw [if_neg a]
      by_cases b : ch s (q + 1) = ch s (q + 2)
      · rw [if_pos b, if_pos (by omega), if_pos (by omega), fin _ ?_]
        rw [h1, Bool.eq_iff_iff, hx]
        exact ⟨fun h => .inr ⟨b, h⟩, fun h => h.elim (fun h2 => absurd h2 a) (fun h2 => h2.2)⟩
      · rw [if_neg b, if_pos (by omega), fin false ?_]
        cases h2 : sm s.length (ch s) (q + 1) with
        | false => rfl
        | true => exact absurd (hx.1 h2) (fun h => h.elim a (fun h3 => b h3.1))
/-- Types, of any numbers. -/
theorem types_f (s : List Int) (hs : s.length ≤ 140737488351328) (k : Nat) : sais_Types.f (k + s.length + 1) s = some (tyl s) := by
  unfold sais_Types.f
  rw [if_pos (by omega), if_pos (by omega)]
  rw [Int.toNat_natCast]
  have hr : (List.replicate s.length false).length = s.length := by simp
  have hg : ∀ j, (List.replicate s.length false).getD j false = false := by
    intro j; rw [List.getD_eq_getElem?_getD, List.getElem?_replicate]; split <;> rfl
  rcases Nat.lt_or_ge 1 s.length with h | h
  · have w : wrap64 ((s.length : Int) - 2) = ((s.length - 2 : Nat) : Int) := by rw [w64 (by omega) (by omega)]; omega
    rw [w]
    have := types_loop s hs (s.length - 2) (List.replicate s.length false) (by omega) hr (fun j h1 h2 => by
      rw [hg, sm_out (by omega)]) (k + 1)
    rw [show k + s.length + 1 = k + 1 + (s.length - 2) + 2 by omega]; exact this
  · have w : wrap64 ((s.length : Int) - 2) = (s.length : Int) - 2 := w64 (by omega) (by omega)
    rw [w, types_neg _ _ _ _ (by omega)]
    rw [tyl_ext hr (fun q hq => by rw [hg, sm_out (by omega)])]

theorem isTurn_f (s : List Int) (hs : s.length ≤ 140737488351328) (q : Nat) (hq : q < s.length) : sais_isTurn.f (tyl s) (q : Int) = some (trn s.length (ch s) q) := by
  unfold sais_isTurn.f
  by_cases h0 : 0 < q
  · have w : wrap64 ((q : Int) - 1) = ((q - 1 : Nat) : Int) := by rw [w64 (by omega) (by omega)]; omega
    rw [if_pos (by omega), if_pos (by omega), if_pos (by rw [tyl_length]; omega), w, rdB_nat, rdB_nat, tyl_get hq, tyl_get (q := q - 1) (by omega)]
    have ht : trn s.length (ch s) q = (sm s.length (ch s) q && !sm s.length (ch s) (q - 1)) := by unfold trn; simp [h0]
    by_cases a : sm s.length (ch s) q = true
    · rw [if_pos a, if_pos (by omega), if_pos (by rw [tyl_length]; omega), ht, a]; rfl
    · rw [if_neg a, ht]; simp only [Bool.not_eq_true] at a; rw [a]; rfl
  · rw [if_neg (by omega)]; unfold trn; simp [h0]

theorem range_succ_filter (P : Nat → Bool) (q : Nat) : (List.range (q + 1)).filter P = (List.range q).filter P ++ (if P q then [q] else []) := by
  rw [List.range_succ, List.filter_append]
  congr 1
  by_cases h : P q = true
  · simp [h]
  · simp [h]
theorem lms_loop (s : List Int) (hs : s.length ≤ 17592186044415) (d : Nat) : ∀ q, s.length - q = d → q ≤ s.length → ∀ k,
    sais_Lms.l0 (k + d + 1) (((List.range q).filter (trn s.length (ch s))).map (fun i : Nat => (i : Int))) (tyl s) (s.length : Int) (q : Int) = some (tul s) := by
  induction d with
  | zero =>
    intro q hd hq k
    rw [sais_Lms.l0]
    rw [if_neg (by omega)]
    obtain rfl : q = s.length := by omega
    rfl
  | succ d ih =>
    intro q hd hq k
    have w : wrap64 ((q : Int) + 1) = ((q + 1 : Nat) : Int) := by rw [w64 (by omega) (by omega)]; omega
    rw [show k + (d + 1) + 1 = (k + d + 1) + 1 by omega]
    rw [sais_Lms.l0]
    rw [if_pos (by omega), isTurn_f s (by omega) q (by omega), Option.bind_some, w]
    have h := ih (q + 1) (by omega) (by omega) k
    rw [range_succ_filter] at h
    have hl : (((List.range q).filter (trn s.length (ch s))).map (fun i : Nat => (i : Int))).length < 17592186044416 := by
      rw [List.length_map]
      have := List.length_filter_le (trn s.length (ch s)) (List.range q)
      rw [List.length_range] at this
      omega
    by_cases a : trn s.length (ch s) q = true
    · rw [if_pos a, if_pos hl]
      rw [if_pos a, List.map_append] at h
      exact h
    · rw [if_neg a]
      rw [if_neg a, List.append_nil] at h
      exact h
/-- Lms, of any numbers. -/
theorem lms_f (s : List Int) (hs : s.length ≤ 17592186044415) (k : Nat) : sais_Lms.f (k + s.length + 1) s = some (tul s) := by
  unfold sais_Lms.f
  rw [types_f s (by omega), Option.bind_some, tyl_length]
  have := lms_loop s hs s.length 0 (by omega) (by omega) k
  simpa using this


end Go.Proofs.Ytgnhangjacdfbaa.SD
end

section
/- The printed functions buckets and induce of package sais against the plain mathematics: what the passes make of any order of the turns. -/
namespace Go.Proofs.Ytgnhangjacdfbaa.SD
open Go.RowKit Go.Proofs.Ytgnhangjacdfbaa Go.Proofs.Ytgnhangjacdfbaa.X Go.Proofs.Ytgnhangjacdfbaa.SM Go.Proofs.YtgnhangjacdfbaaW.PrintWords Go.Proofs.YtgnhangjacdfbaaW.PrintLast


/-- How many numbers are v. -/
def cv (n : Nat) (c : Nat → Int) (v : Int) : Nat := cn n (fun j => decide (c j = v))


section
variable {k0 : Int} {s : List Int}
attribute [local irreducible] cn cv fr tov rk3 loc2 ch




/-! ### inducing -/
/-- o is an order of the turns; r tells where each stands in it. -/
structure Ord (s : List Int) (o : List Int) (r : Nat → Nat) : Prop where
  turn : ∀ a, a < o.length → ∃ t, trn s.length (ch s) t = true ∧ ch o a = (t : Int) ∧ r t = a
  all : ∀ t, trn s.length (ch s) t = true → r t < o.length ∧ ch o (r t) = (t : Int)
theorem trn_lt {n : Nat} {c : Nat → Int} {t : Nat} (h : trn n c t = true) : t + 1 < n := sm_lt (trn_iff.1 h).2.1

variable {o : List Int} {r : Nat → Nat}





end
end Go.Proofs.Ytgnhangjacdfbaa.SD
end

section
/- The printed function induce of package sais: whatever order of the turns is given, the row has all in the order that the passes make of it. -/
namespace Go.Proofs.Ytgnhangjacdfbaa.SD
open Go.RowKit Go.Proofs.Ytgnhangjacdfbaa Go.Proofs.Ytgnhangjacdfbaa.X Go.Proofs.Ytgnhangjacdfbaa.SM Go.Proofs.YtgnhangjacdfbaaW.PrintWords Go.Proofs.YtgnhangjacdfbaaW.PrintLast

theorem wp {x y : Int} (h : x = y) (h1 : -9223372036854775808 ≤ y) (h2 : y ≤ 9223372036854775807) : wrap64 x = y := by rw [h]; exact w64 h1 h2

section
variable {k0 : Int} {s : List Int} {o : List Int} {r : Nat → Nat}
attribute [local irreducible] cn cv fr tov rk3 loc2 ch







end
end Go.Proofs.Ytgnhangjacdfbaa.SD
end

section
/- The printed functions same, array and Array of package sais: the answer has all suffixes in their order. -/
namespace Go.Proofs.Ytgnhangjacdfbaa.SD
open Go.RowKit Go.Proofs.Ytgnhangjacdfbaa Go.Proofs.Ytgnhangjacdfbaa.X Go.Proofs.Ytgnhangjacdfbaa.SM Go.Proofs.YtgnhangjacdfbaaW.PrintWords Go.Proofs.YtgnhangjacdfbaaW.PrintLast

/-! ### the turns in the text's order -/
theorem filter_length (P : Nat → Bool) (n : Nat) : ((List.range n).filter P).length = cn n P := by
  induction n with
  | zero => rfl
  | succ n ih =>
    rw [range_succ_filter, List.length_append, ih, cn]
    by_cases h : P n = true
    · rw [if_pos h, if_pos h]; rfl
    · rw [if_neg h, if_neg h]; rfl
theorem cn_up {P : Nat → Bool} {m n : Nat} (h : m ≤ n) : cn m P ≤ cn n P := by
  induction n with
  | zero => obtain rfl : m = 0 := by omega
            exact Nat.le_refl _
  | succ n ih =>
    by_cases e : m = n + 1
    · rw [e]; exact Nat.le_refl _
    · have := ih (by omega)
      rw [cn]; omega
theorem cn_up_lt {P : Nat → Bool} {t n : Nat} (h : t < n) (hP : P t = true) : cn t P < cn n P := by
  have h1 := cn_up (P := P) (show t + 1 ≤ n by omega)
  rw [cn, if_pos hP] at h1; omega
theorem filter_get (P : Nat → Bool) (n : Nat) : ∀ t, t < n → P t = true → ((List.range n).filter P)[cn t P]? = some t := by
  induction n with
  | zero => intro t ht; omega
  | succ n ih =>
    intro t ht hP
    rw [range_succ_filter]
    by_cases e : t = n
    · subst e
      rw [List.getElem?_append_right (by rw [filter_length]; exact Nat.le_refl _), filter_length, Nat.sub_self, if_pos hP]; rfl
    · have := cn_up_lt (n := n) (by omega) hP
      rw [List.getElem?_append_left (by rw [filter_length]; exact this)]
      exact ih t (by omega) hP
theorem cn_find (P : Nat → Bool) (n : Nat) : ∀ a, a < cn n P → ∃ t, t < n ∧ P t = true ∧ cn t P = a := by
  induction n with
  | zero => intro a ha; rw [cn] at ha; omega
  | succ n ih =>
    intro a ha
    by_cases h : P n = true
    · rw [cn, if_pos h] at ha
      by_cases e : a = cn n P
      · exact ⟨n, by omega, h, e.symm⟩
      · obtain ⟨t, h1, h2, h3⟩ := ih a (by omega)
        exact ⟨t, by omega, h2, h3⟩
    · rw [cn, if_neg h] at ha
      obtain ⟨t, h1, h2, h3⟩ := ih a (by omega)
      exact ⟨t, by omega, h2, h3⟩

section
variable {k0 : Int} {s : List Int} {r : Nat → Nat}

theorem tul_length (s : List Int) : (tul s).length = cn s.length (trn s.length (ch s)) := by unfold tul; rw [List.length_map, filter_length]
theorem tul_get {t : Nat} (h : trn s.length (ch s) t = true) : ch (tul s) (cn t (trn s.length (ch s))) = (t : Int) := by
  unfold tul ch
  have h1 := trn_lt h
  rw [List.getD_eq_getElem?_getD, List.getElem?_map]
  have := filter_get (trn s.length (ch s)) s.length t (by omega) h
  unfold ch at this
  rw [this]; rfl
theorem tul_ord (s : List Int) : Ord s (tul s) (fun t => cn t (trn s.length (ch s))) := by
  refine ⟨fun a ha => ?_, fun t ht => ⟨?_, tul_get ht⟩⟩
  · rw [tul_length] at ha
    obtain ⟨t, _, h2, h3⟩ := cn_find _ _ a ha
    exact ⟨t, h2, by rw [← h3]; exact tul_get h2, h3⟩
  · rw [tul_length]; exact cn_up_lt (by have := trn_lt ht; omega) ht
/-- The a-th turn. -/
def T (s : List Int) (a : Nat) : Nat := (ch (tul s) a).toNat
theorem T_spec {a : Nat} (h : a < (tul s).length) : trn s.length (ch s) (T s a) = true ∧ ch (tul s) a = (T s a : Int) ∧ cn (T s a) (trn s.length (ch s)) = a := by
  obtain ⟨t, h1, h2, h3⟩ := (tul_ord s).turn a h
  have : T s a = t := by unfold T; rw [h2]; rfl
  rw [this]; exact ⟨h1, h2, h3⟩
theorem turns (s : List Int) : Turns s.length (ch s) (tul s).length (T s) := by
  refine ⟨fun a ha => (T_spec ha).1, fun a b hab hb => ?_, fun t ht => ?_⟩
  · have h1 := T_spec (s := s) (a := a) (by omega)
    have h2 := T_spec (s := s) (a := b) hb
    rcases Nat.lt_or_ge (T s a) (T s b) with h3 | h3
    · exact h3
    · have := cn_up (P := trn s.length (ch s)) h3; omega
  · have h1 := (tul_ord s).all t ht
    exact ⟨_, h1.1, by unfold T; rw [h1.2]; rfl⟩

/-! ### same -/
attribute [local irreducible] cn cv fr tov rk3 loc2 ch


end
end Go.Proofs.Ytgnhangjacdfbaa.SD
end

section
/- The printed functions array and Array of package sais: the answer has all suffixes in their order. -/
namespace Go.Proofs.Ytgnhangjacdfbaa.SD
open Go.RowKit Go.Proofs.Ytgnhangjacdfbaa Go.Proofs.Ytgnhangjacdfbaa.X Go.Proofs.Ytgnhangjacdfbaa.SM Go.Proofs.YtgnhangjacdfbaaW.PrintWords Go.Proofs.YtgnhangjacdfbaaW.PrintLast




section
variable {k0 : Int} {s : List Int} {r : Nat → Nat}
attribute [local irreducible] cn cv fr tov rk3 loc2 ch









end
end Go.Proofs.Ytgnhangjacdfbaa.SD
end
