/- Plain mathematics for inducing: the order that the passes make out of any order r of the turns, its ranks, when it is the suffixes' own order, and the pieces' names. No program is in sight. -/
import Derived.Test.YtphchkkicpnehaaSMa
namespace Go.Proofs.Ytphchkkicpnehaa.SM

/-- The order of what the second pass scans: by the number, not small ones ahead, turns by r, others by what stands behind them. -/
def lt2 (n : Nat) (c : Nat → Int) (r : Nat → Nat) (i j : Nat) : Bool :=
  if _h : i < n then
    if j < n then
      if c i = c j then
        if sm n c i then (if sm n c j then decide (r i < r j) else false)
        else (if sm n c j then true else lt2 n c r (i + 1) (j + 1))
      else decide (c i < c j)
    else false
  else decide (j < n)
termination_by n - i

/-- The order of the whole row. -/
def lt3 (n : Nat) (c : Nat → Int) (r : Nat → Nat) (i j : Nat) : Bool :=
  if _h : i < n then
    if j < n then
      if c i = c j then
        if sm n c i then (if sm n c j then lt3 n c r (i + 1) (j + 1) else false)
        else (if sm n c j then true else lt2 n c r (i + 1) (j + 1))
      else decide (c i < c j)
    else false
  else decide (j < n)
termination_by n - i

/-- Are two alike up to their next turns? -/
def eq2 (n : Nat) (c : Nat → Int) (i j : Nat) : Bool :=
  if _h : i < n then
    if j < n ∧ c i = c j then (if sm n c i then sm n c j else (if sm n c j then false else eq2 n c (i + 1) (j + 1))) else false
  else false
termination_by n - i
def eq3 (n : Nat) (c : Nat → Int) (i j : Nat) : Bool :=
  if _h : i < n then
    if j < n ∧ c i = c j then (if sm n c i then (if sm n c j then eq3 n c (i + 1) (j + 1) else false) else (if sm n c j then false else eq2 n c (i + 1) (j + 1))) else false
  else false
termination_by n - i

section
variable {n : Nat} {c : Nat → Int} {r : Nat → Nat}

theorem lt2_ne {i j : Nat} (hi : i < n) (hj : j < n) (h : c i ≠ c j) : lt2 n c r i j = decide (c i < c j) := by
  rw [lt2, dif_pos hi, if_pos hj, if_neg h]
theorem lt2_bb {i j : Nat} (hi : i < n) (hj : j < n) (h : c i = c j) (hs : sm n c i = false) (ht : sm n c j = false) : lt2 n c r i j = lt2 n c r (i + 1) (j + 1) := by
  rw [lt2, dif_pos hi, if_pos hj, if_pos h, hs, ht]; rfl
theorem lt2_bs {i j : Nat} (hi : i < n) (hj : j < n) (h : c i = c j) (hs : sm n c i = false) (ht : sm n c j = true) : lt2 n c r i j = true := by
  rw [lt2, dif_pos hi, if_pos hj, if_pos h, hs, ht]; rfl
theorem lt2_sb {i j : Nat} (hi : i < n) (hj : j < n) (h : c i = c j) (hs : sm n c i = true) (ht : sm n c j = false) : lt2 n c r i j = false := by
  rw [lt2, dif_pos hi, if_pos hj, if_pos h, hs, ht]; rfl
theorem lt2_ss {i j : Nat} (hi : i < n) (hj : j < n) (h : c i = c j) (hs : sm n c i = true) (ht : sm n c j = true) : lt2 n c r i j = decide (r i < r j) := by
  rw [lt2, dif_pos hi, if_pos hj, if_pos h, hs, ht]; rfl
theorem lt2_end {i j : Nat} (hi : n ≤ i) : lt2 n c r i j = decide (j < n) := by rw [lt2, dif_neg (by omega)]
theorem lt2_to_end {i j : Nat} (hj : n ≤ j) : lt2 n c r i j = false := by
  rw [lt2]; split
  · rw [if_neg (by omega)]
  · simp; omega
theorem lt3_ne {i j : Nat} (hi : i < n) (hj : j < n) (h : c i ≠ c j) : lt3 n c r i j = decide (c i < c j) := by
  rw [lt3, dif_pos hi, if_pos hj, if_neg h]
theorem lt3_bb {i j : Nat} (hi : i < n) (hj : j < n) (h : c i = c j) (hs : sm n c i = false) (ht : sm n c j = false) : lt3 n c r i j = lt2 n c r (i + 1) (j + 1) := by
  rw [lt3, dif_pos hi, if_pos hj, if_pos h, hs, ht]; rfl
theorem lt3_bs {i j : Nat} (hi : i < n) (hj : j < n) (h : c i = c j) (hs : sm n c i = false) (ht : sm n c j = true) : lt3 n c r i j = true := by
  rw [lt3, dif_pos hi, if_pos hj, if_pos h, hs, ht]; rfl
theorem lt3_sb {i j : Nat} (hi : i < n) (hj : j < n) (h : c i = c j) (hs : sm n c i = true) (ht : sm n c j = false) : lt3 n c r i j = false := by
  rw [lt3, dif_pos hi, if_pos hj, if_pos h, hs, ht]; rfl
theorem lt3_ss {i j : Nat} (hi : i < n) (hj : j < n) (h : c i = c j) (hs : sm n c i = true) (ht : sm n c j = true) : lt3 n c r i j = lt3 n c r (i + 1) (j + 1) := by
  rw [lt3, dif_pos hi, if_pos hj, if_pos h, hs, ht]; rfl
theorem lt3_end {i j : Nat} (hi : n ≤ i) : lt3 n c r i j = decide (j < n) := by rw [lt3, dif_neg (by omega)]
theorem lt3_to_end {i j : Nat} (hj : n ≤ j) : lt3 n c r i j = false := by
  rw [lt3]; split
  · rw [if_neg (by omega)]
  · simp; omega

theorem lt2_irr' (d : Nat) : ∀ i, n - i = d → lt2 n c r i i = false := by
  induction d with
  | zero => intro i h; exact lt2_to_end (by omega)
  | succ d ih =>
    intro i h
    cases hs : sm n c i with
    | true => rw [lt2_ss (by omega) (by omega) rfl hs hs]; simp
    | false => rw [lt2_bb (by omega) (by omega) rfl hs hs]; exact ih _ (by omega)
theorem lt2_irr (i : Nat) : lt2 n c r i i = false := lt2_irr' _ i rfl
theorem lt3_irr' (d : Nat) : ∀ i, n - i = d → lt3 n c r i i = false := by
  induction d with
  | zero => intro i h; exact lt3_to_end (by omega)
  | succ d ih =>
    intro i h
    cases hs : sm n c i with
    | true => rw [lt3_ss (by omega) (by omega) rfl hs hs]; exact ih _ (by omega)
    | false => rw [lt3_bb (by omega) (by omega) rfl hs hs]; exact lt2_irr _
theorem lt3_irr (i : Nat) : lt3 n c r i i = false := lt3_irr' _ i rfl

theorem lt2_in {i j : Nat} (h : lt2 n c r i j = true) : j < n := by
  rcases Nat.lt_or_ge j n with h1 | h1
  · exact h1
  · rw [lt2_to_end h1] at h; cases h
theorem lt3_in {i j : Nat} (h : lt3 n c r i j = true) : j < n := by
  rcases Nat.lt_or_ge j n with h1 | h1
  · exact h1
  · rw [lt3_to_end h1] at h; cases h
theorem lt2_le {i j : Nat} (hi : i < n) (h : lt2 n c r i j = true) : c i ≤ c j := by
  have hj := lt2_in h
  by_cases e : c i = c j
  · omega
  · rw [lt2_ne hi hj e] at h
    have := of_decide_eq_true h; omega
theorem lt3_le {i j : Nat} (hi : i < n) (h : lt3 n c r i j = true) : c i ≤ c j := by
  have hj := lt3_in h
  by_cases e : c i = c j
  · omega
  · rw [lt3_ne hi hj e] at h
    have := of_decide_eq_true h; omega

theorem lt2_trans' (d : Nat) : ∀ i j k, n - i = d → lt2 n c r i j = true → lt2 n c r j k = true → lt2 n c r i k = true := by
  induction d with
  | zero =>
    intro i j k h h1 h2
    rw [lt2_end (by omega)]; exact decide_eq_true (lt2_in h2)
  | succ d ih =>
    intro i j k h h1 h2
    have hi : i < n := by omega
    have hj := lt2_in h1
    have hk := lt2_in h2
    have e1 := lt2_le hi h1
    have e2 := lt2_le hj h2
    by_cases e : c i = c k
    · have a : c i = c j := by omega
      have b : c j = c k := by omega
      cases hs : sm n c i <;> cases ht : sm n c j <;> cases hu : sm n c k
      · rw [lt2_bb hi hj a hs ht] at h1; rw [lt2_bb hj hk b ht hu] at h2
        rw [lt2_bb hi hk e hs hu]; exact ih _ _ _ (by omega) h1 h2
      · exact lt2_bs hi hk e hs hu
      · rw [lt2_sb hj hk b ht hu] at h2; cases h2
      · exact lt2_bs hi hk e hs hu
      · rw [lt2_sb hi hj a hs ht] at h1; cases h1
      · rw [lt2_sb hi hj a hs ht] at h1; cases h1
      · rw [lt2_sb hj hk b ht hu] at h2; cases h2
      · rw [lt2_ss hi hj a hs ht] at h1; rw [lt2_ss hj hk b ht hu] at h2
        rw [lt2_ss hi hk e hs hu]
        have := of_decide_eq_true h1; have := of_decide_eq_true h2
        exact decide_eq_true (by omega)
    · rw [lt2_ne hi hk e]; exact decide_eq_true (by omega)
theorem lt2_trans {i j k : Nat} (h1 : lt2 n c r i j = true) (h2 : lt2 n c r j k = true) : lt2 n c r i k = true := lt2_trans' _ i j k rfl h1 h2
theorem lt3_trans' (d : Nat) : ∀ i j k, n - i = d → lt3 n c r i j = true → lt3 n c r j k = true → lt3 n c r i k = true := by
  induction d with
  | zero =>
    intro i j k h h1 h2
    rw [lt3_end (by omega)]; exact decide_eq_true (lt3_in h2)
  | succ d ih =>
    intro i j k h h1 h2
    have hi : i < n := by omega
    have hj := lt3_in h1
    have hk := lt3_in h2
    have e1 := lt3_le hi h1
    have e2 := lt3_le hj h2
    by_cases e : c i = c k
    · have a : c i = c j := by omega
      have b : c j = c k := by omega
      cases hs : sm n c i <;> cases ht : sm n c j <;> cases hu : sm n c k
      · rw [lt3_bb hi hj a hs ht] at h1; rw [lt3_bb hj hk b ht hu] at h2
        rw [lt3_bb hi hk e hs hu]; exact lt2_trans h1 h2
      · exact lt3_bs hi hk e hs hu
      · rw [lt3_sb hj hk b ht hu] at h2; cases h2
      · exact lt3_bs hi hk e hs hu
      · rw [lt3_sb hi hj a hs ht] at h1; cases h1
      · rw [lt3_sb hi hj a hs ht] at h1; cases h1
      · rw [lt3_sb hj hk b ht hu] at h2; cases h2
      · rw [lt3_ss hi hj a hs ht] at h1; rw [lt3_ss hj hk b ht hu] at h2
        rw [lt3_ss hi hk e hs hu]; exact ih _ _ _ (by omega) h1 h2
    · rw [lt3_ne hi hk e]; exact decide_eq_true (by omega)
theorem lt3_trans {i j k : Nat} (h1 : lt3 n c r i j = true) (h2 : lt3 n c r j k = true) : lt3 n c r i k = true := lt3_trans' _ i j k rfl h1 h2

/-- What the second pass scans: the end, those that are not small, the turns. -/
def InA (n : Nat) (c : Nat → Int) (i : Nat) : Prop := i ≤ n ∧ (i < n → sm n c i = true → trn n c i = true)
theorem InA.next {i : Nat} (hi : i < n) (h : sm n c i = false) : InA n c (i + 1) := by
  refine ⟨by omega, fun h1 h2 => ?_⟩
  rcases next_big hi h with a | a | a
  · omega
  · rw [a] at h2; cases h2
  · exact a
theorem InA.big {i : Nat} (hi : i < n) (h : sm n c i = false) : InA n c i := ⟨by omega, fun _ h2 => by rw [h] at h2; cases h2⟩
theorem InA.turn {i : Nat} (h : trn n c i = true) : InA n c i := ⟨by have := sm_lt (trn_iff.1 h).2.1; omega, fun _ _ => h⟩

/-- r tells the turns apart. -/
def Inj (n : Nat) (c : Nat → Int) (r : Nat → Nat) : Prop := ∀ t u, trn n c t = true → trn n c u = true → r t = r u → t = u

theorem lt2_total' (hr : Inj n c r) (d : Nat) : ∀ i j, n - i = d → InA n c i → InA n c j → i ≠ j → lt2 n c r i j = true ∨ lt2 n c r j i = true := by
  induction d with
  | zero =>
    intro i j h hi hj hne
    have := hi.1; have := hj.1
    left; rw [lt2_end (by omega)]; exact decide_eq_true (by omega)
  | succ d ih =>
    intro i j h hi hj hne
    have hi' : i < n := by omega
    rcases Nat.lt_or_ge j n with hj' | hj'
    · by_cases e : c i = c j
      · cases hs : sm n c i <;> cases ht : sm n c j
        · rw [lt2_bb hi' hj' e hs ht, lt2_bb hj' hi' e.symm ht hs]
          exact ih _ _ (by omega) (InA.next hi' hs) (InA.next hj' ht) (by omega)
        · left; exact lt2_bs hi' hj' e hs ht
        · right; exact lt2_bs hj' hi' e.symm ht hs
        · rw [lt2_ss hi' hj' e hs ht, lt2_ss hj' hi' e.symm ht hs]
          have := fun h => hne (hr i j (hi.2 hi' hs) (hj.2 hj' ht) h)
          rcases Nat.lt_trichotomy (r i) (r j) with a | a | a
          · left; exact decide_eq_true a
          · exact absurd a this
          · right; exact decide_eq_true a
      · rw [lt2_ne hi' hj' e, lt2_ne hj' hi' (Ne.symm e)]
        rcases Int.lt_or_gt_of_ne e with a | a
        · left; exact decide_eq_true a
        · right; exact decide_eq_true a
    · right; rw [lt2_end hj']; exact decide_eq_true hi'
theorem lt2_total (hr : Inj n c r) {i j : Nat} (hi : InA n c i) (hj : InA n c j) (hne : i ≠ j) : lt2 n c r i j = true ∨ lt2 n c r j i = true := lt2_total' hr _ i j rfl hi hj hne
theorem lt3_total' (hr : Inj n c r) (d : Nat) : ∀ i j, n - i = d → i ≤ n → j ≤ n → i ≠ j → lt3 n c r i j = true ∨ lt3 n c r j i = true := by
  induction d with
  | zero =>
    intro i j h hi hj hne
    left; rw [lt3_end (by omega)]; exact decide_eq_true (by omega)
  | succ d ih =>
    intro i j h hi hj hne
    have hi' : i < n := by omega
    rcases Nat.lt_or_ge j n with hj' | hj'
    · by_cases e : c i = c j
      · cases hs : sm n c i <;> cases ht : sm n c j
        · rw [lt3_bb hi' hj' e hs ht, lt3_bb hj' hi' e.symm ht hs]
          exact lt2_total hr (InA.next hi' hs) (InA.next hj' ht) (by omega)
        · left; exact lt3_bs hi' hj' e hs ht
        · right; exact lt3_bs hj' hi' e.symm ht hs
        · rw [lt3_ss hi' hj' e hs ht, lt3_ss hj' hi' e.symm ht hs]
          exact ih _ _ (by omega) (by omega) (by omega) (by omega)
      · rw [lt3_ne hi' hj' e, lt3_ne hj' hi' (Ne.symm e)]
        rcases Int.lt_or_gt_of_ne e with a | a
        · left; exact decide_eq_true a
        · right; exact decide_eq_true a
    · right; rw [lt3_end hj']; exact decide_eq_true hi'
theorem lt3_total (hr : Inj n c r) {i j : Nat} (hi : i ≤ n) (hj : j ≤ n) (hne : i ≠ j) : lt3 n c r i j = true ∨ lt3 n c r j i = true := lt3_total' hr _ i j rfl hi hj hne

/-- The one behind stands ahead of one that is not small. -/
theorem lt2_step' (d : Nat) : ∀ i, n - i = d → i < n → sm n c i = false → lt2 n c r (i + 1) i = true := by
  induction d with
  | zero => intro i h hi; omega
  | succ d ih =>
    intro i h hi hs
    rcases Nat.lt_or_ge (i + 1) n with h1 | h1
    · rcases sm_false hs h1 with a | ⟨a, b⟩
      · rw [lt2_ne h1 hi (by omega)]; exact decide_eq_true a
      · rw [lt2_bb h1 hi a.symm b hs]; exact ih _ (by omega) h1 b
    · rw [lt2_end h1]; exact decide_eq_true hi
theorem lt2_step {i : Nat} (hi : i < n) (h : sm n c i = false) : lt2 n c r (i + 1) i = true := lt2_step' _ i rfl hi h
theorem lt3_step' (d : Nat) : ∀ i, n - i = d → i < n → sm n c i = true → lt3 n c r i (i + 1) = true := by
  induction d with
  | zero => intro i h hi; omega
  | succ d ih =>
    intro i h hi hs
    have h1 := sm_lt hs
    rcases (sm_in h1).1 hs with a | ⟨a, b⟩
    · rw [lt3_ne hi h1 (by omega)]; exact decide_eq_true a
    · rw [lt3_ss hi h1 a hs b]; exact ih _ (by omega) h1 b
theorem lt3_step {i : Nat} (hi : i < n) (h : sm n c i = true) : lt3 n c r i (i + 1) = true := lt3_step' _ i rfl hi h
theorem lt3_big {i j : Nat} (hi : i < n) (hj : j < n) (hs : sm n c i = false) (ht : sm n c j = false) : lt3 n c r i j = lt2 n c r i j := by
  by_cases e : c i = c j
  · rw [lt3_bb hi hj e hs ht, lt2_bb hi hj e hs ht]
  · rw [lt3_ne hi hj e, lt2_ne hi hj e]

/-! ### where all stand -/
def rk3 (n : Nat) (c : Nat → Int) (r : Nat → Nat) (i : Nat) : Nat := cn n (fun j => lt3 n c r j i)
def fr (n : Nat) (c : Nat → Int) (v : Int) : Nat := cn n (fun j => decide (c j < v))
def tov (n : Nat) (c : Nat → Int) (v : Int) : Nat := cn n (fun j => decide (c j ≤ v))
def nb (n : Nat) (c : Nat → Int) (v : Int) : Nat := cn n (fun j => decide (c j = v) && !sm n c j)
def ns (n : Nat) (c : Nat → Int) (v : Int) : Nat := cn n (fun j => decide (c j = v) && sm n c j)
/-- How many turns of t's number stand from t on in the order. -/
def tl (n : Nat) (c : Nat → Int) (r : Nat → Nat) (t : Nat) : Nat := cn n (fun u => trn n c u && (decide (c u = c t) && decide (r t ≤ r u)))
def loc2 (n : Nat) (c : Nat → Int) (r : Nat → Nat) (i : Nat) : Nat := if sm n c i then tov n c (c i) - tl n c r i else rk3 n c r i

theorem rk3_lt {i : Nat} (hi : i < n) : rk3 n c r i < n := by
  have h := cn_lt (n := n) (P := fun j => lt3 n c r j i) (Q := fun _ => true) (fun _ _ _ => rfl) hi rfl (lt3_irr i)
  rw [cn_true (fun _ _ => rfl)] at h; exact h
theorem rk3_mono {i j : Nat} (hi : i < n) (h : lt3 n c r i j = true) : rk3 n c r i < rk3 n c r j :=
  cn_lt (fun _ _ hk => lt3_trans hk h) hi h (lt3_irr i)
theorem rk3_inj (hr : Inj n c r) {i j : Nat} (hi : i < n) (hj : j < n) (h : rk3 n c r i = rk3 n c r j) : i = j := by
  by_cases e : i = j
  · exact e
  · rcases lt3_total hr (Nat.le_of_lt hi) (Nat.le_of_lt hj) e with a | a
    · have := rk3_mono hi a; omega
    · have := rk3_mono hj a; omega
theorem rk3_iff (hr : Inj n c r) {i j : Nat} (hi : i < n) (hj : j < n) : rk3 n c r i < rk3 n c r j ↔ lt3 n c r i j = true := by
  refine ⟨fun h => ?_, fun h => rk3_mono hi h⟩
  by_cases e : i = j
  · subst e; omega
  · rcases lt3_total hr (Nat.le_of_lt hi) (Nat.le_of_lt hj) e with a | a
    · exact a
    · have := rk3_mono hj a; omega
theorem to_parts (v : Int) : tov n c v = fr n c v + (nb n c v + ns n c v) := by
  unfold tov fr nb ns
  rw [← cn_or (fun j _ h => by simp only [Bool.and_eq_true, Bool.not_eq_true', decide_eq_true_eq] at h; rw [h.1.2] at h; exact absurd h.2.2 (by simp)), ← cn_or (fun j _ h => by simp only [Bool.or_eq_true, Bool.and_eq_true, decide_eq_true_eq] at h; omega)]
  refine cn_congr fun j _ => ?_
  cases sm n c j <;> simp <;> (rw [Bool.eq_iff_iff]; simp; omega)
theorem fr_mono {u v : Int} (h : u < v) : tov n c u ≤ fr n c v := by
  refine cn_mono fun j _ hj => ?_
  have := of_decide_eq_true hj
  exact decide_eq_true (by omega)
theorem to_le (v : Int) : tov n c v ≤ n := cn_le _
/-- Where one stands that is not small. -/
theorem rk3_big {i : Nat} (hi : i < n) (hs : sm n c i = false) : rk3 n c r i = fr n c (c i) + cn n (fun j => (decide (c j = c i) && !sm n c j) && lt2 n c r j i) := by
  unfold rk3 fr
  rw [← cn_or (fun j _ h => by simp only [Bool.and_eq_true, decide_eq_true_eq] at h; omega)]
  refine cn_congr fun j hj => ?_
  by_cases e : c j = c i
  · cases ht : sm n c j with
    | false => rw [lt3_big hj hi ht hs]; simp [e]
    | true => rw [lt3_sb hj hi e ht hs]; simp [e]
  · rw [lt3_ne hj hi e]; simp [e]
theorem rk3_big_lt {i : Nat} (hi : i < n) (hs : sm n c i = false) : rk3 n c r i < fr n c (c i) + nb n c (c i) := by
  rw [rk3_big hi hs]
  have := cn_lt (n := n) (P := fun j => (decide (c j = c i) && !sm n c j) && lt2 n c r j i) (Q := fun j => decide (c j = c i) && !sm n c j) (fun j _ h => by simp only [Bool.and_eq_true] at h; simp only [Bool.and_eq_true]; exact h.1) hi (by simp [hs]) (by simp [lt2_irr])
  unfold nb; omega
/-- Of one that is small: how many stand from it on in its bucket. -/
theorem rk3_small (hr : Inj n c r) {i : Nat} (hi : i < n) (hs : sm n c i = true) : rk3 n c r i + (cn n (fun j => (decide (c j = c i) && sm n c j) && lt3 n c r i j) + 1) = tov n c (c i) := by
  unfold rk3 tov
  have h1 : cn n (fun j => (decide (c j = c i) && sm n c j) && lt3 n c r i j) + 1 = cn n (fun j => ((decide (c j = c i) && sm n c j) && lt3 n c r i j) || j == i) :=
    (cn_succ hi (by simp [lt3_irr]) (fun _ _ => rfl)).symm
  rw [h1, ← cn_or (fun j hj h => by
    simp only [Bool.or_eq_true, Bool.and_eq_true, decide_eq_true_eq, beq_iff_eq] at h
    rcases h with ⟨h2, ⟨_, h3⟩ | h3⟩
    · have := lt3_trans h2 h3; rw [lt3_irr] at this; cases this
    · subst h3; rw [lt3_irr] at h2; cases h2)]
  refine cn_congr fun j hj => ?_
  by_cases e : j = i
  · subst e; simp
  · rcases lt3_total hr (Nat.le_of_lt hj) (Nat.le_of_lt hi) e with a | a
    · have := lt3_le hj a; simp [a, this]
    · have h2 : lt3 n c r j i = false := by
        cases h3 : lt3 n c r j i with
        | false => rfl
        | true => have := lt3_trans a h3; rw [lt3_irr] at this; cases this
      have h4 := lt3_le hi a
      rw [h2, a]
      by_cases e2 : c j = c i
      · have : sm n c j = true := by
          cases h5 : sm n c j with
          | true => rfl
          | false => rw [lt3_sb hi hj e2.symm hs h5] at a; cases a
        simp [e2, this]
      · have : ¬ c j ≤ c i := by omega
        simp [e2, this, e]
theorem rk3_small_ge {i : Nat} (hi : i < n) (hs : sm n c i = true) : fr n c (c i) + nb n c (c i) ≤ rk3 n c r i := by
  unfold fr nb rk3
  rw [← cn_or (fun j _ h => by simp only [Bool.and_eq_true, decide_eq_true_eq] at h; omega)]
  refine cn_mono fun j hj h => ?_
  simp only [Bool.or_eq_true, Bool.and_eq_true, decide_eq_true_eq, Bool.not_eq_true'] at h
  rcases h with h | ⟨h, h'⟩
  · rw [lt3_ne hj hi (by omega)]; exact decide_eq_true h
  · exact lt3_bs hj hi h h' hs
theorem rk3_lt_to {i : Nat} (hi : i < n) : rk3 n c r i < tov n c (c i) := by
  refine cn_lt (fun j hj h => decide_eq_true (lt3_le hj h)) hi (decide_eq_true (Int.le_refl _)) (lt3_irr i)
theorem rk3_ge {i : Nat} (hi : i < n) : fr n c (c i) ≤ rk3 n c r i := by
  refine cn_mono fun j hj h => ?_
  have := of_decide_eq_true h
  rw [lt3_ne hj hi (by omega)]; exact h

theorem tl_le (t : Nat) : tl n c r t ≤ ns n c (c t) := by
  refine cn_mono fun j _ h => ?_
  simp only [Bool.and_eq_true, decide_eq_true_eq] at h
  simp only [Bool.and_eq_true, decide_eq_true_eq]
  exact ⟨h.2.1, (trn_iff.1 h.1).2.1⟩
theorem tl_pos {t : Nat} (h : trn n c t = true) : 0 < tl n c r t := by
  have := cn_lt (n := n) (P := fun _ => false) (Q := fun u => trn n c u && (decide (c u = c t) && decide (r t ≤ r u))) (fun _ _ h => by cases h) (i := t) (by have := sm_lt (trn_iff.1 h).2.1; omega) (by simp [h]) rfl
  unfold tl; omega
theorem loc2_turn {t : Nat} (h : trn n c t = true) : loc2 n c r t = tov n c (c t) - tl n c r t := by
  unfold loc2; rw [if_pos (trn_iff.1 h).2.1]
theorem loc2_big {i : Nat} (hs : sm n c i = false) : loc2 n c r i = rk3 n c r i := by
  unfold loc2; rw [hs]; rfl
theorem loc2_turn_ge {t : Nat} : fr n c (c t) + nb n c (c t) ≤ tov n c (c t) - tl n c r t := by
  have := tl_le (n := n) (c := c) (r := r) t
  have := to_parts (n := n) (c := c) (c t)
  omega
theorem loc2_bounds {i : Nat} (hi : i < n) (hA : InA n c i) : fr n c (c i) ≤ loc2 n c r i ∧ loc2 n c r i < tov n c (c i) := by
  cases hs : sm n c i with
  | false => rw [loc2_big hs]; exact ⟨rk3_ge hi, rk3_lt_to hi⟩
  | true =>
    have ht := hA.2 hi hs
    rw [loc2_turn ht]
    have h1 := loc2_turn_ge (n := n) (c := c) (r := r) (t := i)
    have h2 := tl_pos (r := r) ht
    have h3 := tl_le (n := n) (c := c) (r := r) i
    have h4 := to_parts (n := n) (c := c) (c i)
    omega
theorem loc2_lt {i : Nat} (hi : i < n) (hA : InA n c i) : loc2 n c r i < n := Nat.lt_of_lt_of_le (loc2_bounds hi hA).2 (to_le _)
theorem loc2_mono {i j : Nat} (hi : i < n) (hA : InA n c i) (hB : InA n c j) (h : lt2 n c r i j = true) : loc2 n c r i < loc2 n c r j := by
  have hj := lt2_in h
  have h1 := loc2_bounds (r := r) hi hA
  have h2 := loc2_bounds (r := r) hj hB
  by_cases e : c i = c j
  · cases hs : sm n c i <;> cases ht : sm n c j
    · rw [loc2_big hs, loc2_big ht]
      exact rk3_mono hi (by rw [lt3_big hi hj hs ht]; exact h)
    · rw [loc2_big hs, loc2_turn (hB.2 hj ht)]
      have := rk3_big_lt (r := r) hi hs
      have := loc2_turn_ge (n := n) (c := c) (r := r) (t := j)
      rw [e] at *; omega
    · rw [lt2_sb hi hj e hs ht] at h; cases h
    · have hti := hA.2 hi hs
      have htj := hB.2 hj ht
      rw [loc2_turn hti, loc2_turn htj]
      rw [lt2_ss hi hj e hs ht] at h
      have hlt := of_decide_eq_true h
      have h3 : tl n c r j < tl n c r i := by
        refine cn_lt (fun u _ hu => ?_) hi (by simp [hti]) (by simp; intro _ _; omega)
        simp only [Bool.and_eq_true, decide_eq_true_eq] at hu
        simp only [Bool.and_eq_true, decide_eq_true_eq]
        exact ⟨hu.1, by omega, by omega⟩
      have h4 := tl_le (n := n) (c := c) (r := r) i
      have h5 := to_parts (n := n) (c := c) (c i)
      rw [← e]; omega
  · have h3 := lt2_le hi h
    have := fr_mono (n := n) (c := c) (u := c i) (v := c j) (by omega)
    omega
theorem loc2_inj (hr : Inj n c r) {i j : Nat} (hi : i < n) (hj : j < n) (hA : InA n c i) (hB : InA n c j) (h : loc2 n c r i = loc2 n c r j) : i = j := by
  by_cases e : i = j
  · exact e
  · rcases lt2_total hr hA hB e with a | a
    · have := loc2_mono hi hA hB a; omega
    · have := loc2_mono hj hB hA a; omega
theorem loc2_iff (hr : Inj n c r) {i j : Nat} (hi : i < n) (hj : j < n) (hA : InA n c i) (hB : InA n c j) : loc2 n c r i < loc2 n c r j ↔ lt2 n c r i j = true := by
  refine ⟨fun h => ?_, fun h => loc2_mono hi hA hB h⟩
  by_cases e : i = j
  · subst e; omega
  · rcases lt2_total hr hA hB e with a | a
    · exact a
    · have := loc2_mono hj hB hA a; omega
end
end Go.Proofs.Ytphchkkicpnehaa.SM
