/- Plain mathematics for inducing: an order of the turns that is their suffixes' own induces the suffixes' own order; names of pieces; the shorter list. No program is in sight. -/
import Derived.Test.YtphchkkicpnehaaSMb
namespace Go.Proofs.Ytphchkkicpnehaa.SM
section
variable {n : Nat} {c : Nat → Int} {r : Nat → Nat}

/-- The order of the turns is that of their suffixes. -/
def Own (n : Nat) (c : Nat → Int) (r : Nat → Nat) : Prop := ∀ t u, trn n c t = true → trn n c u = true → (r t < r u ↔ slt n c t u = true)

theorem slt_ne {i j : Nat} (hi : i < n) (hj : j < n) (h : c i ≠ c j) : slt n c i j = decide (c i < c j) := by
  rw [Bool.eq_iff_iff, slt_in hi hj]; simp; omega
theorem slt_eq {i j : Nat} (hi : i < n) (hj : j < n) (h : c i = c j) : slt n c i j = slt n c (i + 1) (j + 1) := by
  rw [Bool.eq_iff_iff, slt_in hi hj]
  exact ⟨fun h1 => h1.elim (fun h2 => by omega) (fun h2 => h2.2), fun h1 => .inr ⟨h, h1⟩⟩
theorem slt_endb {i j : Nat} (hi : n ≤ i) : slt n c i j = decide (j < n) := by
  rw [Bool.eq_iff_iff, slt_end hi]; simp

theorem lt2_own' (ho : Own n c r) (d : Nat) : ∀ i j, n - i = d → InA n c i → InA n c j → lt2 n c r i j = slt n c i j := by
  induction d with
  | zero =>
    intro i j h hi _
    have := hi.1
    rw [lt2_end (by omega), slt_endb (by omega)]
  | succ d ih =>
    intro i j h hi hj
    have hi' : i < n := by omega
    rcases Nat.lt_or_ge j n with hj' | hj'
    · by_cases e : c i = c j
      · cases hs : sm n c i <;> cases ht : sm n c j
        · rw [lt2_bb hi' hj' e hs ht, slt_eq hi' hj' e]
          exact ih _ _ (by omega) (InA.next hi' hs) (InA.next hj' ht)
        · rw [lt2_bs hi' hj' e hs ht, big_lt_small hi' hj' e hs ht]
        · rw [lt2_sb hi' hj' e hs ht, slt_asymm (big_lt_small hj' hi' e.symm ht hs)]
        · rw [lt2_ss hi' hj' e hs ht, Bool.eq_iff_iff, decide_eq_true_eq]
          exact ho i j (hi.2 hi' hs) (hj.2 hj' ht)
      · rw [lt2_ne hi' hj' e, slt_ne hi' hj' e]
    · rw [lt2_to_end hj', slt_to_end hj']
theorem lt2_own (ho : Own n c r) {i j : Nat} (hi : InA n c i) (hj : InA n c j) : lt2 n c r i j = slt n c i j := lt2_own' ho _ i j rfl hi hj
theorem lt3_own' (ho : Own n c r) (d : Nat) : ∀ i j, n - i = d → lt3 n c r i j = slt n c i j := by
  induction d with
  | zero => intro i j h; rw [lt3_end (by omega), slt_endb (by omega)]
  | succ d ih =>
    intro i j h
    have hi' : i < n := by omega
    rcases Nat.lt_or_ge j n with hj' | hj'
    · by_cases e : c i = c j
      · cases hs : sm n c i <;> cases ht : sm n c j
        · rw [lt3_bb hi' hj' e hs ht, slt_eq hi' hj' e]
          exact lt2_own ho (InA.next hi' hs) (InA.next hj' ht)
        · rw [lt3_bs hi' hj' e hs ht, big_lt_small hi' hj' e hs ht]
        · rw [lt3_sb hi' hj' e hs ht, slt_asymm (big_lt_small hj' hi' e.symm ht hs)]
        · rw [lt3_ss hi' hj' e hs ht, slt_eq hi' hj' e]; exact ih _ _ (by omega)
      · rw [lt3_ne hi' hj' e, slt_ne hi' hj' e]
    · rw [lt3_to_end hj', slt_to_end hj']
theorem lt3_own (ho : Own n c r) (i j : Nat) : lt3 n c r i j = slt n c i j := lt3_own' ho _ i j rfl

/-- How many suffixes are less. -/
def rank (n : Nat) (c : Nat → Int) (i : Nat) : Nat := cn n (fun j => slt n c j i)
theorem rk3_own (ho : Own n c r) (i : Nat) : rk3 n c r i = rank n c i := cn_congr fun j _ => lt3_own ho j i
theorem Own.inj (ho : Own n c r) : Inj n c r := by
  intro t u ht hu h
  by_cases e : t = u
  · exact e
  · have h1 := sm_lt (trn_iff.1 ht).2.1
    have h2 := sm_lt (trn_iff.1 hu).2.1
    rcases slt_total (n := n) (c := c) (i := t) (j := u) (by omega) (by omega) e with a | a
    · have := (ho t u ht hu).2 a; omega
    · have := (ho u t hu ht).2 a; omega
theorem rank_lt {i : Nat} (hi : i < n) : rank n c i < n := by
  have h := cn_lt (n := n) (P := fun j => slt n c j i) (Q := fun _ => true) (fun _ _ _ => rfl) hi rfl (slt_irr i)
  rw [cn_true (fun _ _ => rfl)] at h; exact h
theorem rank_mono {i j : Nat} (hi : i < n) (h : slt n c i j = true) : rank n c i < rank n c j := cn_lt (fun _ _ hk => slt_trans hk h) hi h (slt_irr i)
theorem rank_iff {i j : Nat} (hi : i < n) (hj : j < n) : rank n c i < rank n c j ↔ slt n c i j = true := by
  refine ⟨fun h => ?_, fun h => rank_mono hi h⟩
  by_cases e : i = j
  · subst e; omega
  · rcases slt_total (n := n) (c := c) (Nat.le_of_lt hi) (Nat.le_of_lt hj) e with a | a
    · exact a
    · have := rank_mono hj a; omega
theorem rank_inj {i j : Nat} (hi : i < n) (hj : j < n) (h : rank n c i = rank n c j) : i = j := by
  by_cases e : i = j
  · exact e
  · rcases slt_total (n := n) (c := c) (Nat.le_of_lt hi) (Nat.le_of_lt hj) e with a | a
    · have := rank_mono hi a; omega
    · have := rank_mono hj a; omega
theorem rank_onto {q : Nat} (hq : q < n) : ∃ i, i < n ∧ rank n c i = q := pigeon n (rank n c) (fun _ h => rank_lt h) (fun _ _ h h' e => rank_inj h h' e) q hq

/-! ### pieces -/
theorem eq2_in {i j : Nat} (hi : i < n) : eq2 n c i j = true ↔ j < n ∧ c i = c j ∧ sm n c i = sm n c j ∧ (sm n c i = false → eq2 n c (i + 1) (j + 1) = true) := by
  rw [eq2, dif_pos hi]
  by_cases h : j < n ∧ c i = c j
  · rw [if_pos h]; cases sm n c i <;> cases sm n c j <;> simp [h.1, h.2]
  · rw [if_neg h]; simp; intro h1 h2; exact absurd ⟨h1, h2⟩ h
theorem eq2_out {i j : Nat} (hi : n ≤ i) : eq2 n c i j = false := by rw [eq2, dif_neg (by omega)]
theorem eq3_in {i j : Nat} (hi : i < n) : eq3 n c i j = true ↔ j < n ∧ c i = c j ∧ sm n c i = sm n c j ∧ (sm n c i = true → eq3 n c (i + 1) (j + 1) = true) ∧ (sm n c i = false → eq2 n c (i + 1) (j + 1) = true) := by
  rw [eq3, dif_pos hi]
  by_cases h : j < n ∧ c i = c j
  · rw [if_pos h]; cases sm n c i <;> cases sm n c j <;> simp [h.1, h.2]
  · rw [if_neg h]; simp; intro h1 h2; exact absurd ⟨h1, h2⟩ h
theorem eq3_out {i j : Nat} (hi : n ≤ i) : eq3 n c i j = false := by rw [eq3, dif_neg (by omega)]

theorem eq2_symm' (d : Nat) : ∀ i j, n - i = d → eq2 n c i j = true → eq2 n c j i = true := by
  induction d with
  | zero => intro i j h h1; rw [eq2_out (by omega)] at h1; cases h1
  | succ d ih =>
    intro i j h h1
    obtain ⟨a, b, e, f⟩ := (eq2_in (by omega)).1 h1
    exact (eq2_in a).2 ⟨by omega, b.symm, e.symm, fun g => ih _ _ (by omega) (f (by rw [e]; exact g))⟩
theorem eq2_symm (i j : Nat) : eq2 n c i j = eq2 n c j i := by
  rw [Bool.eq_iff_iff]; exact ⟨eq2_symm' _ i j rfl, eq2_symm' _ j i rfl⟩
theorem eq3_symm' (d : Nat) : ∀ i j, n - i = d → eq3 n c i j = true → eq3 n c j i = true := by
  induction d with
  | zero => intro i j h h1; rw [eq3_out (by omega)] at h1; cases h1
  | succ d ih =>
    intro i j h h1
    obtain ⟨a, b, e, f, g⟩ := (eq3_in (by omega)).1 h1
    exact (eq3_in a).2 ⟨by omega, b.symm, e.symm, fun z => ih _ _ (by omega) (f (by rw [e]; exact z)), fun z => by rw [eq2_symm]; exact g (by rw [e]; exact z)⟩
theorem eq3_symm (i j : Nat) : eq3 n c i j = eq3 n c j i := by
  rw [Bool.eq_iff_iff]; exact ⟨eq3_symm' _ i j rfl, eq3_symm' _ j i rfl⟩

/-- Where the pieces are unlike, the two orders agree. -/
theorem eq2_unlike' (d : Nat) : ∀ i j, n - i = d → eq2 n c i j = false → lt2 n c r i j = slt n c i j := by
  induction d with
  | zero => intro i j h _; rw [lt2_end (by omega), slt_endb (by omega)]
  | succ d ih =>
    intro i j h he
    have hi' : i < n := by omega
    rcases Nat.lt_or_ge j n with hj' | hj'
    · by_cases e : c i = c j
      · cases hs : sm n c i <;> cases ht : sm n c j
        · rw [lt2_bb hi' hj' e hs ht, slt_eq hi' hj' e]
          refine ih _ _ (by omega) ?_
          cases h2 : eq2 n c (i + 1) (j + 1) with
          | false => rfl
          | true => rw [(eq2_in hi').2 ⟨hj', e, by rw [hs, ht], fun _ => h2⟩] at he; cases he
        · rw [lt2_bs hi' hj' e hs ht, big_lt_small hi' hj' e hs ht]
        · rw [lt2_sb hi' hj' e hs ht, slt_asymm (big_lt_small hj' hi' e.symm ht hs)]
        · rw [(eq2_in hi').2 ⟨hj', e, by rw [hs, ht], (fun h2 => by rw [hs] at h2; cases h2)⟩] at he; cases he
      · rw [lt2_ne hi' hj' e, slt_ne hi' hj' e]
    · rw [lt2_to_end hj', slt_to_end hj']
theorem eq3_unlike' (d : Nat) : ∀ i j, n - i = d → eq3 n c i j = false → lt3 n c r i j = slt n c i j := by
  induction d with
  | zero => intro i j h _; rw [lt3_end (by omega), slt_endb (by omega)]
  | succ d ih =>
    intro i j h he
    have hi' : i < n := by omega
    rcases Nat.lt_or_ge j n with hj' | hj'
    · by_cases e : c i = c j
      · cases hs : sm n c i <;> cases ht : sm n c j
        · rw [lt3_bb hi' hj' e hs ht, slt_eq hi' hj' e]
          refine eq2_unlike' _ _ _ rfl ?_
          cases h2 : eq2 n c (i + 1) (j + 1) with
          | false => rfl
          | true => rw [(eq3_in hi').2 ⟨hj', e, by rw [hs, ht], (fun h3 => by rw [hs] at h3; cases h3), fun _ => h2⟩] at he; cases he
        · rw [lt3_bs hi' hj' e hs ht, big_lt_small hi' hj' e hs ht]
        · rw [lt3_sb hi' hj' e hs ht, slt_asymm (big_lt_small hj' hi' e.symm ht hs)]
        · rw [lt3_ss hi' hj' e hs ht, slt_eq hi' hj' e]
          refine ih _ _ (by omega) ?_
          cases h2 : eq3 n c (i + 1) (j + 1) with
          | false => rfl
          | true => rw [(eq3_in hi').2 ⟨hj', e, by rw [hs, ht], fun _ => h2, (fun h3 => by rw [hs] at h3; cases h3)⟩] at he; cases he
      · rw [lt3_ne hi' hj' e, slt_ne hi' hj' e]
    · rw [lt3_to_end hj', slt_to_end hj']
theorem eq3_unlike {i j : Nat} (h : eq3 n c i j = false) : lt3 n c r i j = slt n c i j := eq3_unlike' _ i j rfl h

/-- Two alike stand to any third one alike. -/
theorem eq2_trade' (d : Nat) : ∀ i k j, n - i = d → eq2 n c i k = true → eq2 n c i j = eq2 n c k j ∧ (eq2 n c i j = false → slt n c i j = slt n c k j) := by
  induction d with
  | zero => intro i k j h h1; rw [eq2_out (by omega)] at h1; cases h1
  | succ d ih =>
    intro i k j h h1
    have hi : i < n := by omega
    obtain ⟨hk, e, s, f⟩ := (eq2_in hi).1 h1
    rcases Nat.lt_or_ge j n with hj | hj
    · by_cases a : c i = c j
      · cases hs : sm n c i with
        | false =>
          have hk' : sm n c k = false := by rw [← s]; exact hs
          have h2 := ih _ _ (j + 1) (by omega) (f hs)
          constructor
          · rw [Bool.eq_iff_iff, eq2_in hi, eq2_in hk, hs, hk', h2.1, e]
          · intro h3
            rw [slt_eq hi hj a, slt_eq hk hj (by omega)]
            cases ht : sm n c j with
            | false =>
              refine h2.2 ?_
              cases h4 : eq2 n c (i + 1) (j + 1) with
              | false => rfl
              | true => rw [(eq2_in hi).2 ⟨hj, a, by rw [hs, ht], fun _ => h4⟩] at h3; cases h3
            | true =>
              have h5 := big_lt_small hi hj a hs ht
              have h6 := big_lt_small hk hj (by omega) hk' ht
              rw [slt_eq hi hj a] at h5; rw [slt_eq hk hj (by omega)] at h6
              rw [h5, h6]
        | true =>
          have hk' : sm n c k = true := by rw [← s]; exact hs
          constructor
          · rw [Bool.eq_iff_iff, eq2_in hi, eq2_in hk, hs, hk', e]; simp
          · intro h3
            cases ht : sm n c j with
            | false =>
              rw [slt_asymm (big_lt_small hj hi a.symm ht hs), slt_asymm (big_lt_small hj hk (by omega) ht hk')]
            | true => rw [(eq2_in hi).2 ⟨hj, a, by rw [hs, ht], (fun h4 => by rw [hs] at h4; cases h4)⟩] at h3; cases h3
      · constructor
        · rw [Bool.eq_iff_iff, eq2_in hi, eq2_in hk]
          exact ⟨fun h2 => absurd h2.2.1 a, fun h2 => absurd (e.trans h2.2.1) a⟩
        · intro _; rw [slt_ne hi hj a, slt_ne hk hj (by omega), e]
    · constructor
      · rw [Bool.eq_iff_iff, eq2_in hi, eq2_in hk]; omega
      · intro _; rw [slt_to_end hj, slt_to_end hj]
theorem eq3_trade' (d : Nat) : ∀ i k j, n - i = d → eq3 n c i k = true → eq3 n c i j = eq3 n c k j ∧ (eq3 n c i j = false → slt n c i j = slt n c k j) := by
  induction d with
  | zero => intro i k j h h1; rw [eq3_out (by omega)] at h1; cases h1
  | succ d ih =>
    intro i k j h h1
    have hi : i < n := by omega
    obtain ⟨hk, e, s, f, g⟩ := (eq3_in hi).1 h1
    rcases Nat.lt_or_ge j n with hj | hj
    · by_cases a : c i = c j
      · cases hs : sm n c i with
        | false =>
          have hk' : sm n c k = false := by rw [← s]; exact hs
          have h2 := eq2_trade' _ _ _ (j + 1) rfl (g hs)
          constructor
          · rw [Bool.eq_iff_iff, eq3_in hi, eq3_in hk, hs, hk', h2.1, e]; simp
          · intro h3
            rw [slt_eq hi hj a, slt_eq hk hj (by omega)]
            cases ht : sm n c j with
            | false =>
              refine h2.2 ?_
              cases h4 : eq2 n c (i + 1) (j + 1) with
              | false => rfl
              | true => rw [(eq3_in hi).2 ⟨hj, a, by rw [hs, ht], (fun h5 => by rw [hs] at h5; cases h5), fun _ => h4⟩] at h3; cases h3
            | true =>
              have h5 := big_lt_small hi hj a hs ht
              have h6 := big_lt_small hk hj (by omega) hk' ht
              rw [slt_eq hi hj a] at h5; rw [slt_eq hk hj (by omega)] at h6
              rw [h5, h6]
        | true =>
          have hk' : sm n c k = true := by rw [← s]; exact hs
          have h2 := ih _ _ (j + 1) (by omega) (f hs)
          constructor
          · rw [Bool.eq_iff_iff, eq3_in hi, eq3_in hk, hs, hk', h2.1, e]; simp
          · intro h3
            cases ht : sm n c j with
            | false =>
              rw [slt_asymm (big_lt_small hj hi a.symm ht hs), slt_asymm (big_lt_small hj hk (by omega) ht hk')]
            | true =>
              rw [slt_eq hi hj a, slt_eq hk hj (by omega)]
              refine h2.2 ?_
              cases h4 : eq3 n c (i + 1) (j + 1) with
              | false => rfl
              | true => rw [(eq3_in hi).2 ⟨hj, a, by rw [hs, ht], fun _ => h4, (fun h5 => by rw [hs] at h5; cases h5)⟩] at h3; cases h3
      · constructor
        · rw [Bool.eq_iff_iff, eq3_in hi, eq3_in hk]
          exact ⟨fun h2 => absurd h2.2.1 a, fun h2 => absurd (e.trans h2.2.1) a⟩
        · intro _; rw [slt_ne hi hj a, slt_ne hk hj (by omega), e]
    · constructor
      · rw [Bool.eq_iff_iff, eq3_in hi, eq3_in hk]; omega
      · intro _; rw [slt_to_end hj, slt_to_end hj]
theorem eq3_trade {i k : Nat} (j : Nat) (h : eq3 n c i k = true) : eq3 n c i j = eq3 n c k j ∧ (eq3 n c i j = false → slt n c i j = slt n c k j) := eq3_trade' _ i k j rfl h

/-- Alike up to the next turns: how far they are, and that what stands there decides. -/
theorem eq2_next' (d : Nat) : ∀ i j, n - i = d → InA n c i → InA n c j → eq2 n c i j = true →
    ∃ e, trn n c (i + e) = true ∧ trn n c (j + e) = true ∧ (∀ q, q < e → trn n c (i + q) = false) ∧ (∀ q, q < e → trn n c (j + q) = false) ∧ slt n c i j = slt n c (i + e) (j + e) := by
  induction d with
  | zero => intro i j h _ _ h1; rw [eq2_out (by omega)] at h1; cases h1
  | succ d ih =>
    intro i j h hA hB h1
    have hi : i < n := by omega
    obtain ⟨hj, a, s, f⟩ := (eq2_in hi).1 h1
    cases hs : sm n c i with
    | true =>
      have ht : sm n c j = true := by rw [← s]; exact hs
      exact ⟨0, hA.2 hi hs, hB.2 hj ht, fun q hq => by omega, fun q hq => by omega, rfl⟩
    | false =>
      have ht : sm n c j = false := by rw [← s]; exact hs
      obtain ⟨e, h2, h3, h4, h5, h6⟩ := ih _ _ (by omega) (InA.next hi hs) (InA.next hj ht) (f hs)
      refine ⟨e + 1, by rw [show i + (e + 1) = i + 1 + e by omega]; exact h2, by rw [show j + (e + 1) = j + 1 + e by omega]; exact h3, ?_, ?_, ?_⟩
      · intro q hq
        cases q with
        | zero => unfold trn; rw [Nat.add_zero, hs]; simp
        | succ q => rw [show i + (q + 1) = i + 1 + q by omega]; exact h4 q (by omega)
      · intro q hq
        cases q with
        | zero => unfold trn; rw [Nat.add_zero, ht]; simp
        | succ q => rw [show j + (q + 1) = j + 1 + q by omega]; exact h5 q (by omega)
      · rw [slt_eq hi hj a, h6, show i + (e + 1) = i + 1 + e by omega, show j + (e + 1) = j + 1 + e by omega]
theorem eq3_next' (d : Nat) : ∀ i j, n - i = d → eq3 n c i j = true →
    ∃ e, 0 < e ∧ trn n c (i + e) = true ∧ trn n c (j + e) = true ∧ (∀ q, 0 < q → q < e → trn n c (i + q) = false) ∧ (∀ q, 0 < q → q < e → trn n c (j + q) = false) ∧ slt n c i j = slt n c (i + e) (j + e) := by
  induction d with
  | zero => intro i j h h1; rw [eq3_out (by omega)] at h1; cases h1
  | succ d ih =>
    intro i j h h1
    have hi : i < n := by omega
    obtain ⟨hj, a, s, f, g⟩ := (eq3_in hi).1 h1
    cases hs : sm n c i with
    | true =>
      have ht : sm n c j = true := by rw [← s]; exact hs
      obtain ⟨e, h0, h2, h3, h4, h5, h6⟩ := ih _ _ (by omega) (f hs)
      refine ⟨e + 1, by omega, by rw [show i + (e + 1) = i + 1 + e by omega]; exact h2, by rw [show j + (e + 1) = j + 1 + e by omega]; exact h3, ?_, ?_, ?_⟩
      · intro q h0 hq
        rcases Nat.lt_or_ge q 2 with h7 | h7
        · obtain rfl : q = 1 := by omega
          unfold trn; rw [show i + 1 - 1 = i by omega, hs]; simp
        · rw [show i + q = i + 1 + (q - 1) by omega]; exact h4 _ (by omega) (by omega)
      · intro q h0 hq
        rcases Nat.lt_or_ge q 2 with h7 | h7
        · obtain rfl : q = 1 := by omega
          unfold trn; rw [show j + 1 - 1 = j by omega, ht]; simp
        · rw [show j + q = j + 1 + (q - 1) by omega]; exact h5 _ (by omega) (by omega)
      · rw [slt_eq hi hj a, h6, show i + (e + 1) = i + 1 + e by omega, show j + (e + 1) = j + 1 + e by omega]
    | false =>
      have ht : sm n c j = false := by rw [← s]; exact hs
      obtain ⟨e, h2, h3, h4, h5, h6⟩ := eq2_next' _ _ _ rfl (InA.next hi hs) (InA.next hj ht) (g hs)
      refine ⟨e + 1, by omega, by rw [show i + (e + 1) = i + 1 + e by omega]; exact h2, by rw [show j + (e + 1) = j + 1 + e by omega]; exact h3, ?_, ?_, ?_⟩
      · intro q h0 hq
        rw [show i + q = i + 1 + (q - 1) by omega]; exact h4 _ (by omega)
      · intro q h0 hq
        rw [show j + q = j + 1 + (q - 1) by omega]; exact h5 _ (by omega)
      · rw [slt_eq hi hj a, h6, show i + (e + 1) = i + 1 + e by omega, show j + (e + 1) = j + 1 + e by omega]

/-! ### names -/
/-- Turns in the row's order have names that go on by one where the piece is another one. -/
structure Named (n : Nat) (c : Nat → Int) (r : Nat → Nat) (m : Nat) (o : Nat → Nat) (nm : Nat → Int) : Prop where
  turn : ∀ a, a < m → trn n c (o a) = true
  sorted : ∀ a, a + 1 < m → lt3 n c r (o a) (o (a + 1)) = true
  step : ∀ a, a + 1 < m → nm (o (a + 1)) = nm (o a) + (if eq3 n c (o a) (o (a + 1)) then 0 else 1)

theorem Named.lt {m : Nat} {o : Nat → Nat} {nm : Nat → Int} (h : Named n c r m o nm) (d : Nat) : ∀ a, a + d + 1 < m → lt3 n c r (o a) (o (a + d + 1)) = true := by
  induction d with
  | zero => intro a ha; exact h.sorted a ha
  | succ d ih => intro a ha; exact lt3_trans (ih a (by omega)) (h.sorted (a + d + 1) (by omega))
theorem Named.lt' {m : Nat} {o : Nat → Nat} {nm : Nat → Int} (h : Named n c r m o nm) {a b : Nat} (hab : a < b) (hb : b < m) : lt3 n c r (o a) (o b) = true := by
  have := h.lt (b - a - 1) a (by omega)
  rw [show a + (b - a - 1) + 1 = b by omega] at this; exact this
/-- Two have one name just if their pieces are alike; else names are as the suffixes. -/
theorem Named.pair {m : Nat} {o : Nat → Nat} {nm : Nat → Int} (h : Named n c r m o nm) (d : Nat) : ∀ a, a + d + 1 < m →
    (eq3 n c (o a) (o (a + d + 1)) = true → nm (o a) = nm (o (a + d + 1))) ∧ (eq3 n c (o a) (o (a + d + 1)) = false → nm (o a) < nm (o (a + d + 1)) ∧ slt n c (o a) (o (a + d + 1)) = true) := by
  induction d with
  | zero =>
    intro a ha
    have h1 := h.step a (by omega)
    have h2 := h.sorted a (by omega)
    constructor
    · intro he; rw [if_pos he] at h1; rw [Nat.add_zero]; omega
    · intro he; rw [Nat.add_zero] at *; rw [if_neg (by rw [he]; simp)] at h1
      exact ⟨by omega, by rw [← eq3_unlike (r := r) he]; exact h2⟩
  | succ d ih =>
    intro a ha
    obtain ⟨g1, g2⟩ := ih a (by omega)
    have h1 := h.step (a + d + 1) (by omega)
    have h2 := h.sorted (a + d + 1) (by omega)
    have h3 := h.lt (d + 1) a (by omega)
    have h4 := h.lt d a (by omega)
    rw [show a + (d + 1) + 1 = a + d + 1 + 1 by omega] at *
    constructor
    · intro he
      cases hb : eq3 n c (o (a + d + 1)) (o (a + d + 1 + 1)) with
      | true =>
        rw [if_pos hb] at h1
        have t := (eq3_trade (o a) hb).1
        rw [eq3_symm (o (a + d + 1 + 1)), he, eq3_symm] at t
        have := g1 t; omega
      | false =>
        exfalso
        have s1 : slt n c (o (a + d + 1)) (o (a + d + 1 + 1)) = true := by rw [← eq3_unlike (r := r) hb]; exact h2
        have t := eq3_trade (o (a + d + 1)) he
        have t1 : eq3 n c (o a) (o (a + d + 1)) = false := by rw [t.1, eq3_symm]; exact hb
        have t2 := t.2 t1
        rw [slt_asymm s1, ← eq3_unlike (r := r) t1, h4] at t2
        cases t2
    · intro he
      have hs : slt n c (o a) (o (a + d + 1 + 1)) = true := by rw [← eq3_unlike (r := r) he]; exact h3
      refine ⟨?_, hs⟩
      cases hb : eq3 n c (o (a + d + 1)) (o (a + d + 1 + 1)) with
      | true =>
        rw [if_pos hb] at h1
        have t := (eq3_trade (o a) hb).1
        rw [eq3_symm (o (a + d + 1 + 1)), he, eq3_symm] at t
        have := (g2 t).1; omega
      | false =>
        rw [if_neg (by rw [hb]; simp)] at h1
        cases ha2 : eq3 n c (o a) (o (a + d + 1)) with
        | true => have := g1 ha2; omega
        | false => have := (g2 ha2).1; omega

/-- What names tell of any two turns. -/
def Names (n : Nat) (c : Nat → Int) (nm : Nat → Int) : Prop := ∀ t u, trn n c t = true → trn n c u = true → t ≠ u →
  (nm t < nm u → slt n c t u = true) ∧ (nm t = nm u → eq3 n c t u = true)
theorem Named.names {m : Nat} {o : Nat → Nat} {nm : Nat → Int} (h : Named n c r m o nm) (hall : ∀ t, trn n c t = true → ∃ a, a < m ∧ o a = t) : Names n c nm := by
  intro t u ht hu hne
  obtain ⟨a, ha, rfl⟩ := hall t ht
  obtain ⟨b, hb, rfl⟩ := hall u hu
  rcases Nat.lt_trichotomy a b with hab | hab | hab
  · obtain ⟨g1, g2⟩ := h.pair (b - a - 1) a (by omega)
    rw [show a + (b - a - 1) + 1 = b by omega] at g1 g2
    cases he : eq3 n c (o a) (o b) with
    | true => exact ⟨fun h1 => by have := g1 he; omega, fun _ => rfl⟩
    | false => exact ⟨fun _ => (g2 he).2, fun h1 => by have := (g2 he).1; omega⟩
  · subst hab; exact absurd rfl hne
  · obtain ⟨g1, g2⟩ := h.pair (a - b - 1) b (by omega)
    rw [show b + (a - b - 1) + 1 = a by omega] at g1 g2
    cases he : eq3 n c (o b) (o a) with
    | true => exact ⟨fun h1 => by have := g1 he; omega, fun _ => by rw [eq3_symm]; exact he⟩
    | false => exact ⟨fun h1 => by have := (g2 he).1; omega, fun h1 => by have := (g2 he).1; omega⟩

/-- The turns, rising. -/
structure Turns (n : Nat) (c : Nat → Int) (m : Nat) (T : Nat → Nat) : Prop where
  turn : ∀ a, a < m → trn n c (T a) = true
  rise : ∀ a b, a < b → b < m → T a < T b
  all : ∀ t, trn n c t = true → ∃ a, a < m ∧ T a = t

theorem Turns.next {m : Nat} {T : Nat → Nat} (h : Turns n c m T) {a e : Nat} (ha : a < m) (he : 0 < e) (ht : trn n c (T a + e) = true) (hno : ∀ q, 0 < q → q < e → trn n c (T a + q) = false) : a + 1 < m ∧ T (a + 1) = T a + e := by
  obtain ⟨b, hb, hbe⟩ := h.all _ ht
  have hab : a < b := by
    rcases Nat.lt_or_ge a b with h1 | h1
    · exact h1
    · rcases Nat.lt_or_eq_of_le h1 with h2 | h2
      · have := h.rise b a h2 ha; omega
      · subst h2; omega
  refine ⟨by omega, ?_⟩
  have h1 := h.rise a (a + 1) (by omega) (by omega)
  have h2 : T (a + 1) ≤ T b := by
    rcases Nat.lt_or_eq_of_le (show a + 1 ≤ b by omega) with h3 | h3
    · exact Nat.le_of_lt (h.rise _ _ h3 hb)
    · rw [h3]; exact Nat.le_refl _
  rcases Nat.lt_or_ge (T (a + 1)) (T a + e) with h3 | h3
  · have h4 := hno (T (a + 1) - T a) (by omega) (by omega)
    rw [show T a + (T (a + 1) - T a) = T (a + 1) by omega, h.turn (a + 1) (by omega)] at h4
    cases h4
  · omega

/-- The shorter list's suffixes stand to each other as the turns' do. -/
theorem reduced' {m : Nat} {T : Nat → Nat} {nm : Nat → Int} (h : Turns n c m T) (hn : Names n c nm) (d : Nat) : ∀ a b, m - a = d → a < m → b < m → slt m (fun a => nm (T a)) a b = slt n c (T a) (T b) := by
  induction d with
  | zero => intro a b hd ha; omega
  | succ d ih =>
    intro a b hd ha hb
    by_cases hab : a = b
    · subst hab; rw [slt_irr, slt_irr]
    · have hne : T a ≠ T b := by
        rcases Nat.lt_or_gt_of_ne hab with h1 | h1
        · have := h.rise a b h1 hb; omega
        · have := h.rise b a h1 ha; omega
      have g := hn _ _ (h.turn a ha) (h.turn b hb) hne
      have g' := hn _ _ (h.turn b hb) (h.turn a ha) (Ne.symm hne)
      rcases Int.lt_trichotomy (nm (T a)) (nm (T b)) with x | x | x
      · rw [slt_ne (c := fun a => nm (T a)) ha hb (show nm (T a) ≠ nm (T b) by omega), g.1 x]; exact decide_eq_true x
      · obtain ⟨e, he, h2, h3, h4, h5, h6⟩ := eq3_next' _ _ _ rfl (g.2 x)
        obtain ⟨n1, n2⟩ := h.next ha he h2 h4
        obtain ⟨n3, n4⟩ := h.next hb he h3 h5
        rw [slt_eq (c := fun a => nm (T a)) ha hb x, ih (a + 1) (b + 1) (by omega) n1 n3, n2, n4, h6]
      · rw [slt_ne (c := fun a => nm (T a)) ha hb (show nm (T a) ≠ nm (T b) by omega), slt_asymm (g'.1 x)]; simp; omega
theorem reduced {m : Nat} {T : Nat → Nat} {nm : Nat → Int} (h : Turns n c m T) (hn : Names n c nm) {a b : Nat} (ha : a < m) (hb : b < m) : slt m (fun a => nm (T a)) a b = slt n c (T a) (T b) := reduced' h hn _ a b rfl ha hb
end
end Go.Proofs.Ytphchkkicpnehaa.SM
