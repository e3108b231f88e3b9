/- The printed functions same, array and Array of package sais: the answer has all suffixes in their order. -/
import Derived.Test.YtphchkkicpnehaaSMf
import Derived.Test.YtphchkkicpnehaaXx7
import Derived.Test.YtphchkkicpnehaaXx8
import Derived.Test.YtphchkkicpnehaaXx9
namespace Go.Proofs.Ytphchkkicpnehaa.SD
open Go.RowKit Go.Proofs.Ytphchkkicpnehaa Go.Proofs.Ytphchkkicpnehaa.X Go.Proofs.Ytphchkkicpnehaa.SM Go.Proofs.YtphchkkicpnehaaW.PrintWords Go.Proofs.YtphchkkicpnehaaW.PrintLast

/-! ### the turns in the text's order -/
theorem filter_length (P : Nat → Bool) (n : Nat) : ((List.range n).filter P).length = cn n P := by
  induction n with
  | zero => rfl
  | succ n ih =>
    rw [range_succ_filter, List.length_append, ih, cn]
    by_cases h : P n = true
    · rw [if_pos h, if_pos h]; rfl
    · rw [if_neg h, if_neg h]; rfl
theorem cn_up {P : Nat → Bool} {m n : Nat} (h : m ≤ n) : cn m P ≤ cn n P := by
  induction n with
  | zero => obtain rfl : m = 0 := by omega
            exact Nat.le_refl _
  | succ n ih =>
    by_cases e : m = n + 1
    · rw [e]; exact Nat.le_refl _
    · have := ih (by omega)
      rw [cn]; omega
theorem cn_up_lt {P : Nat → Bool} {t n : Nat} (h : t < n) (hP : P t = true) : cn t P < cn n P := by
  have h1 := cn_up (P := P) (show t + 1 ≤ n by omega)
  rw [cn, if_pos hP] at h1; omega
theorem filter_get (P : Nat → Bool) (n : Nat) : ∀ t, t < n → P t = true → ((List.range n).filter P)[cn t P]? = some t := by
  induction n with
  | zero => intro t ht; omega
  | succ n ih =>
    intro t ht hP
    rw [range_succ_filter]
    by_cases e : t = n
    · subst e
      rw [List.getElem?_append_right (by rw [filter_length]; exact Nat.le_refl _), filter_length, Nat.sub_self, if_pos hP]; rfl
    · have := cn_up_lt (n := n) (by omega) hP
      rw [List.getElem?_append_left (by rw [filter_length]; exact this)]
      exact ih t (by omega) hP
theorem cn_find (P : Nat → Bool) (n : Nat) : ∀ a, a < cn n P → ∃ t, t < n ∧ P t = true ∧ cn t P = a := by
  induction n with
  | zero => intro a ha; rw [cn] at ha; omega
  | succ n ih =>
    intro a ha
    by_cases h : P n = true
    · rw [cn, if_pos h] at ha
      by_cases e : a = cn n P
      · exact ⟨n, by omega, h, e.symm⟩
      · obtain ⟨t, h1, h2, h3⟩ := ih a (by omega)
        exact ⟨t, by omega, h2, h3⟩
    · rw [cn, if_neg h] at ha
      obtain ⟨t, h1, h2, h3⟩ := ih a (by omega)
      exact ⟨t, by omega, h2, h3⟩

section
variable {k0 : Int} {s : List Int} {r : Nat → Nat}

theorem tul_length (s : List Int) : (tul s).length = cn s.length (trn s.length (ch s)) := by unfold tul; rw [List.length_map, filter_length]
theorem tul_get {t : Nat} (h : trn s.length (ch s) t = true) : ch (tul s) (cn t (trn s.length (ch s))) = (t : Int) := by
  unfold tul ch
  have h1 := trn_lt h
  rw [List.getD_eq_getElem?_getD, List.getElem?_map]
  have := filter_get (trn s.length (ch s)) s.length t (by omega) h
  unfold ch at this
  rw [this]; rfl
theorem tul_ord (s : List Int) : Ord s (tul s) (fun t => cn t (trn s.length (ch s))) := by
  refine ⟨fun a ha => ?_, fun t ht => ⟨?_, tul_get ht⟩⟩
  · rw [tul_length] at ha
    obtain ⟨t, _, h2, h3⟩ := cn_find _ _ a ha
    exact ⟨t, h2, by rw [← h3]; exact tul_get h2, h3⟩
  · rw [tul_length]; exact cn_up_lt (by have := trn_lt ht; omega) ht
/-- The a-th turn. -/
def T (s : List Int) (a : Nat) : Nat := (ch (tul s) a).toNat
theorem T_spec {a : Nat} (h : a < (tul s).length) : trn s.length (ch s) (T s a) = true ∧ ch (tul s) a = (T s a : Int) ∧ cn (T s a) (trn s.length (ch s)) = a := by
  obtain ⟨t, h1, h2, h3⟩ := (tul_ord s).turn a h
  have : T s a = t := by unfold T; rw [h2]; rfl
  rw [this]; exact ⟨h1, h2, h3⟩
theorem turns (s : List Int) : Turns s.length (ch s) (tul s).length (T s) := by
  refine ⟨fun a ha => (T_spec ha).1, fun a b hab hb => ?_, fun t ht => ?_⟩
  · have h1 := T_spec (s := s) (a := a) (by omega)
    have h2 := T_spec (s := s) (a := b) hb
    rcases Nat.lt_or_ge (T s a) (T s b) with h3 | h3
    · exact h3
    · have := cn_up (P := trn s.length (ch s)) h3; omega
  · have h1 := (tul_ord s).all t ht
    exact ⟨_, h1.1, by unfold T; rw [h1.2]; rfl⟩
theorem tul_lt (h : 0 < s.length) : (tul s).length < s.length := by
  rw [tul_length]
  have := cn_lt (n := s.length) (P := trn s.length (ch s)) (Q := fun _ => true) (fun _ _ _ => rfl) h rfl (by unfold trn; simp)
  rw [cn_true (fun _ _ => rfl)] at this; exact this

/-! ### same -/
attribute [local irreducible] cn cv fr tov rk3 loc2 ch

theorem same_loop (hn : s.length ≤ 16777216) (i j : Nat) (hi : i ≤ s.length) (hj : j ≤ s.length) (m : Nat) : ∀ (d : Nat) (md : Bool), s.length - (i + d) = m → d ≤ s.length → (d = 0 → md = true) →
    (0 < d → i + d - 1 < s.length ∧ j + d - 1 < s.length ∧ sm s.length (ch s) (i + d - 1) = md ∧ sm s.length (ch s) (j + d - 1) = md) →
    ∀ k, sais_same.l0 (k + 4 * m + 4) s (tyl s) (i : Int) (j : Int) (s.length : Int) (d : Int) = some (if md then eq3 s.length (ch s) (i + d) (j + d) else eq2 s.length (ch s) (i + d) (j + d)) := by
  induction m with
  | zero =>
    intro d md hm hd h0 h1 k
    have e : (if md then eq3 s.length (ch s) (i + d) (j + d) else eq2 s.length (ch s) (i + d) (j + d)) = false := by
      rw [eq3_out (by omega), eq2_out (by omega)]; cases md <;> rfl
    rw [e, show k + 4 * 0 + 4 = k + 2 + 1 + 1 by omega, sais_same.l0, wp (x := (i : Int) + (d : Int)) (y := ((i + d : Nat) : Int)) (by omega) (by omega) (by omega), if_pos (by omega), sais_same.j1, if_pos rfl]
  | succ m ih =>
    intro d md hm hd h0 h1 k
    rw [show k + 4 * (m + 1) + 4 = k + 4 * m + 3 + 1 + 1 + 1 + 1 + 1 by omega, sais_same.l0, wp (x := (i : Int) + (d : Int)) (y := ((i + d : Nat) : Int)) (by omega) (by omega) (by omega), wp (x := (j : Int) + (d : Int)) (y := ((j + d : Nat) : Int)) (by omega) (by omega) (by omega), if_neg (by omega)]
    have hid : i + d < s.length := by omega
    rw [sais_same.j1]
    rcases Nat.lt_or_ge (j + d) s.length with hjd | hjd
    · rw [if_neg (by simp; omega), if_pos (by omega), if_pos (by omega), if_pos (by omega), if_pos (by omega), rd_nat, rd_nat, rdB_nat, rdB_nat, tyl_get hid, tyl_get hjd]
      by_cases hc : ch s (i + d) = ch s (j + d)
      · rw [if_pos hc, if_pos (by rw [tyl_length]; omega), if_pos (by rw [tyl_length]; omega), sais_same.j2]
        by_cases hs : sm s.length (ch s) (i + d) = sm s.length (ch s) (j + d)
        · rw [if_neg (by rw [hs]; simp)]
          -- what the next round tells
          have next : ∀ md', sm s.length (ch s) (i + d) = md' → ∀ k, sais_same.l0 (k + 4 * m + 4) s (tyl s) (i : Int) (j : Int) (s.length : Int) (wrap64 ((d : Int) + 1)) = some (if md' then eq3 s.length (ch s) (i + d + 1) (j + d + 1) else eq2 s.length (ch s) (i + d + 1) (j + d + 1)) := by
            intro md' hmd k
            rw [wp (x := (d : Int) + 1) (y := ((d + 1 : Nat) : Int)) (by omega) (by omega) (by omega)]
            have := ih (d + 1) md' (by omega) (by omega) (fun h => by omega) (fun _ => ⟨by omega, by omega, by rw [show i + (d + 1) - 1 = i + d by omega]; exact hmd, by rw [show j + (d + 1) - 1 = j + d by omega, ← hs]; exact hmd⟩) k
            rw [show i + (d + 1) = i + d + 1 by omega, show j + (d + 1) = j + d + 1 by omega] at this
            exact this
          have fin : (0 < d → trn s.length (ch s) (i + d) = false ∧ trn s.length (ch s) (j + d) = false) → ∀ k,
              sais_same.l0 (k + 4 * m + 4) s (tyl s) (i : Int) (j : Int) (s.length : Int) (wrap64 ((d : Int) + 1)) = some (if md then eq3 s.length (ch s) (i + d) (j + d) else eq2 s.length (ch s) (i + d) (j + d)) := by
            intro hno k
            rw [next _ rfl k]
            congr 1
            cases hs1 : sm s.length (ch s) (i + d) with
            | true =>
              have hmd : md = true := by
                rcases Nat.eq_zero_or_pos d with z | z
                · exact h0 z
                · cases md with
                  | true => rfl
                  | false =>
                    have h2 := h1 z
                    have h3 := (hno z).1
                    rw [trn_iff.2 ⟨by omega, hs1, h2.2.2.1⟩] at h3; cases h3
              rw [hmd, Bool.eq_iff_iff]
              simp only [if_true]
              rw [eq3_in hid]
              exact ⟨fun h => ⟨hjd, hc, hs, fun _ => h, (fun h2 => by rw [hs1] at h2; cases h2)⟩, fun h => h.2.2.2.1 hs1⟩
            | false =>
              cases md with
              | true =>
                rw [Bool.eq_iff_iff]
                simp only [if_true]
                rw [eq3_in hid]
                exact ⟨fun h => ⟨hjd, hc, hs, (fun h2 => by rw [hs1] at h2; cases h2), fun _ => h⟩, fun h => h.2.2.2.2 hs1⟩
              | false =>
                rw [Bool.eq_iff_iff]
                simp only [Bool.false_eq_true, if_false]
                rw [eq2_in hid]
                exact ⟨fun h => ⟨hjd, hc, hs, fun _ => h⟩, fun h => h.2.2.2 hs1⟩
          rcases Nat.eq_zero_or_pos d with z | z
          · rw [if_neg (by omega), sais_same.j3, if_neg (by simp), show k + 4 * m + 3 + 1 = k + 4 * m + 4 by omega]
            exact fin (fun h => by omega) k
          · have h2 := h1 z
            rw [if_pos (by omega), isTurn_f s (by omega) (i + d) hid, Option.bind_some]
            have ht : trn s.length (ch s) (i + d) = trn s.length (ch s) (j + d) := by
              unfold trn
              rw [decide_eq_true (by omega : 0 < i + d), decide_eq_true (by omega : 0 < j + d), hs, h2.2.2.1, h2.2.2.2]
            cases hti : trn s.length (ch s) (i + d) with
            | true =>
              rw [if_pos rfl, sais_same.j3, if_pos rfl, isTurn_f s (by omega) (i + d) hid, Option.bind_some, hti, if_pos rfl, isTurn_f s (by omega) (j + d) hjd, Option.bind_some, ← ht, hti]
              have h3 := trn_iff.1 hti
              have hmd : md = false := by rw [← h2.2.2.1]; exact h3.2.2
              rw [hmd]
              simp only [Bool.false_eq_true, if_false]
              rw [(eq2_in hid).2 ⟨hjd, hc, hs, (fun h4 => by rw [h3.2.1] at h4; cases h4)⟩]
            | false =>
              rw [if_neg (by simp), isTurn_f s (by omega) (j + d) hjd, Option.bind_some, ← ht, hti, sais_same.j3, if_neg (by simp), show k + 4 * m + 3 + 1 = k + 4 * m + 4 by omega]
              exact fin (fun _ => ⟨hti, by rw [← ht]; exact hti⟩) k
        · have e : (if md then eq3 s.length (ch s) (i + d) (j + d) else eq2 s.length (ch s) (i + d) (j + d)) = false := by
            cases md
            · simp only [Bool.false_eq_true, if_false]
              cases h3 : eq2 s.length (ch s) (i + d) (j + d) with
              | false => rfl
              | true => exact absurd ((eq2_in hid).1 h3).2.2.1 hs
            · simp only [if_true]
              cases h3 : eq3 s.length (ch s) (i + d) (j + d) with
              | false => rfl
              | true => exact absurd ((eq3_in hid).1 h3).2.2.1 hs
          rw [e, if_pos (by rw [bne_iff_ne]; exact hs)]
      · have e : (if md then eq3 s.length (ch s) (i + d) (j + d) else eq2 s.length (ch s) (i + d) (j + d)) = false := by
          cases md
          · simp only [Bool.false_eq_true, if_false]
            cases h3 : eq2 s.length (ch s) (i + d) (j + d) with
            | false => rfl
            | true => exact absurd ((eq2_in hid).1 h3).2.1 hc
          · simp only [if_true]
            cases h3 : eq3 s.length (ch s) (i + d) (j + d) with
            | false => rfl
            | true => exact absurd ((eq3_in hid).1 h3).2.1 hc
        rw [if_neg hc, sais_same.j2, if_pos rfl, e]
    · have e : (if md then eq3 s.length (ch s) (i + d) (j + d) else eq2 s.length (ch s) (i + d) (j + d)) = false := by
        rw [eq3_symm, eq2_symm, eq3_out hjd, eq2_out hjd]; cases md <;> rfl
      rw [if_pos (by simp; omega), e]

/-- same: are two alike up to their next turns? -/
theorem same_f (hn : s.length ≤ 16777216) (i j : Nat) (hi : i ≤ s.length) (hj : j ≤ s.length) (k : Nat) : sais_same.f (k + 4 * s.length + 4) s (tyl s) (i : Int) (j : Int) = some (eq3 s.length (ch s) i j) := by
  unfold sais_same.f
  have := same_loop hn i j hi hj (s.length - i) 0 true (by omega) (by omega) (fun _ => rfl) (fun h => by omega) (k + 4 * i)
  rw [show k + 4 * i + 4 * (s.length - i) + 4 = k + 4 * s.length + 4 by omega] at this
  exact this
end
end Go.Proofs.Ytphchkkicpnehaa.SD
