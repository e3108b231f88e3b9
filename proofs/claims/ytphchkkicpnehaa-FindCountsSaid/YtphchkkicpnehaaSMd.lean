/- The printed functions of package sais against the plain mathematics: types, turns, check, buckets. -/
import Derived.Test.YtphchkkicpnehaaSMc
import Derived.Test.YtphchkkicpnehaaXx1
import Derived.Test.YtphchkkicpnehaaXx2
import Derived.Test.YtphchkkicpnehaaXx4
import Derived.Test.YtphchkkicpnehaaXx5
namespace Go.Proofs.Ytphchkkicpnehaa.SD
open Go.RowKit Go.Proofs.Ytphchkkicpnehaa.X Go.Proofs.Ytphchkkicpnehaa.SM Go.Proofs.YtphchkkicpnehaaW.PrintWords Go.Proofs.YtphchkkicpnehaaW.PrintLast

/-- The q-th number. -/
def ch (s : List Int) (q : Nat) : Int := s.getD q 0
def tyl (s : List Int) : List Bool := (List.range s.length).map (sm s.length (ch s))
/-- The turns, rising. -/
def tul (s : List Int) : List Int := ((List.range s.length).filter (trn s.length (ch s))).map (fun i : Nat => (i : Int))

theorem rd_nat (s : List Int) (q : Nat) : rd s (q : Int) = ch s q := by unfold rd ch; rw [Int.toNat_natCast]
theorem rdB_nat (t : List Bool) (q : Nat) : rdOf false t (q : Int) = t.getD q false := by unfold rdOf; rw [Int.toNat_natCast]
theorem getD_set {α : Type} (t : List α) (q j : Nat) (v d : α) (h : q < t.length) : (t.set q v).getD j d = if q = j then v else t.getD j d := by
  rw [List.getD_eq_getElem?_getD, List.getD_eq_getElem?_getD, List.getElem?_set]
  by_cases e : q = j
  · rw [if_pos e, if_pos e, if_pos h]; rfl
  · rw [if_neg e, if_neg e]
theorem tyl_length (s : List Int) : (tyl s).length = s.length := by unfold tyl; simp
theorem tyl_get {s : List Int} {q : Nat} (h : q < s.length) : (tyl s).getD q false = sm s.length (ch s) q := by
  unfold tyl
  rw [List.getD_eq_getElem?_getD, List.getElem?_map, List.getElem?_range h]; rfl
theorem tyl_out {s : List Int} {q : Nat} (h : s.length ≤ q) : (tyl s).getD q false = false := by
  rw [List.getD_eq_getElem?_getD, List.getElem?_eq_none (by rw [tyl_length]; exact h)]; rfl
theorem tyl_ext {s : List Int} {t : List Bool} (hl : t.length = s.length) (h : ∀ q, q < s.length → t.getD q false = sm s.length (ch s) q) : t = tyl s := by
  apply List.ext_getElem?
  intro q
  rcases Nat.lt_or_ge q s.length with hq | hq
  · have h1 := h q hq
    have h2 := tyl_get hq
    rw [List.getD_eq_getElem?_getD] at h1 h2
    have e1 : t[q]? = some t[q] := List.getElem?_eq_getElem (by omega)
    have hq2 : q < (tyl s).length := by rw [tyl_length]; exact hq
    have e2 : (tyl s)[q]? = some (tyl s)[q] := List.getElem?_eq_getElem hq2
    rw [e1] at h1 ⊢; rw [e2] at h2 ⊢
    simp only [Option.getD_some] at h1 h2
    rw [h1, h2]
  · rw [List.getElem?_eq_none (by omega), List.getElem?_eq_none (by rw [tyl_length]; exact hq)]

theorem w64 {x : Int} (h1 : -9223372036854775808 ≤ x) (h2 : x ≤ 9223372036854775807) : wrap64 x = x := by unfold wrap64; omega

theorem types_neg (k : Nat) (s : List Int) (i : Int) (t : List Bool) (h : i < 0) : sais_Types.l0 (k + 1) s i t = some t := by
  rw [sais_Types.l0]; rw [if_neg (by omega)]
theorem types_loop (s : List Int) (hs : s.length ≤ 140737488351328) (q : Nat) : ∀ (t : List Bool), q + 1 < s.length → t.length = s.length →
    (∀ j, q < j → j < s.length → t.getD j false = sm s.length (ch s) j) → ∀ k, sais_Types.l0 (k + q + 2) s (q : Int) t = some (tyl s) := by
  induction q with
  | zero =>
    intro t hq ht hi k
    have w1 : wrap64 ((0 : Nat) + 1 : Int) = ((1 : Nat) : Int) := by rw [w64 (by omega) (by omega)]; rfl
    have w2 : wrap64 (((0 : Nat) : Int) - 1) = -1 := by rw [w64 (by omega) (by omega)]; rfl
    rw [show k + 0 + 2 = (k + 1) + 1 from rfl, sais_Types.l0]
    rw [w1, w2, if_pos (by omega), if_pos (by omega), if_pos (by omega), if_pos (by omega), if_pos (by omega), rd_nat, rd_nat, rdB_nat]
    have hx : sm s.length (ch s) 0 = true ↔ ch s 0 < ch s 1 ∨ (ch s 0 = ch s 1 ∧ sm s.length (ch s) 1 = true) := sm_in (n := s.length) (c := ch s) (i := 0) hq
    have h1 := hi 1 (by omega) (by omega)
    have fin : ∀ v, v = sm s.length (ch s) 0 → (t.set (((0 : Nat) : Int)).toNat v) = tyl s := by
      intro v hv
      refine tyl_ext (by rw [List.length_set]; exact ht) (fun j hj => ?_)
      rw [Int.toNat_natCast, getD_set _ _ _ _ _ (by omega)]
      by_cases e : 0 = j
      · rw [if_pos e, ← e]; exact hv
      · rw [if_neg e]; exact hi j (by omega) hj
    by_cases a : ch s 0 < ch s 1
    · rw [if_pos a, if_pos (by omega), types_neg _ _ _ _ (by omega), fin true (hx.2 (.inl a)).symm]
    · rw [if_neg a]
      by_cases b : ch s 0 = ch s 1
      · rw [if_pos b, if_pos (by omega), if_pos (by omega), types_neg _ _ _ _ (by omega), fin _ ?_]
        rw [h1, Bool.eq_iff_iff, hx]
        exact ⟨fun h => .inr ⟨b, h⟩, fun h => h.elim (fun h2 => absurd h2 a) (fun h2 => h2.2)⟩
      · rw [if_neg b, if_pos (by omega), types_neg _ _ _ _ (by omega), fin false ?_]
        cases h2 : sm s.length (ch s) 0 with
        | false => rfl
        | true => exact absurd (hx.1 h2) (fun h => h.elim a (fun h3 => b h3.1))
  | succ q ih =>
    intro t hq ht hi k
    have w1 : wrap64 (((q + 1 : Nat) : Int) + 1) = ((q + 2 : Nat) : Int) := by rw [w64 (by omega) (by omega)]; omega
    have w2 : wrap64 (((q + 1 : Nat) : Int) - 1) = (q : Int) := by rw [w64 (by omega) (by omega)]; omega
    rw [show k + (q + 1) + 2 = (k + q + 2) + 1 by omega]
    rw [sais_Types.l0]
    rw [w1, w2, if_pos (by omega), if_pos (by omega), if_pos (by omega), if_pos (by omega), if_pos (by omega), rd_nat, rd_nat, rdB_nat]
    have hx : sm s.length (ch s) (q + 1) = true ↔ ch s (q + 1) < ch s (q + 2) ∨ (ch s (q + 1) = ch s (q + 2) ∧ sm s.length (ch s) (q + 2) = true) := sm_in (n := s.length) (c := ch s) (i := q + 1) hq
    have h1 := hi (q + 2) (by omega) (by omega)
    have fin : ∀ v, v = sm s.length (ch s) (q + 1) → ∀ k, sais_Types.l0 (k + q + 2) s (q : Int) (t.set (((q + 1 : Nat) : Int)).toNat v) = some (tyl s) := by
      intro v hv k
      refine ih _ (by omega) (by rw [List.length_set]; exact ht) (fun j hj hj2 => ?_) k
      rw [Int.toNat_natCast, getD_set _ _ _ _ _ (by omega)]
      by_cases e : q + 1 = j
      · rw [if_pos e, ← e]; exact hv
      · rw [if_neg e]; exact hi j (by omega) hj2
    by_cases a : ch s (q + 1) < ch s (q + 2)
    · rw [if_pos a, if_pos (by omega), fin true (hx.2 (.inl a)).symm]
    · rw [if_neg a]
      by_cases b : ch s (q + 1) = ch s (q + 2)
      · rw [if_pos b, if_pos (by omega), if_pos (by omega), fin _ ?_]
        rw [h1, Bool.eq_iff_iff, hx]
        exact ⟨fun h => .inr ⟨b, h⟩, fun h => h.elim (fun h2 => absurd h2 a) (fun h2 => h2.2)⟩
      · rw [if_neg b, if_pos (by omega), fin false ?_]
        cases h2 : sm s.length (ch s) (q + 1) with
        | false => rfl
        | true => exact absurd (hx.1 h2) (fun h => h.elim a (fun h3 => b h3.1))
/-- Types, of any numbers. -/
theorem types_f (s : List Int) (hs : s.length ≤ 140737488351328) (k : Nat) : sais_Types.f (k + s.length + 1) s = some (tyl s) := by
  unfold sais_Types.f
  rw [if_pos (by omega), if_pos (by omega)]
  rw [Int.toNat_natCast]
  have hr : (List.replicate s.length false).length = s.length := by simp
  have hg : ∀ j, (List.replicate s.length false).getD j false = false := by
    intro j; rw [List.getD_eq_getElem?_getD, List.getElem?_replicate]; split <;> rfl
  rcases Nat.lt_or_ge 1 s.length with h | h
  · have w : wrap64 ((s.length : Int) - 2) = ((s.length - 2 : Nat) : Int) := by rw [w64 (by omega) (by omega)]; omega
    rw [w]
    have := types_loop s hs (s.length - 2) (List.replicate s.length false) (by omega) hr (fun j h1 h2 => by
      rw [hg, sm_out (by omega)]) (k + 1)
    rw [show k + s.length + 1 = k + 1 + (s.length - 2) + 2 by omega]; exact this
  · have w : wrap64 ((s.length : Int) - 2) = (s.length : Int) - 2 := w64 (by omega) (by omega)
    rw [w, types_neg _ _ _ _ (by omega)]
    rw [tyl_ext hr (fun q hq => by rw [hg, sm_out (by omega)])]

theorem isTurn_f (s : List Int) (hs : s.length ≤ 140737488351328) (q : Nat) (hq : q < s.length) : sais_isTurn.f (tyl s) (q : Int) = some (trn s.length (ch s) q) := by
  unfold sais_isTurn.f
  by_cases h0 : 0 < q
  · have w : wrap64 ((q : Int) - 1) = ((q - 1 : Nat) : Int) := by rw [w64 (by omega) (by omega)]; omega
    rw [if_pos (by omega), if_pos (by omega), if_pos (by rw [tyl_length]; omega), w, rdB_nat, rdB_nat, tyl_get hq, tyl_get (q := q - 1) (by omega)]
    have ht : trn s.length (ch s) q = (sm s.length (ch s) q && !sm s.length (ch s) (q - 1)) := by unfold trn; simp [h0]
    by_cases a : sm s.length (ch s) q = true
    · rw [if_pos a, if_pos (by omega), if_pos (by rw [tyl_length]; omega), ht, a]; rfl
    · rw [if_neg a, ht]; simp only [Bool.not_eq_true] at a; rw [a]; rfl
  · rw [if_neg (by omega)]; unfold trn; simp [h0]
theorem isTurn_neg (t : List Bool) (i : Int) (h : i ≤ 0) : sais_isTurn.f t i = some false := by
  unfold sais_isTurn.f; rw [if_neg (by omega)]

theorem range_succ_filter (P : Nat → Bool) (q : Nat) : (List.range (q + 1)).filter P = (List.range q).filter P ++ (if P q then [q] else []) := by
  rw [List.range_succ, List.filter_append]
  congr 1
  by_cases h : P q = true
  · simp [h]
  · simp [h]
theorem lms_loop (s : List Int) (hs : s.length ≤ 17592186044415) (d : Nat) : ∀ q, s.length - q = d → q ≤ s.length → ∀ k,
    sais_Lms.l0 (k + d + 1) (((List.range q).filter (trn s.length (ch s))).map (fun i : Nat => (i : Int))) (tyl s) (s.length : Int) (q : Int) = some (tul s) := by
  induction d with
  | zero =>
    intro q hd hq k
    rw [sais_Lms.l0]
    rw [if_neg (by omega)]
    obtain rfl : q = s.length := by omega
    rfl
  | succ d ih =>
    intro q hd hq k
    have w : wrap64 ((q : Int) + 1) = ((q + 1 : Nat) : Int) := by rw [w64 (by omega) (by omega)]; omega
    rw [show k + (d + 1) + 1 = (k + d + 1) + 1 by omega]
    rw [sais_Lms.l0]
    rw [if_pos (by omega), isTurn_f s (by omega) q (by omega), Option.bind_some, w]
    have h := ih (q + 1) (by omega) (by omega) k
    rw [range_succ_filter] at h
    have hl : (((List.range q).filter (trn s.length (ch s))).map (fun i : Nat => (i : Int))).length < 17592186044416 := by
      rw [List.length_map]
      have := List.length_filter_le (trn s.length (ch s)) (List.range q)
      rw [List.length_range] at this
      omega
    by_cases a : trn s.length (ch s) q = true
    · rw [if_pos a, if_pos hl]
      rw [if_pos a, List.map_append] at h
      exact h
    · rw [if_neg a]
      rw [if_neg a, List.append_nil] at h
      exact h
/-- Lms, of any numbers. -/
theorem lms_f (s : List Int) (hs : s.length ≤ 17592186044415) (k : Nat) : sais_Lms.f (k + s.length + 1) s = some (tul s) := by
  unfold sais_Lms.f
  rw [types_f s (by omega), Option.bind_some, tyl_length]
  have := lms_loop s hs s.length 0 (by omega) (by omega) k
  simpa using this

/-- May a list be over an alphabet? -/
def Ok (k0 : Int) (s : List Int) : Prop := 0 ≤ k0 ∧ k0 ≤ 33554432 ∧ s.length ≤ 16777216 ∧ ∀ q, q < s.length → 0 ≤ ch s q ∧ ch s q < k0

open Classical in
theorem check_loop (k0 : Int) (s : List Int) (hs : s.length ≤ 16777216) (d : Nat) : ∀ q, s.length - q = d → q ≤ s.length → ∀ k,
    sais_check.l0 (k + d + 1) k0 s (s.length : Int) (q : Int) = some (if ∀ j, q ≤ j → j < s.length → 0 ≤ ch s j ∧ ch s j < k0 then 0 else 121) := by
  induction d with
  | zero =>
    intro q hd hq k
    rw [sais_check.l0]
    rw [if_neg (by omega), if_pos (fun j h1 h2 => by omega)]
  | succ d ih =>
    intro q hd hq k
    have w : wrap64 ((q : Int) + 1) = ((q + 1 : Nat) : Int) := by rw [w64 (by omega) (by omega)]; omega
    rw [show k + (d + 1) + 1 = (k + d + 1) + 1 by omega]
    rw [sais_check.l0]
    rw [if_pos (by omega), if_pos (by omega), if_pos (by omega), rd_nat, w]
    by_cases a : ch s q < 0
    · rw [if_pos a, if_neg (fun h => by have := h q (Nat.le_refl _) (by omega); omega)]
    · rw [if_neg a]
      by_cases b : ch s q ≥ k0
      · rw [if_pos b, if_neg (fun h => by have := h q (Nat.le_refl _) (by omega); omega)]
      · rw [if_neg b, ih (q + 1) (by omega) (by omega) k]
        congr 1
        have : (∀ j, q ≤ j → j < s.length → 0 ≤ ch s j ∧ ch s j < k0) ↔ (∀ j, q + 1 ≤ j → j < s.length → 0 ≤ ch s j ∧ ch s j < k0) := by
          constructor
          · intro h j h1 h2; exact h j (by omega) h2
          · intro h j h1 h2
            rcases Nat.lt_or_ge q j with h3 | h3
            · exact h j (by omega) h2
            · obtain rfl : j = q := by omega
              omega
        simp only [this]
open Classical in
/-- check, of any alphabet and any numbers. -/
theorem check_f (k0 : Int) (s : List Int) (hs : s.length ≤ 140737488351328) : ∃ K e, (∀ k, K ≤ k → sais_check.f k k0 s = some e) ∧ (e = 0 ↔ Ok k0 s) ∧
    (e = if k0 < 0 ∨ k0 > 33554432 then 1 else if s.length > 16777216 then 120 else if (∀ j, j < s.length → 0 ≤ ch s j ∧ ch s j < k0) then 0 else 121) := by
  by_cases a : k0 < 0 ∨ k0 > 33554432
  · refine ⟨1, 1, fun k hk => ?_, ?_, by rw [if_pos a]⟩
    · obtain ⟨k, rfl⟩ : ∃ m, k = m + 1 := ⟨k - 1, by omega⟩
      unfold sais_check.f
      by_cases b : k0 < 0
      · rw [if_pos b]; rw [sais_check.j0]; rw [if_pos rfl]
      · rw [if_neg b]; rw [sais_check.j0]; rw [if_pos (decide_eq_true (by omega))]
    · exact ⟨fun h => by omega, fun h => by have := h.1; have := h.2.1; omega⟩
  · by_cases b : s.length > 16777216
    · refine ⟨1, 120, fun k hk => ?_, ?_, by rw [if_neg a, if_pos b]⟩
      · obtain ⟨k, rfl⟩ : ∃ m, k = m + 1 := ⟨k - 1, by omega⟩
        unfold sais_check.f
        rw [if_neg (by omega)]; rw [sais_check.j0]
        rw [if_neg (by simp; omega), if_pos (by omega)]
      · exact ⟨fun h => by omega, fun h => by have := h.2.2.1; omega⟩
    · refine ⟨s.length + 2, if ∀ j, 0 ≤ j → j < s.length → 0 ≤ ch s j ∧ ch s j < k0 then 0 else 121, fun k hk => ?_, ?_, ?_⟩
      · obtain ⟨k, rfl⟩ : ∃ m, k = m + s.length + 2 := ⟨k - s.length - 2, by omega⟩
        unfold sais_check.f
        rw [if_neg (by omega)]; rw [sais_check.j0]
        rw [if_neg (by simp; omega), if_neg (by omega)]
        exact check_loop k0 s (by omega) s.length 0 (by omega) (by omega) k
      · constructor
        · intro h
          by_cases g : ∀ j, 0 ≤ j → j < s.length → 0 ≤ ch s j ∧ ch s j < k0
          · exact ⟨by omega, by omega, by omega, fun q hq => g q (by omega) hq⟩
          · rw [if_neg g] at h; omega
        · intro h; rw [if_pos (fun j _ hj => h.2.2.2 j hj)]
      · rw [if_neg a, if_neg b]
        simp only [Nat.zero_le, true_implies]
theorem check_ok {k0 : Int} {s : List Int} (h : Ok k0 s) (k : Nat) : sais_check.f (k + s.length + 2) k0 s = some 0 := by
  obtain ⟨h1, h2, h3, h4⟩ := h
  unfold sais_check.f
  rw [if_neg (by omega)]; rw [sais_check.j0]
  rw [if_neg (by simp; omega), if_neg (by omega)]
  rw [show k + s.length + 1 = k + s.length + 1 from rfl]
  rw [show ((0 : Int)) = ((0 : Nat) : Int) from rfl, check_loop k0 s (by omega) s.length 0 (by omega) (by omega) k, if_pos (fun j _ hj => h4 j hj)]; rfl
end Go.Proofs.Ytphchkkicpnehaa.SD
