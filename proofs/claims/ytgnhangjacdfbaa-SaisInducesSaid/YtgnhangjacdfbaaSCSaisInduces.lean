import Derived.Test.YtgnhangjacdfbaaSB
import Derived.Test.YtgnhangjacdfbaaXx12
import Derived.Test.YtgnhangjacdfbaaXx11
import Derived.Test.YtgnhangjacdfbaaXx13
import Derived.Test.YtgnhangjacdfbaaXx14
import Derived.Test.YtgnhangjacdfbaaXx16
import Derived.Test.YtgnhangjacdfbaaXx17
import Derived.Test.YtgnhangjacdfbaaXx15
import Derived.Test.YtgnhangjacdfbaaXx18
import Derived.Test.YtgnhangjacdfbaaXx45
import Derived.Test.YtgnhangjacdfbaaXx21
section
/- The laws' functions awake and Same of layer 12; the suffixes' order is one. -/
namespace Go.Proofs.Ytgnhangjacdfbaa.SD
open Go.RowKit Go.Proofs.Ytgnhangjacdfbaa Go.Proofs.Ytgnhangjacdfbaa.X Go.Proofs.Ytgnhangjacdfbaa.SM Go.Proofs.YtgnhangjacdfbaaW.PrintWords Go.Proofs.YtgnhangjacdfbaaW.PrintLast

theorem awake_f : ∃ K, ∀ k, K ≤ k → sapperlaw12_awake.f k = some true := by
  have h : sapperlaw12_awake.f 100 = some true := by decide +kernel
  exact ⟨100, fun k hk => at_rounds (g := fun k => sapperlaw12_awake.f k) (fun k => sapperlaw12_awake.mono k) hk h⟩

theorem same12_loop (l : List Int) (hl : l.length ≤ 9223372036854775000) (d : Nat) : ∀ q, l.length - q = d → q ≤ l.length → ∀ k, sapperlaw12_Same.l0 (k + 2 * d + 2) l l (q : Int) = some true := by
  induction d with
  | zero =>
    intro q hd hq k
    rw [show k + 2 * 0 + 2 = k + 1 + 1 by omega, sapperlaw12_Same.l0, if_neg (by omega), sapperlaw12_Same.j1, if_neg (by simp)]
    simp
  | succ d ih =>
    intro q hd hq k
    rw [show k + 2 * (d + 1) + 2 = k + 2 * d + 2 + 1 + 1 by omega, sapperlaw12_Same.l0, if_pos (by omega), sapperlaw12_Same.j1, if_pos (by simp <;> omega), if_pos (by omega), if_pos (by omega), if_pos (by omega), if_pos rfl, wp (y := ((q + 1 : Nat) : Int)) (by omega) (by omega) (by omega)]
    exact ih (q + 1) (by omega) (by omega) k
theorem same12_f (l : List Int) (hl : l.length ≤ 9223372036854775000) (k : Nat) : sapperlaw12_Same.f (k + 2 * l.length + 2) l l = some true := by
  unfold sapperlaw12_Same.f
  exact same12_loop l hl l.length 0 (by omega) (by omega) k
theorem same12_ge {l : List Int} (hl : l.length ≤ 9223372036854775000) {k : Nat} (hk : 2 * l.length + 2 ≤ k) : sapperlaw12_Same.f k l l = some true := by
  have := same12_f l hl (k - 2 * l.length - 2)
  rw [show k - 2 * l.length - 2 + 2 * l.length + 2 = k by omega] at this; exact this

section
variable {s : List Int}
end
end Go.Proofs.Ytgnhangjacdfbaa.SD
end

section
/- The laws' own functions of layer 12 and its check, against the plain mathematics (SLa without the document's order of all suffixes). -/
namespace Go.Proofs.Ytgnhangjacdfbaa.SD
open Go.RowKit Go.Proofs.Ytgnhangjacdfbaa Go.Proofs.Ytgnhangjacdfbaa.X Go.Proofs.Ytgnhangjacdfbaa.SM Go.Proofs.YtgnhangjacdfbaaW.PrintWords Go.Proofs.YtgnhangjacdfbaaW.PrintLast

theorem lend_f (l : List Int) (hl : l.length ≤ 17592186044411) : sapperlaw12_lend.f l = some (l ++ [71, 72, 73, 74]) := by
  unfold sapperlaw12_lend.f
  rw [if_pos (by simp <;> omega)]
  simp only [Option.bind_some, List.nil_append]
  rw [if_pos (by simp <;> omega)]

theorem own_l0 (b w : List Int) (n : Nat) (hn : n ≤ 9223372036854775000) (d : Nat) : ∀ q (a : List Int), n - q = d → q ≤ n → a.length = n → ∃ a', a'.length = n ∧ ∀ k, sapperlaw12_own.l0 (k + d + 1) a b w (q : Int) = sapperlaw12_own.l1 k a' b w 0 := by
  induction d with
  | zero =>
    intro q a hd hq ha
    exact ⟨a, ha, fun k => by rw [sapperlaw12_own.l0, if_neg (by omega)]⟩
  | succ d ih =>
    intro q a hd hq ha
    obtain ⟨a', g1, g2⟩ := ih (q + 1) (a.set q 81) (by omega) (by omega) (by rw [List.length_set]; exact ha)
    refine ⟨a', g1, fun k => ?_⟩
    rw [show k + (d + 1) + 1 = k + d + 1 + 1 by omega, sapperlaw12_own.l0, if_pos (by omega), if_pos (by omega), Int.toNat_natCast, wp (y := ((q + 1 : Nat) : Int)) (by omega) (by omega) (by omega)]
    exact g2 k
theorem own_l1 (b w : List Int) (hw : w.length ≤ 17592186044000) (d : Nat) : ∀ q (a : List Int), 40 - q = d → q ≤ 40 → a.length = w.length + q → b = w → ∀ k, 2 * w.length + 2 ≤ k → sapperlaw12_own.l1 (k + d + 1) a b w (q : Int) = some true := by
  induction d with
  | zero =>
    intro q a hd hq ha hb k hk
    subst hb
    rw [show k + 0 + 1 = k + 1 by omega, sapperlaw12_own.l1, if_neg (by omega), same12_ge (by omega) hk, Option.bind_some, if_pos rfl, w64 (by omega) (by omega)]
    congr 1
    rw [beq_iff_eq]; omega
  | succ d ih =>
    intro q a hd hq ha hb k hk
    rw [show k + (d + 1) + 1 = k + d + 1 + 1 by omega, sapperlaw12_own.l1, if_pos (by omega), if_pos (by omega), wp (y := ((q + 1 : Nat) : Int)) (by omega) (by omega) (by omega)]
    exact ih (q + 1) (a ++ [82]) (by omega) (by omega) (by rw [List.length_append, ha]; simp; omega) hb k hk
theorem own_f (l : List Int) (hl : l.length ≤ 17592186044000) (k : Nat) (hk : 5 * l.length + 100 ≤ k) : sapperlaw12_own.f k l l l = some true := by
  unfold sapperlaw12_own.f
  rw [same12_ge (by omega) (by omega), Option.bind_some, if_pos rfl, Option.bind_some]
  obtain ⟨k, rfl⟩ : ∃ m, k = m + 1 := ⟨k - 1, by omega⟩
  rw [sapperlaw12_own.j0, if_neg (by simp)]
  obtain ⟨a', g1, g2⟩ := own_l0 l l l.length (by omega) l.length 0 l (by omega) (by omega) rfl
  have := g2 (k - l.length - 1)
  rw [show k - l.length - 1 + l.length + 1 = k by omega, show ((0 : Nat) : Int) = 0 from rfl] at this
  rw [this]
  have := own_l1 l l hl 40 0 a' (by omega) (by omega) (by omega) rfl (k - l.length - 1 - 41) (by omega)
  rw [show k - l.length - 1 - 41 + 40 + 1 = k - l.length - 1 by omega] at this
  exact this

/-! ### the reference -/
open Classical in
theorem wrong_loop (k0 : Int) (s : List Int) (hs : s.length ≤ 16777216) (d : Nat) : ∀ q, s.length - q = d → q ≤ s.length → ∀ k,
    sapperref12_wrong.l0 (k + d + 1) k0 s (q : Int) = some (if ∀ j, q ≤ j → j < s.length → 0 ≤ ch s j ∧ ch s j < k0 then 0 else 121) := by
  induction d with
  | zero =>
    intro q hd hq k
    rw [sapperref12_wrong.l0, if_neg (by omega), if_pos (fun j h1 h2 => by omega)]
  | succ d ih =>
    intro q hd hq k
    rw [show k + (d + 1) + 1 = (k + d + 1) + 1 by omega]
    rw [sapperref12_wrong.l0, if_pos (by omega), if_pos (by omega), rd_nat, wp (y := ((q + 1 : Nat) : Int)) (by omega) (by omega) (by omega)]
    by_cases a : ch s q < 0
    · rw [if_pos a, if_neg (fun h => by have := h q (Nat.le_refl _) (by omega); omega)]
    · rw [if_neg a]
      by_cases b : ch s q ≥ k0
      · rw [if_pos b, if_neg (fun h => by have := h q (Nat.le_refl _) (by omega); omega)]
      · rw [if_neg b, ih (q + 1) (by omega) (by omega) k]
        congr 1
        have : (∀ j, q ≤ j → j < s.length → 0 ≤ ch s j ∧ ch s j < k0) ↔ (∀ j, q + 1 ≤ j → j < s.length → 0 ≤ ch s j ∧ ch s j < k0) := by
          constructor
          · intro h j h1 h2; exact h j (by omega) h2
          · intro h j h1 h2
            rcases Nat.lt_or_ge q j with h3 | h3
            · exact h j (by omega) h2
            · obtain rfl : j = q := by omega
              omega
        simp only [this]
open Classical in
theorem wrong_f (k0 : Int) (s : List Int) : ∃ K, ∀ k, K ≤ k → sapperref12_wrong.f k k0 s = some (if k0 < 0 ∨ k0 > 33554432 then 1 else if s.length > 16777216 then 120 else if (∀ j, j < s.length → 0 ≤ ch s j ∧ ch s j < k0) then 0 else 121) := by
  refine ⟨s.length + 2, fun k hk => ?_⟩
  obtain ⟨k, rfl⟩ : ∃ m, k = m + s.length + 2 := ⟨k - s.length - 2, by omega⟩
  unfold sapperref12_wrong.f
  by_cases a : k0 < 0 ∨ k0 > 33554432
  · rw [if_pos a]
    by_cases b : k0 < 0
    · rw [if_pos b]; rw [sapperref12_wrong.j0]; rw [if_pos rfl]
    · rw [if_neg b]; rw [sapperref12_wrong.j0]; rw [if_pos (decide_eq_true (by omega))]
  · rw [if_neg a, if_neg (by omega)]; rw [sapperref12_wrong.j0]
    rw [if_neg (by simp <;> omega)]
    by_cases b : s.length > 16777216
    · rw [if_pos b, if_pos (by omega)]
    · rw [if_neg b, if_neg (by omega)]
      have := wrong_loop k0 s (by omega) s.length 0 (by omega) (by omega) k
      simp only [Nat.zero_le, true_implies] at this
      exact this

/-- The one error of both. -/
theorem both_wrong (k0 : Int) (s : List Int) (hs : s.length ≤ 140737488351328) : ∃ K e, (∀ k, K ≤ k → sais_check.f k k0 s = some e ∧ sapperref12_wrong.f k k0 s = some e) ∧ (e = 0 ↔ Ok k0 s) := by
  obtain ⟨K1, e, h1, h2, h3⟩ := check_f k0 s hs
  obtain ⟨K2, h4⟩ := wrong_f k0 s
  exact ⟨K1 + K2, e, fun k hk => ⟨h1 k (by omega), by rw [h3]; exact h4 k (by omega)⟩, h2⟩
end Go.Proofs.Ytgnhangjacdfbaa.SD
end

section
/- The document's buckets. -/
namespace Go.Proofs.Ytgnhangjacdfbaa.SD
open Go.RowKit Go.Proofs.Ytgnhangjacdfbaa Go.Proofs.Ytgnhangjacdfbaa.X Go.Proofs.Ytgnhangjacdfbaa.SD Go.Proofs.Ytgnhangjacdfbaa.SM Go.Proofs.YtgnhangjacdfbaaW.PrintWords Go.Proofs.YtgnhangjacdfbaaW.PrintLast

section
variable {k0 : Int} {s : List Int}
theorem rbuckets_l1 (hok : Ok k0 s) (A : Nat) (hA : k0 = A) (ct : List Int) (hc : ct.length = A) (hct : ∀ u : Nat, u < A → ch ct u = (cv s.length (ch s) u : Int)) (d : Nat) : ∀ v (hd en : List Int), A - v = d → v ≤ A → hd.length = A → en.length = A →
    (∀ u, u < v → ch hd u = (fr s.length (ch s) u : Int)) → (∀ u, u < v → ch en u = (tov s.length (ch s) u : Int)) →
    ∃ hd' en', hd'.length = A ∧ en'.length = A ∧ (∀ u, u < A → ch hd' u = (fr s.length (ch s) u : Int)) ∧ (∀ u, u < A → ch en' u = (tov s.length (ch s) u : Int)) ∧
      ∀ k, sapperref12_Buckets.l1 (k + d + 1) k0 (fr s.length (ch s) v : Int) (v : Int) ct hd en = some (hd', en', 0) := by
  have hn := hok.2.2.1
  have hA2 := hok.2.1
  induction d with
  | zero =>
    intro v hd en hdv hv h1 h2 h3 h4
    obtain rfl : v = A := by omega
    refine ⟨hd, en, h1, h2, h3, h4, fun k => ?_⟩
    rw [sapperref12_Buckets.l1, if_neg (by omega)]
  | succ d ih =>
    intro v hd en hdv hv h1 h2 h3 h4
    have e1 := hct v (by omega)
    have e2 := to_cv s.length (ch s) v
    have e3 := fr_succ s.length (ch s) v
    have e4 := to_le (n := s.length) (c := ch s) v
    have w2 : (-9223372036854775808 : Int) ≤ (fr s.length (ch s) v : Int) + (cv s.length (ch s) v : Int) ∧ (fr s.length (ch s) v : Int) + (cv s.length (ch s) v : Int) ≤ 9223372036854775807 := by omega
    have w3 : (fr s.length (ch s) v : Int) + (cv s.length (ch s) v : Int) = (tov s.length (ch s) v : Int) := by omega
    have w4 : (-9223372036854775808 : Int) ≤ (v : Int) + 1 ∧ (v : Int) + 1 ≤ 9223372036854775807 := by omega
    obtain ⟨hd', en', g1, g2, g3, g4, g5⟩ := ih (v + 1) (hd.set v (fr s.length (ch s) v : Int)) (en.set v (tov s.length (ch s) v : Int)) (by omega) (by omega) (by rw [List.length_set]; exact h1) (by rw [List.length_set]; exact h2)
      (fun u hu => by
        rw [ch_set _ _ _ _ (by omega)]
        by_cases e : v = u
        · rw [if_pos e, e]
        · rw [if_neg e]; exact h3 u (by omega))
      (fun u hu => by
        rw [ch_set _ _ _ _ (by omega)]
        by_cases e : v = u
        · rw [if_pos e, e]
        · rw [if_neg e]; exact h4 u (by omega))
    refine ⟨hd', en', g1, g2, g3, g4, fun k => ?_⟩
    rw [show k + (d + 1) + 1 = (k + d + 1) + 1 by omega, sapperref12_Buckets.l1]
    rw [if_pos (by omega), if_pos (by omega), if_pos (by omega), if_pos (by omega), if_pos (by omega), rd_nat, e1, w64 w2.1 w2.2, w64 w4.1 w4.2, w3, Int.toNat_natCast]
    have := g5 k
    rw [show ((v + 1 : Nat) : Int) = (v : Int) + 1 by omega, e3] at this
    exact this

theorem rbuckets_l0 (hok : Ok k0 s) (A : Nat) (hA : k0 = A) (d : Nat) : ∀ q (en : List Int), s.length - q = d → q ≤ s.length → en.length = A → (∀ u : Nat, u < A → ch en u = (cv q (ch s) u : Int)) →
    ∃ hd' en', hd'.length = A ∧ en'.length = A ∧ (∀ u, u < A → ch hd' u = (fr s.length (ch s) u : Int)) ∧ (∀ u, u < A → ch en' u = (tov s.length (ch s) u : Int)) ∧
      ∀ k, sapperref12_Buckets.l0 (k + d + A + 2) k0 s (q : Int) en = some (hd', en', 0) := by
  have hn := hok.2.2.1
  have hA2 := hok.2.1
  induction d with
  | zero =>
    intro q en hdq hq h2 h3
    obtain rfl : q = s.length := by omega
    have h0 : fr s.length (ch s) 0 = 0 := fr_zero fun j hj => (hok.2.2.2 j hj).1
    obtain ⟨hd', en', g1, g2, g3, g4, g5⟩ := rbuckets_l1 hok A hA en h2 h3 A 0 (List.replicate A 0) (List.replicate A 0) (by omega) (by omega) (by simp) (by simp) (fun u hu => by omega) (fun u hu => by omega)
    refine ⟨hd', en', g1, g2, g3, g4, fun k => ?_⟩
    rw [show k + 0 + A + 2 = (k + A + 1) + 1 by omega, sapperref12_Buckets.l0, if_neg (by omega), if_pos (by omega), if_pos (by omega)]
    have := g5 k
    rw [show ((0 : Nat) : Int) = (0 : Int) from rfl, h0] at this
    rw [show (k0 : Int).toNat = A by omega]
    exact this
  | succ d ih =>
    intro q en hdq hq h2 h3
    have hc := hok.2.2.2 q (by omega)
    obtain ⟨v, hv⟩ : ∃ v : Nat, ch s q = v := ⟨(ch s q).toNat, by omega⟩
    obtain ⟨z, hz, hzq⟩ : ∃ z : Nat, cv q (ch s) (v : Int) = z ∧ z ≤ q := ⟨_, rfl, cv_le _ _ _⟩
    have hvA : v < A := by omega
    have e1 : ch en v = (z : Int) := by rw [← hz]; exact h3 v hvA
    have hq2 : q ≤ 16777216 := by omega
    have h4 : ∀ u : Nat, u < A → ch (en.set v ((z + 1 : Nat) : Int)) u = (cv (q + 1) (ch s) u : Int) := by
      intro u hu
      rw [ch_set _ _ _ _ (by rw [h2]; exact hvA)]
      by_cases e : v = u
      · subst e; rw [if_pos rfl, cv_succ, if_pos (decide_eq_true hv), hz]
      · rw [if_neg e, cv_succ, if_neg (fun h => e (by have := of_decide_eq_true h; omega)), Nat.add_zero]; exact h3 u hu
    obtain ⟨hd', en', g1, g2, g3, g4, g5⟩ := ih (q + 1) (en.set v ((z + 1 : Nat) : Int)) (by omega) (by omega) (by rw [List.length_set]; exact h2) h4
    refine ⟨hd', en', g1, g2, g3, g4, fun k => ?_⟩
    clear h4 hz h3
    rw [show k + (d + 1) + A + 2 = (k + d + A + 2) + 1 by omega, sapperref12_Buckets.l0]
    rw [if_pos (by omega), if_pos (by omega), rd_nat, hv, if_pos (by omega), if_pos (by omega), rd_nat, e1, w64s hzq hq2, w64s (Nat.le_refl q) hq2, Int.toNat_natCast]
    exact g5 k

theorem ch_ext {l l' : List Int} {A : Nat} (h1 : l.length = A) (h2 : l'.length = A) (h : ∀ u, u < A → ch l u = ch l' u) : l = l' := by
  apply List.ext_getElem?
  intro q
  rcases Nat.lt_or_ge q A with hq | hq
  · have h3 := h q hq
    have e1 : l[q]? = some l[q] := List.getElem?_eq_getElem (by omega)
    have e2 : l'[q]? = some l'[q] := List.getElem?_eq_getElem (by omega)
    unfold ch at h3
    rw [List.getD_eq_getElem?_getD, List.getD_eq_getElem?_getD] at h3
    rw [e1] at h3 ⊢; rw [e2] at h3 ⊢
    simp only [Option.getD_some] at h3
    rw [h3]
  · rw [List.getElem?_eq_none (by omega), List.getElem?_eq_none (by omega)]

end
end Go.Proofs.Ytgnhangjacdfbaa.SD
end

section
/- The document's types and turns. -/
namespace Go.Proofs.Ytgnhangjacdfbaa.SD
open Go.RowKit Go.Proofs.Ytgnhangjacdfbaa Go.Proofs.Ytgnhangjacdfbaa.X Go.Proofs.Ytgnhangjacdfbaa.SM Go.Proofs.YtgnhangjacdfbaaW.PrintWords Go.Proofs.YtgnhangjacdfbaaW.PrintLast

theorem rtypes_neg (k : Nat) (s : List Int) (i : Int) (t : List Bool) (h : i < 0) : sapperref12_Types.l0 (k + 1) s i t = some t := by
  rw [sapperref12_Types.l0]; rw [if_neg (by omega)]
theorem rtypes_loop (s : List Int) (hs : s.length ≤ 140737488351328) (q : Nat) : ∀ (t : List Bool), q + 1 < s.length → t.length = s.length →
    (∀ j, q < j → j < s.length → t.getD j false = sm s.length (ch s) j) → ∀ k, sapperref12_Types.l0 (k + q + 2) s (q : Int) t = some (tyl s) := by
  induction q with
  | zero =>
    intro t hq ht hi k
    have w1 : wrap64 ((0 : Nat) + 1 : Int) = ((1 : Nat) : Int) := by rw [w64 (by omega) (by omega)]; rfl
    have w2 : wrap64 (((0 : Nat) : Int) - 1) = -1 := by rw [w64 (by omega) (by omega)]; rfl
    rw [show k + 0 + 2 = (k + 1) + 1 from rfl, sapperref12_Types.l0]
    rw [w1, w2, if_pos (by omega), if_pos (by omega), if_pos (by omega), if_pos (by omega), if_pos (by omega), rd_nat, rd_nat, rdB_nat]
    have hx : sm s.length (ch s) 0 = true ↔ ch s 0 < ch s 1 ∨ (ch s 0 = ch s 1 ∧ sm s.length (ch s) 1 = true) := sm_in (n := s.length) (c := ch s) (i := 0) hq
    have h1 := hi 1 (by omega) (by omega)
    have fin : ∀ v, v = sm s.length (ch s) 0 → (t.set (((0 : Nat) : Int)).toNat v) = tyl s := by
      intro v hv
      refine tyl_ext (by rw [List.length_set]; exact ht) (fun j hj => ?_)
      rw [Int.toNat_natCast, getD_set _ _ _ _ _ (by omega)]
      by_cases e : 0 = j
      · rw [if_pos e, ← e]; exact hv
      · rw [if_neg e]; exact hi j (by omega) hj
    by_cases a : ch s 0 < ch s 1
    · rw [if_pos a, if_pos (by omega), rtypes_neg _ _ _ _ (by omega), fin true (hx.2 (.inl a)).symm]
    · rw [if_neg a]
      by_cases b : ch s 0 = ch s 1
      · rw [if_pos b, if_pos (by omega), if_pos (by omega), rtypes_neg _ _ _ _ (by omega), fin _ ?_]
        rw [h1, Bool.eq_iff_iff, hx]
        exact ⟨fun h => .inr ⟨b, h⟩, fun h => h.elim (fun h2 => absurd h2 a) (fun h2 => h2.2)⟩
      · rw [if_neg b, if_pos (by omega), rtypes_neg _ _ _ _ (by omega), fin false ?_]
        cases h2 : sm s.length (ch s) 0 with
        | false => rfl
        | true => exact absurd (hx.1 h2) (fun h => h.elim a (fun h3 => b h3.1))
  | succ q ih =>
    intro t hq ht hi k
    have w1 : wrap64 (((q + 1 : Nat) : Int) + 1) = ((q + 2 : Nat) : Int) := by rw [w64 (by omega) (by omega)]; omega
    have w2 : wrap64 (((q + 1 : Nat) : Int) - 1) = (q : Int) := by rw [w64 (by omega) (by omega)]; omega
    rw [show k + (q + 1) + 2 = (k + q + 2) + 1 by omega]
    rw [sapperref12_Types.l0]
    rw [w1, w2, if_pos (by omega), if_pos (by omega), if_pos (by omega), if_pos (by omega), if_pos (by omega), rd_nat, rd_nat, rdB_nat]
    have hx : sm s.length (ch s) (q + 1) = true ↔ ch s (q + 1) < ch s (q + 2) ∨ (ch s (q + 1) = ch s (q + 2) ∧ sm s.length (ch s) (q + 2) = true) := sm_in (n := s.length) (c := ch s) (i := q + 1) hq
    have h1 := hi (q + 2) (by omega) (by omega)
    have fin : ∀ v, v = sm s.length (ch s) (q + 1) → ∀ k, sapperref12_Types.l0 (k + q + 2) s (q : Int) (t.set (((q + 1 : Nat) : Int)).toNat v) = some (tyl s) := by
      intro v hv k
      refine ih _ (by omega) (by rw [List.length_set]; exact ht) (fun j hj hj2 => ?_) k
      rw [Int.toNat_natCast, getD_set _ _ _ _ _ (by omega)]
      by_cases e : q + 1 = j
      · rw [if_pos e, ← e]; exact hv
      · rw [if_neg e]; exact hi j (by omega) hj2
    by_cases a : ch s (q + 1) < ch s (q + 2)
    · rw [if_pos a, if_pos (by omega), fin true (hx.2 (.inl a)).symm]
    · rw [if_neg a]
      by_cases b : ch s (q + 1) = ch s (q + 2)
      · rw [if_pos b, if_pos (by omega), if_pos (by omega), fin _ ?_]
        rw [h1, Bool.eq_iff_iff, hx]
        exact ⟨fun h => .inr ⟨b, h⟩, fun h => h.elim (fun h2 => absurd h2 a) (fun h2 => h2.2)⟩
      · rw [if_neg b, if_pos (by omega), fin false ?_]
        cases h2 : sm s.length (ch s) (q + 1) with
        | false => rfl
        | true => exact absurd (hx.1 h2) (fun h => h.elim a (fun h3 => b h3.1))
/-- Types, of any numbers. -/
theorem rtypes_f (s : List Int) (hs : s.length ≤ 140737488351328) (k : Nat) : sapperref12_Types.f (k + s.length + 1) s = some (tyl s) := by
  unfold sapperref12_Types.f
  rw [if_pos (by omega), if_pos (by omega)]
  rw [Int.toNat_natCast]
  have hr : (List.replicate s.length false).length = s.length := by simp
  have hg : ∀ j, (List.replicate s.length false).getD j false = false := by
    intro j; rw [List.getD_eq_getElem?_getD, List.getElem?_replicate]; split <;> rfl
  rcases Nat.lt_or_ge 1 s.length with h | h
  · have w : wrap64 ((s.length : Int) - 2) = ((s.length - 2 : Nat) : Int) := by rw [w64 (by omega) (by omega)]; omega
    rw [w]
    have := rtypes_loop s hs (s.length - 2) (List.replicate s.length false) (by omega) hr (fun j h1 h2 => by
      rw [hg, sm_out (by omega)]) (k + 1)
    rw [show k + s.length + 1 = k + 1 + (s.length - 2) + 2 by omega]; exact this
  · have w : wrap64 ((s.length : Int) - 2) = (s.length : Int) - 2 := w64 (by omega) (by omega)
    rw [w, rtypes_neg _ _ _ _ (by omega)]
    rw [tyl_ext hr (fun q hq => by rw [hg, sm_out (by omega)])]

theorem rlms_loop (s : List Int) (hs : s.length ≤ 17592186044415) (d : Nat) : ∀ q, s.length - q = d → q ≤ s.length → 1 ≤ q → ∀ k,
    sapperref12_Lms.l0 (k + d + 1) s (((List.range q).filter (trn s.length (ch s))).map (fun i : Nat => (i : Int))) (q : Int) (tyl s) = some (tul s) := by
  induction d with
  | zero =>
    intro q hd hq _ k
    rw [sapperref12_Lms.l0, if_neg (by omega)]
    obtain rfl : q = s.length := by omega
    rfl
  | succ d ih =>
    intro q hd hq h1 k
    have w : wrap64 ((q : Int) + 1) = ((q + 1 : Nat) : Int) := by rw [w64 (by omega) (by omega)]; omega
    have w2 : wrap64 ((q : Int) - 1) = ((q - 1 : Nat) : Int) := by rw [w64 (by omega) (by omega)]; omega
    have ht : trn s.length (ch s) q = (sm s.length (ch s) q && !sm s.length (ch s) (q - 1)) := by unfold trn; simp [show 0 < q by omega]
    have hl : (((List.range q).filter (trn s.length (ch s))).map (fun i : Nat => (i : Int))).length < 17592186044416 := by
      rw [List.length_map]
      have := List.length_filter_le (trn s.length (ch s)) (List.range q)
      rw [List.length_range] at this
      omega
    have h := ih (q + 1) (by omega) (by omega) (by omega) k
    rw [range_succ_filter] at h
    rw [show k + (d + 1) + 1 = (k + d + 1) + 1 by omega, sapperref12_Lms.l0, w, w2, if_pos (by omega), if_pos (by omega), if_pos (by rw [tyl_length]; omega), rdB_nat, rdB_nat, tyl_get (q := q) (by omega), tyl_get (q := q - 1) (by omega)]
    cases a : sm s.length (ch s) q with
    | false =>
      rw [ht, a, Bool.false_and, if_neg (by decide), List.append_nil] at h
      rw [if_neg (by decide)]
      exact h
    | true =>
      rw [if_pos rfl, if_pos (by omega), if_pos (by rw [tyl_length]; omega)]
      cases b : sm s.length (ch s) (q - 1) with
      | true =>
        rw [ht, a, b, Bool.not_true, Bool.and_false, if_neg (by decide), List.append_nil] at h
        rw [if_pos rfl]
        exact h
      | false =>
        rw [ht, a, b, Bool.not_false, Bool.and_true, if_pos rfl, List.map_append] at h
        rw [if_neg (by decide), if_pos hl]
        exact h
theorem rlms_f (s : List Int) (hs : s.length ≤ 17592186044415) (k : Nat) (hk : s.length + 2 ≤ k) : sapperref12_Lms.f k s = some (tul s) := by
  unfold sapperref12_Lms.f
  obtain ⟨j, rfl⟩ : ∃ j, k = j + s.length + 1 := ⟨k - s.length - 1, by omega⟩
  rw [rtypes_f s (by omega), Option.bind_some]
  by_cases h0 : s.length = 0
  · rw [sapperref12_Lms.l0, if_neg (by omega)]
    unfold tul
    rw [h0]; rfl
  · have h := rlms_loop s hs (s.length - 1) 1 (by omega) (by omega) (Nat.le_refl _) (j + 1)
    rw [show j + 1 + (s.length - 1) + 1 = j + s.length + 1 by omega] at h
    have e : ((List.range 1).filter (trn s.length (ch s))).map (fun i : Nat => (i : Int)) = [] := by
      have : trn s.length (ch s) 0 = false := by unfold trn; simp
      simp [List.range_succ, this]
    rw [e] at h
    exact h
theorem tul_le (s : List Int) : (tul s).length ≤ s.length := by
  unfold tul
  rw [List.length_map]
  exact Nat.le_trans (List.length_filter_le _ _) (by rw [List.length_range]; exact Nat.le_refl _)
end Go.Proofs.Ytgnhangjacdfbaa.SD
end

section
/- sais.Induce, of any order of the turns: the row that the order induces. -/
namespace Go.Proofs.Ytgnhangjacdfbaa.SD
open Go.RowKit Go.Proofs.Ytgnhangjacdfbaa Go.Proofs.Ytgnhangjacdfbaa.X Go.Proofs.Ytgnhangjacdfbaa.SM Go.Proofs.YtgnhangjacdfbaaW.PrintWords Go.Proofs.YtgnhangjacdfbaaW.PrintLast

section
variable {s o : List Int} {k0 : Int}

theorem ch_get {o : List Int} {a : Nat} (h : a < o.length) : o[a] = ch o a := by
  unfold ch; rw [List.getD_eq_getElem?_getD, List.getElem?_eq_getElem h]; rfl
theorem mem_tul {x : Int} : x ∈ tul s ↔ ∃ t : Nat, trn s.length (ch s) t = true ∧ x = t := by
  unfold tul
  simp only [List.mem_map, List.mem_filter, List.mem_range]
  constructor
  · rintro ⟨t, ⟨_, h⟩, rfl⟩; exact ⟨t, h, rfl⟩
  · rintro ⟨t, h, rfl⟩; exact ⟨t, ⟨by have := trn_lt h; omega, h⟩, rfl⟩
theorem tul_pw : (tul s).Pairwise (fun a b => a < b) := by
  unfold tul
  rw [List.pairwise_map]
  exact (List.pairwise_lt_range.filter _).imp (fun h => by omega)
theorem sort_perm (h : o.Perm (tul s)) : o.mergeSort (fun x y => decide (x ≤ y)) = tul s := by
  refine List.Perm.eq_of_pairwise (le := fun a b : Int => a ≤ b) (fun a b _ _ h1 h2 => by omega) ?_ (tul_pw.imp (fun h => by omega)) ((List.mergeSort_perm _ _).trans h)
  exact (List.pairwise_mergeSort (le := fun x y : Int => decide (x ≤ y)) (fun a b c h1 h2 => by simp only [decide_eq_true_eq] at *; omega) (fun a b => by simp only [Bool.or_eq_true, decide_eq_true_eq]; omega) o).imp (fun h => by simpa using h)
theorem tul_nodup : (tul s).Nodup := tul_pw.imp (fun h => by omega)
theorem nodup_ch {o : List Int} (h : o.Nodup) {a b : Nat} (ha : a < o.length) (hb : b < o.length) (e : ch o a = ch o b) : a = b := by
  have h2 := List.pairwise_iff_getElem.1 h
  rcases Nat.lt_trichotomy a b with z | z | z
  · have := h2 a b ha hb z; rw [ch_get ha, ch_get hb] at this; exact absurd e this
  · exact z
  · have := h2 b a hb ha z; rw [ch_get ha, ch_get hb] at this; exact absurd e.symm this
/-- Any order of the turns is an order. -/
theorem ord_of_perm (h : o.Perm (tul s)) : Ord s o (fun t => o.idxOf (t : Int)) := by
  have hnd : o.Nodup := h.symm.nodup tul_nodup
  have key : ∀ t : Nat, trn s.length (ch s) t = true → o.idxOf (t : Int) < o.length ∧ ch o (o.idxOf (t : Int)) = t := by
    intro t ht
    have h1 : (t : Int) ∈ o := h.mem_iff.2 (mem_tul.2 ⟨t, ht, rfl⟩)
    have h2 := List.idxOf_lt_length_iff.2 h1
    exact ⟨h2, by rw [← ch_get h2]; exact List.getElem_idxOf h2⟩
  refine ⟨fun a ha => ?_, key⟩
  have h1 : o[a] ∈ tul s := h.mem_iff.1 (List.getElem_mem ha)
  obtain ⟨t, ht, e⟩ := mem_tul.1 h1
  rw [ch_get ha] at e
  have h2 := key t ht
  exact ⟨t, ht, e, nodup_ch hnd h2.1 ha (by rw [h2.2, e])⟩
theorem perm_of_ord {r : Nat → Nat} (h : Ord s o r) : o.Perm (tul s) := by
  refine (List.perm_ext_iff_of_nodup ?_ tul_nodup).2 fun x => ?_
  · refine List.pairwise_iff_getElem.2 fun a b ha hb hab e => ?_
    obtain ⟨t, h1, h2, h3⟩ := h.turn a ha
    obtain ⟨u, g1, g2, g3⟩ := h.turn b hb
    rw [ch_get ha, ch_get hb] at e
    have : t = u := by omega
    subst this; omega
  · rw [mem_tul]
    constructor
    · intro hx
      obtain ⟨a, ha, e⟩ := List.getElem_of_mem hx
      obtain ⟨t, h1, h2, _⟩ := h.turn a ha
      exact ⟨t, h1, by rw [← e, ch_get ha, h2]⟩
    · rintro ⟨t, ht, rfl⟩
      have h1 := h.all t ht
      rw [← h1.2, ← ch_get h1.1]
      exact List.getElem_mem _

theorem equal_loop (l : List Int) (hl : l.length ≤ 9223372036854775000) (d : Nat) : ∀ q, l.length - q = d → q ≤ l.length → ∀ k, slices_Equal_int_int.l0 (k + d + 1) l l (l.length : Int) (q : Int) = some true := by
  induction d with
  | zero =>
    intro q hd hq k
    rw [slices_Equal_int_int.l0, if_neg (by omega)]
  | succ d ih =>
    intro q hd hq k
    rw [show k + (d + 1) + 1 = k + d + 1 + 1 by omega, slices_Equal_int_int.l0, if_pos (by omega), if_pos (by omega), if_pos (by omega), if_pos (by omega), if_pos rfl, wp (x := (q : Int) + 1) (y := ((q + 1 : Nat) : Int)) (by omega) (by omega) (by omega)]
    exact ih (q + 1) (by omega) (by omega) k
theorem equal_ge {l : List Int} (hl : l.length ≤ 9223372036854775000) {k : Nat} (hk : l.length + 1 ≤ k) : slices_Equal_int_int.f k l l = some true := by
  unfold slices_Equal_int_int.f
  rw [if_pos rfl]
  have := equal_loop l hl l.length 0 (by omega) (by omega) (k - l.length - 1)
  rw [show k - l.length - 1 + l.length + 1 = k by omega] at this; exact this

/-- Induce, of a list that may be and an order of its turns. -/
theorem Induce_f {r : Nat → Nat} (hok : Ok k0 s) (ho : Ord s o r) : ∃ K row, (∀ k, K ≤ k → sais_Induce.f k k0 s o = some (row, 0)) ∧ row.length = s.length ∧ ∀ i, i < s.length → ch row (rk3 s.length (ch s) r i) = (i : Int) := by
  have hn := hok.2.2.1
  have hp := perm_of_ord ho
  have htl : (tul s).length ≤ s.length := by rw [tul_length]; exact cn_le _
  have hol : o.length ≤ 16777216 := by rw [hp.length_eq]; omega
  obtain ⟨K, row, h1, h2, h3⟩ := induce_f hok ho hol
  refine ⟨K + 3 * s.length + 10, row, fun k hk => ?_, h2, h3⟩
  have c1 := check_ok hok (k - s.length - 2)
  rw [show k - s.length - 2 + s.length + 2 = k by omega] at c1
  have c2 := lms_f s (by omega) (k - s.length - 1)
  have c3 := types_f s (by omega) (k - s.length - 1)
  rw [show k - s.length - 1 + s.length + 1 = k by omega] at c2 c3
  unfold sais_Induce.f slices_Clone_int_int.f slices_Sort_int_int.f
  rw [c1, Option.bind_some, if_pos rfl, if_pos (by omega), Option.bind_some, if_pos (by omega), Option.bind_some, c2, Option.bind_some, sort_perm hp, equal_ge (by omega) (by omega), Option.bind_some, if_pos rfl, c3, Option.bind_some, h1 k (by omega), Option.bind_some]
end
end Go.Proofs.Ytgnhangjacdfbaa.SD
end

section
/- The document's Induce: whatever order of the turns is given, its row is the one that the passes make of it. Printed by gensir.py out of SMe, SMf. -/
namespace Go.Proofs.Ytgnhangjacdfbaa.SD
open Go.RowKit Go.Proofs.Ytgnhangjacdfbaa Go.Proofs.Ytgnhangjacdfbaa.X Go.Proofs.Ytgnhangjacdfbaa.SM Go.Proofs.YtgnhangjacdfbaaW.PrintWords Go.Proofs.YtgnhangjacdfbaaW.PrintLast

/-- Which places hold a small one: what the document keeps beside the row. -/
def Tn (s : List Int) (p : Nat) (row : List Int) (tn : List Bool) : Prop := tn.length = s.length ∧ ∀ q, p ≤ q → q < s.length → (tn.getD q false = true ↔ ∃ i : Nat, ch row q = (i : Int) ∧ sm s.length (ch s) i = true)
theorem Tn.set {s row : List Int} {tn : List Bool} (h : Tn s 0 row tn) (hl : row.length = s.length) {p g : Nat} {b : Bool} (hp : p < s.length) (hb : b = sm s.length (ch s) g) : Tn s 0 (row.set p (g : Int)) (tn.set p b) := by
  refine ⟨by rw [List.length_set]; exact h.1, fun q _ hq => ?_⟩
  rw [getD_set _ _ _ _ _ (by rw [h.1]; exact hp), ch_set _ _ _ _ (by rw [hl]; exact hp)]
  by_cases e : p = q
  · rw [if_pos e, if_pos e, hb]
    exact ⟨fun h => ⟨g, rfl, h⟩, fun ⟨i, h1, h2⟩ => by rw [show g = i by omega]; exact h2⟩
  · rw [if_neg e, if_neg e]; exact h.2 q (Nat.zero_le _) hq
theorem put_f {s row hd : List Int} {tn : List Bool} {i v h A : Nat} (hi : i < s.length) (hn : s.length ≤ 16777216) (hv : ch s i = (v : Int)) (hA : hd.length = A) (hvA : v < A) (hh : ch hd v = (h : Int)) (hr : row.length = s.length) (ht : tn.length = s.length) (hhn : h < s.length) :
    sapperref12_put.f row tn hd s (i : Int) = some (row.set h (i : Int), tn.set h false, hd.set v ((h : Int) + 1)) := by
  unfold sapperref12_put.f
  rw [if_pos (by omega), if_pos (by omega), rd_nat, hv, if_pos (by omega), if_pos (by omega), rd_nat, hh, if_pos (by omega), if_pos (by omega), if_pos (by omega), w64 (by omega) (by omega), Int.toNat_natCast, Int.toNat_natCast]

section
variable {k0 : Int} {s : List Int} {o : List Int} {r : Nat → Nat}
attribute [local irreducible] cn cv fr tov rk3 loc2 ch

theorem rinduce_l4 (hok : Ok k0 s) (A : Nat) (hA : k0 = A) (hr : Inj s.length (ch s) r) (x : Nat) : ∀ (row at_ : List Int), x ≤ s.length → Row4 s r x row → At4 s r A x at_ →
    ∃ row', Row4 s r 0 row' ∧ ∀ k, sapperref12_Induce.l4 (k + x + 1) s (tyl s) row at_ ((x : Int) - 1) = some (row', 0) := by
  have hn := hok.2.2.1
  induction x with
  | zero =>
    intro row at_ hx h1 h2
    refine ⟨row, h1, fun k => ?_⟩
    rw [sapperref12_Induce.l4, if_neg (by omega)]
  | succ p ih =>
    intro row at_ hx h1 h2
    have w : wrap64 (((p : Int)) - 1) = ((p : Int) - 1) := w64 (by omega) (by omega)
    -- nothing new is put in where no small one stands behind
    have same : (∀ j, j < s.length → sm s.length (ch s) j = true → rk3 s.length (ch s) r (j + 1) ≠ p) → Row4 s r p row ∧ At4 s r A p at_ := by
      intro hno
      have hiff : ∀ j, j < s.length → sm s.length (ch s) j = true → (p ≤ rk3 s.length (ch s) r (j + 1) ↔ p + 1 ≤ rk3 s.length (ch s) r (j + 1)) := by
        intro j hj hs; have := hno j hj hs; omega
      refine ⟨⟨h1.len, fun i hi h3 => h1.put i hi (fun hs => (hiff i hi hs).1 (h3 hs)), fun q hq hne => ?_⟩, h2.1, fun v hv => ?_⟩
      · obtain ⟨i, hi, h3, h4, h5⟩ := h1.only q hq hne
        exact ⟨i, hi, fun hs => (hiff i hi hs).2 (h3 hs), h4, h5⟩
      · rw [h2.2 v hv]
        congr 2
        refine cn_congr fun j hj => ?_
        cases hs : sm s.length (ch s) j with
        | false => simp
        | true => rw [Bool.eq_iff_iff]; simp only [Bool.and_eq_true, decide_eq_true_eq]; rw [hiff j hj hs]
    -- what stands at p
    have at_p : ∀ j, j < s.length → sm s.length (ch s) j = true → rk3 s.length (ch s) r (j + 1) = p → ch row p = ((j + 1 : Nat) : Int) := by
      intro j hj hs he
      have hj1 := sm_lt hs
      have := h1.put (j + 1) hj1 (fun hs2 => by
        have := rk3_mono (n := s.length) (c := ch s) (r := r) hj1 (lt3_step hj1 hs2)
        omega)
      rw [he] at this; exact this
    have go : ∀ (row' at' : List Int), Row4 s r p row' → At4 s r A p at' → (∀ k, sapperref12_Induce.l4 (k + p + 1 + 1) s (tyl s) row at_ (p : Int) = sapperref12_Induce.l4 (k + p + 1) s (tyl s) row' at' ((p : Int) - 1)) →
        ∃ row'', Row4 s r 0 row'' ∧ ∀ k, sapperref12_Induce.l4 (k + (p + 1) + 1) s (tyl s) row at_ (((p + 1 : Nat) : Int) - 1) = some (row'', 0) := by
      intro row' at' g1 g2 g3
      obtain ⟨row'', g4, g5⟩ := ih row' at' (by omega) g1 g2
      refine ⟨row'', g4, fun k => ?_⟩
      rw [show ((p + 1 : Nat) : Int) - 1 = (p : Int) by omega, show k + (p + 1) + 1 = k + p + 1 + 1 by omega, g3 k]
      exact g5 k
    by_cases a : ch row p ≤ 0
    · obtain ⟨s1, s2⟩ := same (fun j hj hs he => by have := at_p j hj hs he; omega)
      refine go row at_ s1 s2 fun k => ?_
      rw [sapperref12_Induce.l4, if_pos (by omega), if_pos (by omega), if_pos (by rw [h1.len]; omega), rd_nat, if_neg (by omega), w]
    · obtain ⟨i, hi, h3, h4, h5⟩ := h1.only p (by omega) (by omega)
      obtain ⟨g, rfl⟩ : ∃ g, i = g + 1 := ⟨i - 1, by omega⟩
      have w2 : wrap64 (ch row p - 1) = (g : Int) := by rw [h5, w64 (by omega) (by omega)]; omega
      have hg : g < s.length := by omega
      by_cases b : sm s.length (ch s) g = true
      · obtain ⟨v, hv⟩ : ∃ v : Nat, ch s g = v := ⟨(ch s g).toNat, by have := (hok.2.2.2 g hg).1; omega⟩
        have hvA : v < A := by have := (hok.2.2.2 g hg).2; omega
        have e1 := h2.2 v hvA
        have e2 := rk3_small hr hg b
        rw [hv] at e2
        have e3 : cn s.length (fun j => (decide (ch s j = (v : Int)) && sm s.length (ch s) j) && decide (p + 1 ≤ rk3 s.length (ch s) r (j + 1))) = cn s.length (fun j => (decide (ch s j = (v : Int)) && sm s.length (ch s) j) && lt3 s.length (ch s) r g j) := by
          refine cn_congr fun j hj => ?_
          by_cases f : ch s j = (v : Int) ∧ sm s.length (ch s) j = true
          · have hj1 := sm_lt f.2
            rw [f.1, f.2, lt3_ss hg hj (by omega) b f.2]
            simp only [decide_true, Bool.true_and]
            rw [Bool.eq_iff_iff, decide_eq_true_eq, ← rk3_iff hr hi hj1]; omega
          · by_cases f1 : ch s j = (v : Int)
            · have f2 : sm s.length (ch s) j = false := by
                cases f3 : sm s.length (ch s) j with
                | false => rfl
                | true => exact absurd ⟨f1, f3⟩ f
              rw [f2]; simp
            · simp [f1]
        rw [e3] at e1
        have e4 := rk3_lt (n := s.length) (c := ch s) (r := r) hg
        have w3 : wrap64 (ch at_ v - 1) = (rk3 s.length (ch s) r g : Int) := by rw [w64 (by omega) (by omega)]; omega
        have hlen : (at_.set v (rk3 s.length (ch s) r g : Int)).length = A := by rw [List.length_set]; exact h2.1
        have hiff : ∀ j, j < s.length → sm s.length (ch s) j = true → (p ≤ rk3 s.length (ch s) r (j + 1) ↔ (p + 1 ≤ rk3 s.length (ch s) r (j + 1) ∨ j = g)) := by
          intro j hj hs
          constructor
          · intro h
            by_cases e : rk3 s.length (ch s) r (j + 1) = p
            · right
              have := rk3_inj hr (sm_lt hs) hi (e.trans h4.symm); omega
            · left; omega
          · rintro (h | rfl)
            · omega
            · omega
        refine go (row.set (rk3 s.length (ch s) r g) (g : Int)) (at_.set v (rk3 s.length (ch s) r g : Int)) ⟨by rw [List.length_set]; exact h1.len, fun j hj h6 => ?_, fun q hq hne => ?_⟩ ⟨hlen, fun u hu => ?_⟩ fun k => ?_
        · rw [ch_set _ _ _ _ (by rw [h1.len]; exact e4)]
          by_cases e : j = g
          · subst e; rw [if_pos rfl]
          · rw [if_neg (fun h => e (rk3_inj hr hg hj h).symm)]
            exact h1.put j hj (fun hs => by rcases (hiff j hj hs).1 (h6 hs) with h7 | h7; exact h7; exact absurd h7 e)
        · rw [ch_set _ _ _ _ (by rw [h1.len]; exact e4)] at hne ⊢
          by_cases e : rk3 s.length (ch s) r g = q
          · rw [if_pos e]; exact ⟨g, hg, fun _ => by omega, e, rfl⟩
          · rw [if_neg e] at hne ⊢
            obtain ⟨j, hj, h6, h7, h8⟩ := h1.only q hq hne
            exact ⟨j, hj, fun hs => (hiff j hj hs).2 (.inl (h6 hs)), h7, h8⟩
        · rw [ch_set _ _ _ _ (by rw [h2.1]; exact hvA)]
          by_cases e : v = u
          · subst e
            rw [if_pos rfl]
            have e5 : cn s.length (fun j => (decide (ch s j = (v : Int)) && sm s.length (ch s) j) && decide (p ≤ rk3 s.length (ch s) r (j + 1))) = cn s.length (fun j => (decide (ch s j = (v : Int)) && sm s.length (ch s) j) && decide (p + 1 ≤ rk3 s.length (ch s) r (j + 1))) + 1 := by
              refine cn_succ hg (by simp; intro _ _; omega) (fun j hj => ?_)
              rw [Bool.eq_iff_iff]
              simp only [Bool.or_eq_true, Bool.and_eq_true, decide_eq_true_eq, beq_iff_eq]
              constructor
              · rintro ⟨⟨f1, f2⟩, f3⟩
                rcases (hiff j hj f2).1 f3 with f4 | f4
                · exact .inl ⟨⟨f1, f2⟩, f4⟩
                · exact .inr f4
              · rintro (⟨⟨f1, f2⟩, f3⟩ | rfl)
                · exact ⟨⟨f1, f2⟩, by omega⟩
                · exact ⟨⟨hv, b⟩, by omega⟩
            rw [e5, e3]
            omega
          · rw [if_neg e, h2.2 u hu]
            congr 2
            refine cn_congr fun j hj => ?_
            by_cases f : ch s j = (u : Int) ∧ sm s.length (ch s) j = true
            · rw [Bool.eq_iff_iff]
              simp only [Bool.and_eq_true, decide_eq_true_eq]
              rw [hiff j hj f.2]
              have hne : j ≠ g := by rintro rfl; exact e (by omega)
              exact ⟨fun h => ⟨h.1, .inl h.2⟩, fun h => ⟨h.1, h.2.resolve_right hne⟩⟩
            · by_cases f1 : ch s j = (u : Int)
              · have f2 : sm s.length (ch s) j = false := by
                  cases f3 : sm s.length (ch s) j with
                  | false => rfl
                  | true => exact absurd ⟨f1, f3⟩ f
                rw [f2]; simp
              · simp [f1]
        · rw [sapperref12_Induce.l4, if_pos (by omega), if_pos (by omega), if_pos (by rw [h1.len]; omega), rd_nat, if_pos (by omega), w2, w, if_pos (by omega), if_pos (by rw [tyl_length]; omega), rdB_nat, tyl_get hg, if_pos b, if_pos (by omega), rd_nat, hv, if_pos (by omega), if_pos (by rw [h2.1]; omega), rd_nat, w3, Option.bind_some, Int.toNat_natCast, rd_nat, ch_set _ _ _ _ (by rw [h2.1]; exact hvA), if_pos rfl, if_pos (by omega), if_pos (by rw [h1.len]; omega), Int.toNat_natCast]
      · obtain ⟨s1, s2⟩ := same (fun j hj hs he => by
          have := at_p j hj hs he
          have : j = g := by omega
          subst this; exact b hs)
        refine go row at_ s1 s2 fun k => ?_
        rw [sapperref12_Induce.l4, if_pos (by omega), if_pos (by omega), if_pos (by rw [h1.len]; omega), rd_nat, if_pos (by omega), w2, if_pos (by omega), if_pos (by rw [tyl_length]; omega), rdB_nat, tyl_get hg, if_neg b, w]
theorem rinduce_l3 (hok : Ok k0 s) (A : Nat) (en : List Int) (he : en.length = A) (hA : A ≤ 33554432) (d : Nat) : ∀ p (row : List Int) (tn : List Bool), s.length - p = d → p ≤ s.length → Row3 s r p row → Tn s p row tn →
    ∃ row', Row3 s r s.length row' ∧ ∀ k, sapperref12_Induce.l3 (k + d + 1) s en (tyl s) row tn (p : Int) = sapperref12_Induce.l4 k s (tyl s) row' en ((s.length : Int) - 1) := by
  have hn := hok.2.2.1
  induction d with
  | zero =>
    intro p row tn hd hp h1 h0
    obtain rfl : p = s.length := by omega
    refine ⟨row, h1, fun k => ?_⟩
    rw [sapperref12_Induce.l3, if_neg (by rw [h1.len]; omega), Option.bind_some, if_pos (by simp only [List.length_nil]; omega), List.nil_append, h1.len, w64 (by omega) (by omega)]
  | succ d ih =>
    intro p row tn hd hp h1 h0
    have go : ∀ row', Row3 s r (p + 1) row' → Tn s (p + 1) row' tn → (∀ k, sapperref12_Induce.l3 (k + d + 1 + 1) s en (tyl s) row tn (p : Int) = sapperref12_Induce.l3 (k + d + 1) s en (tyl s) row' tn ((p + 1 : Nat) : Int)) →
        ∃ row'', Row3 s r s.length row'' ∧ ∀ k, sapperref12_Induce.l3 (k + (d + 1) + 1) s en (tyl s) row tn (p : Int) = sapperref12_Induce.l4 k s (tyl s) row'' en ((s.length : Int) - 1) := by
      intro row' g1 g0 g2
      obtain ⟨row'', g3, g4⟩ := ih (p + 1) row' tn (by omega) (by omega) g1 g0
      exact ⟨row'', g3, fun k => by rw [show k + (d + 1) + 1 = k + d + 1 + 1 by omega, g2 k, g4 k]⟩
    have hpn : p < s.length := by omega
    have keep : Tn s (p + 1) row tn := ⟨h0.1, fun q hq hqn => h0.2 q (by omega) hqn⟩
    have keep2 : Tn s (p + 1) (row.set p (-1)) tn := ⟨h0.1, fun q hq hqn => by rw [ch_set _ _ _ _ (by rw [h1.len]; exact hpn), if_neg (by omega)]; exact h0.2 q (by omega) hqn⟩
    by_cases a : ch row p = -1
    · refine go row ⟨h1.len, h1.put, fun q hq hne => ?_⟩ keep fun k => ?_
      · obtain ⟨i, g1, g2, g3, g4, g5⟩ := h1.only q hq hne
        exact ⟨i, g1, g2, g3, g4, fun h => g5 (by rcases Nat.lt_or_ge q p with h2 | h2; exact h2; exact absurd a (by rw [show p = q by omega]; exact hne))⟩
      · rw [sapperref12_Induce.l3, if_pos (by rw [h1.len]; omega), if_pos (by omega), if_pos (by rw [h0.1]; omega), rdB_nat, if_neg (fun ht_ => by obtain ⟨j, e1, _⟩ := (h0.2 p (Nat.le_refl _) hpn).1 ht_; omega), wp (y := ((p + 1 : Nat) : Int)) (by omega) (by omega) (by omega)]
    · obtain ⟨i, g1, g2, g3, g4, g5⟩ := h1.only p hpn a
      by_cases b : sm s.length (ch s) i = true
      · refine go (row.set p (-1)) ⟨by rw [List.length_set]; exact h1.len, fun j hj hs => ?_, fun q hq hne => ?_⟩ keep2 fun k => ?_
        · rw [ch_set _ _ _ _ (by rw [h1.len]; exact hpn)]
          have h2 := h1.put j hj hs
          by_cases e : p = rk3 s.length (ch s) r j
          · rw [← e] at h2
            have : i = j := by omega
            subst this; rw [b] at hs; cases hs
          · rw [if_neg e]; exact h2
        · rw [ch_set _ _ _ _ (by rw [h1.len]; exact hpn)] at hne ⊢
          by_cases e : p = q
          · rw [if_pos e] at hne; exact absurd rfl hne
          · rw [if_neg e] at hne ⊢
            obtain ⟨j, f1, f2, f3, f4, f5⟩ := h1.only q hq hne
            exact ⟨j, f1, f2, f3, f4, fun h => f5 (by omega)⟩
        · rw [sapperref12_Induce.l3, if_pos (by rw [h1.len]; omega), if_pos (by omega), if_pos (by rw [h0.1]; omega), rdB_nat, if_pos ((h0.2 p (Nat.le_refl _) hpn).2 ⟨i, g4, b⟩), Int.toNat_natCast, wp (y := ((p + 1 : Nat) : Int)) (by omega) (by omega) (by omega)]
      · have b' : sm s.length (ch s) i = false := by simpa using b
        refine go row ⟨h1.len, h1.put, fun q hq hne => ?_⟩ keep fun k => ?_
        · by_cases e : q = p
          · subst e; exact ⟨i, g1, g2, g3, g4, fun _ => b'⟩
          · obtain ⟨j, f1, f2, f3, f4, f5⟩ := h1.only q hq hne
            exact ⟨j, f1, f2, f3, f4, fun h => f5 (by omega)⟩
        · rw [sapperref12_Induce.l3, if_pos (by rw [h1.len]; omega), if_pos (by omega), if_pos (by rw [h0.1]; omega), rdB_nat, if_neg (fun ht_ => by obtain ⟨j, e1, e2⟩ := (h0.2 p (Nat.le_refl _) hpn).1 ht_; rw [show j = i by omega] at e2; exact b e2), wp (y := ((p + 1 : Nat) : Int)) (by omega) (by omega) (by omega)]
theorem rinduce_l2 (hok : Ok k0 s) (A : Nat) (hA : k0 = A) (hr : Inj s.length (ch s) r) (en : List Int) (d : Nat) : ∀ p (row at_ : List Int) (tn : List Bool), s.length - p = d → p ≤ s.length → Row2 s r p row → At2 s r A p at_ → Tn s 0 row tn →
    ∃ row' tn', Row2 s r s.length row' ∧ Tn s 0 row' tn' ∧ ∀ k, sapperref12_Induce.l2 (k + d + 1) s en (tyl s) row tn at_ (p : Int) = sapperref12_Induce.l3 k s en (tyl s) row' tn' 0 := by
  have hn := hok.2.2.1
  induction d with
  | zero =>
    intro p row at_ tn hd hp h1 h2 h0
    obtain rfl : p = s.length := by omega
    refine ⟨row, tn, h1, h0, fun k => ?_⟩
    rw [sapperref12_Induce.l2, if_neg (by rw [h1.len]; omega)]
  | succ d ih =>
    intro p row at_ tn hd hp h1 h2 h0
    have hpn : p < s.length := by omega
    have go : ∀ (row' at' : List Int) (tn' : List Bool), Row2 s r (p + 1) row' → At2 s r A (p + 1) at' → Tn s 0 row' tn' → (∀ k, sapperref12_Induce.l2 (k + d + 1 + 1) s en (tyl s) row tn at_ (p : Int) = sapperref12_Induce.l2 (k + d + 1) s en (tyl s) row' tn' at' ((p + 1 : Nat) : Int)) →
        ∃ row'' tn'', Row2 s r s.length row'' ∧ Tn s 0 row'' tn'' ∧ ∀ k, sapperref12_Induce.l2 (k + (d + 1) + 1) s en (tyl s) row tn at_ (p : Int) = sapperref12_Induce.l3 k s en (tyl s) row'' tn'' 0 := by
      intro row' at' tn' g1 g2 g0 g3
      obtain ⟨row'', tn'', g4, g5, g6⟩ := ih (p + 1) row' at' tn' (by omega) (by omega) g1 g2 g0
      exact ⟨row'', tn'', g4, g5, fun k => by rw [show k + (d + 1) + 1 = k + d + 1 + 1 by omega, g3 k, g6 k]⟩
    -- nothing new is put in where no big one stands behind
    have same : (∀ j, j + 1 < s.length → sm s.length (ch s) j = false → loc2 s.length (ch s) r (j + 1) ≠ p) → Row2 s r (p + 1) row ∧ At2 s r A (p + 1) at_ := by
      intro hno
      have hiff : ∀ j, j < s.length → sm s.length (ch s) j = false → pl2 s r (p + 1) j = pl2 s r p j := by
        intro j hj hs
        unfold pl2
        by_cases e : j + 1 = s.length
        · rw [decide_eq_true e, Bool.true_or, Bool.true_or]
        · have := hno j (by omega) hs
          rw [decide_eq_false e, Bool.false_or, Bool.false_or, Bool.eq_iff_iff, decide_eq_true_eq, decide_eq_true_eq]; omega
      refine ⟨⟨h1.len, fun i hi hA2 h3 => h1.put i hi hA2 (fun hs => by rw [← hiff i hi hs]; exact h3 hs), fun q hq hne => ?_⟩, h2.1, fun v hv => ?_⟩
      · obtain ⟨i, hi, hA2, h3, h4, h5⟩ := h1.only q hq hne
        exact ⟨i, hi, hA2, fun hs => by rw [hiff i hi hs]; exact h3 hs, h4, h5⟩
      · rw [h2.2 v hv]
        congr 2
        refine cn_congr fun j hj => ?_
        cases hs : sm s.length (ch s) j with
        | true => simp
        | false => rw [hiff j hj hs]
    -- what stands at p
    have at_p : ∀ j, j + 1 < s.length → sm s.length (ch s) j = false → loc2 s.length (ch s) r (j + 1) = p → ch row p = ((j + 1 : Nat) : Int) := by
      intro j hj hs he
      have := h1.put (j + 1) hj (InA.next (by omega) hs) (fun hs2 => by
        unfold pl2
        rcases Nat.lt_or_ge (j + 2) s.length with h3 | h3
        · have := loc2_mono (r := r) h3 (InA.next hj hs2) (InA.next (by omega) hs) (lt2_step hj hs2)
          rw [he] at this
          rw [decide_eq_true this, Bool.or_true]
        · rw [decide_eq_true (by omega : j + 1 + 1 = s.length), Bool.true_or])
      rw [he] at this; exact this
    by_cases a : ch row p ≤ 0
    · obtain ⟨s1, s2⟩ := same (fun j hj hs he => by have := at_p j hj hs he; omega)
      refine go row at_ tn s1 s2 h0 fun k => ?_
      rw [sapperref12_Induce.l2, if_pos (by rw [h1.len]; omega), if_pos (by omega), rd_nat, if_neg (by omega), wp (y := ((p + 1 : Nat) : Int)) (by omega) (by omega) (by omega)]
    · obtain ⟨i, hi, hA2, h3, h4, h5⟩ := h1.only p hpn (by omega)
      obtain ⟨g, rfl⟩ : ∃ g, i = g + 1 := ⟨i - 1, by omega⟩
      have hw2 : ch row p - 1 = (g : Int) := by omega
      have hg : g < s.length := by omega
      by_cases b : sm s.length (ch s) g = true
      · obtain ⟨s1, s2⟩ := same (fun j hj hs he => by
          have := at_p j hj hs he
          have : j = g := by omega
          subst this; rw [b] at hs; cases hs)
        refine go row at_ tn s1 s2 h0 fun k => ?_
        rw [sapperref12_Induce.l2, if_pos (by rw [h1.len]; omega), if_pos (by omega), rd_nat, if_pos (by omega), wp hw2 (by omega) (by omega), if_pos (by omega), if_pos (by rw [tyl_length]; omega), rdB_nat, tyl_get hg, if_pos b, wp (y := ((p + 1 : Nat) : Int)) (by omega) (by omega) (by omega)]
      · have b' : sm s.length (ch s) g = false := by simpa using b
        obtain ⟨v, hv⟩ : ∃ v : Nat, ch s g = v := ⟨(ch s g).toNat, by have := (hok.2.2.2 g hg).1; omega⟩
        have hvA : v < A := by have := (hok.2.2.2 g hg).2; omega
        have e1 := h2.2 v hvA
        have e2 := rk3_big (r := r) hg b'
        rw [hv] at e2
        have e3 : cn s.length (fun j => (decide (ch s j = (v : Int)) && !sm s.length (ch s) j) && pl2 s r p j) = cn s.length (fun j => (decide (ch s j = (v : Int)) && !sm s.length (ch s) j) && lt2 s.length (ch s) r j g) := by
          refine cn_congr fun j hj => ?_
          by_cases f : ch s j = (v : Int) ∧ sm s.length (ch s) j = false
          · rw [f.1, f.2, lt2_bb hj hg (by omega) f.2 b']
            simp only [decide_true, Bool.true_and, Bool.not_false]
            unfold pl2
            rcases Nat.lt_or_ge (j + 1) s.length with h6 | h6
            · rw [decide_eq_false (by omega : ¬ j + 1 = s.length), Bool.false_or, Bool.eq_iff_iff, decide_eq_true_eq, ← h4, loc2_iff hr h6 hi (InA.next hj f.2) hA2]
            · rw [decide_eq_true (by omega : j + 1 = s.length), Bool.true_or, lt2_end h6, decide_eq_true hi]
          · by_cases f1 : ch s j = (v : Int)
            · have f2 : sm s.length (ch s) j = true := by
                cases f3 : sm s.length (ch s) j with
                | true => rfl
                | false => exact absurd ⟨f1, f3⟩ f
              rw [f2]; simp
            · simp [f1]
        rw [e3] at e1
        have e4 := rk3_lt (n := s.length) (c := ch s) (r := r) hg
        have e6 : ch at_ v = (rk3 s.length (ch s) r g : Int) := by omega
        have hlen : (at_.set v ((rk3 s.length (ch s) r g : Int) + 1)).length = A := by rw [List.length_set]; exact h2.1
        have hpg : pl2 s r p g = false := by
          unfold pl2
          rw [decide_eq_false (by omega : ¬ g + 1 = s.length), Bool.false_or, decide_eq_false (by omega)]
        have hiff : ∀ j, j < s.length → sm s.length (ch s) j = false → (pl2 s r (p + 1) j = true ↔ (pl2 s r p j = true ∨ j = g)) := by
          intro j hj hs
          unfold pl2
          simp only [Bool.or_eq_true, decide_eq_true_eq]
          by_cases hj1 : j + 1 = s.length
          · exact ⟨fun _ => .inl (.inl hj1), fun _ => .inl hj1⟩
          · constructor
            · rintro (h | h)
              · exact .inl (.inl h)
              · by_cases e : loc2 s.length (ch s) r (j + 1) = p
                · right
                  have := loc2_inj hr (by omega) hi (InA.next hj hs) hA2 (e.trans h4.symm); omega
                · left; right; omega
            · rintro ((h | h) | rfl)
              · exact .inl h
              · exact .inr (by omega)
              · exact .inr (by omega)
        have hloc : ∀ j, j < s.length → InA s.length (ch s) j → rk3 s.length (ch s) r g = loc2 s.length (ch s) r j → g = j := by
          intro j hj hAj he
          rw [← loc2_big b'] at he
          exact loc2_inj hr hg hj (InA.big hg b') hAj he
        refine go (row.set (rk3 s.length (ch s) r g) (g : Int)) (at_.set v ((rk3 s.length (ch s) r g : Int) + 1)) (tn.set (rk3 s.length (ch s) r g) false) ⟨by rw [List.length_set]; exact h1.len, fun j hj hAj h6 => ?_, fun q hq hne => ?_⟩ ⟨hlen, fun u hu => ?_⟩ (h0.set h1.len e4 b'.symm) fun k => ?_
        · rw [ch_set _ _ _ _ (by rw [h1.len]; exact e4)]
          by_cases e : rk3 s.length (ch s) r g = loc2 s.length (ch s) r j
          · rw [if_pos e, hloc j hj hAj e]
          · rw [if_neg e]
            refine h1.put j hj hAj (fun hs => ?_)
            rcases (hiff j hj hs).1 (h6 hs) with h7 | h7
            · exact h7
            · subst h7; rw [loc2_big b'] at e; exact absurd rfl e
        · rw [ch_set _ _ _ _ (by rw [h1.len]; exact e4)] at hne ⊢
          by_cases e : rk3 s.length (ch s) r g = q
          · rw [if_pos e]; exact ⟨g, hg, InA.big hg b', fun _ => (hiff g hg b').2 (.inr rfl), by rw [loc2_big b']; exact e, rfl⟩
          · rw [if_neg e] at hne ⊢
            obtain ⟨j, hj, hAj, h6, h7, h8⟩ := h1.only q hq hne
            exact ⟨j, hj, hAj, fun hs => (hiff j hj hs).2 (.inl (h6 hs)), h7, h8⟩
        · rw [ch_set _ _ _ _ (by rw [h2.1]; exact hvA)]
          by_cases e : v = u
          · subst e
            rw [if_pos rfl]
            have e5 : cn s.length (fun j => (decide (ch s j = (v : Int)) && !sm s.length (ch s) j) && pl2 s r (p + 1) j) = cn s.length (fun j => (decide (ch s j = (v : Int)) && !sm s.length (ch s) j) && pl2 s r p j) + 1 := by
              refine cn_succ hg (by rw [hpg, Bool.and_false]) (fun j hj => ?_)
              rw [Bool.eq_iff_iff]
              simp only [Bool.or_eq_true, Bool.and_eq_true, decide_eq_true_eq, beq_iff_eq, Bool.not_eq_true']
              constructor
              · rintro ⟨⟨f1, f2⟩, f3⟩
                rcases (hiff j hj f2).1 f3 with f4 | f4
                · exact .inl ⟨⟨f1, f2⟩, f4⟩
                · exact .inr f4
              · rintro (⟨⟨f1, f2⟩, f3⟩ | rfl)
                · exact ⟨⟨f1, f2⟩, (hiff j hj f2).2 (.inl f3)⟩
                · exact ⟨⟨hv, b'⟩, (hiff j hj b').2 (.inr rfl)⟩
            rw [e5, e3]
            omega
          · rw [if_neg e, h2.2 u hu]
            congr 2
            refine cn_congr fun j hj => ?_
            by_cases f : ch s j = (u : Int) ∧ sm s.length (ch s) j = false
            · have hne : j ≠ g := by rintro rfl; exact e (by omega)
              rw [f.1, f.2]
              simp only [decide_true, Bool.true_and, Bool.not_false]
              rw [Bool.eq_iff_iff, hiff j hj f.2]
              exact ⟨fun h => .inl h, fun h => h.resolve_right hne⟩
            · by_cases f1 : ch s j = (u : Int)
              · have f2 : sm s.length (ch s) j = true := by
                  cases f3 : sm s.length (ch s) j with
                  | true => rfl
                  | false => exact absurd ⟨f1, f3⟩ f
                rw [f2]; simp
              · simp [f1]
        · rw [sapperref12_Induce.l2, if_pos (by rw [h1.len]; omega), if_pos (by omega), rd_nat, if_pos (by omega), wp hw2 (by omega) (by omega), if_pos (by omega), if_pos (by rw [tyl_length]; omega), rdB_nat, tyl_get hg, if_neg b, put_f hg hn hv h2.1 hvA e6 h1.len h0.1 e4, Option.bind_some, wp (y := ((p + 1 : Nat) : Int)) (by omega) (by omega) (by omega)]
theorem rinduce_l1 (hok : Ok k0 s) (A : Nat) (hA : k0 = A) (ho : Ord s o r) (hm : o.length ≤ 16777216) (hn0 : 0 < s.length) (hAs : A ≤ 33554432) (hd en : List Int) (hh : hd.length = A) (hv : ∀ u : Nat, u < A → ch hd u = (fr s.length (ch s) u : Int)) (x : Nat) : ∀ (row at_ : List Int) (tn : List Bool), x ≤ o.length → Row1 s r x row → At1 s r A x at_ → Tn s 0 row tn →
    ∃ row' at' tn', Row2 s r 0 row' ∧ At2 s r A 0 at' ∧ Tn s 0 row' tn' ∧ ∀ k, sapperref12_Induce.l1 (k + x + 2) s o ((x : Int) - 1) hd en (tyl s) row tn at_ = sapperref12_Induce.l2 k s en (tyl s) row' tn' at' 0 := by
  have hn := hok.2.2.1
  have hr := ho.inj
  induction x with
  | zero =>
    intro row at_ tn hx h1 h2 h0
    have hl : s.length - 1 < s.length := by omega
    obtain ⟨v, hvc⟩ : ∃ v : Nat, ch s (s.length - 1) = v := ⟨(ch s (s.length - 1)).toNat, by have := (hok.2.2.2 _ hl).1; omega⟩
    obtain ⟨g1, g2, g3, g4⟩ := start2 hok A hA hr hn0 h1 hh hv v hvc
    refine ⟨_, _, _, g1, g2, h0.set h1.len g3 (sm_out (by omega)).symm, fun k => ?_⟩
    have e1 := hv v g4
    have e2 : (s.length : Int) - 1 = ((s.length - 1 : Nat) : Int) := by omega
    rw [sapperref12_Induce.l1, if_neg (by omega), Option.bind_some, if_pos (by simp only [List.length_nil]; omega), Option.bind_some, if_pos (by omega), wp e2 (by omega) (by omega), List.nil_append, put_f hl hn hvc hh g4 e1 h1.len h0.1 g3, Option.bind_some, sapperref12_Induce.j2]
  | succ p ih =>
    intro row at_ tn hx h1 h2 h0
    obtain ⟨t, ht, ht2, ht3⟩ := ho.turn p (by omega)
    have htn := trn_lt ht
    have hts := (trn_iff.1 ht).2.1
    obtain ⟨v, hvc⟩ : ∃ v : Nat, ch s t = v := ⟨(ch s t).toNat, by have := (hok.2.2.2 t (by omega)).1; omega⟩
    have hvA : v < A := by have := (hok.2.2.2 t (by omega)).2; omega
    have e1 := h2.2 v hvA
    have e2 := loc2_turn (r := r) ht
    have e3 : tl s.length (ch s) r t = cn s.length (fun u => trn s.length (ch s) u && (decide (ch s u = (v : Int)) && decide (p + 1 ≤ r u))) + 1 := by
      unfold tl
      refine cn_succ (i := t) (by omega) (by simp [ht3]) (fun u hu => ?_)
      rw [Bool.eq_iff_iff]
      simp only [Bool.or_eq_true, Bool.and_eq_true, decide_eq_true_eq, beq_iff_eq]
      constructor
      · rintro ⟨f1, f2, f3⟩
        by_cases e : u = t
        · exact .inr e
        · left
          have : r u ≠ r t := fun h => e (hr u t f1 ht h)
          exact ⟨f1, by omega, by omega⟩
      · rintro (⟨f1, f2, f3⟩ | rfl)
        · exact ⟨f1, by omega, by omega⟩
        · exact ⟨ht, rfl, Nat.le_refl _⟩
    have e4 := loc2_lt (r := r) (show t < s.length by omega) (InA.turn ht)
    have e5 := tl_le (n := s.length) (c := ch s) (r := r) t
    have e6 := to_parts (n := s.length) (c := ch s) (ch s t)
    rw [hvc] at e2 e5 e6
    have e7 : ch at_ v - 1 = (loc2 s.length (ch s) r t : Int) := by omega
    have hiff : ∀ u, trn s.length (ch s) u = true → (p ≤ r u ↔ (p + 1 ≤ r u ∨ u = t)) := by
      intro u hu
      constructor
      · intro h
        by_cases e : u = t
        · exact .inr e
        · have : r u ≠ r t := fun h => e (hr u t hu ht h)
          left; omega
      · rintro (h | rfl)
        · omega
        · omega
    have hloc : ∀ u, trn s.length (ch s) u = true → loc2 s.length (ch s) r t = loc2 s.length (ch s) r u → t = u := by
      intro u hu he
      exact loc2_inj hr (by omega) (by have := trn_lt hu; omega) (InA.turn ht) (InA.turn hu) he
    obtain ⟨row'', at'', tn'', g1, g2, g0, g3⟩ := ih (row.set (loc2 s.length (ch s) r t) (t : Int)) (at_.set v (loc2 s.length (ch s) r t : Int)) (tn.set (loc2 s.length (ch s) r t) true) (by omega)
      ⟨by rw [List.length_set]; exact h1.len, fun u hu h6 => by
        rw [ch_set _ _ _ _ (by rw [h1.len]; exact e4)]
        by_cases e : loc2 s.length (ch s) r t = loc2 s.length (ch s) r u
        · rw [if_pos e, hloc u hu e]
        · rw [if_neg e]
          rcases (hiff u hu).1 h6 with h7 | h7
          · exact h1.put u hu h7
          · subst h7; exact absurd rfl e, fun q hq hne => by
        rw [ch_set _ _ _ _ (by rw [h1.len]; exact e4)] at hne ⊢
        by_cases e : loc2 s.length (ch s) r t = q
        · rw [if_pos e]; exact ⟨t, ht, by omega, e, rfl⟩
        · rw [if_neg e] at hne ⊢
          obtain ⟨u, hu, h6, h7, h8⟩ := h1.only q hq hne
          exact ⟨u, hu, by omega, h7, h8⟩⟩
      ⟨by rw [List.length_set]; exact h2.1, fun u hu => by
        rw [ch_set _ _ _ _ (by rw [h2.1]; exact hvA)]
        by_cases e : v = u
        · subst e
          rw [if_pos rfl]
          have e8 : cn s.length (fun u => trn s.length (ch s) u && (decide (ch s u = (v : Int)) && decide (p ≤ r u))) = tl s.length (ch s) r t := by
            unfold tl; rw [hvc, ht3]
          rw [e8]; omega
        · rw [if_neg e, h2.2 u hu]
          congr 2
          refine cn_congr fun j hj => ?_
          rw [Bool.eq_iff_iff]
          simp only [Bool.and_eq_true, decide_eq_true_eq]
          constructor
          · rintro ⟨f1, f2, f3⟩; exact ⟨f1, f2, by omega⟩
          · rintro ⟨f1, f2, f3⟩
            refine ⟨f1, f2, ?_⟩
            rcases (hiff j f1).1 f3 with h7 | h7
            · exact h7
            · subst h7; exact absurd (by omega : v = u) e⟩ (h0.set h1.len e4 hts.symm)
    refine ⟨row'', at'', tn'', g1, g2, g0, fun k => ?_⟩
    rw [show ((p + 1 : Nat) : Int) - 1 = (p : Int) by omega, show k + (p + 1) + 2 = k + p + 2 + 1 by omega]
    rw [sapperref12_Induce.l1, if_pos (by omega), if_pos (by omega), if_pos (by omega), rd_nat, ht2, if_pos (by omega), if_pos (by omega), rd_nat, hvc, if_pos (by omega), if_pos (by rw [h2.1]; omega), rd_nat, wp e7 (by omega) (by omega), Option.bind_some, Int.toNat_natCast, rd_nat, ch_set _ _ _ _ (by rw [h2.1]; exact hvA), if_pos rfl, if_pos (by omega), if_pos (by rw [h1.len]; omega), if_pos (by rw [h0.1]; omega), Int.toNat_natCast, w64 (x := (p : Int) - 1) (by omega) (by omega)]
    exact g3 k
theorem rinduce_l0 (hok : Ok k0 s) (t tn : List Bool) (hd en : List Int) (d : Nat) : ∀ q (row : List Int), s.length - q = d → q ≤ s.length → row.length = s.length → (∀ j, j < q → ch row j = -1) →
    ∃ row', row'.length = s.length ∧ (∀ j, j < s.length → ch row' j = -1) ∧ ∀ k, sapperref12_Induce.l0 (k + d + 1) s o (q : Int) hd en t row tn = sapperref12_Induce.l0 (k + 1) s o (s.length : Int) hd en t row' tn := by
  have hn := hok.2.2.1
  induction d with
  | zero =>
    intro q row hd_ hq h1 h2
    obtain rfl : q = s.length := by omega
    exact ⟨row, h1, h2, fun k => rfl⟩
  | succ d ih =>
    intro q row hd_ hq h1 h2
    obtain ⟨row', g1, g2, g3⟩ := ih (q + 1) (row.set q (-1)) (by omega) (by omega) (by rw [List.length_set]; exact h1) (fun j hj => by
      rw [ch_set _ _ _ _ (by omega)]
      by_cases e : q = j
      · rw [if_pos e]
      · rw [if_neg e]; exact h2 j (by omega))
    refine ⟨row', g1, g2, fun k => ?_⟩
    rw [show k + (d + 1) + 1 = k + d + 1 + 1 by omega]
    conv => lhs; rw [sapperref12_Induce.l0]
    rw [if_pos (by omega), if_pos (by omega), Int.toNat_natCast, wp (y := ((q + 1 : Nat) : Int)) (by omega) (by omega) (by omega)]
    exact g3 k
end
end Go.Proofs.Ytgnhangjacdfbaa.SD
end

section
/- The document's check of an order of the turns, its Induce, and the answers of both. -/
namespace Go.Proofs.Ytgnhangjacdfbaa.SD
open Go.RowKit Go.Proofs.Ytgnhangjacdfbaa Go.Proofs.Ytgnhangjacdfbaa.X Go.Proofs.Ytgnhangjacdfbaa.SM Go.Proofs.YtgnhangjacdfbaaW.PrintWords Go.Proofs.YtgnhangjacdfbaaW.PrintLast

section
variable {k0 : Int} {s o : List Int}

structure Good (s o : List Int) (q : Nat) : Prop where
  turn : ∀ a, a < q → ∃ t : Nat, trn s.length (ch s) t = true ∧ ch o a = (t : Int)
  inj : ∀ a b, a < q → b < q → ch o a = ch o b → a = b
theorem good_of_perm (h : o.Perm (tul s)) : Good s o o.length := by
  have ho := ord_of_perm h
  refine ⟨fun a ha => ?_, fun a b ha hb e => nodup_ch (h.symm.nodup tul_nodup) ha hb e⟩
  obtain ⟨t, h1, h2, _⟩ := ho.turn a ha
  exact ⟨t, h1, h2⟩
theorem perm_of_good (h : Good s o o.length) (hall : ∀ t : Nat, trn s.length (ch s) t = true → ∃ a, a < o.length ∧ ch o a = (t : Int)) : o.Perm (tul s) := by
  refine (List.perm_ext_iff_of_nodup ?_ tul_nodup).2 fun x => ?_
  · refine List.pairwise_iff_getElem.2 fun a b ha hb hab e => ?_
    rw [ch_get ha, ch_get hb] at e
    have := h.inj a b ha hb e; omega
  · rw [mem_tul]
    constructor
    · intro hx
      obtain ⟨a, ha, e⟩ := List.getElem_of_mem hx
      obtain ⟨t, h1, h2⟩ := h.turn a ha
      exact ⟨t, h1, by rw [← e, ch_get ha, h2]⟩
    · rintro ⟨t, ht, rfl⟩
      obtain ⟨a, h1, h2⟩ := hall t ht
      rw [← h2, ← ch_get h1]; exact List.getElem_mem _

theorem rturns_l1 (hlen : o.length ≤ 16777216) (d : Nat) : ∀ q (is : List Bool), o.length - q = d → q ≤ o.length → is.length = s.length → cn s.length (fun j => is.getD j false) = o.length - q →
    (∀ j, j < s.length → (is.getD j false = true ↔ trn s.length (ch s) j = true ∧ ∀ a, a < q → ch o a ≠ (j : Int))) → Good s o q →
    ∃ b : Bool, (b = true ↔ o.Perm (tul s)) ∧ ∀ k, sapperref12_turns.l1 (k + d + 1) s o (q : Int) is = some b := by
  induction d with
  | zero =>
    intro q is hd hq hl hc hi hg
    obtain rfl : q = o.length := by omega
    refine ⟨true, ⟨fun _ => perm_of_good hg fun t ht => ?_, fun _ => rfl⟩, fun k => by rw [sapperref12_turns.l1, if_neg (by omega)]⟩
    have htn := trn_lt ht
    refine Classical.byContradiction fun hno => ?_
    have h1 := (hi t (by omega)).2 ⟨ht, fun a ha e => hno ⟨a, ha, e⟩⟩
    have := cn_lt (n := s.length) (P := fun _ => false) (Q := fun j => is.getD j false) (fun j _ h => by cases h) (show t < s.length by omega) h1 rfl
    omega
  | succ d ih =>
    intro q is hd hq hl hc hi hg
    have hqo : q < o.length := by omega
    have no : (∀ t : Nat, trn s.length (ch s) t = true → ch o q = (t : Int) → ∃ a, a < q ∧ ch o a = (t : Int)) → ¬ o.Perm (tul s) := fun h hp => by
      have g := good_of_perm hp
      obtain ⟨t, h1, h2⟩ := g.turn q hqo
      obtain ⟨a, h3, h4⟩ := h t h1 h2
      have := g.inj a q (by omega) hqo (h4.trans h2.symm); omega
    by_cases a : ch o q < 0
    · exact ⟨false, ⟨fun h => (by cases h), fun hp => absurd hp (no fun t _ e => by omega)⟩, fun k => by
        rw [sapperref12_turns.l1, if_pos (by omega), if_pos (by omega), rd_nat, if_pos a]⟩
    · by_cases b : ch o q ≥ (s.length : Int)
      · exact ⟨false, ⟨fun h => (by cases h), fun hp => absurd hp (no fun t ht e => by have := trn_lt ht; omega)⟩, fun k => by
          rw [sapperref12_turns.l1, if_pos (by omega), if_pos (by omega), rd_nat, if_neg a, if_pos b]⟩
      · obtain ⟨u, hu⟩ : ∃ u : Nat, ch o q = (u : Int) := ⟨(ch o q).toNat, by omega⟩
        have hun : u < s.length := by omega
        by_cases c : is.getD u false = true
        · have h1 := (hi u hun).1 c
          obtain ⟨b', h2, h3⟩ := ih (q + 1) (is.set u false) (by omega) (by omega) (by rw [List.length_set]; exact hl)
            (by
              have : cn s.length (fun j => is.getD j false) = cn s.length (fun j => (is.set u false).getD j false) + 1 := by
                refine cn_succ hun (by rw [getD_set _ _ _ _ _ (by omega), if_pos rfl]) fun j hj => ?_
                rw [getD_set _ _ _ _ _ (by omega)]
                by_cases e : u = j
                · rw [if_pos e, ← e, c]; simp
                · rw [if_neg e, show (j == u) = false from beq_eq_false_iff_ne.2 (Ne.symm e), Bool.or_false]
              omega)
            (fun j hj => by
              rw [getD_set _ _ _ _ _ (by omega)]
              by_cases e : u = j
              · rw [if_pos e]
                exact ⟨fun h => (by cases h), fun h => absurd (by rw [hu, e]) (h.2 q (by omega))⟩
              · rw [if_neg e, hi j hj]
                refine ⟨fun h => ⟨h.1, fun a ha e2 => ?_⟩, fun h => ⟨h.1, fun a ha => h.2 a (by omega)⟩⟩
                rcases Nat.lt_or_ge a q with z | z
                · exact h.2 a z e2
                · rw [show a = q by omega] at e2; omega)
            ⟨fun a ha => by
              rcases Nat.lt_or_ge a q with z | z
              · exact hg.turn a z
              · rw [show a = q by omega]; exact ⟨u, h1.1, hu⟩, fun a b ha hb e => by
              rcases Nat.lt_or_ge a q with z | z
              · rcases Nat.lt_or_ge b q with y | y
                · exact hg.inj a b z y e
                · rw [show b = q by omega, hu] at e; exact absurd e (h1.2 a z)
              · rcases Nat.lt_or_ge b q with y | y
                · rw [show a = q by omega, hu] at e; exact absurd e.symm (h1.2 b y)
                · omega⟩
          exact ⟨b', h2, fun k => by
            rw [show k + (d + 1) + 1 = k + d + 1 + 1 by omega, sapperref12_turns.l1, if_pos (by omega), if_pos (by omega), rd_nat, if_neg a, if_neg b, hu, if_pos (by omega), if_pos (by omega), rdB_nat, if_pos c, Int.toNat_natCast, wp (y := ((q + 1 : Nat) : Int)) (by omega) (by omega) (by omega)]
            exact h3 k⟩
        · exact ⟨false, ⟨fun h => (by cases h), fun hp => absurd hp (no fun t ht e => by
            have : t = u := by omega
            subst this
            refine Classical.byContradiction fun hno => c ((hi t hun).2 ⟨ht, fun a ha e2 => hno ⟨a, ha, e2⟩⟩))⟩, fun k => by
            rw [sapperref12_turns.l1, if_pos (by omega), if_pos (by omega), rd_nat, if_neg a, if_neg b, hu, if_pos (by omega), if_pos (by omega), rdB_nat, if_neg c]⟩

theorem rturns_l0 (hn : s.length ≤ 16777216) (d : Nat) : ∀ q (is : List Bool), (tul s).length - q = d → q ≤ (tul s).length → is.length = s.length → (∀ j, j < s.length → (is.getD j false = true ↔ ∃ a, a < q ∧ ch (tul s) a = (j : Int))) →
    ∃ is' : List Bool, is'.length = s.length ∧ (∀ j, j < s.length → (is'.getD j false = true ↔ ∃ a, a < (tul s).length ∧ ch (tul s) a = (j : Int))) ∧ ∀ k, sapperref12_turns.l0 (k + d + 1) s o (q : Int) (tul s) is = sapperref12_turns.l1 k s o 0 is' := by
  have htl := tul_le s
  induction d with
  | zero =>
    intro q is hd hq hl hi
    obtain rfl : q = (tul s).length := by omega
    exact ⟨is, hl, hi, fun k => by rw [sapperref12_turns.l0, if_neg (by omega)]⟩
  | succ d ih =>
    intro q is hd hq hl hi
    have hq2 : q < (tul s).length := by omega
    obtain ⟨t, ht, e⟩ := mem_tul.1 (List.getElem_mem hq2)
    rw [ch_get hq2] at e
    have htn := trn_lt ht
    obtain ⟨is', h1, h2, h3⟩ := ih (q + 1) (is.set t true) (by omega) (by omega) (by rw [List.length_set]; exact hl) (fun j hj => by
      rw [getD_set _ _ _ _ _ (by omega)]
      by_cases e2 : t = j
      · rw [if_pos e2]; exact ⟨fun _ => ⟨q, by omega, by rw [e, e2]⟩, fun _ => rfl⟩
      · rw [if_neg e2, hi j hj]
        refine ⟨fun ⟨a, z, y⟩ => ⟨a, by omega, y⟩, fun ⟨a, z, y⟩ => ⟨a, ?_, y⟩⟩
        rcases Nat.lt_or_ge a q with x | x
        · exact x
        · rw [show a = q by omega] at y; omega)
    exact ⟨is', h1, h2, fun k => by
      rw [show k + (d + 1) + 1 = k + d + 1 + 1 by omega, sapperref12_turns.l0, if_pos (by omega), if_pos (by omega), rd_nat, e, if_pos (by omega), if_pos (by omega), Int.toNat_natCast, wp (y := ((q + 1 : Nat) : Int)) (by omega) (by omega) (by omega)]
      exact h3 k⟩

theorem rturns_f (hn : s.length ≤ 16777216) (o : List Int) : ∃ K, ∃ b : Bool, (b = true ↔ o.Perm (tul s)) ∧ ∀ k, K ≤ k → sapperref12_turns.f k s o = some b := by
  have htl := tul_le s
  by_cases hl : (tul s).length = o.length
  · have hrep : (List.replicate s.length false).length = s.length := by simp
    obtain ⟨is, h1, h2, h3⟩ := rturns_l0 (o := o) hn (tul s).length 0 (List.replicate s.length false) (by omega) (by omega) hrep (fun j hj => by
      rw [List.getD_eq_getElem?_getD, List.getElem?_replicate, if_pos hj]
      exact ⟨fun h => (by cases h), fun ⟨a, z, _⟩ => absurd z (by omega)⟩)
    have h4 : ∀ j, j < s.length → (is.getD j false = true ↔ trn s.length (ch s) j = true) := fun j hj => by
      rw [h2 j hj]
      constructor
      · rintro ⟨a, z, e⟩
        obtain ⟨t, ht, e2⟩ := mem_tul.1 (List.getElem_mem z)
        rw [ch_get z] at e2
        rw [show j = t by omega]; exact ht
      · intro ht
        obtain ⟨a, z, e⟩ := List.getElem_of_mem (mem_tul.2 ⟨j, ht, rfl⟩)
        exact ⟨a, z, by rw [← ch_get z, e]⟩
    obtain ⟨b, g1, g2⟩ := rturns_l1 (o := o) (by omega) o.length 0 is (by omega) (by omega) h1 (by
      rw [Nat.sub_zero, ← hl, tul_length]
      exact cn_congr fun j hj => by rw [Bool.eq_iff_iff]; exact h4 j hj) (fun j hj => by rw [h4 j hj]; exact ⟨fun h => ⟨h, fun a ha => absurd ha (by omega)⟩, fun h => h.1⟩) ⟨fun a ha => absurd ha (by omega), fun a b ha => absurd ha (by omega)⟩
    refine ⟨2 * s.length + 10, b, g1, fun k hk => ?_⟩
    unfold sapperref12_turns.f
    rw [rlms_f s (by omega) k (by omega), Option.bind_some, if_pos (by omega), if_pos (by omega), if_pos (by omega), Int.toNat_natCast]
    have a1 := h3 (k - (tul s).length - 1)
    rw [show k - (tul s).length - 1 + (tul s).length + 1 = k by omega, show ((0 : Nat) : Int) = 0 from rfl] at a1
    have a2 := g2 (k - (tul s).length - 1 - o.length - 1)
    rw [show k - (tul s).length - 1 - o.length - 1 + o.length + 1 = k - (tul s).length - 1 by omega, show ((0 : Nat) : Int) = 0 from rfl] at a2
    rw [a1, a2]
  · refine ⟨s.length + 2, false, ⟨fun h => (by cases h), fun h => absurd h.length_eq.symm hl⟩, fun k hk => ?_⟩
    unfold sapperref12_turns.f
    rw [rlms_f s (by omega) k (by omega), Option.bind_some, if_neg (by omega)]

theorem equal_any_loop (a b : List Int) (hl : a.length = b.length) (hb : a.length ≤ 9223372036854775000) (d : Nat) : ∀ q, a.length - q = d → q ≤ a.length → (∀ j, j < q → ch a j = ch b j) → ∃ r : Bool, (r = true ↔ a = b) ∧ ∀ k, slices_Equal_int_int.l0 (k + d + 1) a b (a.length : Int) (q : Int) = some r := by
  induction d with
  | zero =>
    intro q hd hq h
    obtain rfl : q = a.length := by omega
    refine ⟨true, ⟨fun _ => ch_ext rfl hl.symm h, fun _ => rfl⟩, fun k => by rw [slices_Equal_int_int.l0, if_neg (by omega)]⟩
  | succ d ih =>
    intro q hd hq h
    by_cases e : ch a q = ch b q
    · obtain ⟨r, h1, h2⟩ := ih (q + 1) (by omega) (by omega) (fun j hj => by
        rcases Nat.lt_or_ge j q with z | z
        · exact h j z
        · rw [show j = q by omega]; exact e)
      exact ⟨r, h1, fun k => by
        rw [show k + (d + 1) + 1 = k + d + 1 + 1 by omega, slices_Equal_int_int.l0, if_pos (by omega), if_pos (by omega), if_pos (by omega), if_pos (by omega), rd_nat, rd_nat, if_pos e, wp (y := ((q + 1 : Nat) : Int)) (by omega) (by omega) (by omega)]
        exact h2 k⟩
    · exact ⟨false, ⟨fun h => (by cases h), fun h => absurd (by rw [h]) e⟩, fun k => by
        rw [show k + (d + 1) + 1 = k + d + 1 + 1 by omega, slices_Equal_int_int.l0, if_pos (by omega), if_pos (by omega), if_pos (by omega), if_pos (by omega), rd_nat, rd_nat, if_neg e]⟩
theorem equal_any (a b : List Int) (hb : a.length ≤ 9223372036854775000) : ∃ r : Bool, (r = true ↔ a = b) ∧ ∀ k, a.length + 1 ≤ k → slices_Equal_int_int.f k a b = some r := by
  by_cases hl : a.length = b.length
  · obtain ⟨r, h1, h2⟩ := equal_any_loop a b hl hb a.length 0 (by omega) (by omega) (fun j hj => absurd hj (by omega))
    refine ⟨r, h1, fun k hk => ?_⟩
    have := h2 (k - a.length - 1)
    rw [show k - a.length - 1 + a.length + 1 = k by omega, show ((0 : Nat) : Int) = 0 from rfl] at this
    unfold slices_Equal_int_int.f
    rw [if_pos (by omega), this]
  · refine ⟨false, ⟨fun h => (by cases h), fun h => absurd (by rw [h]) hl⟩, fun k _ => ?_⟩
    unfold slices_Equal_int_int.f
    rw [if_neg (by omega)]

/-- The document's Induce, of an order of the turns. -/
theorem rinduce_f (hok : Ok k0 s) (hp : o.Perm (tul s)) : ∃ K row, (∀ k, K ≤ k → sapperref12_Induce.f k k0 s o = some (row, 0)) ∧ row.length = s.length ∧ ∀ i, i < s.length → ch row (rk3 s.length (ch s) (fun t => o.idxOf (t : Int)) i) = (i : Int) := by
  have hn := hok.2.2.1
  have hk2 := hok.2.1
  have ho := ord_of_perm hp
  have hr := ho.inj
  have htl := tul_le s
  have hm : o.length ≤ 16777216 := by rw [hp.length_eq]; omega
  obtain ⟨A, hA⟩ : ∃ A : Nat, k0 = A := ⟨k0.toNat, by have := hok.1; omega⟩
  have hAs : A ≤ 33554432 := by omega
  obtain ⟨K1, e, h1, h2⟩ := both_wrong k0 s (by omega)
  obtain ⟨hd, en, b1, b2, b3, b4, b5⟩ := rbuckets_l0 hok A hA s.length 0 (List.replicate A 0) (by omega) (by omega) (by simp) (fun u hu => by rw [ch_rep _ _ _ hu, cv_zero]; rfl)
  obtain ⟨K2, b, t1, t2⟩ := rturns_f hn o
  have hbt := t1.2 hp
  subst hbt
  have hrep : (List.replicate s.length (0 : Int)).length = s.length := by simp
  obtain ⟨row0, a1, a2, a3⟩ := rinduce_l0 (o := o) hok (tyl s) (List.replicate s.length false) hd en s.length 0 (List.replicate s.length 0) (by omega) (by omega) hrep (fun j hj => absurd hj (by omega))
  have T0 : Tn s 0 row0 (List.replicate s.length false) := ⟨by simp, fun q _ hq => by
    rw [List.getD_eq_getElem?_getD, List.getElem?_replicate, if_pos hq, a2 q hq]
    exact ⟨fun h => (by cases h), fun ⟨i, e, _⟩ => absurd e (by omega)⟩⟩
  -- all ahead of the passes
  have start : ∀ k, K1 + K2 + 2 * s.length + A + 10 ≤ k → sapperref12_Induce.f k k0 s o = sapperref12_Induce.l1 (k - s.length - 1) s o (wrap64 ((o.length : Int) - 1)) hd en (tyl s) row0 (List.replicate s.length false) en := by
    intro k hk
    unfold sapperref12_Induce.f sapperref12_Buckets.f
    have c5 := b5 (k - s.length - A - 2)
    rw [show k - s.length - A - 2 + s.length + A + 2 = k by omega, show ((0 : Nat) : Int) = 0 from rfl] at c5
    have c3 := rtypes_f s (by omega) (k - s.length - 1)
    rw [show k - s.length - 1 + s.length + 1 = k by omega] at c3
    have c0 := a3 (k - s.length - 1)
    rw [show k - s.length - 1 + s.length + 1 = k by omega, show ((0 : Nat) : Int) = 0 from rfl] at c0
    rw [(h1 k (by omega)).2, Option.bind_some, if_pos (h2.2 hok), if_pos hok.1, if_pos (by omega), show (k0 : Int).toNat = A by omega, c5, Option.bind_some, if_pos rfl, t2 k (by omega), Option.bind_some, if_pos rfl, c3, Option.bind_some, if_pos (by omega), if_pos (by omega), if_pos (by omega), Int.toNat_natCast, c0,
      sapperref12_Induce.l0, if_neg (by omega), Option.bind_some, if_pos (by simp only [List.length_nil]; omega), List.nil_append]
  rcases Nat.eq_zero_or_pos s.length with h0 | h0
  · have ol : o.length = 0 := by have := hp.length_eq; omega
    refine ⟨K1 + K2 + 2 * s.length + A + 20, row0, fun k hk => ?_, a1, fun i hi => absurd hi (by omega)⟩
    rw [start k (by omega)]
    obtain ⟨k, rfl⟩ : ∃ m, k = m + s.length + 10 := ⟨k - s.length - 10, by omega⟩
    rw [show k + s.length + 10 - s.length - 1 = k + 9 by omega, wp (x := (o.length : Int) - 1) (y := -1) (by omega) (by omega) (by omega), sapperref12_Induce.l1, if_neg (by omega), Option.bind_some, if_pos (by simp only [List.length_nil]; omega), Option.bind_some, if_neg (by omega), List.nil_append, sapperref12_Induce.j2, sapperref12_Induce.l2, if_neg (by omega), sapperref12_Induce.l3, if_neg (by omega), Option.bind_some, if_pos (by simp only [List.length_nil]; omega), List.nil_append, wp (x := (row0.length : Int) - 1) (y := -1) (by omega) (by omega) (by omega), sapperref12_Induce.l4, if_neg (by omega)]
  · have r1 : Row1 s (fun t => o.idxOf (t : Int)) o.length row0 := ⟨a1, fun t ht h => absurd h (by have := (ho.all t ht).1; omega), fun q hq hne => absurd (a2 q hq) hne⟩
    have at1 : At1 s (fun t => o.idxOf (t : Int)) A o.length en := ⟨b2, fun v hv => by
      rw [b4 v hv, cn_false (fun u hu => ?_), Nat.sub_zero]
      cases h : trn s.length (ch s) u with
      | false => simp
      | true => have := (ho.all u h).1; rw [decide_eq_false (by omega : ¬ o.length ≤ o.idxOf (u : Int))]; simp⟩
    obtain ⟨row1, at2, tn1, c1, c2, c0, c3⟩ := rinduce_l1 hok A hA ho hm h0 hAs hd en b1 b3 o.length row0 en (List.replicate s.length false) (Nat.le_refl _) r1 at1 T0
    obtain ⟨row2, tn2, d1, d2, d3⟩ := rinduce_l2 hok A hA hr en s.length 0 row1 at2 tn1 (by omega) (by omega) c1 c2 c0
    obtain ⟨row3, e1, e2⟩ := rinduce_l3 hok A en b2 hAs s.length 0 row2 tn2 (by omega) (by omega) (row3_of_2 d1) d2
    obtain ⟨row4, f1, f2⟩ := rinduce_l4 hok A hA hr s.length row3 en (Nat.le_refl _) (row4_of_3 e1) (at4_of_ends b2 b4)
    refine ⟨K1 + K2 + 6 * s.length + A + o.length + 20, row4, fun k hk => ?_, f1.len, fun i hi => f1.put i hi (fun _ => Nat.zero_le _)⟩
    rw [start k (by omega), w64 (by omega) (by omega)]
    obtain ⟨k', hk', ek⟩ : ∃ k', 5 * s.length + A + o.length + 15 ≤ k' ∧ k - s.length - 1 = k' := ⟨_, by omega, rfl⟩
    rw [ek]
    have g2 := c3 (k' - o.length - 2)
    rw [show k' - o.length - 2 + o.length + 2 = k' by omega] at g2
    have g3 := d3 (k' - o.length - 2 - s.length - 1)
    rw [show k' - o.length - 2 - s.length - 1 + s.length + 1 = k' - o.length - 2 by omega, show ((0 : Nat) : Int) = 0 from rfl] at g3
    have g4 := e2 (k' - o.length - 2 - s.length - 1 - s.length - 1)
    rw [show k' - o.length - 2 - s.length - 1 - s.length - 1 + s.length + 1 = k' - o.length - 2 - s.length - 1 by omega, show ((0 : Nat) : Int) = 0 from rfl] at g4
    have g5 := f2 (k' - o.length - 2 - s.length - 1 - s.length - 1 - s.length - 1)
    rw [show k' - o.length - 2 - s.length - 1 - s.length - 1 - s.length - 1 + s.length + 1 = k' - o.length - 2 - s.length - 1 - s.length - 1 by omega] at g5
    rw [g2, g3, g4, g5]

/-- The answers of both agree, of any order. -/
theorem both_induce (k0 : Int) (s o : List Int) (hs : s.length ≤ 17592186044000) (hol : o.length ≤ 17592186044416) : ∃ K l e, (∀ k, K ≤ k → sais_Induce.f k k0 s o = some (l, e) ∧ sapperref12_Induce.f k k0 s o = some (l, e)) ∧ l.length ≤ 16777216 := by
  obtain ⟨K1, e, h1, h2⟩ := both_wrong k0 s (by omega)
  by_cases hok : Ok k0 s
  · have hn := hok.2.2.1
    have he := h2.2 hok
    by_cases hp : o.Perm (tul s)
    · obtain ⟨K2, row, g1, g2, g3⟩ := Induce_f hok (ord_of_perm hp)
      obtain ⟨K3, row', f1, f2, f3⟩ := rinduce_f hok hp
      have : row' = row := ch_ext f2 g2 fun q hq => by
        obtain ⟨i, hi, e⟩ := pigeon s.length (rk3 s.length (ch s) (fun t => o.idxOf (t : Int))) (fun _ h => rk3_lt h) (fun _ _ h h' e => rk3_inj (ord_of_perm hp).inj h h' e) q hq
        rw [← e, f3 i hi, g3 i hi]
      subst this
      exact ⟨K2 + K3, row', 0, fun k hk => ⟨g1 k (by omega), f1 k (by omega)⟩, by omega⟩
    · obtain ⟨K2, b, t1, t2⟩ := rturns_f hn o
      have hb : b = false := by
        cases hb : b with
        | false => rfl
        | true => exact absurd (t1.1 hb) hp
      obtain ⟨r, r1, r2⟩ := equal_any (o.mergeSort (fun x y => decide (x ≤ y))) (tul s) (by rw [List.length_mergeSort]; omega)
      have hr : r = false := by
        cases hr : r with
        | false => rfl
        | true => exact absurd ((List.mergeSort_perm _ _).symm.trans (List.Perm.of_eq (r1.1 hr))) hp
      obtain ⟨K3, l, l', e', q1, q2, q3⟩ : ∃ K l l' e', (∀ k, K ≤ k → sapperref12_Buckets.f k k0 s = some (l, l', e')) ∧ e' = 0 ∧ True := by
        obtain ⟨A, hA⟩ : ∃ A : Nat, k0 = A := ⟨k0.toNat, by have := hok.1; omega⟩
        have hk2 := hok.2.1
        obtain ⟨hd, en, b1, b2, b3, b4, b5⟩ := rbuckets_l0 hok A hA s.length 0 (List.replicate A 0) (by omega) (by omega) (by simp) (fun u hu => by rw [ch_rep _ _ _ hu, cv_zero]; rfl)
        refine ⟨K1 + s.length + A + 2, hd, en, 0, fun k hk => ?_, rfl, trivial⟩
        unfold sapperref12_Buckets.f
        have := b5 (k - s.length - A - 2)
        rw [show k - s.length - A - 2 + s.length + A + 2 = k by omega, show ((0 : Nat) : Int) = 0 from rfl] at this
        rw [(h1 k (by omega)).2, Option.bind_some, if_pos he, if_pos hok.1, if_pos (by omega), show (k0 : Int).toNat = A by omega, this]
      subst q2
      refine ⟨K1 + K2 + K3 + s.length + o.length + 20, [], 1, fun k hk => ⟨?_, ?_⟩, by simp⟩
      · have c2 := lms_f s (by omega) (k - s.length - 1)
        rw [show k - s.length - 1 + s.length + 1 = k by omega] at c2
        unfold sais_Induce.f slices_Clone_int_int.f slices_Sort_int_int.f
        rw [(h1 k (by omega)).1, Option.bind_some, if_pos he, if_pos (by omega), Option.bind_some, if_pos (by omega), Option.bind_some, c2, Option.bind_some, r2 k (by rw [List.length_mergeSort]; omega), Option.bind_some, hr, if_neg (by decide)]
      · unfold sapperref12_Induce.f
        rw [q1 k (by omega), Option.bind_some, if_pos rfl, t2 k (by omega), Option.bind_some, hb, if_neg (by decide)]
  · have hne : e ≠ 0 := fun h => hok (h2.1 h)
    refine ⟨K1, [], e, fun k hk => ⟨?_, ?_⟩, by simp⟩
    · unfold sais_Induce.f; rw [(h1 k hk).1, Option.bind_some, if_neg hne]
    · unfold sapperref12_Induce.f sapperref12_Buckets.f
      rw [(h1 k hk).2, Option.bind_some, if_neg hne, Option.bind_some, if_neg hne]
end
end Go.Proofs.Ytgnhangjacdfbaa.SD
end
