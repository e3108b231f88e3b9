import Derived.Test.YtgnhangjacdfbaaSB
import Derived.Test.YtgnhangjacdfbaaXx12
import Derived.Test.YtgnhangjacdfbaaXx11
import Derived.Test.YtgnhangjacdfbaaXx16
import Derived.Test.YtgnhangjacdfbaaXx17
import Derived.Test.YtgnhangjacdfbaaXx22
import Derived.Test.YtgnhangjacdfbaaXx14
import Derived.Test.YtgnhangjacdfbaaXx15
section
/- The laws' functions awake and Same of layer 12; the suffixes' order is one. -/
namespace Go.Proofs.Ytgnhangjacdfbaa.SD
open Go.RowKit Go.Proofs.Ytgnhangjacdfbaa Go.Proofs.Ytgnhangjacdfbaa.X Go.Proofs.Ytgnhangjacdfbaa.SM Go.Proofs.YtgnhangjacdfbaaW.PrintWords Go.Proofs.YtgnhangjacdfbaaW.PrintLast

theorem awake_f : ∃ K, ∀ k, K ≤ k → sapperlaw12_awake.f k = some true := by
  have h : sapperlaw12_awake.f 100 = some true := by decide +kernel
  exact ⟨100, fun k hk => at_rounds (g := fun k => sapperlaw12_awake.f k) (fun k => sapperlaw12_awake.mono k) hk h⟩

theorem same12_loop (l : List Int) (hl : l.length ≤ 9223372036854775000) (d : Nat) : ∀ q, l.length - q = d → q ≤ l.length → ∀ k, sapperlaw12_Same.l0 (k + 2 * d + 2) l l (q : Int) = some true := by
  induction d with
  | zero =>
    intro q hd hq k
    rw [show k + 2 * 0 + 2 = k + 1 + 1 by omega, sapperlaw12_Same.l0, if_neg (by omega), sapperlaw12_Same.j1, if_neg (by simp)]
    simp
  | succ d ih =>
    intro q hd hq k
    rw [show k + 2 * (d + 1) + 2 = k + 2 * d + 2 + 1 + 1 by omega, sapperlaw12_Same.l0, if_pos (by omega), sapperlaw12_Same.j1, if_pos (by simp <;> omega), if_pos (by omega), if_pos (by omega), if_pos (by omega), if_pos rfl, wp (y := ((q + 1 : Nat) : Int)) (by omega) (by omega) (by omega)]
    exact ih (q + 1) (by omega) (by omega) k
theorem same12_f (l : List Int) (hl : l.length ≤ 9223372036854775000) (k : Nat) : sapperlaw12_Same.f (k + 2 * l.length + 2) l l = some true := by
  unfold sapperlaw12_Same.f
  exact same12_loop l hl l.length 0 (by omega) (by omega) k
theorem same12_ge {l : List Int} (hl : l.length ≤ 9223372036854775000) {k : Nat} (hk : 2 * l.length + 2 ≤ k) : sapperlaw12_Same.f k l l = some true := by
  have := same12_f l hl (k - 2 * l.length - 2)
  rw [show k - 2 * l.length - 2 + 2 * l.length + 2 = k by omega] at this; exact this

section
variable {s : List Int}
end
end Go.Proofs.Ytgnhangjacdfbaa.SD
end

section
/- The laws' own functions of layer 12 and its reference, against the plain mathematics. -/
namespace Go.Proofs.Ytgnhangjacdfbaa.SD
open Go.RowKit Go.Proofs.Ytgnhangjacdfbaa Go.Proofs.Ytgnhangjacdfbaa.X Go.Proofs.Ytgnhangjacdfbaa.SM Go.Proofs.YtgnhangjacdfbaaW.PrintWords Go.Proofs.YtgnhangjacdfbaaW.PrintLast

theorem lend_f (l : List Int) (hl : l.length ≤ 17592186044411) : sapperlaw12_lend.f l = some (l ++ [71, 72, 73, 74]) := by
  unfold sapperlaw12_lend.f
  rw [if_pos (by simp <;> omega)]
  simp only [Option.bind_some, List.nil_append]
  rw [if_pos (by simp <;> omega)]

theorem own_l0 (b w : List Int) (n : Nat) (hn : n ≤ 9223372036854775000) (d : Nat) : ∀ q (a : List Int), n - q = d → q ≤ n → a.length = n → ∃ a', a'.length = n ∧ ∀ k, sapperlaw12_own.l0 (k + d + 1) a b w (q : Int) = sapperlaw12_own.l1 k a' b w 0 := by
  induction d with
  | zero =>
    intro q a hd hq ha
    exact ⟨a, ha, fun k => by rw [sapperlaw12_own.l0, if_neg (by omega)]⟩
  | succ d ih =>
    intro q a hd hq ha
    obtain ⟨a', g1, g2⟩ := ih (q + 1) (a.set q 81) (by omega) (by omega) (by rw [List.length_set]; exact ha)
    refine ⟨a', g1, fun k => ?_⟩
    rw [show k + (d + 1) + 1 = k + d + 1 + 1 by omega, sapperlaw12_own.l0, if_pos (by omega), if_pos (by omega), Int.toNat_natCast, wp (y := ((q + 1 : Nat) : Int)) (by omega) (by omega) (by omega)]
    exact g2 k
theorem own_l1 (b w : List Int) (hw : w.length ≤ 17592186044000) (d : Nat) : ∀ q (a : List Int), 40 - q = d → q ≤ 40 → a.length = w.length + q → b = w → ∀ k, 2 * w.length + 2 ≤ k → sapperlaw12_own.l1 (k + d + 1) a b w (q : Int) = some true := by
  induction d with
  | zero =>
    intro q a hd hq ha hb k hk
    subst hb
    rw [show k + 0 + 1 = k + 1 by omega, sapperlaw12_own.l1, if_neg (by omega), same12_ge (by omega) hk, Option.bind_some, if_pos rfl, w64 (by omega) (by omega)]
    congr 1
    rw [beq_iff_eq]; omega
  | succ d ih =>
    intro q a hd hq ha hb k hk
    rw [show k + (d + 1) + 1 = k + d + 1 + 1 by omega, sapperlaw12_own.l1, if_pos (by omega), if_pos (by omega), wp (y := ((q + 1 : Nat) : Int)) (by omega) (by omega) (by omega)]
    exact ih (q + 1) (a ++ [82]) (by omega) (by omega) (by rw [List.length_append, ha]; simp; omega) hb k hk
theorem own_f (l : List Int) (hl : l.length ≤ 17592186044000) (k : Nat) (hk : 5 * l.length + 100 ≤ k) : sapperlaw12_own.f k l l l = some true := by
  unfold sapperlaw12_own.f
  rw [same12_ge (by omega) (by omega), Option.bind_some, if_pos rfl, Option.bind_some]
  obtain ⟨k, rfl⟩ : ∃ m, k = m + 1 := ⟨k - 1, by omega⟩
  rw [sapperlaw12_own.j0, if_neg (by simp)]
  obtain ⟨a', g1, g2⟩ := own_l0 l l l.length (by omega) l.length 0 l (by omega) (by omega) rfl
  have := g2 (k - l.length - 1)
  rw [show k - l.length - 1 + l.length + 1 = k by omega, show ((0 : Nat) : Int) = 0 from rfl] at this
  rw [this]
  have := own_l1 l l hl 40 0 a' (by omega) (by omega) (by omega) rfl (k - l.length - 1 - 41) (by omega)
  rw [show k - l.length - 1 - 41 + 40 + 1 = k - l.length - 1 by omega] at this
  exact this

/-! ### the reference -/


section
variable {s : List Int}




end

end Go.Proofs.Ytgnhangjacdfbaa.SD
end

section
/- The document's types and turns. -/
namespace Go.Proofs.Ytgnhangjacdfbaa.SD
open Go.RowKit Go.Proofs.Ytgnhangjacdfbaa Go.Proofs.Ytgnhangjacdfbaa.X Go.Proofs.Ytgnhangjacdfbaa.SM Go.Proofs.YtgnhangjacdfbaaW.PrintWords Go.Proofs.YtgnhangjacdfbaaW.PrintLast

theorem rtypes_neg (k : Nat) (s : List Int) (i : Int) (t : List Bool) (h : i < 0) : sapperref12_Types.l0 (k + 1) s i t = some t := by
  rw [sapperref12_Types.l0]; rw [if_neg (by omega)]
theorem rtypes_loop (s : List Int) (hs : s.length ≤ 140737488351328) (q : Nat) : ∀ (t : List Bool), q + 1 < s.length → t.length = s.length →
    (∀ j, q < j → j < s.length → t.getD j false = sm s.length (ch s) j) → ∀ k, sapperref12_Types.l0 (k + q + 2) s (q : Int) t = some (tyl s) := by
  induction q with
  | zero =>
    intro t hq ht hi k
    have w1 : wrap64 ((0 : Nat) + 1 : Int) = ((1 : Nat) : Int) := by rw [w64 (by omega) (by omega)]; rfl
    have w2 : wrap64 (((0 : Nat) : Int) - 1) = -1 := by rw [w64 (by omega) (by omega)]; rfl
    rw [show k + 0 + 2 = (k + 1) + 1 from rfl, sapperref12_Types.l0]
    rw [w1, w2, if_pos (by omega), if_pos (by omega), if_pos (by omega), if_pos (by omega), if_pos (by omega), rd_nat, rd_nat, rdB_nat]
    have hx : sm s.length (ch s) 0 = true ↔ ch s 0 < ch s 1 ∨ (ch s 0 = ch s 1 ∧ sm s.length (ch s) 1 = true) := sm_in (n := s.length) (c := ch s) (i := 0) hq
    have h1 := hi 1 (by omega) (by omega)
    have fin : ∀ v, v = sm s.length (ch s) 0 → (t.set (((0 : Nat) : Int)).toNat v) = tyl s := by
      intro v hv
      refine tyl_ext (by rw [List.length_set]; exact ht) (fun j hj => ?_)
      rw [Int.toNat_natCast, getD_set _ _ _ _ _ (by omega)]
      by_cases e : 0 = j
      · rw [if_pos e, ← e]; exact hv
      · rw [if_neg e]; exact hi j (by omega) hj
    by_cases a : ch s 0 < ch s 1
    · rw [if_pos a, if_pos (by omega), rtypes_neg _ _ _ _ (by omega), fin true (hx.2 (.inl a)).symm]
    · rw [if_neg a]
      by_cases b : ch s 0 = ch s 1
      · rw [if_pos b, if_pos (by omega), if_pos (by omega), rtypes_neg _ _ _ _ (by omega), fin _ ?_]
        rw [h1, Bool.eq_iff_iff, hx]
        exact ⟨fun h => .inr ⟨b, h⟩, fun h => h.elim (fun h2 => absurd h2 a) (fun h2 => h2.2)⟩
      · rw [if_neg b, if_pos (by omega), rtypes_neg _ _ _ _ (by omega), fin false ?_]
        cases h2 : sm s.length (ch s) 0 with
        | false => rfl
        | true => exact absurd (hx.1 h2) (fun h => h.elim a (fun h3 => b h3.1))
  | succ q ih =>
    intro t hq ht hi k
    have w1 : wrap64 (((q + 1 : Nat) : Int) + 1) = ((q + 2 : Nat) : Int) := by rw [w64 (by omega) (by omega)]; omega
    have w2 : wrap64 (((q + 1 : Nat) : Int) - 1) = (q : Int) := by rw [w64 (by omega) (by omega)]; omega
    rw [show k + (q + 1) + 2 = (k + q + 2) + 1 by omega]
    rw [sapperref12_Types.l0]
    rw [w1, w2, if_pos (by omega), if_pos (by omega), if_pos (by omega), if_pos (by omega), if_pos (by omega), rd_nat, rd_nat, rdB_nat]
    have hx : sm s.length (ch s) (q + 1) = true ↔ ch s (q + 1) < ch s (q + 2) ∨ (ch s (q + 1) = ch s (q + 2) ∧ sm s.length (ch s) (q + 2) = true) := sm_in (n := s.length) (c := ch s) (i := q + 1) hq
    have h1 := hi (q + 2) (by omega) (by omega)
    have fin : ∀ v, v = sm s.length (ch s) (q + 1) → ∀ k, sapperref12_Types.l0 (k + q + 2) s (q : Int) (t.set (((q + 1 : Nat) : Int)).toNat v) = some (tyl s) := by
      intro v hv k
      refine ih _ (by omega) (by rw [List.length_set]; exact ht) (fun j hj hj2 => ?_) k
      rw [Int.toNat_natCast, getD_set _ _ _ _ _ (by omega)]
      by_cases e : q + 1 = j
      · rw [if_pos e, ← e]; exact hv
      · rw [if_neg e]; exact hi j (by omega) hj2
    by_cases a : ch s (q + 1) < ch s (q + 2)
    · rw [if_pos a, if_pos (by omega), fin true (hx.2 (.inl a)).symm]
    · rw [if_neg a]
      by_cases b : ch s (q + 1) = ch s (q + 2)
      · rw [if_pos b, if_pos (by omega), if_pos (by omega), fin _ ?_]
        rw [h1, Bool.eq_iff_iff, hx]
        exact ⟨fun h => .inr ⟨b, h⟩, fun h => h.elim (fun h2 => absurd h2 a) (fun h2 => h2.2)⟩
      · rw [if_neg b, if_pos (by omega), fin false ?_]
        cases h2 : sm s.length (ch s) (q + 1) with
        | false => rfl
        | true => exact absurd (hx.1 h2) (fun h => h.elim a (fun h3 => b h3.1))
/-- Types, of any numbers. -/
theorem rtypes_f (s : List Int) (hs : s.length ≤ 140737488351328) (k : Nat) : sapperref12_Types.f (k + s.length + 1) s = some (tyl s) := by
  unfold sapperref12_Types.f
  rw [if_pos (by omega), if_pos (by omega)]
  rw [Int.toNat_natCast]
  have hr : (List.replicate s.length false).length = s.length := by simp
  have hg : ∀ j, (List.replicate s.length false).getD j false = false := by
    intro j; rw [List.getD_eq_getElem?_getD, List.getElem?_replicate]; split <;> rfl
  rcases Nat.lt_or_ge 1 s.length with h | h
  · have w : wrap64 ((s.length : Int) - 2) = ((s.length - 2 : Nat) : Int) := by rw [w64 (by omega) (by omega)]; omega
    rw [w]
    have := rtypes_loop s hs (s.length - 2) (List.replicate s.length false) (by omega) hr (fun j h1 h2 => by
      rw [hg, sm_out (by omega)]) (k + 1)
    rw [show k + s.length + 1 = k + 1 + (s.length - 2) + 2 by omega]; exact this
  · have w : wrap64 ((s.length : Int) - 2) = (s.length : Int) - 2 := w64 (by omega) (by omega)
    rw [w, rtypes_neg _ _ _ _ (by omega)]
    rw [tyl_ext hr (fun q hq => by rw [hg, sm_out (by omega)])]

theorem rlms_loop (s : List Int) (hs : s.length ≤ 17592186044415) (d : Nat) : ∀ q, s.length - q = d → q ≤ s.length → 1 ≤ q → ∀ k,
    sapperref12_Lms.l0 (k + d + 1) s (((List.range q).filter (trn s.length (ch s))).map (fun i : Nat => (i : Int))) (q : Int) (tyl s) = some (tul s) := by
  induction d with
  | zero =>
    intro q hd hq _ k
    rw [sapperref12_Lms.l0, if_neg (by omega)]
    obtain rfl : q = s.length := by omega
    rfl
  | succ d ih =>
    intro q hd hq h1 k
    have w : wrap64 ((q : Int) + 1) = ((q + 1 : Nat) : Int) := by rw [w64 (by omega) (by omega)]; omega
    have w2 : wrap64 ((q : Int) - 1) = ((q - 1 : Nat) : Int) := by rw [w64 (by omega) (by omega)]; omega
    have ht : trn s.length (ch s) q = (sm s.length (ch s) q && !sm s.length (ch s) (q - 1)) := by unfold trn; simp [show 0 < q by omega]
    have hl : (((List.range q).filter (trn s.length (ch s))).map (fun i : Nat => (i : Int))).length < 17592186044416 := by
      rw [List.length_map]
      have := List.length_filter_le (trn s.length (ch s)) (List.range q)
      rw [List.length_range] at this
      omega
    have h := ih (q + 1) (by omega) (by omega) (by omega) k
    rw [range_succ_filter] at h
    rw [show k + (d + 1) + 1 = (k + d + 1) + 1 by omega, sapperref12_Lms.l0, w, w2, if_pos (by omega), if_pos (by omega), if_pos (by rw [tyl_length]; omega), rdB_nat, rdB_nat, tyl_get (q := q) (by omega), tyl_get (q := q - 1) (by omega)]
    cases a : sm s.length (ch s) q with
    | false =>
      rw [ht, a, Bool.false_and, if_neg (by decide), List.append_nil] at h
      rw [if_neg (by decide)]
      exact h
    | true =>
      rw [if_pos rfl, if_pos (by omega), if_pos (by rw [tyl_length]; omega)]
      cases b : sm s.length (ch s) (q - 1) with
      | true =>
        rw [ht, a, b, Bool.not_true, Bool.and_false, if_neg (by decide), List.append_nil] at h
        rw [if_pos rfl]
        exact h
      | false =>
        rw [ht, a, b, Bool.not_false, Bool.and_true, if_pos rfl, List.map_append] at h
        rw [if_neg (by decide), if_pos hl]
        exact h
theorem rlms_f (s : List Int) (hs : s.length ≤ 17592186044415) (k : Nat) (hk : s.length + 2 ≤ k) : sapperref12_Lms.f k s = some (tul s) := by
  unfold sapperref12_Lms.f
  obtain ⟨j, rfl⟩ : ∃ j, k = j + s.length + 1 := ⟨k - s.length - 1, by omega⟩
  rw [rtypes_f s (by omega), Option.bind_some]
  by_cases h0 : s.length = 0
  · rw [sapperref12_Lms.l0, if_neg (by omega)]
    unfold tul
    rw [h0]; rfl
  · have h := rlms_loop s hs (s.length - 1) 1 (by omega) (by omega) (Nat.le_refl _) (j + 1)
    rw [show j + 1 + (s.length - 1) + 1 = j + s.length + 1 by omega] at h
    have e : ((List.range 1).filter (trn s.length (ch s))).map (fun i : Nat => (i : Int)) = [] := by
      have : trn s.length (ch s) 0 = false := by unfold trn; simp
      simp [List.range_succ, this]
    rw [e] at h
    exact h
theorem tul_le (s : List Int) : (tul s).length ≤ s.length := by
  unfold tul
  rw [List.length_map]
  exact Nat.le_trans (List.length_filter_le _ _) (by rw [List.length_range]; exact Nat.le_refl _)
end Go.Proofs.Ytgnhangjacdfbaa.SD
end
