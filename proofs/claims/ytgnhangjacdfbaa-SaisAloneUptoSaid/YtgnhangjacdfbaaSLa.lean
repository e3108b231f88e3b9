/- The laws' own functions of layer 12 and its reference, against the plain mathematics. -/
import Derived.Test.YtgnhangjacdfbaaSMh
import Derived.Test.YtgnhangjacdfbaaXx12
import Derived.Test.YtgnhangjacdfbaaXx16
import Derived.Test.YtgnhangjacdfbaaXx17
import Derived.Test.YtgnhangjacdfbaaXx22
namespace Go.Proofs.Ytgnhangjacdfbaa.SD
open Go.RowKit Go.Proofs.Ytgnhangjacdfbaa Go.Proofs.Ytgnhangjacdfbaa.X Go.Proofs.Ytgnhangjacdfbaa.SM Go.Proofs.YtgnhangjacdfbaaW.PrintWords Go.Proofs.YtgnhangjacdfbaaW.PrintLast

theorem awake_f : ∃ K, ∀ k, K ≤ k → sapperlaw12_awake.f k = some true := by
  have h : sapperlaw12_awake.f 100 = some true := by decide +kernel
  exact ⟨100, fun k hk => at_rounds (g := fun k => sapperlaw12_awake.f k) (fun k => sapperlaw12_awake.mono k) hk h⟩

theorem same12_loop (l : List Int) (hl : l.length ≤ 9223372036854775000) (d : Nat) : ∀ q, l.length - q = d → q ≤ l.length → ∀ k, sapperlaw12_Same.l0 (k + 2 * d + 2) l l (q : Int) = some true := by
  induction d with
  | zero =>
    intro q hd hq k
    rw [show k + 2 * 0 + 2 = k + 1 + 1 by omega, sapperlaw12_Same.l0, if_neg (by omega), sapperlaw12_Same.j1, if_neg (by simp)]
    simp
  | succ d ih =>
    intro q hd hq k
    rw [show k + 2 * (d + 1) + 2 = k + 2 * d + 2 + 1 + 1 by omega, sapperlaw12_Same.l0, if_pos (by omega), sapperlaw12_Same.j1, if_pos (by simp <;> omega), if_pos (by omega), if_pos (by omega), if_pos (by omega), if_pos rfl, wp (y := ((q + 1 : Nat) : Int)) (by omega) (by omega) (by omega)]
    exact ih (q + 1) (by omega) (by omega) k
theorem same12_f (l : List Int) (hl : l.length ≤ 9223372036854775000) (k : Nat) : sapperlaw12_Same.f (k + 2 * l.length + 2) l l = some true := by
  unfold sapperlaw12_Same.f
  exact same12_loop l hl l.length 0 (by omega) (by omega) k
theorem same12_ge {l : List Int} (hl : l.length ≤ 9223372036854775000) {k : Nat} (hk : 2 * l.length + 2 ≤ k) : sapperlaw12_Same.f k l l = some true := by
  have := same12_f l hl (k - 2 * l.length - 2)
  rw [show k - 2 * l.length - 2 + 2 * l.length + 2 = k by omega] at this; exact this

theorem lend_f (l : List Int) (hl : l.length ≤ 17592186044411) : sapperlaw12_lend.f l = some (l ++ [71, 72, 73, 74]) := by
  unfold sapperlaw12_lend.f
  rw [if_pos (by simp <;> omega)]
  simp only [Option.bind_some, List.nil_append]
  rw [if_pos (by simp <;> omega)]

theorem own_l0 (b w : List Int) (n : Nat) (hn : n ≤ 9223372036854775000) (d : Nat) : ∀ q (a : List Int), n - q = d → q ≤ n → a.length = n → ∃ a', a'.length = n ∧ ∀ k, sapperlaw12_own.l0 (k + d + 1) a b w (q : Int) = sapperlaw12_own.l1 k a' b w 0 := by
  induction d with
  | zero =>
    intro q a hd hq ha
    exact ⟨a, ha, fun k => by rw [sapperlaw12_own.l0, if_neg (by omega)]⟩
  | succ d ih =>
    intro q a hd hq ha
    obtain ⟨a', g1, g2⟩ := ih (q + 1) (a.set q 81) (by omega) (by omega) (by rw [List.length_set]; exact ha)
    refine ⟨a', g1, fun k => ?_⟩
    rw [show k + (d + 1) + 1 = k + d + 1 + 1 by omega, sapperlaw12_own.l0, if_pos (by omega), if_pos (by omega), Int.toNat_natCast, wp (y := ((q + 1 : Nat) : Int)) (by omega) (by omega) (by omega)]
    exact g2 k
theorem own_l1 (b w : List Int) (hw : w.length ≤ 17592186044000) (d : Nat) : ∀ q (a : List Int), 40 - q = d → q ≤ 40 → a.length = w.length + q → b = w → ∀ k, 2 * w.length + 2 ≤ k → sapperlaw12_own.l1 (k + d + 1) a b w (q : Int) = some true := by
  induction d with
  | zero =>
    intro q a hd hq ha hb k hk
    subst hb
    rw [show k + 0 + 1 = k + 1 by omega, sapperlaw12_own.l1, if_neg (by omega), same12_ge (by omega) hk, Option.bind_some, if_pos rfl, w64 (by omega) (by omega)]
    congr 1
    rw [beq_iff_eq]; omega
  | succ d ih =>
    intro q a hd hq ha hb k hk
    rw [show k + (d + 1) + 1 = k + d + 1 + 1 by omega, sapperlaw12_own.l1, if_pos (by omega), if_pos (by omega), wp (y := ((q + 1 : Nat) : Int)) (by omega) (by omega) (by omega)]
    exact ih (q + 1) (a ++ [82]) (by omega) (by omega) (by rw [List.length_append, ha]; simp; omega) hb k hk
theorem own_f (l : List Int) (hl : l.length ≤ 17592186044000) (k : Nat) (hk : 5 * l.length + 100 ≤ k) : sapperlaw12_own.f k l l l = some true := by
  unfold sapperlaw12_own.f
  rw [same12_ge (by omega) (by omega), Option.bind_some, if_pos rfl, Option.bind_some]
  obtain ⟨k, rfl⟩ : ∃ m, k = m + 1 := ⟨k - 1, by omega⟩
  rw [sapperlaw12_own.j0, if_neg (by simp)]
  obtain ⟨a', g1, g2⟩ := own_l0 l l l.length (by omega) l.length 0 l (by omega) (by omega) rfl
  have := g2 (k - l.length - 1)
  rw [show k - l.length - 1 + l.length + 1 = k by omega, show ((0 : Nat) : Int) = 0 from rfl] at this
  rw [this]
  have := own_l1 l l hl 40 0 a' (by omega) (by omega) (by omega) rfl (k - l.length - 1 - 41) (by omega)
  rw [show k - l.length - 1 - 41 + 40 + 1 = k - l.length - 1 by omega] at this
  exact this

/-! ### the reference -/
open Classical in
theorem wrong_loop (k0 : Int) (s : List Int) (hs : s.length ≤ 16777216) (d : Nat) : ∀ q, s.length - q = d → q ≤ s.length → ∀ k,
    sapperref12_wrong.l0 (k + d + 1) k0 s (q : Int) = some (if ∀ j, q ≤ j → j < s.length → 0 ≤ ch s j ∧ ch s j < k0 then 0 else 121) := by
  induction d with
  | zero =>
    intro q hd hq k
    rw [sapperref12_wrong.l0, if_neg (by omega), if_pos (fun j h1 h2 => by omega)]
  | succ d ih =>
    intro q hd hq k
    rw [show k + (d + 1) + 1 = (k + d + 1) + 1 by omega]
    rw [sapperref12_wrong.l0, if_pos (by omega), if_pos (by omega), rd_nat, wp (y := ((q + 1 : Nat) : Int)) (by omega) (by omega) (by omega)]
    by_cases a : ch s q < 0
    · rw [if_pos a, if_neg (fun h => by have := h q (Nat.le_refl _) (by omega); omega)]
    · rw [if_neg a]
      by_cases b : ch s q ≥ k0
      · rw [if_pos b, if_neg (fun h => by have := h q (Nat.le_refl _) (by omega); omega)]
      · rw [if_neg b, ih (q + 1) (by omega) (by omega) k]
        congr 1
        have : (∀ j, q ≤ j → j < s.length → 0 ≤ ch s j ∧ ch s j < k0) ↔ (∀ j, q + 1 ≤ j → j < s.length → 0 ≤ ch s j ∧ ch s j < k0) := by
          constructor
          · intro h j h1 h2; exact h j (by omega) h2
          · intro h j h1 h2
            rcases Nat.lt_or_ge q j with h3 | h3
            · exact h j (by omega) h2
            · obtain rfl : j = q := by omega
              omega
        simp only [this]
open Classical in
theorem wrong_f (k0 : Int) (s : List Int) : ∃ K, ∀ k, K ≤ k → sapperref12_wrong.f k k0 s = some (if k0 < 0 ∨ k0 > 33554432 then 1 else if s.length > 16777216 then 120 else if (∀ j, j < s.length → 0 ≤ ch s j ∧ ch s j < k0) then 0 else 121) := by
  refine ⟨s.length + 2, fun k hk => ?_⟩
  obtain ⟨k, rfl⟩ : ∃ m, k = m + s.length + 2 := ⟨k - s.length - 2, by omega⟩
  unfold sapperref12_wrong.f
  by_cases a : k0 < 0 ∨ k0 > 33554432
  · rw [if_pos a]
    by_cases b : k0 < 0
    · rw [if_pos b]; rw [sapperref12_wrong.j0]; rw [if_pos rfl]
    · rw [if_neg b]; rw [sapperref12_wrong.j0]; rw [if_pos (decide_eq_true (by omega))]
  · rw [if_neg a, if_neg (by omega)]; rw [sapperref12_wrong.j0]
    rw [if_neg (by simp <;> omega)]
    by_cases b : s.length > 16777216
    · rw [if_pos b, if_pos (by omega)]
    · rw [if_neg b, if_neg (by omega)]
      have := wrong_loop k0 s (by omega) s.length 0 (by omega) (by omega) k
      simp only [Nat.zero_le, true_implies] at this
      exact this

/-- The one error of both. -/
theorem both_wrong (k0 : Int) (s : List Int) (hs : s.length ≤ 140737488351328) : ∃ K e, (∀ k, K ≤ k → sais_check.f k k0 s = some e ∧ sapperref12_wrong.f k k0 s = some e) ∧ (e = 0 ↔ Ok k0 s) := by
  obtain ⟨K1, e, h1, h2, h3⟩ := check_f k0 s hs
  obtain ⟨K2, h4⟩ := wrong_f k0 s
  exact ⟨K1 + K2, e, fun k hk => ⟨h1 k (by omega), by rw [h3]; exact h4 k (by omega)⟩, h2⟩

section
variable {s : List Int}
theorem less_loop (hn : s.length ≤ 16777216) (d : Nat) : ∀ i j, s.length - i = d → i ≤ s.length → j ≤ s.length → ∀ k, sapperref12_Less.l0 (k + d + 1) s (i : Int) (j : Int) = some (slt s.length (ch s) i j) := by
  induction d with
  | zero =>
    intro i j hd hi hj k
    rw [sapperref12_Less.l0, if_neg (by omega), if_pos (by omega), slt_endb (by omega)]
    congr 1; rw [Bool.eq_iff_iff]; simp
  | succ d ih =>
    intro i j hd hi hj k
    rw [show k + (d + 1) + 1 = k + d + 1 + 1 by omega, sapperref12_Less.l0, if_pos (by omega)]
    rcases Nat.lt_or_ge j s.length with h | h
    · rw [if_pos (by omega), if_pos (by omega), if_pos (by omega), rd_nat, rd_nat]
      by_cases e : ch s i = ch s j
      · rw [if_pos e, wp (x := (i : Int) + 1) (y := ((i + 1 : Nat) : Int)) (by omega) (by omega) (by omega), wp (x := (j : Int) + 1) (y := ((j + 1 : Nat) : Int)) (by omega) (by omega) (by omega), ih (i + 1) (j + 1) (by omega) (by omega) (by omega), slt_eq (by omega) h e]
      · rw [if_neg e, if_neg (by omega), if_neg (by omega), slt_ne (by omega) h e]
    · rw [if_neg (by omega), if_neg (by omega), if_pos (by omega), slt_to_end h]
      congr 1; simp; omega
theorem less_ge (hn : s.length ≤ 16777216) {i j : Nat} (hi : i ≤ s.length) (hj : j ≤ s.length) {k : Nat} (hk : s.length + 1 ≤ k) : sapperref12_Less.f k s (i : Int) (j : Int) = some (slt s.length (ch s) i j) := by
  unfold sapperref12_Less.f
  have := less_loop hn (s.length - i) i j (by omega) hi hj (k - (s.length - i) - 1)
  rw [show k - (s.length - i) - 1 + (s.length - i) + 1 = k by omega] at this; exact this

/-- l has places from a up to b, each less than the next one. -/
structure Srt (s : List Int) (a b : Nat) (l : List Int) : Prop where
  pair : l.Pairwise (fun x y => slt s.length (ch s) x.toNat y.toNat = true)
  mem : ∀ x ∈ l, (a : Int) ≤ x ∧ x < (b : Int)

theorem merge_loop (hn : s.length ≤ 16777216) (a m b : Nat) (hab : a ≤ m) (hmb : m ≤ b) (hb : b ≤ s.length) (d : Nat) : ∀ (x y o : List Int), x.length + y.length = d → o.length + d ≤ 16777216 → Srt s a m x → Srt s m b y → (∀ z ∈ o, (a : Int) ≤ z ∧ z < (b : Int)) →
    (o ++ x).Pairwise (fun x y => slt s.length (ch s) x.toNat y.toNat = true) → (o ++ y).Pairwise (fun x y => slt s.length (ch s) x.toNat y.toNat = true) →
    ∃ l, l.length = o.length + d ∧ Srt s a b l ∧ ∀ k, s.length + 1 ≤ k → sapperref12_sorted.l0 (k + 2 * d + 2) s x y o = some l := by
  induction d with
  | zero =>
    intro x y o hd ho hx hy hm h1 h2
    have hx0 : x = [] := List.eq_nil_of_length_eq_zero (by omega)
    have hy0 : y = [] := List.eq_nil_of_length_eq_zero (by omega)
    subst hx0 hy0
    refine ⟨o, rfl, ⟨by simpa using h1, hm⟩, fun k hk => ?_⟩
    rw [show k + 2 * 0 + 2 = k + 1 + 1 by omega, sapperref12_sorted.l0, if_neg (by simp), sapperref12_sorted.j1, if_neg (by simp)]
  | succ d ih =>
    intro x y o hd ho hx hy hm h1 h2
    -- the first of x goes over
    have takeX : ∀ v x', x = v :: x' → (∀ w ∈ y, slt s.length (ch s) v.toNat w.toNat = true) →
        ∃ l, l.length = o.length + (d + 1) ∧ Srt s a b l ∧ ∀ k, s.length + 1 ≤ k → sapperref12_sorted.l0 (k + 2 * d + 2) s x' y (o ++ [v]) = some l := by
      intro v x' he hv
      subst he
      have hvm := hx.mem v (List.mem_cons_self)
      obtain ⟨l, g1, g2, g3⟩ := ih x' y (o ++ [v]) (by simp at hd; omega) (by simp <;> omega) ⟨(List.pairwise_cons.1 hx.pair).2, fun z hz => hx.mem z (List.mem_cons_of_mem _ hz)⟩ hy
        (fun z hz => by
          rcases List.mem_append.1 hz with h | h
          · exact hm z h
          · rw [List.mem_singleton.1 h]; omega)
        (by rw [List.append_assoc]; exact h1)
        (by
          rw [List.append_assoc, List.pairwise_append]
          rw [List.pairwise_append] at h1 h2
          refine ⟨h2.1, List.pairwise_cons.2 ⟨hv, hy.pair⟩, fun z hz w hw => ?_⟩
          rcases List.mem_cons.1 hw with h | h
          · subst h; exact h1.2.2 z hz w List.mem_cons_self
          · exact h2.2.2 z hz w h)
      exact ⟨l, by rw [g1]; simp; omega, g2, g3⟩
    have takeY : ∀ v y', y = v :: y' → (∀ w ∈ x, slt s.length (ch s) v.toNat w.toNat = true) →
        ∃ l, l.length = o.length + (d + 1) ∧ Srt s a b l ∧ ∀ k, s.length + 1 ≤ k → sapperref12_sorted.l0 (k + 2 * d + 2) s x y' (o ++ [v]) = some l := by
      intro v y' he hv
      subst he
      have hvm := hy.mem v (List.mem_cons_self)
      obtain ⟨l, g1, g2, g3⟩ := ih x y' (o ++ [v]) (by simp at hd; omega) (by simp <;> omega) hx ⟨(List.pairwise_cons.1 hy.pair).2, fun z hz => hy.mem z (List.mem_cons_of_mem _ hz)⟩
        (fun z hz => by
          rcases List.mem_append.1 hz with h | h
          · exact hm z h
          · rw [List.mem_singleton.1 h]; omega)
        (by
          rw [List.append_assoc, List.pairwise_append]
          rw [List.pairwise_append] at h1 h2
          refine ⟨h1.1, List.pairwise_cons.2 ⟨hv, hx.pair⟩, fun z hz w hw => ?_⟩
          rcases List.mem_cons.1 hw with h | h
          · subst h; exact h2.2.2 z hz w List.mem_cons_self
          · exact h1.2.2 z hz w h)
        (by rw [List.append_assoc]; exact h2)
      exact ⟨l, by rw [g1]; simp; omega, g2, g3⟩
    cases x with
    | nil =>
      cases y with
      | nil => simp at hd
      | cons v y' =>
        obtain ⟨l, g1, g2, g3⟩ := takeY v y' rfl (fun w hw => by cases hw)
        refine ⟨l, g1, g2, fun k hk => ?_⟩
        rw [show k + 2 * (d + 1) + 2 = k + 2 * d + 2 + 1 + 1 by omega, sapperref12_sorted.l0, if_neg (by simp), sapperref12_sorted.j1, if_pos (by simp), if_neg (by simp <;> omega), if_neg (by simp), if_pos (by simp <;> omega), if_pos (by omega), if_pos (by simp <;> omega)]
        exact g3 k hk
    | cons u x' =>
      cases y with
      | nil =>
        obtain ⟨l, g1, g2, g3⟩ := takeX u x' rfl (fun w hw => by cases hw)
        refine ⟨l, g1, g2, fun k hk => ?_⟩
        rw [show k + 2 * (d + 1) + 2 = k + 2 * d + 2 + 1 + 1 by omega, sapperref12_sorted.l0, if_pos (by simp <;> omega), sapperref12_sorted.j1, if_pos rfl, if_pos (by simp), if_pos (by simp <;> omega), if_pos (by omega), if_pos (by simp <;> omega)]
        exact g3 k hk
      | cons v y' =>
        have hu := hx.mem u List.mem_cons_self
        have hv := hy.mem v List.mem_cons_self
        have hless : ∀ k, s.length + 1 ≤ k → sapperref12_Less.f k s u v = some (slt s.length (ch s) u.toNat v.toNat) := by
          intro k hk
          have := less_ge hn (i := u.toNat) (j := v.toNat) (by omega) (by omega) hk
          rw [show ((u.toNat : Nat) : Int) = u by omega, show ((v.toNat : Nat) : Int) = v by omega] at this; exact this
        cases h : slt s.length (ch s) u.toNat v.toNat with
        | true =>
          obtain ⟨l, g1, g2, g3⟩ := takeX u x' rfl (fun w hw => by
            rcases List.mem_cons.1 hw with h3 | h3
            · subst h3; exact h
            · exact slt_trans h ((List.pairwise_cons.1 hy.pair).1 w h3))
          refine ⟨l, g1, g2, fun k hk => ?_⟩
          rw [show k + 2 * (d + 1) + 2 = k + 2 * d + 2 + 1 + 1 by omega, sapperref12_sorted.l0, if_pos (by simp <;> omega), sapperref12_sorted.j1, if_pos rfl, if_neg (by simp <;> omega), if_pos (by simp <;> omega), if_pos (by simp <;> omega), if_pos (by simp <;> omega)]
          rw [show rd (u :: x') 0 = u from rfl, show rd (v :: y') 0 = v from rfl, hless _ (by omega), Option.bind_some, h, if_pos rfl, if_pos (by omega), if_pos (by simp <;> omega)]
          exact g3 k hk
        | false =>
          have h' : slt s.length (ch s) v.toNat u.toNat = true := by
            rcases slt_total (n := s.length) (c := ch s) (i := u.toNat) (j := v.toNat) (by omega) (by omega) (by omega) with h3 | h3
            · rw [h] at h3; cases h3
            · exact h3
          obtain ⟨l, g1, g2, g3⟩ := takeY v y' rfl (fun w hw => by
            rcases List.mem_cons.1 hw with h3 | h3
            · subst h3; exact h'
            · exact slt_trans h' ((List.pairwise_cons.1 hx.pair).1 w h3))
          refine ⟨l, g1, g2, fun k hk => ?_⟩
          rw [show k + 2 * (d + 1) + 2 = k + 2 * d + 2 + 1 + 1 by omega, sapperref12_sorted.l0, if_pos (by simp <;> omega), sapperref12_sorted.j1, if_pos rfl, if_neg (by simp <;> omega), if_pos (by simp <;> omega), if_pos (by simp <;> omega), if_pos (by simp <;> omega)]
          rw [show rd (u :: x') 0 = u from rfl, show rd (v :: y') 0 = v from rfl, hless _ (by omega), Option.bind_some, h, if_neg (by simp), if_pos (by omega), if_pos (by simp <;> omega)]
          exact g3 k hk

theorem sorted_f (hn : s.length ≤ 16777216) (N : Nat) : ∀ a b, b - a ≤ N → a ≤ b → b ≤ s.length → ∃ K l, l.length = b - a ∧ Srt s a b l ∧ ∀ k, K ≤ k → sapperref12_sorted.f k s (a : Int) (b : Int) = some l := by
  induction N with
  | zero =>
    intro a b hN hab hb
    refine ⟨1, [], by simp; omega, ⟨List.Pairwise.nil, fun x hx => by cases hx⟩, fun k hk => ?_⟩
    obtain ⟨k, rfl⟩ : ∃ m, k = m + 1 := ⟨k - 1, by omega⟩
    rw [sapperref12_sorted.f, w64 (by omega) (by omega), if_pos (by omega)]
  | succ N ih =>
    intro a b hN hab hb
    rcases Nat.lt_or_ge 1 (b - a) with h | h
    · have e : Int.tdiv ((a : Int) + (b : Int)) 2 = (((a + b) / 2 : Nat) : Int) := by
        rw [Int.tdiv_eq_ediv_of_nonneg (by omega)]; omega
      obtain ⟨K1, l1, p1, p2, p3⟩ := ih a ((a + b) / 2) (by omega) (by omega) (by omega)
      obtain ⟨K2, l2, q1, q2, q3⟩ := ih ((a + b) / 2) b (by omega) (by omega) (by omega)
      obtain ⟨l, r1, r2, r3⟩ := merge_loop hn a ((a + b) / 2) b (by omega) (by omega) hb (b - a) l1 l2 [] (by omega) (by simp <;> omega) p2 q2 (fun z hz => by cases hz) p2.pair q2.pair
      refine ⟨K1 + K2 + 2 * s.length + s.length + 10, l, by simpa using r1, r2, fun k hk => ?_⟩
      obtain ⟨k, rfl⟩ : ∃ m, k = m + 1 := ⟨k - 1, by omega⟩
      rw [sapperref12_sorted.f, w64 (x := (b : Int) - (a : Int)) (by omega) (by omega), if_neg (by omega), if_neg (by omega), w64 (x := (a : Int) + (b : Int)) (by omega) (by omega), e, w64 (x := (((a + b) / 2 : Nat) : Int)) (by omega) (by omega), p3 k (by omega), Option.bind_some, q3 k (by omega), Option.bind_some]
      have := r3 (k - 2 * (b - a) - 2) (by omega)
      rw [show k - 2 * (b - a) - 2 + 2 * (b - a) + 2 = k by omega] at this; exact this
    · rcases Nat.eq_zero_or_pos (b - a) with z | z
      · refine ⟨1, [], by simp; omega, ⟨List.Pairwise.nil, fun x hx => by cases hx⟩, fun k hk => ?_⟩
        obtain ⟨k, rfl⟩ : ∃ m, k = m + 1 := ⟨k - 1, by omega⟩
        rw [sapperref12_sorted.f, w64 (by omega) (by omega), if_pos (by omega)]
      · refine ⟨1, [(a : Int)], by simp; omega, ⟨List.pairwise_singleton _ _, fun x hx => by rw [List.mem_singleton.1 hx]; omega⟩, fun k hk => ?_⟩
        obtain ⟨k, rfl⟩ : ∃ m, k = m + 1 := ⟨k - 1, by omega⟩
        rw [sapperref12_sorted.f, w64 (by omega) (by omega), if_neg (by omega), if_pos (by omega)]

/-- A rising map of n numbers below n is the identity. -/
theorem mono_id (n : Nat) (f : Nat → Nat) (hf : ∀ a, a < n → f a < n) (hm : ∀ a, a + 1 < n → f a < f (a + 1)) : ∀ a, a < n → f a = a := by
  have lo : ∀ a, a < n → a ≤ f a := by
    intro a
    induction a with
    | zero => intro _; omega
    | succ a ih => intro h; have := ih (by omega); have := hm a h; omega
  have hi : ∀ d a, a + d + 1 = n → f a ≤ a := by
    intro d
    induction d with
    | zero => intro a h; have := hf a (by omega); omega
    | succ d ih => intro a h; have := ih (a + 1) (by omega); have := hm a (by omega); omega
  intro a ha
  have := lo a ha
  have := hi (n - 1 - a) a (by omega)
  omega
/-- A list of all places, each less than the next one, is the suffixes' order. -/
theorem isSA_of_rising {l : List Int} (hl : l.length = s.length) (hm : ∀ q, q < s.length → 0 ≤ ch l q ∧ ch l q < (s.length : Int)) (hr : ∀ q, q + 1 < s.length → slt s.length (ch s) (ch l q).toNat (ch l (q + 1)).toNat = true) : IsSA s l := by
  have key := mono_id s.length (fun q => rank s.length (ch s) (ch l q).toNat) (fun q hq => rank_lt (by have := hm q hq; omega)) (fun q hq => rank_mono (by have := hm q (by omega); omega) (hr q hq))
  refine ⟨hl, fun i hi => ?_⟩
  have h1 := rank_lt (c := ch s) hi
  have h2 := key _ h1
  have h3 := hm _ h1
  have := rank_inj (by omega) hi h2
  omega
theorem isSA_unique {l l' : List Int} (h : IsSA s l) (h' : IsSA s l') : l = l' := by
  apply List.ext_getElem?
  intro q
  rcases Nat.lt_or_ge q s.length with hq | hq
  · obtain ⟨i, hi, he⟩ := rank_onto (c := ch s) hq
    have h1 := h.2 i hi
    have h2 := h'.2 i hi
    rw [he] at h1 h2
    have hl := h.1
    have hl' := h'.1
    have e1 : l[q]? = some l[q] := List.getElem?_eq_getElem (by omega)
    have e2 : l'[q]? = some l'[q] := List.getElem?_eq_getElem (by omega)
    unfold ch at h1 h2
    rw [List.getD_eq_getElem?_getD] at h1 h2
    rw [e1] at h1 ⊢; rw [e2] at h2 ⊢
    simp only [Option.getD_some] at h1 h2
    rw [h1, h2]
  · rw [List.getElem?_eq_none (by rw [h.1]; exact hq), List.getElem?_eq_none (by rw [h'.1]; exact hq)]
theorem srt_isSA {l : List Int} (hl : l.length = s.length) (h : Srt s 0 s.length l) : IsSA s l := by
  have hget : ∀ q (hq : q < l.length), ch l q = l[q] := by
    intro q hq; unfold ch; rw [List.getD_eq_getElem?_getD, List.getElem?_eq_getElem hq]; rfl
  refine isSA_of_rising hl (fun q hq => ?_) (fun q hq => ?_)
  · rw [hget q (by omega)]
    have := h.mem _ (List.getElem_mem (show q < l.length by omega)); omega
  · rw [hget q (by omega), hget (q + 1) (by omega)]
    exact List.pairwise_iff_getElem.1 h.pair q (q + 1) (by omega) (by omega) (by omega)
end

/-- The two answers agree: the error's number, and the order. -/
theorem both_arrays (k0 : Int) (s : List Int) (hs : s.length ≤ 140737488351328) : ∃ K l e, (∀ k, K ≤ k → sais_Array.f k k0 s = some (l, e) ∧ sapperref12_Array.f k k0 s = some (l, e)) ∧ l.length ≤ 16777216 ∧ (Ok k0 s → e = 0 ∧ IsSA s l) := by
  obtain ⟨K, e, h1, h2⟩ := both_wrong k0 s hs
  by_cases hok : Ok k0 s
  · obtain ⟨K2, l, g1, g2⟩ := Array_ok hok
    have hn := hok.2.2.1
    obtain ⟨K3, l3, p1, p2, p3⟩ := sorted_f hn s.length 0 s.length (by omega) (by omega) (Nat.le_refl _)
    have he := h2.2 hok
    have hl3 : l3 = l := isSA_unique (srt_isSA (by omega) p2) g2
    refine ⟨K + K2 + K3, l, 0, fun k hk => ⟨g1 k (by omega), ?_⟩, by rw [g2.1]; exact hn, fun _ => ⟨rfl, g2⟩⟩
    unfold sapperref12_Array.f
    have h3 := p3 k (by omega)
    rw [show ((0 : Nat) : Int) = 0 from rfl] at h3
    rw [(h1 k (by omega)).2, Option.bind_some, if_pos he, h3, Option.bind_some, hl3]
  · have hne : e ≠ 0 := fun h => hok (h2.1 h)
    refine ⟨K, [], e, fun k hk => ⟨?_, ?_⟩, by simp, fun h => absurd h hok⟩
    · unfold sais_Array.f; rw [(h1 k hk).1, Option.bind_some, if_neg hne]
    · unfold sapperref12_Array.f; rw [(h1 k hk).2, Option.bind_some, if_neg hne]
end Go.Proofs.Ytgnhangjacdfbaa.SD
