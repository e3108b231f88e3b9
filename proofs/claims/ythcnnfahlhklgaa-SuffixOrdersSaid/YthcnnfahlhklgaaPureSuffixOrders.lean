/- The law SuffixOrders holds of any bytes: the array is a permutation; ranks and places undo each other; each suffix is greater than the one ahead; neighbours have in common what Lcp says. No condition. -/
import Derived.Test.YthcnnfahlhklgaaSCSuffixOrders
import Derived.Test.YthcnnfahlhklgaaXx40
namespace Go.Proofs.Ythcnnfahlhklgaa.Pure
open Go.RowKit Go.Proofs.Ythcnnfahlhklgaa Go.Proofs.Ythcnnfahlhklgaa.X Go.Proofs.Ythcnnfahlhklgaa.SD Go.Proofs.Ythcnnfahlhklgaa.SM Go.Proofs.YthcnnfahlhklgaaW.PrintWords Go.Proofs.YthcnnfahlhklgaaW.PrintLast

section
variable {s : List Int} {x : S82}
attribute [local irreducible] cn cv fr tov rk3 loc2 rank
theorem or_At (hx : IsIx s x) {r : Nat} (hr : r < s.length) {k : Nat} (hk : 2 ≤ k) : suffix_Index_At.f k [x] (r : Int) = some ((P x.f2 r : Int), 0) := by
  unfold suffix_Index_At.f
  have h := place1_f hx (r : Int) (k - 2)
  have hl := hx.2.2.1.1
  rw [show k - 2 + 2 = k by omega] at h
  rw [h, if_pos (by omega), Option.bind_some, if_pos rfl, if_pos (by simp), if_pos (by omega), show rd_T82 [x] 0 = x from rfl, if_pos (by omega), rd_nat, (sa_at hx.2.2.1 hr).1]
theorem or_Rank (hx : IsIx s x) {i : Nat} (hi : i < s.length) {k : Nat} (hk : 2 ≤ k) : suffix_Index_Rank.f k [x] (i : Int) = some ((rank s.length (ch s) i : Int), 0) := by
  unfold suffix_Index_Rank.f
  have h := place1_f hx (i : Int) (k - 2)
  have hl := hx.2.2.2.1
  rw [show k - 2 + 2 = k by omega] at h
  rw [h, if_pos (by omega), Option.bind_some, if_pos rfl, if_pos (by simp), if_pos (by omega), show rd_T82 [x] 0 = x from rfl, if_pos (by omega), rd_nat, hx.2.2.2.2.1 i hi]
theorem or_Len (hx : IsIx s x) : suffix_Index_Len.f [x] = some (s.length : Int) := by
  unfold suffix_Index_Len.f
  rw [is_f hx.1, Option.bind_some, if_pos rfl, if_pos (by simp), show rd_T82 [x] 0 = x from rfl, hx.2.1]
theorem or_ext {l l' : List Int} (hl : l.length = l'.length) (h : ∀ q, q < l.length → ch l q = ch l' q) : l = l' := by
  apply List.ext_getElem?
  intro q
  by_cases hq : q < l.length
  · have := h q hq
    unfold ch at this
    rw [List.getD_eq_getElem?_getD, List.getD_eq_getElem?_getD, List.getElem?_eq_getElem hq, List.getElem?_eq_getElem (by omega)] at this
    rw [List.getElem?_eq_getElem hq, List.getElem?_eq_getElem (by omega)]
    exact congrArg some this
  · rw [List.getElem?_eq_none (by omega), List.getElem?_eq_none (by omega)]
/-- What two suffixes have in common is the same bytes. -/
theorem com_piece {a b m : Nat} (hm : m = com s.length (ch s) a b) (ha : a + m ≤ s.length) (hb : b + m ≤ s.length) : (s.take (a + m)).drop a = (s.take (b + m)).drop b := by
  refine or_ext (by rw [List.length_drop, List.length_drop, List.length_take, List.length_take]; omega) fun q hq => ?_
  rw [List.length_drop, List.length_take] at hq
  rw [ch_drop, ch_drop, ch_take, ch_take, if_pos (by omega), if_pos (by omega)]
  exact (com_get (n := s.length) (c := ch s) (i := a) (j := b) (q := q) (by omega)).2.2
attribute [local irreducible] ch
theorem or_l0 (hs : s.length ≤ 16777216) (hx : IsIx s x) {K1 : Nat} (h1 : ∀ k, K1 ≤ k → sapperlaw13_lives.f k = some true) (d : Nat) : ∀ r : Nat, s.length - r = d → r ≤ s.length → ∀ k, K1 + 4 ≤ k → sapperlaw13_SuffixOrders.l0 (k + 3 * d + 1) s [x] x.f2 x.f4 (s.length : Int) (r : Int) = some true := by
  have hl2 := hx.2.2.1.1
  have hl4 := hx.2.2.2.2.2.1
  induction d with
  | zero =>
    intro r hd hr k hk
    rw [show k + 3 * 0 + 1 = k + 1 by omega, sapperlaw13_SuffixOrders.l0, if_neg (by omega), h1 k (by omega)]; rfl
  | succ d ih =>
    intro r hd hr k hk
    have hrl : r < s.length := by omega
    obtain ⟨a1, a2, a3⟩ := sa_at hx.2.2.1 hrl
    have hR := or_Rank hx a2 (k := k + 3 * d + 3) (by omega)
    rw [a3] at hR
    have hlc := hx.2.2.2.2.2.2 r hrl
    rw [show k + 3 * (d + 1) + 1 = k + 3 * d + 3 + 1 by omega, sapperlaw13_SuffixOrders.l0, if_pos (by omega), if_pos (by omega), if_pos (by omega), or_At hx hrl (by omega), Option.bind_some, rd_nat, a1, hR, Option.bind_some]
    dsimp only
    rw [if_pos rfl, if_pos rfl, if_pos rfl, if_pos rfl, if_neg (by omega), show k + 3 * d + 3 = k + 3 * d + 2 + 1 by omega, sapperlaw13_SuffixOrders.j3, decide_eq_false (show ¬ ((P x.f2 r : Int) ≥ (s.length : Int)) by omega), if_neg (by decide)]
    by_cases c0 : r = 0
    · subst c0
      have hz : ch x.f4 0 = 0 := by rw [hlc]; unfold lcv; rw [if_pos rfl]; rfl
      have hrd : rd x.f4 0 = 0 := by
        have := rd_nat (s := x.f4) (q := 0)
        rw [show ((0 : Nat) : Int) = 0 from rfl] at this
        rw [this, hz]
      rw [if_pos (by omega), if_pos (by omega), hrd, if_pos rfl, wp (x := ((0 : Nat) : Int) + 1) (y := ((1 : Nat) : Int)) (by omega) (by omega) (by omega)]
      have := ih 1 (by omega) (by omega) (k + 1) (by omega)
      rw [show k + 1 + 3 * d + 1 = k + 3 * d + 2 by omega] at this
      exact this
    · obtain ⟨q, rfl⟩ : ∃ q, r = q + 1 := ⟨r - 1, by omega⟩
      obtain ⟨b1, b2, b3⟩ := sa_at hx.2.2.1 (show q < s.length by omega)
      have hlt := sa_slt hx.2.2.1 hrl
      rw [lcv_at] at hlc
      obtain ⟨g1, g2⟩ := slt_com.1 hlt
      have hcl := com_le (n := s.length) (c := ch s) (P x.f2 q) (P x.f2 (q + 1))
      obtain ⟨m, hm⟩ : ∃ m, m = com s.length (ch s) (P x.f2 q) (P x.f2 (q + 1)) := ⟨_, rfl⟩
      rw [← hm] at hlc g1 g2 hcl
      have next := ih (q + 1 + 1) (by omega) (by omega) k hk
      have hp := com_piece (s := s) hm (by omega) (by omega)
      rw [if_neg (by omega), wp (x := ((q + 1 : Nat) : Int) - 1) (y := (q : Int)) (by omega) (by omega) (by omega), if_pos (by omega), if_pos (by omega), if_pos (by omega), if_pos (by omega), rd_nat, rd_nat, hlc, b1, if_neg (by omega),
        wp (x := (P x.f2 q : Int) + (m : Int)) (y := ((P x.f2 q + m : Nat) : Int)) (by omega) (by omega) (by omega), wp (x := (P x.f2 (q + 1) : Int) + (m : Int)) (y := ((P x.f2 (q + 1) + m : Nat) : Int)) (by omega) (by omega) (by omega),
        if_neg (by omega), if_neg (by omega), if_pos (by omega), if_pos (by omega), if_pos (by omega), if_pos (by omega), if_pos (by omega), if_pos (by omega), Int.toNat_natCast, Int.toNat_natCast, Int.toNat_natCast, Int.toNat_natCast, hp, bne_self_eq_false,
        sapperlaw13_SuffixOrders.j4, if_neg (by decide), wp (x := (P x.f2 q : Int) + (m : Int)) (y := ((P x.f2 q + m : Nat) : Int)) (by omega) (by omega) (by omega), wp (x := (P x.f2 (q + 1) : Int) + (m : Int)) (y := ((P x.f2 (q + 1) + m : Nat) : Int)) (by omega) (by omega) (by omega), wp (x := ((q + 1 : Nat) : Int) + 1) (y := ((q + 1 + 1 : Nat) : Int)) (by omega) (by omega) (by omega)]
      by_cases c1 : P x.f2 q + m < s.length
      · have := g2 c1
        rw [if_pos (by omega), if_neg (by omega), if_pos (by omega), if_pos (by omega), if_pos (by omega), rd_nat, rd_nat, if_neg (by omega)]
        exact next
      · rw [if_neg (by omega)]
        exact next
end
theorem SuffixOrders : sapperlaw13_SuffixOrders.Pure := by
  intro s _ _ hw
  obtain ⟨K1, h1⟩ := lives_f
  by_cases hs : s.length ≤ 16777216
  case neg =>
    refine ⟨1, ?_⟩
    unfold sapperlaw13_SuffixOrders.f
    rw [New_many (by omega), Option.bind_some, if_pos (by omega), if_pos (by simp)]; rfl
  obtain ⟨K2, x, h2, hx⟩ := New_ok hs (byt_wf hw)
  have g := or_l0 hs hx h1 s.length 0 (by omega) (by omega) (K1 + K2 + 10) (by omega)
  refine ⟨(K1 + K2 + 10) + 3 * s.length + 1 + 1 + 1, ?_⟩
  unfold sapperlaw13_SuffixOrders.f
  rw [h2 _ (by omega), Option.bind_some, if_neg (by omega), if_pos rfl]
  dsimp only
  rw [if_neg (by simp), or_Len hx, Option.bind_some, bne_self_eq_false, sapperlaw13_SuffixOrders.j0, if_neg (by decide), Array_f hs hx, Option.bind_some, Lcp_f hs hx, Option.bind_some, if_pos (by rw [hx.2.2.1.1]), hx.2.2.2.2.2.1, bne_self_eq_false, sapperlaw13_SuffixOrders.j1, if_neg (by decide), hx.2.2.1.1]
  exact g
end Go.Proofs.Ythcnnfahlhklgaa.Pure
