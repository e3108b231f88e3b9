/- The law SuffixChecks holds of any bytes and any numbers: Check and Load tell what the document's Check tells. No condition. -/
import Derived.Test.YthcnnfahlhklgaaSXr
import Derived.Test.YthcnnfahlhklgaaXx36
namespace Go.Proofs.Ythcnnfahlhklgaa.Pure
open Go.RowKit Go.Proofs.Ythcnnfahlhklgaa Go.Proofs.Ythcnnfahlhklgaa.X Go.Proofs.Ythcnnfahlhklgaa.SD Go.Proofs.Ythcnnfahlhklgaa.SM Go.Proofs.YthcnnfahlhklgaaW.PrintWords Go.Proofs.YthcnnfahlhklgaaW.PrintLast

section
variable {s l : List Int}
attribute [local irreducible] cn cv fr tov rk3 loc2 ch rank
theorem lend_f (h : l.length ≤ 140737488351232) : sapperref01_Lend.f l = some (l ++ [171, 172, 173, 174, 175]) := by
  unfold sapperref01_Lend.f
  rw [Option.bind_some, if_pos (by simp; omega), Option.bind_some, Option.bind_some, if_pos (by simp; omega), Option.bind_some, if_pos (by omega), if_pos (by simp; omega), List.nil_append]
theorem kept_f (h : l.length ≤ 140737488351232) : sapperref01_Kept.f (l ++ [171, 172, 173, 174, 175]) l = some true := by
  unfold sapperref01_Kept.f
  rw [lend_f h, Option.bind_some, if_pos (by omega), if_pos (by simp; omega)]
  unfold sapperref01_Same.f
  rw [Option.bind_some, beq_self_eq_true]
theorem same_loop (hl : l.length ≤ 9223372036854775000) (d : Nat) : ∀ q, l.length - q = d → q ≤ l.length → ∀ k, sapperlaw13_same.l0 (k + d + 1) l l (l.length : Int) (q : Int) = some true := by
  induction d with
  | zero => intro q hd hq k; rw [show k + 0 + 1 = k + 1 by omega, sapperlaw13_same.l0, if_neg (by omega)]
  | succ d ih =>
    intro q hd hq k
    rw [show k + (d + 1) + 1 = k + d + 1 + 1 by omega, sapperlaw13_same.l0, if_pos (by omega), if_pos (by omega), if_pos (by omega), if_pos (by omega), if_pos rfl, wp (x := (q : Int) + 1) (y := ((q + 1 : Nat) : Int)) (by omega) (by omega) (by omega)]
    exact ih (q + 1) (by omega) (by omega) k
theorem same_f (hl : l.length ≤ 9223372036854775000) {k : Nat} (hk : l.length + 1 ≤ k) : sapperlaw13_same.f k l l = some true := by
  unfold sapperlaw13_same.f
  have := same_loop hl l.length 0 (by omega) (by omega) (k - l.length - 1)
  rw [show k - l.length - 1 + l.length + 1 = k by omega, show ((0 : Nat) : Int) = 0 from rfl] at this
  rw [if_pos rfl, this]
/-- The two checks tell the same. -/
theorem checks (hs : s.length ≤ 16777216) {sa : List Int} (hsa : IsSA s sa) (d : Nat) : ∀ q, s.length - q = d → q ≤ s.length → (∀ j, j < q → j < l.length ∧ ch l j = ch sa j) →
    ∃ at_ e, (∀ k, d + 2 ≤ k → suffix_Check.l0 k l sa (mx (s.length : Int) (l.length : Int)) (q : Int) = some (at_, e)) ∧ (∀ k, d + 2 ≤ k → sapperref13_Check.l0 k s l sa (s.length : Int) (q : Int) = some (at_, e)) ∧ (e = 0 ∧ l = sa ∨ e = 131) := by
  have hl := hsa.1
  have hmx : mx (s.length : Int) (l.length : Int) = (s.length : Int) ∧ l.length ≤ s.length ∨ mx (s.length : Int) (l.length : Int) = (l.length : Int) ∧ s.length ≤ l.length := by
    unfold mx
    by_cases h : (s.length : Int) < (l.length : Int)
    · rw [if_pos h]; omega
    · rw [if_neg h]; omega
  induction d with
  | zero =>
    intro q hd hq hp
    have : q = s.length := by omega
    subst this
    by_cases hg : s.length < l.length
    · refine ⟨(s.length : Int), 131, fun k hk => ?_, fun k hk => ?_, .inr rfl⟩
      · obtain ⟨k, rfl⟩ : ∃ k', k = k' + 1 := ⟨k - 1, by omega⟩
        rw [suffix_Check.l0, if_pos (by omega), if_pos (by omega)]
      · obtain ⟨k, rfl⟩ : ∃ k', k = k' + 1 := ⟨k - 1, by omega⟩
        rw [sapperref13_Check.l0, if_neg (by omega), if_pos (by omega)]
    · have hls : l.length = s.length := by
        by_cases h0 : s.length = 0
        · omega
        · have := (hp (s.length - 1) (by omega)).1; omega
      refine ⟨0, 0, fun k hk => ?_, fun k hk => ?_, .inl ⟨rfl, ext_ch (by omega) fun q hq => (hp q (by omega)).2⟩⟩
      · obtain ⟨k, rfl⟩ : ∃ k', k = k' + 1 := ⟨k - 1, by omega⟩
        rw [suffix_Check.l0, if_neg (by omega)]
      · obtain ⟨k, rfl⟩ : ∃ k', k = k' + 1 := ⟨k - 1, by omega⟩
        rw [sapperref13_Check.l0, if_neg (by omega), if_neg (by omega)]
  | succ d ih =>
    intro q hd hq hp
    by_cases hg : l.length ≤ q
    · refine ⟨(q : Int), 131, fun k hk => ?_, fun k hk => ?_, .inr rfl⟩
      · obtain ⟨k, rfl⟩ : ∃ k', k = k' + 1 := ⟨k - 1, by omega⟩
        rw [suffix_Check.l0, if_pos (by omega), if_neg (by omega), if_pos (by omega)]
      · obtain ⟨k, rfl⟩ : ∃ k', k = k' + 1 := ⟨k - 1, by omega⟩
        rw [sapperref13_Check.l0, if_pos (by omega), if_pos (by omega), if_pos (by omega), if_pos (by omega)]
    · by_cases he : ch l q = ch sa q
      · obtain ⟨a, e, h1, h2, h3⟩ := ih (q + 1) (by omega) (by omega) (fun j hj => by
          by_cases h : j = q
          · rw [h]; exact ⟨by omega, he⟩
          · exact hp j (by omega))
        refine ⟨a, e, fun k hk => ?_, fun k hk => ?_, h3⟩
        · obtain ⟨k, rfl⟩ : ∃ k', k = k' + 1 := ⟨k - 1, by omega⟩
          rw [suffix_Check.l0, if_pos (by omega), if_neg (by omega), if_neg (by omega), if_pos (by omega), if_pos (by omega), if_pos (by omega), rd_nat, rd_nat, if_pos he.symm, wp (x := (q : Int) + 1) (y := ((q + 1 : Nat) : Int)) (by omega) (by omega) (by omega)]
          exact h1 k (by omega)
        · obtain ⟨k, rfl⟩ : ∃ k', k = k' + 1 := ⟨k - 1, by omega⟩
          rw [sapperref13_Check.l0, if_pos (by omega), if_pos (by omega), if_pos (by omega), if_neg (by omega), if_pos (by omega), rd_nat, rd_nat, if_pos he, wp (x := (q : Int) + 1) (y := ((q + 1 : Nat) : Int)) (by omega) (by omega) (by omega)]
          exact h2 k (by omega)
      · refine ⟨(q : Int), 131, fun k hk => ?_, fun k hk => ?_, .inr rfl⟩
        · obtain ⟨k, rfl⟩ : ∃ k', k = k' + 1 := ⟨k - 1, by omega⟩
          rw [suffix_Check.l0, if_pos (by omega), if_neg (by omega), if_neg (by omega), if_pos (by omega), if_pos (by omega), if_pos (by omega), rd_nat, rd_nat, if_neg (fun h => he h.symm)]
        · obtain ⟨k, rfl⟩ : ∃ k', k = k' + 1 := ⟨k - 1, by omega⟩
          rw [sapperref13_Check.l0, if_pos (by omega), if_pos (by omega), if_pos (by omega), if_neg (by omega), if_pos (by omega), rd_nat, rd_nat, if_neg he]
/-- The loop that marks what was handed in. -/
theorem marks {x : List S82} {f : Int} {m : Nat} (hm : m ≤ 1000000000000000) {K : Nat} (hend : ∀ k g, K ≤ k → sapperlaw13_SuffixChecks.l0 (k + 1) s g f x (m : Int) (m : Int) = some true) (d : Nat) : ∀ q (g : List Int), m - q = d → q ≤ m → g.length = m → ∀ k, K ≤ k → sapperlaw13_SuffixChecks.l0 (k + d + 1) s g f x (m : Int) (q : Int) = some true := by
  induction d with
  | zero =>
    intro q g hd hq hg k hk
    have : q = m := by omega
    subst this
    exact hend k g hk
  | succ d ih =>
    intro q g hd hq hg k hk
    rw [show k + (d + 1) + 1 = k + d + 1 + 1 by omega, sapperlaw13_SuffixChecks.l0, if_pos (by omega), if_pos (by omega), if_pos (by omega), wp (x := (q : Int) + 1) (y := ((q + 1 : Nat) : Int)) (by omega) (by omega) (by omega)]
    exact ih (q + 1) _ (by omega) (by omega) (by rw [List.length_set]; exact hg) k hk
end
theorem SuffixChecks : sapperlaw13_SuffixChecks.Pure := by
  intro s l _ hs0 hw _ hl0 _
  obtain ⟨K1, h1⟩ := lives_f
  have hb := bl_of_wf hw
  -- what the calls tell
  have key : ∃ K at_ e x, (∀ k, K ≤ k → suffix_Check.f k s l = some (at_, e)) ∧ (∀ k, K ≤ k → sapperref13_Check.f k s l = some (at_, e)) ∧ (∀ k, K ≤ k → suffix_Load.f k s l = some (x, e)) ∧ (((x.length : Int) == 0) != (e != 0)) = false ∧ ∀ k g, K ≤ k → sapperlaw13_SuffixChecks.l0 (k + 1) s g e x ((l.length + 2 : Nat) : Int) ((l.length + 2 : Nat) : Int) = some true := by
    by_cases hs : s.length ≤ 16777216
    · obtain ⟨K2, sa, h2, hsa⟩ := sorted_ok hs (byt_wf hw)
      obtain ⟨K3, h3⟩ := refArray_ok hs hb hsa
      obtain ⟨at_, e, g1, g2, g3⟩ := checks (l := l) hs hsa s.length 0 (by omega) (by omega) (fun j hj => by omega)
      have c1 : ∀ k, K2 + s.length + 2 ≤ k → suffix_Check.f k s l = some (at_, e) := fun k hk => by
        unfold suffix_Check.f
        rw [h2 _ (by omega), Option.bind_some, if_pos rfl, hsa.1]
        exact g1 k (by omega)
      have c2 : ∀ k, K3 + s.length + 2 ≤ k → sapperref13_Check.f k s l = some (at_, e) := fun k hk => by
        unfold sapperref13_Check.f
        rw [if_neg (by omega), h3 _ (by omega), Option.bind_some, hsa.1]
        exact g2 k (by omega)
      rcases g3 with ⟨rfl, rfl⟩ | rfl
      · obtain ⟨x, b1, b2, hx⟩ := build_ok hs hsa
        obtain ⟨K4, h4⟩ := refLcp_ok hs hb hx.2.2.1 hx.2.2.2.2.2.1 hx.2.2.2.2.2.2
        obtain ⟨K5, h5⟩ := refArray_ok hs hb hx.2.2.1
        refine ⟨K1 + K2 + K3 + K4 + K5 + 2 * s.length + 10, at_, 0, [x], fun k hk => c1 k (by omega), fun k hk => c2 k (by omega), fun k hk => ?_, rfl, fun k g hk => ?_⟩
        · unfold suffix_Load.f
          rw [c1 k (by omega), Option.bind_some, if_pos rfl, b1]; rfl
        · have q1 := hx.2.2.1.1
          have q2 := hx.2.2.2.2.2.1
          rw [sapperlaw13_SuffixChecks.l0, if_neg (by omega), if_pos rfl, Array_f hs hx, Option.bind_some, h5 _ (by omega), Option.bind_some, same_f (by omega) (by omega), Option.bind_some, if_pos rfl, Lcp_f hs hx, Option.bind_some, h4 _ (by omega), Option.bind_some, same_f (by omega) (by omega), Option.bind_some, if_pos rfl, h1 _ (by omega)]; rfl
      · refine ⟨K1 + K2 + K3 + 2 * s.length + 10, at_, 131, [], fun k hk => c1 k (by omega), fun k hk => c2 k (by omega), fun k hk => ?_, rfl, fun k g hk => ?_⟩
        · unfold suffix_Load.f
          rw [c1 k (by omega), Option.bind_some, if_neg (show ¬ ((131 : Int) = 0) by decide)]
        · rw [sapperlaw13_SuffixChecks.l0, if_neg (by omega), if_neg (by decide), h1 _ (by omega)]; rfl
    · have c1 : ∀ k, suffix_Check.f k s l = some (0, 130) := fun k => by
        unfold suffix_Check.f
        rw [sorted_many (by omega), Option.bind_some, if_neg (by decide)]
      refine ⟨K1 + 1, 0, 130, [], fun k _ => c1 k, fun k _ => ?_, fun k _ => ?_, rfl, fun k g hk => ?_⟩
      · unfold sapperref13_Check.f
        rw [if_pos (by omega)]
      · unfold suffix_Load.f
        rw [c1 k, Option.bind_some, if_neg (by decide)]
      · rw [sapperlaw13_SuffixChecks.l0, if_neg (by omega), if_neg (by decide), h1 _ (by omega)]; rfl
  obtain ⟨K, at_, e, x, k1, k2, k3, k4, k5⟩ := key
  refine ⟨K + 2 * l.length + 20, ?_⟩
  have e1 : (s ++ [171, 172, 173, 174, 175]).take s.length = s := by simp
  have e2 : (l ++ [71, 72]).take l.length = l := by simp
  have e3 : (l ++ [71, 72]).length = l.length + 2 := by simp
  have e4 : ch (l ++ [71, 72]) l.length = 71 := by
    unfold ch
    rw [List.getD_eq_getElem?_getD, List.getElem?_append_right (Nat.le_refl _), Nat.sub_self]; rfl
  have hj := marks (s := s) (x := x) (f := e) (m := l.length + 2) (by omega) k5 (l.length + 2) 0 (l ++ [71, 72]) (by omega) (by omega) e3
  unfold sapperlaw13_SuffixChecks.f
  rw [Option.bind_some, if_pos (by simp; omega), Option.bind_some, Option.bind_some, List.nil_append, if_pos (by simp; omega), Option.bind_some, lend_f (by omega), Option.bind_some, if_pos (by omega), if_pos (by simp; omega), Option.bind_some, if_pos (by omega), if_pos (by simp; omega), Int.toNat_natCast, Int.toNat_natCast, e1, e2, k1 _ (by omega), Option.bind_some, k2 _ (by omega), Option.bind_some, k3 _ (by omega), Option.bind_some, if_pos rfl, if_pos rfl, if_pos rfl, k4, if_neg (by decide), same_f (by omega) (by omega), Option.bind_some, if_pos rfl, if_pos (by rw [e3]; omega), rd_nat, e4, if_pos rfl, kept_f (by omega), Option.bind_some]
  rw [show K + 2 * l.length + 20 = (K + l.length + 16 + (l.length + 2) + 1) + 1 by omega, sapperlaw13_SuffixChecks.j0, if_neg (by decide), e3]
  have := hj (K + l.length + 16) (by omega)
  rw [show ((0 : Nat) : Int) = 0 from rfl] at this
  exact this
end Go.Proofs.Ythcnnfahlhklgaa.Pure
