/- The law SuffixIndexes holds of any bytes, any number and any other bytes: all that an index tells is the document's answer, and what it hands out is its caller's own. No condition. -/
import Derived.Test.YthcnnfahlhklgaaSCSuffixIndexes
import Derived.Test.YthcnnfahlhklgaaXx37
namespace Go.Proofs.Ythcnnfahlhklgaa.Pure
open Go.RowKit Go.Proofs.Ythcnnfahlhklgaa Go.Proofs.Ythcnnfahlhklgaa.X Go.Proofs.Ythcnnfahlhklgaa.SD Go.Proofs.Ythcnnfahlhklgaa.SM Go.Proofs.YthcnnfahlhklgaaW.PrintWords Go.Proofs.YthcnnfahlhklgaaW.PrintLast

section
variable {s l p : List Int} {x : S82}
attribute [local irreducible] cn cv fr tov rk3 loc2 ch rank
theorem lend_f (h : l.length ≤ 140737488351232) : sapperref01_Lend.f l = some (l ++ [171, 172, 173, 174, 175]) := by
 unfold sapperref01_Lend.f
 rw [Option.bind_some, if_pos (by simp; omega), Option.bind_some, Option.bind_some, if_pos (by simp; omega), Option.bind_some, if_pos (by omega), if_pos (by simp; omega), List.nil_append]
theorem kept_f (h : l.length ≤ 140737488351232) : sapperref01_Kept.f (l ++ [171, 172, 173, 174, 175]) l = some true := by
 unfold sapperref01_Kept.f
 rw [lend_f h, Option.bind_some, if_pos (by omega), if_pos (by simp; omega)]
 unfold sapperref01_Same.f
 rw [Option.bind_some, beq_self_eq_true]
theorem same01_f : sapperref01_Same.f l l = some true := by
 unfold sapperref01_Same.f
 rw [beq_self_eq_true]
theorem same_loop (hl : l.length ≤ 9223372036854775000) (d : Nat) : ∀ q, l.length - q = d → q ≤ l.length → ∀ k, sapperlaw13_same.l0 (k + d + 1) l l (l.length : Int) (q : Int) = some true := by
 induction d with
 | zero => intro q hd hq k; rw [show k + 0 + 1 = k + 1 by omega, sapperlaw13_same.l0, if_neg (by omega)]
 | succ d ih =>
  intro q hd hq k
  rw [show k + (d + 1) + 1 = k + d + 1 + 1 by omega, sapperlaw13_same.l0, if_pos (by omega), if_pos (by omega), if_pos (by omega), if_pos (by omega), if_pos rfl, wp (x := (q : Int) + 1) (y := ((q + 1 : Nat) : Int)) (by omega) (by omega) (by omega)]
  exact ih (q + 1) (by omega) (by omega) k
theorem same_f (hl : l.length ≤ 9223372036854775000) {k : Nat} (hk : l.length + 1 ≤ k) : sapperlaw13_same.f k l l = some true := by
 unfold sapperlaw13_same.f
 have := same_loop hl l.length 0 (by omega) (by omega) (k - l.length - 1)
 rw [show k - l.length - 1 + l.length + 1 = k by omega, show ((0 : Nat) : Int) = 0 from rfl] at this
 rw [if_pos rfl, this]
theorem Len_f (hx : IsIx s x) : suffix_Index_Len.f [x] = some (s.length : Int) := by
 unfold suffix_Index_Len.f
 rw [is_f hx.1, Option.bind_some, if_pos rfl, if_pos (by simp), show rd_T82 [x] 0 = x from rfl, hx.2.1]
theorem Data_f (hs : s.length ≤ 16777216) (hx : IsIx s x) : suffix_Index_Data.f [x] = some s := by
 unfold suffix_Index_Data.f
 rw [Len_f hx, Option.bind_some, if_pos (by omega), if_pos (by omega), Option.bind_some, is_f hx.1, Option.bind_some, if_pos rfl, if_pos (by simp), show rd_T82 [x] 0 = x from rfl, hx.2.1, Int.toNat_natCast]
 unfold copy_u8.f
 rw [cpy_all _ s (by simp)]; rfl
theorem At_in (hx : IsIx s x) {r : Nat} (hr : r < s.length) {k : Nat} (hk : 2 ≤ k) : suffix_Index_At.f k [x] (r : Int) = some ((P x.f2 r : Int), 0) := by
 unfold suffix_Index_At.f
 have h := place1_f hx (r : Int) (k - 2)
 have hl := hx.2.2.1.1
 rw [show k - 2 + 2 = k by omega] at h
 rw [h, if_pos (by omega), Option.bind_some, if_pos rfl, if_pos (by simp), if_pos (by omega), show rd_T82 [x] 0 = x from rfl, if_pos (by omega), rd_nat, (sa_at hx.2.2.1 hr).1]
theorem Rank_in (hx : IsIx s x) {i : Nat} (hi : i < s.length) {k : Nat} (hk : 2 ≤ k) : suffix_Index_Rank.f k [x] (i : Int) = some ((rank s.length (ch s) i : Int), 0) := by
 unfold suffix_Index_Rank.f
 have h := place1_f hx (i : Int) (k - 2)
 have hl := hx.2.2.2.1
 rw [show k - 2 + 2 = k by omega] at h
 rw [h, if_pos (by omega), Option.bind_some, if_pos rfl, if_pos (by simp), if_pos (by omega), show rd_T82 [x] 0 = x from rfl, if_pos (by omega), rd_nat, hx.2.2.2.2.1 i hi]
theorem three_out (hx : IsIx s x) {a : Int} (h : ¬ (0 ≤ a ∧ a < (s.length : Int))) {k : Nat} (hk : 2 ≤ k) : suffix_Index_At.f k [x] a = some (0, 132) ∧ suffix_Index_Rank.f k [x] a = some (0, 132) ∧ suffix_Index_Compare.f k [x] a p = some (0, 0, 132) := by
 have g := place1_f hx a (k - 2)
 rw [show k - 2 + 2 = k by omega, if_neg h] at g
 refine ⟨?_, ?_, ?_⟩
 ·unfold suffix_Index_At.f
  rw [g, Option.bind_some, if_neg (by decide)]
 ·unfold suffix_Index_Rank.f
  rw [g, Option.bind_some, if_neg (by decide)]
 ·unfold suffix_Index_Compare.f
  rw [g, Option.bind_some, if_neg (by decide)]
/-- What an index hands out is its caller's own. -/
theorem own_l1 (hs : s.length ≤ 16777216) (hx : IsIx s x) {X : List Int} (hX : X.length = s.length) (d : Nat) : ∀ q (g : List Int), s.length - q = d → q ≤ s.length → g.length = s.length → ∀ k, s.length + 1 ≤ k → sapperlaw13_own.l1 (k + d + 1) [x] X x.f2 g x.f4 (s.length : Int) (q : Int) = some true := by
 have hl2 := hx.2.2.1.1
 have hl4 := hx.2.2.2.2.2.1
 induction d with
 | zero =>
  intro q g hd hq hg k hk
  have hw := wp (x := (s.length : Int) + 3) (y := ((s.length + 3 : Nat) : Int)) (by omega) (by omega) (by omega)
  rw [show k + 0 + 1 = k + 1 by omega, sapperlaw13_own.l1, if_neg (by omega), Option.bind_some, if_pos (by rw [hX, List.length_cons, List.length_cons, List.length_cons, List.length_nil]; omega), Option.bind_some, if_pos (by rw [hg, List.length_cons, List.length_cons, List.length_cons, List.length_nil]; omega), Array_f hs hx, Option.bind_some, same_f (by omega) (by omega), Option.bind_some, if_pos rfl, Lcp_f hs hx, Option.bind_some, same_f (by omega) (by omega), Option.bind_some, if_pos rfl, hl2, hl4, hw, if_pos (by rw [List.length_append, hX]; rfl), if_pos (by rw [List.length_append, hg]; rfl), Data_f hs hx, Option.bind_some, Option.bind_some]
  unfold sapperref01_Own.f
  rw [if_pos ⟨rfl, by simp; omega⟩]; rfl
 | succ d ih =>
  intro q g hd hq hg k hk
  rw [show k + (d + 1) + 1 = k + d + 1 + 1 by omega, sapperlaw13_own.l1, if_pos (by omega), if_pos (by omega), if_pos (by omega), wp (x := (q : Int) + 1) (y := ((q + 1 : Nat) : Int)) (by omega) (by omega) (by omega)]
  exact ih (q + 1) _ (by omega) (by omega) (by rw [List.length_set]; exact hg) k hk
theorem own_l0 (hs : s.length ≤ 16777216) (hx : IsIx s x) (d : Nat) : ∀ q (g : List Int), s.length - q = d → q ≤ s.length → g.length = s.length → ∀ k, 2 * s.length + 2 ≤ k → sapperlaw13_own.l0 (k + d + 1) [x] g x.f2 x.f4 x.f4 (s.length : Int) (q : Int) = some true := by
 have hl4 := hx.2.2.2.2.2.1
 induction d with
 | zero =>
  intro q g hd hq hg k hk
  rw [show k + 0 + 1 = k + 1 by omega, sapperlaw13_own.l0, if_neg (by omega), hl4]
  have := own_l1 hs hx hg s.length 0 x.f4 (by omega) (by omega) hl4 (k - s.length - 1) (by omega)
  rw [show k - s.length - 1 + s.length + 1 = k by omega] at this
  exact this
 | succ d ih =>
  intro q g hd hq hg k hk
  rw [show k + (d + 1) + 1 = k + d + 1 + 1 by omega, sapperlaw13_own.l0, if_pos (by omega), if_pos (by omega), if_pos (by omega), wp (x := (q : Int) + 1) (y := ((q + 1 : Nat) : Int)) (by omega) (by omega) (by omega)]
  exact ih (q + 1) _ (by omega) (by omega) (by rw [List.length_set]; exact hg) k hk
theorem own_f (hs : s.length ≤ 16777216) (hx : IsIx s x) {k : Nat} (hk : 3 * s.length + 3 ≤ k) : sapperlaw13_own.f k [x] = some true := by
 unfold sapperlaw13_own.f
 rw [Array_f hs hx, Option.bind_some, Option.bind_some, Lcp_f hs hx, Option.bind_some, Option.bind_some, hx.2.2.1.1]
 have := own_l0 hs hx s.length 0 x.f2 (by omega) (by omega) hx.2.2.1.1 (k - s.length - 1) (by omega)
 rw [show k - s.length - 1 + s.length + 1 = k by omega] at this
 exact this
/-- The loop that marks what was handed in. -/
theorem marks {a : Int} {m : Nat} (hm : m ≤ 1000000000000000) {K : Nat} (hend : ∀ k g, K ≤ k → sapperlaw13_SuffixIndexes.l0 (k + 1) s a p g [x] (m : Int) (m : Int) = some true) (d : Nat) : ∀ q (g : List Int), m - q = d → q ≤ m → g.length = m → ∀ k, K ≤ k → sapperlaw13_SuffixIndexes.l0 (k + d + 1) s a p g [x] (m : Int) (q : Int) = some true := by
 induction d with
 | zero =>
  intro q g hd hq hg k hk
  have : q = m := by omega
  subst this
  exact hend k g hk
 | succ d ih =>
  intro q g hd hq hg k hk
  rw [show k + (d + 1) + 1 = k + d + 1 + 1 by omega, sapperlaw13_SuffixIndexes.l0, if_pos (by omega), if_pos (by omega), if_pos (by omega), wp (x := (q : Int) + 1) (y := ((q + 1 : Nat) : Int)) (by omega) (by omega) (by omega)]
  exact ih (q + 1) _ (by omega) (by omega) (by rw [List.length_set]; exact hg) k hk
end
theorem SuffixIndexes : sapperlaw13_SuffixIndexes.Pure := by
 intro s a p _ hs0 hw _ _ hp0 hwp
 obtain ⟨K1, h1⟩ := lives_f
 have hb := bl_of_wf hw
 have hbp := bl_of_wf hwp
 have e1 : (s ++ [171, 172, 173, 174, 175]).take s.length = s := by simp
 have e3 : (s ++ [171, 172, 173, 174, 175]).length = s.length + 5 := by simp
 by_cases hs : s.length ≤ 16777216
 case neg =>
  refine ⟨1, ?_⟩
  unfold sapperlaw13_SuffixIndexes.f
  rw [lend_f (by omega), Option.bind_some, if_pos (by omega), if_pos (by omega), Int.toNat_natCast, e1, New_many (by omega), Option.bind_some, if_pos (by omega), if_pos (by simp)]; rfl
 obtain ⟨K2, x, h2, hx⟩ := New_ok hs (byt_wf hw)
 have hsa := hx.2.2.1
 have hl2 := hsa.1
 have hl4 := hx.2.2.2.2.2.1
 obtain ⟨K3, h3⟩ := refArray_ok hs hb hsa
 obtain ⟨K4, h4⟩ := refLcp_ok hs hb hsa hl4 hx.2.2.2.2.2.2
 obtain ⟨K5, t, h5⟩ := Repeat_both hs hb hx
 -- behind all comparisons
 have j3 : ∀ k, K1 + s.length + 10 ≤ k → sapperlaw13_SuffixIndexes.j3 (k + 1) s a p [x] x.f2 false = some true := by
  intro k hk
  rw [sapperlaw13_SuffixIndexes.j3, if_neg (by decide)]
  by_cases hin : 0 ≤ a ∧ a < (s.length : Int)
  ·obtain ⟨i, rfl⟩ := Int.eq_ofNat_of_zero_le hin.1
   have hi : i < s.length := by omega
   have hrk := rank_lt (c := ch s) hi
   have hpr := P_rank hsa hi
   rw [At_in hx hi (by omega), Option.bind_some, Rank_in hx hi (by omega), Option.bind_some, Compare_f hs hx hi (by omega), Option.bind_some, if_neg (by omega), decide_eq_false (by omega)]
   dsimp only
   rw [show k = k - 1 + 1 by omega, sapperlaw13_SuffixIndexes.j4, if_neg (by decide), if_pos (by omega), if_pos (by omega), Int.toNat_natCast, refCompare_f (BL.drop hb i) hbp (by rw [List.length_drop]; omega) (by rw [List.length_drop]; omega), Option.bind_some, if_pos (by omega), rd_nat, if_pos (sa_at hsa hi).1.symm, if_pos rfl, if_pos rfl, if_neg (by omega), if_neg (by omega), if_pos (by omega), if_pos (by omega), rd_nat, if_pos (by rw [(sa_at hsa hrk).1, hpr]), if_pos rfl, if_pos rfl, if_pos rfl, h1 _ (by omega)]; rfl
  ·obtain ⟨o1, o2, o3⟩ := three_out (p := p) hx hin (k := k) (by omega)
   rw [o1, Option.bind_some, o2, Option.bind_some, o3, Option.bind_some]
   have e : ∀ z, sapperlaw13_SuffixIndexes.j4 (k - 1 + 1) s a p 132 x.f2 0 0 132 0 0 132 true = z → sapperlaw13_SuffixIndexes.j4 k s a p 132 x.f2 0 0 132 0 0 132 true = z := fun z h => by rw [show k - 1 + 1 = k by omega] at h; exact h
   have j4 := e (some true) (by rw [sapperlaw13_SuffixIndexes.j4, if_pos rfl, if_pos rfl, if_pos rfl, if_pos rfl, if_pos rfl, if_pos rfl, if_pos rfl, if_pos rfl, h1 _ (by omega)]; rfl)
   by_cases c1 : a < 0
   ·rw [if_pos c1]; exact j4
   ·rw [if_neg c1, decide_eq_true (by omega)]; exact j4
 have j2 : ∀ k, K1 + K5 + s.length + 12 ≤ k → sapperlaw13_SuffixIndexes.j2 (k + 1) s a p [x] x.f2 false = some true := by
  intro k hk
  obtain ⟨r1, r2⟩ := h5 k (by omega)
  rw [sapperlaw13_SuffixIndexes.j2, if_neg (by decide), r1, Option.bind_some, r2, Option.bind_some, if_pos rfl, bne_self_eq_false, show k = k - 1 + 1 by omega]
  exact j3 (k - 1) (by omega)
 have hend : ∀ k g, K1 + K3 + K4 + K5 + 3 * s.length + 20 ≤ k → sapperlaw13_SuffixIndexes.l0 (k + 1) s a p g [x] ((s.length + 5 : Nat) : Int) ((s.length + 5 : Nat) : Int) = some true := by
  intro k g hk
  rw [sapperlaw13_SuffixIndexes.l0, if_neg (by omega), h3 _ (by omega), Option.bind_some, Len_f hx, Option.bind_some, if_pos rfl, Data_f hs hx, Option.bind_some, same01_f, Option.bind_some, if_pos rfl, Array_f hs hx, Option.bind_some, same_f (by omega) (by omega), Option.bind_some, if_pos rfl, Lcp_f hs hx, Option.bind_some, h4 _ (by omega), Option.bind_some, same_f (by omega) (by omega), Option.bind_some, if_pos rfl, own_f hs hx (by omega), Option.bind_some, show k = k - 1 + 1 by omega]
  exact j2 (k - 1) (by omega)
 have hj := marks (p := p) (a := a) (m := s.length + 5) (by omega) hend (s.length + 5) 0 (s ++ [171, 172, 173, 174, 175]) (by omega) (by omega) e3
 refine ⟨K2 + (K1 + K3 + K4 + K5 + 3 * s.length + 20 + (s.length + 5) + 1) + 1, ?_⟩
 unfold sapperlaw13_SuffixIndexes.f
 rw [lend_f (by omega), Option.bind_some, if_pos (by omega), if_pos (by omega), Int.toNat_natCast, e1, h2 _ (by omega), Option.bind_some, if_neg (by omega), if_pos rfl]
 dsimp only
 rw [if_neg (by simp), kept_f (by omega), Option.bind_some, sapperlaw13_SuffixIndexes.j0, if_neg (by decide), e3, show K2 + (K1 + K3 + K4 + K5 + 3 * s.length + 20 + (s.length + 5) + 1) = K2 + (K1 + K3 + K4 + K5 + 3 * s.length + 20) + (s.length + 5) + 1 by omega]
 exact hj (K2 + (K1 + K3 + K4 + K5 + 3 * s.length + 20)) (by omega)
end Go.Proofs.Ythcnnfahlhklgaa.Pure
