/- The law SuffixLeast holds of any bytes and any two numbers: what two suffixes have in common is the least of what neighbours between them have. No condition. -/
import Derived.Test.YthcnnfahlhklgaaSXc
import Derived.Test.YthcnnfahlhklgaaXx27
namespace Go.Proofs.Ythcnnfahlhklgaa.Pure
open Go.RowKit Go.Proofs.Ythcnnfahlhklgaa Go.Proofs.Ythcnnfahlhklgaa.X Go.Proofs.Ythcnnfahlhklgaa.SD Go.Proofs.Ythcnnfahlhklgaa.SM Go.Proofs.YthcnnfahlhklgaaW.PrintWords Go.Proofs.YthcnnfahlhklgaaW.PrintLast

section
variable {s : List Int} {x : S82}
attribute [local irreducible] cn cv fr tov rk3 loc2 ch rank
/-- Two numbers: neighbours of ranks a and a+1. -/
theorem lcv_succ (sa : List Int) (r : Nat) : lcv s sa (r + 1) = com s.length (ch s) (P sa r) (P sa (r + 1)) := by
  unfold lcv; rw [if_neg (by omega), Nat.add_sub_cancel]
/-- The loop: the least of the neighbours from a+1 on, up to a+m+1. -/
theorem least_l0 (hs : s.length ≤ 16777216) (hx : IsIx s x) {K1 : Nat} (h1 : ∀ k, K1 ≤ k → sapperlaw13_lives.f k = some true) {a m : Nat} (ham : a + (m + 1) < s.length) (d : Nat) : ∀ q v, m + 1 - q = d → q ≤ m + 1 → (∃ j, j ≤ m ∧ v = lcv s x.f2 (a + j + 1)) → (∀ j, j < q → v ≤ lcv s x.f2 (a + j + 1)) →
    ∀ k, K1 + s.length + 10 ≤ k → sapperlaw13_SuffixLeast.l0 (k + d + 1) (a : Int) ((m + 1 : Nat) : Int) [x] x.f2 x.f4 (v : Int) ((a + q + 1 : Nat) : Int) = some true := by
  have hl := hx.2.2.2.2.2.1
  have hll := hx.2.2.1.1
  induction d with
  | zero =>
    intro q v hd hq hv hle k hk
    obtain ⟨e1, e2, _⟩ := sa_at hx.2.2.1 (show a < s.length by omega)
    obtain ⟨g1, g2, _⟩ := sa_at hx.2.2.1 ham
    have hv2 : (com s.length (ch s) (P x.f2 a) (P x.f2 (a + (m + 1))) : Int) = (v : Int) := by
      obtain ⟨j, hj, hvj⟩ := hv
      have c1 := com_range (n := s.length) (c := ch s) (p := P x.f2) (fun i hi => P_rank hx.2.2.1 hi) m a ham j hj
      obtain ⟨i, hi, c2⟩ := com_range_min (n := s.length) (c := ch s) (p := P x.f2) (fun i hi => P_rank hx.2.2.1 hi) m a ham
      have c3 := hle i (by omega)
      rw [lcv_succ] at c3 hvj
      omega
    rw [show k + 0 + 1 = k + 1 by omega, sapperlaw13_SuffixLeast.l0, wp (x := (a : Int) + ((m + 1 : Nat) : Int)) (y := ((a + (m + 1) : Nat) : Int)) (by omega) (by omega) (by omega), if_neg (by omega), if_pos (by omega), if_pos (by omega), if_pos (by omega), if_pos (by omega), rd_nat, rd_nat, e1, g1, Common_in hs hx e2 g2 (by omega), Option.bind_some, if_pos rfl, if_pos hv2, h1 _ (by omega)]; rfl
  | succ d ih =>
    intro q v hd hq hv hle k hk
    have hlc := hx.2.2.2.2.2.2 (a + q + 1) (by omega)
    rw [show k + (d + 1) + 1 = k + d + 1 + 1 by omega, sapperlaw13_SuffixLeast.l0, wp (x := (a : Int) + ((m + 1 : Nat) : Int)) (y := ((a + (m + 1) : Nat) : Int)) (by omega) (by omega) (by omega), if_pos (by omega), if_pos (by omega), if_pos (by omega), rd_nat, hlc, wp (x := ((a + q + 1 : Nat) : Int) + 1) (y := ((a + (q + 1) + 1 : Nat) : Int)) (by omega) (by omega) (by omega)]
    by_cases h : lcv s x.f2 (a + q + 1) < v
    · rw [if_pos (by omega)]
      exact ih (q + 1) _ (by omega) (by omega) ⟨q, by omega, rfl⟩ (fun j hj => by
        by_cases e : j = q
        · rw [e]; exact Nat.le_refl _
        · have := hle j (by omega); omega) k hk
    · rw [if_neg (by omega)]
      exact ih (q + 1) _ (by omega) (by omega) hv (fun j hj => by
        by_cases e : j = q
        · rw [e]; omega
        · exact hle j (by omega)) k hk
theorem least_j4 (hs : s.length ≤ 16777216) (hx : IsIx s x) {K1 : Nat} (h1 : ∀ k, K1 ≤ k → sapperlaw13_lives.f k = some true) {a m : Nat} (ham : a + (m + 1) < s.length) {k : Nat} (hk : K1 + 2 * s.length + 20 ≤ k) : sapperlaw13_SuffixLeast.j4 (k + 2) s (a : Int) ((m + 1 : Nat) : Int) [x] = some true := by
  have hl := hx.2.2.2.2.2.1
  have hll := hx.2.2.1.1
  rw [sapperlaw13_SuffixLeast.j4, Array_f hs hx, Option.bind_some, Lcp_f hs hx, Option.bind_some, if_pos (by omega), show ((x.f4.length : Int) != (s.length : Int)) = false by rw [hl]; simp, sapperlaw13_SuffixLeast.j5, if_neg (by simp), wp (x := (a : Int) + 1) (y := ((a + 1 : Nat) : Int)) (by omega) (by omega) (by omega), if_pos (by omega), if_pos (by omega), rd_nat, hx.2.2.2.2.2.2 (a + 1) (by omega)]
  have := least_l0 hs hx h1 ham (m + 1) 0 (lcv s x.f2 (a + 1)) (by omega) (by omega) ⟨0, by omega, rfl⟩ (fun j hj => by omega) (k - (m + 1) - 1) (by omega)
  rw [show k - (m + 1) - 1 + (m + 1) + 1 = k by omega] at this
  exact this
/-- Whatever number, made to one that fits. -/
theorem least_j1 (hs : s.length ≤ 16777216) (h2 : 2 ≤ s.length) (hx : IsIx s x) {K1 : Nat} (h1 : ∀ k, K1 ≤ k → sapperlaw13_lives.f k = some true) {a : Nat} (ha : a + 1 < s.length) (n : Int) {k : Nat} (hk : K1 + 2 * s.length + 20 ≤ k) : sapperlaw13_SuffixLeast.j1 (k + 5) s (a : Int) n [x] = some true := by
  have j2 : ∀ m : Nat, m < s.length - a → sapperlaw13_SuffixLeast.j2 (k + 4) s (a : Int) (m : Int) [x] = some true := by
    intro m hm
    have j3 : ∀ m : Nat, 1 ≤ m → m < s.length - a → sapperlaw13_SuffixLeast.j3 (k + 3) s (a : Int) (m : Int) [x] = some true := by
      intro m h1m hm
      rw [sapperlaw13_SuffixLeast.j3, wp (x := (a : Int) + (m : Int)) (y := ((a + m : Nat) : Int)) (by omega) (by omega) (by omega), if_neg (by omega)]
      have := least_j4 hs hx h1 (a := a) (m := m - 1) (by omega) (k := k) (by omega)
      rw [show m - 1 + 1 = m by omega] at this
      exact this
    rw [sapperlaw13_SuffixLeast.j2]
    by_cases h0 : (m : Int) = 0
    · rw [if_pos h0]; exact j3 1 (by omega) (by omega)
    · rw [if_neg h0]; exact j3 m (by omega) hm
  rw [sapperlaw13_SuffixLeast.j1, wp (x := (s.length : Int) - 1) (y := ((s.length - 1 : Nat) : Int)) (by omega) (by omega) (by omega), wp (x := ((s.length - 1 : Nat) : Int) - (a : Int)) (y := ((s.length - 1 - a : Nat) : Int)) (by omega) (by omega) (by omega), wp (x := ((s.length - 1 - a : Nat) : Int) + 1) (y := ((s.length - a : Nat) : Int)) (by omega) (by omega) (by omega), if_neg (by omega)]
  have hpos : (0 : Int) < ((s.length - a : Nat) : Int) := by omega
  have b1 := Int.tmod_lt_of_pos n hpos
  have b2 := Int.lt_tmod_of_pos n hpos
  generalize Int.tmod n ((s.length - a : Nat) : Int) = t at *
  by_cases ht : t < 0
  · rw [if_pos ht, wp (x := -t) (y := ((-t).toNat : Int)) (by omega) (by omega) (by omega)]
    exact j2 _ (by omega)
  · rw [if_neg ht, show t = (t.toNat : Int) by omega]
    exact j2 _ (by omega)
end
theorem SuffixLeast : sapperlaw13_SuffixLeast.Pure := by
  intro s a1 a2 _ _ hw _ _
  obtain ⟨K1, h1⟩ := lives_f
  by_cases hs : s.length ≤ 16777216
  case neg =>
    refine ⟨1, ?_⟩
    unfold sapperlaw13_SuffixLeast.f
    rw [New_many (by omega), Option.bind_some, if_pos (by omega), if_pos (by simp)]; rfl
  obtain ⟨K2, x, h2, hx⟩ := New_ok hs (byt_wf hw)
  refine ⟨K1 + K2 + 2 * s.length + 100, ?_⟩
  unfold sapperlaw13_SuffixLeast.f
  rw [h2 _ (by omega), Option.bind_some, if_neg (by omega), if_pos rfl]
  dsimp only
  rw [show K1 + K2 + 2 * s.length + 100 = (K1 + K2 + 2 * s.length + 94 + 5) + 1 by omega, sapperlaw13_SuffixLeast.j0, if_neg (by simp)]
  by_cases hl : s.length < 2
  · rw [if_pos (by omega), h1 _ (by omega)]; rfl
  rw [if_neg (by omega), wp (x := (s.length : Int) - 1) (y := ((s.length - 1 : Nat) : Int)) (by omega) (by omega) (by omega), if_neg (by omega)]
  have hpos : (0 : Int) < ((s.length - 1 : Nat) : Int) := by omega
  have b1 := Int.tmod_lt_of_pos a1 hpos
  have b2 := Int.lt_tmod_of_pos a1 hpos
  generalize Int.tmod a1 ((s.length - 1 : Nat) : Int) = t at *
  by_cases ht : t < 0
  · rw [if_pos ht, wp (x := -t) (y := ((-t).toNat : Int)) (by omega) (by omega) (by omega)]
    exact least_j1 hs (by omega) hx h1 (by omega) a2 (by omega)
  · rw [if_neg ht, show t = (t.toNat : Int) by omega]
    exact least_j1 hs (by omega) hx h1 (by omega) a2 (by omega)
end Go.Proofs.Ythcnnfahlhklgaa.Pure
