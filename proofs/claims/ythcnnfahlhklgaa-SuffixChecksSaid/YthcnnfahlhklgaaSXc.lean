/- The accessors of an index, lives, and the document's Common. -/
import Derived.Test.YthcnnfahlhklgaaSXb
import Derived.Test.YthcnnfahlhklgaaXL
import Derived.Test.YthcnnfahlhklgaaXx21
import Derived.Test.YthcnnfahlhklgaaXx22
import Derived.Test.YthcnnfahlhklgaaXx23
namespace Go.Proofs.Ythcnnfahlhklgaa.SD
open Go.RowKit Go.Proofs.Ythcnnfahlhklgaa Go.Proofs.Ythcnnfahlhklgaa.X Go.Proofs.Ythcnnfahlhklgaa.SM Go.Proofs.YthcnnfahlhklgaaW.PrintWords Go.Proofs.YthcnnfahlhklgaaW.PrintLast

theorem lives_f : ∃ K, ∀ k, K ≤ k → sapperlaw13_lives.f k = some true := by
  have h : sapperlaw13_lives.f 400 = some true := by decide +kernel
  exact ⟨400, fun k hk => at_rounds (g := fun k => sapperlaw13_lives.f k) (fun k => sapperlaw13_lives.mono k) hk h⟩

section
variable {s : List Int} {x : S82}
attribute [local irreducible] cn cv fr tov rk3 loc2 ch rank
theorem told_f {l : List Int} (hl : l.length ≤ 16777216) : suffix_told.f l = some l := by
  unfold suffix_told.f
  rw [if_pos (by omega), if_pos (by omega), Int.toNat_natCast, copy_eq _ _ (by simp)]; rfl
theorem is_f (hx : x.f0 = true) : suffix_Index_is.f [x] = some true := by
  unfold suffix_Index_is.f
  rw [if_neg (by simp), if_pos (by simp)]
  show some x.f0 = _
  rw [hx]
theorem Array_f (hs : s.length ≤ 16777216) (hx : IsIx s x) : suffix_Index_Array.f [x] = some x.f2 := by
  unfold suffix_Index_Array.f
  rw [is_f hx.1, Option.bind_some, if_pos rfl, if_pos (by simp), show rd_T82 [x] 0 = x from rfl, told_f (by rw [hx.2.2.1.1]; exact hs)]; rfl
theorem Lcp_f (hs : s.length ≤ 16777216) (hx : IsIx s x) : suffix_Index_Lcp.f [x] = some x.f4 := by
  unfold suffix_Index_Lcp.f
  rw [is_f hx.1, Option.bind_some, if_pos rfl, if_pos (by simp), show rd_T82 [x] 0 = x from rfl, told_f (by rw [hx.2.2.2.2.2.1]; exact hs)]; rfl
/-- place, of one number, and of two. -/
theorem place_end (l : List Int) (n : Int) (q : Int) (h : ¬ q < n) (k : Nat) : suffix_Index_place.l0 (k + 1) [x] l n q = some 0 := by
  rw [suffix_Index_place.l0, if_neg h]
theorem place_step (hx : x.f1 = s) (l : List Int) (q : Nat) (hq : q < l.length) (hl : l.length ≤ 1000) (k : Nat) : suffix_Index_place.l0 (k + 1) [x] l (l.length : Int) (q : Int) = if 0 ≤ ch l q ∧ ch l q < (s.length : Int) then suffix_Index_place.l0 k [x] l (l.length : Int) ((q + 1 : Nat) : Int) else some 132 := by
  rw [suffix_Index_place.l0, if_pos (by omega), if_pos (by omega), if_pos (by omega), rd_nat, show rd_T82 [x] 0 = x from rfl, hx]
  by_cases h1 : ch l q < 0
  · rw [if_pos h1, if_neg (by omega)]
  · rw [if_neg h1, if_pos (by simp)]
    by_cases h2 : ch l q ≥ (s.length : Int)
    · rw [if_pos h2, if_neg (by omega)]
    · rw [if_neg h2, if_pos (by omega), wp (x := (q : Int) + 1) (y := ((q + 1 : Nat) : Int)) (by omega) (by omega) (by omega)]
theorem place1_f (hx : IsIx s x) (i : Int) (k : Nat) : suffix_Index_place.f (k + 2) [x] [i] = some (if 0 ≤ i ∧ i < (s.length : Int) then 0 else 132) := by
  unfold suffix_Index_place.f
  rw [is_f hx.1, Option.bind_some, if_pos rfl]
  have h := place_step hx.2.1 [i] 0 (by simp) (by simp) (k + 1)
  have e : ch [i] 0 = i := by unfold ch; rfl
  rw [e] at h
  rw [show ((0 : Nat) : Int) = 0 from rfl] at h
  rw [h]
  split
  · rw [place_end _ _ _ (by simp)]
  · rfl
theorem place2_f (hx : IsIx s x) (i j : Int) (k : Nat) : suffix_Index_place.f (k + 3) [x] [i, j] = some (if 0 ≤ i ∧ i < (s.length : Int) ∧ 0 ≤ j ∧ j < (s.length : Int) then 0 else 132) := by
  unfold suffix_Index_place.f
  rw [is_f hx.1, Option.bind_some, if_pos rfl]
  have h := place_step hx.2.1 [i, j] 0 (by simp) (by simp) (k + 2)
  have g := place_step hx.2.1 [i, j] 1 (by simp) (by simp) (k + 1)
  have e : ch [i, j] 0 = i := by unfold ch; rfl
  have e1 : ch [i, j] 1 = j := by unfold ch; rfl
  rw [e] at h
  rw [e1] at g
  rw [show ((0 : Nat) : Int) = 0 from rfl] at h
  rw [h, g]
  by_cases h1 : 0 ≤ i ∧ i < (s.length : Int)
  · rw [if_pos h1]
    by_cases h2 : 0 ≤ j ∧ j < (s.length : Int)
    · rw [if_pos h2, if_pos ⟨h1.1, h1.2, h2⟩, place_end _ _ _ (by simp)]
    · rw [if_neg h2, if_neg (fun h => h2 h.2.2)]
  · rw [if_neg h1, if_neg (fun h => h1 ⟨h.1, h.2.1⟩)]
theorem Common_in (hs : s.length ≤ 16777216) (hx : IsIx s x) {i j : Nat} (hi : i < s.length) (hj : j < s.length) {k : Nat} (hk : s.length + 4 ≤ k) : suffix_Index_Common.f k [x] (i : Int) (j : Int) = some ((com s.length (ch s) i j : Int), 0) := by
  unfold suffix_Index_Common.f
  have h := place2_f hx (i : Int) (j : Int) (k - 3)
  rw [show k - 3 + 3 = k by omega] at h
  have hle := com_le (n := s.length) (c := ch s) i j
  rw [h, if_pos (by omega), Option.bind_some, if_pos rfl, sameIx_f (s := s) hx.2.1 hs (by omega) (by omega) (by omega)]; rfl
theorem Common_out (hx : IsIx s x) {i j : Int} (h : ¬ (0 ≤ i ∧ i < (s.length : Int) ∧ 0 ≤ j ∧ j < (s.length : Int))) {k : Nat} (hk : 4 ≤ k) : suffix_Index_Common.f k [x] i j = some (0, 132) := by
  unfold suffix_Index_Common.f
  have g := place2_f hx i j (k - 3)
  rw [show k - 3 + 3 = k by omega] at g
  rw [g, if_neg h, Option.bind_some, if_neg (by decide)]

/-- How many are the same, from q on. -/
def cml (u v : List Int) (q : Nat) : Nat :=
  if _h : q < u.length then (if q < v.length ∧ ch u q = ch v q then cml u v (q + 1) + 1 else 0) else 0
termination_by u.length - q
theorem cml_le (u v : List Int) (d : Nat) : ∀ q, u.length - q = d → cml u v q ≤ u.length - q := by
  induction d with
  | zero => intro q h; rw [cml, dif_neg (by omega)]; omega
  | succ d ih =>
    intro q h
    rw [cml, dif_pos (by omega)]
    split
    · have := ih (q + 1) (by omega); omega
    · omega
theorem ch_drop (i q : Nat) : ch (s.drop i) q = ch s (i + q) := by
  unfold ch
  rw [List.getD_eq_getElem?_getD, List.getD_eq_getElem?_getD, List.getElem?_drop]
theorem cml_com {i j : Nat} (d : Nat) : ∀ q, s.length - (i + q) = d → cml (s.drop i) (s.drop j) q = com s.length (ch s) (i + q) (j + q) := by
  induction d with
  | zero =>
    intro q h
    rw [cml, dif_neg (by rw [List.length_drop]; omega), com_stop (by omega)]
  | succ d ih =>
    intro q h
    rw [cml, dif_pos (by rw [List.length_drop]; omega), ch_drop, ch_drop]
    by_cases h1 : j + q < s.length ∧ ch s (i + q) = ch s (j + q)
    · rw [if_pos ⟨by rw [List.length_drop]; omega, h1.2⟩, com_step (by omega) h1.1 h1.2, ih (q + 1) (by omega)]; rfl
    · rw [if_neg (fun h2 => h1 ⟨by rw [List.length_drop] at h2; omega, h2.2⟩), com_stop (fun h2 => h1 ⟨h2.2.1, h2.2.2⟩)]
theorem refCommon_loop {u v : List Int} (hu : u.length ≤ 9223372036854775000) (d : Nat) : ∀ q, u.length - q = d → ∀ k, sapperref13_Common.l0 (k + d + 1) u v (q : Int) = some (((q + cml u v q : Nat) : Int)) := by
  induction d with
  | zero =>
    intro q h k
    rw [show k + 0 + 1 = k + 1 by omega, sapperref13_Common.l0, if_neg (by omega), cml, dif_neg (by omega), Nat.add_zero]
  | succ d ih =>
    intro q h k
    rw [show k + (d + 1) + 1 = k + d + 1 + 1 by omega, sapperref13_Common.l0, if_pos (by omega), cml, dif_pos (by omega)]
    by_cases h1 : q < v.length
    · rw [if_pos (by omega), if_pos (by omega), rd_nat, rd_nat]
      by_cases h2 : ch u q = ch v q
      · rw [if_pos h2, if_pos ⟨h1, h2⟩, wp (x := (q : Int) + 1) (y := ((q + 1 : Nat) : Int)) (by omega) (by omega) (by omega), ih (q + 1) (by omega), show q + 1 + cml u v (q + 1) = q + (cml u v (q + 1) + 1) by omega]
      · rw [if_neg h2, if_neg (fun h => h2 h.2), Nat.add_zero]
    · rw [if_neg (by omega), if_neg (fun h => h1 h.1), Nat.add_zero]
theorem refCommon_f {u v : List Int} (hu : u.length ≤ 9223372036854775000) {k : Nat} (hk : u.length + 1 ≤ k) : sapperref13_Common.f k u v = some (cml u v 0 : Int) := by
  unfold sapperref13_Common.f
  have := refCommon_loop (v := v) hu u.length 0 (by omega) (k - u.length - 1)
  rw [show k - u.length - 1 + u.length + 1 = k by omega, show ((0 : Nat) : Int) = 0 from rfl] at this
  rw [this, Nat.zero_add]
theorem refCommon_com (hs : s.length ≤ 16777216) (i j : Nat) {k : Nat} (hk : s.length + 1 ≤ k) : sapperref13_Common.f k (s.drop i) (s.drop j) = some (com s.length (ch s) i j : Int) := by
  rw [refCommon_f (by rw [List.length_drop]; omega) (by rw [List.length_drop]; omega), cml_com _ 0 rfl]; rfl
end
end Go.Proofs.Ythcnnfahlhklgaa.SD
