/- The accessors of an index. -/
import Derived.Test.YtphchkkicpnehaaSXb
import Derived.Test.YtphchkkicpnehaaXx16
namespace Go.Proofs.Ytphchkkicpnehaa.SD
open Go.RowKit Go.Proofs.Ytphchkkicpnehaa Go.Proofs.Ytphchkkicpnehaa.X Go.Proofs.Ytphchkkicpnehaa.SM Go.Proofs.YtphchkkicpnehaaW.PrintWords Go.Proofs.YtphchkkicpnehaaW.PrintLast

section
variable {s : List Int} {x : S61}
attribute [local irreducible] cn cv fr tov rk3 loc2 ch rank
theorem told_f {l : List Int} (hl : l.length ≤ 16777216) : suffix_told.f l = some l := by
  unfold suffix_told.f
  rw [if_pos (by omega), if_pos (by omega), Int.toNat_natCast, copy_eq _ _ (by simp)]; rfl
theorem is_f (hx : x.f0 = true) : suffix_Index_is.f [x] = some true := by
  unfold suffix_Index_is.f
  rw [if_neg (by simp), if_pos (by simp)]
  show some x.f0 = _
  rw [hx]
theorem Array_f (hs : s.length ≤ 16777216) (hx : IsIx s x) : suffix_Index_Array.f [x] = some x.f2 := by
  unfold suffix_Index_Array.f
  rw [is_f hx.1, Option.bind_some, if_pos rfl, if_pos (by simp), show rd_T61 [x] 0 = x from rfl, told_f (by rw [hx.2.2.1.1]; exact hs)]; rfl
theorem Lcp_f (hs : s.length ≤ 16777216) (hx : IsIx s x) : suffix_Index_Lcp.f [x] = some x.f4 := by
  unfold suffix_Index_Lcp.f
  rw [is_f hx.1, Option.bind_some, if_pos rfl, if_pos (by simp), show rd_T61 [x] 0 = x from rfl, told_f (by rw [hx.2.2.2.2.2.1]; exact hs)]; rfl
/-- place, of one number, and of two. -/
theorem place_end (l : List Int) (n : Int) (q : Int) (h : ¬ q < n) (k : Nat) : suffix_Index_place.l0 (k + 1) [x] l n q = some 0 := by
  rw [suffix_Index_place.l0, if_neg h]
theorem place_step (hx : x.f1 = s) (l : List Int) (q : Nat) (hq : q < l.length) (hl : l.length ≤ 1000) (k : Nat) : suffix_Index_place.l0 (k + 1) [x] l (l.length : Int) (q : Int) = if 0 ≤ ch l q ∧ ch l q < (s.length : Int) then suffix_Index_place.l0 k [x] l (l.length : Int) ((q + 1 : Nat) : Int) else some 132 := by
  rw [suffix_Index_place.l0, if_pos (by omega), if_pos (by omega), if_pos (by omega), rd_nat, show rd_T61 [x] 0 = x from rfl, hx]
  by_cases h1 : ch l q < 0
  · rw [if_pos h1, if_neg (by omega)]
  · rw [if_neg h1, if_pos (by simp)]
    by_cases h2 : ch l q ≥ (s.length : Int)
    · rw [if_pos h2, if_neg (by omega)]
    · rw [if_neg h2, if_pos (by omega), wp (x := (q : Int) + 1) (y := ((q + 1 : Nat) : Int)) (by omega) (by omega) (by omega)]
theorem place1_f (hx : IsIx s x) (i : Int) (k : Nat) : suffix_Index_place.f (k + 2) [x] [i] = some (if 0 ≤ i ∧ i < (s.length : Int) then 0 else 132) := by
  unfold suffix_Index_place.f
  rw [is_f hx.1, Option.bind_some, if_pos rfl]
  have h := place_step hx.2.1 [i] 0 (by simp) (by simp) (k + 1)
  have e : ch [i] 0 = i := by unfold ch; rfl
  rw [e] at h
  rw [show ((0 : Nat) : Int) = 0 from rfl] at h
  rw [h]
  split
  · rw [place_end _ _ _ (by simp)]
  · rfl
theorem place2_f (hx : IsIx s x) (i j : Int) (k : Nat) : suffix_Index_place.f (k + 3) [x] [i, j] = some (if 0 ≤ i ∧ i < (s.length : Int) ∧ 0 ≤ j ∧ j < (s.length : Int) then 0 else 132) := by
  unfold suffix_Index_place.f
  rw [is_f hx.1, Option.bind_some, if_pos rfl]
  have h := place_step hx.2.1 [i, j] 0 (by simp) (by simp) (k + 2)
  have g := place_step hx.2.1 [i, j] 1 (by simp) (by simp) (k + 1)
  have e : ch [i, j] 0 = i := by unfold ch; rfl
  have e1 : ch [i, j] 1 = j := by unfold ch; rfl
  rw [e] at h
  rw [e1] at g
  rw [show ((0 : Nat) : Int) = 0 from rfl] at h
  rw [h, g]
  by_cases h1 : 0 ≤ i ∧ i < (s.length : Int)
  · rw [if_pos h1]
    by_cases h2 : 0 ≤ j ∧ j < (s.length : Int)
    · rw [if_pos h2, if_pos ⟨h1.1, h1.2, h2⟩, place_end _ _ _ (by simp)]
    · rw [if_neg h2, if_neg (fun h => h2 h.2.2)]
  · rw [if_neg h1, if_neg (fun h => h1 ⟨h.1, h.2.1⟩)]
end
end Go.Proofs.Ytphchkkicpnehaa.SD
