/- By hand: slices.Sort at []int, out of the shelf's contracts, told as the printed walks tell a call. -/
import Derived.Test.YtphchkkicpnehaaProg
import Derived.Sort.OwnSortedInts
import Derived.Test.YtphchkkicpnehaaZShelf
import Derived.Test.YtphchkkicpnehaaZMoreInvWordsWGuard0
namespace Go.Proofs.Ytphchkkicpnehaa
open Go.RowKit Go.Proofs.YtphchkkicpnehaaW.PrintWords Go.Proofs.YtphchkkicpnehaaW.PrintLast Go.Proofs.YtphchkkicpnehaaW.PrintMore

/-- slices.Sort of a row of the call's own: that row, sorted. -/
def slices_Sort_int_int.f (l0 : List Int) : Option (List Int) := if l0.length < 4611686018427387904 then some (l0.mergeSort fun x y => decide (x ≤ y)) else none

theorem slices_Sort_int_int.calls (P0_ : Nat → Prop) (u9000_ : Value) (l0 : List Int) (r : List Int) (w0 w : World) (hB : Below w0.heap.size w0 w)
    (ho0 : Kd.R (Kd.int .i64) 3 w w0.heap.size P0_ u9000_ l0) (h : slices_Sort_int_int.f l0 = some r) :
    Calls Try.prog 50 #[u9000_] w fun e w' => e = .returned (.tuple #[]) ∧ Kd.R (Kd.int .i64) 3 w' w0.heap.size (fun k_ => P0_ k_ ∨ w.heap.size ≤ k_) u9000_ r ∧ Below w0.heap.size w0 w' ∧ Kept w w' (fun k_ => P0_ k_) := by
  unfold slices_Sort_int_int.f at h
  split at h
  case isFalse => cases h
  rename_i hlt
  simp only [Option.some.injEq] at h
  subst h
  have ho := Kd.own_of_R ho0
  obtain ⟨hlen, hcase⟩ := ho
  by_cases hz : l0 = []
  · subst hz
    obtain ⟨p, cap, rfl⟩ : ∃ p cap, u9000_ = .slice p 0 cap := by
      rcases hcase with ⟨rfl, h0⟩ | ⟨g, cap, cur, rfl, hg, hh, hnc, hcm, hcs, htk⟩
      · exact ⟨_, _, rfl⟩
      · exact ⟨_, _, rfl⟩
    refine (Try.slices_Sort_int_none p cap w).mono ?_
    rintro e w' ⟨rfl, rfl⟩
    refine ⟨rfl, ?_, hB, Kept.refl _ _⟩
    have : ([] : List Int).mergeSort (fun x y => decide (x ≤ y)) = [] := by simp
    rw [this]
    exact Kd.R_mono ho0 (fun _ hk => .inl hk)
  · rcases hcase with ⟨rfl, h0⟩ | ⟨g, cap, cur, rfl, hg, hh, hnc, hcm, hcs, htk⟩
    · exact absurd (List.eq_nil_of_length_eq_zero h0) hz
    · have hP : P0_ g := ho0.1 g (by simp [Value.ownBlock])
      have hgs : g < w.heap.size := (Array.getElem?_eq_some_iff.1 hh).1
      have hH : Go.Sort.Holds (Value.int .i64) w g 0 l0.toArray := holds_of_blockI hh (by simpa [encs] using htk)
      refine (Try.slices_Sort_int g 0 cap l0 w hH hgs hlt).mono ?_
      rintro e w' ⟨rfl, n, os, rfl⟩
      have hs : (l0.mergeSort fun x y => decide (x ≤ y)).length = l0.length := List.length_mergeSort _
      refine ⟨rfl, ?_, hB.grown (grownBy_sortedI _) hB.size (fun k hk => by cases hk; exact hg), Kept.of_grown (grownBy_sortedI _) (Kept.refl _ _) (fun k hk => by cases hk; exact .inl hP)⟩
      refine Kd.R_of_own ?_ (fun k hk => .inl (ho0.1 k hk))
      rw [hs]
      exact ownsRow_sortedI hs hg hh hnc hcm hcs

end Go.Proofs.Ytphchkkicpnehaa
