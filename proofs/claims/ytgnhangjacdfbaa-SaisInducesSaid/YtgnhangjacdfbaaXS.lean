/- By hand: slices.Sort and slices.Clone at []int, out of the shelf's contracts, told as the printed walks tell a call. -/
import Derived.Test.YtgnhangjacdfbaaProg
import Derived.Sort.OwnSortedInts
import Derived.Test.YtgnhangjacdfbaaZShelf
import Derived.Test.YtgnhangjacdfbaaZMoreInvWordsWGuard0
namespace Go.Proofs.Ytgnhangjacdfbaa
open Go.RowKit Go.Proofs.YtgnhangjacdfbaaW.PrintWords Go.Proofs.YtgnhangjacdfbaaW.PrintLast Go.Proofs.YtgnhangjacdfbaaW.PrintMore

/-- slices.Sort of a row of the call's own: that row, sorted. -/
def slices_Sort_int_int.f (l0 : List Int) : Option (List Int) := if l0.length < 4611686018427387904 then some (l0.mergeSort fun x y => decide (x ≤ y)) else none

theorem slices_Sort_int_int.calls (P0_ : Nat → Prop) (u9000_ : Value) (l0 : List Int) (r : List Int) (w0 w : World) (hB : Below w0.heap.size w0 w)
    (ho0 : Kd.R (Kd.int .i64) 3 w w0.heap.size P0_ u9000_ l0) (h : slices_Sort_int_int.f l0 = some r) :
    Calls Try.prog 41 #[u9000_] w fun e w' => e = .returned (.tuple #[]) ∧ Kd.R (Kd.int .i64) 3 w' w0.heap.size (fun k_ => P0_ k_ ∨ w.heap.size ≤ k_) u9000_ r ∧ Below w0.heap.size w0 w' ∧ Kept w w' (fun k_ => P0_ k_) := by
  unfold slices_Sort_int_int.f at h
  split at h
  case isFalse => cases h
  rename_i hlt
  simp only [Option.some.injEq] at h
  subst h
  have ho := Kd.own_of_R ho0
  obtain ⟨hlen, hcase⟩ := ho
  by_cases hz : l0 = []
  · subst hz
    obtain ⟨p, cap, rfl⟩ : ∃ p cap, u9000_ = .slice p 0 cap := by
      rcases hcase with ⟨rfl, h0⟩ | ⟨g, cap, cur, rfl, hg, hh, hnc, hcm, hcs, htk⟩
      · exact ⟨_, _, rfl⟩
      · exact ⟨_, _, rfl⟩
    refine (Try.slices_Sort_int_none p cap w).mono ?_
    rintro e w' ⟨rfl, rfl⟩
    refine ⟨rfl, ?_, hB, Kept.refl _ _⟩
    have : ([] : List Int).mergeSort (fun x y => decide (x ≤ y)) = [] := by simp
    rw [this]
    exact Kd.R_mono ho0 (fun _ hk => .inl hk)
  · rcases hcase with ⟨rfl, h0⟩ | ⟨g, cap, cur, rfl, hg, hh, hnc, hcm, hcs, htk⟩
    · exact absurd (List.eq_nil_of_length_eq_zero h0) hz
    · have hP : P0_ g := ho0.1 g (by simp [Value.ownBlock])
      have hgs : g < w.heap.size := (Array.getElem?_eq_some_iff.1 hh).1
      have hH : Go.Sort.Holds (Value.int .i64) w g 0 l0.toArray := holds_of_blockI hh (by simpa [encs] using htk)
      refine (Try.slices_Sort_int g 0 cap l0 w hH hgs hlt).mono ?_
      rintro e w' ⟨rfl, n, os, rfl⟩
      have hs : (l0.mergeSort fun x y => decide (x ≤ y)).length = l0.length := List.length_mergeSort _
      refine ⟨rfl, ?_, hB.grown (grownBy_sortedI _) hB.size (fun k hk => by cases hk; exact hg), Kept.of_grown (grownBy_sortedI _) (Kept.refl _ _) (fun k hk => by cases hk; exact .inl hP)⟩
      refine Kd.R_of_own ?_ (fun k hk => .inl (ho0.1 k hk))
      rw [hs]
      exact ownsRow_sortedI hs hg hh hnc hcm hcs

/-- slices.Clone: the same numbers, in a row of the call's own. -/
def slices_Clone_int_int.f (l0 : List Int) : Option (List Int) := if l0.length ≤ 17592186044416 then some l0 else none

theorem slices_Clone_int_int.calls (A0 : Option Addr) (c0 : Nat) (l0 : List Int) (r : List Int) (w : World) (hr0 : Kd.C (Kd.int .i64) w A0 l0.length l0) (hc0 : l0.length ≤ c0) (h : slices_Clone_int_int.f l0 = some r) :
    Calls Try.prog 40 #[.slice A0 l0.length c0] w fun e w' => ∃ v0_ : Value, e = .returned (v0_) ∧ Kd.R (Kd.int .i64) 3 w' w.heap.size (fun _ => True) v0_ r ∧ Below w.heap.size w w' := by
  unfold slices_Clone_int_int.f at h
  split at h
  case isFalse => cases h
  rename_i hlt
  simp only [Option.some.injEq] at h
  subst h
  rcases A0 with _ | ad
  · have hz : l0 = [] := by
      rcases Nat.eq_zero_or_pos l0.length with h | h
      · exact List.eq_nil_of_length_eq_zero h
      · obtain ⟨ad, e, _⟩ := hr0.2.2 h; cases e
    subst hz
    refine (Try.slices_Clone_int_nil _ c0 w).mono ?_
    rintro e w' ⟨rfl, rfl⟩
    exact ⟨_, rfl, Kd.R_nil _ _ _ _ _, Below.refl _ _⟩
  · by_cases hz : l0 = []
    · subst hz
      refine (Try.slices_Clone_int_zero ad c0 w).mono ?_
      rintro e w' ⟨v', rfl, h1, h2, h3⟩
      exact ⟨v', rfl, Kd.R_of_own (by simpa [encs] using h1) (fun _ _ => trivial), h3⟩
    · have hpos : 0 < l0.length := by
        rcases Nat.eq_zero_or_pos l0.length with h | h
        · exact absurd (List.eq_nil_of_length_eq_zero h) hz
        · exact h
      obtain ⟨ad', e, hcell⟩ := hr0.2.2 hpos
      cases e
      have hc : ∀ j, j < l0.length → w.cell? (ad.add j) = some (.int .i64 (l0.getD j 0)) := by
        intro j hj
        have hq : l0[j]? = some (l0.getD j 0) := by rw [List.getD_eq_getElem?_getD, List.getElem?_eq_getElem hj]; rfl
        obtain ⟨c, hc1, hK, hcc⟩ := hcell j _ hq
        have hK' : c = [.int .i64 (l0.getD j 0)] := hK
        subst hK'
        have := hcc 0 _ rfl
        simpa [Kd.scalar, Kd.int] using this
      obtain ⟨b, off, sp⟩ := ad
      have hsp : sp = none := by
        have := hc 0 hpos
        unfold World.cell? at this
        rcases sp with _ | q
        · rfl
        · simp [Addr.add] at this
          split at this
          · simp at this
          · cases this
      subst hsp
      refine (Try.slices_Clone_int b off l0.length c0 l0 w (Nat.le_refl _) (by omega) (fun j hj => by rw [← hc j hj, Addr.add_lit])).mono ?_
      rintro e w' ⟨v', rfl, h1, h2, h3⟩
      exact ⟨v', rfl, Kd.R_of_own (by simpa [encs] using h1) (fun _ _ => trivial), h3⟩
end Go.Proofs.Ytgnhangjacdfbaa
