/- By hand: awake (where "an" stands in "banana"): the one way on which all is as it should be. -/
import Derived.Test.YtphchkkicpnehaaXx14
import Derived.Test.YtphchkkicpnehaaXx23
import Derived.Test.YtphchkkicpnehaaXM
namespace Go.Proofs.Ytphchkkicpnehaa.X
open Go.RowKit Go.Proofs.YtphchkkicpnehaaW.PrintWords Go.Proofs.YtphchkkicpnehaaW.PrintLast Go.Proofs.YtphchkkicpnehaaW.PrintMore
attribute [local go_sem] ptrOf_eql ptrOf_neq ptrOf_eqg ptrOf_neg max2_int min2_int max_two min_two
set_option linter.unusedVariables false
set_option linter.unusedSimpArgs false

def sapperlaw14_awake.f (k : Nat) : Option Bool := (suffix_New.f k [98, 97, 110, 97, 110, 97]).bind fun b => (if b.2 = 0 then ((find_Range.f k b.1 [97, 110]).bind fun t => (if t.2.2 = 0 then (if t.1 = 1 then (if t.2.1 = 3 then some true else none) else none) else none)) else none)
theorem sapperlaw14_awake.mono : ∀ k, LeO (sapperlaw14_awake.f k) (sapperlaw14_awake.f (k + 1)) := by
  intro k
  unfold sapperlaw14_awake.f
  refine LeO.bind (suffix_New.mono _ _) (fun _ => LeO.ite (LeO.bind (find_Range.mono _ _ _) (fun _ => LeO.refl _)) (LeO.none _))
set_option maxHeartbeats 8000000 in
set_option maxRecDepth 100000 in
theorem sapperlaw14_awake.calls (k : Nat) (r : Bool) (w : World) (h : sapperlaw14_awake.f k = some r) :
    Calls Try.prog 17 #[] w fun e w' => e = .returned (.bool r) ∧ Below w.heap.size w w' := by
  unfold sapperlaw14_awake.f at h
  replace h := Option.bind_eq_some_iff.mp h
  obtain ⟨⟨x, e⟩, A10, h⟩ := h
  have F1 := Aside0.mk A10
  clear A10
  dsimp only at h
  by_cases c1 : e = 0
  case neg => rw [if_neg c1] at h; cases h
  rw [if_pos c1] at h
  subst c1
  replace h := Option.bind_eq_some_iff.mp h
  obtain ⟨⟨lo, hi, f⟩, A10, h⟩ := h
  have F2 := Aside0.mk A10
  clear A10
  dsimp only at h
  by_cases c2 : f = 0
  case neg => rw [if_neg c2] at h; cases h
  rw [if_pos c2] at h
  subst c2
  by_cases c3 : lo = 1
  case neg => rw [if_neg c3] at h; cases h
  rw [if_pos c3] at h
  subst c3
  by_cases c4 : hi = 3
  case neg => rw [if_neg c4] at h; cases h
  rw [if_pos c4] at h
  subst c4
  obtain rfl := Option.some.inj h
  clear h
  have kc := fun (w : World) (C : Array Value) (n c : Nat) => Lib.run_convert_bytes_const (P := Try.prog) w 22 5 C n c Try.underlying22 Try.underlying5
  go_enter Try.func17, Try.ntmps17
  go_wp2_with (fail)
  refine (suffix_New.calls k (some ⟨w.heap.size, 0, none⟩) 6 [98, 97, 110, 97, 110, 97] x 0 _ ?s1 ?s2 F1.out).mono ?_
  case s1 => exact C_marked w [98, 97, 110, 97, 110, 97] 5 (6, 7) (by decide)
  case s2 => exact Nat.le_refl _
  rintro e w1 ⟨v, rfl, hR, hB⟩
  have hB0 : Below w.heap.size w w1 := by
    refine below_step ?_ hB
    repeat (first | (with_reducible first | apply below_alloc) | exact Below.refl _ _)
  have HB := Aside0.mk hB0
  obtain ⟨A, c, ev⟩ := Kd.S_slice hR
  subst ev
  have HC := Aside0.mk (Kd.S_reads' hR).2.2
  have HL := Aside0.mk (Kd.S_reads' hR).2.1
  clear hB hB0 hR
  go_wp2_with (fail)
  refine (find_Range.calls k A c x (some ⟨w1.heap.size, 0, none⟩) 2 [97, 110] 1 3 0 _ ?s1 ?s2 ?s3 ?s4 F2.out).mono ?_
  case s1 => exact Kd.C_below HC.out (below_alloc (Below.refl _ _) _)
  case s2 => exact HL.out
  case s3 => exact C_marked w1 [97, 110] 5 (2, 3) (by decide)
  case s4 => exact Nat.le_refl _
  rintro e w2 ⟨rfl, hB2⟩
  have hB3 : Below w.heap.size w w2 := by
    refine below_step ?_ hB2
    exact below_alloc HB.out _
  clear hB2
  go_wp2
  go_ret
  exact ⟨rfl, hB3⟩
end Go.Proofs.Ytphchkkicpnehaa.X
