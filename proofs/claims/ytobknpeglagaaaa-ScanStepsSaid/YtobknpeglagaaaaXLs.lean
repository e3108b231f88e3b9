/- By hand: lives of chapter 15 (from nothing to "abc", and from an image to itself): the one way on which all is as it should be. -/
import Derived.Test.YtobknpeglagaaaaXSt
import Derived.Test.YtobknpeglagaaaaXx15
import Derived.Test.YtobknpeglagaaaaXY
namespace Go.Proofs.Ytobknpeglagaaaa.X
open Go.RowKit Go.Proofs.YtobknpeglagaaaaW.PrintWords Go.Proofs.YtobknpeglagaaaaW.PrintLast Go.Proofs.YtobknpeglagaaaaW.PrintMore
attribute [local go_sem] ptrOf_eql ptrOf_neq ptrOf_eqg ptrOf_neg max2_int min2_int max_two min_two
set_option linter.unusedVariables false
set_option linter.unusedSimpArgs false

def isStep (l : List S39) (a b c : Int) : Bool := match l with
  | [⟨x, y, z⟩] => decide (x = a) && decide (y = b) && decide (z = c)
  | _ => false
theorem isStep_eq {l : List S39} {a b c : Int} (h : isStep l a b c = true) : l = [⟨a, b, c⟩] := by
  unfold isStep at h
  split at h
  · simp only [Bool.and_eq_true, decide_eq_true_eq] at h
    obtain ⟨⟨rfl, rfl⟩, rfl⟩ := h
    rfl
  · cases h
def sapperlaw15_lives.f (k : Nat) : Option Bool := (sapperlaw15_index.f k []).bind fun x => ((scan_Steps.f k x [97, 98, 99]).bind fun a => ((sapperlaw15_index.f k [97, 98, 99, 100, 101, 102, 103, 104, 105, 106]).bind fun y => ((scan_Steps.f k y [97, 98, 99, 100, 101, 102, 103, 104, 105, 106]).bind fun b => (if a.2 = 0 then (if b.2 = 0 then (if isStep a.1 0 3 0 = true then (if isStep b.1 10 0 0 = true then some true else none) else none) else none) else none))))
theorem sapperlaw15_lives.mono : ∀ k, LeO (sapperlaw15_lives.f k) (sapperlaw15_lives.f (k + 1)) := by
  intro k
  unfold sapperlaw15_lives.f
  refine LeO.bind (sapperlaw15_index.mono _ _) (fun _ => LeO.bind (scan_Steps.mono _ _ _) (fun _ => LeO.bind (sapperlaw15_index.mono _ _) (fun _ => LeO.bind (scan_Steps.mono _ _ _) (fun _ => LeO.refl _))))
set_option maxHeartbeats 8000000 in
set_option maxRecDepth 100000 in
theorem sapperlaw15_lives.calls (k : Nat) (r : Bool) (w : World) (h : sapperlaw15_lives.f k = some r) :
    Calls Try.prog 9 #[] w fun e w' => e = .returned (.bool r) ∧ Below w.heap.size w w' := by
  unfold sapperlaw15_lives.f at h
  replace h := Option.bind_eq_some_iff.mp h
  obtain ⟨x, A10, h⟩ := h
  have F1 := Aside0.mk A10
  clear A10
  replace h := Option.bind_eq_some_iff.mp h
  obtain ⟨⟨a, e⟩, A10, h⟩ := h
  have F2 := Aside0.mk A10
  clear A10
  replace h := Option.bind_eq_some_iff.mp h
  obtain ⟨y, A10, h⟩ := h
  have F3 := Aside0.mk A10
  clear A10
  replace h := Option.bind_eq_some_iff.mp h
  obtain ⟨⟨b, f⟩, A10, h⟩ := h
  have F4 := Aside0.mk A10
  clear A10
  dsimp only at h
  by_cases c1 : e = 0
  case neg => rw [if_neg c1] at h; cases h
  rw [if_pos c1] at h
  subst c1
  by_cases c2 : f = 0
  case neg => rw [if_neg c2] at h; cases h
  rw [if_pos c2] at h
  subst c2
  by_cases c3 : isStep a 0 3 0 = true
  case neg => rw [if_neg c3] at h; cases h
  rw [if_pos c3] at h
  obtain rfl := isStep_eq c3
  by_cases c4 : isStep b 10 0 0 = true
  case neg => rw [if_neg c4] at h; cases h
  rw [if_pos c4] at h
  obtain rfl := isStep_eq c4
  obtain rfl := Option.some.inj h
  clear h c3 c4
  have kc := fun (w : World) (C : Array Value) (n c : Nat) => Lib.run_convert_bytes_const (P := Try.prog) w 23 5 C n c Try.underlying23 Try.underlying5
  go_enter Try.func9, Try.ntmps9
  go_wp2_with (fail)
  refine (sapperlaw15_index.calls k none 0 [] x _ (Kd.C_nil _ _) (Nat.le_refl _) F1.out).mono ?_
  rintro e w1 ⟨v, rfl, hR, hB⟩
  have HB1 := Aside0.mk hB
  obtain ⟨A, c, ev⟩ := Kd.S_slice hR
  subst ev
  have HC := Aside0.mk (Kd.S_reads' hR).2.2
  have HL := Aside0.mk (Kd.S_reads' hR).2.1
  clear hB hR
  go_wp2_with (fail)
  refine (scan_Steps.calls k A c x (some ⟨w1.heap.size, 0, none⟩) 3 [97, 98, 99] [⟨0, 3, 0⟩] 0 _ ?s1 ?s2 ?s3 ?s4 F2.out).mono ?_
  case s1 => exact Kd.C_below HC.out (below_alloc (Below.refl _ _) _)
  case s2 => exact HL.out
  case s3 => exact C_marked w1 [97, 98, 99] 5 (3, 4) (by decide)
  case s4 => exact Nat.le_refl _
  rintro e w2 ⟨v2, rfl, hR2, hB⟩
  have HB2 : Aside0 (Below w.heap.size w w2) := ⟨below_step (below_alloc HB1.out _) hB⟩
  obtain ⟨A2, c2, e2⟩ := Kd.R_slice hR2
  subst e2
  have HR2 := Aside0.mk hR2
  clear hR2 hB HB1 HC HL
  go_wp2_with (fail)
  refine (sapperlaw15_index.calls k (some ⟨w2.heap.size, 0, none⟩) 10 [97, 98, 99, 100, 101, 102, 103, 104, 105, 106] y _ ?s5 (Nat.le_refl _) F3.out).mono ?_
  case s5 => exact C_marked w2 [97, 98, 99, 100, 101, 102, 103, 104, 105, 106] 5 (10, 11) (by decide)
  rintro e w3 ⟨v3, rfl, hR3, hB⟩
  have HB3 := Aside0.mk (below_step (below_alloc HB2.out _) hB)
  have HR3 := Aside0.mk (Kd.R_below HR2.out (below_step (below_alloc (Below.refl _ _) _) hB))
  obtain ⟨A3, c3, ev3⟩ := Kd.S_slice hR3
  subst ev3
  have HC3 := Aside0.mk (Kd.S_reads' hR3).2.2
  have HL3 := Aside0.mk (Kd.S_reads' hR3).2.1
  clear hB hR3 HR2 HB2
  go_wp2_with (fail)
  refine (scan_Steps.calls k A3 c3 y (some ⟨w3.heap.size, 0, none⟩) 10 [97, 98, 99, 100, 101, 102, 103, 104, 105, 106] [⟨10, 0, 0⟩] 0 _ ?s6 ?s7 ?s8 ?s9 F4.out).mono ?_
  case s6 => exact Kd.C_below HC3.out (below_alloc (Below.refl _ _) _)
  case s7 => exact HL3.out
  case s8 => exact C_marked w3 [97, 98, 99, 100, 101, 102, 103, 104, 105, 106] 5 (10, 11) (by decide)
  case s9 => exact Nat.le_refl _
  rintro e w4 ⟨v4, rfl, hR4, hB⟩
  have HB4 := Aside0.mk (below_step (below_alloc HB3.out _) hB)
  have HR5 := Aside0.mk (Kd.R_below HR3.out (below_step (below_alloc (Below.refl _ _) _) hB))
  obtain ⟨g1, cc1, E1, _⟩ := Kd.R_form HR5.out (by decide)
  injection E1 with E1 _ E3
  subst E1 E3
  obtain ⟨g2, cc2, E2, _⟩ := Kd.R_form hR4 (by decide)
  subst E2
  obtain ⟨ad1, e1, x1, x2, x3⟩ := at_T39 (Kd.R_reads' HR5.out).2.2 0 (by omega) (by simp)
  obtain rfl := (Option.some.inj e1)
  obtain ⟨ad2, e2, y1, y2, y3⟩ := at_T39 (Kd.R_reads' hR4).2.2 0 (by omega) (by simp)
  obtain rfl := (Option.some.inj e2)
  have x1' : w4.cell? ⟨g1, 0, none⟩ = some (.int .i64 0) := x1
  have x2' : w4.cell? ⟨g1, 1, none⟩ = some (.int .i64 3) := x2
  have x3' : w4.cell? ⟨g1, 2, none⟩ = some (.int .i64 0) := x3
  have y1' : w4.cell? ⟨g2, 0, none⟩ = some (.int .i64 10) := y1
  have y2' : w4.cell? ⟨g2, 1, none⟩ = some (.int .i64 0) := y2
  have y3' : w4.cell? ⟨g2, 2, none⟩ = some (.int .i64 0) := y3
  clear x1 x2 x3 y1 y2 y3 e1 e2 hR4 HR5 HR3 hB HB3
  go_wp2
  go_ret
  exact ⟨rfl, HB4.out⟩
end Go.Proofs.Ytobknpeglagaaaa.X
