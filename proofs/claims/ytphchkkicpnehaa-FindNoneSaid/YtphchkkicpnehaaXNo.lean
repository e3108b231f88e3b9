/- By hand: what the functions of find answer for an index that no call made; FindNone's walk. -/
import Derived.Test.YtphchkkicpnehaaXI
namespace Go.Proofs.Ytphchkkicpnehaa.X
open Go.RowKit Go.Proofs.YtphchkkicpnehaaW.PrintWords Go.Proofs.YtphchkkicpnehaaW.PrintLast Go.Proofs.YtphchkkicpnehaaW.PrintMore
set_option linter.unusedVariables false
set_option linter.unusedSimpArgs false

/-- A pointer to an index that no call made. -/
def UM (w : World) (v : Value) : Prop := v = .pointer none ∨ ∃ ad : Addr, v = .pointer (some ad) ∧ w.cell? ad = some (.bool false)
theorem cell_in {w : World} {a : Addr} {v : Value} (h : w.cell? a = some v) : a.block < w.heap.size := by
  rcases Nat.lt_or_ge a.block w.heap.size with c | c
  · exact c
  · have : w.heap[a.block]? = none := Array.getElem?_eq_none c
    simp [World.cell?, this] at h
theorem UM.below {w w' : World} {v : Value} (h : UM w v) {B : Nat} (hB : Below B w w') (hs : w.heap.size ≤ B) : UM w' v := by
  rcases h with h | ⟨ad, h, hc⟩
  · exact Or.inl h
  · refine Or.inr ⟨ad, h, ?_⟩
    rw [hB.cell (Nat.lt_of_lt_of_le (cell_in hc) hs)]; exact hc
theorem is_um {w : World} {v : Value} (h : UM w v) : Calls Try.prog 45 #[v] w fun e w' => e = .returned (.bool false) ∧ Below w.heap.size w w' := by
  rcases h with rfl | ⟨ad, rfl, hc⟩
  · go_enter Try.func45, Try.ntmps45
    go_wp2
    go_ret
    exact ⟨rfl, Below.refl _ _⟩
  · go_enter Try.func45, Try.ntmps45
    go_wp2
    go_ret
    exact ⟨rfl, Below.refl _ _⟩
theorem place_um {w : World} {v l : Value} (h : UM w v) : Calls Try.prog 59 #[v, l] w fun e w' => e = .returned (.int .i64 2) ∧ Below w.heap.size w w' := by
  go_enter Try.func59, Try.ntmps59
  go_wp2_with (fail)
  refine (is_um h).mono ?_
  rintro e w1 ⟨rfl, hB⟩
  go_wp2
  go_ret
  exact ⟨rfl, hB⟩
theorem At_um {w : World} {v : Value} (h : UM w v) (i : Int) : Calls Try.prog 49 #[v, .int .i64 i] w fun e w' => e = .returned (.tuple #[.int .i64 0, .int .i64 2]) ∧ Below w.heap.size w w' := by
  go_enter Try.func49, Try.ntmps49
  go_wp2_with (fail)
  refine (place_um (h.below (below_alloc (Below.refl _ _) _) (Nat.le_refl _))).mono ?_
  rintro e w1 ⟨rfl, hB⟩
  go_wp2
  go_ret2
  exact ⟨rfl, below_step (below_alloc (Below.refl _ _) _) hB⟩
theorem made_um {w : World} {v : Value} (h : UM w v) : Calls Try.prog 40 #[v] w fun e w' => e = .returned (.bool false) ∧ Below w.heap.size w w' := by
  go_enter Try.func40, Try.ntmps40
  go_wp2_with (fail)
  refine (At_um h _).mono ?_
  rintro e w1 ⟨rfl, hB⟩
  go_wp2
  go_ret
  exact ⟨rfl, hB⟩
theorem Range_um {w : World} {v l : Value} (h : UM w v) : Calls Try.prog 19 #[v, l] w fun e w' => e = .returned (.tuple #[.int .i64 0, .int .i64 0, .int .i64 2]) ∧ Below w.heap.size w w' := by
  go_enter Try.func19, Try.ntmps19
  go_wp2_with (fail)
  refine (made_um h).mono ?_
  rintro e w1 ⟨rfl, hB⟩
  go_wp2
  go_ret3
  exact ⟨rfl, hB⟩
theorem Count_um {w : World} {v l : Value} (h : UM w v) : Calls Try.prog 34 #[v, l] w fun e w' => e = .returned (.tuple #[.int .i64 0, .int .i64 2]) ∧ Below w.heap.size w w' := by
  go_enter Try.func34, Try.ntmps34
  go_wp2_with (fail)
  refine (Range_um h).mono ?_
  rintro e w1 ⟨rfl, hB⟩
  go_wp2
  go_ret2
  exact ⟨rfl, hB⟩
theorem All_um {w : World} {v l : Value} (h : UM w v) : Calls Try.prog 35 #[v, l] w fun e w' => e = .returned (.tuple #[.slice none 0 0, .int .i64 2]) ∧ Below w.heap.size w w' := by
  go_enter Try.func35, Try.ntmps35
  go_wp2_with (fail)
  refine (Range_um h).mono ?_
  rintro e w1 ⟨rfl, hB⟩
  go_wp2
  go_ret2
  exact ⟨rfl, hB⟩
theorem Longest_um {w : World} {v l : Value} (h : UM w v) : Calls Try.prog 30 #[v, l] w fun e w' => e = .returned (.tuple #[.int .i64 0, .int .i64 0, .int .i64 2]) ∧ Below w.heap.size w w' := by
  go_enter Try.func30, Try.ntmps30
  go_wp2_with (fail)
  refine (made_um h).mono ?_
  rintro e w1 ⟨rfl, hB⟩
  go_wp2
  go_ret3
  exact ⟨rfl, hB⟩
theorem Statistics_um {w : World} {v l : Value} (h : UM w v) : Calls Try.prog 24 #[v, l] w fun e w' => e = .returned (.tuple #[.slice none 0 0, .int .i64 2]) ∧ Below w.heap.size w w' := by
  go_enter Try.func24, Try.ntmps24
  go_wp2_with (fail)
  refine (made_um h).mono ?_
  rintro e w1 ⟨rfl, hB⟩
  go_wp2
  go_ret2
  exact ⟨rfl, hB⟩
theorem Distinct_um {w : World} {v : Value} (h : UM w v) : Calls Try.prog 27 #[v] w fun e w' => e = .returned (.tuple #[.int .i64 0, .int .i64 2]) ∧ Below w.heap.size w w' := by
  go_enter Try.func27, Try.ntmps27
  go_wp2_with (fail)
  refine (made_um h).mono ?_
  rintro e w1 ⟨rfl, hB⟩
  go_wp2
  go_ret2
  exact ⟨rfl, hB⟩
theorem Factors_um {w : World} {v l : Value} (h : UM w v) : Calls Try.prog 32 #[v, l] w fun e w' => e = .returned (.tuple #[.slice none 0 0, .int .i64 2]) ∧ Below w.heap.size w w' := by
  go_enter Try.func32, Try.ntmps32
  go_wp2_with (fail)
  refine (made_um h).mono ?_
  rintro e w1 ⟨rfl, hB⟩
  go_wp2
  go_ret2
  exact ⟨rfl, hB⟩
theorem Matches_um {w : World} {v l : Value} (h : UM w v) : Calls Try.prog 37 #[v, l, (.int .i64 1), (.int .i64 1)] w fun e w' => e = .returned (.tuple #[.slice none 0 0, .int .i64 2]) ∧ Below w.heap.size w w' := by
  go_enter Try.func37, Try.ntmps37
  go_wp2_with (fail)
  refine (made_um h).mono ?_
  rintro e w1 ⟨rfl, hB⟩
  go_wp2
  go_ret2
  exact ⟨rfl, hB⟩
set_option maxHeartbeats 8000000 in
set_option maxRecDepth 100000 in
theorem none_walk {w : World} {l : Value} (aw : ∀ w : World, Calls Try.prog 17 #[] w fun e w' => e = .returned (.bool true) ∧ Below w.heap.size w w') : Calls Try.prog 15 #[l] w fun e w' => e = .returned (.bool true) ∧ Below w.heap.size w w' := by
  obtain ⟨W0, hW0⟩ : ∃ W, W = (w.alloc (Obj.cells #[.bool false, .slice none 0 0, .slice none 0 0, .slice none 0 0, .slice none 0 0] 61)).alloc (Obj.cells #[.pointer none, .pointer (some { block := w.heap.size, off := 0 })] 23) := ⟨_, rfl⟩
  have hs : W0.heap.size = w.heap.size + 2 := by rw [hW0]; simp
  have h0 : W0.cell? ⟨w.heap.size, 0, none⟩ = some (.bool false) := by rw [hW0]; simp
  have h1 : W0.cell? ⟨w.heap.size + 1, 1, none⟩ = some (.pointer (some ⟨w.heap.size, 0, none⟩)) := by rw [hW0]; simp
  have HB := Aside0.mk (show Below w.heap.size w W0 by rw [hW0]; exact below_alloc (below_alloc (Below.refl _ _) _) _)
  have HC := Aside0.mk (Below.refl W0.heap.size W0)
  have H0 := Aside0.mk h0
  have H1 := Aside0.mk h1
  have HS := Aside0.mk hs
  have U : Aside0 (∀ W', Below W0.heap.size W0 W' → UM W' (.pointer (some ⟨w.heap.size, 0, none⟩))) := ⟨fun W' hb => Or.inr ⟨⟨w.heap.size, 0, none⟩, rfl, by rw [hb.cell (show w.heap.size < W0.heap.size by omega)]; exact h0⟩⟩
  clear h0 h1 hs
  go_enter Try.func15, Try.ntmps15
  go_wp2_with (fail)
  refine wp_loop_rounds 3 ?_
  rw [rounds_succ]
  go_wp2_with (fail)
  rw [← hW0]
  clear hW0
  refine (Range_um (Or.inl rfl)).mono ?_
  rintro e w1 ⟨rfl, hB⟩
  have n0_ := Aside0.mk (below_step (by repeat (first | exact HB.out | apply below_alloc)) hB)
  have n1_ := Aside0.mk (below_step (by repeat (first | exact HC.out | apply below_alloc)) hB)
  clear HB HC hB
  have HB := n0_
  have HC := n1_
  clear n0_ n1_
  go_wp2_with (fail)
  refine (Count_um (Or.inl rfl)).mono ?_
  rintro e w2 ⟨rfl, hB⟩
  have n0_ := Aside0.mk (below_step (by repeat (first | exact HB.out | apply below_alloc)) hB)
  have n1_ := Aside0.mk (below_step (by repeat (first | exact HC.out | apply below_alloc)) hB)
  clear HB HC hB
  have HB := n0_
  have HC := n1_
  clear n0_ n1_
  go_wp2_with (fail)
  refine (All_um (Or.inl rfl)).mono ?_
  rintro e w3 ⟨rfl, hB⟩
  have n0_ := Aside0.mk (below_step (by repeat (first | exact HB.out | apply below_alloc)) hB)
  have n1_ := Aside0.mk (below_step (by repeat (first | exact HC.out | apply below_alloc)) hB)
  clear HB HC hB
  have HB := n0_
  have HC := n1_
  clear n0_ n1_
  go_wp2_with (fail)
  refine (Longest_um (Or.inl rfl)).mono ?_
  rintro e w4 ⟨rfl, hB⟩
  have n0_ := Aside0.mk (below_step (by repeat (first | exact HB.out | apply below_alloc)) hB)
  have n1_ := Aside0.mk (below_step (by repeat (first | exact HC.out | apply below_alloc)) hB)
  clear HB HC hB
  have HB := n0_
  have HC := n1_
  clear n0_ n1_
  go_wp2_with (fail)
  refine (Statistics_um (Or.inl rfl)).mono ?_
  rintro e w5 ⟨rfl, hB⟩
  have n0_ := Aside0.mk (below_step (by repeat (first | exact HB.out | apply below_alloc)) hB)
  have n1_ := Aside0.mk (below_step (by repeat (first | exact HC.out | apply below_alloc)) hB)
  clear HB HC hB
  have HB := n0_
  have HC := n1_
  clear n0_ n1_
  go_wp2_with (fail)
  refine (Distinct_um (Or.inl rfl)).mono ?_
  rintro e w6 ⟨rfl, hB⟩
  have n0_ := Aside0.mk (below_step (by repeat (first | exact HB.out | apply below_alloc)) hB)
  have n1_ := Aside0.mk (below_step (by repeat (first | exact HC.out | apply below_alloc)) hB)
  clear HB HC hB
  have HB := n0_
  have HC := n1_
  clear n0_ n1_
  go_wp2_with (fail)
  refine (Matches_um (Or.inl rfl)).mono ?_
  rintro e w7 ⟨rfl, hB⟩
  have n0_ := Aside0.mk (below_step (by repeat (first | exact HB.out | apply below_alloc)) hB)
  have n1_ := Aside0.mk (below_step (by repeat (first | exact HC.out | apply below_alloc)) hB)
  clear HB HC hB
  have HB := n0_
  have HC := n1_
  clear n0_ n1_
  go_wp2_with (fail)
  refine (Factors_um (Or.inl rfl)).mono ?_
  rintro e w8 ⟨rfl, hB⟩
  have n0_ := Aside0.mk (below_step (by repeat (first | exact HB.out | apply below_alloc)) hB)
  have n1_ := Aside0.mk (below_step (by repeat (first | exact HC.out | apply below_alloc)) hB)
  clear HB HC hB
  have HB := n0_
  have HC := n1_
  clear n0_ n1_
  go_wp2_with (fail)
  refine wp_loop_rounds 7 ?_
  rw [rounds_succ]
  go_wp2_with (fail)
  rw [rounds_succ]
  go_wp2_with (fail)
  rw [rounds_succ]
  go_wp2_with (fail)
  rw [rounds_succ]
  go_wp2_with (fail)
  rw [rounds_succ]
  go_wp2_with (fail)
  rw [rounds_succ]
  go_wp2_with (fail)
  rw [rounds_succ]
  go_wp2_with (fail)
  rw [rounds_succ]
  generalize hq_ : World.alloc w8 _ = W8
  have n0_ := Aside0.mk (show Below w.heap.size w W8 by rw [← hq_]; exact below_alloc HB.out _)
  have n1_ := Aside0.mk (show Below W0.heap.size W0 W8 by rw [← hq_]; exact below_alloc HC.out _)
  clear HB HC hq_
  have HB := n0_
  have HC := n1_
  clear n0_ n1_
  have h1 : W8.cell? ⟨w.heap.size + 1, 1, none⟩ = some (.pointer (some ⟨w.heap.size, 0, none⟩)) := by rw [HC.out.cell (by have := HS.out; show w.heap.size + 1 < _; omega)]; exact H1.out
  go_wp2_with (fail)
  clear h1
  refine (Range_um (U.out _ (by repeat (first | exact HC.out | apply below_alloc)))).mono ?_
  rintro e w9 ⟨rfl, hB⟩
  have n0_ := Aside0.mk (below_step (by repeat (first | exact HB.out | apply below_alloc)) hB)
  have n1_ := Aside0.mk (below_step (by repeat (first | exact HC.out | apply below_alloc)) hB)
  clear HB HC hB
  have HB := n0_
  have HC := n1_
  clear n0_ n1_
  go_wp2_with (fail)
  refine (Count_um (U.out _ (by repeat (first | exact HC.out | apply below_alloc)))).mono ?_
  rintro e w10 ⟨rfl, hB⟩
  have n0_ := Aside0.mk (below_step (by repeat (first | exact HB.out | apply below_alloc)) hB)
  have n1_ := Aside0.mk (below_step (by repeat (first | exact HC.out | apply below_alloc)) hB)
  clear HB HC hB
  have HB := n0_
  have HC := n1_
  clear n0_ n1_
  go_wp2_with (fail)
  refine (All_um (U.out _ (by repeat (first | exact HC.out | apply below_alloc)))).mono ?_
  rintro e w11 ⟨rfl, hB⟩
  have n0_ := Aside0.mk (below_step (by repeat (first | exact HB.out | apply below_alloc)) hB)
  have n1_ := Aside0.mk (below_step (by repeat (first | exact HC.out | apply below_alloc)) hB)
  clear HB HC hB
  have HB := n0_
  have HC := n1_
  clear n0_ n1_
  go_wp2_with (fail)
  refine (Longest_um (U.out _ (by repeat (first | exact HC.out | apply below_alloc)))).mono ?_
  rintro e w12 ⟨rfl, hB⟩
  have n0_ := Aside0.mk (below_step (by repeat (first | exact HB.out | apply below_alloc)) hB)
  have n1_ := Aside0.mk (below_step (by repeat (first | exact HC.out | apply below_alloc)) hB)
  clear HB HC hB
  have HB := n0_
  have HC := n1_
  clear n0_ n1_
  go_wp2_with (fail)
  refine (Statistics_um (U.out _ (by repeat (first | exact HC.out | apply below_alloc)))).mono ?_
  rintro e w13 ⟨rfl, hB⟩
  have n0_ := Aside0.mk (below_step (by repeat (first | exact HB.out | apply below_alloc)) hB)
  have n1_ := Aside0.mk (below_step (by repeat (first | exact HC.out | apply below_alloc)) hB)
  clear HB HC hB
  have HB := n0_
  have HC := n1_
  clear n0_ n1_
  go_wp2_with (fail)
  refine (Distinct_um (U.out _ (by repeat (first | exact HC.out | apply below_alloc)))).mono ?_
  rintro e w14 ⟨rfl, hB⟩
  have n0_ := Aside0.mk (below_step (by repeat (first | exact HB.out | apply below_alloc)) hB)
  have n1_ := Aside0.mk (below_step (by repeat (first | exact HC.out | apply below_alloc)) hB)
  clear HB HC hB
  have HB := n0_
  have HC := n1_
  clear n0_ n1_
  go_wp2_with (fail)
  refine (Matches_um (U.out _ (by repeat (first | exact HC.out | apply below_alloc)))).mono ?_
  rintro e w15 ⟨rfl, hB⟩
  have n0_ := Aside0.mk (below_step (by repeat (first | exact HB.out | apply below_alloc)) hB)
  have n1_ := Aside0.mk (below_step (by repeat (first | exact HC.out | apply below_alloc)) hB)
  clear HB HC hB
  have HB := n0_
  have HC := n1_
  clear n0_ n1_
  go_wp2_with (fail)
  refine (Factors_um (U.out _ (by repeat (first | exact HC.out | apply below_alloc)))).mono ?_
  rintro e w16 ⟨rfl, hB⟩
  have n0_ := Aside0.mk (below_step (by repeat (first | exact HB.out | apply below_alloc)) hB)
  have n1_ := Aside0.mk (below_step (by repeat (first | exact HC.out | apply below_alloc)) hB)
  clear HB HC hB
  have HB := n0_
  have HC := n1_
  clear n0_ n1_
  go_wp2_with (fail)
  refine wp_loop_rounds 7 ?_
  rw [rounds_succ]
  go_wp2_with (fail)
  rw [rounds_succ]
  go_wp2_with (fail)
  rw [rounds_succ]
  go_wp2_with (fail)
  rw [rounds_succ]
  go_wp2_with (fail)
  rw [rounds_succ]
  go_wp2_with (fail)
  rw [rounds_succ]
  go_wp2_with (fail)
  rw [rounds_succ]
  go_wp2_with (fail)
  rw [rounds_succ]
  go_wp2_with (fail)
  refine (aw _).mono ?_
  rintro e wz ⟨rfl, hB⟩
  have n0_ := Aside0.mk (below_step (by repeat (first | exact HB.out | apply below_alloc)) hB)
  clear HB HC hB
  have HB := n0_
  go_wp2
  go_ret
  exact ⟨rfl, HB.out⟩
end Go.Proofs.Ytphchkkicpnehaa.X
