/- By hand: what the functions of suffix answer for an index that no call made; SuffixMade's walk. -/
import Derived.Test.YthcnnfahlhklgaaXI
import Derived.Test.YthcnnfahlhklgaaXx0
namespace Go.Proofs.Ythcnnfahlhklgaa.X
open Go.RowKit Go.Proofs.YthcnnfahlhklgaaW.PrintWords Go.Proofs.YthcnnfahlhklgaaW.PrintLast Go.Proofs.YthcnnfahlhklgaaW.PrintMore
set_option linter.unusedVariables false
set_option linter.unusedSimpArgs false

/-- A pointer to an index that no call made. -/
def UM (w : World) (v : Value) : Prop := v = .pointer none ∨ ∃ ad : Addr, v = .pointer (some ad) ∧ w.cell? ad = some (.bool false)
theorem cell_in {w : World} {a : Addr} {v : Value} (h : w.cell? a = some v) : a.block < w.heap.size := by
  rcases Nat.lt_or_ge a.block w.heap.size with c | c
  · exact c
  · have : w.heap[a.block]? = none := Array.getElem?_eq_none c
    simp [World.cell?, this] at h
theorem UM.below {w w' : World} {v : Value} (h : UM w v) {B : Nat} (hB : Below B w w') (hs : w.heap.size ≤ B) : UM w' v := by
  rcases h with h | ⟨ad, h, hc⟩
  · exact Or.inl h
  · refine Or.inr ⟨ad, h, ?_⟩
    rw [hB.cell (Nat.lt_of_lt_of_le (cell_in hc) hs)]; exact hc
theorem is_um {w : World} {v : Value} (h : UM w v) : Calls Try.prog 54 #[v] w fun e w' => e = .returned (.bool false) ∧ Below w.heap.size w w' := by
  rcases h with rfl | ⟨ad, rfl, hc⟩
  · go_enter Try.func54, Try.ntmps54
    go_wp2
    go_ret
    exact ⟨rfl, Below.refl _ _⟩
  · go_enter Try.func54, Try.ntmps54
    go_wp2
    go_ret
    exact ⟨rfl, Below.refl _ _⟩
theorem place_um {w : World} {v l : Value} (h : UM w v) : Calls Try.prog 52 #[v, l] w fun e w' => e = .returned (.int .i64 2) ∧ Below w.heap.size w w' := by
  go_enter Try.func52, Try.ntmps52
  go_wp2_with (fail)
  refine (is_um h).mono ?_
  rintro e w1 ⟨rfl, hB⟩
  go_wp2
  go_ret
  exact ⟨rfl, hB⟩
theorem At_um {w : World} {v : Value} (h : UM w v) (i : Int) : Calls Try.prog 31 #[v, .int .i64 i] w fun e w' => e = .returned (.tuple #[.int .i64 0, .int .i64 2]) ∧ Below w.heap.size w w' := by
  go_enter Try.func31, Try.ntmps31
  go_wp2_with (fail)
  refine (place_um (h.below (below_alloc (Below.refl _ _) _) (Nat.le_refl _))).mono ?_
  rintro e w1 ⟨rfl, hB⟩
  go_wp2
  go_ret2
  exact ⟨rfl, below_step (below_alloc (Below.refl _ _) _) hB⟩
theorem Rank_um {w : World} {v : Value} (h : UM w v) (i : Int) : Calls Try.prog 32 #[v, .int .i64 i] w fun e w' => e = .returned (.tuple #[.int .i64 0, .int .i64 2]) ∧ Below w.heap.size w w' := by
  go_enter Try.func32, Try.ntmps32
  go_wp2_with (fail)
  refine (place_um (h.below (below_alloc (Below.refl _ _) _) (Nat.le_refl _))).mono ?_
  rintro e w1 ⟨rfl, hB⟩
  go_wp2
  go_ret2
  exact ⟨rfl, below_step (below_alloc (Below.refl _ _) _) hB⟩
theorem Common_um {w : World} {v : Value} (h : UM w v) (i k : Int) : Calls Try.prog 17 #[v, .int .i64 i, .int .i64 k] w fun e w' => e = .returned (.tuple #[.int .i64 0, .int .i64 2]) ∧ Below w.heap.size w w' := by
  go_enter Try.func17, Try.ntmps17
  go_wp2_with (fail)
  refine (place_um (h.below (below_alloc (Below.refl _ _) _) (Nat.le_refl _))).mono ?_
  rintro e w1 ⟨rfl, hB⟩
  go_wp2
  go_ret2
  exact ⟨rfl, below_step (below_alloc (Below.refl _ _) _) hB⟩
theorem Compare_um {w : World} {v : Value} (h : UM w v) (i : Int) (A : Option Addr) (n c : Nat) : Calls Try.prog 43 #[v, .int .i64 i, .slice A n c] w fun e w' => e = .returned (.tuple #[.int .i64 0, .int .i64 0, .int .i64 2]) ∧ Below w.heap.size w w' := by
  go_enter Try.func43, Try.ntmps43
  go_wp2_with (fail)
  refine (place_um (h.below (below_alloc (below_alloc (Below.refl _ _) _) _) (Nat.le_refl _))).mono ?_
  rintro e w1 ⟨rfl, hB⟩
  go_wp2
  go_ret3
  exact ⟨rfl, below_step (below_alloc (below_alloc (Below.refl _ _) _) _) hB⟩
theorem Repeat_um {w : World} {v : Value} (h : UM w v) : Calls Try.prog 41 #[v] w fun e w' => e = .returned (.tuple #[.int .i64 0, .int .i64 0]) ∧ Below w.heap.size w w' := by
  go_enter Try.func41, Try.ntmps41
  go_wp2_with (fail)
  refine (is_um h).mono ?_
  rintro e w1 ⟨rfl, hB⟩
  go_wp2
  go_ret2
  exact ⟨rfl, hB⟩
theorem Kth_um {w : World} {v : Value} (h : UM w v) (i : Int) : Calls Try.prog 19 #[v, .int .i64 i] w fun e w' => e = .returned (.tuple #[.slice none 0 0, .int .i64 2]) ∧ Below w.heap.size w w' := by
  go_enter Try.func19, Try.ntmps19
  go_wp2_with (fail)
  refine (is_um h).mono ?_
  rintro e w1 ⟨rfl, hB⟩
  go_wp2
  go_ret2
  exact ⟨rfl, hB⟩
theorem Repeats_um {w : World} {v : Value} (h : UM w v) (i : Int) : Calls Try.prog 48 #[v, .int .i64 i] w fun e w' => e = .returned (.tuple #[.slice none 0 0, .int .i64 2]) ∧ Below w.heap.size w w' := by
  go_enter Try.func48, Try.ntmps48
  go_wp2_with (fail)
  refine (is_um h).mono ?_
  rintro e w1 ⟨rfl, hB⟩
  go_wp2
  go_ret2
  exact ⟨rfl, hB⟩
theorem Len_um {w : World} {v : Value} (h : UM w v) : Calls Try.prog 30 #[v] w fun e w' => e = .returned (.int .i64 0) ∧ Below w.heap.size w w' := by
  go_enter Try.func30, Try.ntmps30
  go_wp2_with (fail)
  refine (is_um h).mono ?_
  rintro e w1 ⟨rfl, hB⟩
  go_wp2
  go_ret
  exact ⟨rfl, hB⟩
theorem Array_um {w : World} {v : Value} (h : UM w v) : Calls Try.prog 21 #[v] w fun e w' => e = .returned (.slice none 0 0) ∧ Below w.heap.size w w' := by
  go_enter Try.func21, Try.ntmps21
  go_wp2_with (fail)
  refine (is_um h).mono ?_
  rintro e w1 ⟨rfl, hB⟩
  go_wp2
  go_ret
  exact ⟨rfl, hB⟩
theorem Lcp_um {w : World} {v : Value} (h : UM w v) : Calls Try.prog 20 #[v] w fun e w' => e = .returned (.slice none 0 0) ∧ Below w.heap.size w w' := by
  go_enter Try.func20, Try.ntmps20
  go_wp2_with (fail)
  refine (is_um h).mono ?_
  rintro e w1 ⟨rfl, hB⟩
  go_wp2
  go_ret
  exact ⟨rfl, hB⟩
set_option maxRecDepth 100000 in
theorem Data_um {w : World} {v : Value} (h : UM w v) : Calls Try.prog 39 #[v] w fun e w' => (∃ (A : Option Addr) (c : Nat), e = .returned (.slice A 0 c)) ∧ Below w.heap.size w w' := by
  go_enter Try.func39, Try.ntmps39
  go_wp2_with (fail)
  refine (Len_um h).mono ?_
  rintro e w1 ⟨rfl, hB⟩
  have HB := Aside0.mk hB
  clear hB
  go_wp2_with (first | ((with_reducible refine gate_dst (N := 6) rfl ?_); refine Kd.R_make (Kd.int .u8) _ 5 rfl (N := 6) rfl 23 _ _ rfl 0 rfl rfl Try.underlying23 (.int .u8 0) 1 info5 rfl (by decide) (by omega) 0 (ok := fun _ => True) (okp := fun _ => True) rfl (fun _ hk => hk) trivial (by decide) (by decide) (Below.refl _ _) (Nat.le_refl _) ?_; intro v3 w2 ho hb hg_ hnew_; clear hg_ hnew_; have HB2 := Aside0.mk (below_step HB.out hb); have HO := Aside0.mk ho; clear HB hb ho))
  refine (is_um (h.below HB2.out (Nat.le_refl _))).mono ?_
  rintro e w3 ⟨rfl, hB⟩
  have HB3 := Aside0.mk (below_step HB2.out hB)
  clear hB HB2
  obtain ⟨A, c, ev⟩ := Kd.R_slice HO.out
  subst ev
  go_wp2
  go_ret
  exact ⟨⟨_, _, rfl⟩, HB3.out⟩
set_option maxHeartbeats 8000000 in
set_option maxRecDepth 100000 in
theorem made_walk {w : World} {i : Int} {A : Option Addr} {n c : Nat} (aw : ∀ w : World, Calls Try.prog 15 #[] w fun e w' => e = .returned (.bool true) ∧ Below w.heap.size w w') : Calls Try.prog 14 #[.int .i64 i, .slice A n c] w fun e w' => e = .returned (.bool true) ∧ Below w.heap.size w w' := by
  obtain ⟨W0, hW0⟩ : ∃ W, W = (w.alloc (Obj.cells #[.bool false, .slice none 0 0, .slice none 0 0, .slice none 0 0, .slice none 0 0] 82)).alloc (Obj.cells #[.pointer none, .pointer (some { block := w.heap.size, off := 0 })] 24) := ⟨_, rfl⟩
  have hs : W0.heap.size = w.heap.size + 2 := by rw [hW0]; simp
  have h0 : W0.cell? ⟨w.heap.size, 0, none⟩ = some (.bool false) := by rw [hW0]; simp
  have h1 : W0.cell? ⟨w.heap.size + 1, 1, none⟩ = some (.pointer (some ⟨w.heap.size, 0, none⟩)) := by rw [hW0]; simp
  have HB := Aside0.mk (show Below w.heap.size w W0 by rw [hW0]; exact below_alloc (below_alloc (Below.refl _ _) _) _)
  have HC := Aside0.mk (Below.refl W0.heap.size W0)
  have H0 := Aside0.mk h0
  have H1 := Aside0.mk h1
  have HS := Aside0.mk hs
  have U : Aside0 (∀ W', Below W0.heap.size W0 W' → UM W' (.pointer (some ⟨w.heap.size, 0, none⟩))) := ⟨fun W' hb => Or.inr ⟨⟨w.heap.size, 0, none⟩, rfl, by rw [hb.cell (show w.heap.size < W0.heap.size by omega)]; exact h0⟩⟩
  clear h0 h1 hs
  go_enter Try.func14, Try.ntmps14
  go_wp2_with (fail)
  refine wp_loop_rounds 3 ?_
  rw [rounds_succ]
  go_wp2_with (fail)
  rw [← hW0]
  clear hW0
  refine (At_um (Or.inl rfl) _).mono ?_
  rintro e w1 ⟨rfl, hB⟩
  have n0_ := Aside0.mk (below_step (by repeat (first | exact HB.out | apply below_alloc)) hB)
  have n1_ := Aside0.mk (below_step (by repeat (first | exact HC.out | apply below_alloc)) hB)
  clear HB HC hB
  have HB := n0_
  have HC := n1_
  clear n0_ n1_
  go_wp2_with (fail)
  refine (Rank_um (Or.inl rfl) _).mono ?_
  rintro e w2 ⟨rfl, hB⟩
  have n0_ := Aside0.mk (below_step (by repeat (first | exact HB.out | apply below_alloc)) hB)
  have n1_ := Aside0.mk (below_step (by repeat (first | exact HC.out | apply below_alloc)) hB)
  clear HB HC hB
  have HB := n0_
  have HC := n1_
  clear n0_ n1_
  go_wp2_with (fail)
  refine (Common_um (Or.inl rfl) _ _).mono ?_
  rintro e w3 ⟨rfl, hB⟩
  have n0_ := Aside0.mk (below_step (by repeat (first | exact HB.out | apply below_alloc)) hB)
  have n1_ := Aside0.mk (below_step (by repeat (first | exact HC.out | apply below_alloc)) hB)
  clear HB HC hB
  have HB := n0_
  have HC := n1_
  clear n0_ n1_
  go_wp2_with (fail)
  refine (Compare_um (Or.inl rfl) _ _ _ _).mono ?_
  rintro e w4 ⟨rfl, hB⟩
  have n0_ := Aside0.mk (below_step (by repeat (first | exact HB.out | apply below_alloc)) hB)
  have n1_ := Aside0.mk (below_step (by repeat (first | exact HC.out | apply below_alloc)) hB)
  clear HB HC hB
  have HB := n0_
  have HC := n1_
  clear n0_ n1_
  go_wp2_with (fail)
  refine (Repeat_um (Or.inl rfl) ).mono ?_
  rintro e w5 ⟨rfl, hB⟩
  have n0_ := Aside0.mk (below_step (by repeat (first | exact HB.out | apply below_alloc)) hB)
  have n1_ := Aside0.mk (below_step (by repeat (first | exact HC.out | apply below_alloc)) hB)
  clear HB HC hB
  have HB := n0_
  have HC := n1_
  clear n0_ n1_
  go_wp2_with (fail)
  refine (Kth_um (Or.inl rfl) _).mono ?_
  rintro e w6 ⟨rfl, hB⟩
  have n0_ := Aside0.mk (below_step (by repeat (first | exact HB.out | apply below_alloc)) hB)
  have n1_ := Aside0.mk (below_step (by repeat (first | exact HC.out | apply below_alloc)) hB)
  clear HB HC hB
  have HB := n0_
  have HC := n1_
  clear n0_ n1_
  go_wp2_with (fail)
  refine (Repeats_um (Or.inl rfl) _).mono ?_
  rintro e w7 ⟨rfl, hB⟩
  have n0_ := Aside0.mk (below_step (by repeat (first | exact HB.out | apply below_alloc)) hB)
  have n1_ := Aside0.mk (below_step (by repeat (first | exact HC.out | apply below_alloc)) hB)
  clear HB HC hB
  have HB := n0_
  have HC := n1_
  clear n0_ n1_
  go_wp2_with (fail)
  refine (Len_um (Or.inl rfl) ).mono ?_
  rintro e w8 ⟨rfl, hB⟩
  have n0_ := Aside0.mk (below_step (by repeat (first | exact HB.out | apply below_alloc)) hB)
  have n1_ := Aside0.mk (below_step (by repeat (first | exact HC.out | apply below_alloc)) hB)
  clear HB HC hB
  have HB := n0_
  have HC := n1_
  clear n0_ n1_
  go_wp2_with (fail)
  refine (Data_um (Or.inl rfl) ).mono ?_
  rintro e w9 ⟨⟨_, _, rfl⟩, hB⟩
  have n0_ := Aside0.mk (below_step (by repeat (first | exact HB.out | apply below_alloc)) hB)
  have n1_ := Aside0.mk (below_step (by repeat (first | exact HC.out | apply below_alloc)) hB)
  clear HB HC hB
  have HB := n0_
  have HC := n1_
  clear n0_ n1_
  go_wp2_with (fail)
  refine (Array_um (Or.inl rfl) ).mono ?_
  rintro e w10 ⟨rfl, hB⟩
  have n0_ := Aside0.mk (below_step (by repeat (first | exact HB.out | apply below_alloc)) hB)
  have n1_ := Aside0.mk (below_step (by repeat (first | exact HC.out | apply below_alloc)) hB)
  clear HB HC hB
  have HB := n0_
  have HC := n1_
  clear n0_ n1_
  go_wp2_with (fail)
  refine (Lcp_um (Or.inl rfl) ).mono ?_
  rintro e w11 ⟨rfl, hB⟩
  have n0_ := Aside0.mk (below_step (by repeat (first | exact HB.out | apply below_alloc)) hB)
  have n1_ := Aside0.mk (below_step (by repeat (first | exact HC.out | apply below_alloc)) hB)
  clear HB HC hB
  have HB := n0_
  have HC := n1_
  clear n0_ n1_
  go_wp2_with (fail)
  rw [rounds_succ]
  (try (generalize hq_ : World.alloc w11 _ = W8; have n0_ := Aside0.mk (show Below w.heap.size w W8 by rw [← hq_]; exact below_alloc HB.out _); have n1_ := Aside0.mk (show Below W0.heap.size W0 W8 by rw [← hq_]; exact below_alloc HC.out _); clear HB HC hq_; have HB := n0_; have HC := n1_; clear n0_ n1_))
  have h1 : w11.cell? ⟨w.heap.size + 1, 1, none⟩ = some (.pointer (some ⟨w.heap.size, 0, none⟩)) := by rw [HC.out.cell (by have := HS.out; show w.heap.size + 1 < _; omega)]; exact H1.out
  go_wp2_with (fail)
  clear h1
  refine (At_um (U.out _ (by repeat (first | exact HC.out | apply below_alloc))) _).mono ?_
  rintro e w12 ⟨rfl, hB⟩
  have n0_ := Aside0.mk (below_step (by repeat (first | exact HB.out | apply below_alloc)) hB)
  have n1_ := Aside0.mk (below_step (by repeat (first | exact HC.out | apply below_alloc)) hB)
  clear HB HC hB
  have HB := n0_
  have HC := n1_
  clear n0_ n1_
  go_wp2_with (fail)
  refine (Rank_um (U.out _ (by repeat (first | exact HC.out | apply below_alloc))) _).mono ?_
  rintro e w13 ⟨rfl, hB⟩
  have n0_ := Aside0.mk (below_step (by repeat (first | exact HB.out | apply below_alloc)) hB)
  have n1_ := Aside0.mk (below_step (by repeat (first | exact HC.out | apply below_alloc)) hB)
  clear HB HC hB
  have HB := n0_
  have HC := n1_
  clear n0_ n1_
  go_wp2_with (fail)
  refine (Common_um (U.out _ (by repeat (first | exact HC.out | apply below_alloc))) _ _).mono ?_
  rintro e w14 ⟨rfl, hB⟩
  have n0_ := Aside0.mk (below_step (by repeat (first | exact HB.out | apply below_alloc)) hB)
  have n1_ := Aside0.mk (below_step (by repeat (first | exact HC.out | apply below_alloc)) hB)
  clear HB HC hB
  have HB := n0_
  have HC := n1_
  clear n0_ n1_
  go_wp2_with (fail)
  refine (Compare_um (U.out _ (by repeat (first | exact HC.out | apply below_alloc))) _ _ _ _).mono ?_
  rintro e w15 ⟨rfl, hB⟩
  have n0_ := Aside0.mk (below_step (by repeat (first | exact HB.out | apply below_alloc)) hB)
  have n1_ := Aside0.mk (below_step (by repeat (first | exact HC.out | apply below_alloc)) hB)
  clear HB HC hB
  have HB := n0_
  have HC := n1_
  clear n0_ n1_
  go_wp2_with (fail)
  refine (Repeat_um (U.out _ (by repeat (first | exact HC.out | apply below_alloc))) ).mono ?_
  rintro e w16 ⟨rfl, hB⟩
  have n0_ := Aside0.mk (below_step (by repeat (first | exact HB.out | apply below_alloc)) hB)
  have n1_ := Aside0.mk (below_step (by repeat (first | exact HC.out | apply below_alloc)) hB)
  clear HB HC hB
  have HB := n0_
  have HC := n1_
  clear n0_ n1_
  go_wp2_with (fail)
  refine (Kth_um (U.out _ (by repeat (first | exact HC.out | apply below_alloc))) _).mono ?_
  rintro e w17 ⟨rfl, hB⟩
  have n0_ := Aside0.mk (below_step (by repeat (first | exact HB.out | apply below_alloc)) hB)
  have n1_ := Aside0.mk (below_step (by repeat (first | exact HC.out | apply below_alloc)) hB)
  clear HB HC hB
  have HB := n0_
  have HC := n1_
  clear n0_ n1_
  go_wp2_with (fail)
  refine (Repeats_um (U.out _ (by repeat (first | exact HC.out | apply below_alloc))) _).mono ?_
  rintro e w18 ⟨rfl, hB⟩
  have n0_ := Aside0.mk (below_step (by repeat (first | exact HB.out | apply below_alloc)) hB)
  have n1_ := Aside0.mk (below_step (by repeat (first | exact HC.out | apply below_alloc)) hB)
  clear HB HC hB
  have HB := n0_
  have HC := n1_
  clear n0_ n1_
  go_wp2_with (fail)
  refine (Len_um (U.out _ (by repeat (first | exact HC.out | apply below_alloc))) ).mono ?_
  rintro e w19 ⟨rfl, hB⟩
  have n0_ := Aside0.mk (below_step (by repeat (first | exact HB.out | apply below_alloc)) hB)
  have n1_ := Aside0.mk (below_step (by repeat (first | exact HC.out | apply below_alloc)) hB)
  clear HB HC hB
  have HB := n0_
  have HC := n1_
  clear n0_ n1_
  go_wp2_with (fail)
  refine (Data_um (U.out _ (by repeat (first | exact HC.out | apply below_alloc))) ).mono ?_
  rintro e w20 ⟨⟨_, _, rfl⟩, hB⟩
  have n0_ := Aside0.mk (below_step (by repeat (first | exact HB.out | apply below_alloc)) hB)
  have n1_ := Aside0.mk (below_step (by repeat (first | exact HC.out | apply below_alloc)) hB)
  clear HB HC hB
  have HB := n0_
  have HC := n1_
  clear n0_ n1_
  go_wp2_with (fail)
  refine (Array_um (U.out _ (by repeat (first | exact HC.out | apply below_alloc))) ).mono ?_
  rintro e w21 ⟨rfl, hB⟩
  have n0_ := Aside0.mk (below_step (by repeat (first | exact HB.out | apply below_alloc)) hB)
  have n1_ := Aside0.mk (below_step (by repeat (first | exact HC.out | apply below_alloc)) hB)
  clear HB HC hB
  have HB := n0_
  have HC := n1_
  clear n0_ n1_
  go_wp2_with (fail)
  refine (Lcp_um (U.out _ (by repeat (first | exact HC.out | apply below_alloc))) ).mono ?_
  rintro e w22 ⟨rfl, hB⟩
  have n0_ := Aside0.mk (below_step (by repeat (first | exact HB.out | apply below_alloc)) hB)
  have n1_ := Aside0.mk (below_step (by repeat (first | exact HC.out | apply below_alloc)) hB)
  clear HB HC hB
  have HB := n0_
  have HC := n1_
  clear n0_ n1_
  go_wp2_with (fail)
  rw [rounds_succ]
  go_wp2_with (fail)
  refine (aw _).mono ?_
  rintro e wz ⟨rfl, hB⟩
  have n0_ := Aside0.mk (below_step (by repeat (first | exact HB.out | apply below_alloc)) hB)
  clear HB HC hB
  have HB := n0_
  go_wp2
  go_ret
  exact ⟨rfl, HB.out⟩
end Go.Proofs.Ythcnnfahlhklgaa.X
