/- By hand: what the functions of purse answer for a purse that no call made; PurseMade's walk. -/
import Derived.Test.YtbdlkpmaalhnnaaXPl
import Derived.Test.YtbdlkpmaalhnnaaZMoreInvWordsWGuard0
import Derived.WalkSpells
import Derived.Laws.Pointers
import Derived.Laws.Strings
import Derived.KernelRfl
import Derived.RowKit3
import Derived.WalkKit
import Derived.Maps.OwnSet
import Derived.Maps.RangeWalk
import Derived.Conc.MuLone
namespace Go.Proofs.Ytbdlkpmaalhnnaa.X
open Go.RowKit Go.Proofs.YtbdlkpmaalhnnaaW.PrintWords Go.Proofs.YtbdlkpmaalhnnaaW.PrintLast Go.Proofs.YtbdlkpmaalhnnaaW.PrintMore
set_option linter.unusedVariables false
set_option linter.unusedSimpArgs false

/-- A pointer to a purse that no call made. -/
def UM (w : World) (v : Value) : Prop := v = .pointer none ∨ ∃ b : Nat, v = .pointer (some ⟨b, 0, none⟩) ∧ w.cell? ⟨b, 2, none⟩ = some (.map none)
theorem cell_in {w : World} {a : Addr} {v : Value} (h : w.cell? a = some v) : a.block < w.heap.size := by
  rcases Nat.lt_or_ge a.block w.heap.size with c | c
  · exact c
  · have : w.heap[a.block]? = none := Array.getElem?_eq_none c
    simp [World.cell?, this] at h
theorem UM.below {w w' : World} {v : Value} (h : UM w v) {B : Nat} (hB : Below B w w') (hs : w.heap.size ≤ B) : UM w' v := by
  rcases h with h | ⟨b, h, hc⟩
  · exact Or.inl h
  · refine Or.inr ⟨b, h, ?_⟩
    rw [hB.cell (Nat.lt_of_lt_of_le (cell_in hc) hs)]; exact hc
theorem is_um {w : World} {v : Value} (h : UM w v) : Calls Try.prog 38 #[v] w fun e w' => e = .returned (.bool false) ∧ Below w.heap.size w w' := by
  have qn : ∀ (w : World) (r : Option Nat), (binOp .neq 55 (.map r) (.map none)).run Try.prog w = .ok (.bool (!r.isNone)) w := fun w r => run_neq_map_nil w _ _ _ r Try.underlying55
  rcases h with rfl | ⟨b, rfl, hc⟩
  · go_enter Try.func38, Try.ntmps38
    go_wp2
    go_ret
    exact ⟨rfl, Below.refl _ _⟩
  · go_enter Try.func38, Try.ntmps38
    go_wp2
    go_ret
    exact ⟨rfl, Below.refl _ _⟩
theorem Open_um {w : World} {v : Value} (h : UM w v) (s : ByteArray) (n : Int) : Calls Try.prog 20 #[v, .string s, .int .i64 n] w fun e w' => e = .returned (.int .i64 2) ∧ Below w.heap.size w w' := by
  go_enter Try.func20, Try.ntmps20
  go_wp2_with (fail)
  refine (is_um h).mono ?_
  rintro e w1 ⟨rfl, hB⟩
  go_wp2
  go_ret
  exact ⟨rfl, hB⟩
theorem Hold_um {w : World} {v : Value} (h : UM w v) (s : ByteArray) (n : Int) : Calls Try.prog 21 #[v, .string s, .int .i64 n] w fun e w' => e = .returned (.int .i64 2) ∧ Below w.heap.size w w' := by
  go_enter Try.func21, Try.ntmps21
  go_wp2_with (fail)
  refine (is_um h).mono ?_
  rintro e w1 ⟨rfl, hB⟩
  go_wp2
  go_ret
  exact ⟨rfl, hB⟩
theorem ask_um {w : World} {v : Value} (h : UM w v) (f : Value) : Calls Try.prog 36 #[v, f] w fun e w' => e = .returned (.int .i64 0) ∧ Below w.heap.size w w' := by
  go_enter Try.func36, Try.ntmps36
  go_wp2_with (fail)
  refine (is_um h).mono ?_
  rintro e w1 ⟨rfl, hB⟩
  go_wp2
  go_ret
  exact ⟨rfl, hB⟩
theorem Held_um {w : World} {v : Value} (h : UM w v) : Calls Try.prog 18 #[v] w fun e w' => e = .returned (.int .i64 0) ∧ Below w.heap.size w w' := by
  go_enter Try.func18, Try.ntmps18
  go_wp2_with (fail)
  refine (ask_um h _).mono ?_
  rintro e w1 ⟨rfl, hB⟩
  go_wp2
  go_ret
  exact ⟨rfl, hB⟩
theorem Peak_um {w : World} {v : Value} (h : UM w v) : Calls Try.prog 22 #[v] w fun e w' => e = .returned (.int .i64 0) ∧ Below w.heap.size w w' := by
  go_enter Try.func22, Try.ntmps22
  go_wp2_with (fail)
  refine (is_um h).mono ?_
  rintro e w1 ⟨rfl, hB⟩
  go_wp2
  go_ret
  exact ⟨rfl, hB⟩
theorem Most_um {w : World} {v : Value} (h : UM w v) : Calls Try.prog 23 #[v] w fun e w' => e = .returned (.int .i64 0) ∧ Below w.heap.size w w' := by
  go_enter Try.func23, Try.ntmps23
  go_wp2_with (fail)
  refine (ask_um h _).mono ?_
  rintro e w1 ⟨rfl, hB⟩
  go_wp2
  go_ret
  exact ⟨rfl, hB⟩
theorem Names_um {w : World} {v : Value} (h : UM w v) : Calls Try.prog 24 #[v] w fun e w' => e = .returned (.slice none 0 0) ∧ Below w.heap.size w w' := by
  go_enter Try.func24, Try.ntmps24
  go_wp2_with (fail)
  refine (is_um h).mono ?_
  rintro e w1 ⟨rfl, hB⟩
  go_wp2
  go_ret
  exact ⟨rfl, hB⟩
set_option maxHeartbeats 8000000 in
set_option maxRecDepth 100000 in
theorem made_walk {w : World} {hb_ : Bool} {s : ByteArray} {i : Int} (aw : ∀ w : World, Calls Try.prog 9 #[] w fun e w' => e = .returned (.bool true) ∧ Below w.heap.size w w') : Calls Try.prog 8 #[.agg #[.bool hb_, .string s, .int .i64 i]] w fun e w' => e = .returned (.bool true) ∧ Below w.heap.size w w' := by
  obtain ⟨W0, hW0⟩ : ∃ W, W = ((w.alloc (Obj.cells #[.bool hb_, .string s, .int .i64 i] 40)).alloc (Obj.cells #[.int .i32 0, .int .u32 0, .map none, .int .i64 0] 57)).alloc (Obj.cells #[.pointer none, .pointer (some { block := w.heap.size + 1, off := 0 })] 34) := ⟨_, rfl⟩
  have hs : W0.heap.size = w.heap.size + 3 := by rw [hW0]; simp [go_sem]
  have h0 : W0.cell? ⟨w.heap.size + 1, 2, none⟩ = some (.map none) := by rw [hW0]; simp [go_sem]
  have h1 : W0.cell? ⟨w.heap.size + 2, 1, none⟩ = some (.pointer (some ⟨w.heap.size + 1, 0, none⟩)) := by rw [hW0]; simp [go_sem]
  have h2 : W0.cell? ⟨w.heap.size, 1, none⟩ = some (.string s) := by rw [hW0]; simp [go_sem]
  have h3 : W0.cell? ⟨w.heap.size, 2, none⟩ = some (.int .i64 i) := by rw [hW0]; simp [go_sem]
  have HB := Aside0.mk (show Below w.heap.size w W0 by rw [hW0]; exact below_alloc (below_alloc (below_alloc (Below.refl _ _) _) _) _)
  have HC := Aside0.mk (Below.refl W0.heap.size W0)
  have H0 := Aside0.mk h0
  have H1 := Aside0.mk h1
  have H2 := Aside0.mk h2
  have H3 := Aside0.mk h3
  have HS := Aside0.mk hs
  have U : Aside0 (∀ W', Below W0.heap.size W0 W' → UM W' (.pointer (some ⟨w.heap.size + 1, 0, none⟩))) := ⟨fun W' hb => Or.inr ⟨w.heap.size + 1, rfl, by rw [hb.cell (show w.heap.size + 1 < W0.heap.size by omega)]; exact h0⟩⟩
  clear h0 h1 h2 h3 hs
  go_enter Try.func8, Try.ntmps8
  go_wp2_with (fail)
  refine wp_loop_rounds 3 ?_
  rw [rounds_succ]
  go_wp2_with (fail)
  rw [← hW0]
  clear hW0
  refine (Open_um (Or.inl rfl) _ _).mono ?_
  rintro e w1 ⟨rfl, hB⟩
  have n0_ := Aside0.mk (below_step (by repeat (first | exact HB.out | apply below_alloc)) hB)
  have n1_ := Aside0.mk (below_step (by repeat (first | exact HC.out | apply below_alloc)) hB)
  clear HB HC hB
  have HB := n0_
  have HC := n1_
  clear n0_ n1_
  have k2 : w1.cell? ⟨w.heap.size, 1, none⟩ = some (.string s) := by rw [HC.out.cell (by have := HS.out; show w.heap.size < _; omega)]; exact H2.out
  have k3 : w1.cell? ⟨w.heap.size, 2, none⟩ = some (.int .i64 i) := by rw [HC.out.cell (by have := HS.out; show w.heap.size < _; omega)]; exact H3.out
  go_wp2_with (fail)
  clear k2 k3
  refine (Hold_um (Or.inl rfl) _ _).mono ?_
  rintro e w2 ⟨rfl, hB⟩
  have n0_ := Aside0.mk (below_step (by repeat (first | exact HB.out | apply below_alloc)) hB)
  have n1_ := Aside0.mk (below_step (by repeat (first | exact HC.out | apply below_alloc)) hB)
  clear HB HC hB
  have HB := n0_
  have HC := n1_
  clear n0_ n1_
  go_wp2_with (fail)
  refine (Held_um (Or.inl rfl) ).mono ?_
  rintro e w3 ⟨rfl, hB⟩
  have n0_ := Aside0.mk (below_step (by repeat (first | exact HB.out | apply below_alloc)) hB)
  have n1_ := Aside0.mk (below_step (by repeat (first | exact HC.out | apply below_alloc)) hB)
  clear HB HC hB
  have HB := n0_
  have HC := n1_
  clear n0_ n1_
  go_wp2_with (fail)
  refine (Peak_um (Or.inl rfl) ).mono ?_
  rintro e w4 ⟨rfl, hB⟩
  have n0_ := Aside0.mk (below_step (by repeat (first | exact HB.out | apply below_alloc)) hB)
  have n1_ := Aside0.mk (below_step (by repeat (first | exact HC.out | apply below_alloc)) hB)
  clear HB HC hB
  have HB := n0_
  have HC := n1_
  clear n0_ n1_
  go_wp2_with (fail)
  refine (Most_um (Or.inl rfl) ).mono ?_
  rintro e w5 ⟨rfl, hB⟩
  have n0_ := Aside0.mk (below_step (by repeat (first | exact HB.out | apply below_alloc)) hB)
  have n1_ := Aside0.mk (below_step (by repeat (first | exact HC.out | apply below_alloc)) hB)
  clear HB HC hB
  have HB := n0_
  have HC := n1_
  clear n0_ n1_
  go_wp2_with (fail)
  refine (Names_um (Or.inl rfl) ).mono ?_
  rintro e w6 ⟨rfl, hB⟩
  have n0_ := Aside0.mk (below_step (by repeat (first | exact HB.out | apply below_alloc)) hB)
  have n1_ := Aside0.mk (below_step (by repeat (first | exact HC.out | apply below_alloc)) hB)
  clear HB HC hB
  have HB := n0_
  have HC := n1_
  clear n0_ n1_
  go_wp2_with (fail)
  rw [rounds_succ]
  have h1 : w6.cell? ⟨w.heap.size + 2, 1, none⟩ = some (.pointer (some ⟨w.heap.size + 1, 0, none⟩)) := by rw [HC.out.cell (by have := HS.out; show w.heap.size + 2 < _; omega)]; exact H1.out
  have k2 : w6.cell? ⟨w.heap.size, 1, none⟩ = some (.string s) := by rw [HC.out.cell (by have := HS.out; show w.heap.size < _; omega)]; exact H2.out
  have k3 : w6.cell? ⟨w.heap.size, 2, none⟩ = some (.int .i64 i) := by rw [HC.out.cell (by have := HS.out; show w.heap.size < _; omega)]; exact H3.out
  go_wp2_with (fail)
  clear h1 k2 k3
  refine (Open_um (U.out _ (by repeat (first | exact HC.out | apply below_alloc))) _ _).mono ?_
  rintro e w7 ⟨rfl, hB⟩
  have n0_ := Aside0.mk (below_step (by repeat (first | exact HB.out | apply below_alloc)) hB)
  have n1_ := Aside0.mk (below_step (by repeat (first | exact HC.out | apply below_alloc)) hB)
  clear HB HC hB
  have HB := n0_
  have HC := n1_
  clear n0_ n1_
  have k2 : w7.cell? ⟨w.heap.size, 1, none⟩ = some (.string s) := by rw [HC.out.cell (by have := HS.out; show w.heap.size < _; omega)]; exact H2.out
  have k3 : w7.cell? ⟨w.heap.size, 2, none⟩ = some (.int .i64 i) := by rw [HC.out.cell (by have := HS.out; show w.heap.size < _; omega)]; exact H3.out
  go_wp2_with (fail)
  clear k2 k3
  refine (Hold_um (U.out _ (by repeat (first | exact HC.out | apply below_alloc))) _ _).mono ?_
  rintro e w8 ⟨rfl, hB⟩
  have n0_ := Aside0.mk (below_step (by repeat (first | exact HB.out | apply below_alloc)) hB)
  have n1_ := Aside0.mk (below_step (by repeat (first | exact HC.out | apply below_alloc)) hB)
  clear HB HC hB
  have HB := n0_
  have HC := n1_
  clear n0_ n1_
  go_wp2_with (fail)
  refine (Held_um (U.out _ (by repeat (first | exact HC.out | apply below_alloc))) ).mono ?_
  rintro e w9 ⟨rfl, hB⟩
  have n0_ := Aside0.mk (below_step (by repeat (first | exact HB.out | apply below_alloc)) hB)
  have n1_ := Aside0.mk (below_step (by repeat (first | exact HC.out | apply below_alloc)) hB)
  clear HB HC hB
  have HB := n0_
  have HC := n1_
  clear n0_ n1_
  go_wp2_with (fail)
  refine (Peak_um (U.out _ (by repeat (first | exact HC.out | apply below_alloc))) ).mono ?_
  rintro e w10 ⟨rfl, hB⟩
  have n0_ := Aside0.mk (below_step (by repeat (first | exact HB.out | apply below_alloc)) hB)
  have n1_ := Aside0.mk (below_step (by repeat (first | exact HC.out | apply below_alloc)) hB)
  clear HB HC hB
  have HB := n0_
  have HC := n1_
  clear n0_ n1_
  go_wp2_with (fail)
  refine (Most_um (U.out _ (by repeat (first | exact HC.out | apply below_alloc))) ).mono ?_
  rintro e w11 ⟨rfl, hB⟩
  have n0_ := Aside0.mk (below_step (by repeat (first | exact HB.out | apply below_alloc)) hB)
  have n1_ := Aside0.mk (below_step (by repeat (first | exact HC.out | apply below_alloc)) hB)
  clear HB HC hB
  have HB := n0_
  have HC := n1_
  clear n0_ n1_
  go_wp2_with (fail)
  refine (Names_um (U.out _ (by repeat (first | exact HC.out | apply below_alloc))) ).mono ?_
  rintro e w12 ⟨rfl, hB⟩
  have n0_ := Aside0.mk (below_step (by repeat (first | exact HB.out | apply below_alloc)) hB)
  have n1_ := Aside0.mk (below_step (by repeat (first | exact HC.out | apply below_alloc)) hB)
  clear HB HC hB
  have HB := n0_
  have HC := n1_
  clear n0_ n1_
  go_wp2_with (fail)
  rw [rounds_succ]
  go_wp2_with (fail)
  refine (aw _).mono ?_
  rintro e wz ⟨rfl, hB⟩
  have n0_ := Aside0.mk (below_step (by repeat (first | exact HB.out | apply below_alloc)) hB)
  clear HB HC hB
  have HB := n0_
  go_wp2
  go_ret
  exact ⟨rfl, HB.out⟩
end Go.Proofs.Ytbdlkpmaalhnnaa.X
