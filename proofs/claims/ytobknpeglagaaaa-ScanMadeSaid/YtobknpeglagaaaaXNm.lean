/- By hand: what scan.Steps answers for an index that no call made; ScanMade's walk. -/
import Derived.Test.YtobknpeglagaaaaXLs
namespace Go.Proofs.Ytobknpeglagaaaa.X
open Go.RowKit Go.Proofs.YtobknpeglagaaaaW.PrintWords Go.Proofs.YtobknpeglagaaaaW.PrintLast Go.Proofs.YtobknpeglagaaaaW.PrintMore
set_option linter.unusedVariables false
set_option linter.unusedSimpArgs false

/-- A pointer to an index that no call made. -/
def UM (w : World) (v : Value) : Prop := v = .pointer none ∨ ∃ ad : Addr, v = .pointer (some ad) ∧ w.cell? ad = some (.bool false)
theorem cell_in {w : World} {a : Addr} {v : Value} (h : w.cell? a = some v) : a.block < w.heap.size := by
  rcases Nat.lt_or_ge a.block w.heap.size with c | c
  · exact c
  · have : w.heap[a.block]? = none := Array.getElem?_eq_none c
    simp [World.cell?, this] at h
theorem UM.below {w w' : World} {v : Value} (h : UM w v) {B : Nat} (hB : Below B w w') (hs : w.heap.size ≤ B) : UM w' v := by
  rcases h with h | ⟨ad, h, hc⟩
  · exact Or.inl h
  · refine Or.inr ⟨ad, h, ?_⟩
    rw [hB.cell (Nat.lt_of_lt_of_le (cell_in hc) hs)]; exact hc
theorem is_um {w : World} {v : Value} (h : UM w v) : Calls Try.prog 30 #[v] w fun e w' => e = .returned (.bool false) ∧ Below w.heap.size w w' := by
  rcases h with rfl | ⟨ad, rfl, hc⟩
  · go_enter Try.func30, Try.ntmps30
    go_wp2
    go_ret
    exact ⟨rfl, Below.refl _ _⟩
  · go_enter Try.func30, Try.ntmps30
    go_wp2
    go_ret
    exact ⟨rfl, Below.refl _ _⟩
theorem place_um {w : World} {v l : Value} (h : UM w v) : Calls Try.prog 54 #[v, l] w fun e w' => e = .returned (.int .i64 2) ∧ Below w.heap.size w w' := by
  go_enter Try.func54, Try.ntmps54
  go_wp2_with (fail)
  refine (is_um h).mono ?_
  rintro e w1 ⟨rfl, hB⟩
  go_wp2
  go_ret
  exact ⟨rfl, hB⟩
theorem At_um {w : World} {v : Value} (h : UM w v) (i : Int) : Calls Try.prog 46 #[v, .int .i64 i] w fun e w' => e = .returned (.tuple #[.int .i64 0, .int .i64 2]) ∧ Below w.heap.size w w' := by
  go_enter Try.func46, Try.ntmps46
  go_wp2_with (fail)
  refine (place_um (h.below (below_alloc (Below.refl _ _) _) (Nat.le_refl _))).mono ?_
  rintro e w1 ⟨rfl, hB⟩
  go_wp2
  go_ret2
  exact ⟨rfl, below_step (below_alloc (Below.refl _ _) _) hB⟩
theorem made_um {w : World} {v : Value} (h : UM w v) : Calls Try.prog 40 #[v] w fun e w' => e = .returned (.bool false) ∧ Below w.heap.size w w' := by
  go_enter Try.func40, Try.ntmps40
  go_wp2_with (fail)
  refine (At_um h _).mono ?_
  rintro e w1 ⟨rfl, hB⟩
  go_wp2
  go_ret
  exact ⟨rfl, hB⟩
theorem Range_um {w : World} {v l : Value} (h : UM w v) : Calls Try.prog 24 #[v, l] w fun e w' => e = .returned (.tuple #[.int .i64 0, .int .i64 0, .int .i64 2]) ∧ Below w.heap.size w w' := by
  go_enter Try.func24, Try.ntmps24
  go_wp2_with (fail)
  refine (made_um h).mono ?_
  rintro e w1 ⟨rfl, hB⟩
  go_wp2
  go_ret3
  exact ⟨rfl, hB⟩
theorem Steps_um {w : World} {v l : Value} (h : UM w v) : Calls Try.prog 12 #[v, l] w fun e w' => e = .returned (.tuple #[.slice none 0 0, .int .i64 2]) ∧ Below w.heap.size w w' := by
  go_enter Try.func12, Try.ntmps12
  go_wp2_with (fail)
  refine (Range_um h).mono ?_
  rintro e w1 ⟨rfl, hB⟩
  go_wp2
  go_ret2
  exact ⟨rfl, hB⟩
theorem ScanMade_walk {w : World} {l : Value} {k : Nat} (hk : sapperlaw15_lives.f k = some true) : Calls Try.prog 8 #[l] w fun e w' => e = .returned (.bool true) ∧ Below w.heap.size w w' := by
  have HK := Aside0.mk hk
  clear hk
  go_enter Try.func8, Try.ntmps8
  go_wp2_with (fail)
  refine (Steps_um (Or.inl rfl)).mono ?_
  rintro e w1 ⟨rfl, hB⟩
  have hz : w1.cell? ⟨w.heap.size, 0, none⟩ = some (.bool false) := by rw [hB.cell (show w.heap.size < _ by simp)]; simp
  have HB := Aside0.mk (below_step (below_alloc (Below.refl w.heap.size w) _) hB)
  have HZ := Aside0.mk hz
  clear hB hz
  go_wp2_with (fail)
  refine (Steps_um (Or.inr ⟨_, rfl, HZ.out⟩)).mono ?_
  rintro e w2 ⟨rfl, hB⟩
  have HB2 := Aside0.mk (below_step HB.out hB)
  clear hB HB HZ
  go_wp2_with (fail)
  refine (sapperlaw15_lives.calls k true _ HK.out).mono ?_
  rintro e w3 ⟨rfl, hB⟩
  have HB3 := Aside0.mk (below_step HB2.out hB)
  clear hB HB2
  go_wp2
  go_ret
  exact ⟨rfl, HB3.out⟩
end Go.Proofs.Ytobknpeglagaaaa.X
