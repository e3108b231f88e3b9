/- By hand: what swell.New, parse.New and their Room tell; purse.Bound. -/
import Derived.Test.YtbdlkpmaalhnnaaXPd
import Derived.Deep.RegionHeld3
import Derived.Deep.MidRow
import Derived.Laws.EntriesVeiled
namespace Go.Proofs.Ytbdlkpmaalhnnaa.X
open Go.RowKit Go.Proofs.YtbdlkpmaalhnnaaW.PrintWords Go.Proofs.YtbdlkpmaalhnnaaW.PrintLast Go.Proofs.YtbdlkpmaalhnnaaW.PrintMore
set_option linter.unusedVariables false
set_option linter.unusedSimpArgs false

theorem info5 : (Try.prog.info? 5).map (fun i => (i.zero, i.size, i.bytes)) = some (some (.int .u8 0), 1, 1) := by kernel_rfl
theorem cell_keep {w w' : World} {a : Addr} {v : Value} (h : w.cell? a = some v) (hB : Below w.heap.size w w') : w'.cell? a = some v := by
  rw [hB.cell (cell_in h)]; exact h
theorem own_some {A : Option Addr} {n c : Nat} {p : Nat → Prop} (h : ∃ b, (Value.slice A n c).ownBlock = some b ∧ p b) : ∃ B, A = some B := by
  cases A with
  | none => obtain ⟨b, hb, _⟩ := h; cases hb
  | some B => exact ⟨B, rfl⟩
set_option maxRecDepth 100000 in
theorem ringNew_ok {w : World} {n : Int} (h1 : 1 ≤ n) (h2 : n ≤ 32768) : Calls Try.prog 25 #[.int .i64 n] w fun e w' => (∃ (g : Nat) (A : Addr) (c : Nat), e = .returned (.tuple #[.pointer (some ⟨g, 0, none⟩), .int .i64 0]) ∧ w'.cell? ⟨g, 0, none⟩ = some (.slice (some A) n.toNat c)) ∧ Below w.heap.size w w' := by
  have c1 : decide (n < 1) = false := decide_eq_false (by omega)
  have c2 : decide (32768 < n) = false := decide_eq_false (by omega)
  have H1 := Aside0.mk h1
  have H2 := Aside0.mk h2
  clear h1 h2
  go_enter Try.func25, Try.ntmps25
  go_wp2_with (first | ((with_reducible refine gate_dst (N := 11) rfl ?_); go_loud (refine Kd.R_make (Kd.int .u8) _ 5 rfl (N := 11) rfl 72 _ _ rfl n rfl rfl Try.underlying72 (.int .u8 0) 1 info5 rfl (by decide) (by omega) 0 (ok := fun _ => True) (okp := fun _ => True) rfl (fun _ hk => hk) trivial (by have := H1.out; omega) (by have := H2.out; omega) (Below.refl _ _) (Nat.le_refl _) ?_); intro v3 w2 ho hb hg_ hnew_; have HB2 := Aside0.mk hb; obtain ⟨A', c, ev⟩ := Kd.R_slice ho; rw [List.length_replicate] at ev; subst ev; obtain ⟨A, rfl⟩ := own_some hnew_; clear hg_ hb ho hnew_))
  go_ret2
  exact ⟨⟨w2.heap.size, A, c, rfl, by simp [go_sem]⟩, below_alloc HB2.out _⟩
set_option maxRecDepth 100000 in
theorem ringRoom_ok {w : World} {g : Nat} {A : Addr} {n c : Nat} (h : w.cell? ⟨g, 0, none⟩ = some (.slice (some A) n c)) : Calls Try.prog 30 #[.pointer (some ⟨g, 0, none⟩)] w fun e w' => e = .returned (.int .i64 n) ∧ w' = w := by
  have hm : Calls Try.prog 46 #[.pointer (some ⟨g, 0, none⟩)] w fun e w' => e = .returned (.bool true) ∧ w' = w := by
    have qs : ∀ (w : World) (a : Option Addr) (n c : Nat), (binOp .neq 72 (.slice a n c) (.slice none 0 0)).run Try.prog w = .ok (.bool (!a.isNone)) w := fun w a n c => run_neq_slice_nil_any w 72 5 a n c 0 0 Try.underlying72
    go_enter Try.func46, Try.ntmps46
    go_wp2
    go_ret
    exact ⟨rfl, rfl⟩
  go_enter Try.func30, Try.ntmps30
  go_wp2_with (fail)
  refine hm.mono ?_
  rintro e w' ⟨rfl, rfl⟩
  go_wp2
  go_ret
  exact ⟨rfl, rfl⟩
set_option maxHeartbeats 2000000 in
set_option maxRecDepth 100000 in
theorem decNew_ok {w : World} {n : Int} (hn : n = 288 ∨ n = 32 ∨ n = 19) : Calls Try.prog 27 #[.int .i64 n] w fun e w' => (∃ g : Nat, e = .returned (.tuple #[.pointer (some ⟨g, 0, none⟩), .int .i64 0]) ∧ w'.cell? ⟨g, 0, none⟩ = some (.int .i64 n)) ∧ Below w.heap.size w w' := by
  have c1 : decide (n < 1) = false := decide_eq_false (by omega)
  have c2 : decide (288 < n) = false := decide_eq_false (by omega)
  clear hn
  go_enter Try.func27, Try.ntmps27
  go_wp2
  go_ret2
  exact ⟨⟨w.heap.size, rfl, by simp [go_sem]⟩, below_alloc (Below.refl _ _) _⟩
theorem decRoom_ok {w : World} {g : Nat} {n : Int} (hn : n ≠ 0) (h : w.cell? ⟨g, 0, none⟩ = some (.int .i64 n)) : Calls Try.prog 29 #[.pointer (some ⟨g, 0, none⟩)] w fun e w' => e = .returned (.int .i64 (wrap64 (wrap64 (8 * n) + 256))) ∧ w' = w := by
  have c1 : (n == 0) = false := beq_eq_false_iff_ne.mpr hn
  clear hn
  go_enter Try.func29, Try.ntmps29
  go_wp2
  go_ret
  exact ⟨rfl, rfl⟩
/-- A reader's block g, all else as in w0. -/
structure RI (w0 W : World) (g : Nat) (d : Addr) : Prop where
  blk : ∃ C : Array Value, W.heap[g]? = some (.cells C 112) ∧ C.size = 31 ∧ C[0]? = some (.pointer (some d))
  os : W.os = w0.os
  tape : W.tape = w0.tape
  output : W.output = w0.output
  size : W.heap.size = w0.heap.size
  rest : ∀ i, i ≠ g → W.heap[i]? = w0.heap[i]?
theorem RI.set {w0 W : World} {g j : Nat} {d : Addr} (h : RI w0 W g d) (hj : 1 ≤ j) (v : Value) : RI w0 (W.setCell ⟨g, j, none⟩ v) g d := by
  obtain ⟨C, hb, hs, h0⟩ := h.blk
  refine ⟨⟨C.setIfInBounds j v, blk_set hb j v, by simp [hs], ?_⟩, h.os, h.tape, h.output, ?_, fun i hi => ?_⟩
  · rw [Array.getElem?_setIfInBounds, if_neg (by omega)]; exact h0
  · have e : (W.setCell ⟨g, j, none⟩ v).heap.size = W.heap.size := by simp [World.setCell]
    rw [e]; exact h.size
  · rw [Below.heap_setCell _ _ _ _ hi]; exact h.rest i hi
theorem RI.sets {w0 : World} {g : Nat} {d : Addr} : ∀ (vs : List Value) (j : Nat) {W : World}, RI w0 W g d → 1 ≤ j → RI w0 (W.setCells g j vs) g d
  | [], _, _, h, _ => h
  | v :: r, j, W, h, hj => RI.sets r (j + 1) (h.set hj v) (by omega)
theorem RI.cellAt {w0 W : World} {g : Nat} {d : Addr} (h : RI w0 W g d) {j : Nat} (hj : j < 31) : ∃ v, W.cell? ⟨g, j, none⟩ = some v := by
  obtain ⟨C, hb, hs, _⟩ := h.blk
  refine ⟨C[j]'(by omega), ?_⟩
  simp only [World.cell?, hb]
  rw [Array.getElem?_eq_getElem (by omega)]
  simp
theorem RI.frozenAt {w0 W : World} {g : Nat} {d : Addr} (h : RI w0 W g d) (j : Nat) : W.frozen? ⟨g, j, none⟩ = false := by
  obtain ⟨C, hb, _, _⟩ := h.blk
  simp [World.frozen?, hb]
theorem RI.cell0 {w0 W : World} {g : Nat} {d : Addr} (h : RI w0 W g d) : W.cell? ⟨g, 0, none⟩ = some (.pointer (some d)) := by
  obtain ⟨C, hb, _, h0⟩ := h.blk
  simp only [World.cell?, hb]
  rw [h0]
  simp
theorem RI.there {w0 W : World} {g o n : Nat} {d : Addr} (h : RI w0 W g d) (ho : o + n ≤ 31) : W.there g o n := fun j hj => ⟨by obtain ⟨v, hv⟩ := h.cellAt (j := o + j) (by omega); rw [hv]; rfl, h.frozenAt _⟩
set_option maxHeartbeats 4000000 in
set_option maxRecDepth 100000 in
theorem headReset_ok {w : World} {g : Nat} {d : Addr} (h : RI w w g d) : Calls Try.prog 45 #[.pointer (some ⟨g, 0, none⟩)] w fun e w' => e = .returned (.tuple #[]) ∧ RI w w' g d := by
  have hf : ∀ i, w.frozen? ⟨g, i, none⟩ = false := h.frozenAt
  have k0 := h.cell0
  have hm : Calls Try.prog 47 #[.pointer (some ⟨g, 0, none⟩)] w fun e w' => e = .returned (.bool true) ∧ w' = w := by
    go_enter Try.func47, Try.ntmps47
    go_wp2
    go_ret
    exact ⟨rfl, rfl⟩
  obtain ⟨v2, k2⟩ := h.cellAt (j := 2) (by omega)
  obtain ⟨v3, k3⟩ := h.cellAt (j := 3) (by omega)
  obtain ⟨v4, k4⟩ := h.cellAt (j := 4) (by omega)
  obtain ⟨v5, k5⟩ := h.cellAt (j := 5) (by omega)
  obtain ⟨v29, k29⟩ := h.cellAt (j := 29) (by omega)
  obtain ⟨v30, k30⟩ := h.cellAt (j := 30) (by omega)
  have HR := Aside0.mk h
  go_enter Try.func45, Try.ntmps45
  go_wp2_with (fail)
  refine hm.mono ?_
  rintro e w' ⟨rfl, rfl⟩
  obtain ⟨w0, hw0⟩ : ∃ w0, w0 = w' := ⟨_, rfl⟩
  go_upto_region 2 with (fail)
  have HR1 : Aside0 (RI w' ((((((w'.setCell ⟨g, 2, none⟩ (.int .i64 0)).setCell ⟨g, 3, none⟩ (.int .i64 0)).setCell ⟨g, 4, none⟩ (.int .i64 0)).setCell ⟨g, 5, none⟩ (.int .i64 0)).setCell ⟨g, 29, none⟩ (.bool false)).setCell ⟨g, 30, none⟩ (.bool false)) g d) := ⟨((((((HR.out.set (by omega) _).set (by omega) _).set (by omega) _).set (by omega) _).set (by omega) _).set (by omega) _)⟩
  clear k0 k2 k3 k4 k5 k29 k30 hf hm h
  generalize ((((((w'.setCell ⟨g, 2, none⟩ (.int .i64 0)).setCell ⟨g, 3, none⟩ (.int .i64 0)).setCell ⟨g, 4, none⟩ (.int .i64 0)).setCell ⟨g, 5, none⟩ (.int .i64 0)).setCell ⟨g, 29, none⟩ (.bool false)).setCell ⟨g, 30, none⟩ (.bool false)) = W1 at HR1 ⊢
  go_wp2_with (first
    | ((with_reducible refine gate_store (t := 106) (p := 30) rfl ?_); go_loud (refine wpList_store_mid rfl 106 _ _ rfl g 6 _ rfl rfl (HR1.out.there (by decide)) (by kernel_rfl) (by first | rfl | decide | simp [Value.oneCell'] | kernel_rfl) ?_); have HR2 := Aside0.mk (HR1.out.sets (#[.int .i64 0, .int .i64 0, .int .i64 0, .int .i64 0, .int .i64 0, .int .i64 0, .int .i64 0, .int .i64 0, .int .i64 0, .int .i64 0, .int .i64 0, .int .i64 0, .int .i64 0, .int .i64 0, .int .i64 0, .int .i64 0, .int .i64 0, .int .i64 0, .int .i64 0] : Array Value).toList 6 (by omega)); go_loud (generalize (World.setCells W1 g 6 _) = W2 at HR2 ⊢))
    | ((with_reducible refine gate_store (t := 108) (p := 32) rfl ?_); go_loud (refine wpList_store_mid rfl 108 _ _ rfl g 25 _ rfl rfl (HR2.out.there (by decide)) (by kernel_rfl) (by first | rfl | decide | simp [Value.oneCell'] | kernel_rfl) ?_); have HR3 := Aside0.mk (HR2.out.sets (#[.slice none 0 0, .int .i64 0] : Array Value).toList 25 (by omega)); go_loud (generalize (World.setCells W2 g 25 _) = W3 at HR3 ⊢))
    | ((with_reducible refine gate_store (t := 110) (p := 34) rfl ?_); go_loud (refine wpList_store_mid rfl 110 _ _ rfl g 27 _ rfl rfl (HR3.out.there (by decide)) (by kernel_rfl) (by first | rfl | decide | simp [Value.oneCell'] | kernel_rfl) ?_); have HR4 := Aside0.mk (HR3.out.sets (#[.int .i64 0, .int .i64 0] : Array Value).toList 27 (by omega)); go_loud (generalize (World.setCells W3 g 27 _) = W4 at HR4 ⊢); obtain ⟨v1, k1⟩ := HR4.out.cellAt (j := 1) (by omega); have f1 := HR4.out.frozenAt 1))
  go_end0
  exact ⟨rfl, HR4.out.set (by omega) _⟩
theorem RI.below {w0 W : World} {g B : Nat} {d : Addr} (h : RI w0 W g d) (hB : B ≤ g) : Below B w0 W := ⟨h.os, h.tape, h.output, by rw [h.size]; exact Nat.le_refl _, fun i hi => h.rest i (by omega)⟩
theorem RI.other {w0 W : World} {g : Nat} {d a : Addr} {v : Value} (h : RI w0 W g d) (hc : w0.cell? a = some v) (ha : a.block ≠ g) : W.cell? a = some v := by
  rw [World.cell?_of_block (h.rest a.block ha)]; exact hc
theorem set_other {w : World} {g j : Nat} {a : Addr} {v u : Value} (hc : w.cell? a = some v) (ha : a ≠ ⟨g, j, none⟩) : (w.setCell ⟨g, j, none⟩ u).cell? a = some v := by
  rw [World.cell?_setCell_other _ _ _ _ (fun e => ha e.symm)]; exact hc
set_option maxHeartbeats 4000000 in
set_option maxRecDepth 100000 in
theorem headNew_ok {w : World} : Calls Try.prog 26 #[] w fun e w' => (∃ g d : Nat, e = .returned (.pointer (some ⟨g, 0, none⟩)) ∧ w'.cell? ⟨g, 0, none⟩ = some (.pointer (some ⟨d, 0, none⟩)) ∧ w'.cell? ⟨d, 0, none⟩ = some (.int .i64 19)) ∧ Below w.heap.size w w' := by
  go_enter Try.func26, Try.ntmps26
  go_wp2_with (fail)
  refine (decNew_ok (n := 19) (by omega)).mono ?_
  rintro e w1 ⟨⟨d, rfl, hd⟩, hB⟩
  have HD := Aside0.mk hd
  have HB := Aside0.mk hB
  clear hd hB
  go_wp2_with (fail)
  refine (headReset_ok (d := ⟨d, 0, none⟩) ⟨⟨#[.pointer (some ⟨d, 0, none⟩), .nilFunc, .int .i64 0, .int .i64 0, .int .i64 0, .int .i64 0, .int .i64 0, .int .i64 0, .int .i64 0, .int .i64 0, .int .i64 0, .int .i64 0, .int .i64 0, .int .i64 0, .int .i64 0, .int .i64 0, .int .i64 0, .int .i64 0, .int .i64 0, .int .i64 0, .int .i64 0, .int .i64 0, .int .i64 0, .int .i64 0, .int .i64 0, .slice none 0 0, .int .i64 0, .int .i64 0, .int .i64 0, .bool false, .bool false], blk_new w1 _, rfl, rfl⟩, rfl, rfl, rfl, rfl, fun _ _ => rfl⟩).mono ?_
  rintro e w2 ⟨rfl, hr⟩
  have HR := Aside0.mk hr
  clear hr
  go_wp2
  go_ret
  exact ⟨⟨w1.heap.size, d, rfl, HR.out.cell0, HR.out.other (cell_keep HD.out (below_alloc (Below.refl _ _) _)) (by have := cell_in HD.out; show d ≠ _; intro e; subst e; exact absurd this (Nat.lt_irrefl _))⟩, (below_alloc HB.out _).trans (HR.out.below HB.out.size)⟩
/-- What of a swell its Room reads. -/
def SW (w : World) (g : Nat) (n : Int) : Prop := ∃ (gr : Nat) (A : Addr) (c gl gd gh d : Nat), w.cell? ⟨g, 0, none⟩ = some (.pointer (some ⟨gr, 0, none⟩)) ∧ w.cell? ⟨gr, 0, none⟩ = some (.slice (some A) n.toNat c) ∧ w.cell? ⟨g, 6, none⟩ = some (.pointer (some ⟨gl, 0, none⟩)) ∧ w.cell? ⟨gl, 0, none⟩ = some (.int .i64 288) ∧ w.cell? ⟨g, 7, none⟩ = some (.pointer (some ⟨gd, 0, none⟩)) ∧ w.cell? ⟨gd, 0, none⟩ = some (.int .i64 32) ∧ w.cell? ⟨g, 8, none⟩ = some (.pointer (some ⟨gh, 0, none⟩)) ∧ w.cell? ⟨gh, 0, none⟩ = some (.pointer (some ⟨d, 0, none⟩)) ∧ w.cell? ⟨d, 0, none⟩ = some (.int .i64 19)
theorem SW.below {w w' : World} {g : Nat} {n : Int} (h : SW w g n) (hB : Below w.heap.size w w') : SW w' g n := by
  obtain ⟨gr, A, c, gl, gd, gh, d, h1, h2, h3, h4, h5, h6, h7, h8, h9⟩ := h
  exact ⟨gr, A, c, gl, gd, gh, d, cell_keep h1 hB, cell_keep h2 hB, cell_keep h3 hB, cell_keep h4 hB, cell_keep h5 hB, cell_keep h6 hB, cell_keep h7 hB, cell_keep h8 hB, cell_keep h9 hB⟩
set_option maxHeartbeats 4000000 in
set_option maxRecDepth 100000 in
theorem swellNew_ok {w : World} {n : Int} (h1 : 1 ≤ n) (h2 : n ≤ 32768) : Calls Try.prog 11 #[.int .i64 n, .int .i64 0] w fun e w' => (∃ g : Nat, e = .returned (.tuple #[.pointer (some ⟨g, 0, none⟩), .int .i64 0]) ∧ SW w' g n) ∧ Below w.heap.size w w' := by
  have c1 : decide (n < 1) = false := decide_eq_false (by omega)
  have c2 : decide (32768 < n) = false := decide_eq_false (by omega)
  have H1 := Aside0.mk h1
  have H2 := Aside0.mk h2
  clear h1 h2
  go_enter Try.func11, Try.ntmps11
  go_wp2_with (fail)
  refine (ringNew_ok H1.out H2.out).mono ?_
  rintro e w1 ⟨⟨gr, A, c, rfl, hr⟩, hB⟩
  have HR := Aside0.mk hr
  have HB := Aside0.mk hB
  clear hr hB
  go_wp2_with (fail)
  refine headNew_ok.mono ?_
  rintro e w2 ⟨⟨gh, d, rfl, hh, hd⟩, hB⟩
  have HR2 := Aside0.mk (cell_keep HR.out hB)
  have HH := Aside0.mk hh
  have HD := Aside0.mk hd
  have HB2 := Aside0.mk (below_step HB.out hB)
  clear hB hh hd HR HB
  go_wp2_with (fail)
  obtain ⟨g, hg⟩ : ∃ g, g = w2.heap.size := ⟨_, rfl⟩
  have HG := Aside0.mk (show w.heap.size ≤ g by rw [hg]; exact HB2.out.size)
  have hb3 : (w2.alloc (.cells #[.pointer (some ⟨gr, 0, none⟩), .int .i64 n, .int .i64 0, .int .u64 0, .int .i64 0, .int .i64 0, .pointer none, .pointer none, .pointer (some ⟨gh, 0, none⟩), .int .i64 0, .bool false, .int .i64 0, .int .i64 0, .int .i64 0, .int .i64 0, .int .i64 0, .int .i64 0, .slice none 0 0] 74)).heap[g]? = some (.cells #[.pointer (some ⟨gr, 0, none⟩), .int .i64 n, .int .i64 0, .int .u64 0, .int .i64 0, .int .i64 0, .pointer none, .pointer none, .pointer (some ⟨gh, 0, none⟩), .int .i64 0, .bool false, .int .i64 0, .int .i64 0, .int .i64 0, .int .i64 0, .int .i64 0, .int .i64 0, .slice none 0 0] 74) := by rw [hg]; exact blk_new w2 _
  have HK := Aside0.mk (show ∀ a v, w2.cell? a = some v → a.block ≠ g from fun a v h => by have := cell_in h; omega)
  have HR3 := Aside0.mk (cell_keep HR2.out (below_alloc (Below.refl _ _) (.cells #[.pointer (some ⟨gr, 0, none⟩), .int .i64 n, .int .i64 0, .int .u64 0, .int .i64 0, .int .i64 0, .pointer none, .pointer none, .pointer (some ⟨gh, 0, none⟩), .int .i64 0, .bool false, .int .i64 0, .int .i64 0, .int .i64 0, .int .i64 0, .int .i64 0, .int .i64 0, .slice none 0 0] 74)))
  have HH3 := Aside0.mk (cell_keep HH.out (below_alloc (Below.refl _ _) (.cells #[.pointer (some ⟨gr, 0, none⟩), .int .i64 n, .int .i64 0, .int .u64 0, .int .i64 0, .int .i64 0, .pointer none, .pointer none, .pointer (some ⟨gh, 0, none⟩), .int .i64 0, .bool false, .int .i64 0, .int .i64 0, .int .i64 0, .int .i64 0, .int .i64 0, .int .i64 0, .slice none 0 0] 74)))
  have HD3 := Aside0.mk (cell_keep HD.out (below_alloc (Below.refl _ _) (.cells #[.pointer (some ⟨gr, 0, none⟩), .int .i64 n, .int .i64 0, .int .u64 0, .int .i64 0, .int .i64 0, .pointer none, .pointer none, .pointer (some ⟨gh, 0, none⟩), .int .i64 0, .bool false, .int .i64 0, .int .i64 0, .int .i64 0, .int .i64 0, .int .i64 0, .int .i64 0, .slice none 0 0] 74)))
  have HB3 := Aside0.mk (below_alloc HB2.out (.cells #[.pointer (some ⟨gr, 0, none⟩), .int .i64 n, .int .i64 0, .int .u64 0, .int .i64 0, .int .i64 0, .pointer none, .pointer none, .pointer (some ⟨gh, 0, none⟩), .int .i64 0, .bool false, .int .i64 0, .int .i64 0, .int .i64 0, .int .i64 0, .int .i64 0, .int .i64 0, .slice none 0 0] 74))
  have HX := Aside0.mk hb3
  rw [← hg]
  clear hb3 hg
  generalize (w2.alloc (.cells #[.pointer (some ⟨gr, 0, none⟩), .int .i64 n, .int .i64 0, .int .u64 0, .int .i64 0, .int .i64 0, .pointer none, .pointer none, .pointer (some ⟨gh, 0, none⟩), .int .i64 0, .bool false, .int .i64 0, .int .i64 0, .int .i64 0, .int .i64 0, .int .i64 0, .int .i64 0, .slice none 0 0] 74)) = w3 at *
  refine (decNew_ok (n := 288) (by omega)).mono ?_
  rintro e w4 ⟨⟨gl, rfl, hl⟩, hB⟩
  have hb4 := blk_below HX.out hB
  have k6 : w4.cell? ⟨g, 6, none⟩ = some (.pointer none) := blk_cell hb4 6
  have f6 := blk_frozen hb4 6
  have HR4 := Aside0.mk (set_other (g := g) (j := 6) (u := .pointer (some ⟨gl, 0, none⟩)) (cell_keep HR3.out hB) (fun e => HK.out _ _ HR2.out (congrArg Addr.block e)))
  have HH4 := Aside0.mk (set_other (g := g) (j := 6) (u := .pointer (some ⟨gl, 0, none⟩)) (cell_keep HH3.out hB) (fun e => HK.out _ _ HH.out (congrArg Addr.block e)))
  have HD4 := Aside0.mk (set_other (g := g) (j := 6) (u := .pointer (some ⟨gl, 0, none⟩)) (cell_keep HD3.out hB) (fun e => HK.out _ _ HD.out (congrArg Addr.block e)))
  have hne : (⟨gl, 0, none⟩ : Addr) ≠ ⟨g, 6, none⟩ := by simp
  have HL4 := Aside0.mk (set_other (g := g) (j := 6) (u := .pointer (some ⟨gl, 0, none⟩)) hl hne)
  have HB4 := Aside0.mk (below_set (g := g) (j := 6) (v := .pointer (some ⟨gl, 0, none⟩)) (below_step HB3.out hB) HG.out)
  have HX4 := Aside0.mk (blk_put (cs' := #[.pointer (some ⟨gr, 0, none⟩), .int .i64 n, .int .i64 0, .int .u64 0, .int .i64 0, .int .i64 0, .pointer (some ⟨gl, 0, none⟩), .pointer none, .pointer (some ⟨gh, 0, none⟩), .int .i64 0, .bool false, .int .i64 0, .int .i64 0, .int .i64 0, .int .i64 0, .int .i64 0, .int .i64 0, .slice none 0 0]) hb4 6 (.pointer (some ⟨gl, 0, none⟩)) rfl)
  clear hb4 hB hl hne HR3 HH3 HD3 HB3 HX
  go_wp2_with (fail)
  clear k6 f6
  generalize (w4.setCell ⟨g, 6, none⟩ (.pointer (some ⟨gl, 0, none⟩))) = w5 at *
  refine (decNew_ok (n := 32) (by omega)).mono ?_
  rintro e w6 ⟨⟨gd, rfl, hl⟩, hB⟩
  have hb4 := blk_below HX4.out hB
  have k7 : w6.cell? ⟨g, 7, none⟩ = some (.pointer none) := blk_cell hb4 7
  have f7 := blk_frozen hb4 7
  have HR6 := Aside0.mk (set_other (g := g) (j := 7) (u := .pointer (some ⟨gd, 0, none⟩)) (cell_keep HR4.out hB) (fun e => HK.out _ _ HR2.out (congrArg Addr.block e)))
  have HH6 := Aside0.mk (set_other (g := g) (j := 7) (u := .pointer (some ⟨gd, 0, none⟩)) (cell_keep HH4.out hB) (fun e => HK.out _ _ HH.out (congrArg Addr.block e)))
  have HD6 := Aside0.mk (set_other (g := g) (j := 7) (u := .pointer (some ⟨gd, 0, none⟩)) (cell_keep HD4.out hB) (fun e => HK.out _ _ HD.out (congrArg Addr.block e)))
  have HL6 := Aside0.mk (set_other (g := g) (j := 7) (u := .pointer (some ⟨gd, 0, none⟩)) (cell_keep HL4.out hB) (by simp))
  have hne : (⟨gd, 0, none⟩ : Addr) ≠ ⟨g, 7, none⟩ := by simp
  have HE6 := Aside0.mk (set_other (g := g) (j := 7) (u := .pointer (some ⟨gd, 0, none⟩)) hl hne)
  have HB6 := Aside0.mk (below_set (g := g) (j := 7) (v := .pointer (some ⟨gd, 0, none⟩)) (below_step HB4.out hB) HG.out)
  have HX6 := Aside0.mk (blk_put (cs' := #[.pointer (some ⟨gr, 0, none⟩), .int .i64 n, .int .i64 0, .int .u64 0, .int .i64 0, .int .i64 0, .pointer (some ⟨gl, 0, none⟩), .pointer (some ⟨gd, 0, none⟩), .pointer (some ⟨gh, 0, none⟩), .int .i64 0, .bool false, .int .i64 0, .int .i64 0, .int .i64 0, .int .i64 0, .int .i64 0, .int .i64 0, .slice none 0 0]) hb4 7 (.pointer (some ⟨gd, 0, none⟩)) rfl)
  clear hb4 hB hl hne HR4 HH4 HD4 HB4 HX4 HL4
  go_wp2
  go_ret2
  exact ⟨⟨g, rfl, gr, A, c, gl, gd, gh, d, blk_cell HX6.out 0, HR6.out, blk_cell HX6.out 6, HL6.out, blk_cell HX6.out 7, HE6.out, blk_cell HX6.out 8, HH6.out, HD6.out⟩, HB6.out⟩
theorem below_drewN1 (w : World) (m : Nat) : Below w.heap.size w (w.drewN m) := ⟨rfl, rfl, rfl, Nat.le_refl _, fun _ _ => rfl⟩
theorem headRoom_ok {w : World} {g d : Nat} (h : w.cell? ⟨g, 0, none⟩ = some (.pointer (some ⟨d, 0, none⟩))) (hd : w.cell? ⟨d, 0, none⟩ = some (.int .i64 19)) : Calls Try.prog 31 #[.pointer (some ⟨g, 0, none⟩)] w fun e w' => e = .returned (.int .i64 (wrap64 (wrap64 (wrap64 (8 * 19) + 256) + 339))) ∧ w' = w := by
  have hm : Calls Try.prog 47 #[.pointer (some ⟨g, 0, none⟩)] w fun e w' => e = .returned (.bool true) ∧ w' = w := by
    go_enter Try.func47, Try.ntmps47
    go_wp2
    go_ret
    exact ⟨rfl, rfl⟩
  go_enter Try.func31, Try.ntmps31
  go_wp2_with (fail)
  refine hm.mono ?_
  rintro e w' ⟨rfl, rfl⟩
  go_wp2_with (fail)
  refine (decRoom_ok (by decide) hd).mono ?_
  rintro e w' ⟨rfl, rfl⟩
  go_wp2
  go_ret
  exact ⟨rfl, rfl⟩
/-- What a swell's Room tells. -/
def roomV (n : Int) : Int := n + 3835
set_option maxHeartbeats 4000000 in
set_option maxRecDepth 100000 in
theorem swellRoom_ok {w : World} {g : Nat} {n : Int} (h : SW w g n) (hn1 : 1 ≤ n) (hn2 : n ≤ 32768) : Calls Try.prog 13 #[.pointer (some ⟨g, 0, none⟩)] w fun e w' => e = .returned (.int .i64 (roomV n)) ∧ Below w.heap.size w w' := by
  obtain ⟨gr, A, c, gl, gd, gh, d, h1, h2, h3, h4, h5, h6, h7, h8, h9⟩ := h
  have hm : Calls Try.prog 28 #[.pointer (some ⟨g, 0, none⟩)] w fun e w' => e = .returned (.bool true) ∧ w' = w := by
    go_enter Try.func28, Try.ntmps28
    go_wp2
    go_ret
    exact ⟨rfl, rfl⟩
  go_enter Try.func13, Try.ntmps13
  go_wp2_with (fail)
  refine hm.mono ?_
  rintro e w' ⟨rfl, rfl⟩
  go_wp2
  go_quiet (first
    | (go_at_call 30; exact Calls.quiet_of_same (ringRoom_ok h2))
    | (go_at_call 31; exact Calls.quiet_of_same (headRoom_ok h8 h9))
    | (go_at_call 29; first | exact Calls.quiet_of_same (decRoom_ok (by decide) h4) | exact Calls.quiet_of_same (decRoom_ok (by decide) h6)))
  go_wp2
  go_ret
  refine ⟨?_, below_drewN1 _ _⟩
  refine congrArg (fun z => Ending.returned (.int .i64 z)) (?_ : _ = roomV n)
  unfold wrap64 roomV
  omega
theorem parseRoom_ok {w : World} : Calls Try.prog 14 #[] w fun e w' => (∃ g : Nat, e = .returned (.pointer (some ⟨g, 0, none⟩)) ∧ w'.cell? ⟨g, 15, none⟩ = some (.bool true)) ∧ Below w.heap.size w w' := by
  go_enter Try.func14, Try.ntmps14
  go_wp2
  go_ret
  exact ⟨⟨w.heap.size, rfl, by simp [go_sem]⟩, below_alloc (Below.refl _ _) _⟩
theorem parserRoom_ok {w : World} {g : Nat} (h : w.cell? ⟨g, 15, none⟩ = some (.bool true)) : Calls Try.prog 15 #[.pointer (some ⟨g, 0, none⟩)] w fun e w' => e = .returned (.int .i64 64) ∧ w' = w := by
  go_enter Try.func15, Try.ntmps15
  go_wp2
  go_ret
  exact ⟨rfl, rfl⟩
theorem most_ok {w : World} {n : Int} (h1 : 64 ≤ n) (h2 : n ≤ 65536) : Calls Try.prog 12 #[.int .i64 n] w fun e w' => e = .returned (.int .i64 (wrap64 (6 * n))) ∧ w' = w := by
  have c1 : decide (n < 64) = false := decide_eq_false (by omega)
  have c2 : decide (65536 < n) = false := decide_eq_false (by omega)
  clear h1 h2
  go_enter Try.func12, Try.ntmps12
  go_wp2
  go_ret
  exact ⟨rfl, rfl⟩
theorem swellBad_ok {w : World} {n : Int} (h : n < 1 ∨ 32768 < n) : Calls Try.prog 11 #[.int .i64 n, .int .i64 0] w fun e w' => e = .returned (.tuple #[.pointer none, .int .i64 110]) ∧ w' = w := by
  by_cases c : n < 1
  · have c1 : decide (n < 1) = true := decide_eq_true c
    clear h c
    go_enter Try.func11, Try.ntmps11
    go_wp2
    go_ret2
    exact ⟨rfl, rfl⟩
  · have c1 : decide (n < 1) = false := decide_eq_false c
    have c2 : decide (32768 < n) = true := decide_eq_true (by omega)
    clear h c
    go_enter Try.func11, Try.ntmps11
    go_wp2
    go_ret2
    exact ⟨rfl, rfl⟩
/-- The bound's arguments as they may be. -/
def bOk (a b c : Int) : Prop := 64 ≤ a ∧ a ≤ 4096 ∧ 64 ≤ b ∧ b ≤ 65536 ∧ 1 ≤ c ∧ c ≤ 32768
set_option maxHeartbeats 4000000 in
set_option maxRecDepth 100000 in
theorem Bound_ok {w : World} {a b c : Int} (h : bOk a b c) : Calls Try.prog 10 #[.int .i64 a, .int .i64 b, .int .i64 c] w fun e w' => e = .returned (.int .i64 (a + 8 * b + c + 3963)) ∧ Below w.heap.size w w' := by
  obtain ⟨a1, a2, b1, b2, c1, c2⟩ := h
  have d1 : decide (a < 64) = false := decide_eq_false (by omega)
  have d2 : decide (4096 < a) = false := decide_eq_false (by omega)
  have d3 : decide (b < 64) = false := decide_eq_false (by omega)
  have d4 : decide (65536 < b) = false := decide_eq_false (by omega)
  have A1 := Aside0.mk a1
  have A2 := Aside0.mk a2
  have B1 := Aside0.mk b1
  have B2 := Aside0.mk b2
  have C1 := Aside0.mk c1
  have C2 := Aside0.mk c2
  clear a1 a2 b1 b2 c1 c2
  go_enter Try.func10, Try.ntmps10
  go_wp2_with (fail)
  refine (swellNew_ok C1.out C2.out).mono ?_
  rintro e w1 ⟨⟨g, rfl, hs⟩, hB⟩
  have HS := Aside0.mk hs
  have HB := Aside0.mk hB
  clear hs hB
  go_wp2_with (fail)
  refine (most_ok B1.out B2.out).mono ?_
  rintro e w' ⟨rfl, rfl⟩
  go_wp2_with (fail)
  refine (swellRoom_ok HS.out C1.out C2.out).mono ?_
  rintro e w2 ⟨rfl, hB⟩
  have HB2 := Aside0.mk (below_step HB.out hB)
  clear hB HB HS
  go_wp2_with (fail)
  refine parseRoom_ok.mono ?_
  rintro e w3 ⟨⟨gp, rfl, hp⟩, hB⟩
  have HP := Aside0.mk hp
  have HB3 := Aside0.mk (below_step HB2.out hB)
  clear hB HB2 hp
  go_wp2_with (fail)
  refine (parserRoom_ok HP.out).mono ?_
  rintro e w' ⟨rfl, rfl⟩
  go_wp2
  go_ret
  refine ⟨?_, HB3.out⟩
  have a1 := A1.out
  have a2 := A2.out
  have b1 := B1.out
  have b2 := B2.out
  have c1 := C1.out
  have c2 := C2.out
  refine congrArg (fun z => Ending.returned (.int .i64 z)) (?_ : _ = a + 8 * b + c + 3963)
  unfold wrap64 roomV
  omega
end Go.Proofs.Ytbdlkpmaalhnnaa.X
