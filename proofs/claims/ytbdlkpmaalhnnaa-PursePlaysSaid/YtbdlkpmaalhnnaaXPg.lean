/- By hand: package purse: Names: the holders' names, rising, in a row of the call's own. -/
import Derived.Test.YtbdlkpmaalhnnaaXPb
import Derived.Test.YtbdlkpmaalhnnaaZShelf
import Derived.Sort.KeysCollected
import Derived.Sort.OwnSorted
namespace Go.Proofs.Ytbdlkpmaalhnnaa.X
open Go.RowKit Go.Proofs.YtbdlkpmaalhnnaaW.PrintWords Go.Proofs.YtbdlkpmaalhnnaaW.PrintLast Go.Proofs.YtbdlkpmaalhnnaaW.PrintMore
open Go.Maps Go.MuLone Go.ChangeMaps Go.WideShapes Go.Sort
open Go.WideElems (Fit rd rg pl)
set_option linter.unusedVariables false
set_option linter.unusedSimpArgs false

theorem pinfo9 : (Try.prog.info? 9).map (fun i => (i.zero, i.size, i.bytes)) = some (some (.string ⟨#[]⟩), 1, 16) := by kernel_rfl
theorem own_locked_row {w : World} {B g n : Nat} {v : Value} {xs : List Value} (h : w.ownsRow B 9 1 v n xs) (hg : g < B) (u : Value) : (w.setCell ⟨g, 0, none⟩ u).ownsRow B 9 1 v n xs :=
  own_setCell h (fun e => by have := (own_base h g e.symm); omega) u
/-- The end of Names: the row is sorted. -/
theorem sort_names {w : World} {B : Nat} {v : Value} {ss : List (List UInt8)} (h : w.ownsRow B 9 1 v ss.length (ss.map encStr)) (hn : ss.length ≤ 1024) : Calls Try.prog 44 #[v] w fun e w' => e = .returned (.tuple #[]) ∧ w'.ownsRow B 9 1 v ss.length ((ss.mergeSort leB).map encStr) ∧ w.grownBy w' v.ownBlock := by
  rcases h.2 with ⟨rfl, h0⟩ | ⟨g, cap, cur, rfl, hbase, hb, h1, h2, h3, h4⟩
  · refine (Try.slices_Sort_string_none none 0 w).mono ?_
    rintro e w' ⟨rfl, rfl⟩
    have e0 : ss = [] := by simpa using h0
    subst e0
    refine ⟨rfl, ?_, ⟨rfl, rfl, rfl, Nat.le_refl _, fun _ _ _ => rfl⟩⟩
    simpa using h
  · have hH : Holds encStr w g 0 ss.toArray := holds_of_block hb (by simpa using h4)
    refine (Try.slices_Sort_string g 0 cap ss w hH (Array.getElem?_eq_some_iff.1 hb).1 (by omega)).mono ?_
    rintro e w' ⟨rfl, nn, os, rfl⟩
    exact ⟨rfl, ownsRow_sorted (by simp) hbase hb h1 h2 h3, grownBy_sorted _⟩
set_option maxHeartbeats 4000000 in
set_option maxRecDepth 100000 in
theorem Names_ok {w : World} {g bm : Nat} {D : DataW Unit} {pk : Int} (h : PS w g bm D pk) (hn : Maps.size D ≤ 1024) : Calls Try.prog 24 #[.pointer (some ⟨g, 0, none⟩)] w fun e w' => ∃ (v : Value) (ss : List (List UInt8)), e = .returned v ∧ ss.Perm (strKeys D) ∧ w'.ownsRow w.heap.size 9 1 v ss.length ((ss.mergeSort leB).map encStr) ∧ Below w.heap.size w w' := by
  obtain ⟨h0, h2, h3, hf⟩ := h.cell
  obtain ⟨i0, hi, hz0, hz1, hz2⟩ := info_parts pinfo9
  have HP := Aside0.mk h
  have HN := Aside0.mk hn
  have k2 : (w.setCell ⟨g, 0, none⟩ (.int .i32 1)).cell? ⟨g, 2, none⟩ = some (.map (some bm)) := by have := blk_put h.blk 0 (.int .i32 1) rfl; simp [World.cell?, this]
  have HO := Aside0.mk (own_locked h (.int .i32 1))
  have HL := Aside0.mk h.lt
  have HBL := Aside0.mk h.own.lt
  have hsz : (w.setCell ⟨g, 0, none⟩ (.int .i32 1)).heap.size = w.heap.size := by simp [World.setCell]
  have HSZ := Aside0.mk hsz
  have HB1 := Aside0.mk (blk_put h.blk 0 (.int .i32 1) rfl)
  clear hsz hn
  go_enter_defers Try.func24, Try.ntmps24
  go_wp2_with (fail)
  refine (is_ok h).mono ?_
  rintro e w' ⟨rfl, rfl⟩
  go_wp2_with (first
    | (go_at_call 39; refine (lock_free muLib ⟨g, 0, none⟩ _ h0 (hf 0)).mono ?_; rintro e w' ⟨rfl, rfl⟩)
    | (at_range; refine wpList_range_own _ rfl _ 55 rfl 9 97 law9 Try.underlying55 _ bm _ _ rfl HO.out ?_; intro w0 hrg0 hg0 hs0)
    | go_in)
  go_frame
  clear k2 h0 h2 h3 hf h
  rw [HSZ.out] at hrg0
  rw [HSZ.out]
  have HR := Aside0.mk hrg0
  have HG := Aside0.mk hg0
  clear hrg0 hg0 hs0
  go_loopw [3] (fun v3 wr => ∃ (left : Lit → Bool) (cnt : Nat) (ss : List (List UInt8)), ss.length + cnt ≤ Maps.size D ∧ Aside0 (wr.ranges Try.prog 9 holdR bm w'.heap.size (Maps.size D) D left cnt) ∧ Aside0 (wr.ownsRow w'.heap.size 9 1 v3 ss.length (ss.map encStr)) ∧ Aside0 (Collected D left ss) ∧ Aside0 (Below (w'.setCell ⟨g, 0, none⟩ (.int .i32 1)).heap.size (w'.setCell ⟨g, 0, none⟩ (.int .i32 1)) wr)) (fun _ wr => wr.rangeLeft bm w'.heap.size)
  case atStart =>
    exact ⟨_, _, [], by simp, HR, ⟨own_nil _ _ _ _⟩, ⟨Collected.start D⟩, ⟨(Below.refl _ _).grown HG.out (Nat.le_refl _) (fun j hj => by cases hj)⟩⟩
  case round =>
    clear HR HG
    obtain ⟨left, cnt, ss, hcs, hrg, hrow, hC, hnx⟩ := hrel
    go_wp2_with (first
      | (at_next; refine wpList_next_ranges _ rfl _ rfl 9 law9 holdR (α := List UInt8) (β := Int × Int) encStr (fun c => .agg #[.int .i64 c.1, .int .i64 c.2]) (fun key kl hk => by obtain ⟨x, hx, _⟩ := Maps.keyOf_str Try.underlying9 hk; exact ⟨x, hx⟩) (fun _ _ h => by obtain ⟨a, b, e, _⟩ := holdR_inv h; exact ⟨(a, b), e⟩) bm w'.heap.size _ _ left cnt rfl hrg.out ?_ ?_)
      | go_in)
    · intro hc0 hl0
      have HL0 := Aside0.mk hl0
      clear hl0
      go_wp2_with (fail)
      refine (sort_names hrow.out (by have := HN.out; omega)).mono ?_
      rintro e w2 ⟨rfl, hrow2, hg2⟩
      have HROW2 := Aside0.mk hrow2
      have HB2 := Aside0.mk (hnx.out.grown hg2 hnx.out.size (fun j hj => by have := own_base hrow.out j hj; rw [HSZ.out]; exact this))
      clear hrow2 hg2
      go_wp2
      refine leaves_cons (f := 40) (args := #[.pointer (some ⟨g, 0, none⟩)]) (by simp) (by simp [go_sem]) ?_
      have hb2 := blk_below HB1.out HB2.out
      refine (unlock_deferred muLib ⟨g, 0, none⟩ .returning _ (by simp [World.cell?, hb2]) (by simp [World.frozen?, hb2])).mono ?_
      rintro e u' w'' ⟨rfl, rfl, rfl⟩
      exact ⟨_, results_tmp rfl _ _ _, _, ss, rfl, hC.out.perm HO.out law9 Try.underlying9 HL0.out, own_locked_row HROW2.out HL.out _, lock_back HP.out HB2.out⟩
    · intro x ca cb kl y1 y2 w2 cnt2 hkey hlk hv hat hrg2 hlt hg2 hs2 hen
      obtain ⟨x', ex, rfl, _⟩ := Maps.keyOf_str Try.underlying9 hkey
      obtain rfl : x = x' := encStr_inj ex
      have HROW2 := Aside0.mk (hrow.out.kept hg2 (Or.inr (row_ne_iter hrow.out hrg.out).symm))
      have HB2 := Aside0.mk (hnx.out.grown hg2 hnx.out.size (fun j hj => by cases hj; rw [HSZ.out]; exact Nat.le_refl _))
      have HC2 := Aside0.mk (hC.out.step hlk hat)
      have HR2 := Aside0.mk hrg2
      have HLT := Aside0.mk hlt
      clear hs2 hg2 hrg2 hlt hat hlk hv hC hnx hkey ex
      have hw2 : w'.heap.size ≤ w2.heap.size := by have := HB2.out.size; rw [HSZ.out] at this; exact this
      have HW2 := Aside0.mk hw2
      clear hw2
      go_wp2_with (first
        | (at_builtin; refine wpList_append_own _ rfl _ _ 44 rfl w'.heap.size 9 i0 (.string ⟨#[]⟩) 1 16 Try.underlying44 hi hz0 hz1 hz2 rfl (by decide) _ _ _ rfl (HROW2.out.alloc _) ⟨w2.heap.size, 0, none⟩ 1 1 [encStr x] rfl rfl (cell_one_new _ _ _) (by simp [Value.oneCell', encStr]) (by have := HN.out; unfold maxLen; omega) (by have := HN.out; omega) (by have := HW2.out; simp; omega) ?_; intro v' w3 hown' hg3 hnil3; go_frame)
        | go_in)
      have HR3 := Aside0.mk ((HR2.out.alloc (.cells #[encStr x] 9)).kept hg3 (row_ne_low HROW2.out HBL.out) (row_ne_iter HROW2.out HR2.out))
      have HB3 := Aside0.mk ((HB2.out.alloc (by rw [HSZ.out]; exact HW2.out) (.cells #[encStr x] 9)).grown hg3 (by rw [HSZ.out]; have := HW2.out; simp; omega) (fun j hj => by have := own_base HROW2.out j hj; rw [HSZ.out]; exact this))
      have HO3 := Aside0.mk hown'
      clear hg3 hnil3 hown'
      go_roundw
      case rel =>
        refine ⟨_, cnt2, ss ++ [x], by have := HLT.out; simp; omega, HR3, ⟨by simpa using HO3.out⟩, HC2, HB3⟩
      case measure => rw [HR3.out.left_eq, hrg.out.left_eq]; exact HLT.out
end Go.Proofs.Ytbdlkpmaalhnnaa.X
