/- By hand: package purse: Open and Hold. -/
import Derived.Test.YtbdlkpmaalhnnaaXPa
import Derived.StringKeys
import Derived.StillTailTactics
import Derived.Deep.RegionLaw
import Derived.Deep.RegionHeld3
namespace Go.Proofs.Ytbdlkpmaalhnnaa.X
open Go.RowKit Go.Proofs.YtbdlkpmaalhnnaaW.PrintWords Go.Proofs.YtbdlkpmaalhnnaaW.PrintLast Go.Proofs.YtbdlkpmaalhnnaaW.PrintMore
open Go.Maps Go.MuLone Go.ChangeMaps Go.WideShapes
open Go.WideElems (Fit rd rg pl)
open Go.WideMaps
attribute [local go_sem] max2_int min2_int max_two min_two
set_option linter.unusedVariables false
set_option linter.unusedSimpArgs false

theorem Two.set {g bm : Nat} {w W : World} (h : Two g bm w W) (j : Nat) (v : Value) : Two g bm w (W.setCell ⟨g, j, none⟩ v) := by
  refine ⟨h.os, h.tape, h.output, ?_, fun i hi h1 h2 => ?_⟩
  · have e : (W.setCell ⟨g, j, none⟩ v).heap.size = W.heap.size := by simp [World.setCell]
    rw [e]; exact h.size
  · rw [Below.heap_setCell _ _ _ _ h1]; exact h.block i hi h1 h2
theorem Two.grown {g bm : Nat} {w W w' : World} (h : Two g bm w W) (k : W.grownBy w' (some bm)) : Two g bm w w' := ⟨k.os.trans h.os, k.tape.trans h.tape, k.output.trans h.output, Nat.le_trans h.size k.size, fun i hi h1 h2 => (k.block i (Nat.lt_of_lt_of_le hi h.size) (fun e => h2 (by injection e))).trans (h.block i hi h1 h2)⟩
theorem Two.refl {g bm : Nat} (w : World) : Two g bm w w := ⟨rfl, rfl, rfl, Nat.le_refl _, fun _ _ _ _ => rfl⟩
theorem fin {w w3 : World} {g bm n : Nat} {D D' : DataW Unit} {pk pk' : Int} (h : PS w g bm D pk) (hw : Two g bm w w3) (hb : w3.heap[g]? = some (.cells #[.int .i32 1, .int .u32 0, .map (some bm), .int .i64 pk'] 57)) (hown : w3.ownsMap Try.prog 9 holdR bm n D') : PS (w3.setCell ⟨g, 0, none⟩ (.int .i32 0)) g bm D' pk' ∧ Two g bm w (w3.setCell ⟨g, 0, none⟩ (.int .i32 0)) :=
  ⟨⟨blk_put hb 0 _ rfl, own_tight (hown.setCell h.ne _)⟩, hw.set 0 _⟩
/-- What Open answers, and what it makes of the map. -/
def openF (D : DataW Unit) (s : ByteArray) (m : Int) : Int × DataW Unit :=
  if m < 0 then (1, D) else if m > 1099511627776 then (1, D) else if (Maps.size D : Int) ≥ 1024 then (1, D) else if Maps.has D (.string s.data.toList) = true then (230, D) else (0, D.put (.string s.data.toList) (.agg [.lit (.int .i64 m), .lit (.int .i64 0)]))
set_option maxHeartbeats 4000000 in
set_option maxRecDepth 100000 in
theorem Open_ok {w : World} {g bm : Nat} {D : DataW Unit} {pk m : Int} {s : ByteArray} (h : PS w g bm D pk) (hs : s.size ≤ maxLen) : Calls Try.prog 20 #[.pointer (some ⟨g, 0, none⟩), .string s, .int .i64 m] w fun e w' => e = .returned (.int .i64 (openF D s m).1) ∧ PS w' g bm (openF D s m).2 pk ∧ Two g bm w w' := by
  obtain ⟨h0, h2, h3, hf⟩ := h.cell
  have hkey := keyOf_string_mk Try.underlying9 hs
  have HP := Aside0.mk h
  have k2 : (w.setCell ⟨g, 0, none⟩ (.int .i32 1)).cell? ⟨g, 2, none⟩ = some (.map (some bm)) := by have := blk_put h.blk 0 (.int .i32 1) rfl; simp [World.cell?, this]
  have k2b : ∀ o : Obj, ((w.setCell ⟨g, 0, none⟩ (.int .i32 1)).alloc o).cell? ⟨g, 2, none⟩ = some (.map (some bm)) := fun o => by have := blk_alloc (blk_put h.blk 0 (.int .i32 1) rfl) o; simp [World.cell?, this]
  have HO := Aside0.mk (own_locked h (.int .i32 1))
  have hd : ∀ w3 : World, (∃ n D', Two g bm w w3 ∧ w3.heap[g]? = some (.cells #[.int .i32 1, .int .u32 0, .map (some bm), .int .i64 pk] 57) ∧ w3.ownsMap Try.prog 9 holdR bm n D' ∧ D' = (openF D s m).2) → PS (w3.setCell ⟨g, 0, none⟩ (.int .i32 0)) g bm (openF D s m).2 pk ∧ Two g bm w (w3.setCell ⟨g, 0, none⟩ (.int .i32 0)) := by
    rintro w3 ⟨n, D', a, b, c, rfl⟩
    exact fin h a b c
  have HD := Aside0.mk hd
  clear hd
  by_cases c1 : m < 0
  · have e : openF D s m = (1, D) := by unfold openF; rw [if_pos c1]
    rw [e] at HD ⊢
    have c1b : decide (m < 0) = true := decide_eq_true c1
    clear c1
    go_enter_defers Try.func20, Try.ntmps20
    go_wp2_with (fail)
    refine (is_ok h).mono ?_
    rintro e w' ⟨rfl, rfl⟩
    go_wp2_with (go_at_call 39; refine (lock_free muLib ⟨g, 0, none⟩ _ h0 (hf 0)).mono ?_; rintro e w' ⟨rfl, rfl⟩)
    refine leaves_cons (f := 40) (args := #[.pointer (some ⟨g, 0, none⟩)]) (by simp) (by simp [go_sem]) ?_
    have hb2 := blk_put HP.out.blk 0 (.int .i32 1) rfl
    refine (unlock_deferred muLib ⟨g, 0, none⟩ .returning _ (by simp [World.cell?, hb2]) (by simp [World.frozen?, hb2])).mono ?_
    rintro e u' w'' ⟨rfl, rfl, rfl⟩
    exact ⟨_, results_tmp rfl _ _ _, rfl, HD.out _ ⟨_, _, (Two.refl _).set 0 _, hb2, HO.out, rfl⟩⟩
  have c1b : decide (m < 0) = false := decide_eq_false c1
  by_cases c2 : m > 1099511627776
  · have e : openF D s m = (1, D) := by unfold openF; rw [if_neg c1, if_pos c2]
    rw [e] at HD ⊢
    have c2b : decide (1099511627776 < m) = true := decide_eq_true c2
    clear c1 c2
    go_enter_defers Try.func20, Try.ntmps20
    go_wp2_with (fail)
    refine (is_ok h).mono ?_
    rintro e w' ⟨rfl, rfl⟩
    go_wp2_with (first | (go_at_call 39; refine (lock_free muLib ⟨g, 0, none⟩ _ h0 (hf 0)).mono ?_; rintro e w' ⟨rfl, rfl⟩))
    refine leaves_cons (f := 40) (args := #[.pointer (some ⟨g, 0, none⟩)]) (by simp) (by simp [go_sem]) ?_
    have hb2 := blk_put HP.out.blk 0 (.int .i32 1) rfl
    refine (unlock_deferred muLib ⟨g, 0, none⟩ .returning _ (by simp [World.cell?, hb2]) (by simp [World.frozen?, hb2])).mono ?_
    rintro e u' w'' ⟨rfl, rfl, rfl⟩
    exact ⟨_, results_tmp rfl _ _ _, rfl, HD.out _ ⟨_, _, (Two.refl _).set 0 _, hb2, HO.out, rfl⟩⟩
  have c2b : decide (1099511627776 < m) = false := decide_eq_false c2
  by_cases c3 : (Maps.size D : Int) ≥ 1024
  · have e : openF D s m = (1, D) := by unfold openF; rw [if_neg c1, if_neg c2, if_pos c3]
    rw [e] at HD ⊢
    have c3b : decide ((1024 : Int) ≤ (Maps.size D : Int)) = true := decide_eq_true c3
    have c3c : decide (1024 ≤ Maps.size D) = true := decide_eq_true (by omega)
    clear c1 c2 c3
    go_enter_defers Try.func20, Try.ntmps20
    go_wp2_with (fail)
    refine (is_ok h).mono ?_
    rintro e w' ⟨rfl, rfl⟩
    go_wp2_with (first | (go_at_call 39; refine (lock_free muLib ⟨g, 0, none⟩ _ h0 (hf 0)).mono ?_; rintro e w' ⟨rfl, rfl⟩) | ((with_reducible refine gate_dst (N := 30) rfl ?_); (try (refine gate_guard (by rfl) ?_; dsimp only)); refine wpList_len_own _ rfl _ 55 rfl 9 97 Try.underlying55 holdR bm _ D rfl HO.out ?_))
    refine leaves_cons (f := 40) (args := #[.pointer (some ⟨g, 0, none⟩)]) (by simp) (by simp [go_sem]) ?_
    have hb2 := blk_put HP.out.blk 0 (.int .i32 1) rfl
    refine (unlock_deferred muLib ⟨g, 0, none⟩ .returning _ (by simp [World.cell?, hb2]) (by simp [World.frozen?, hb2])).mono ?_
    rintro e u' w'' ⟨rfl, rfl, rfl⟩
    exact ⟨_, results_tmp rfl _ _ _, rfl, HD.out _ ⟨_, _, (Two.refl _).set 0 _, hb2, HO.out, rfl⟩⟩
  have c3b : decide ((1024 : Int) ≤ (Maps.size D : Int)) = false := decide_eq_false c3
  have c3c : decide (1024 ≤ Maps.size D) = false := decide_eq_false (by omega)
  by_cases c4 : Maps.has D (.string s.data.toList) = true
  · have e : openF D s m = (230, D) := by unfold openF; rw [if_neg c1, if_neg c2, if_neg c3, if_pos c4]
    rw [e] at HD ⊢
    clear c1 c2 c3
    go_enter_defers Try.func20, Try.ntmps20
    go_wp2_with (fail)
    refine (is_ok h).mono ?_
    rintro e w' ⟨rfl, rfl⟩
    go_wp2_with (first | (go_at_call 39; refine (lock_free muLib ⟨g, 0, none⟩ _ h0 (hf 0)).mono ?_; rintro e w' ⟨rfl, rfl⟩) | ((with_reducible refine gate_dst (N := 30) rfl ?_); (try (refine gate_guard (by rfl) ?_; dsimp only)); refine wpList_len_own _ rfl _ 55 rfl 9 97 Try.underlying55 holdR bm _ D rfl HO.out ?_) | (at_lookup; refine wpList_lookup_own_ok _ rfl _ _ 55 rfl 9 97 law9 Try.underlying55 holdR (zero97 _) (.agg [.lit (.int .i64 0), .lit (.int .i64 0)]) [] (holdR_mk 0 0) bm _ D rfl HO.out _ _ rfl hkey ?_; intro v ps hv; obtain ⟨va, vb, rfl, _⟩ := holdR_inv hv; clear hv))
    refine leaves_cons (f := 40) (args := #[.pointer (some ⟨g, 0, none⟩)]) (by simp) (by simp [go_sem]) ?_
    have hb2 := blk_alloc (blk_put HP.out.blk 0 (.int .i32 1) rfl) (.cells #[.int .i64 va, .int .i64 vb] 97)
    refine (unlock_deferred muLib ⟨g, 0, none⟩ .returning _ (by simp [World.cell?, hb2]) (by simp [World.frozen?, hb2])).mono ?_
    rintro e u' w'' ⟨rfl, rfl, rfl⟩
    exact ⟨_, results_tmp rfl _ _ _, rfl, HD.out _ ⟨_, _, ((Two.refl _).set 0 _).grown ((World.grownBy_alloc _ _ none).but _), hb2, HO.out.alloc _, rfl⟩⟩
  have c4b : Maps.has D (.string s.data.toList) = false := Bool.eq_false_iff.mpr c4
  have e : openF D s m = (0, D.put (.string s.data.toList) (.agg [.lit (.int .i64 m), .lit (.int .i64 0)])) := by unfold openF; rw [if_neg c1, if_neg c2, if_neg c3, if_neg c4]
  rw [e] at HD ⊢
  have HN := Aside0.mk (show Maps.size D < maxLen by unfold maxLen; omega)
  clear c1 c2 c3 c4
  · skip
    go_enter_defers Try.func20, Try.ntmps20
    go_wp2_with (fail)
    refine (is_ok h).mono ?_
    rintro e w' ⟨rfl, rfl⟩
    go_wp2_with (first | (go_at_call 39; refine (lock_free muLib ⟨g, 0, none⟩ _ h0 (hf 0)).mono ?_; rintro e w' ⟨rfl, rfl⟩) | ((with_reducible refine gate_dst (N := 30) rfl ?_); (try (refine gate_guard (by rfl) ?_; dsimp only)); refine wpList_len_own _ rfl _ 55 rfl 9 97 Try.underlying55 holdR bm _ D rfl HO.out ?_) | (at_lookup; refine wpList_lookup_own_ok _ rfl _ _ 55 rfl 9 97 law9 Try.underlying55 holdR (zero97 _) (.agg [.lit (.int .i64 0), .lit (.int .i64 0)]) [] (holdR_mk 0 0) bm _ D rfl HO.out _ _ rfl hkey ?_; intro v ps hv; obtain ⟨va, vb, rfl, _⟩ := holdR_inv hv; clear hv) | (at_mapUpdate; go_loud (refine wpList_mapUpdate_own _ rfl _ _ _ 55 rfl 9 97 law9 Try.underlying55 holdR bm _ D rfl (HO.out.alloc _) HN.out _ _ _ rfl rfl hkey _ [] (holdR_mk _ _) ?_); intro w3 hown3 hgrow3))
    refine leaves_cons (f := 40) (args := #[.pointer (some ⟨g, 0, none⟩)]) (by simp) (by simp [go_sem]) ?_
    have hb1 := blk_alloc (blk_put HP.out.blk 0 (.int .i32 1) rfl) (.cells #[.int .i64 va, .int .i64 vb] 97)
    have hb2 : w3.heap[g]? = some (.cells #[.int .i32 1, .int .u32 0, .map (some bm), .int .i64 pk] 57) := by rw [hgrow3.block g (blk_lt hb1) (fun e => HP.out.ne (by injection e with e; exact e.symm))]; exact hb1
    refine (unlock_deferred muLib ⟨g, 0, none⟩ .returning _ (by simp [World.cell?, hb2]) (by simp [World.frozen?, hb2])).mono ?_
    rintro e u' w'' ⟨rfl, rfl, rfl⟩
    exact ⟨_, results_tmp rfl _ _ _, rfl, HD.out _ ⟨_, _, (((Two.refl _).set 0 _).grown ((World.grownBy_alloc _ _ none).but _)).grown hgrow3, hb2, hown3, rfl⟩⟩
theorem max_if (a b : Int) : (if a < b then b else a) = max a b := by
  split <;> omega
/-- What Hold answers, and what it makes of the map and of the peak. -/
def holdC (D : DataW Unit) (s : ByteArray) (n pk : Int) : Int × DataW Unit × Int :=
  if Maps.has D (.string s.data.toList) = true then (if n < 0 then (1, D, pk) else if n > el (fun a _ => a) (D.atKey (.string s.data.toList) (.agg [.lit (.int .i64 0), .lit (.int .i64 0)])) then (1, D, pk) else (0, D.put (.string s.data.toList) (.agg [.lit (.int .i64 (el (fun a _ => a) (D.atKey (.string s.data.toList) (.agg [.lit (.int .i64 0), .lit (.int .i64 0)])))), .lit (.int .i64 n)]), max pk (wrap64 (sumD (fun _ b => b) (D.put (.string s.data.toList) (.agg [.lit (.int .i64 (el (fun a _ => a) (D.atKey (.string s.data.toList) (.agg [.lit (.int .i64 0), .lit (.int .i64 0)])))), .lit (.int .i64 n)])))))) else (230, D, pk)
theorem look_shape {w : World} {bm n : Nat} {D : DataW Unit} {s : ByteArray} (h : w.ownsMap Try.prog 9 holdR bm n D) (hs : s.size ≤ maxLen) : ∃ va vb, D.atKey (.string s.data.toList) (.agg [.lit (.int .i64 0), .lit (.int .i64 0)]) = .agg [.lit (.int .i64 va), .lit (.int .i64 vb)] := by
  obtain ⟨v, ps, _, hv⟩ := h.lookup law9 Try.underlying55 (zero97 w) (holdR_mk 0 0) (keyOf_string_mk Try.underlying9 hs)
  obtain ⟨va, vb, _, hz⟩ := holdR_inv hv
  exact ⟨va, vb, congrArg Prod.fst hz⟩
set_option maxHeartbeats 4000000 in
set_option maxRecDepth 100000 in
theorem Hold_ok {w : World} {g bm : Nat} {D : DataW Unit} {pk m : Int} {s : ByteArray} (h : PS w g bm D pk) (hs : s.size ≤ maxLen) (hn : Maps.size D < maxLen) : Calls Try.prog 21 #[.pointer (some ⟨g, 0, none⟩), .string s, .int .i64 m] w fun e w' => e = .returned (.int .i64 (holdC D s m pk).1) ∧ PS w' g bm (holdC D s m pk).2.1 (holdC D s m pk).2.2 ∧ Two g bm w w' := by
  obtain ⟨h0, h2, h3, hf⟩ := h.cell
  have hkey := keyOf_string_mk Try.underlying9 hs
  have HP := Aside0.mk h
  obtain ⟨va, vb, hva⟩ := look_shape h.own hs
  have HVA := Aside0.mk hva
  have HN := Aside0.mk hn
  have k2 : (w.setCell ⟨g, 0, none⟩ (.int .i32 1)).cell? ⟨g, 2, none⟩ = some (.map (some bm)) := by have := blk_put h.blk 0 (.int .i32 1) rfl; simp [World.cell?, this]
  have k2b : ∀ o : Obj, ((w.setCell ⟨g, 0, none⟩ (.int .i32 1)).alloc o).cell? ⟨g, 2, none⟩ = some (.map (some bm)) := fun o => by have := blk_alloc (blk_put h.blk 0 (.int .i32 1) rfl) o; simp [World.cell?, this]
  have HO := Aside0.mk (own_locked h (.int .i32 1))
  have hd : ∀ w3 : World, (∃ n D' pk', Two g bm w w3 ∧ w3.heap[g]? = some (.cells #[.int .i32 1, .int .u32 0, .map (some bm), .int .i64 pk'] 57) ∧ w3.ownsMap Try.prog 9 holdR bm n D' ∧ D' = (holdC D s m pk).2.1 ∧ pk' = (holdC D s m pk).2.2) → PS (w3.setCell ⟨g, 0, none⟩ (.int .i32 0)) g bm (holdC D s m pk).2.1 (holdC D s m pk).2.2 ∧ Two g bm w (w3.setCell ⟨g, 0, none⟩ (.int .i32 0)) := by
    rintro w3 ⟨n, D', pk', a, b, c, rfl, rfl⟩
    exact fin h a b c
  have HD := Aside0.mk hd
  clear hd hn
  by_cases c1 : Maps.has D (.string s.data.toList) = true
  case neg =>
    have c1b : Maps.has D (.string s.data.toList) = false := Bool.eq_false_iff.mpr c1
    have e : holdC D s m pk = (230, D, pk) := by unfold holdC; rw [if_neg c1]
    rw [e] at HD ⊢
    clear c1 hva
    go_enter_defers Try.func21, Try.ntmps21
    go_wp2_with (fail)
    refine (is_ok h).mono ?_
    rintro e w' ⟨rfl, rfl⟩
    go_wp2_with (first | (go_at_call 39; refine (lock_free muLib ⟨g, 0, none⟩ _ h0 (hf 0)).mono ?_; rintro e w' ⟨rfl, rfl⟩) | (at_lookup; refine wpList_lookup_own_ok _ rfl _ _ 55 rfl 9 97 law9 Try.underlying55 holdR (zero97 _) (.agg [.lit (.int .i64 0), .lit (.int .i64 0)]) [] (holdR_mk 0 0) bm _ D rfl HO.out _ _ rfl hkey ?_; intro v ps hv; obtain ⟨ua, ub, rfl, hz⟩ := holdR_inv hv; obtain ⟨e5_, e6_⟩ : va = ua ∧ vb = ub := (by have e_ := HVA.out.symm.trans (congrArg Prod.fst hz); injection e_ with e_; injection e_ with e1_ e_; injection e1_ with e1_; injection e1_ with _ e1_; injection e_ with e2_ _; injection e2_ with e2_; injection e2_ with _ e2_; exact ⟨e1_, e2_⟩); subst e5_; subst e6_; clear hv hz))
    refine leaves_cons (f := 40) (args := #[.pointer (some ⟨g, 0, none⟩)]) (by simp) (by simp [go_sem]) ?_
    have hb2 := blk_alloc (blk_put HP.out.blk 0 (.int .i32 1) rfl) (.cells #[.int .i64 va, .int .i64 vb] 97)
    refine (unlock_deferred muLib ⟨g, 0, none⟩ .returning _ (by simp [World.cell?, hb2]) (by simp [World.frozen?, hb2])).mono ?_
    rintro e u' w'' ⟨rfl, rfl, rfl⟩
    exact ⟨_, results_tmp rfl _ _ _, rfl, HD.out _ ⟨_, _, _, ((Two.refl _).set 0 _).grown ((World.grownBy_alloc _ _ none).but _), hb2, HO.out.alloc _, rfl, rfl⟩⟩
  by_cases c2 : m < 0
  · have e : holdC D s m pk = (1, D, pk) := by unfold holdC; rw [if_pos c1, if_pos c2]
    rw [e] at HD ⊢
    have c2b : decide (m < 0) = true := decide_eq_true c2
    clear c2 hva
    go_enter_defers Try.func21, Try.ntmps21
    go_wp2_with (fail)
    refine (is_ok h).mono ?_
    rintro e w' ⟨rfl, rfl⟩
    go_wp2_with (first | (go_at_call 39; refine (lock_free muLib ⟨g, 0, none⟩ _ h0 (hf 0)).mono ?_; rintro e w' ⟨rfl, rfl⟩) | (at_lookup; refine wpList_lookup_own_ok _ rfl _ _ 55 rfl 9 97 law9 Try.underlying55 holdR (zero97 _) (.agg [.lit (.int .i64 0), .lit (.int .i64 0)]) [] (holdR_mk 0 0) bm _ D rfl HO.out _ _ rfl hkey ?_; intro v ps hv; obtain ⟨ua, ub, rfl, hz⟩ := holdR_inv hv; obtain ⟨e5_, e6_⟩ : va = ua ∧ vb = ub := (by have e_ := HVA.out.symm.trans (congrArg Prod.fst hz); injection e_ with e_; injection e_ with e1_ e_; injection e1_ with e1_; injection e1_ with _ e1_; injection e_ with e2_ _; injection e2_ with e2_; injection e2_ with _ e2_; exact ⟨e1_, e2_⟩); subst e5_; subst e6_; clear hv hz))
    refine leaves_cons (f := 40) (args := #[.pointer (some ⟨g, 0, none⟩)]) (by simp) (by simp [go_sem]) ?_
    have hb2 := blk_alloc (blk_put HP.out.blk 0 (.int .i32 1) rfl) (.cells #[.int .i64 va, .int .i64 vb] 97)
    refine (unlock_deferred muLib ⟨g, 0, none⟩ .returning _ (by simp [World.cell?, hb2]) (by simp [World.frozen?, hb2])).mono ?_
    rintro e u' w'' ⟨rfl, rfl, rfl⟩
    exact ⟨_, results_tmp rfl _ _ _, rfl, HD.out _ ⟨_, _, _, ((Two.refl _).set 0 _).grown ((World.grownBy_alloc _ _ none).but _), hb2, HO.out.alloc _, rfl, rfl⟩⟩
  have c2b : decide (m < 0) = false := decide_eq_false c2
  by_cases c3 : m > va
  · have e : holdC D s m pk = (1, D, pk) := by unfold holdC; rw [if_pos c1, if_neg c2, hva, if_pos (show m > el (fun a _ => a) (.agg [.lit (.int .i64 va), .lit (.int .i64 vb)]) from c3)]
    rw [e] at HD ⊢
    have c3b : decide (va < m) = true := decide_eq_true c3
    clear c2 c3 hva
    go_enter_defers Try.func21, Try.ntmps21
    go_wp2_with (fail)
    refine (is_ok h).mono ?_
    rintro e w' ⟨rfl, rfl⟩
    go_wp2_with (first | (go_at_call 39; refine (lock_free muLib ⟨g, 0, none⟩ _ h0 (hf 0)).mono ?_; rintro e w' ⟨rfl, rfl⟩) | (at_lookup; refine wpList_lookup_own_ok _ rfl _ _ 55 rfl 9 97 law9 Try.underlying55 holdR (zero97 _) (.agg [.lit (.int .i64 0), .lit (.int .i64 0)]) [] (holdR_mk 0 0) bm _ D rfl HO.out _ _ rfl hkey ?_; intro v ps hv; obtain ⟨ua, ub, rfl, hz⟩ := holdR_inv hv; obtain ⟨e5_, e6_⟩ : va = ua ∧ vb = ub := (by have e_ := HVA.out.symm.trans (congrArg Prod.fst hz); injection e_ with e_; injection e_ with e1_ e_; injection e1_ with e1_; injection e1_ with _ e1_; injection e_ with e2_ _; injection e2_ with e2_; injection e2_ with _ e2_; exact ⟨e1_, e2_⟩); subst e5_; subst e6_; clear hv hz))
    refine leaves_cons (f := 40) (args := #[.pointer (some ⟨g, 0, none⟩)]) (by simp) (by simp [go_sem]) ?_
    have hb2 := blk_alloc (blk_put HP.out.blk 0 (.int .i32 1) rfl) (.cells #[.int .i64 va, .int .i64 vb] 97)
    refine (unlock_deferred muLib ⟨g, 0, none⟩ .returning _ (by simp [World.cell?, hb2]) (by simp [World.frozen?, hb2])).mono ?_
    rintro e u' w'' ⟨rfl, rfl, rfl⟩
    exact ⟨_, results_tmp rfl _ _ _, rfl, HD.out _ ⟨_, _, _, ((Two.refl _).set 0 _).grown ((World.grownBy_alloc _ _ none).but _), hb2, HO.out.alloc _, rfl, rfl⟩⟩
  have c3b : decide (va < m) = false := decide_eq_false c3
  have e : holdC D s m pk = (0, D.put (.string s.data.toList) (.agg [.lit (.int .i64 va), .lit (.int .i64 m)]), max pk (wrap64 (sumD (fun _ b => b) (D.put (.string s.data.toList) (.agg [.lit (.int .i64 va), .lit (.int .i64 m)]))))) := by unfold holdC; rw [if_pos c1, if_neg c2, hva, if_neg (show ¬ m > el (fun a _ => a) (.agg [.lit (.int .i64 va), .lit (.int .i64 vb)]) from c3)]; rfl
  rw [e] at HD ⊢
  clear c2 c3 hva e
  · skip
    go_enter_defers Try.func21, Try.ntmps21
    go_wp2_with (fail)
    refine (is_ok h).mono ?_
    rintro e w' ⟨rfl, rfl⟩
    go_wp2_with (first | (go_at_call 39; refine (lock_free muLib ⟨g, 0, none⟩ _ h0 (hf 0)).mono ?_; rintro e w' ⟨rfl, rfl⟩) | (at_lookup; refine wpList_lookup_own_ok _ rfl _ _ 55 rfl 9 97 law9 Try.underlying55 holdR (zero97 _) (.agg [.lit (.int .i64 0), .lit (.int .i64 0)]) [] (holdR_mk 0 0) bm _ D rfl HO.out _ _ rfl hkey ?_; intro v ps hv; obtain ⟨ua, ub, rfl, hz⟩ := holdR_inv hv; obtain ⟨e5_, e6_⟩ : va = ua ∧ vb = ub := (by have e_ := HVA.out.symm.trans (congrArg Prod.fst hz); injection e_ with e_; injection e_ with e1_ e_; injection e1_ with e1_; injection e1_ with _ e1_; injection e_ with e2_ _; injection e2_ with e2_; injection e2_ with _ e2_; exact ⟨e1_, e2_⟩); subst e5_; subst e6_; clear hv hz))
    have HB1 := Aside0.mk (blk_alloc (blk_put HP.out.blk 0 (.int .i32 1) rfl) (.cells #[.int .i64 va, .int .i64 vb] 97))
    have HO1 := Aside0.mk (HO.out.alloc (.cells #[.int .i64 va, .int .i64 vb] 97))
    have HT1 := Aside0.mk (((Two.refl (g := g) (bm := bm) w').set 0 (.int .i32 1)).grown ((World.grownBy_alloc _ (.cells #[.int .i64 va, .int .i64 vb] 97) none).but _))
    have hx : ((w'.setCell ⟨g, 0, none⟩ (.int .i32 1)).alloc (.cells #[.int .i64 va, .int .i64 vb] 97)).heap[w'.heap.size]? = some (.cells #[.int .i64 va, .int .i64 vb] 97) := by have := blk_new (w'.setCell ⟨g, 0, none⟩ (.int .i32 1)) (.cells #[.int .i64 va, .int .i64 vb] 97); rw [show (w'.setCell ⟨g, 0, none⟩ (.int .i32 1)).heap.size = w'.heap.size by simp [World.setCell]] at this; exact this
    have HX1 := Aside0.mk hx
    clear hx HO k2 k2b
    generalize ((w'.setCell ⟨g, 0, none⟩ (.int .i32 1)).alloc (.cells #[.int .i64 va, .int .i64 vb] 97)) = W1 at HB1 HO1 HT1 HX1 ⊢
    refine wp_region_still_tail 9 (by kernel_rfl) (by kernel_rfl) ?_
    simp only [List.take_succ_cons, List.take_zero, List.drop_succ_cons, List.drop_zero]
    show wpStill _ _ (World.drewN W1 1) (fun a' => wpList _ _ _ _ a' (World.drewN W1 1)) _ _
    have HB2 := Aside0.mk (blk_drewN HB1.out 1)
    have HX2 := Aside0.mk (blk_drewN HX1.out 1)
    have HO2 := Aside0.mk (show (W1.drewN 1).ownsMap Try.prog 9 holdR bm (Maps.size D) D from HO1.out)
    have HT2 := Aside0.mk (show Two g bm w' (W1.drewN 1) from ⟨HT1.out.os, HT1.out.tape, HT1.out.output, HT1.out.size, HT1.out.block⟩)
    generalize World.drewN W1 1 = W2 at HB2 HX2 HO2 HT2 ⊢
    have x0 : W2.cell? ⟨w'.heap.size, 0, none⟩ = some (.int .i64 va) := by simp [World.cell?, HX2.out]
    have k2 : W2.cell? ⟨g, 2, none⟩ = some (.map (some bm)) := by simp [World.cell?, HB2.out]
    clear HB1 HX1 HO1 HT1
    repeat still_step
    (try refine wpStill_nil ?_)
    go_wp2_with (first | (at_mapUpdate; go_loud (refine wpList_mapUpdate_own _ rfl _ _ _ 55 rfl 9 97 law9 Try.underlying55 holdR bm _ D rfl HO2.out HN.out _ _ _ rfl rfl hkey _ [] (holdR_mk _ _) ?_); intro w3 hown3 hgrow3))
    have hb3 : w3.heap[g]? = some (.cells #[.int .i32 1, .int .u32 0, .map (some bm), .int .i64 pk] 57) := by rw [hgrow3.block g (blk_lt HB2.out) (fun e => HP.out.ne (by injection e with e; exact e.symm))]; exact HB2.out
    have k3 : w3.cell? ⟨g, 3, none⟩ = some (.int .i64 pk) := by simp [World.cell?, hb3]
    have f3 : w3.frozen? ⟨g, 3, none⟩ = false := by simp [World.frozen?, hb3]
    have HB3 := Aside0.mk hb3
    have HO3 := Aside0.mk (own_tight hown3)
    have HT3 := Aside0.mk (HT2.out.grown hgrow3)
    clear hb3 hown3 hgrow3 HB2 HO2 HT2 HX2 x0 k2
    refine wp_region_noPanic ?_
    go_region_with
      (first | (go_at_call 41; refine (sum_ok (f := fun _ b => b) (.inr (.inl rfl)) holdF_ok (show (World.drew w3).heap[g]? = _ from HB3.out) (show (World.drew w3).ownsMap _ _ _ _ _ _ from HO3.out)).mono ?_; rintro e w4 ⟨rfl, hB⟩; have hb4 : w4.heap[g]? = some (.cells #[.int .i32 1, .int .u32 0, .map (some bm), .int .i64 pk] 57) := blk_below (show (World.drew w3).heap[g]? = _ from HB3.out) hB; have k4 : w4.cell? ⟨g, 3, none⟩ = some (.int .i64 pk) := (by simp [World.cell?, hb4]); have f4 : w4.frozen? ⟨g, 3, none⟩ = false := (by simp [World.frozen?, hb4]); have HB4 := Aside0.mk hb4; have hB' : Below w3.heap.size w3 w4 := ⟨hB.os, hB.tape, hB.output, hB.size, hB.block⟩; have HO4 := Aside0.mk (show w4.ownsMap Try.prog 9 holdR bm _ _ from by obtain ⟨es, clock, hb, r⟩ := HO3.out; exact ⟨es, clock, by rw [hB'.block bm HO3.out.lt]; exact hb, r⟩); have HT4 := Aside0.mk (HT3.out.trans (Two.of_below hB')); clear hb4 hB hB'))
    all_goals
      refine NoPanic.normal ?_
      clear k3 f3 HB3 HO3 HT3
      simp only [max_if]
      go_wp2
      refine leaves_cons (f := 40) (args := #[.pointer (some ⟨g, 0, none⟩)]) (by simp) (by simp [go_sem]) ?_
      have hb2 := blk_put HB4.out 3 (.int .i64 (max pk (wrap64 (sumD (fun _ b => b) (D.put (.string s.data.toList) (.agg [.lit (.int .i64 va), .lit (.int .i64 m)])))))) rfl
      refine (unlock_deferred muLib ⟨g, 0, none⟩ .returning _ (by simp [World.cell?, hb2]) (by simp [World.frozen?, hb2])).mono ?_
      rintro e u' w'' ⟨rfl, rfl, rfl⟩
      exact ⟨_, results_tmp rfl _ _ _, rfl, HD.out _ ⟨_, _, _, HT4.out.set 3 _, hb2, HO4.out.setCell HP.out.ne _, rfl, rfl⟩⟩
end Go.Proofs.Ytbdlkpmaalhnnaa.X
