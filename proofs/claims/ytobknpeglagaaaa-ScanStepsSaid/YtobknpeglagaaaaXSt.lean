/- By hand: scan.Steps. -/
import Derived.Test.YtobknpeglagaaaaXSw
import Derived.Test.YtobknpeglagaaaaXx24
import Derived.Test.YtobknpeglagaaaaXx18
namespace Go.Proofs.Ytobknpeglagaaaa.X
open Go.RowKit Go.Proofs.YtobknpeglagaaaaW.PrintWords Go.Proofs.YtobknpeglagaaaaW.PrintLast Go.Proofs.YtobknpeglagaaaaW.PrintMore
attribute [local go_sem] max2_int min2_int max_two min_two
set_option linter.unusedVariables false
set_option linter.unusedSimpArgs false

def stl : Nat → List S48 → List Int → List Int → Wk → Option Wk
 | 0, _, _, _, _ => none
 | k + 1, x, old, next, s => if s.a < (next.length : Int) then ((lookF k x old next s).bind fun s1 => (if s1.n = s1.sc then (if s1.a = (next.length : Int) then ((stepF old next s1).bind fun s2 => stl k x old next s2) else stl k x old next s1) else ((stepF old next s1).bind fun s2 => stl k x old next s2))) else some s
theorem lookF_mono (k : Nat) (x : List S48) (old next : List Int) (s : Wk) : LeO (lookF k x old next s) (lookF (k + 1) x old next s) := lk0_mono k x old next _
theorem stl_mono : ∀ k x old next s, LeO (stl k x old next s) (stl (k + 1) x old next s)
 | 0, _, _, _, _ => fun r h => by simp [stl] at h
 | k + 1, x, old, next, s => by
  unfold stl
  refine LeO.ite (LeO.bind (lookF_mono _ _ _ _ _) (fun _ => LeO.ite (LeO.ite (LeO.bind (LeO.refl _) (fun _ => stl_mono k _ _ _ _)) (stl_mono k _ _ _ _)) (LeO.bind (LeO.refl _) (fun _ => stl_mono k _ _ _ _)))) (LeO.refl _)
def scan_Steps.f (k : Nat) (l0 : List S48) (l1 : List Int) : Option (List S39 × Int) := (find_Range.f k l0 []).bind fun t => (if t.2.2 = 0 then (if (l1.length : Int) > 16777216 then some ([], 150) else ((suffix_Index_Data.f l0).bind fun old => ((stl k l0 old l1 ⟨0, 0, 0, 0, 0, 0, 0, 0, []⟩).bind fun s => some (s.st, 0)))) else some ([], t.2.2))
theorem scan_Steps.mono : ∀ a0 a1 k, LeO (scan_Steps.f k a0 a1) (scan_Steps.f (k + 1) a0 a1) := by
 intro a0 a1 k
 unfold scan_Steps.f
 refine LeO.bind (find_Range.mono _ _ _) (fun _ => LeO.ite (LeO.ite (LeO.refl _) (LeO.bind (LeO.refl _) (fun _ => LeO.bind (stl_mono _ _ _ _ _) (fun _ => LeO.refl _)))) (LeO.refl _))
set_option maxHeartbeats 8000000 in
set_option maxRecDepth 100000 in
theorem scan_Steps.calls (k : Nat) (A0 : Option Addr) (c0 : Nat) (l0 : List S48) (A1 : Option Addr) (c1 : Nat) (l1 : List Int) (r1 : List S39) (r2 : Int) (w : World) (hr0 : Kd.C k48 w A0 l0.length l0) (hc0 : l0.length ≤ c0) (hr1 : Kd.C (Kd.int .u8) w A1 l1.length l1) (hc1 : l1.length ≤ c1) (h : scan_Steps.f k l0 l1 = some (r1, r2)) :
  Calls Try.prog 12 #[ptrOf (.slice A0 l0.length c0), .slice A1 l1.length c1] w fun e w' => ∃ v0_ : Value, e = .returned (.tuple #[v0_, .int .i64 r2]) ∧ Kd.R k39 39 w' w.heap.size (fun _ => True) v0_ r1 ∧ Below w.heap.size w w' := by
 have HX := Aside0.mk hr0
 have HCX := Aside0.mk hc0
 have HN := Aside0.mk hr1
 have HCN := Aside0.mk hc1
 clear hr0 hc0 hr1 hc1
 unfold scan_Steps.f at h
 replace h := Option.bind_eq_some_iff.mp h
 obtain ⟨⟨t1, t2, t3⟩, hF, h⟩ := h
 have F1 := Aside0.mk hF
 clear hF
 dsimp only at h
 obtain ⟨q, hq⟩ : ∃ q, ptrOf (.slice A0 l0.length c0) = .pointer q := by
  show ∃ q, (if l0.length = 0 then _ else _) = _
  split <;> exact ⟨_, rfl⟩
 rw [hq]
 have HQ := Aside0.mk hq
 clear hq
 have HB := Aside0.mk (Below.refl w.heap.size w)
 by_cases c1 : t3 = 0
 case neg =>
  rw [if_neg c1] at h
  simp only [Option.some.injEq, Prod.mk.injEq] at h
  obtain ⟨rfl, rfl⟩ := h
  have c1b : (t3 != 0) = true := bne_iff_ne.mpr c1
  clear c1
  go_enter Try.func12, Try.ntmps12
  go_wp2_with (fail)
  rw [← HQ.out]
  refine (find_Range.calls k A0 c0 l0 none 0 [] t1 t2 t3 _ HX.out HCX.out (Kd.C_nil _ _) (Nat.le_refl _) F1.out).mono ?_
  rintro e w' ⟨rfl, hB⟩
  go_wp2
  go_ret2
  exact ⟨_, rfl, Kd.R_nil _ _ _ _ _, hB⟩
 rw [if_pos c1] at h
 subst c1
 by_cases c2 : (l1.length : Int) > 16777216
 ·rw [if_pos c2] at h
  simp only [Option.some.injEq, Prod.mk.injEq] at h
  obtain ⟨rfl, rfl⟩ := h
  have c2b : decide ((16777216 : Int) < (l1.length : Int)) = true := decide_eq_true c2
  have c2c : decide (16777216 < l1.length) = true := decide_eq_true (by omega)
  clear c2
  go_enter Try.func12, Try.ntmps12
  go_wp2_with (fail)
  rw [← HQ.out]
  refine (find_Range.calls k A0 c0 l0 none 0 [] t1 t2 0 _ HX.out HCX.out (Kd.C_nil _ _) (Nat.le_refl _) F1.out).mono ?_
  rintro e w' ⟨rfl, hB⟩
  go_wp2
  go_ret2
  exact ⟨_, rfl, Kd.R_nil _ _ _ _ _, hB⟩
 rw [if_neg c2] at h
 replace h := Option.bind_eq_some_iff.mp h
 obtain ⟨old, hD, h⟩ := h
 have F2 := Aside0.mk hD
 clear hD
 replace h := Option.bind_eq_some_iff.mp h
 obtain ⟨sf, hS, h⟩ := h
 have H := Aside0.mk hS
 clear hS
 simp only [Option.some.injEq, Prod.mk.injEq] at h
 obtain ⟨rfl, rfl⟩ := h
 have c2b : decide ((16777216 : Int) < (l1.length : Int)) = false := decide_eq_false c2
 have c2c : decide (16777216 < l1.length) = false := decide_eq_false (by omega)
 clear c2
 go_enter Try.func12, Try.ntmps12
 go_wp2_with (fail)
 rw [← HQ.out]
 refine (find_Range.calls k A0 c0 l0 none 0 [] t1 t2 0 _ HX.out HCX.out (Kd.C_nil _ _) (Nat.le_refl _) F1.out).mono ?_
 rintro e w1 ⟨rfl, hB⟩
 have HB1 := Aside0.mk hB
 clear hB
 rw [HQ.out]
 go_wp2_with (fail)
 rw [← HQ.out]
 refine (suffix_Index_Data.calls A0 c0 l0 old _ (Kd.C_below HX.out HB1.out) HCX.out F2.out).mono ?_
 rintro e w2 ⟨vO, rfl, hO, hB⟩
 rw [HQ.out]
 obtain ⟨AO, cO, eO⟩ := Kd.R_slice hO
 subst eO
 have HB2 := Aside0.mk (below_step HB1.out hB)
 have HO := Aside0.mk (Kd.R_tight rfl (Kd.R_lower hO HB1.out.size))
 clear hB hO HB1
 go_wp2
 have HS : Aside0 (WS w (w2.alloc (.cells #[.pointer q, .slice AO old.length cO, .slice A1 l1.length c1, .int .i64 0, .int .i64 0, .int .i64 0, .int .i64 0, .int .i64 0, .int .i64 0, .int .i64 0, .int .i64 0, .slice none 0 0] 55)) w2.heap.size q (.slice AO old.length cO) (.slice A1 l1.length c1) (.slice none 0 0) old ⟨0, 0, 0, 0, 0, 0, 0, 0, []⟩) := ⟨⟨below_alloc HB2.out _, HB2.out.size, blk_new _ _, Kd.R_alloc HO.out _, Kd.R_nil _ _ _ _ _⟩⟩
 obtain ⟨g, hg⟩ : ∃ g, g = w2.heap.size := ⟨_, rfl⟩
 rw [← hg] at HS ⊢
 generalize (w2.alloc (.cells #[.pointer q, .slice AO old.length cO, .slice A1 l1.length c1, .int .i64 0, .int .i64 0, .int .i64 0, .int .i64 0, .int .i64 0, .int .i64 0, .int .i64 0, .int .i64 0, .slice none 0 0] 55)) = w3 at HS ⊢
 clear hg HB HB2 HO F1 F2 c2b c2c
 go_loopg [30] k (fun kq v30 w' => ∃ (s_ : Wk) (vS : Value), Aside0 (stl kq l0 old l1 s_ = some sf) ∧ Aside0 (kq ≤ k) ∧ Aside0 (WS w w' g q (.slice AO old.length cO) (.slice A1 l1.length c1) vS old s_))
 case atStart => exact ⟨_, _, H, ⟨Nat.le_refl _⟩, HS⟩
 case round =>
  clear H HS
  obtain ⟨s_, vS, HA, HK1, HS⟩ := hrel
  obtain ⟨AS, cS, eS⟩ := Kd.R_slice HS.out.hS
  subst eS
  cases gk with
  | zero => exact absurd HA.out (by simp [stl])
  | succ k1 =>
   have h := HA.out
   clear HA
   simp only [stl] at h
   have k6 : wr.cell? ⟨g, 6, none⟩ = some (.int .i64 s_.a) := HS.out.cell 6
   by_cases c1 : s_.a < (l1.length : Int)
   case neg =>
    rw [if_neg c1] at h
    obtain rfl := Option.some.inj h
    have k11 : wr.cell? ⟨g, 11, none⟩ = some (.slice AS s_.st.length cS) := HS.out.cell 11
    have c1b : decide (s_.a < (l1.length : Int)) = false := decide_eq_false c1
    clear c1 h
    go_wp2
    go_ret2
    exact ⟨_, rfl, Kd.R_mono HS.out.hS (fun _ _ => trivial), HS.out.hb⟩
   rw [if_pos c1] at h
   have c1b : decide (s_.a < (l1.length : Int)) = true := decide_eq_true c1
   clear c1
   replace h := Option.bind_eq_some_iff.mp h
   obtain ⟨s1, hL, h⟩ := h
   have F3 := Aside0.mk hL
   clear hL
   go_wp2_with (fail)
   refine (look_calls k1 HS.out HQ.out HX.out HCX.out HN.out HCN.out F3.out).mono ?_
   rintro e w4 ⟨rfl, hs4⟩
   have HS4 := Aside0.mk hs4
   have k7 : w4.cell? ⟨g, 7, none⟩ = some (.int .i64 s1.n) := hs4.cell 7
   have k9 : w4.cell? ⟨g, 9, none⟩ = some (.int .i64 s1.sc) := hs4.cell 9
   have k6' : w4.cell? ⟨g, 6, none⟩ = some (.int .i64 s1.a) := hs4.cell 6
   clear hs4 k6 HS c1b F3
   by_cases c3 : s1.n = s1.sc
   ·rw [if_pos c3] at h
    have c3b : (s1.n != s1.sc) = false := bne_eq_false_iff_eq.mpr c3
    clear c3
    by_cases c4 : s1.a = (l1.length : Int)
    ·rw [if_pos c4] at h
     have c4b : (s1.a == (l1.length : Int)) = true := beq_iff_eq.mpr c4
     clear c4
     replace h := Option.bind_eq_some_iff.mp h
     obtain ⟨s2, hG, h⟩ := h
     have F4 := Aside0.mk hG
     have H' := Aside0.mk h
     clear hG h
     go_wp2
     go_quiet (fail)
     go_wp2_with (fail)
     refine (step_calls (HS4.out.drewN nq) HN.out HCN.out F4.out).mono ?_
     rintro e w5 ⟨rfl, vS2, hs5⟩
     have HS5 := Aside0.mk hs5
     clear hs5
     go_wp2
     go_roundg k1
     case measure => have := HK1.out; omega
     case rel => exact ⟨s2, vS2, H', ⟨by have := HK1.out; omega⟩, HS5⟩
    ·rw [if_neg c4] at h
     have c4b : (s1.a == (l1.length : Int)) = false := beq_eq_false_iff_ne.mpr c4
     have H' := Aside0.mk h
     clear c4 h
     go_wp2
     go_quiet (fail)
     go_wp2
     go_roundg k1
     case measure => have := HK1.out; omega
     case rel => exact ⟨s1, _, H', ⟨by have := HK1.out; omega⟩, ⟨HS4.out.drewN _⟩⟩
   ·rw [if_neg c3] at h
    have c3b : (s1.n != s1.sc) = true := bne_iff_ne.mpr c3
    clear c3
    replace h := Option.bind_eq_some_iff.mp h
    obtain ⟨s2, hG, h⟩ := h
    have F4 := Aside0.mk hG
    have H' := Aside0.mk h
    clear hG h
    go_wp2
    go_quiet (fail)
    go_wp2_with (fail)
    refine (step_calls (HS4.out.drewN nq) HN.out HCN.out F4.out).mono ?_
    rintro e w5 ⟨rfl, vS2, hs5⟩
    have HS5 := Aside0.mk hs5
    clear hs5
    go_wp2
    go_roundg k1
    case measure => have := HK1.out; omega
    case rel => exact ⟨s2, vS2, H', ⟨by have := HK1.out; omega⟩, HS5⟩
end Go.Proofs.Ytobknpeglagaaaa.X
