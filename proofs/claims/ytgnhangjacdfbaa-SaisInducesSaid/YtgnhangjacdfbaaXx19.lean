-- Printed by wip/xprint.py of this repo (a wrapper of the session's own round the print).
import Derived.Test.YtgnhangjacdfbaaXx0
import Derived.Test.YtgnhangjacdfbaaXBA
import Derived.Test.YtgnhangjacdfbaaXx18
namespace Go.Proofs.Ytgnhangjacdfbaa.X
open Go.RowKit Go.Proofs.YtgnhangjacdfbaaW.PrintWords Go.Proofs.YtgnhangjacdfbaaW.PrintLast Go.Proofs.YtgnhangjacdfbaaW.PrintMore
attribute [local go_sem] max2_int min2_int max_two min_two max_three min_three max_four min_four   -- for this text's walks alone
set_option linter.unusedVariables false
set_option linter.unusedSimpArgs false

/-! ### sapperref12_turns: function 38 -/
mutual
def sapperref12_turns.l0 : Nat → List Int → List Int → Int → List Int → List Bool → Option (Bool)
 | 0, _, _, _, _, _ => none
 | k + 1, x0, x1, x7, x10, x18 => if x7 < (x10.length : Int) then (if 0 ≤ x7 then (if 0 ≤ (rd x10 x7) then (if (rd x10 x7) < (x18.length : Int) then (sapperref12_turns.l0 k x0 x1 (wrap64 (x7 + 1)) x10 (x18.set ((rd x10 x7) : Int).toNat true)) else (none)) else (none)) else (none)) else (sapperref12_turns.l1 k x0 x1 0 x18)
def sapperref12_turns.l1 : Nat → List Int → List Int → Int → List Bool → Option (Bool)
 | 0, _, _, _, _ => none
 | k + 1, x0, x1, x8, x18 => if x8 < (x1.length : Int) then (if 0 ≤ x8 then (if (rd x1 x8) < 0 then (some false) else (if (rd x1 x8) ≥ (x0.length : Int) then (some false) else (if 0 ≤ (rd x1 x8) then (if (rd x1 x8) < (x18.length : Int) then (if (rdOf false x18 (rd x1 x8) = true) then (sapperref12_turns.l1 k x0 x1 (wrap64 (x8 + 1)) (x18.set ((rd x1 x8) : Int).toNat false)) else (some false)) else (none)) else (none)))) else (none)) else (some true)
end
def sapperref12_turns.f (k : Nat) (l0 : List Int) (l1 : List Int) : Option (Bool) := (sapperref12_Lms.f k l0).bind fun t308 => (if (t308.length : Int) = (l1.length : Int) then (if 0 ≤ (l0.length : Int) then (if ((l0.length : Int) : Int).toNat ≤ 281474976710656 then (sapperref12_turns.l0 k l0 l1 0 t308 (List.replicate ((l0.length : Int) : Int).toNat false)) else (none)) else (none)) else (some false))
theorem sapperref12_turns.mono_l : ∀ k, (∀ y0 y1 y2 y3 y4, LeO (sapperref12_turns.l0 k y0 y1 y2 y3 y4) (sapperref12_turns.l0 (k + 1) y0 y1 y2 y3 y4)) ∧ (∀ y0 y1 y2 y3, LeO (sapperref12_turns.l1 k y0 y1 y2 y3) (sapperref12_turns.l1 (k + 1) y0 y1 y2 y3))
 | 0 => ⟨fun _ _ _ _ _ r h => by simp [sapperref12_turns.l0] at h, fun _ _ _ _ r h => by simp [sapperref12_turns.l1] at h⟩
 | k + 1 => by
  obtain ⟨ih0, ih1⟩ := sapperref12_turns.mono_l k
  refine ⟨?_, ?_⟩
  intro y0 y1 y2 y3 y4; unfold sapperref12_turns.l0; rotate_left
  intro y0 y1 y2 y3; unfold sapperref12_turns.l1; rotate_left
  all_goals
   repeat' first
   | (with_reducible exact ih0 _ _ _ _ _)
   | (with_reducible exact ih1 _ _ _ _)
   | (with_reducible exact sapperref12_Lms.mono _ _)
   | (with_reducible exact LeO.refl _)
   | (with_reducible exact LeO.none _)
   | (with_reducible refine LeO.ite ?_ ?_)
   | (with_reducible refine LeO.bind ?_ (fun _ => ?_))
   | exact ih0 _ _ _ _ _
   | exact ih1 _ _ _ _
   | exact sapperref12_Lms.mono _ _
   | exact LeO.none _
   | refine LeO.ite ?_ ?_
   | refine LeO.bind ?_ (fun _ => ?_)
theorem sapperref12_turns.mono : ∀ a0 a1 k, LeO (sapperref12_turns.f k a0 a1) (sapperref12_turns.f (k + 1) a0 a1) := by
 intro a0 a1 k
 obtain ⟨ih0, ih1⟩ := sapperref12_turns.mono_l k
 unfold sapperref12_turns.f
 repeat' first
   | (with_reducible exact ih0 _ _ _ _ _)
   | (with_reducible exact ih1 _ _ _ _)
   | (with_reducible exact sapperref12_Lms.mono _ _)
   | (with_reducible exact LeO.refl _)
   | (with_reducible exact LeO.none _)
   | (with_reducible refine LeO.ite ?_ ?_)
   | (with_reducible refine LeO.bind ?_ (fun _ => ?_))
   | exact ih0 _ _ _ _ _
   | exact ih1 _ _ _ _
   | exact sapperref12_Lms.mono _ _
   | exact LeO.none _
   | refine LeO.ite ?_ ?_
   | refine LeO.bind ?_ (fun _ => ?_)
set_option maxHeartbeats 8000000 in
set_option maxRecDepth 100000 in
theorem sapperref12_turns.calls (k : Nat) (A0 : Option Addr) (c0 : Nat) (l0 : List Int) (A1 : Option Addr) (c1 : Nat) (l1 : List Int) (r : Bool) (w : World) (hr0 : Kd.C (Kd.int .i64) w A0 l0.length l0) (hc0 : l0.length ≤ c0) (hr1 : Kd.C (Kd.int .i64) w A1 l1.length l1) (hc1 : l1.length ≤ c1) (h : sapperref12_turns.f k l0 l1 = some r) :
  Calls Try.prog 38 #[.slice A0 l0.length c0, .slice A1 l1.length c1] w fun e w' => e = .returned (.bool r) ∧ Below w.heap.size w w' := by
 have HR0 := Aside0.mk hr0; have HC0 := Aside0.mk hc0; clear hr0 hc0; have HR1 := Aside0.mk hr1; have HC1 := Aside0.mk hc1; clear hr1 hc1; have HB := Aside0.mk (Below.refl w.heap.size w); have H : ((sapperref12_Lms.f k l0).bind fun t308 => (if (t308.length : Int) = (l1.length : Int) then (if 0 ≤ (l0.length : Int) then (if ((l0.length : Int) : Int).toNat ≤ 281474976710656 then (sapperref12_turns.l0 k l0 l1 0 t308 (List.replicate ((l0.length : Int) : Int).toNat false)) else (none)) else (none)) else (some false))) = some r := h; clear h; replace H := Option.bind_eq_some_iff.mp H; obtain ⟨t308, A30, H⟩ := H; replace H : (if (t308.length : Int) = (l1.length : Int) then (if 0 ≤ (l0.length : Int) then (if ((l0.length : Int) : Int).toNat ≤ 281474976710656 then (sapperref12_turns.l0 k l0 l1 0 t308 (List.replicate ((l0.length : Int) : Int).toNat false)) else (none)) else (none)) else (some false)) = some r := H; have A3 := Aside0.mk A30; clear A30
 by_cases c4 : (t308.length : Int) = (l1.length : Int)
 ·rw [if_pos c4] at H
  have c4b0 : ((t308.length : Int) == (l1.length : Int)) = true := beq_iff_eq.mpr c4; have c4b1 : ((t308.length : Int) != (l1.length : Int)) = false := bne_eq_false_iff_eq.mpr c4
  have c4b2 : (t308.length == l1.length) = true := by first | simpa using c4 | (simp at c4 ⊢; omega)
  clear c4
  by_cases c5 : 0 ≤ (l0.length : Int)
  ·rw [if_pos c5] at H
   have c5b0 := eq_true c5; have c5b1 : decide (0 ≤ (l0.length : Int)) = true := decide_eq_true c5; clear c5
   by_cases c6 : ((l0.length : Int) : Int).toNat ≤ 281474976710656
   ·rw [if_pos c6] at H
    have c6b0 := eq_true c6; have c6b1 : decide (((l0.length : Int) : Int).toNat ≤ 281474976710656) = true := decide_eq_true c6; clear c6; obtain ⟨y311, hy311⟩ : ∃ y_ : List Bool, y_ = (List.replicate ((l0.length : Int) : Int).toNat false) := ⟨_, rfl⟩
    replace H : (sapperref12_turns.l0 k l0 l1 0 t308 y311) = some r := by first | (rw [hy311]; with_reducible exact H) | (have H2_ := (Option.bind_some _ _).symm.trans H; rw [hy311]; with_reducible exact H2_) | (have H2_ := (Option.bind_some _ _).symm.trans H; with_reducible exact H2_) | with_reducible exact H | (rw [hy311]; exact H) | exact H
    have Ny311 := Aside0.mk hy311; clear hy311; have H' := Aside0.mk H; clear H
    go_enter Try.func38, Try.ntmps38
    go_wp2_with (first | ((with_reducible refine gate_callee (f := 18) rfl ?_); refine goesL_ (some 10) rfl rfl Try.func18 (by kernel_rfl) rfl #[.slice A0 l0.length c0] rfl (by (try simp only [List.map_toArray, List.map_cons, List.map_nil]); first | done | rfl | (simp only [List.length_drop, List.length_take]; rfl)) ?_; (with_reducible refine (sapperref12_Lms.calls k _ _ l0 t308 _ ?side1 ?side2 A3.out).mono ?_); (case side1 => repeat (first | exact HR0.out | (with_reducible first|refine Qd ?_ _|refine Qe ?_ _|refine Qf ?_))); (case side2 => exact HC0.out); rintro e w7 ⟨v309, rfl, ho0, hb⟩; refine ⟨_, rfl, ?_⟩; have n0_ := Aside0.mk (Kd.R_lower ho0 (below_size (by repeat first|(with_reducible first|exact HB.out|apply Qg|apply Qh|apply Qi)|exact HB.out))); have n1_ := Aside0.mk (below_step (by repeat first|(with_reducible first|exact HB.out|apply Qg|apply Qh|apply Qi)|exact HB.out) hb); clear HB; have HO310 := n0_; have HB := n1_; clear n0_ n1_; (try clear hb); (try clear hb2); (try clear hk); (try clear hi); (try clear ho0); obtain ⟨Ao8, co8, eo8⟩ := Kd.R_slice HO310.out; subst eo8) | ((with_reducible refine gate_dst (N := 18) rfl ?_); (try (refine gate_guard (by rfl) ?_; dsimp only)); refine Kd.R_make Kd.bool _ 4 rfl (N := 18) rfl 29 _ _ rfl (l0.length : Int) rfl rfl Try.underlying29 (.bool false) 1 info4 rfl (by decide) (by omega) false (ok := fun _ => True) (okp := fun _ => True) rfl (fun _ hk => hk) trivial (Qt) (Nat.le_trans (Nat.mul_le_mul_right _ (Qt : (l0.length : Int).toNat ≤ 281474976710656)) (by omega)) (Below.refl _ _) (Nat.le_refl _) ?_; intro v312 w9 ho10 hb hg_ hnew_; clear hg_ hnew_; (first | rw [← Ny311.out] at ho10 | (simp only [Int.reduceToNat] at ho10; rw [← Ny311.out] at ho10)); have n0_ := Aside0.mk (Kd.R_below (by (with_reducible repeat first|apply Qa|apply Qb|apply Qc); exact HO310.out) hb); have n1_ := Aside0.mk (Kd.R_lower ho10 (below_size (by repeat first|(with_reducible first|exact HB.out|apply Qg|apply Qh|apply Qi)|exact HB.out))); have n2_ := Aside0.mk (below_step (by repeat first|(with_reducible first|exact HB.out|apply Qg|apply Qh|apply Qi)|exact HB.out) hb); clear HO310; clear HB; have HO310 := n0_; have HO313 := n1_; have HB := n2_; clear n0_ n1_ n2_; clear hb ho10))
    go_loopg [7] k (fun kq v7 w' => ∃ (x7_1 : Int) (x18_1 : List Bool), v7 = .int .i64 x7_1 ∧ Aside0 (sapperref12_turns.l0 kq l0 l1 x7_1 t308 x18_1 = some r) ∧ Aside0 (kq ≤ k) ∧ Aside0 (Kd.R (Kd.int .i64) 3 w' w.heap.size (fun _ => True) (.slice Ao8 t308.length co8) t308) ∧ Aside0 (Kd.R Kd.bool 4 w' w.heap.size (fun _ => True) v312 x18_1) ∧ Aside0 (Below w.heap.size w w'))
    case atStart => exact ⟨(0), (y311), (by first | rfl | (simp; done) | (simp [*]; done)), H', ⟨Nat.le_refl _⟩, ⟨by (with_reducible repeat first|apply Qa|apply Qb|apply Qc); exact HO310.out⟩, ⟨by (with_reducible repeat first|apply Qa|apply Qb|apply Qc); exact HO313.out⟩, ⟨by repeat first|(with_reducible first|exact HB.out|apply Qg|apply Qh|apply Qi)|exact HB.out⟩⟩
    case round =>
     clear H'; (try clear c1); (try clear p2); (try clear c3); (try clear c4); (try clear c4b0); (try clear c4b1); (try clear c4b2); (try clear c5); (try clear c5b0); (try clear c5b1); (try clear c6); (try clear c6b0); (try clear c6b1); obtain ⟨x7_1, x18_1, rfl, HA, HK1, HO_10, HO_18, HB⟩ := hrel
     cases gk with
     | zero => exact absurd HA.out (by simp [sapperref12_turns.l0])
     | succ k1 =>
      have H := HA.out; clear HA; simp only [sapperref12_turns.l0] at H
      by_cases c11 : x7_1 < (t308.length : Int)
      ·rw [if_pos c11] at H
       have c11b0 : decide (x7_1 < (t308.length : Int)) = true := decide_eq_true c11; clear c11
       by_cases c12 : 0 ≤ x7_1
       ·rw [if_pos c12] at H
        have c12b0 : decide (0 ≤ x7_1) = true := decide_eq_true c12; clear c12
        by_cases c13 : 0 ≤ (rd t308 x7_1)
        ·rw [if_pos c13] at H
         have c13b0 : decide (0 ≤ (rd t308 x7_1)) = true := decide_eq_true c13; clear c13
         by_cases c14 : (rd t308 x7_1) < (x18_1.length : Int)
         ·rw [if_pos c14] at H
          have c14b0 : decide ((rd t308 x7_1) < (x18_1.length : Int)) = true := decide_eq_true c14; clear c14; obtain ⟨y315, hy315⟩ : ∃ y_ : List Bool, y_ = (x18_1.set ((rd t308 x7_1) : Int).toNat true) := ⟨_, rfl⟩
          replace H : (sapperref12_turns.l0 k1 l0 l1 (wrap64 (x7_1 + 1)) t308 y315) = some r := by first | (rw [hy315]; with_reducible exact H) | (have H2_ := (Option.bind_some _ _).symm.trans H; rw [hy315]; with_reducible exact H2_) | (have H2_ := (Option.bind_some _ _).symm.trans H; with_reducible exact H2_) | with_reducible exact H | (rw [hy315]; exact H) | exact H
          have Ny315 := Aside0.mk hy315; clear hy315; have H' := Aside0.mk H; clear H; have p314 : 0 ≤ (x7_1 : Int) := Qt; have q314 : x7_1 < (t308.length : Int) := Qt; obtain ⟨ad314, e314, hx314_0⟩ := Kd.at_int (Kd.R_reads' HO_10.out).2.2 x7_1 p314 q314; cases e314; replace p314 := eq_true p314; replace q314 := eq_true q314; have p15 : 0 ≤ ((rd t308 x7_1) : Int) := Qt; have q15 : ((rd t308 x7_1) : Int) < ((x18_1.length : Int) : Int) := Qt; obtain ⟨go15, co15, eo15, gb15, gl15, cl15, HG15⟩ := Kd.R_form HO_18.out (by omega)
          (first | cases eo15 | (injection eo15 with ea_ en_ ec_; (first | subst ea_ | (injection ea_ with ea_; subst ea_)); subst ec_; clear en_))
          have GB15 := Aside0.mk gb15; have GG15 := Aside0.mk HG15; clear gb15 gl15 HG15; obtain ⟨hx15_0, hf15_0⟩ := Kd.R_celln false HO_18.out ((rd t308 x7_1) : Int) p15 q15; replace p15 := eq_true p15; replace q15 := eq_true q15; have HP16 := Kd.R_putg HO_18.out ((rd t308 x7_1) : Int) true
          go_wp2_with (first | ((with_reducible refine gate_store (t := 4) (p := 30) rfl ?_); refine store_event (t := 4) (p := 30) (v := ?vo_w17) (w1 := (wr.setCell ⟨go15, ((rd t308 x7_1) : Int).toNat, none⟩ (.bool true))) ?hg ?ho ?hn ?hr ?_; (case ho => rfl); (case hg => rfl); (case hn => rfl); (case hr => first | (go_simp; done) | (go_simp; rfl)); intro w17 hw; have hg : wr.grownBy w17 (some go15) := (by rw [hw]; exact HP16.2); have hp_ : Kd.R Kd.bool 4 w17 w.heap.size (fun _ => True) (.slice (some ⟨go15, 0, none⟩) x18_1.length co15) y315 := (by rw [hw, Ny315.out]; exact HP16.1); clear HP16; have n0_ := Aside0.mk (Kd.R_over' (v := (.slice (some ⟨go15, 0, none⟩) x18_1.length co15)) (by (with_reducible repeat first|apply Qa|apply Qb|apply Qc); exact HO_10.out) (Kd.R_typed HO_18.out) (by decide) hg); have n1_ := Aside0.mk (hp_); have n2_ := Aside0.mk ((by rw [hw]; exact below_set (HB.out) GB15.out : Below w.heap.size w w17)); clear HO_10; clear HO_18; clear HB; have HO_10 := n0_; have HO_18 := n1_; have HB := n2_; clear n0_ n1_ n2_; clear hg hw hp_))
          go_roundg k1
          case measure => have := HK1.out; omega
          case rel => exact ⟨(wrap64 (x7_1 + 1)), (y315), (by first | rfl | (simp; done) | (simp [*]; done)), H', ⟨by have := HK1.out; omega⟩, ⟨by (with_reducible repeat first|apply Qa|apply Qb|apply Qc); exact HO_10.out⟩, ⟨by (with_reducible repeat first|apply Qa|apply Qb|apply Qc); exact HO_18.out⟩, ⟨by repeat first|(with_reducible first|exact HB.out|apply Qg|apply Qh|apply Qi)|exact HB.out⟩⟩
         (· (rw [if_neg c14] at H; exact absurd H (by simp)))
        (· (rw [if_neg c13] at H; exact absurd H (by simp)))
       (· (rw [if_neg c12] at H; exact absurd H (by simp)))
      ·rw [if_neg c11] at H
       have c11b0 : decide (x7_1 < (t308.length : Int)) = false := decide_eq_false c11; clear c11; have H' := Aside0.mk H; clear H
       go_wp2
       go_loopg [8] k1 (fun kq v8 w' => ∃ (x8_2 : Int) (x18_2 : List Bool), v8 = .int .i64 x8_2 ∧ Aside0 (sapperref12_turns.l1 kq l0 l1 x8_2 x18_2 = some r) ∧ Aside0 (kq ≤ k1) ∧ Aside0 (Kd.R Kd.bool 4 w' w.heap.size (fun _ => True) v312 x18_2) ∧ Aside0 (Below w.heap.size w w'))
       case atStart => exact ⟨(0), (x18_1), (by first | rfl | (simp; done) | (simp [*]; done)), H', ⟨Nat.le_refl _⟩, ⟨by (with_reducible repeat first|apply Qa|apply Qb|apply Qc); exact HO_18.out⟩, ⟨by repeat first|(with_reducible first|exact HB.out|apply Qg|apply Qh|apply Qi)|exact HB.out⟩⟩
       case round =>
        clear H'; (try clear c1); (try clear p1); (try clear q1); (try clear hx1); (try clear p2); (try clear c3); (try clear p3); (try clear q3); (try clear hx3); (try clear c4); (try clear c4b0); (try clear c4b1); (try clear c4b2); (try clear c5); (try clear c5b0); (try clear c5b1); (try clear c6); (try clear c6b0); (try clear c6b1); (try clear p6); (try clear c11); (try clear c11b0); (try clear c12); (try clear c12b0); (try clear c13); (try clear c13b0); (try clear c14); (try clear c14b0); (try clear p15); (try clear q15); (try clear hx15); (try clear hf15); (try clear hx15_0); (try clear hx314_0); (try clear p15); (try clear p2); (try clear p314); (try clear q15); (try clear q314); obtain ⟨x8_2, x18_2, rfl, HA, HK2, HO_18, HB⟩ := hrel
        cases gk with
        | zero => exact absurd HA.out (by simp [sapperref12_turns.l1])
        | succ k2 =>
         have H := HA.out; clear HA; simp only [sapperref12_turns.l1] at H
         by_cases c18 : x8_2 < (l1.length : Int)
         ·rw [if_pos c18] at H
          have c18b0 : decide (x8_2 < (l1.length : Int)) = true := decide_eq_true c18; clear c18
          by_cases c19 : 0 ≤ x8_2
          ·rw [if_pos c19] at H
           have c19b0 : decide (0 ≤ x8_2) = true := decide_eq_true c19; clear c19
           by_cases c20 : (rd l1 x8_2) < 0
           ·rw [if_pos c20] at H
            have c20b0 : decide ((rd l1 x8_2) < 0) = true := decide_eq_true c20; clear c20; obtain rfl := Option.some.inj H; have p316 : 0 ≤ (x8_2 : Int) := Qt; have q316 : x8_2 < (l1.length : Int) := Qt; obtain ⟨ad316, e316, hx316_0⟩ := Kd.at_int HR1.out x8_2 p316 q316; cases e316; replace hx316_0 := (HB.out.cell (World.block_lt_of_cell? w _ hx316_0)).trans hx316_0; replace p316 := eq_true p316; replace q316 := eq_true q316
            go_wp2
            go_ret
            exact ⟨by first | rfl | (simp [errW_none, errW_some] <;> rfl) | (simp [*, errW_none, errW_some] <;> rfl), by repeat first|(with_reducible first|exact HB.out|apply Qg|apply Qh|apply Qi)|exact HB.out⟩
           ·rw [if_neg c20] at H
            have c20b0 : decide ((rd l1 x8_2) < 0) = false := decide_eq_false c20; clear c20
            by_cases c21 : (rd l1 x8_2) ≥ (l0.length : Int)
            ·rw [if_pos c21] at H
             have c21b0 : decide ((l0.length : Int) ≤ (rd l1 x8_2)) = true := decide_eq_true c21; clear c21; obtain rfl := Option.some.inj H; have p316 : 0 ≤ (x8_2 : Int) := Qt; have q316 : x8_2 < (l1.length : Int) := Qt; obtain ⟨ad316, e316, hx316_0⟩ := Kd.at_int HR1.out x8_2 p316 q316; cases e316; replace hx316_0 := (HB.out.cell (World.block_lt_of_cell? w _ hx316_0)).trans hx316_0; replace p316 := eq_true p316; replace q316 := eq_true q316; have p317 : 0 ≤ (x8_2 : Int) := Qt; have q317 : x8_2 < (l1.length : Int) := Qt; obtain ⟨ad317, e317, hx317_0⟩ := Kd.at_int HR1.out x8_2 p317 q317; obtain rfl : ad316 = ad317 := (by injection e317); replace hx317_0 := (HB.out.cell (World.block_lt_of_cell? w _ hx317_0)).trans hx317_0; replace p317 := eq_true p317; replace q317 := eq_true q317
             go_wp2
             go_ret
             exact ⟨by first | rfl | (simp [errW_none, errW_some] <;> rfl) | (simp [*, errW_none, errW_some] <;> rfl), by repeat first|(with_reducible first|exact HB.out|apply Qg|apply Qh|apply Qi)|exact HB.out⟩
            ·rw [if_neg c21] at H
             have c21b0 : decide ((l0.length : Int) ≤ (rd l1 x8_2)) = false := decide_eq_false c21; clear c21
             by_cases c22 : 0 ≤ (rd l1 x8_2)
             ·rw [if_pos c22] at H
              have c22b0 : decide (0 ≤ (rd l1 x8_2)) = true := decide_eq_true c22; clear c22
              by_cases c23 : (rd l1 x8_2) < (x18_2.length : Int)
              ·rw [if_pos c23] at H
               have c23b0 : decide ((rd l1 x8_2) < (x18_2.length : Int)) = true := decide_eq_true c23; clear c23; obtain ⟨bq24, hbq24⟩ : ∃ b_ : Bool, b_ = (rdOf false x18_2 (rd l1 x8_2)) := ⟨_, rfl⟩
               replace H : (if (bq24 = true) then (sapperref12_turns.l1 k2 l0 l1 (wrap64 (x8_2 + 1)) (x18_2.set ((rd l1 x8_2) : Int).toNat false)) else (some false)) = some r := by rw [← hbq24] at H; exact H
               have Nbq24 := Aside0.mk hbq24; clear hbq24
               by_cases c25 : (bq24 = true)
               ·subst c25
                have H1 : (sapperref12_turns.l1 k2 l0 l1 (wrap64 (x8_2 + 1)) (x18_2.set ((rd l1 x8_2) : Int).toNat false)) = some r := by rw [if_pos rfl] at H; exact H
                clear H; have H := H1; clear H1; obtain ⟨y321, hy321⟩ : ∃ y_ : List Bool, y_ = (x18_2.set ((rd l1 x8_2) : Int).toNat false) := ⟨_, rfl⟩
                replace H : (sapperref12_turns.l1 k2 l0 l1 (wrap64 (x8_2 + 1)) y321) = some r := by first | (rw [hy321]; with_reducible exact H) | (have H2_ := (Option.bind_some _ _).symm.trans H; rw [hy321]; with_reducible exact H2_) | (have H2_ := (Option.bind_some _ _).symm.trans H; with_reducible exact H2_) | with_reducible exact H | (rw [hy321]; exact H) | exact H
                have Ny321 := Aside0.mk hy321; clear hy321; have H' := Aside0.mk H; clear H; have p316 : 0 ≤ (x8_2 : Int) := Qt; have q316 : x8_2 < (l1.length : Int) := Qt; obtain ⟨ad316, e316, hx316_0⟩ := Kd.at_int HR1.out x8_2 p316 q316; cases e316; replace hx316_0 := (HB.out.cell (World.block_lt_of_cell? w _ hx316_0)).trans hx316_0; replace p316 := eq_true p316; replace q316 := eq_true q316; have p317 : 0 ≤ (x8_2 : Int) := Qt; have q317 : x8_2 < (l1.length : Int) := Qt; obtain ⟨ad317, e317, hx317_0⟩ := Kd.at_int HR1.out x8_2 p317 q317; obtain rfl : ad316 = ad317 := (by injection e317); replace hx317_0 := (HB.out.cell (World.block_lt_of_cell? w _ hx317_0)).trans hx317_0; replace p317 := eq_true p317; replace q317 := eq_true q317; have p318 : 0 ≤ (x8_2 : Int) := Qt; have q318 : x8_2 < (l1.length : Int) := Qt; obtain ⟨ad318, e318, hx318_0⟩ := Kd.at_int HR1.out x8_2 p318 q318; obtain rfl : ad316 = ad318 := (by injection e318); replace hx318_0 := (HB.out.cell (World.block_lt_of_cell? w _ hx318_0)).trans hx318_0; replace p318 := eq_true p318; replace q318 := eq_true q318; obtain ⟨Ao27, co27, eo27⟩ := Kd.R_slice HO_18.out; subst eo27; have p319 : 0 ≤ ((rd l1 x8_2) : Int) := Qt; have q319 : (rd l1 x8_2) < (x18_2.length : Int) := Qt; obtain ⟨ad319, e319, hx319_0⟩ := Kd.at_bool (Kd.R_reads' HO_18.out).2.2 (rd l1 x8_2) p319 q319; (try rw [← Nbq24.out] at hx319_0); cases e319; replace p319 := eq_true p319; replace q319 := eq_true q319; have p320 : 0 ≤ (x8_2 : Int) := Qt; have q320 : x8_2 < (l1.length : Int) := Qt; obtain ⟨ad320, e320, hx320_0⟩ := Kd.at_int HR1.out x8_2 p320 q320; obtain rfl : ad316 = ad320 := (by injection e320); replace hx320_0 := (HB.out.cell (World.block_lt_of_cell? w _ hx320_0)).trans hx320_0; replace p320 := eq_true p320; replace q320 := eq_true q320; have p26 : 0 ≤ ((rd l1 x8_2) : Int) := Qt; have q26 : ((rd l1 x8_2) : Int) < ((x18_2.length : Int) : Int) := Qt; obtain ⟨go26, co26, eo26, gb26, gl26, cl26, HG26⟩ := Kd.R_form HO_18.out (by omega)
                (first | cases eo26 | (injection eo26 with ea_ en_ ec_; (first | subst ea_ | (injection ea_ with ea_; subst ea_)); subst ec_; clear en_))
                have GB26 := Aside0.mk gb26; have GG26 := Aside0.mk HG26; clear gb26 gl26 HG26
                (first | simp only [add_plain] at hx319_0 | skip)
                obtain ⟨hx26_0, hf26_0⟩ := Kd.R_celln false HO_18.out ((rd l1 x8_2) : Int) p26 q26; replace p26 := eq_true p26; replace q26 := eq_true q26; have HP28 := Kd.R_putg HO_18.out ((rd l1 x8_2) : Int) false
                go_wp2_with (first | ((with_reducible refine gate_store (t := 4) (p := 66) rfl ?_); refine store_event (t := 4) (p := 66) (v := ?vo_w29) (w1 := (wr.setCell ⟨go26, ((rd l1 x8_2) : Int).toNat, none⟩ (.bool false))) ?hg ?ho ?hn ?hr ?_; (case ho => rfl); (case hg => rfl); (case hn => rfl); (case hr => first | (go_simp; done) | (go_simp; rfl)); intro w29 hw; have hg : wr.grownBy w29 (some go26) := (by rw [hw]; exact HP28.2); have hp_ : Kd.R Kd.bool 4 w29 w.heap.size (fun _ => True) (.slice (some ⟨go26, 0, none⟩) x18_2.length co27) y321 := (by rw [hw, Ny321.out]; exact HP28.1); clear HP28; have n0_ := Aside0.mk (hp_); have n1_ := Aside0.mk ((by rw [hw]; exact below_set (HB.out) GB26.out : Below w.heap.size w w29)); clear HO_18; clear HB; have HO_18 := n0_; have HB := n1_; clear n0_ n1_; clear hg hw hp_))
                go_roundg k2
                case measure => have := HK1.out; have := HK2.out; omega
                case rel => exact ⟨(wrap64 (x8_2 + 1)), (y321), (by first | rfl | (simp; done) | (simp [*]; done)), H', ⟨by have := HK1.out; have := HK2.out; omega⟩, ⟨by (with_reducible repeat first|apply Qa|apply Qb|apply Qc); exact HO_18.out⟩, ⟨by repeat first|(with_reducible first|exact HB.out|apply Qg|apply Qh|apply Qi)|exact HB.out⟩⟩
               ·replace c25 := Bool.eq_false_iff.mpr c25
                subst c25
                have H1 : (some false) = some r := by rw [if_neg (show ¬ (false = true) by decide)] at H; exact H
                clear H; have H := H1; clear H1; obtain rfl := Option.some.inj H; have p316 : 0 ≤ (x8_2 : Int) := Qt; have q316 : x8_2 < (l1.length : Int) := Qt; obtain ⟨ad316, e316, hx316_0⟩ := Kd.at_int HR1.out x8_2 p316 q316; cases e316; replace hx316_0 := (HB.out.cell (World.block_lt_of_cell? w _ hx316_0)).trans hx316_0; replace p316 := eq_true p316; replace q316 := eq_true q316; have p317 : 0 ≤ (x8_2 : Int) := Qt; have q317 : x8_2 < (l1.length : Int) := Qt; obtain ⟨ad317, e317, hx317_0⟩ := Kd.at_int HR1.out x8_2 p317 q317; obtain rfl : ad316 = ad317 := (by injection e317); replace hx317_0 := (HB.out.cell (World.block_lt_of_cell? w _ hx317_0)).trans hx317_0; replace p317 := eq_true p317; replace q317 := eq_true q317; have p318 : 0 ≤ (x8_2 : Int) := Qt; have q318 : x8_2 < (l1.length : Int) := Qt; obtain ⟨ad318, e318, hx318_0⟩ := Kd.at_int HR1.out x8_2 p318 q318; obtain rfl : ad316 = ad318 := (by injection e318); replace hx318_0 := (HB.out.cell (World.block_lt_of_cell? w _ hx318_0)).trans hx318_0; replace p318 := eq_true p318; replace q318 := eq_true q318; obtain ⟨Ao30, co30, eo30⟩ := Kd.R_slice HO_18.out; subst eo30; have p319 : 0 ≤ ((rd l1 x8_2) : Int) := Qt; have q319 : (rd l1 x8_2) < (x18_2.length : Int) := Qt; obtain ⟨ad319, e319, hx319_0⟩ := Kd.at_bool (Kd.R_reads' HO_18.out).2.2 (rd l1 x8_2) p319 q319; (try rw [← Nbq24.out] at hx319_0); cases e319; replace p319 := eq_true p319; replace q319 := eq_true q319
                go_wp2
                go_ret
                exact ⟨by first | rfl | (simp [errW_none, errW_some] <;> rfl) | (simp [*, errW_none, errW_some] <;> rfl), by repeat first|(with_reducible first|exact HB.out|apply Qg|apply Qh|apply Qi)|exact HB.out⟩
              (· (rw [if_neg c23] at H; exact absurd H (by simp)))
             (· (rw [if_neg c22] at H; exact absurd H (by simp)))
          (· (rw [if_neg c19] at H; exact absurd H (by simp)))
         ·rw [if_neg c18] at H
          have c18b0 : decide (x8_2 < (l1.length : Int)) = false := decide_eq_false c18; clear c18; obtain rfl := Option.some.inj H
          go_wp2
          go_ret
          exact ⟨by first | rfl | (simp [errW_none, errW_some] <;> rfl) | (simp [*, errW_none, errW_some] <;> rfl), by repeat first|(with_reducible first|exact HB.out|apply Qg|apply Qh|apply Qi)|exact HB.out⟩
   (· (rw [if_neg c6] at H; exact absurd H (by simp)))
  (· (rw [if_neg c5] at H; exact absurd H (by simp)))
 ·rw [if_neg c4] at H
  have c4b0 : ((t308.length : Int) == (l1.length : Int)) = false := beq_eq_false_iff_ne.mpr c4; have c4b1 : ((t308.length : Int) != (l1.length : Int)) = true := bne_iff_ne.mpr c4
  have c4b2 : (t308.length == l1.length) = false := by first | simpa using c4 | (simp at c4 ⊢; omega)
  obtain rfl := Option.some.inj H
  go_enter Try.func38, Try.ntmps38
  go_wp2_with (first | ((with_reducible refine gate_callee (f := 18) rfl ?_); refine goesL_ (some 10) rfl rfl Try.func18 (by kernel_rfl) rfl #[.slice A0 l0.length c0] rfl (by (try simp only [List.map_toArray, List.map_cons, List.map_nil]); first | done | rfl | (simp only [List.length_drop, List.length_take]; rfl)) ?_; (with_reducible refine (sapperref12_Lms.calls k _ _ l0 t308 _ ?side1 ?side2 A3.out).mono ?_); (case side1 => repeat (first | exact HR0.out | (with_reducible first|refine Qd ?_ _|refine Qe ?_ _|refine Qf ?_))); (case side2 => exact HC0.out); rintro e w31 ⟨v309, rfl, ho0, hb⟩; refine ⟨_, rfl, ?_⟩; have n0_ := Aside0.mk (Kd.R_lower ho0 (below_size (by repeat first|(with_reducible first|exact HB.out|apply Qg|apply Qh|apply Qi)|exact HB.out))); have n1_ := Aside0.mk (below_step (by repeat first|(with_reducible first|exact HB.out|apply Qg|apply Qh|apply Qi)|exact HB.out) hb); clear HB; have HO310 := n0_; have HB := n1_; clear n0_ n1_; (try clear hb); (try clear hb2); (try clear hk); (try clear hi); (try clear ho0); obtain ⟨Ao32, co32, eo32⟩ := Kd.R_slice HO310.out; subst eo32))
  go_ret
  exact ⟨by first | rfl | (simp [errW_none, errW_some] <;> rfl) | (simp [*, errW_none, errW_some] <;> rfl), by repeat first|(with_reducible first|exact HB.out|apply Qg|apply Qh|apply Qi)|exact HB.out⟩

end Go.Proofs.Ytgnhangjacdfbaa.X
