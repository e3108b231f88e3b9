-- Printed by wip/xprint.py of this repo (a wrapper of the session's own round the print).
import Derived.Test.YtgnhangjacdfbaaXx0
import Derived.Test.YtgnhangjacdfbaaXBA
namespace Go.Proofs.Ytgnhangjacdfbaa.X
open Go.RowKit Go.Proofs.YtgnhangjacdfbaaW.PrintWords Go.Proofs.YtgnhangjacdfbaaW.PrintLast Go.Proofs.YtgnhangjacdfbaaW.PrintMore
attribute [local go_sem] max2_int min2_int max_two min_two max_three min_three max_four min_four   -- for this text's walks alone
set_option linter.unusedVariables false
set_option linter.unusedSimpArgs false

/-! ### sapperref12_put: function 39 -/
def sapperref12_put.f (l0 : List Int) (l1 : List Bool) (l2 : List Int) (l3 : List Int) (a4 : Int) : Option (List Int × List Bool × List Int) := if 0 ≤ a4 then (if a4 < (l3.length : Int) then (if 0 ≤ (rd l3 a4) then (if (rd l3 a4) < (l2.length : Int) then (if 0 ≤ (rd l2 (rd l3 a4)) then (if (rd l2 (rd l3 a4)) < (l0.length : Int) then (if (rd l2 (rd l3 a4)) < (l1.length : Int) then (some ((l0.set ((rd l2 (rd l3 a4)) : Int).toNat a4), (l1.set ((rd l2 (rd l3 a4)) : Int).toNat false), (l2.set ((rd l3 a4) : Int).toNat (wrap64 ((rd l2 (rd l3 a4)) + 1))))) else (none)) else (none)) else (none)) else (none)) else (none)) else (none)) else (none)
set_option maxHeartbeats 8000000 in
set_option maxRecDepth 100000 in
theorem sapperref12_put.calls (P0_ : Nat → Prop) (u9000_ : Value) (l0 : List Int) (P1_ : Nat → Prop) (u9001_ : Value) (l1 : List Bool) (P2_ : Nat → Prop) (u9002_ : Value) (l2 : List Int) (A3 : Option Addr) (c3 : Nat) (l3 : List Int) (a4 : Int) (r1 : List Int) (r2 : List Bool) (r3 : List Int) (w0 w : World) (hB : Below w0.heap.size w0 w) (ho0 : Kd.R (Kd.int .i64) 3 w w0.heap.size P0_ u9000_ l0) (hp0_2 : ∀ k_, P0_ k_ → ¬ P2_ k_) (ho1 : Kd.R Kd.bool 4 w w0.heap.size P1_ u9001_ l1) (ho2 : Kd.R (Kd.int .i64) 3 w w0.heap.size P2_ u9002_ l2) (hp2_0 : ∀ k_, P2_ k_ → ¬ P0_ k_) (hr3 : ∀ W_, Kept w W_ (fun k_ => P0_ k_ ∨ P1_ k_ ∨ P2_ k_) → Kd.C (Kd.int .i64) W_ A3 l3.length l3) (hc3 : l3.length ≤ c3) (h : sapperref12_put.f l0 l1 l2 l3 a4 = some (r1, r2, r3)) :
  Calls Try.prog 39 #[u9000_, u9001_, u9002_, .slice A3 l3.length c3, .int .i64 a4] w fun e w' => e = .returned (.tuple #[]) ∧ Kd.R (Kd.int .i64) 3 w' w0.heap.size (fun k_ => ((P0_ k_ ∨ P1_ k_ ∨ P2_ k_) ∨ w.heap.size ≤ k_)) u9000_ r1 ∧ Kd.R Kd.bool 4 w' w0.heap.size (fun k_ => ((P0_ k_ ∨ P1_ k_ ∨ P2_ k_) ∨ w.heap.size ≤ k_)) u9001_ r2 ∧ Kd.R (Kd.int .i64) 3 w' w0.heap.size (fun k_ => ((P0_ k_ ∨ P1_ k_ ∨ P2_ k_) ∨ w.heap.size ≤ k_)) u9002_ r3 ∧ Below w0.heap.size w0 w' ∧ Kept w w' (fun k_ => P0_ k_ ∨ P1_ k_ ∨ P2_ k_) := by
 have HO0 := Aside0.mk (show Kd.R (Kd.int .i64) 3 w w0.heap.size (fun k_ => ((P0_ k_ ∨ P1_ k_ ∨ P2_ k_) ∨ w.heap.size ≤ k_) ∧ some k_ ≠ (u9002_ : Value).ownBlock) u9000_ l0 from Kd.R_mono ho0 (fun k_ hk => ⟨(.inl (.inl hk)), fun e_ => hp0_2 k_ hk (ho2.1 k_ e_.symm)⟩))
 have HO1 := Aside0.mk (show Kd.R Kd.bool 4 w w0.heap.size (fun k_ => ((P0_ k_ ∨ P1_ k_ ∨ P2_ k_) ∨ w.heap.size ≤ k_)) u9001_ l1 from Kd.R_mono ho1 (fun k_ hk => (.inl (.inr (.inl hk)))))
 have HO2 := Aside0.mk (show Kd.R (Kd.int .i64) 3 w w0.heap.size (fun k_ => ((P0_ k_ ∨ P1_ k_ ∨ P2_ k_) ∨ w.heap.size ≤ k_) ∧ some k_ ≠ (u9000_ : Value).ownBlock) u9002_ l2 from Kd.R_mono ho2 (fun k_ hk => ⟨(.inl (.inr (.inr hk))), fun e_ => hp2_0 k_ hk (ho0.1 k_ e_.symm)⟩))
 have HR3 := Aside0.mk hr3
 have HC3 := Aside0.mk hc3
 clear hr3 hc3
 have HK := Aside0.mk (Kept.refl w (fun k_ => P0_ k_ ∨ P1_ k_ ∨ P2_ k_))
 have HW0 := Aside0.mk hB.size
 have HB := Aside0.mk hB
 clear hB
 have H : (if 0 ≤ a4 then (if a4 < (l3.length : Int) then (if 0 ≤ (rd l3 a4) then (if (rd l3 a4) < (l2.length : Int) then (if 0 ≤ (rd l2 (rd l3 a4)) then (if (rd l2 (rd l3 a4)) < (l0.length : Int) then (if (rd l2 (rd l3 a4)) < (l1.length : Int) then (some ((l0.set ((rd l2 (rd l3 a4)) : Int).toNat a4), (l1.set ((rd l2 (rd l3 a4)) : Int).toNat false), (l2.set ((rd l3 a4) : Int).toNat (wrap64 ((rd l2 (rd l3 a4)) + 1))))) else (none)) else (none)) else (none)) else (none)) else (none)) else (none)) else (none)) = some (r1, r2, r3) := h
 clear h
 by_cases c6 : 0 ≤ a4
 ·rw [if_pos c6] at H
  have c6b0 : decide (0 ≤ a4) = true := decide_eq_true c6
  clear c6
  by_cases c7 : a4 < (l3.length : Int)
  ·rw [if_pos c7] at H
   have c7b0 : decide (a4 < (l3.length : Int)) = true := decide_eq_true c7
   clear c7
   by_cases c8 : 0 ≤ (rd l3 a4)
   ·rw [if_pos c8] at H
    have c8b0 : decide (0 ≤ (rd l3 a4)) = true := decide_eq_true c8
    clear c8
    by_cases c9 : (rd l3 a4) < (l2.length : Int)
    ·rw [if_pos c9] at H
     have c9b0 : decide ((rd l3 a4) < (l2.length : Int)) = true := decide_eq_true c9
     clear c9
     by_cases c10 : 0 ≤ (rd l2 (rd l3 a4))
     ·rw [if_pos c10] at H
      have c10b0 : decide (0 ≤ (rd l2 (rd l3 a4))) = true := decide_eq_true c10
      clear c10
      by_cases c11 : (rd l2 (rd l3 a4)) < (l0.length : Int)
      ·rw [if_pos c11] at H
       have c11b0 : decide ((rd l2 (rd l3 a4)) < (l0.length : Int)) = true := decide_eq_true c11
       clear c11
       obtain ⟨y324, hy324⟩ : ∃ y_ : List Int, y_ = (l0.set ((rd l2 (rd l3 a4)) : Int).toNat a4) := ⟨_, rfl⟩
       replace H : (if (rd l2 (rd l3 a4)) < (l1.length : Int) then (some (y324, (l1.set ((rd l2 (rd l3 a4)) : Int).toNat false), (l2.set ((rd l3 a4) : Int).toNat (wrap64 ((rd l2 (rd l3 a4)) + 1))))) else (none)) = some (r1, r2, r3) := by first | (rw [hy324]; with_reducible exact H) | (have H2_ := (Option.bind_some _ _).symm.trans H; rw [hy324]; with_reducible exact H2_) | (have H2_ := (Option.bind_some _ _).symm.trans H; with_reducible exact H2_) | with_reducible exact H | (rw [hy324]; exact H) | exact H
       have Ny324 := Aside0.mk hy324
       clear hy324
       by_cases c13 : (rd l2 (rd l3 a4)) < (l1.length : Int)
       ·rw [if_pos c13] at H
        have c13b0 : decide ((rd l2 (rd l3 a4)) < (l1.length : Int)) = true := decide_eq_true c13
        clear c13
        obtain ⟨y327, hy327⟩ : ∃ y_ : List Bool, y_ = (l1.set ((rd l2 (rd l3 a4)) : Int).toNat false) := ⟨_, rfl⟩
        replace H : (some (y324, y327, (l2.set ((rd l3 a4) : Int).toNat (wrap64 ((rd l2 (rd l3 a4)) + 1))))) = some (r1, r2, r3) := by first | (rw [hy327]; with_reducible exact H) | (have H2_ := (Option.bind_some _ _).symm.trans H; rw [hy327]; with_reducible exact H2_) | (have H2_ := (Option.bind_some _ _).symm.trans H; with_reducible exact H2_) | with_reducible exact H | (rw [hy327]; exact H) | exact H
        have Ny327 := Aside0.mk hy327
        clear hy327
        obtain ⟨y330, hy330⟩ : ∃ y_ : List Int, y_ = (l2.set ((rd l3 a4) : Int).toNat (wrap64 ((rd l2 (rd l3 a4)) + 1))) := ⟨_, rfl⟩
        replace H : (some (y324, y327, y330)) = some (r1, r2, r3) := by first | (rw [hy330]; with_reducible exact H) | (have H2_ := (Option.bind_some _ _).symm.trans H; rw [hy330]; with_reducible exact H2_) | (have H2_ := (Option.bind_some _ _).symm.trans H; with_reducible exact H2_) | with_reducible exact H | (rw [hy330]; exact H) | exact H
        have Ny330 := Aside0.mk hy330
        clear hy330
        simp only [Option.some.injEq, Prod.mk.injEq] at H
        obtain ⟨rfl, rfl, rfl⟩ := H
        have p322 : 0 ≤ (a4 : Int) := Qt
        have q322 : a4 < (l3.length : Int) := Qt
        obtain ⟨ad322, e322, hx322_0⟩ := Kd.at_int (Kd.C_kept_now HR3.out HK.out) a4 p322 q322
        cases e322
        replace p322 := eq_true p322
        replace q322 := eq_true q322
        obtain ⟨Ao16, co16, eo16⟩ := Kd.R_slice HO2.out
        subst eo16
        have p323 : 0 ≤ ((rd l3 a4) : Int) := Qt
        have q323 : (rd l3 a4) < (l2.length : Int) := Qt
        obtain ⟨ad323, e323, hx323_0⟩ := Kd.at_int (Kd.R_reads' HO2.out).2.2 (rd l3 a4) p323 q323
        cases e323
        replace p323 := eq_true p323
        replace q323 := eq_true q323
        have p12 : 0 ≤ ((rd l2 (rd l3 a4)) : Int) := Qt
        have q12 : ((rd l2 (rd l3 a4)) : Int) < ((l0.length : Int) : Int) := Qt
        obtain ⟨go12, co12, eo12, gb12, gl12, cl12, HG12⟩ := Kd.R_form HO0.out (by omega)
        (first | cases eo12 | (injection eo12 with ea_ en_ ec_; (first | subst ea_ | (injection ea_ with ea_; subst ea_)); subst ec_; clear en_))
        have GB12 := Aside0.mk gb12
        have GG12 := Aside0.mk HG12
        clear gb12 gl12 HG12
        have HMgo12 := Aside0.mk (show ((P0_ go12 ∨ P1_ go12 ∨ P2_ go12) ∨ w.heap.size ≤ go12) from (HO0.out.1 _ rfl).1)
        obtain ⟨hx12_0, hf12_0⟩ := Kd.R_celln 0 HO0.out ((rd l2 (rd l3 a4)) : Int) p12 q12
        replace p12 := eq_true p12
        replace q12 := eq_true q12
        have HP17 := Kd.R_putg HO0.out ((rd l2 (rd l3 a4)) : Int) a4
        go_enter Try.func39, Try.ntmps39
        go_wp2_with (first | ((with_reducible refine gate_store (t := 3) (p := 19) rfl ?_); refine store_event (t := 3) (p := 19) (v := ?vo_w18) (w1 := (w.setCell ⟨go12, ((rd l2 (rd l3 a4)) : Int).toNat, none⟩ (.int .i64 a4))) ?hg ?ho ?hn ?hr ?_; (case ho => rfl); (case hg => rfl); (case hn => rfl); (case hr => first | (go_simp; done) | (go_simp; rfl)); intro w18 hw; have hg : w.grownBy w18 (some go12) := (by rw [hw]; exact HP17.2); have hp_ : Kd.R (Kd.int .i64) 3 w18 w0.heap.size (fun k_ => ((P0_ k_ ∨ P1_ k_ ∨ P2_ k_) ∨ w.heap.size ≤ k_) ∧ some k_ ≠ (.slice (some ad323) l2.length co16 : Value).ownBlock) (.slice (some ⟨go12, 0, none⟩) l0.length co12) y324 := (by rw [hw, Ny324.out]; exact HP17.1); clear HP17; have n0_ := Aside0.mk (hp_); have n1_ := Aside0.mk (Kd.R_over' (v := (.slice (some ⟨go12, 0, none⟩) l0.length co12)) (by (with_reducible repeat first|apply Qa|apply Qb|apply Qc); exact HO1.out) (Kd.R_typed HO0.out) (by decide) hg); have n2_ := Aside0.mk (Kd.R_after (v := (.slice (some ⟨go12, 0, none⟩) l0.length co12)) (v1 := (.slice (some ⟨go12, 0, none⟩) l0.length co12)) (ok := (fun k_ => ((P0_ k_ ∨ P1_ k_ ∨ P2_ k_) ∨ w.heap.size ≤ k_))) (by (with_reducible repeat first|apply Qa|apply Qb|apply Qc); exact HO2.out) hg (.inl rfl)); have n3_ := Aside0.mk ((by rw [hw]; exact below_set (HB.out) GB12.out : Below w0.heap.size w0 w18)); have n4_ := Aside0.mk (Kept.of_grown (S := (fun k_ => P0_ k_ ∨ P1_ k_ ∨ P2_ k_)) hg (by repeat (first | (with_reducible first | exact HK.out | apply Kept.alloc | apply Kept.drewN | apply Kept.drew) | exact HK.out)) (fun k_ e_ => (HO0.out.1 k_ e_).1)); clear HO0; clear HO1; clear HO2; clear HB; clear HK; have HO0 := n0_; have HO1 := n1_; have HO2 := n2_; have HB := n3_; have HK := n4_; clear n0_ n1_ n2_ n3_ n4_; clear hg hw hp_; have p325 : 0 ≤ (a4 : Int) := Qt; have q325 : a4 < (l3.length : Int) := Qt; obtain ⟨ad325, e325, hx325_0⟩ := Kd.at_int (Kd.C_kept_now HR3.out HK.out) a4 p325 q325; obtain rfl : ad322 = ad325 := (by injection e325); replace p325 := eq_true p325; replace q325 := eq_true q325; have p326 : 0 ≤ ((rd l3 a4) : Int) := Qt; have q326 : (rd l3 a4) < (l2.length : Int) := Qt; obtain ⟨ad326, e326, hx326_0⟩ := Kd.at_int (Kd.R_reads' HO2.out).2.2 (rd l3 a4) p326 q326; obtain rfl : ad323 = ad326 := (by injection e326); replace p326 := eq_true p326; replace q326 := eq_true q326; have p14 : 0 ≤ ((rd l2 (rd l3 a4)) : Int) := Qt; have q14 : ((rd l2 (rd l3 a4)) : Int) < ((l1.length : Int) : Int) := Qt; obtain ⟨go14, co14, eo14, gb14, gl14, cl14, HG14⟩ := Kd.R_form HO1.out (by omega); (first | cases eo14 | (injection eo14 with ea_ en_ ec_; (first | subst ea_ | (injection ea_ with ea_; subst ea_)); subst ec_; clear en_)); have GB14 := Aside0.mk gb14; have GG14 := Aside0.mk HG14; clear gb14 gl14 HG14; have HMgo14 := Aside0.mk (show ((P0_ go14 ∨ P1_ go14 ∨ P2_ go14) ∨ w.heap.size ≤ go14) from (HO1.out.1 _ rfl)); obtain ⟨hx14_0, hf14_0⟩ := Kd.R_celln false HO1.out ((rd l2 (rd l3 a4)) : Int) p14 q14; replace p14 := eq_true p14; replace q14 := eq_true q14; obtain ⟨hy19_, hz19_⟩ := Kd.R_celln false HO1.out ((rd l2 (rd l3 a4)) : Int) (Qt) (Qt); have HP19 := Kd.R_putg HO1.out ((rd l2 (rd l3 a4)) : Int) false) | ((with_reducible refine gate_store (t := 4) (p := 28) rfl ?_); refine store_event (t := 4) (p := 28) (v := ?vo_w20) (w1 := (w18.setCell ⟨go14, ((rd l2 (rd l3 a4)) : Int).toNat, none⟩ (.bool false))) ?hg ?ho ?hn ?hr ?_; (case ho => rfl); (case hg => rfl); (case hn => rfl); (case hr => first | (go_simp; done) | (go_simp; rfl)); intro w20 hw; have hg : w18.grownBy w20 (some go14) := (by rw [hw]; exact HP19.2); have hp_ : Kd.R Kd.bool 4 w20 w0.heap.size (fun k_ => ((P0_ k_ ∨ P1_ k_ ∨ P2_ k_) ∨ w.heap.size ≤ k_)) (.slice (some ⟨go14, 0, none⟩) l1.length co14) y327 := (by rw [hw, Ny327.out]; exact HP19.1); clear HP19; have n0_ := Aside0.mk (Kd.R_over' (v := (.slice (some ⟨go14, 0, none⟩) l1.length co14)) (by (with_reducible repeat first|apply Qa|apply Qb|apply Qc); exact HO0.out) (Kd.R_typed HO1.out) (by decide) hg); have n1_ := Aside0.mk (hp_); have n2_ := Aside0.mk (Kd.R_over' (v := (.slice (some ⟨go14, 0, none⟩) l1.length co14)) (by (with_reducible repeat first|apply Qa|apply Qb|apply Qc); exact HO2.out) (Kd.R_typed HO1.out) (by decide) hg); have n3_ := Aside0.mk ((by rw [hw]; exact below_set (HB.out) GB14.out : Below w0.heap.size w0 w20)); have n4_ := Aside0.mk (Kept.of_grown (S := (fun k_ => P0_ k_ ∨ P1_ k_ ∨ P2_ k_)) hg (by repeat (first | (with_reducible first | exact HK.out | apply Kept.alloc | apply Kept.drewN | apply Kept.drew) | exact HK.out)) (fun k_ e_ => (HO1.out.1 k_ e_))); clear HO0; clear HO1; clear HO2; clear HB; clear HK; have HO0 := n0_; have HO1 := n1_; have HO2 := n2_; have HB := n3_; have HK := n4_; clear n0_ n1_ n2_ n3_ n4_; clear hg hw hp_; have p328 : 0 ≤ (a4 : Int) := Qt; have q328 : a4 < (l3.length : Int) := Qt; obtain ⟨ad328, e328, hx328_0⟩ := Kd.at_int (Kd.C_kept_now HR3.out HK.out) a4 p328 q328; obtain rfl : ad322 = ad328 := (by injection e328); replace p328 := eq_true p328; replace q328 := eq_true q328; have p329 : 0 ≤ ((rd l3 a4) : Int) := Qt; have q329 : (rd l3 a4) < (l2.length : Int) := Qt; obtain ⟨ad329, e329, hx329_0⟩ := Kd.at_int (Kd.R_reads' HO2.out).2.2 (rd l3 a4) p329 q329; obtain rfl : ad323 = ad329 := (by injection e329); replace p329 := eq_true p329; replace q329 := eq_true q329; have p15 : 0 ≤ ((rd l3 a4) : Int) := Qt; have q15 : ((rd l3 a4) : Int) < ((l2.length : Int) : Int) := Qt; obtain ⟨go15, co15, eo15, gb15, gl15, cl15, HG15⟩ := Kd.R_form HO2.out (by omega); (first | cases eo15 | (injection eo15 with ea_ en_ ec_; (first | subst ea_ | (injection ea_ with ea_; subst ea_)); subst ec_; clear en_)); have GB15 := Aside0.mk gb15; have GG15 := Aside0.mk HG15; clear gb15 gl15 HG15; have HMgo15 := Aside0.mk (show ((P0_ go15 ∨ P1_ go15 ∨ P2_ go15) ∨ w.heap.size ≤ go15) from (HO2.out.1 _ rfl).1); (first | simp only [add_plain] at hx323_0 | skip); (first | simp only [add_plain] at hx326_0 | skip); (first | simp only [add_plain] at hx329_0 | skip); obtain ⟨hx15_0, hf15_0⟩ := Kd.R_celln 0 HO2.out ((rd l3 a4) : Int) p15 q15; replace p15 := eq_true p15; replace q15 := eq_true q15; obtain ⟨hy21_, hz21_⟩ := Kd.R_celln 0 HO2.out ((rd l3 a4) : Int) (Qt) (Qt); have HP21 := Kd.R_putg HO2.out ((rd l3 a4) : Int) (wrap64 ((rd l2 (rd l3 a4)) + 1))) | ((with_reducible refine gate_store (t := 3) (p := 37) rfl ?_); refine store_event (t := 3) (p := 37) (v := ?vo_w22) (w1 := (w20.setCell ⟨go15, ((rd l3 a4) : Int).toNat, none⟩ (.int .i64 (wrap64 ((rd l2 (rd l3 a4)) + 1))))) ?hg ?ho ?hn ?hr ?_; (case ho => rfl); (case hg => rfl); (case hn => rfl); (case hr => first | (go_simp; done) | (go_simp; rfl)); intro w22 hw; have hg : w20.grownBy w22 (some go15) := (by rw [hw]; exact HP21.2); have hp_ : Kd.R (Kd.int .i64) 3 w22 w0.heap.size (fun k_ => ((P0_ k_ ∨ P1_ k_ ∨ P2_ k_) ∨ w.heap.size ≤ k_) ∧ some k_ ≠ (.slice (some ⟨go12, 0, none⟩) l0.length co12 : Value).ownBlock) (.slice (some ⟨go15, 0, none⟩) l2.length co16) y330 := (by rw [hw, Ny330.out]; exact HP21.1); clear HP21; have n0_ := Aside0.mk (Kd.R_after (v := (.slice (some ⟨go15, 0, none⟩) l2.length co16)) (v1 := (.slice (some ⟨go15, 0, none⟩) l2.length co16)) (ok := (fun k_ => ((P0_ k_ ∨ P1_ k_ ∨ P2_ k_) ∨ w.heap.size ≤ k_))) (by (with_reducible repeat first|apply Qa|apply Qb|apply Qc); exact HO0.out) hg (.inl rfl)); have n1_ := Aside0.mk (Kd.R_over' (v := (.slice (some ⟨go15, 0, none⟩) l2.length co16)) (by (with_reducible repeat first|apply Qa|apply Qb|apply Qc); exact HO1.out) (Kd.R_typed HO2.out) (by decide) hg); have n2_ := Aside0.mk (hp_); have n3_ := Aside0.mk ((by rw [hw]; exact below_set (HB.out) GB15.out : Below w0.heap.size w0 w22)); have n4_ := Aside0.mk (Kept.of_grown (S := (fun k_ => P0_ k_ ∨ P1_ k_ ∨ P2_ k_)) hg (by repeat (first | (with_reducible first | exact HK.out | apply Kept.alloc | apply Kept.drewN | apply Kept.drew) | exact HK.out)) (fun k_ e_ => (HO2.out.1 k_ e_).1)); clear HO0; clear HO1; clear HO2; clear HB; clear HK; have HO0 := n0_; have HO1 := n1_; have HO2 := n2_; have HB := n3_; have HK := n4_; clear n0_ n1_ n2_ n3_ n4_; clear hg hw hp_))
        first | go_end0 | ((try simp only [Exit.inBlock, Exit.then]); refine bodyPost_ret (results_none rfl _ _ _) rfl ?_)
        exact ⟨by first | rfl | (simp [errW_none, errW_some] <;> rfl) | (simp [*, errW_none, errW_some] <;> rfl), by (with_reducible repeat first|apply Qa|apply Qb|apply Qc); exact Kd.R_mono HO0.out (fun _ hk => hk.1), by (with_reducible repeat first|apply Qa|apply Qb|apply Qc); exact HO1.out, by (with_reducible repeat first|apply Qa|apply Qb|apply Qc); exact Kd.R_mono HO2.out (fun _ hk => hk.1), by repeat first|(with_reducible first|exact HB.out|apply Qg|apply Qh|apply Qi)|exact HB.out, by repeat (first | (with_reducible first | exact HK.out | apply Kept.alloc | apply Kept.drewN | apply Kept.drew) | exact HK.out)⟩
       ·rw [if_neg c13] at H
        exact absurd H (by simp)
      ·rw [if_neg c11] at H
       exact absurd H (by simp)
     ·rw [if_neg c10] at H
      exact absurd H (by simp)
    ·rw [if_neg c9] at H
     exact absurd H (by simp)
   ·rw [if_neg c8] at H
    exact absurd H (by simp)
  ·rw [if_neg c7] at H
   exact absurd H (by simp)
 ·rw [if_neg c6] at H
  exact absurd H (by simp)

end Go.Proofs.Ytgnhangjacdfbaa.X
