/- By hand: (*suffix.Index).Compare: a suffix and some bytes; a closure asks whether the suffix is less. -/
import Derived.Test.YthcnnfahlhklgaaXx0
import Derived.Test.YthcnnfahlhklgaaXx27
namespace Go.Proofs.Ythcnnfahlhklgaa.X
open Go.RowKit Go.Proofs.YthcnnfahlhklgaaW.PrintWords Go.Proofs.YthcnnfahlhklgaaW.PrintLast Go.Proofs.YthcnnfahlhklgaaW.PrintMore
attribute [local go_sem] ptrOf_eql ptrOf_neq ptrOf_eqg ptrOf_neg max2_int min2_int max_two min_two
set_option linter.unusedVariables false
set_option linter.unusedSimpArgs false

/-- A row of one number that has just been made. -/
theorem C_one (w : World) (x : Int) (e g : Nat) (hg : g = w.heap.size) : Kd.C (Kd.int .i64) (w.alloc (.cells #[.int .i64 x] e)) (some ⟨g, 0, none⟩) 1 [x] := by
 subst hg
 refine ⟨rfl, by omega, fun _ => ⟨⟨w.heap.size, 0, none⟩, rfl, fun j p hj => ?_⟩⟩
 have hj0 : j = 0 := by
  have := (List.getElem?_eq_some_iff.1 hj).1
  simpa using this
 subst hj0
 have hp : p = x := by simpa using hj.symm
 subst hp
 refine ⟨[.int .i64 p], rfl, rfl, fun i u hu => ?_⟩
 have hi : i = 0 := by
  have := (List.getElem?_eq_some_iff.1 hu).1
  simpa using this
 subst hi
 have hu' : u = .int .i64 p := by simpa using hu.symm
 subst hu'
 have hh : (w.alloc (.cells #[.int .i64 p] e)).heap[w.heap.size]? = some (.cells #[.int .i64 p] e (0, 0)) := by
  show (w.heap.push _)[w.heap.size]? = _
  simp
 have hc := cell_of_row _ w.heap.size 0 _ e (0, 0) hh
 simp [Addr.add] at hc ⊢
/-- How many are the same, from n on. -/
def cmp_l : Nat → List Int → List Int → Int → Option Int
 | 0, _, _, _ => none
 | k + 1, s, p, n => if n < (s.length : Int) then (if n < (p.length : Int) then (if 0 ≤ n then (if rd s n = rd p n then cmp_l k s p (wrap64 (n + 1)) else some n) else none) else some n) else some n
theorem cmp_l_mono : ∀ k s p n, LeO (cmp_l k s p n) (cmp_l (k + 1) s p n)
 | 0, s, p, n => fun r h => by simp [cmp_l] at h
 | k + 1, s, p, n => by
  unfold cmp_l
  refine LeO.ite (LeO.ite (LeO.ite (LeO.ite (cmp_l_mono k _ _ _) (LeO.refl _)) (LeO.none _)) (LeO.refl _)) (LeO.refl _)
def suffix_Index_Compare.f (k : Nat) (l0 : List S82) (a1 : Int) (l2 : List Int) : Option (Int × Int × Int) :=
 (suffix_Index_place.f k l0 [a1]).bind fun e => (if e = 0 then (if 0 < (l0.length : Int) then (if 0 ≤ a1 then (if a1 ≤ ((rd_T82 l0 0).f1.length : Int) then
  ((cmp_l k ((rd_T82 l0 0).f1.drop a1.toNat) l2 0).bind fun n => (if n = (l2.length : Int) then some (0, n, 0) else (if 0 ≤ n then (if n < (l2.length : Int) then (if n = (((rd_T82 l0 0).f1.drop a1.toNat).length : Int) then some (-1, n, 0) else
   (if n < (((rd_T82 l0 0).f1.drop a1.toNat).length : Int) then (if rd ((rd_T82 l0 0).f1.drop a1.toNat) n < rd l2 n then some (-1, n, 0) else some (1, n, 0)) else none)) else none) else none))) else none) else none) else none) else some (0, 0, e))
theorem suffix_Index_Compare.mono : ∀ a0 a1 a2 k, LeO (suffix_Index_Compare.f k a0 a1 a2) (suffix_Index_Compare.f (k + 1) a0 a1 a2) := by
 intro a0 a1 a2 k
 unfold suffix_Index_Compare.f
 refine LeO.bind (suffix_Index_place.mono _ _ _) (fun _ => LeO.ite (LeO.ite (LeO.ite (LeO.ite (LeO.bind (cmp_l_mono _ _ _ _) (fun _ => LeO.refl _)) (LeO.none _)) (LeO.none _)) (LeO.none _)) (LeO.refl _))

set_option maxHeartbeats 8000000 in
set_option maxRecDepth 100000 in
theorem suffix_Index_Compare.calls (k : Nat) (A0 : Option Addr) (c0 : Nat) (l0 : List S82) (a1 : Int) (A2 : Option Addr) (c2 : Nat) (l2 : List Int) (r1 r2 r3 : Int) (w : World) (hr0 : Kd.C k82 w A0 l0.length l0) (hc0 : l0.length ≤ c0) (hr2 : Kd.C (Kd.int .u8) w A2 l2.length l2) (hc2 : l2.length ≤ c2) (h : suffix_Index_Compare.f k l0 a1 l2 = some (r1, r2, r3)) :
  Calls Try.prog 43 #[ptrOf (.slice A0 l0.length c0), .int .i64 a1, .slice A2 l2.length c2] w fun e w' => e = .returned (.tuple #[.int .i64 r1, .int .i64 r2, .int .i64 r3]) ∧ Below w.heap.size w w' := by
 have HR0 := Aside0.mk hr0
 have HC0 := Aside0.mk hc0
 have HR2 := Aside0.mk hr2
 have HC2 := Aside0.mk hc2
 clear hr0 hc0 hr2 hc2
 unfold suffix_Index_Compare.f at h
 replace h := Option.bind_eq_some_iff.mp h
 obtain ⟨e_, A1_, h⟩ := h
 have A1 := Aside0.mk A1_
 clear A1_
 by_cases c1 : e_ = 0
 case neg =>
  rw [if_neg c1] at h
  simp only [Option.some.injEq, Prod.mk.injEq] at h
  obtain ⟨rfl, rfl, rfl⟩ := h
  have c1b : (e_ != 0) = true := bne_iff_ne.mpr c1
  have c1c : (e_ == 0) = false := beq_eq_false_iff_ne.mpr c1
  clear c1
  go_enter Try.func43, Try.ntmps43
  go_wp2_with (fail)
  refine (suffix_Index_place.calls k A0 c0 l0 (some ⟨w.heap.size + 1, 0, none⟩) 1 [a1] e_ _ ?s1 ?s2 ?s3 ?s4 A1.out).mono ?_
  case s1 => exact Kd.C_below HR0.out (below_alloc (below_alloc (Below.refl _ _) _) _)
  case s2 => exact HC0.out
  case s3 => exact C_one _ a1 3 _ (by simp)
  case s4 => exact Nat.le_refl _
  rintro e w' ⟨rfl, ⟨nd, rfl⟩⟩
  go_wp2
  go_ret3
  exact ⟨rfl, by repeat (first | (with_reducible first | apply below_alloc | apply pw_below_drewN | apply below_drew1) | exact Below.refl _ _)⟩
 rw [if_pos c1] at h
 subst c1
 by_cases c2 : 0 < (l0.length : Int)
 case neg => rw [if_neg c2] at h; cases h
 rw [if_pos c2] at h
 by_cases c3 : 0 ≤ a1
 case neg => rw [if_neg c3] at h; cases h
 rw [if_pos c3] at h
 obtain ⟨ad, B1, d1, B2, d2, B3, d3, B4, d4, e0, hx0, hx1, hx2, hx3, hx4, hl1, hi1, hl2, hi2, hl3, hi3, hl4, hi4⟩ := at_T82 HR0.out 0 (by omega) c2
 subst e0
 have hpt : ptrOf (.slice (some ad) l0.length c0) = .pointer (some ad) := ptrOf_pos _ _ _ c2
 rw [show ((0 : Int)).toNat = 0 from rfl, show 0 * 5 = 0 from rfl, Addr.add_zero'] at hx1
 generalize (rd_T82 l0 0).f1 = s at *
 clear hx0 hx2 hx3 hx4 hl2 hi2 hl3 hi3 hl4 hi4
 by_cases c4 : a1 ≤ (s.length : Int)
 case neg => rw [if_neg c4] at h; cases h
 rw [if_pos c4] at h
 replace h := Option.bind_eq_some_iff.mp h
 obtain ⟨n, A2_, h⟩ := h
 have HA2 := Aside0.mk A2_
 clear A2_
 have H := Aside0.mk h
 clear h
 obtain ⟨i0, hi0, _, hsz, _⟩ := info_parts (show (Try.prog.info? 5).map (fun i => (i.zero, i.size, i.bytes)) = some (some (.int .u8 0), 1, 1) by kernel_rfl)
 obtain ⟨As, hcut, hAs, hCs⟩ := print_drop_of (P := Try.prog) (Value.int .u8) 0 23 5 .i64 Try.underlying23 hi0 hsz B1 d1 s a1 c3 c4 hl1
 have HRs := Aside0.mk (Kd.C_of_reads (h1 := fun _ => rfl) (hAs _ (Kd.reads_of_C hi1)))
 have HCs := Aside0.mk hCs
 clear hAs hCs hi0 hsz hi1 hl1 c2 c3 c4
 generalize hts : s.drop a1.toNat = t at *
 clear hts
 generalize d1 - a1.toNat = ct at *
 go_enter Try.func43, Try.ntmps43
 have HPT := Aside0.mk hpt
 clear hpt
 go_wp2_with (fail)
 refine (suffix_Index_place.calls k (some ad) c0 l0 (some ⟨w.heap.size + 1, 0, none⟩) 1 [a1] 0 _ ?s1 ?s2 ?s3 ?s4 A1.out).mono ?_
 case s1 => exact Kd.C_below HR0.out (below_alloc (below_alloc (Below.refl _ _) _) _)
 case s2 => exact HC0.out
 case s3 => exact C_one _ a1 3 _ (by simp)
 case s4 => exact Nat.le_refl _
 rintro e w' ⟨rfl, ⟨nd, rfl⟩⟩
 have hpt := HPT.out
 have hB : Below w.heap.size w ((((w.alloc (.cells #[.slice A2 l2.length c2] 23)).alloc (.cells #[.int .i64 a1] 3))).drewN nd) := by repeat (first | (with_reducible first | apply below_alloc | apply pw_below_drewN | apply below_drew1) | exact Below.refl _ _)
 have hx1' := (hB.cell (World.block_lt_of_cell? w _ hx1)).trans hx1
 have h5 : ((((w.alloc (.cells #[.slice A2 l2.length c2] 23)).alloc (.cells #[.int .i64 a1] 3))).drewN nd).cell? ⟨w.heap.size, 0, none⟩ = some (.slice A2 l2.length c2) := by go_simp
 have hsz : ((((w.alloc (.cells #[.slice A2 l2.length c2] 23)).alloc (.cells #[.int .i64 a1] 3))).drewN nd).heap.size = w.heap.size + 2 := by simp
 generalize (((w.alloc (.cells #[.slice A2 l2.length c2] 23)).alloc (.cells #[.int .i64 a1] 3))).drewN nd = W at *
 go_wp2
 obtain ⟨g10, hg10⟩ : ∃ g, g = w.heap.size + 2 := ⟨_, rfl⟩
 obtain ⟨g11, hg11⟩ : ∃ g, g = w.heap.size + 2 + 1 := ⟨_, rfl⟩
 rw [← hg11, ← hg10]
 have hb10 : w.heap.size ≤ g10 := by omega
 have hb11 : w.heap.size ≤ g11 := by omega
 have hne1 : g10 ≠ g11 := by omega
 have hne2 : w.heap.size ≠ g11 := by omega
 have hB2 : Below w.heap.size w ((W.alloc (.cells #[.slice As t.length ct] 23)).alloc (.cells #[.int .i64 0] 3)) := by repeat (first | (with_reducible first | exact hB | apply below_alloc | apply pw_below_drewN | apply below_drew1) | exact hB)
 have H11 : ((W.alloc (.cells #[.slice As t.length ct] 23)).alloc (.cells #[.int .i64 0] 3)).heap[g11]? = some (.cells #[.int .i64 0] 3 (0, 0)) := by
  have := heap_alloc_new (W.alloc (.cells #[.slice As t.length ct] 23)) (.cells #[.int .i64 0] 3)
  rw [show (W.alloc (.cells #[.slice As t.length ct] 23)).heap.size = g11 by simp; omega] at this
  simpa using this
 have H10 : ((W.alloc (.cells #[.slice As t.length ct] 23)).alloc (.cells #[.int .i64 0] 3)).cell? ⟨g10, 0, none⟩ = some (.slice As t.length ct) := by
  have e : g10 = W.heap.size := by omega
  rw [e]; go_simp
 have H5 : ((W.alloc (.cells #[.slice As t.length ct] 23)).alloc (.cells #[.int .i64 0] 3)).cell? ⟨w.heap.size, 0, none⟩ = some (.slice A2 l2.length c2) := by
  have h3 := (below_alloc (below_alloc (Below.refl W.heap.size W) (.cells #[.slice As t.length ct] 23)) (.cells #[.int .i64 0] 3)).cell (p := ⟨w.heap.size, 0, none⟩) (by show w.heap.size < W.heap.size; omega)
  exact h3.trans h5
 generalize (W.alloc (.cells #[.slice As t.length ct] 23)).alloc (.cells #[.int .i64 0] 3) = W2 at *
 clear hB hx1' h5 hsz hpt hcut HPT hx1 hg10 hg11
 have HN := Aside0.mk (And.intro hb10 (And.intro hb11 (And.intro hne1 hne2)))
 have HB := Aside0.mk hB2
 have A11 := Aside0.mk H11
 have A10 := Aside0.mk H10
 have A5 := Aside0.mk H5
 clear hb10 hb11 hne1 hne2 hB2 H11 H10 H5
 go_loopg [] k (fun kq w' => ∃ q : Int, Aside0 (cmp_l kq t l2 q = some n) ∧ Aside0 (kq ≤ k) ∧ Aside0 (w'.heap[g11]? = some (.cells #[.int .i64 q] 3 (0, 0))) ∧ Aside0 (w'.cell? ⟨g10, 0, none⟩ = some (.slice As t.length ct)) ∧ Aside0 (w'.cell? ⟨w.heap.size, 0, none⟩ = some (.slice A2 l2.length c2)) ∧ Aside0 (Below w.heap.size w w'))
 case atStart => exact ⟨0, HA2, ⟨Nat.le_refl _⟩, A11, A10, A5, HB⟩
 case round =>
  clear HA2 A11 A10 A5 HB
  obtain ⟨q, HA, HK1, A11, A10, A5, HB⟩ := hrel
  cases gk with
  | zero => exact absurd HA.out (by simp [cmp_l])
  | succ k1 =>
   have h := HA.out
   clear HA
   simp only [cmp_l] at h
   have hc11 : wr.cell? ⟨g11, 0, none⟩ = some (.int .i64 q) := (blk_cell A11.out 0).trans rfl
   have hf11 := blk_frozen A11.out 0
   have hc10 := A10.out
   have hc5 := A5.out
   by_cases c1 : q < (t.length : Int)
   case neg =>
    rw [if_neg c1] at h
    obtain rfl : q = n := Option.some.inj h
    have H' := H.out
    clear H h
    by_cases d1 : q = (l2.length : Int)
    ·rw [if_pos d1] at H'
     simp only [Option.some.injEq, Prod.mk.injEq] at H'
     obtain ⟨rfl, rfl, rfl⟩ := H'
     have c1b := eq_false c1
     have d1b : (q == (l2.length : Int)) = true := beq_iff_eq.mpr d1
     clear c1 d1
     go_wp2
     repeat (go_quiet (fail); try go_wp2)
     go_ret3
     exact ⟨rfl, by repeat (first | (with_reducible first | exact HB.out | apply below_alloc | apply pw_below_drewN | apply below_drew1) | exact HB.out)⟩
    ·rw [if_neg d1] at H'
     by_cases d2 : 0 ≤ q
     case neg => rw [if_neg d2] at H'; cases H'
     rw [if_pos d2] at H'
     by_cases d3 : q < (l2.length : Int)
     case neg => rw [if_neg d3] at H'; cases H'
     rw [if_pos d3] at H'
     by_cases d4 : q = (t.length : Int)
     case neg => rw [if_neg d4, if_neg c1] at H'; cases H'
     rw [if_pos d4] at H'
     simp only [Option.some.injEq, Prod.mk.injEq] at H'
     obtain ⟨rfl, rfl, rfl⟩ := H'
     have c1b := eq_false c1
     have d1b : (q == (l2.length : Int)) = false := beq_eq_false_iff_ne.mpr d1
     have d4b : (q == (t.length : Int)) = true := beq_iff_eq.mpr d4
     clear c1 d1 d2 d3 d4
     go_wp2
     repeat (go_quiet (fail); try go_wp2)
     go_ret3
     exact ⟨rfl, by repeat (first | (with_reducible first | exact HB.out | apply below_alloc | apply pw_below_drewN | apply below_drew1) | exact HB.out)⟩
   rw [if_pos c1] at h
   have c1t := eq_true c1
   have c1n : (q == (t.length : Int)) = false := beq_eq_false_iff_ne.mpr (by omega)
   by_cases c2 : q < (l2.length : Int)
   case neg =>
    rw [if_neg c2] at h
    obtain rfl : q = n := Option.some.inj h
    have H' := H.out
    clear H h
    have c2b := eq_false c2
    by_cases d1 : q = (l2.length : Int)
    case neg =>
     rw [if_neg d1] at H'
     by_cases d2 : 0 ≤ q
     case neg => rw [if_neg d2] at H'; cases H'
     rw [if_pos d2, if_neg c2] at H'
     cases H'
    rw [if_pos d1] at H'
    simp only [Option.some.injEq, Prod.mk.injEq] at H'
    obtain ⟨rfl, rfl, rfl⟩ := H'
    have d1b : (q == (l2.length : Int)) = true := beq_iff_eq.mpr d1
    clear c1 c2 d1
    go_wp2
    repeat (go_quiet (fail); try go_wp2)
    go_ret3
    exact ⟨rfl, by repeat (first | (with_reducible first | exact HB.out | apply below_alloc | apply pw_below_drewN | apply below_drew1) | exact HB.out)⟩
   rw [if_pos c2] at h
   by_cases c3 : 0 ≤ q
   case neg => rw [if_neg c3] at h; cases h
   rw [if_pos c3] at h
   obtain ⟨ad1, e1, hy1⟩ := Kd.at_int (Kd.C_below HRs.out HB.out) q c3 c1
   obtain ⟨ad2, e2, hy2⟩ := Kd.at_int (Kd.C_below HR2.out HB.out) q c3 c2
   subst e1
   subst e2
   have c2t := eq_true c2
   have c2n : (q == (l2.length : Int)) = false := beq_eq_false_iff_ne.mpr (by omega)
   have c3t := eq_true c3
   by_cases c4 : rd t q = rd l2 q
   case neg =>
    rw [if_neg c4] at h
    obtain rfl : q = n := Option.some.inj h
    have c4b : (rd t q == rd l2 q) = false := beq_eq_false_iff_ne.mpr c4
    have H' := H.out
    clear H h
    rw [if_neg (by omega), if_pos c3, if_pos c2, if_neg (by omega), if_pos c1] at H'
    clear c1 c2 c3 c4
    by_cases c5 : rd t q < rd l2 q
    ·rw [if_pos c5] at H'
     simp only [Option.some.injEq, Prod.mk.injEq] at H'
     obtain ⟨rfl, rfl, rfl⟩ := H'
     have c5b := eq_true c5
     clear c5
     go_wp2
     repeat (go_quiet (fail); try go_wp2)
     go_ret3
     exact ⟨rfl, by repeat (first | (with_reducible first | exact HB.out | apply below_alloc | apply pw_below_drewN | apply below_drew1) | exact HB.out)⟩
    ·rw [if_neg c5] at H'
     simp only [Option.some.injEq, Prod.mk.injEq] at H'
     obtain ⟨rfl, rfl, rfl⟩ := H'
     have c5b := eq_false c5
     clear c5
     go_wp2
     repeat (go_quiet (fail); try go_wp2)
     go_ret3
     exact ⟨rfl, by repeat (first | (with_reducible first | exact HB.out | apply below_alloc | apply pw_below_drewN | apply below_drew1) | exact HB.out)⟩
   rw [if_pos c4] at h
   have c4b : (rd t q == rd l2 q) = true := beq_iff_eq.mpr c4
   clear c1 c2 c3 c4
   go_wp2
   repeat (go_quiet (fail); try go_wp2)
   have hn1 := HN.out
   go_roundg k1
   case measure => have := HK1.out; omega
   case rel => exact ⟨wrap64 (q + 1), ⟨h⟩, ⟨by have := HK1.out; omega⟩, ⟨blk_put (cs := #[.int .i64 q]) (blk_drewN A11.out nq) 0 _ rfl⟩, ⟨(cell_far (show g10 ≠ g11 from hn1.2.2.1) _).trans A10.out⟩, ⟨(cell_far (show w.heap.size ≠ g11 from hn1.2.2.2) _).trans A5.out⟩, ⟨below_set (pw_below_drewN HB.out nq) hn1.2.1⟩⟩
end Go.Proofs.Ythcnnfahlhklgaa.X
