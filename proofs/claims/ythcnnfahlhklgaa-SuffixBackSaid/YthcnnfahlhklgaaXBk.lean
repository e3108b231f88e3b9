/- By hand: the law SuffixBack's walk: with what Turn and Unturn tell, it answers true. -/
import Derived.Test.YthcnnfahlhklgaaXU
import Derived.Test.YthcnnfahlhklgaaXL
import Derived.Laws.Rows
import Derived.Test.YthcnnfahlhklgaaXx23
import Derived.Test.YthcnnfahlhklgaaXx21
namespace Go.Proofs.Ythcnnfahlhklgaa.X
open Go.RowKit Go.Proofs.YthcnnfahlhklgaaW.PrintWords Go.Proofs.YthcnnfahlhklgaaW.PrintLast Go.Proofs.YthcnnfahlhklgaaW.PrintMore
attribute [local go_sem] max2_int min2_int max_two min_two
set_option linter.unusedVariables false
set_option linter.unusedSimpArgs false

/-- The counts: up for the first list's bytes, down for the second's. -/
def cA (s x : List Int) : Nat → List Int
  | 0 => List.replicate 256 0
  | m + 1 => ((cA s x m).set (rd s m).toNat (wrap64 ((cA s x m).getD (rd s m).toNat 0 + 1))).set (rd x m).toNat (wrap64 (((cA s x m).set (rd s m).toNat (wrap64 ((cA s x m).getD (rd s m).toNat 0 + 1))).getD (rd x m).toNat 0 - 1))
theorem cA_len (s x : List Int) (m : Nat) : (cA s x m).length = 256 := by
  induction m with
  | zero => exact List.length_replicate
  | succ m ih => rw [cA, List.length_set, List.length_set]; exact ih
theorem cA_step (s x : List Int) {m c d : Nat} (h1 : rd s m = (c : Int)) (h2 : rd x m = (d : Int)) : cA s x (m + 1) = ((cA s x m).set c (wrap64 ((cA s x m)[c]?.getD 0 + 1))).set d (wrap64 (((cA s x m).set c (wrap64 ((cA s x m)[c]?.getD 0 + 1)))[d]?.getD 0 - 1)) := by
  rw [cA, h1, h2, Int.toNat_natCast, Int.toNat_natCast, List.getD_eq_getElem?_getD, List.getD_eq_getElem?_getD]
/-- The array of 256 counts, in a block of its own. -/
structure UG (w0 w : World) (g : Nat) (F : List Int) : Prop where
  hb : Below w0.heap.size w0 w
  ge : w0.heap.size ≤ g
  len : F.length = 256
  blk : w.heap[g]? = some (.cells (F.map (Value.int .i64)).toArray 58 (0, 0))
section
variable {w0 w : World} {g : Nat} {F : List Int}
theorem UG.to {F' : List Int} (h : UG w0 w g F) (e : F = F') : UG w0 w g F' := e ▸ h
theorem UG.get (h : UG w0 w g F) {q : Nat} (hq : q < 256) : w.cell? ⟨g, q, none⟩ = some (.int .i64 (F.getD q 0)) := by
  have := h.len
  rw [blk_cell h.blk q, List.getElem?_toArray, List.getElem?_map, List.getElem?_eq_getElem (by omega), List.getD_eq_getElem?_getD, List.getElem?_eq_getElem (by omega)]; rfl
theorem UG.put (h : UG w0 w g F) (q : Nat) (x : Int) : UG w0 (w.setCell ⟨g, q, none⟩ (.int .i64 x)) g (F.set q x) :=
  ⟨below_set h.hb h.ge, h.ge, by rw [List.length_set]; exact h.len, blk_put h.blk q _ (by rw [List.setIfInBounds_toArray, List.map_set])⟩
end
theorem back_zero : Try.zeroCells58 = ((List.replicate 256 (0 : Int)).map (Value.int .i64)).toArray := by kernel_rfl

theorem back_index {q : Nat} (hq : q < 256) (W : World) : Sem.run Try.prog (Instr.index 58 (.agg Try.zeroCells58) (.int .i64 (q : Int))) W = .ok (.int .i64 0) W := by
  have hz : Try.zeroCells58[q]? = some (.int .i64 0) := by rw [back_zero, List.getElem?_toArray, List.getElem?_map, List.getElem?_replicate, if_pos hq]; rfl
  have d1 : (0 ≤ (q : Int)) = True := eq_true (by omega)
  have d2 : ((q : Int) < 256) = True := eq_true (by omega)
  unfold Instr.index part isAgg
  go_simp
  exact (Array.getElem?_eq_some_iff.1 hz).2

set_option maxHeartbeats 16000000 in
set_option maxRecDepth 100000 in
theorem back_walk (k : Nat) (A0 : Option Addr) (c0 : Nat) (s : List Int) (A1 : Option Addr) (cb : Nat) (b : List Int) (a : Int) (w : World) (hr0 : Kd.C (Kd.int .u8) w A0 s.length s) (hc0 : s.length ≤ c0) (hr1 : Kd.C (Kd.int .u8) w A1 b.length b) (hc1 : b.length ≤ cb)
    (hlv : sapperlaw13_lives.f k = some true) (h : s.length ≤ 16777216 → b.length ≤ 16777216 → ∃ (x y : List Int) (e g : Int), suffix_Turn.f k s = some (x, e, 0) ∧ suffix_Unturn.f x e = some (s, 0) ∧ x.length = s.length ∧
      (∀ q : Nat, q < s.length → ∃ c d : Nat, c < 256 ∧ d < 256 ∧ rd s q = (c : Int) ∧ rd x q = (d : Int)) ∧ cA s x s.length = List.replicate 256 0 ∧ suffix_Unturn.f b a = some (y, g) ∧ ((g ≠ 0 ∧ y = []) ∨ (g = 0 ∧ suffix_Turn.f k y = some (b, a, 0)))) :
    Calls Try.prog 10 #[.slice A0 s.length c0, .slice A1 b.length cb, .int .i64 a] w fun e w' => e = .returned (.bool true) ∧ Below w.heap.size w w' := by
  have HR0 := Aside0.mk hr0
  have HC0 := Aside0.mk hc0
  have HR1 := Aside0.mk hr1
  have HC1 := Aside0.mk hc1
  have HB := Aside0.mk (Below.refl w.heap.size w)
  have HLV := Aside0.mk hlv
  clear hr0 hc0 hr1 hc1 hlv
  by_cases g1 : s.length > 16777216
  · have g1b : decide (16777216 < (s.length : Int)) = true := decide_eq_true (by omega)
    have g1c : decide (16777216 < s.length) = true := decide_eq_true (by omega)
    clear h g1
    go_enter Try.func10, Try.ntmps10
    go_wp2_with (first | (go_at_call 15; refine (sapperlaw13_lives.calls k true _ HLV.out).mono ?_; rintro e w1 ⟨rfl, hb⟩; have n0_ := Aside0.mk hb; clear HB hb; have HB := n0_; clear n0_))
    go_ret
    exact ⟨rfl, HB.out⟩
  have g1b : decide (16777216 < (s.length : Int)) = false := decide_eq_false (by omega)
  have g1c : decide (16777216 < s.length) = false := decide_eq_false (by omega)
  by_cases g2 : b.length > 16777216
  · have g2b : decide (16777216 < (b.length : Int)) = true := decide_eq_true (by omega)
    have g2c : decide (16777216 < b.length) = true := decide_eq_true (by omega)
    clear h g1 g2
    go_enter Try.func10, Try.ntmps10
    go_wp2_with (first | (go_at_call 15; refine (sapperlaw13_lives.calls k true _ HLV.out).mono ?_; rintro e w1 ⟨rfl, hb⟩; have n0_ := Aside0.mk hb; clear HB hb; have HB := n0_; clear n0_))
    go_ret
    exact ⟨rfl, HB.out⟩
  have g2b : decide (16777216 < (b.length : Int)) = false := decide_eq_false (by omega)
  have g2c : decide (16777216 < b.length) = false := decide_eq_false (by omega)
  obtain ⟨x, y, e, g, t1, t2, t3, t4, t5, t6, t7⟩ := h (by omega) (by omega)
  have T1 := Aside0.mk t1
  have T2 := Aside0.mk t2
  have T3 := Aside0.mk t3
  have T4 := Aside0.mk t4
  have T5 := Aside0.mk t5
  have T6 := Aside0.mk t6
  have T7 := Aside0.mk t7
  have t3b : ((x.length : Int) == (s.length : Int)) = true := beq_iff_eq.mpr (by omega)
  have t3c : ((x.length : Int) != (s.length : Int)) = false := bne_eq_false_iff_eq.mpr (by omega)
  have t3d : (x.length == s.length) = true := beq_iff_eq.mpr t3
  have HL := Aside0.mk (show s.length ≤ 16777216 ∧ b.length ≤ 16777216 by omega)
  have HS := Aside0.mk (show sapperref01_Same.f s s = some true by unfold sapperref01_Same.f; rw [beq_self_eq_true])
  have HSb := Aside0.mk (show sapperref01_Same.f b b = some true by unfold sapperref01_Same.f; rw [beq_self_eq_true])
  clear h g1 g2 t1 t2 t3 t4 t5 t6 t7
  go_enter Try.func10, Try.ntmps10
  go_wp2_with (first
    | ((with_reducible refine gate_callee (f := 33) rfl ?_); refine goesL_ (some 32) rfl rfl Try.func33 (by kernel_rfl) rfl #[.slice A0 s.length c0] rfl (by (try simp only [List.map_toArray, List.map_cons, List.map_nil]); first | done | rfl) ?_; (refine (suffix_Turn.calls k A0 c0 s x e 0 _ HR0.out HC0.out T1.out).mono ?_); rintro e_ w2 ⟨vX, rfl, ho, hb⟩; refine ⟨_, rfl, ?_⟩; obtain ⟨AX, cX, eX⟩ := Kd.R_slice ho; subst eX; have HX := Aside0.mk ho; have n0_ := Aside0.mk hb; clear HB hb ho; have HB := n0_; clear n0_)
    | ((with_reducible refine gate_callee (f := 37) rfl ?_); refine goesL_ (some 39) rfl rfl Try.func37 (by kernel_rfl) rfl #[.slice AX x.length cX, .int .i64 e] rfl (by (try simp only [List.map_toArray, List.map_cons, List.map_nil]); first | done | rfl) ?_; (refine (suffix_Unturn.calls AX cX x e s 0 _ (Kd.R_reads' HX.out).2.2 (Kd.R_reads' HX.out).2.1 T2.out).mono ?_); rintro e_ w3 ⟨vS, rfl, ho, hb⟩; refine ⟨_, rfl, ?_⟩; obtain ⟨AS, cS, eS⟩ := Kd.R_slice ho; subst eS; have HZ := Aside0.mk (Kd.R_lower ho HB.out.size); have n1_ := Aside0.mk (Kd.R_below HX.out hb); have n0_ := Aside0.mk (below_step HB.out hb); clear HB hb ho HX; have HB := n0_; have HX := n1_; clear n0_ n1_)
    | (go_at_call 35; refine (sapperref01_Same.calls AS cS s A0 c0 s true _ (Kd.R_reads' HZ.out).2.2 (Kd.R_reads' HZ.out).2.1 (Kd.C_below HR0.out HB.out) HC0.out HS.out).mono ?_; rintro e_ w4 ⟨rfl, ⟨nd, rfl⟩⟩; have n1_ := Aside0.mk (Kd.R_drewN HX.out nd); have n0_ := Aside0.mk (pw_below_drewN HB.out nd); clear HX HB HZ; generalize World.drewN w3 nd = w4 at n0_ n1_ ⊢; have HX := n1_; have HB := n0_; clear n0_ n1_))
  have HU := Aside0.mk (show UG w (w4.alloc (.cells Try.zeroCells58 58)) w4.heap.size (cA s x 0) from ⟨below_alloc HB.out _, HB.out.size, cA_len _ _ _, by rw [back_zero]; exact blk_new _ _⟩)
  have n1_ := Aside0.mk (Kd.R_alloc HX.out (.cells Try.zeroCells58 58))
  clear HX HB
  have HX := n1_
  clear n1_
  generalize w4.alloc (.cells Try.zeroCells58 58) = w5 at HU HX ⊢
  generalize w4.heap.size = gC at HU ⊢
  go_loopg [63] (s.length + 1) (fun kq v63 w' => ∃ m : Nat, v63 = .int .i64 (m : Int) ∧ Aside0 (m + kq = s.length + 1 ∧ m ≤ s.length) ∧ Aside0 (UG w w' gC (cA s x m)) ∧ Aside0 ((Kd.int .u8).R 5 w' w.heap.size (fun _ => True) (.slice AX x.length cX) x))
  case atStart => exact ⟨0, rfl, ⟨by omega⟩, HU, HX⟩
  case round =>
    clear HU HX
    obtain ⟨m, rfl, HK, HU, HX⟩ := hrel
    cases gk with
    | zero => exact absurd HK.out (by omega)
    | succ k1 =>
      have hL := HL.out
      have hT3 := T3.out
      by_cases c1 : m < s.length
      · have c1b : decide ((m : Int) < (s.length : Int)) = true := decide_eq_true (by omega)
        have c1c : ((m : Int) < (s.length : Int)) = True := eq_true (by omega)
        have c1d : ((m : Int) < (x.length : Int)) = True := eq_true (by omega)
        have c2b : (0 ≤ (m : Int)) = True := eq_true (by omega)
        obtain ⟨ad, e1, hx⟩ := Kd.at_int HR0.out (m : Int) (by omega) (by omega)
        subst e1
        replace hx := (HU.out.hb.cell (World.block_lt_of_cell? w _ hx)).trans hx
        obtain ⟨ax, e2, hy⟩ := Kd.at_int (Kd.R_reads' HX.out).2.2 (m : Int) (by omega) (by omega)
        subst e2
        obtain ⟨c, d, hc, hd, ec, ed⟩ := T4.out m c1
        rw [ec, Int.toNat_natCast] at hx
        rw [ed, Int.toNat_natCast] at hy
        have HN := Aside0.mk (cA_step s x ec ed)
        have dc1 : (0 ≤ (c : Int)) = True := eq_true (by omega)
        have dc2 : ((c : Int) < 256) = True := eq_true (by omega)
        have dd1 : (0 ≤ (d : Int)) = True := eq_true (by omega)
        have dd2 : ((d : Int) < 256) = True := eq_true (by omega)
        have k1_ := HU.out.get hc
        rw [List.getD_eq_getElem?_getD] at k1_
        have k2_ := blk_frozen HU.out.blk c
        go_wp2_with (first | ((with_reducible refine gate_store (t := 3) (p := 73) rfl ?_); refine store_event (t := 3) (p := 73) (v := ?voa_) (w1 := (wr.setCell ⟨gC, c, none⟩ (.int .i64 (wrap64 ((cA s x m)[c]?.getD 0 + 1))))) ?hg ?ho ?hn ?hr ?_; (case ho => rfl); (case hg => rfl); (case hn => rfl); (case hr => first | (go_simp; done) | (go_simp; rfl)); intro w9 hw; have n0_ := Aside0.mk (by rw [hw]; exact HU.out.put c _ : UG w w9 gC ((cA s x m).set c (wrap64 ((cA s x m)[c]?.getD 0 + 1)))); have n1_ := Aside0.mk (by rw [hw]; exact Kd.R_set HX.out HU.out.blk (by decide) c _ : (Kd.int .u8).R 5 w9 w.heap.size (fun _ => True) (.slice (some ax) x.length cX) x); clear HU HX hw k1_ k2_ hx hy; have HU := n0_; have HX := n1_; clear n0_ n1_; obtain ⟨ax2, e3, hy⟩ := Kd.at_int (Kd.R_reads' HX.out).2.2 (m : Int) (by omega) (by omega); (injection e3 with e3); subst e3; rw [ed, Int.toNat_natCast] at hy; have k1_ := HU.out.get hd; rw [List.getD_eq_getElem?_getD] at k1_; have k2_ := blk_frozen HU.out.blk d))
        go_roundg k1
        case measure => have := HK.out; omega
        case rel => exact ⟨m + 1, by simp, ⟨by have := HK.out; omega⟩, ⟨(HU.out.put d _).to HN.out.symm⟩, ⟨Kd.R_set HX.out HU.out.blk (by decide) d _⟩⟩
      · have hm : m = s.length := by have := HK.out; omega
        subst hm
        have c1b : decide ((s.length : Int) < (s.length : Int)) = false := decide_eq_false (by omega)
        have HU2 := Aside0.mk (HU.out.to T5.out)
        have hblk := HU2.out.blk
        rw [← back_zero] at hblk
        clear HU HX
        go_wp2_with (first | ((with_reducible refine gate_dst (N := 83) rfl ?_); (try (refine gate_guard (by rfl) ?_; dsimp only)); refine wpList_load_row rfl 58 _ rfl gC rfl 58 _ (0, 0) _ hblk Try.underlying58 rfl (by kernel_rfl) ?_))
        have HB := Aside0.mk HU2.out.hb
        clear HU2 hblk
        go_loopg [84] 257 (fun kq v84 w' => ∃ q : Nat, v84 = .int .i64 (q : Int) ∧ Aside0 (q + kq = 257 ∧ q ≤ 256) ∧ w' = wr)
        case atStart => exact ⟨0, rfl, ⟨by omega⟩, rfl⟩
        case round =>
          clear HK
          obtain ⟨q, rfl, HK, rfl⟩ := hrel
          cases gk with
          | zero => exact absurd HK.out (by omega)
          | succ k2 =>
            by_cases c3 : q < 256
            · have c3b : decide ((q : Int) < 256) = true := decide_eq_true (by omega)
              have c3c : ((q : Int) < 256) = True := eq_true (by omega)
              have c4b : (0 ≤ (q : Int)) = True := eq_true (by omega)
              have hz := fun W => back_index (q := q) c3 W
              go_wp2_with (fail)
              go_roundg k2
              case measure => have := HK.out; omega
              case rel => exact ⟨q + 1, by simp, ⟨by have := HK.out; omega⟩, rfl⟩
            · have hq : q = 256 := by have := HK.out; omega
              subst hq
              have HR1b := Aside0.mk (Kd.C_below HR1.out HB.out)
              rcases T7.out with ⟨hg, hy⟩ | ⟨hg, hy⟩
              · subst hy
                have g3 : (g != 0) = true := bne_iff_ne.mpr hg
                have g3b : (g == 0) = false := beq_eq_false_iff_ne.mpr hg
                go_wp2_with (first
                  | ((with_reducible refine gate_callee (f := 37) rfl ?_); refine goesL_ (some 93) rfl rfl Try.func37 (by kernel_rfl) rfl #[.slice A1 b.length cb, .int .i64 a] rfl (by (try simp only [List.map_toArray, List.map_cons, List.map_nil]); first | done | rfl) ?_; (refine (suffix_Unturn.calls A1 cb b a [] g _ HR1b.out HC1.out T6.out).mono ?_); rintro e_ w10 ⟨vY, rfl, ho, hb⟩; refine ⟨_, rfl, ?_⟩; obtain ⟨AY, cY, eY⟩ := Kd.R_slice ho; subst eY; have n0_ := Aside0.mk (below_step HB.out hb); clear HB hb ho HR1b; have HB := n0_; clear n0_)
                  | (go_at_call 15; refine (sapperlaw13_lives.calls k true _ HLV.out).mono ?_; rintro e_ w12 ⟨rfl, hb⟩; have n0_ := Aside0.mk (below_step HB.out hb); clear HB hb; have HB := n0_; clear n0_))
                go_ret
                exact ⟨rfl, HB.out⟩
              · subst hg
                go_wp2_with (first
                  | ((with_reducible refine gate_callee (f := 37) rfl ?_); refine goesL_ (some 93) rfl rfl Try.func37 (by kernel_rfl) rfl #[.slice A1 b.length cb, .int .i64 a] rfl (by (try simp only [List.map_toArray, List.map_cons, List.map_nil]); first | done | rfl) ?_; (refine (suffix_Unturn.calls A1 cb b a y 0 _ HR1b.out HC1.out T6.out).mono ?_); rintro e_ w10 ⟨vY, rfl, ho, hb⟩; refine ⟨_, rfl, ?_⟩; obtain ⟨AY, cY, eY⟩ := Kd.R_slice ho; subst eY; have HYY := Aside0.mk ho; have n0_ := Aside0.mk (below_step HB.out hb); clear HB hb ho HR1b; have HB := n0_; clear n0_)
                  | ((with_reducible refine gate_callee (f := 33) rfl ?_); refine goesL_ (some 106) rfl rfl Try.func33 (by kernel_rfl) rfl #[.slice AY y.length cY] rfl (by (try simp only [List.map_toArray, List.map_cons, List.map_nil]); first | done | rfl) ?_; (refine (suffix_Turn.calls k AY cY y b a 0 _ (Kd.R_reads' HYY.out).2.2 (Kd.R_reads' HYY.out).2.1 hy).mono ?_); rintro e_ w11 ⟨vZ, rfl, ho, hb⟩; refine ⟨_, rfl, ?_⟩; obtain ⟨AZ, cZ, eZ⟩ := Kd.R_slice ho; subst eZ; have HZZ := Aside0.mk ho; have n0_ := Aside0.mk (below_step HB.out hb); clear HB hb ho HYY; have HB := n0_; clear n0_)
                  | (go_at_call 35; refine (sapperref01_Same.calls AZ cZ b A1 cb b true _ (Kd.R_reads' HZZ.out).2.2 (Kd.R_reads' HZZ.out).2.1 (Kd.C_below HR1.out HB.out) HC1.out HSb.out).mono ?_; rintro e_ w13 ⟨rfl, ⟨nd, rfl⟩⟩; have n0_ := Aside0.mk (pw_below_drewN HB.out nd); clear HB HZZ; generalize World.drewN w11 nd = w14 at n0_ ⊢; have HB := n0_; clear n0_)
                  | (go_at_call 15; refine (sapperlaw13_lives.calls k true _ HLV.out).mono ?_; rintro e_ w12 ⟨rfl, hb⟩; have n0_ := Aside0.mk (below_step HB.out hb); clear HB hb; have HB := n0_; clear n0_))
                go_ret
                exact ⟨rfl, HB.out⟩
end Go.Proofs.Ythcnnfahlhklgaa.X
