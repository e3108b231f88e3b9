/- By hand: bounds and most of package find: a search that asks a closure, which compares. -/
import Derived.Test.YtphchkkicpnehaaXx0
import Derived.Test.YtphchkkicpnehaaXx56
import Derived.Test.YtphchkkicpnehaaXx20
namespace Go.Proofs.Ytphchkkicpnehaa.X
open Go.RowKit Go.Proofs.YtphchkkicpnehaaW.PrintWords Go.Proofs.YtphchkkicpnehaaW.PrintLast Go.Proofs.YtphchkkicpnehaaW.PrintMore
attribute [local go_sem] ptrOf_eql ptrOf_neq ptrOf_eqg ptrOf_neg max2_int min2_int max_two min_two
set_option linter.unusedVariables false
set_option linter.unusedSimpArgs false

theorem ptrOf_is (A : Option Addr) (n c : Nat) : ∃ q, ptrOf (.slice A n c) = .pointer q := by
  show ∃ q, (if n = 0 then _ else _) = _
  split <;> exact ⟨_, rfl⟩
/-- search, of a test of what compare tells. -/
def srch (t : Int → Bool) : Nat → List S61 → List Int → Int → Int → Option Int
  | 0, _, _, _, _ => none
  | k + 1, x, p, lo, hi => if lo < hi then ((find_compare.f k x (wrap64 (lo + wrap64 (Int.tdiv (wrap64 (hi - lo)) 2))) p).bind fun c => (if t c.1 = true then srch t k x p lo (wrap64 (lo + wrap64 (Int.tdiv (wrap64 (hi - lo)) 2))) else srch t k x p (wrap64 (wrap64 (lo + wrap64 (Int.tdiv (wrap64 (hi - lo)) 2)) + 1)) hi)) else some lo
theorem srch_mono (t : Int → Bool) : ∀ k x p lo hi, LeO (srch t k x p lo hi) (srch t (k + 1) x p lo hi)
  | 0, x, p, lo, hi => fun r h => by simp [srch] at h
  | k + 1, x, p, lo, hi => by
    unfold srch
    refine LeO.ite (LeO.bind (find_compare.mono _ _ _ _) (fun _ => LeO.ite (srch_mono t k _ _ _ _) (srch_mono t k _ _ _ _))) (LeO.refl _)

section
variable (k : Nat) {A0 : Option Addr} {c0 : Nat} {l0 : List S61} {Ap : Option Addr} {cp : Nat} {p : List Int} {mid c n : Int} {w : World} {g2 g3 : Nat}
set_option maxRecDepth 100000 in
theorem bounds1_calls (hx : w.cell? ⟨g2, 0, none⟩ = some (ptrOf (.slice A0 l0.length c0))) (hp : w.cell? ⟨g3, 0, none⟩ = some (.slice Ap p.length cp)) (hr0 : Kd.C k61 w A0 l0.length l0) (hc0 : l0.length ≤ c0) (hr2 : Kd.C (Kd.int .u8) w Ap p.length p) (hc2 : p.length ≤ cp) (h : find_compare.f k l0 mid p = some (c, n)) :
    Calls Try.prog 55 #[.int .i64 mid, .pointer (some ⟨g2, 0, none⟩), .pointer (some ⟨g3, 0, none⟩)] w fun e w' => e = .returned (.bool (decide (c ≥ 0))) ∧ Below w.heap.size w w' := by
  go_enter Try.func55, Try.ntmps55
  go_wp2_with (fail)
  refine (find_compare.calls k A0 c0 l0 mid Ap cp p c n _ ?s1 ?s2 ?s3 ?s4 h).mono ?_
  case s1 => exact hr0
  case s2 => exact hc0
  case s3 => exact hr2
  case s4 => exact hc2
  rintro e w' ⟨rfl, hB⟩
  go_wp2
  go_ret
  exact ⟨rfl, hB⟩
set_option maxRecDepth 100000 in
theorem bounds2_calls (hx : w.cell? ⟨g2, 0, none⟩ = some (ptrOf (.slice A0 l0.length c0))) (hp : w.cell? ⟨g3, 0, none⟩ = some (.slice Ap p.length cp)) (hr0 : Kd.C k61 w A0 l0.length l0) (hc0 : l0.length ≤ c0) (hr2 : Kd.C (Kd.int .u8) w Ap p.length p) (hc2 : p.length ≤ cp) (h : find_compare.f k l0 mid p = some (c, n)) :
    Calls Try.prog 57 #[.int .i64 mid, .pointer (some ⟨g2, 0, none⟩), .pointer (some ⟨g3, 0, none⟩)] w fun e w' => e = .returned (.bool (decide (c > 0))) ∧ Below w.heap.size w w' := by
  go_enter Try.func57, Try.ntmps57
  go_wp2_with (fail)
  refine (find_compare.calls k A0 c0 l0 mid Ap cp p c n _ ?s1 ?s2 ?s3 ?s4 h).mono ?_
  case s1 => exact hr0
  case s2 => exact hc0
  case s3 => exact hr2
  case s4 => exact hc2
  rintro e w' ⟨rfl, hB⟩
  go_wp2
  go_ret
  exact ⟨rfl, hB⟩
set_option maxRecDepth 100000 in
theorem most1_calls (hx : w.cell? ⟨g2, 0, none⟩ = some (ptrOf (.slice A0 l0.length c0))) (hp : w.cell? ⟨g3, 0, none⟩ = some (.slice Ap p.length cp)) (hr0 : Kd.C k61 w A0 l0.length l0) (hc0 : l0.length ≤ c0) (hr2 : Kd.C (Kd.int .u8) w Ap p.length p) (hc2 : p.length ≤ cp) (h : find_compare.f k l0 mid p = some (c, n)) :
    Calls Try.prog 58 #[.int .i64 mid, .pointer (some ⟨g2, 0, none⟩), .pointer (some ⟨g3, 0, none⟩)] w fun e w' => e = .returned (.bool (decide (c ≥ 0))) ∧ Below w.heap.size w w' := by
  go_enter Try.func58, Try.ntmps58
  go_wp2_with (fail)
  refine (find_compare.calls k A0 c0 l0 mid Ap cp p c n _ ?s1 ?s2 ?s3 ?s4 h).mono ?_
  case s1 => exact hr0
  case s2 => exact hc0
  case s3 => exact hr2
  case s4 => exact hc2
  rintro e w' ⟨rfl, hB⟩
  go_wp2
  go_ret
  exact ⟨rfl, hB⟩
end
set_option maxHeartbeats 4000000 in
set_option maxRecDepth 100000 in
theorem search_bounds1 (k : Nat) {A0 : Option Addr} {c0 : Nat} {l0 : List S61} {Ap : Option Addr} {cp : Nat} {p : List Int} {lo hi r : Int} {w : World} {g2 g3 : Nat} (hx : w.cell? ⟨g2, 0, none⟩ = some (ptrOf (.slice A0 l0.length c0))) (hp : w.cell? ⟨g3, 0, none⟩ = some (.slice Ap p.length cp)) (hr0 : Kd.C k61 w A0 l0.length l0) (hc0 : l0.length ≤ c0) (hr2 : Kd.C (Kd.int .u8) w Ap p.length p) (hc2 : p.length ≤ cp) (h : srch (fun c => decide (c ≥ 0)) k l0 p lo hi = some r) :
    Calls Try.prog 54 #[.int .i64 lo, .int .i64 hi, .func (.func 55) #[] #[.pointer (some ⟨g2, 0, none⟩), .pointer (some ⟨g3, 0, none⟩)]] w fun e w' => e = .returned (.int .i64 r) ∧ Below w.heap.size w w' := by
  have HX := Aside0.mk hx
  have HP := Aside0.mk hp
  have HR0 := Aside0.mk hr0
  have HC0 := Aside0.mk hc0
  have HR2 := Aside0.mk hr2
  have HC2 := Aside0.mk hc2
  have H := Aside0.mk h
  have HB := Aside0.mk (Below.refl w.heap.size w)
  clear hx hp hr0 hc0 hr2 hc2 h
  go_enter Try.func54, Try.ntmps54
  go_wp2
  go_loopg [0, 1] k (fun kq v0 v1 w' => ∃ (lo_ hi_ : Int), v0 = .int .i64 lo_ ∧ v1 = .int .i64 hi_ ∧ Aside0 (srch (fun c => decide (c ≥ 0)) kq l0 p lo_ hi_ = some r) ∧ Aside0 (kq ≤ k) ∧ Aside0 (Below w.heap.size w w'))
  case atStart => exact ⟨lo, hi, rfl, rfl, H, ⟨Nat.le_refl _⟩, HB⟩
  case round =>
    clear H HB
    obtain ⟨lo_, hi_, rfl, rfl, HA, HK1, HB⟩ := hrel
    cases gk with
    | zero => exact absurd HA.out (by simp [srch])
    | succ k1 =>
      have h := HA.out
      clear HA
      simp only [srch] at h
      by_cases c1 : lo_ < hi_
      case neg =>
        rw [if_neg c1] at h
        obtain rfl : lo_ = r := Option.some.inj h
        have c1b : decide (lo_ < hi_) = false := decide_eq_false c1
        clear c1 h
        go_wp2
        go_ret
        exact ⟨rfl, HB.out⟩
      rw [if_pos c1] at h
      have c1b : decide (lo_ < hi_) = true := decide_eq_true c1
      clear c1
      obtain ⟨m_, hm⟩ : ∃ m : Int, wrap64 (lo_ + wrap64 (Int.tdiv (wrap64 (hi_ - lo_)) 2)) = m := ⟨_, rfl⟩
      simp only [hm] at h
      replace h := Option.bind_eq_some_iff.mp h
      obtain ⟨⟨c_, n_⟩, hA, h⟩ := h
      have hc2 : decide (c_ ≥ 0) = true ∨ decide (c_ ≥ 0) = false := by cases decide (c_ ≥ 0) <;> simp
      have HC := Aside0.mk hc2
      have HH := Aside0.mk h
      have HF := Aside0.mk hA
      clear hc2 h hA
      go_wp2_with (fail)
      refine (bounds1_calls k1 (c := c_) (n := n_) ((HB.out.cell (World.block_lt_of_cell? w _ HX.out)).trans HX.out) ((HB.out.cell (World.block_lt_of_cell? w _ HP.out)).trans HP.out) (Kd.C_below HR0.out HB.out) HC0.out (Kd.C_below HR2.out HB.out) HC2.out HF.out).mono ?_
      rintro e w' ⟨rfl, hB2⟩
      have HB2 := Aside0.mk (below_step HB.out hB2)
      clear hB2 HB
      rcases HC.out with hc2 | hc2
      · have h := HH.out
        rw [if_pos hc2] at h
        clear HH
        rw [hc2]
        go_wp2
        go_roundg k1
        case measure => have := HK1.out; omega
        case rel => exact ⟨_, _, rfl, rfl, ⟨h⟩, ⟨by have := HK1.out; omega⟩, HB2⟩
      · have h := HH.out
        rw [if_neg (by rw [hc2]; decide)] at h
        clear HH
        rw [hc2]
        go_wp2
        go_roundg k1
        case measure => have := HK1.out; omega
        case rel => exact ⟨_, _, rfl, (by first | rfl | (simp; done) | (simp [*]; done)), ⟨h⟩, ⟨by have := HK1.out; omega⟩, HB2⟩
set_option maxHeartbeats 4000000 in
set_option maxRecDepth 100000 in
theorem search_bounds2 (k : Nat) {A0 : Option Addr} {c0 : Nat} {l0 : List S61} {Ap : Option Addr} {cp : Nat} {p : List Int} {lo hi r : Int} {w : World} {g2 g3 : Nat} (hx : w.cell? ⟨g2, 0, none⟩ = some (ptrOf (.slice A0 l0.length c0))) (hp : w.cell? ⟨g3, 0, none⟩ = some (.slice Ap p.length cp)) (hr0 : Kd.C k61 w A0 l0.length l0) (hc0 : l0.length ≤ c0) (hr2 : Kd.C (Kd.int .u8) w Ap p.length p) (hc2 : p.length ≤ cp) (h : srch (fun c => decide (c > 0)) k l0 p lo hi = some r) :
    Calls Try.prog 54 #[.int .i64 lo, .int .i64 hi, .func (.func 57) #[] #[.pointer (some ⟨g2, 0, none⟩), .pointer (some ⟨g3, 0, none⟩)]] w fun e w' => e = .returned (.int .i64 r) ∧ Below w.heap.size w w' := by
  have HX := Aside0.mk hx
  have HP := Aside0.mk hp
  have HR0 := Aside0.mk hr0
  have HC0 := Aside0.mk hc0
  have HR2 := Aside0.mk hr2
  have HC2 := Aside0.mk hc2
  have H := Aside0.mk h
  have HB := Aside0.mk (Below.refl w.heap.size w)
  clear hx hp hr0 hc0 hr2 hc2 h
  go_enter Try.func54, Try.ntmps54
  go_wp2
  go_loopg [0, 1] k (fun kq v0 v1 w' => ∃ (lo_ hi_ : Int), v0 = .int .i64 lo_ ∧ v1 = .int .i64 hi_ ∧ Aside0 (srch (fun c => decide (c > 0)) kq l0 p lo_ hi_ = some r) ∧ Aside0 (kq ≤ k) ∧ Aside0 (Below w.heap.size w w'))
  case atStart => exact ⟨lo, hi, rfl, rfl, H, ⟨Nat.le_refl _⟩, HB⟩
  case round =>
    clear H HB
    obtain ⟨lo_, hi_, rfl, rfl, HA, HK1, HB⟩ := hrel
    cases gk with
    | zero => exact absurd HA.out (by simp [srch])
    | succ k1 =>
      have h := HA.out
      clear HA
      simp only [srch] at h
      by_cases c1 : lo_ < hi_
      case neg =>
        rw [if_neg c1] at h
        obtain rfl : lo_ = r := Option.some.inj h
        have c1b : decide (lo_ < hi_) = false := decide_eq_false c1
        clear c1 h
        go_wp2
        go_ret
        exact ⟨rfl, HB.out⟩
      rw [if_pos c1] at h
      have c1b : decide (lo_ < hi_) = true := decide_eq_true c1
      clear c1
      obtain ⟨m_, hm⟩ : ∃ m : Int, wrap64 (lo_ + wrap64 (Int.tdiv (wrap64 (hi_ - lo_)) 2)) = m := ⟨_, rfl⟩
      simp only [hm] at h
      replace h := Option.bind_eq_some_iff.mp h
      obtain ⟨⟨c_, n_⟩, hA, h⟩ := h
      have hc2 : decide (c_ > 0) = true ∨ decide (c_ > 0) = false := by cases decide (c_ > 0) <;> simp
      have HC := Aside0.mk hc2
      have HH := Aside0.mk h
      have HF := Aside0.mk hA
      clear hc2 h hA
      go_wp2_with (fail)
      refine (bounds2_calls k1 (c := c_) (n := n_) ((HB.out.cell (World.block_lt_of_cell? w _ HX.out)).trans HX.out) ((HB.out.cell (World.block_lt_of_cell? w _ HP.out)).trans HP.out) (Kd.C_below HR0.out HB.out) HC0.out (Kd.C_below HR2.out HB.out) HC2.out HF.out).mono ?_
      rintro e w' ⟨rfl, hB2⟩
      have HB2 := Aside0.mk (below_step HB.out hB2)
      clear hB2 HB
      rcases HC.out with hc2 | hc2
      · have h := HH.out
        rw [if_pos hc2] at h
        clear HH
        rw [hc2]
        go_wp2
        go_roundg k1
        case measure => have := HK1.out; omega
        case rel => exact ⟨_, _, rfl, rfl, ⟨h⟩, ⟨by have := HK1.out; omega⟩, HB2⟩
      · have h := HH.out
        rw [if_neg (by rw [hc2]; decide)] at h
        clear HH
        rw [hc2]
        go_wp2
        go_roundg k1
        case measure => have := HK1.out; omega
        case rel => exact ⟨_, _, rfl, (by first | rfl | (simp; done) | (simp [*]; done)), ⟨h⟩, ⟨by have := HK1.out; omega⟩, HB2⟩
set_option maxHeartbeats 4000000 in
set_option maxRecDepth 100000 in
theorem search_most1 (k : Nat) {A0 : Option Addr} {c0 : Nat} {l0 : List S61} {Ap : Option Addr} {cp : Nat} {p : List Int} {lo hi r : Int} {w : World} {g2 g3 : Nat} (hx : w.cell? ⟨g2, 0, none⟩ = some (ptrOf (.slice A0 l0.length c0))) (hp : w.cell? ⟨g3, 0, none⟩ = some (.slice Ap p.length cp)) (hr0 : Kd.C k61 w A0 l0.length l0) (hc0 : l0.length ≤ c0) (hr2 : Kd.C (Kd.int .u8) w Ap p.length p) (hc2 : p.length ≤ cp) (h : srch (fun c => decide (c ≥ 0)) k l0 p lo hi = some r) :
    Calls Try.prog 54 #[.int .i64 lo, .int .i64 hi, .func (.func 58) #[] #[.pointer (some ⟨g2, 0, none⟩), .pointer (some ⟨g3, 0, none⟩)]] w fun e w' => e = .returned (.int .i64 r) ∧ Below w.heap.size w w' := by
  have HX := Aside0.mk hx
  have HP := Aside0.mk hp
  have HR0 := Aside0.mk hr0
  have HC0 := Aside0.mk hc0
  have HR2 := Aside0.mk hr2
  have HC2 := Aside0.mk hc2
  have H := Aside0.mk h
  have HB := Aside0.mk (Below.refl w.heap.size w)
  clear hx hp hr0 hc0 hr2 hc2 h
  go_enter Try.func54, Try.ntmps54
  go_wp2
  go_loopg [0, 1] k (fun kq v0 v1 w' => ∃ (lo_ hi_ : Int), v0 = .int .i64 lo_ ∧ v1 = .int .i64 hi_ ∧ Aside0 (srch (fun c => decide (c ≥ 0)) kq l0 p lo_ hi_ = some r) ∧ Aside0 (kq ≤ k) ∧ Aside0 (Below w.heap.size w w'))
  case atStart => exact ⟨lo, hi, rfl, rfl, H, ⟨Nat.le_refl _⟩, HB⟩
  case round =>
    clear H HB
    obtain ⟨lo_, hi_, rfl, rfl, HA, HK1, HB⟩ := hrel
    cases gk with
    | zero => exact absurd HA.out (by simp [srch])
    | succ k1 =>
      have h := HA.out
      clear HA
      simp only [srch] at h
      by_cases c1 : lo_ < hi_
      case neg =>
        rw [if_neg c1] at h
        obtain rfl : lo_ = r := Option.some.inj h
        have c1b : decide (lo_ < hi_) = false := decide_eq_false c1
        clear c1 h
        go_wp2
        go_ret
        exact ⟨rfl, HB.out⟩
      rw [if_pos c1] at h
      have c1b : decide (lo_ < hi_) = true := decide_eq_true c1
      clear c1
      obtain ⟨m_, hm⟩ : ∃ m : Int, wrap64 (lo_ + wrap64 (Int.tdiv (wrap64 (hi_ - lo_)) 2)) = m := ⟨_, rfl⟩
      simp only [hm] at h
      replace h := Option.bind_eq_some_iff.mp h
      obtain ⟨⟨c_, n_⟩, hA, h⟩ := h
      have hc2 : decide (c_ ≥ 0) = true ∨ decide (c_ ≥ 0) = false := by cases decide (c_ ≥ 0) <;> simp
      have HC := Aside0.mk hc2
      have HH := Aside0.mk h
      have HF := Aside0.mk hA
      clear hc2 h hA
      go_wp2_with (fail)
      refine (most1_calls k1 (c := c_) (n := n_) ((HB.out.cell (World.block_lt_of_cell? w _ HX.out)).trans HX.out) ((HB.out.cell (World.block_lt_of_cell? w _ HP.out)).trans HP.out) (Kd.C_below HR0.out HB.out) HC0.out (Kd.C_below HR2.out HB.out) HC2.out HF.out).mono ?_
      rintro e w' ⟨rfl, hB2⟩
      have HB2 := Aside0.mk (below_step HB.out hB2)
      clear hB2 HB
      rcases HC.out with hc2 | hc2
      · have h := HH.out
        rw [if_pos hc2] at h
        clear HH
        rw [hc2]
        go_wp2
        go_roundg k1
        case measure => have := HK1.out; omega
        case rel => exact ⟨_, _, rfl, rfl, ⟨h⟩, ⟨by have := HK1.out; omega⟩, HB2⟩
      · have h := HH.out
        rw [if_neg (by rw [hc2]; decide)] at h
        clear HH
        rw [hc2]
        go_wp2
        go_roundg k1
        case measure => have := HK1.out; omega
        case rel => exact ⟨_, _, rfl, (by first | rfl | (simp; done) | (simp [*]; done)), ⟨h⟩, ⟨by have := HK1.out; omega⟩, HB2⟩
def find_bounds.f (k : Nat) (l0 : List S61) (l1 : List Int) : Option (Int × Int) := (suffix_Index_Len.f l0).bind fun n => ((srch (fun c => decide (c ≥ 0)) k l0 l1 0 n).bind fun lo => ((srch (fun c => decide (c > 0)) k l0 l1 lo n).bind fun hi => some (lo, hi)))
theorem find_bounds.mono : ∀ a0 a1 k, LeO (find_bounds.f k a0 a1) (find_bounds.f (k + 1) a0 a1) := by
  intro a0 a1 k
  unfold find_bounds.f
  refine LeO.bind (LeO.refl _) (fun _ => LeO.bind (srch_mono _ _ _ _ _ _) (fun _ => LeO.bind (srch_mono _ _ _ _ _ _) (fun _ => LeO.refl _)))
set_option maxHeartbeats 4000000 in
set_option maxRecDepth 100000 in
theorem find_bounds.calls (k : Nat) (A0 : Option Addr) (c0 : Nat) (l0 : List S61) (A1 : Option Addr) (c1 : Nat) (l1 : List Int) (r1 r2 : Int) (w : World) (hr0 : Kd.C k61 w A0 l0.length l0) (hc0 : l0.length ≤ c0) (hr1 : Kd.C (Kd.int .u8) w A1 l1.length l1) (hc1 : l1.length ≤ c1) (h : find_bounds.f k l0 l1 = some (r1, r2)) :
    Calls Try.prog 41 #[ptrOf (.slice A0 l0.length c0), .slice A1 l1.length c1] w fun e w' => e = .returned (.tuple #[.int .i64 r1, .int .i64 r2]) ∧ Below w.heap.size w w' := by
  have HR0 := Aside0.mk hr0
  have HC0 := Aside0.mk hc0
  have HR1 := Aside0.mk hr1
  have HC1 := Aside0.mk hc1
  clear hr0 hc0 hr1 hc1
  unfold find_bounds.f at h
  replace h := Option.bind_eq_some_iff.mp h
  obtain ⟨n, A1_, h⟩ := h
  have F1 := Aside0.mk A1_
  clear A1_
  replace h := Option.bind_eq_some_iff.mp h
  obtain ⟨lo, A1_, h⟩ := h
  have F2 := Aside0.mk A1_
  clear A1_
  replace h := Option.bind_eq_some_iff.mp h
  obtain ⟨hi, A1_, h⟩ := h
  have F3 := Aside0.mk A1_
  clear A1_
  simp only [Option.some.injEq, Prod.mk.injEq] at h
  obtain ⟨rfl, rfl⟩ := h
  obtain ⟨q, hq⟩ := ptrOf_is A0 l0.length c0
  rw [hq]
  have HQ := Aside0.mk hq
  clear hq
  go_enter Try.func41, Try.ntmps41
  go_wp2_with (fail)
  have hB0 : Below w.heap.size w ((w.alloc (.cells #[.pointer q] 23)).alloc (.cells #[.slice A1 l1.length c1] 22)) := by repeat (first | (with_reducible first | apply below_alloc) | exact Below.refl _ _)
  have hc := suffix_Index_Len.calls A0 c0 l0 n _ (Kd.C_below HR0.out hB0) HC0.out F1.out
  rw [HQ.out] at hc
  refine hc.mono ?_
  clear hc
  rintro e w' ⟨rfl, ⟨nd, rfl⟩⟩
  have hB : Below w.heap.size w (((w.alloc (.cells #[.pointer q] 23)).alloc (.cells #[.slice A1 l1.length c1] 22)).drewN nd) := pw_below_drewN hB0 nd
  have h2 : (((w.alloc (.cells #[.pointer q] 23)).alloc (.cells #[.slice A1 l1.length c1] 22)).drewN nd).cell? ⟨w.heap.size, 0, none⟩ = some (.pointer q) := by go_simp
  have h3 : (((w.alloc (.cells #[.pointer q] 23)).alloc (.cells #[.slice A1 l1.length c1] 22)).drewN nd).cell? ⟨w.heap.size + 1, 0, none⟩ = some (.slice A1 l1.length c1) := by go_simp
  generalize (((w.alloc (.cells #[.pointer q] 23)).alloc (.cells #[.slice A1 l1.length c1] 22)).drewN nd) = W at *
  rw [← HQ.out] at h2
  have HB := Aside0.mk hB
  have H2 := Aside0.mk h2
  have H3 := Aside0.mk h3
  clear hB hB0 h2 h3
  go_wp2_with (fail)
  refine (search_bounds1 k H2.out H3.out (Kd.C_below HR0.out HB.out) HC0.out (Kd.C_below HR1.out HB.out) HC1.out F2.out).mono ?_
  rintro e w' ⟨rfl, hB2⟩
  have HB2 := Aside0.mk (below_step HB.out hB2)
  have lt2 := Aside0.mk (World.block_lt_of_cell? _ _ H2.out)
  have lt3 := Aside0.mk (World.block_lt_of_cell? _ _ H3.out)
  have H2' := Aside0.mk ((hB2.cell lt2.out).trans H2.out)
  have H3' := Aside0.mk ((hB2.cell lt3.out).trans H3.out)
  clear hB2 HB H2 H3
  go_wp2_with (fail)
  refine (search_bounds2 k H2'.out H3'.out (Kd.C_below HR0.out HB2.out) HC0.out (Kd.C_below HR1.out HB2.out) HC1.out F3.out).mono ?_
  rintro e w' ⟨rfl, hB3⟩
  have HB3 := Aside0.mk (below_step HB2.out hB3)
  clear hB3 HB2
  go_wp2
  go_ret2
  exact ⟨rfl, HB3.out⟩
def most_l : Nat → List S61 → List Int → Int → Int → Int → Int → Option Int
  | 0, _, _, _, _, _, _ => none
  | k + 1, x, p, lo, n, m, r => if r ≤ lo then (if r < n then ((find_compare.f k x r p).bind fun c => most_l k x p lo n (mx m c.2) (wrap64 (r + 1))) else some m) else some m
theorem most_l_mono : ∀ k x p lo n m r, LeO (most_l k x p lo n m r) (most_l (k + 1) x p lo n m r)
  | 0, x, p, lo, n, m, r => fun r h => by simp [most_l] at h
  | k + 1, x, p, lo, n, m, r => by
    unfold most_l
    refine LeO.ite (LeO.ite (LeO.bind (find_compare.mono _ _ _ _) (fun _ => most_l_mono k _ _ _ _ _ _)) (LeO.refl _)) (LeO.refl _)
def find_most.f (k : Nat) (l0 : List S61) (l1 : List Int) : Option Int := (suffix_Index_Len.f l0).bind fun n => ((srch (fun c => decide (c ≥ 0)) k l0 l1 0 n).bind fun lo => most_l k l0 l1 lo n 0 (mx (wrap64 (lo - 1)) 0))
theorem find_most.mono : ∀ a0 a1 k, LeO (find_most.f k a0 a1) (find_most.f (k + 1) a0 a1) := by
  intro a0 a1 k
  unfold find_most.f
  refine LeO.bind (LeO.refl _) (fun _ => LeO.bind (srch_mono _ _ _ _ _ _) (fun _ => most_l_mono _ _ _ _ _ _ _))
set_option maxHeartbeats 4000000 in
set_option maxRecDepth 100000 in
theorem find_most.calls (k : Nat) (A0 : Option Addr) (c0 : Nat) (l0 : List S61) (A1 : Option Addr) (c1 : Nat) (l1 : List Int) (r1 : Int) (w : World) (hr0 : Kd.C k61 w A0 l0.length l0) (hc0 : l0.length ≤ c0) (hr1 : Kd.C (Kd.int .u8) w A1 l1.length l1) (hc1 : l1.length ≤ c1) (h : find_most.f k l0 l1 = some r1) :
    Calls Try.prog 47 #[ptrOf (.slice A0 l0.length c0), .slice A1 l1.length c1] w fun e w' => e = .returned (.int .i64 r1) ∧ Below w.heap.size w w' := by
  have HR0 := Aside0.mk hr0
  have HC0 := Aside0.mk hc0
  have HR1 := Aside0.mk hr1
  have HC1 := Aside0.mk hc1
  clear hr0 hc0 hr1 hc1
  unfold find_most.f at h
  replace h := Option.bind_eq_some_iff.mp h
  obtain ⟨n, A1_, h⟩ := h
  have F1 := Aside0.mk A1_
  clear A1_
  replace h := Option.bind_eq_some_iff.mp h
  obtain ⟨lo, A1_, h⟩ := h
  have F2 := Aside0.mk A1_
  clear A1_
  have F3 := Aside0.mk h
  clear h
  obtain ⟨q, hq⟩ := ptrOf_is A0 l0.length c0
  rw [hq]
  have HQ := Aside0.mk hq
  clear hq
  go_enter Try.func47, Try.ntmps47
  go_wp2_with (fail)
  have hB0 : Below w.heap.size w ((w.alloc (.cells #[.pointer q] 23)).alloc (.cells #[.slice A1 l1.length c1] 22)) := by repeat (first | (with_reducible first | apply below_alloc) | exact Below.refl _ _)
  have hc := suffix_Index_Len.calls A0 c0 l0 n _ (Kd.C_below HR0.out hB0) HC0.out F1.out
  rw [HQ.out] at hc
  refine hc.mono ?_
  clear hc
  rintro e w' ⟨rfl, ⟨nd, rfl⟩⟩
  have hB : Below w.heap.size w (((w.alloc (.cells #[.pointer q] 23)).alloc (.cells #[.slice A1 l1.length c1] 22)).drewN nd) := pw_below_drewN hB0 nd
  have h2 : (((w.alloc (.cells #[.pointer q] 23)).alloc (.cells #[.slice A1 l1.length c1] 22)).drewN nd).cell? ⟨w.heap.size, 0, none⟩ = some (.pointer q) := by go_simp
  have h3 : (((w.alloc (.cells #[.pointer q] 23)).alloc (.cells #[.slice A1 l1.length c1] 22)).drewN nd).cell? ⟨w.heap.size + 1, 0, none⟩ = some (.slice A1 l1.length c1) := by go_simp
  generalize (((w.alloc (.cells #[.pointer q] 23)).alloc (.cells #[.slice A1 l1.length c1] 22)).drewN nd) = W at *
  rw [← HQ.out] at h2
  have HB := Aside0.mk hB
  have H2 := Aside0.mk h2
  have H3 := Aside0.mk h3
  clear hB hB0 h2 h3
  go_wp2_with (fail)
  refine (search_most1 k H2.out H3.out (Kd.C_below HR0.out HB.out) HC0.out (Kd.C_below HR1.out HB.out) HC1.out F2.out).mono ?_
  rintro e w' ⟨rfl, hB2⟩
  have HB2 := Aside0.mk (below_step HB.out hB2)
  have lt2 := Aside0.mk (World.block_lt_of_cell? _ _ H2.out)
  have lt3 := Aside0.mk (World.block_lt_of_cell? _ _ H3.out)
  have H2' := Aside0.mk ((hB2.cell lt2.out).trans H2.out)
  have H3' := Aside0.mk ((hB2.cell lt3.out).trans H3.out)
  have hsz : W.heap.size ≤ w'.heap.size := below_size hB2
  have LT2 := Aside0.mk (Nat.lt_of_lt_of_le lt2.out hsz)
  have LT3 := Aside0.mk (Nat.lt_of_lt_of_le lt3.out hsz)
  clear hB2 HB H2 H3 hsz
  obtain ⟨o1, ho1⟩ : ∃ r : Int, wrap64 (lo - 1) = r := ⟨_, rfl⟩
  obtain ⟨r0, hr0⟩ : ∃ r : Int, mx o1 0 = r := ⟨_, rfl⟩
  have F3' := F3.out
  rw [ho1, hr0] at F3'
  have F4 := Aside0.mk F3'
  have ho1w : IntKind.i64.wrap (lo - 1) = o1 := (i64_w _).trans ho1
  have hr0m : (if o1 < 0 then 0 else o1) = r0 := hr0
  clear F3 F3'
  go_wp2
  go_loopg [7, 8] k (fun kq v7 v8 wl => ∃ (m_ r_ : Int), v7 = .int .i64 m_ ∧ v8 = .int .i64 r_ ∧ Aside0 (most_l kq l0 l1 lo n m_ r_ = some r1) ∧ Aside0 (kq ≤ k) ∧ Aside0 (Below w.heap.size w wl) ∧ Aside0 (wl.cell? ⟨w.heap.size, 0, none⟩ = some (ptrOf (.slice A0 l0.length c0))) ∧ Aside0 (wl.cell? ⟨w.heap.size + 1, 0, none⟩ = some (.slice A1 l1.length c1)))
  case atStart => exact ⟨_, _, rfl, (by first | rfl | (simp [hr0m]; done) | (simp [*]; done)), F4, ⟨Nat.le_refl _⟩, HB2, H2', H3'⟩
  case round =>
    clear F4 HB2 H2' H3'
    obtain ⟨m_, r_, rfl, rfl, HA, HK1, HB, H2, H3⟩ := hrel
    cases gk with
    | zero => exact absurd HA.out (by simp [most_l])
    | succ k1 =>
      have h := HA.out
      clear HA
      simp only [most_l] at h
      by_cases c1 : r_ ≤ lo
      case neg =>
        rw [if_neg c1] at h
        obtain rfl : m_ = r1 := Option.some.inj h
        have c1b : decide (r_ ≤ lo) = false := decide_eq_false c1
        clear c1 h
        go_wp2
        go_ret
        exact ⟨rfl, HB.out⟩
      rw [if_pos c1] at h
      have c1b : decide (r_ ≤ lo) = true := decide_eq_true c1
      clear c1
      by_cases c2 : r_ < n
      case neg =>
        rw [if_neg c2] at h
        obtain rfl : m_ = r1 := Option.some.inj h
        have c2b : decide (r_ < n) = false := decide_eq_false c2
        clear c2 h
        go_wp2
        go_ret
        exact ⟨rfl, HB.out⟩
      rw [if_pos c2] at h
      have c2b : decide (r_ < n) = true := decide_eq_true c2
      clear c2
      replace h := Option.bind_eq_some_iff.mp h
      obtain ⟨⟨c_, n_⟩, hA, h⟩ := h
      obtain ⟨m2, hm2⟩ : ∃ r : Int, mx m_ n_ = r := ⟨_, rfl⟩
      have hm2m : (if m_ < n_ then n_ else m_) = m2 := hm2
      simp only [hm2] at h
      have HH := Aside0.mk h
      have HF := Aside0.mk hA
      clear h hA
      have h2 := H2.out
      have h3 := H3.out
      go_wp2_with (fail)
      refine (find_compare.calls k1 A0 c0 l0 r_ A1 c1 l1 c_ n_ _ (Kd.C_below HR0.out HB.out) HC0.out (Kd.C_below HR1.out HB.out) HC1.out HF.out).mono ?_
      rintro e w' ⟨rfl, hB2⟩
      have l2 := World.block_lt_of_cell? _ _ h2
      have l3 := World.block_lt_of_cell? _ _ h3
      have H2' := Aside0.mk ((hB2.cell l2).trans h2)
      have H3' := Aside0.mk ((hB2.cell l3).trans h3)
      have HB2 := Aside0.mk (below_step HB.out hB2)
      clear hB2 HB h2 h3 l2 l3 H2 H3
      go_wp2
      go_roundg k1
      case measure => have := HK1.out; omega
      case rel => exact ⟨_, _, (by first | rfl | (simp; done) | (simp [*]; done)), (by first | rfl | (simp; done) | (simp [*]; done)), HH, ⟨by have := HK1.out; omega⟩, HB2, H2', H3'⟩
end Go.Proofs.Ytphchkkicpnehaa.X
