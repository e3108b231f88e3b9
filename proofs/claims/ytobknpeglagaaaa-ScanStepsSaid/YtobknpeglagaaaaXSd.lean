/- By hand: package scan's Forward, Backward, Split (after their closures). -/
import Derived.Test.YtobknpeglagaaaaXSc
namespace Go.Proofs.Ytobknpeglagaaaa.X
open Go.RowKit Go.Proofs.YtobknpeglagaaaaW.PrintWords Go.Proofs.YtobknpeglagaaaaW.PrintLast Go.Proofs.YtobknpeglagaaaaW.PrintMore
attribute [local go_sem] max2_int min2_int max_two min_two
set_option linter.unusedVariables false
set_option linter.unusedSimpArgs false

def scan_Forward.f (l0 : List Int) (a1 : Int) (l2 : List Int) (a3 a4 : Int) : Option Int := (scan_right.f l0 a1 l2 a3 a4).bind fun t => (if t = true then bst (fwd1 l0 a1 l2 a3) (l2.length + 2) (mn (wrap64 (a4 - a3)) (wrap64 ((l0.length : Int) - a1))) 0 0 0 0 else some 0)
set_option maxHeartbeats 4000000 in
set_option maxRecDepth 100000 in
theorem scan_Forward.calls (A0 : Option Addr) (c0 : Nat) (l0 : List Int) (a1 : Int) (A2 : Option Addr) (c2 : Nat) (l2 : List Int) (a3 : Int) (a4 : Int) (r : Int) (w : World) (hr0 : Kd.C (Kd.int .u8) w A0 l0.length l0) (hc0 : l0.length ≤ c0) (hr2 : Kd.C (Kd.int .u8) w A2 l2.length l2) (hc2 : l2.length ≤ c2) (h : scan_Forward.f l0 a1 l2 a3 a4 = some r) :
  Calls Try.prog 17 #[.slice A0 l0.length c0, .int .i64 a1, .slice A2 l2.length c2, .int .i64 a3, .int .i64 a4] w fun e w' => e = .returned (.int .i64 r) ∧ Below w.heap.size w w' := by
 have HR0 := Aside0.mk hr0
 have HC0 := Aside0.mk hc0
 have HR2 := Aside0.mk hr2
 have HC2 := Aside0.mk hc2
 clear hr0 hc0 hr2 hc2
 unfold scan_Forward.f at h
 replace h := Option.bind_eq_some_iff.mp h
 obtain ⟨b_, hA, h⟩ := h
 have F1 := Aside0.mk hA
 clear hA
 have HH := Aside0.mk h
 clear h
 go_enter Try.func17, Try.ntmps17
 go_wp2_with (fail)
 have hB0 : Below w.heap.size w ((((w.alloc (.cells #[.slice A0 l0.length c0] 23)).alloc (.cells #[.int .i64 a1] 3)).alloc (.cells #[.slice A2 l2.length c2] 23)).alloc (.cells #[.int .i64 a3] 3)) := by repeat (first | (with_reducible first | apply below_alloc) | exact Below.refl _ _)
 have k1 : ((((w.alloc (.cells #[.slice A0 l0.length c0] 23)).alloc (.cells #[.int .i64 a1] 3)).alloc (.cells #[.slice A2 l2.length c2] 23)).alloc (.cells #[.int .i64 a3] 3)).cell? ⟨w.heap.size, 0, none⟩ = some (.slice A0 l0.length c0) := by go_simp
 have k2 : ((((w.alloc (.cells #[.slice A0 l0.length c0] 23)).alloc (.cells #[.int .i64 a1] 3)).alloc (.cells #[.slice A2 l2.length c2] 23)).alloc (.cells #[.int .i64 a3] 3)).cell? ⟨w.heap.size + 1, 0, none⟩ = some (.int .i64 a1) := by go_simp
 have k3 : ((((w.alloc (.cells #[.slice A0 l0.length c0] 23)).alloc (.cells #[.int .i64 a1] 3)).alloc (.cells #[.slice A2 l2.length c2] 23)).alloc (.cells #[.int .i64 a3] 3)).cell? ⟨w.heap.size + 1 + 1, 0, none⟩ = some (.slice A2 l2.length c2) := by go_simp
 have k4 : ((((w.alloc (.cells #[.slice A0 l0.length c0] 23)).alloc (.cells #[.int .i64 a1] 3)).alloc (.cells #[.slice A2 l2.length c2] 23)).alloc (.cells #[.int .i64 a3] 3)).cell? ⟨w.heap.size + 1 + 1 + 1, 0, none⟩ = some (.int .i64 a3) := by go_simp
 generalize ((((w.alloc (.cells #[.slice A0 l0.length c0] 23)).alloc (.cells #[.int .i64 a1] 3)).alloc (.cells #[.slice A2 l2.length c2] 23)).alloc (.cells #[.int .i64 a3] 3)) = W at *
 have HB := Aside0.mk hB0
 clear hB0
 refine (scan_right.calls A0 c0 l0 a1 A2 c2 l2 a3 a4 b_ W (Kd.C_below HR0.out HB.out) HC0.out (Kd.C_below HR2.out HB.out) HC2.out F1.out).mono ?_
 rintro e w' ⟨rfl, hD⟩
 obtain ⟨m_, hm_⟩ := hD.out
 subst hm_
 clear hD
 have K1 := Aside0.mk k1
 have K2 := Aside0.mk k2
 have K3 := Aside0.mk k3
 have K4 := Aside0.mk k4
 cases b_
 ·have h := HH.out
  rw [if_neg (by decide)] at h
  obtain rfl := Option.some.inj h
  clear h HH
  go_wp2
  go_ret
  exact ⟨rfl, pw_below_drewN HB.out _⟩
 ·have h := HH.out
  rw [if_pos rfl] at h
  obtain ⟨m1_, hm1_⟩ : ∃ m : Int, (if (wrap64 ((l0.length : Int) - a1)) < wrap64 (a4 - a3) then (wrap64 ((l0.length : Int) - a1)) else wrap64 (a4 - a3)) = m := ⟨_, rfl⟩
  rw [show mn (wrap64 (a4 - a3)) (wrap64 ((l0.length : Int) - a1)) = m1_ from hm1_] at h
  have H' := Aside0.mk h
  clear h HH
  go_wp2_with (fail)
  refine (best_fwd1 (by rw [World.cell?_drewN]; exact K1.out) (by rw [World.cell?_drewN]; exact K2.out) (by rw [World.cell?_drewN]; exact K3.out) (by rw [World.cell?_drewN]; exact K4.out) (Kd.C_drewN (Kd.C_below HR0.out HB.out) _) (Kd.C_drewN (Kd.C_below HR2.out HB.out) _) H'.out).mono ?_
  rintro e w' ⟨rfl, hD2⟩
  have HE : Below w.heap.size w w' := by obtain ⟨q, hq⟩ := hD2.out; rw [hq]; exact pw_below_drewN (pw_below_drewN HB.out _) _
  clear k1 k2 k3 k4 hD2
  go_wp2
  go_ret
  exact ⟨rfl, HE⟩
def scan_Backward.f (l0 : List Int) (a1 : Int) (l2 : List Int) (a3 a4 : Int) : Option Int := (scan_right.f l0 a1 l2 a3 a4).bind fun t => (if t = true then bst (bwd1 l0 a1 l2 a4) (l2.length + 2) (mn (wrap64 (a4 - a3)) a1) 0 0 0 0 else some 0)
set_option maxHeartbeats 4000000 in
set_option maxRecDepth 100000 in
theorem scan_Backward.calls (A0 : Option Addr) (c0 : Nat) (l0 : List Int) (a1 : Int) (A2 : Option Addr) (c2 : Nat) (l2 : List Int) (a3 : Int) (a4 : Int) (r : Int) (w : World) (hr0 : Kd.C (Kd.int .u8) w A0 l0.length l0) (hc0 : l0.length ≤ c0) (hr2 : Kd.C (Kd.int .u8) w A2 l2.length l2) (hc2 : l2.length ≤ c2) (h : scan_Backward.f l0 a1 l2 a3 a4 = some r) :
  Calls Try.prog 19 #[.slice A0 l0.length c0, .int .i64 a1, .slice A2 l2.length c2, .int .i64 a3, .int .i64 a4] w fun e w' => e = .returned (.int .i64 r) ∧ Below w.heap.size w w' := by
 have HR0 := Aside0.mk hr0
 have HC0 := Aside0.mk hc0
 have HR2 := Aside0.mk hr2
 have HC2 := Aside0.mk hc2
 clear hr0 hc0 hr2 hc2
 unfold scan_Backward.f at h
 replace h := Option.bind_eq_some_iff.mp h
 obtain ⟨b_, hA, h⟩ := h
 have F1 := Aside0.mk hA
 clear hA
 have HH := Aside0.mk h
 clear h
 go_enter Try.func19, Try.ntmps19
 go_wp2_with (fail)
 have hB0 : Below w.heap.size w ((((w.alloc (.cells #[.slice A0 l0.length c0] 23)).alloc (.cells #[.int .i64 a1] 3)).alloc (.cells #[.slice A2 l2.length c2] 23)).alloc (.cells #[.int .i64 a4] 3)) := by repeat (first | (with_reducible first | apply below_alloc) | exact Below.refl _ _)
 have k1 : ((((w.alloc (.cells #[.slice A0 l0.length c0] 23)).alloc (.cells #[.int .i64 a1] 3)).alloc (.cells #[.slice A2 l2.length c2] 23)).alloc (.cells #[.int .i64 a4] 3)).cell? ⟨w.heap.size, 0, none⟩ = some (.slice A0 l0.length c0) := by go_simp
 have k2 : ((((w.alloc (.cells #[.slice A0 l0.length c0] 23)).alloc (.cells #[.int .i64 a1] 3)).alloc (.cells #[.slice A2 l2.length c2] 23)).alloc (.cells #[.int .i64 a4] 3)).cell? ⟨w.heap.size + 1, 0, none⟩ = some (.int .i64 a1) := by go_simp
 have k3 : ((((w.alloc (.cells #[.slice A0 l0.length c0] 23)).alloc (.cells #[.int .i64 a1] 3)).alloc (.cells #[.slice A2 l2.length c2] 23)).alloc (.cells #[.int .i64 a4] 3)).cell? ⟨w.heap.size + 1 + 1, 0, none⟩ = some (.slice A2 l2.length c2) := by go_simp
 have k4 : ((((w.alloc (.cells #[.slice A0 l0.length c0] 23)).alloc (.cells #[.int .i64 a1] 3)).alloc (.cells #[.slice A2 l2.length c2] 23)).alloc (.cells #[.int .i64 a4] 3)).cell? ⟨w.heap.size + 1 + 1 + 1, 0, none⟩ = some (.int .i64 a4) := by go_simp
 generalize ((((w.alloc (.cells #[.slice A0 l0.length c0] 23)).alloc (.cells #[.int .i64 a1] 3)).alloc (.cells #[.slice A2 l2.length c2] 23)).alloc (.cells #[.int .i64 a4] 3)) = W at *
 have HB := Aside0.mk hB0
 clear hB0
 refine (scan_right.calls A0 c0 l0 a1 A2 c2 l2 a3 a4 b_ W (Kd.C_below HR0.out HB.out) HC0.out (Kd.C_below HR2.out HB.out) HC2.out F1.out).mono ?_
 rintro e w' ⟨rfl, hD⟩
 obtain ⟨m_, hm_⟩ := hD.out
 subst hm_
 clear hD
 have K1 := Aside0.mk k1
 have K2 := Aside0.mk k2
 have K3 := Aside0.mk k3
 have K4 := Aside0.mk k4
 cases b_
 ·have h := HH.out
  rw [if_neg (by decide)] at h
  obtain rfl := Option.some.inj h
  clear h HH
  go_wp2
  go_ret
  exact ⟨rfl, pw_below_drewN HB.out _⟩
 ·have h := HH.out
  rw [if_pos rfl] at h
  obtain ⟨m1_, hm1_⟩ : ∃ m : Int, (if a1 < wrap64 (a4 - a3) then a1 else wrap64 (a4 - a3)) = m := ⟨_, rfl⟩
  rw [show mn (wrap64 (a4 - a3)) a1 = m1_ from hm1_] at h
  have H' := Aside0.mk h
  clear h HH
  go_wp2_with (fail)
  refine (best_bwd1 (by rw [World.cell?_drewN]; exact K1.out) (by rw [World.cell?_drewN]; exact K2.out) (by rw [World.cell?_drewN]; exact K3.out) (by rw [World.cell?_drewN]; exact K4.out) (Kd.C_drewN (Kd.C_below HR0.out HB.out) _) (Kd.C_drewN (Kd.C_below HR2.out HB.out) _) H'.out).mono ?_
  rintro e w' ⟨rfl, hD2⟩
  have HE : Below w.heap.size w w' := by obtain ⟨q, hq⟩ := hD2.out; rw [hq]; exact pw_below_drewN (pw_below_drewN HB.out _) _
  clear k1 k2 k3 k4 hD2
  go_wp2
  go_ret
  exact ⟨rfl, HE⟩
def spl1 (l : List Int) (a n : Int) : Bool := decide (a ≥ 0) && decide (a ≤ (l.length : Int)) && decide (n ≤ wrap64 ((l.length : Int) - a))
def sc1 (b1 b2 : Bool) (s : Int) : Int := if b2 = true then wrap64 ((if b1 = true then wrap64 (s + 1) else s) - 1) else (if b1 = true then wrap64 (s + 1) else s)
def splt : Nat → List Int → Int → Int → List Int → Int → Int → Int → Int → Int → Int → Option Int
 | 0, _, _, _, _, _, _, _, _, _, _ => none
 | k + 1, l0, a1, a2, l3, a4, a5, kk, top, s, i => if i < a5 then ((likeAt l0 (wrap64 (a1 + i)) l3 (wrap64 (a4 + i))).bind fun b1 => ((likeAt l0 (wrap64 (a2 + i)) l3 (wrap64 (a4 + i))).bind fun b2 =>
   (if sc1 b1 b2 s > top then splt k l0 a1 a2 l3 a4 a5 (wrap64 (i + 1)) (sc1 b1 b2 s) (sc1 b1 b2 s) (wrap64 (i + 1)) else splt k l0 a1 a2 l3 a4 a5 kk top (sc1 b1 b2 s) (wrap64 (i + 1))))) else some kk
def scan_Split.f (l0 : List Int) (a1 a2 : Int) (l3 : List Int) (a4 a5 : Int) : Option Int := if a5 < 0 then some 0 else (if spl1 l0 a1 a5 = true then (if spl1 l0 a2 a5 = true then (if spl1 l3 a4 a5 = true then splt (l3.length + 2) l0 a1 a2 l3 a4 a5 0 0 0 0 else some 0) else some 0) else some 0)
set_option maxRecDepth 100000 in
theorem spl1_calls {A : Option Addr} {c : Nat} {l : List Int} {a n : Int} {g : Nat} {w : World} (hg : w.cell? ⟨g, 0, none⟩ = some (.int .i64 n)) : Calls Try.prog 37 #[.slice A l.length c, .int .i64 a, .pointer (some ⟨g, 0, none⟩)] w fun e w' => e = .returned (.bool (spl1 l a n)) ∧ w = w' := by
 by_cases h1 : 0 ≤ a
 case neg =>
  have e : spl1 l a n = false := by unfold spl1; rw [decide_eq_false (p := a ≥ 0) (by omega)]; rfl
  rw [e]
  have h1b : decide (0 ≤ a) = false := decide_eq_false h1
  clear h1 e
  go_enter Try.func37, Try.ntmps37
  go_wp2
  go_ret
  exact ⟨rfl, rfl⟩
 by_cases h2 : a ≤ (l.length : Int)
 case neg =>
  have e : spl1 l a n = false := by unfold spl1; rw [decide_eq_false (p := a ≤ (l.length : Int)) (by omega)]; simp
  rw [e]
  have h1b : decide (0 ≤ a) = true := decide_eq_true h1
  have h2b : decide (a ≤ (l.length : Int)) = false := decide_eq_false h2
  clear h1 h2 e
  go_enter Try.func37, Try.ntmps37
  go_wp2
  go_ret
  exact ⟨rfl, rfl⟩
 have e : spl1 l a n = decide (n ≤ wrap64 ((l.length : Int) - a)) := by unfold spl1; rw [decide_eq_true (p := a ≥ 0) (by omega), decide_eq_true (p := a ≤ (l.length : Int)) (by omega)]; rfl
 rw [e]
 have h1b : decide (0 ≤ a) = true := decide_eq_true h1
 have h2b : decide (a ≤ (l.length : Int)) = true := decide_eq_true h2
 clear h1 h2 e
 go_enter Try.func37, Try.ntmps37
 go_wp2
 go_ret
 exact ⟨rfl, rfl⟩
set_option maxHeartbeats 8000000 in
set_option maxRecDepth 100000 in
theorem scan_Split.calls (A0 : Option Addr) (c0 : Nat) (l0 : List Int) (a1 : Int) (a2 : Int) (A3 : Option Addr) (c3 : Nat) (l3 : List Int) (a4 : Int) (a5 : Int) (r : Int) (w : World) (hr0 : Kd.C (Kd.int .u8) w A0 l0.length l0) (hc0 : l0.length ≤ c0) (hr3 : Kd.C (Kd.int .u8) w A3 l3.length l3) (hc3 : l3.length ≤ c3) (h : scan_Split.f l0 a1 a2 l3 a4 a5 = some r) :
  Calls Try.prog 21 #[.slice A0 l0.length c0, .int .i64 a1, .int .i64 a2, .slice A3 l3.length c3, .int .i64 a4, .int .i64 a5] w fun e w' => e = .returned (.int .i64 r) ∧ Below w.heap.size w w' := by
 have HR0 := Aside0.mk hr0
 have HR3 := Aside0.mk hr3
 clear hr0 hc0 hr3 hc3
 have k1 : (w.alloc (.cells #[.int .i64 a5] 3)).cell? ⟨w.heap.size, 0, none⟩ = some (.int .i64 a5) := by go_simp
 have HB : Aside0 (Below w.heap.size w (w.alloc (.cells #[.int .i64 a5] 3))) := ⟨below_alloc (Below.refl _ _) _⟩
 have K1 := Aside0.mk k1
 clear k1
 unfold scan_Split.f at h
 by_cases c1 : a5 < 0
 ·rw [if_pos c1] at h
  obtain rfl := Option.some.inj h
  have c1b : decide (a5 < 0) = true := decide_eq_true c1
  clear c1 h
  go_enter Try.func21, Try.ntmps21
  go_wp2
  go_ret
  exact ⟨rfl, HB.out⟩
 rw [if_neg c1] at h
 have c1b : decide (a5 < 0) = false := decide_eq_false c1
 clear c1
 cases s1 : spl1 l0 a1 a5
 ·rw [s1, if_neg (by decide)] at h
  obtain rfl := Option.some.inj h
  clear h
  have S1 := Aside0.mk s1
  clear s1
  go_enter Try.func21, Try.ntmps21
  go_wp2_with (first | (go_at_call 37; refine (spl1_calls (by first | exact K1.out | go_simp)).mono ?_; rw [S1.out]; rintro e w' ⟨rfl, rfl⟩))
  go_ret
  exact ⟨rfl, HB.out⟩
 rw [s1, if_pos rfl] at h
 have S1 := Aside0.mk s1
 clear s1
 cases s2 : spl1 l0 a2 a5
 ·rw [s2, if_neg (by decide)] at h
  obtain rfl := Option.some.inj h
  clear h
  have S2 := Aside0.mk s2
  clear s2
  go_enter Try.func21, Try.ntmps21
  go_wp2_with (fail)
  refine (spl1_calls (by first | exact K1.out | go_simp)).mono ?_
  rw [S1.out]
  rintro e w' ⟨rfl, rfl⟩
  go_wp2_with (fail)
  refine (spl1_calls (by first | exact K1.out | go_simp)).mono ?_
  rw [S2.out]
  rintro e w' ⟨rfl, rfl⟩
  go_wp2
  go_ret
  exact ⟨rfl, HB.out⟩
 rw [s2, if_pos rfl] at h
 have S2 := Aside0.mk s2
 clear s2
 cases s3 : spl1 l3 a4 a5
 ·rw [s3, if_neg (by decide)] at h
  obtain rfl := Option.some.inj h
  clear h
  have S3 := Aside0.mk s3
  clear s3
  go_enter Try.func21, Try.ntmps21
  go_wp2_with (fail)
  refine (spl1_calls (by first | exact K1.out | go_simp)).mono ?_
  rw [S1.out]
  rintro e w' ⟨rfl, rfl⟩
  go_wp2_with (fail)
  refine (spl1_calls (by first | exact K1.out | go_simp)).mono ?_
  rw [S2.out]
  rintro e w' ⟨rfl, rfl⟩
  go_wp2_with (fail)
  refine (spl1_calls (by first | exact K1.out | go_simp)).mono ?_
  rw [S3.out]
  rintro e w' ⟨rfl, rfl⟩
  go_wp2
  go_ret
  exact ⟨rfl, HB.out⟩
 rw [s3, if_pos rfl] at h
 have S3 := Aside0.mk s3
 have H := Aside0.mk h
 clear s3 h
 obtain ⟨k, hk⟩ : ∃ k : Nat, k = l3.length + 2 := ⟨_, rfl⟩
 rw [← hk] at H
 clear hk
 go_enter Try.func21, Try.ntmps21
 go_wp2_with (fail)
 refine (spl1_calls (by first | exact K1.out | go_simp)).mono ?_
 rw [S1.out]
 rintro e w' ⟨rfl, rfl⟩
 go_wp2_with (fail)
 refine (spl1_calls (by first | exact K1.out | go_simp)).mono ?_
 rw [S2.out]
 rintro e w' ⟨rfl, rfl⟩
 go_wp2_with (fail)
 refine (spl1_calls (by first | exact K1.out | go_simp)).mono ?_
 rw [S3.out]
 rintro e w' ⟨rfl, rfl⟩
 go_wp2
 go_loopg [14, 15, 16, 43] k (fun kq v14 v15 v16 v43 w' => ∃ (k_ t_ s_ i_ : Int), v14 = .int .i64 k_ ∧ v15 = .int .i64 t_ ∧ v16 = .int .i64 s_ ∧ v43 = .int .i64 i_ ∧ Aside0 (splt kq l0 a1 a2 l3 a4 a5 k_ t_ s_ i_ = some r) ∧ Aside0 (kq ≤ k) ∧ Aside0 (Below w.heap.size w w'))
 case atStart => exact ⟨0, 0, 0, 0, rfl, rfl, rfl, rfl, H, ⟨Nat.le_refl _⟩, HB⟩
 case round =>
  clear H HB K1
  obtain ⟨k_, t_, s_, i_, rfl, rfl, rfl, rfl, HA, HK1, HB⟩ := hrel
  cases gk with
  | zero => exact absurd HA.out (by simp [splt])
  | succ k1 =>
   have h := HA.out
   clear HA
   simp only [splt] at h
   by_cases c1 : i_ < a5
   case neg =>
    rw [if_neg c1] at h
    obtain rfl : k_ = r := Option.some.inj h
    have c1b : decide (i_ < a5) = false := decide_eq_false c1
    clear c1 h
    go_wp2
    go_ret
    exact ⟨rfl, HB.out⟩
   rw [if_pos c1] at h
   have c1b : decide (i_ < a5) = true := decide_eq_true c1
   clear c1
   replace h := Option.bind_eq_some_iff.mp h
   obtain ⟨b1, hA, h⟩ := h
   replace h := Option.bind_eq_some_iff.mp h
   obtain ⟨b2, hA2, h⟩ := h
   have HH := Aside0.mk h
   clear h
   obtain ⟨d1, d2, d3, d4, e1⟩ := likeAt_some hA
   obtain ⟨d5, d6, _, _, e2⟩ := likeAt_some hA2
   clear hA hA2
   obtain ⟨ad1, eq1, hx1⟩ := Kd.at_int (Kd.C_below HR0.out HB.out) _ d1 d2
   subst eq1
   obtain ⟨ad2, eq2, hx2⟩ := Kd.at_int (Kd.C_below HR0.out HB.out) _ d5 d6
   obtain rfl := Option.some.inj eq2
   obtain ⟨ad3, eq3, hx3⟩ := Kd.at_int (Kd.C_below HR3.out HB.out) _ d3 d4
   subst eq3
   have d1b := eq_true d1
   have d2b := eq_true d2
   have d3b := eq_true d3
   have d4b := eq_true d4
   have d5b := eq_true d5
   have d6b := eq_true d6
   clear d1 d2 d3 d4 d5 d6
   cases b1 <;> cases b2
   all_goals
    have f1 := e1.symm
    have f2 := e2.symm
    clear e1 e2
    have h := HH.out
    simp only [sc1, if_true, if_false, Bool.false_eq_true] at h
    clear HH
   ·by_cases c2 : s_ > t_
    ·rw [if_pos c2] at h
     have H' := Aside0.mk h
     have c2b : decide (t_ < s_) = true := decide_eq_true c2
     clear c2 h
     go_wp2
     go_quiet (fail)
     go_wp2
     go_quiet (fail)
     go_wp2
     go_roundg k1
     case measure => have := HK1.out; omega
     case rel => exact ⟨_, _, _, _, rfl, rfl, rfl, rfl, H', ⟨by have := HK1.out; omega⟩, ⟨by repeat (first | exact HB.out | apply pw_below_drewN)⟩⟩
    ·rw [if_neg c2] at h
     have H' := Aside0.mk h
     have c2b : decide (t_ < s_) = false := decide_eq_false c2
     clear c2 h
     go_wp2
     go_quiet (fail)
     go_wp2
     go_quiet (fail)
     go_wp2
     go_roundg k1
     case measure => have := HK1.out; omega
     case rel => exact ⟨_, _, _, _, rfl, rfl, rfl, rfl, H', ⟨by have := HK1.out; omega⟩, ⟨by repeat (first | exact HB.out | apply pw_below_drewN)⟩⟩
   ·by_cases c2 : wrap64 (s_ - 1) > t_
    ·rw [if_pos c2] at h
     have H' := Aside0.mk h
     have c2b : decide (t_ < wrap64 (s_ - 1)) = true := decide_eq_true c2
     clear c2 h
     go_wp2
     go_quiet (fail)
     go_wp2
     go_quiet (fail)
     go_wp2
     go_roundg k1
     case measure => have := HK1.out; omega
     case rel => exact ⟨_, _, _, _, rfl, rfl, rfl, rfl, H', ⟨by have := HK1.out; omega⟩, ⟨by repeat (first | exact HB.out | apply pw_below_drewN)⟩⟩
    ·rw [if_neg c2] at h
     have H' := Aside0.mk h
     have c2b : decide (t_ < wrap64 (s_ - 1)) = false := decide_eq_false c2
     clear c2 h
     go_wp2
     go_quiet (fail)
     go_wp2
     go_quiet (fail)
     go_wp2
     go_roundg k1
     case measure => have := HK1.out; omega
     case rel => exact ⟨_, _, _, _, rfl, rfl, rfl, rfl, H', ⟨by have := HK1.out; omega⟩, ⟨by repeat (first | exact HB.out | apply pw_below_drewN)⟩⟩
   ·by_cases c2 : wrap64 (s_ + 1) > t_
    ·rw [if_pos c2] at h
     have H' := Aside0.mk h
     have c2b : decide (t_ < wrap64 (s_ + 1)) = true := decide_eq_true c2
     clear c2 h
     go_wp2
     go_quiet (fail)
     go_wp2
     go_quiet (fail)
     go_wp2
     go_roundg k1
     case measure => have := HK1.out; omega
     case rel => exact ⟨_, _, _, _, rfl, rfl, rfl, rfl, H', ⟨by have := HK1.out; omega⟩, ⟨by repeat (first | exact HB.out | apply pw_below_drewN)⟩⟩
    ·rw [if_neg c2] at h
     have H' := Aside0.mk h
     have c2b : decide (t_ < wrap64 (s_ + 1)) = false := decide_eq_false c2
     clear c2 h
     go_wp2
     go_quiet (fail)
     go_wp2
     go_quiet (fail)
     go_wp2
     go_roundg k1
     case measure => have := HK1.out; omega
     case rel => exact ⟨_, _, _, _, rfl, rfl, rfl, rfl, H', ⟨by have := HK1.out; omega⟩, ⟨by repeat (first | exact HB.out | apply pw_below_drewN)⟩⟩
   ·by_cases c2 : wrap64 (wrap64 (s_ + 1) - 1) > t_
    ·rw [if_pos c2] at h
     have H' := Aside0.mk h
     have c2b : decide (t_ < wrap64 (wrap64 (s_ + 1) - 1)) = true := decide_eq_true c2
     clear c2 h
     go_wp2
     go_quiet (fail)
     go_wp2
     go_quiet (fail)
     go_wp2
     go_roundg k1
     case measure => have := HK1.out; omega
     case rel => exact ⟨_, _, _, _, rfl, rfl, rfl, rfl, H', ⟨by have := HK1.out; omega⟩, ⟨by repeat (first | exact HB.out | apply pw_below_drewN)⟩⟩
    ·rw [if_neg c2] at h
     have H' := Aside0.mk h
     have c2b : decide (t_ < wrap64 (wrap64 (s_ + 1) - 1)) = false := decide_eq_false c2
     clear c2 h
     go_wp2
     go_quiet (fail)
     go_wp2
     go_quiet (fail)
     go_wp2
     go_roundg k1
     case measure => have := HK1.out; omega
     case rel => exact ⟨_, _, _, _, rfl, rfl, rfl, rfl, H', ⟨by have := HK1.out; omega⟩, ⟨by repeat (first | exact HB.out | apply pw_below_drewN)⟩⟩
end Go.Proofs.Ytobknpeglagaaaa.X
