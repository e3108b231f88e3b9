/- By hand: package scan's Forward, Backward, Split: the best number of bytes, by a test that is handed in as a closure. -/
import Derived.Test.YtobknpeglagaaaaXY
import Derived.Test.YtobknpeglagaaaaXx31
namespace Go.Proofs.Ytobknpeglagaaaa.X
open Go.RowKit Go.Proofs.YtobknpeglagaaaaW.PrintWords Go.Proofs.YtobknpeglagaaaaW.PrintLast Go.Proofs.YtobknpeglagaaaaW.PrintMore
attribute [local go_sem] max2_int min2_int max_two min_two
set_option linter.unusedVariables false
set_option linter.unusedSimpArgs false

/-- Two rows alike at two places; nothing where a place is none. -/
def likeAt (a : List Int) (i : Int) (b : List Int) (j : Int) : Option Bool :=
 if 0 ≤ i then (if i < (a.length : Int) then (if 0 ≤ j then (if j < (b.length : Int) then some (rd a i == rd b j) else none) else none) else none) else none
/-- best, of a test. -/
def bst (t : Int → Option Bool) : Nat → Int → Int → Int → Int → Int → Option Int
 | 0, _, _, _, _, _ => none
 | k + 1, most, s, a, top, n => if n < most then ((t n).bind fun b => (if b = true then
   (if wrap64 (wrap64 (2 * wrap64 (s + 1)) - wrap64 (n + 1)) > top then bst t k most (wrap64 (s + 1)) (wrap64 (n + 1)) (wrap64 (wrap64 (2 * wrap64 (s + 1)) - wrap64 (n + 1))) (wrap64 (n + 1)) else bst t k most (wrap64 (s + 1)) a top (wrap64 (n + 1))) else
   (if wrap64 (wrap64 (2 * s) - wrap64 (n + 1)) > top then bst t k most s (wrap64 (n + 1)) (wrap64 (wrap64 (2 * s) - wrap64 (n + 1))) (wrap64 (n + 1)) else bst t k most s a top (wrap64 (n + 1))))) else some a

def fwd1 (l0 : List Int) (pos : Int) (l2 : List Int) (fr n : Int) : Option Bool := likeAt l0 (wrap64 (pos + n)) l2 (wrap64 (fr + n))
def bwd1 (l0 : List Int) (pos : Int) (l2 : List Int) (to_ n : Int) : Option Bool := likeAt l0 (wrap64 (wrap64 (pos - 1) - n)) l2 (wrap64 (wrap64 (to_ - 1) - n))
theorem likeAt_some {a b : List Int} {i j : Int} {r : Bool} (h : likeAt a i b j = some r) : 0 ≤ i ∧ i < (a.length : Int) ∧ 0 ≤ j ∧ j < (b.length : Int) ∧ r = (rd a i == rd b j) := by
 unfold likeAt at h
 by_cases h1 : 0 ≤ i
 case neg => rw [if_neg h1] at h; cases h
 rw [if_pos h1] at h
 by_cases h2 : i < (a.length : Int)
 case neg => rw [if_neg h2] at h; cases h
 rw [if_pos h2] at h
 by_cases h3 : 0 ≤ j
 case neg => rw [if_neg h3] at h; cases h
 rw [if_pos h3] at h
 by_cases h4 : j < (b.length : Int)
 case neg => rw [if_neg h4] at h; cases h
 rw [if_pos h4] at h
 exact ⟨h1, h2, h3, h4, (Option.some.inj h).symm⟩

section
variable {A0 : Option Addr} {c0 : Nat} {l0 : List Int} {A2 : Option Addr} {c2 : Nat} {l2 : List Int} {pos fr n : Int} {r : Bool} {w : World} {g1 g2 g3 g4 : Nat}
set_option maxRecDepth 100000 in
theorem fwd1_calls (h1 : w.cell? ⟨g1, 0, none⟩ = some (.slice A0 l0.length c0)) (h2 : w.cell? ⟨g2, 0, none⟩ = some (.int .i64 pos)) (h3 : w.cell? ⟨g3, 0, none⟩ = some (.slice A2 l2.length c2)) (h4 : w.cell? ⟨g4, 0, none⟩ = some (.int .i64 fr))
  (hr0 : Kd.C (Kd.int .u8) w A0 l0.length l0) (hr2 : Kd.C (Kd.int .u8) w A2 l2.length l2) (h : fwd1 l0 pos l2 fr n = some r) :
  Calls Try.prog 33 #[.int .i64 n, .pointer (some ⟨g1, 0, none⟩), .pointer (some ⟨g2, 0, none⟩), .pointer (some ⟨g3, 0, none⟩), .pointer (some ⟨g4, 0, none⟩)] w fun e w' => e = .returned (.bool r) ∧ Drawn0 w w' := by
 obtain ⟨c1, c2', c3, c4, rfl⟩ := likeAt_some h
 clear h
 obtain ⟨ad1, e1, hx1⟩ := Kd.at_int hr0 _ c1 c2'
 subst e1
 obtain ⟨ad2, e2, hx2⟩ := Kd.at_int hr2 _ c3 c4
 subst e2
 clear hr0 hr2
 have c1b := eq_true c1
 have c2b := eq_true c2'
 have c3b := eq_true c3
 have c4b := eq_true c4
 clear c1 c2' c3 c4
 go_enter Try.func33, Try.ntmps33
 go_wp2
 go_quiet (fail)
 go_wp2
 go_ret
 exact ⟨rfl, ⟨_, rfl⟩⟩
set_option maxRecDepth 100000 in
theorem bwd1_calls (h1 : w.cell? ⟨g1, 0, none⟩ = some (.slice A0 l0.length c0)) (h2 : w.cell? ⟨g2, 0, none⟩ = some (.int .i64 pos)) (h3 : w.cell? ⟨g3, 0, none⟩ = some (.slice A2 l2.length c2)) (h4 : w.cell? ⟨g4, 0, none⟩ = some (.int .i64 fr))
  (hr0 : Kd.C (Kd.int .u8) w A0 l0.length l0) (hr2 : Kd.C (Kd.int .u8) w A2 l2.length l2) (h : bwd1 l0 pos l2 fr n = some r) :
  Calls Try.prog 36 #[.int .i64 n, .pointer (some ⟨g1, 0, none⟩), .pointer (some ⟨g2, 0, none⟩), .pointer (some ⟨g3, 0, none⟩), .pointer (some ⟨g4, 0, none⟩)] w fun e w' => e = .returned (.bool r) ∧ Drawn0 w w' := by
 obtain ⟨c1, c2', c3, c4, rfl⟩ := likeAt_some h
 clear h
 obtain ⟨ad1, e1, hx1⟩ := Kd.at_int hr0 _ c1 c2'
 subst e1
 obtain ⟨ad2, e2, hx2⟩ := Kd.at_int hr2 _ c3 c4
 subst e2
 clear hr0 hr2
 have c1b := eq_true c1
 have c2b := eq_true c2'
 have c3b := eq_true c3
 have c4b := eq_true c4
 clear c1 c2' c3 c4
 go_enter Try.func36, Try.ntmps36
 go_wp2
 go_quiet (fail)
 go_wp2
 go_ret
 exact ⟨rfl, ⟨_, rfl⟩⟩
end
set_option maxHeartbeats 4000000 in
set_option maxRecDepth 100000 in
theorem best_fwd1 {k : Nat} {A0 : Option Addr} {c0 : Nat} {l0 : List Int} {A2 : Option Addr} {c2 : Nat} {l2 : List Int} {pos fr most r : Int} {w : World} {g1 g2 g3 g4 : Nat} (h1 : w.cell? ⟨g1, 0, none⟩ = some (.slice A0 l0.length c0)) (h2 : w.cell? ⟨g2, 0, none⟩ = some (.int .i64 pos)) (h3 : w.cell? ⟨g3, 0, none⟩ = some (.slice A2 l2.length c2)) (h4 : w.cell? ⟨g4, 0, none⟩ = some (.int .i64 fr))
  (hr0 : Kd.C (Kd.int .u8) w A0 l0.length l0) (hr2 : Kd.C (Kd.int .u8) w A2 l2.length l2) (h : bst (fwd1 l0 pos l2 fr) k most 0 0 0 0 = some r) :
  Calls Try.prog 32 #[.int .i64 most, .func (.func 33) #[] #[.pointer (some ⟨g1, 0, none⟩), .pointer (some ⟨g2, 0, none⟩), .pointer (some ⟨g3, 0, none⟩), .pointer (some ⟨g4, 0, none⟩)]] w fun e w' => e = .returned (.int .i64 r) ∧ Drawn0 w w' := by
 have H1 := Aside0.mk h1
 have H2 := Aside0.mk h2
 have H3 := Aside0.mk h3
 have H4 := Aside0.mk h4
 have HR0 := Aside0.mk hr0
 have HR2 := Aside0.mk hr2
 have H := Aside0.mk h
 have HD : Aside0 (Drawn0 w w) := ⟨⟨0, rfl⟩⟩
 clear h1 h2 h3 h4 hr0 hr2 h
 go_enter Try.func32, Try.ntmps32
 go_wp2
 go_loopg [5, 6, 7, 10] k (fun kq v5 v6 v7 v10 w' => ∃ (s_ a_ t_ n_ : Int), v5 = .int .i64 s_ ∧ v6 = .int .i64 a_ ∧ v7 = .int .i64 t_ ∧ v10 = .int .i64 n_ ∧ Aside0 (bst (fwd1 l0 pos l2 fr) kq most s_ a_ t_ n_ = some r) ∧ Aside0 (kq ≤ k) ∧ Aside0 (Drawn0 w w'))
 case atStart => exact ⟨0, 0, 0, 0, rfl, rfl, rfl, rfl, H, ⟨Nat.le_refl _⟩, HD⟩
 case round =>
  clear H HD
  obtain ⟨s_, a_, t_, n_, rfl, rfl, rfl, rfl, HA, HK1, HD⟩ := hrel
  cases gk with
  | zero => exact absurd HA.out (by simp [bst])
  | succ k1 =>
   have h := HA.out
   clear HA
   simp only [bst] at h
   by_cases c1 : n_ < most
   case neg =>
    rw [if_neg c1] at h
    obtain rfl : a_ = r := Option.some.inj h
    have c1b : decide (n_ < most) = false := decide_eq_false c1
    clear c1 h
    go_wp2
    go_ret
    exact ⟨rfl, HD.out⟩
   rw [if_pos c1] at h
   have c1b : decide (n_ < most) = true := decide_eq_true c1
   clear c1
   replace h := Option.bind_eq_some_iff.mp h
   obtain ⟨b_, hA, h⟩ := h
   have HF := Aside0.mk hA
   have HH := Aside0.mk h
   clear hA h
   obtain ⟨m_, hm_⟩ := HD.out.out
   subst hm_
   go_wp2_with (fail)
   refine (fwd1_calls (n := n_) (r := b_) (by rw [World.cell?_drewN]; exact H1.out) (by rw [World.cell?_drewN]; exact H2.out) (by rw [World.cell?_drewN]; exact H3.out) (by rw [World.cell?_drewN]; exact H4.out) (Kd.C_drewN HR0.out _) (Kd.C_drewN HR2.out _) HF.out).mono ?_
   rintro e w' ⟨rfl, hD2⟩
   have HD2 : Aside0 (Drawn0 w w') := ⟨by obtain ⟨q, hq⟩ := hD2.out; exact ⟨m_ + q, by rw [hq, World.drewN_drewN]⟩⟩
   clear hD2 HD
   cases b_
   ·have h := HH.out
    rw [if_neg (by decide)] at h
    clear HH
    by_cases c2 : wrap64 (wrap64 (2 * s_) - wrap64 (n_ + 1)) > t_
    ·rw [if_pos c2] at h
     have H' := Aside0.mk h
     have c2b : decide (t_ < wrap64 (wrap64 (2 * s_) - wrap64 (n_ + 1))) = true := decide_eq_true c2
     clear c2 h
     go_wp2
     go_roundg k1
     case measure => have := HK1.out; omega
     case rel => exact ⟨_, _, _, _, rfl, rfl, rfl, rfl, H', ⟨by have := HK1.out; omega⟩, HD2⟩
    ·rw [if_neg c2] at h
     have H' := Aside0.mk h
     have c2b : decide (t_ < wrap64 (wrap64 (2 * s_) - wrap64 (n_ + 1))) = false := decide_eq_false c2
     clear c2 h
     go_wp2
     go_roundg k1
     case measure => have := HK1.out; omega
     case rel => exact ⟨_, _, _, _, rfl, rfl, rfl, rfl, H', ⟨by have := HK1.out; omega⟩, HD2⟩
   ·have h := HH.out
    rw [if_pos rfl] at h
    clear HH
    by_cases c2 : wrap64 (wrap64 (2 * wrap64 (s_ + 1)) - wrap64 (n_ + 1)) > t_
    ·rw [if_pos c2] at h
     have H' := Aside0.mk h
     have c2b : decide (t_ < wrap64 (wrap64 (2 * wrap64 (s_ + 1)) - wrap64 (n_ + 1))) = true := decide_eq_true c2
     clear c2 h
     go_wp2
     go_roundg k1
     case measure => have := HK1.out; omega
     case rel => exact ⟨_, _, _, _, rfl, rfl, rfl, rfl, H', ⟨by have := HK1.out; omega⟩, HD2⟩
    ·rw [if_neg c2] at h
     have H' := Aside0.mk h
     have c2b : decide (t_ < wrap64 (wrap64 (2 * wrap64 (s_ + 1)) - wrap64 (n_ + 1))) = false := decide_eq_false c2
     clear c2 h
     go_wp2
     go_roundg k1
     case measure => have := HK1.out; omega
     case rel => exact ⟨_, _, _, _, rfl, rfl, rfl, rfl, H', ⟨by have := HK1.out; omega⟩, HD2⟩
set_option maxHeartbeats 4000000 in
set_option maxRecDepth 100000 in
theorem best_bwd1 {k : Nat} {A0 : Option Addr} {c0 : Nat} {l0 : List Int} {A2 : Option Addr} {c2 : Nat} {l2 : List Int} {pos fr most r : Int} {w : World} {g1 g2 g3 g4 : Nat} (h1 : w.cell? ⟨g1, 0, none⟩ = some (.slice A0 l0.length c0)) (h2 : w.cell? ⟨g2, 0, none⟩ = some (.int .i64 pos)) (h3 : w.cell? ⟨g3, 0, none⟩ = some (.slice A2 l2.length c2)) (h4 : w.cell? ⟨g4, 0, none⟩ = some (.int .i64 fr))
  (hr0 : Kd.C (Kd.int .u8) w A0 l0.length l0) (hr2 : Kd.C (Kd.int .u8) w A2 l2.length l2) (h : bst (bwd1 l0 pos l2 fr) k most 0 0 0 0 = some r) :
  Calls Try.prog 32 #[.int .i64 most, .func (.func 36) #[] #[.pointer (some ⟨g1, 0, none⟩), .pointer (some ⟨g2, 0, none⟩), .pointer (some ⟨g3, 0, none⟩), .pointer (some ⟨g4, 0, none⟩)]] w fun e w' => e = .returned (.int .i64 r) ∧ Drawn0 w w' := by
 have H1 := Aside0.mk h1
 have H2 := Aside0.mk h2
 have H3 := Aside0.mk h3
 have H4 := Aside0.mk h4
 have HR0 := Aside0.mk hr0
 have HR2 := Aside0.mk hr2
 have H := Aside0.mk h
 have HD : Aside0 (Drawn0 w w) := ⟨⟨0, rfl⟩⟩
 clear h1 h2 h3 h4 hr0 hr2 h
 go_enter Try.func32, Try.ntmps32
 go_wp2
 go_loopg [5, 6, 7, 10] k (fun kq v5 v6 v7 v10 w' => ∃ (s_ a_ t_ n_ : Int), v5 = .int .i64 s_ ∧ v6 = .int .i64 a_ ∧ v7 = .int .i64 t_ ∧ v10 = .int .i64 n_ ∧ Aside0 (bst (bwd1 l0 pos l2 fr) kq most s_ a_ t_ n_ = some r) ∧ Aside0 (kq ≤ k) ∧ Aside0 (Drawn0 w w'))
 case atStart => exact ⟨0, 0, 0, 0, rfl, rfl, rfl, rfl, H, ⟨Nat.le_refl _⟩, HD⟩
 case round =>
  clear H HD
  obtain ⟨s_, a_, t_, n_, rfl, rfl, rfl, rfl, HA, HK1, HD⟩ := hrel
  cases gk with
  | zero => exact absurd HA.out (by simp [bst])
  | succ k1 =>
   have h := HA.out
   clear HA
   simp only [bst] at h
   by_cases c1 : n_ < most
   case neg =>
    rw [if_neg c1] at h
    obtain rfl : a_ = r := Option.some.inj h
    have c1b : decide (n_ < most) = false := decide_eq_false c1
    clear c1 h
    go_wp2
    go_ret
    exact ⟨rfl, HD.out⟩
   rw [if_pos c1] at h
   have c1b : decide (n_ < most) = true := decide_eq_true c1
   clear c1
   replace h := Option.bind_eq_some_iff.mp h
   obtain ⟨b_, hA, h⟩ := h
   have HF := Aside0.mk hA
   have HH := Aside0.mk h
   clear hA h
   obtain ⟨m_, hm_⟩ := HD.out.out
   subst hm_
   go_wp2_with (fail)
   refine (bwd1_calls (n := n_) (r := b_) (by rw [World.cell?_drewN]; exact H1.out) (by rw [World.cell?_drewN]; exact H2.out) (by rw [World.cell?_drewN]; exact H3.out) (by rw [World.cell?_drewN]; exact H4.out) (Kd.C_drewN HR0.out _) (Kd.C_drewN HR2.out _) HF.out).mono ?_
   rintro e w' ⟨rfl, hD2⟩
   have HD2 : Aside0 (Drawn0 w w') := ⟨by obtain ⟨q, hq⟩ := hD2.out; exact ⟨m_ + q, by rw [hq, World.drewN_drewN]⟩⟩
   clear hD2 HD
   cases b_
   ·have h := HH.out
    rw [if_neg (by decide)] at h
    clear HH
    by_cases c2 : wrap64 (wrap64 (2 * s_) - wrap64 (n_ + 1)) > t_
    ·rw [if_pos c2] at h
     have H' := Aside0.mk h
     have c2b : decide (t_ < wrap64 (wrap64 (2 * s_) - wrap64 (n_ + 1))) = true := decide_eq_true c2
     clear c2 h
     go_wp2
     go_roundg k1
     case measure => have := HK1.out; omega
     case rel => exact ⟨_, _, _, _, rfl, rfl, rfl, rfl, H', ⟨by have := HK1.out; omega⟩, HD2⟩
    ·rw [if_neg c2] at h
     have H' := Aside0.mk h
     have c2b : decide (t_ < wrap64 (wrap64 (2 * s_) - wrap64 (n_ + 1))) = false := decide_eq_false c2
     clear c2 h
     go_wp2
     go_roundg k1
     case measure => have := HK1.out; omega
     case rel => exact ⟨_, _, _, _, rfl, rfl, rfl, rfl, H', ⟨by have := HK1.out; omega⟩, HD2⟩
   ·have h := HH.out
    rw [if_pos rfl] at h
    clear HH
    by_cases c2 : wrap64 (wrap64 (2 * wrap64 (s_ + 1)) - wrap64 (n_ + 1)) > t_
    ·rw [if_pos c2] at h
     have H' := Aside0.mk h
     have c2b : decide (t_ < wrap64 (wrap64 (2 * wrap64 (s_ + 1)) - wrap64 (n_ + 1))) = true := decide_eq_true c2
     clear c2 h
     go_wp2
     go_roundg k1
     case measure => have := HK1.out; omega
     case rel => exact ⟨_, _, _, _, rfl, rfl, rfl, rfl, H', ⟨by have := HK1.out; omega⟩, HD2⟩
    ·rw [if_neg c2] at h
     have H' := Aside0.mk h
     have c2b : decide (t_ < wrap64 (wrap64 (2 * wrap64 (s_ + 1)) - wrap64 (n_ + 1))) = false := decide_eq_false c2
     clear c2 h
     go_wp2
     go_roundg k1
     case measure => have := HK1.out; omega
     case rel => exact ⟨_, _, _, _, rfl, rfl, rfl, rfl, H', ⟨by have := HK1.out; omega⟩, HD2⟩
end Go.Proofs.Ytobknpeglagaaaa.X
