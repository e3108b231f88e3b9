/- By hand: (*scan.walk).look. -/
import Derived.Test.YtobknpeglagaaaaXSu
namespace Go.Proofs.Ytobknpeglagaaaa.X
open Go.RowKit Go.Proofs.YtobknpeglagaaaaW.PrintWords Go.Proofs.YtobknpeglagaaaaW.PrintLast Go.Proofs.YtobknpeglagaaaaW.PrintMore
attribute [local go_sem] max2_int min2_int max_two min_two
set_option linter.unusedVariables false
set_option linter.unusedSimpArgs false

def lk1 : Nat → List Int → List Int → Int → Int → Int → Int → Int → Option (Int × Int)
 | 0, _, _, _, _, _, _, _ => none
 | k + 1, old, next, sh, a, n, sc, mk => if mk < wrap64 (a + n) then ((shf old next sh mk).bind fun b => (if b = true then lk1 k old next sh a n (wrap64 (sc + 1)) (wrap64 (mk + 1)) else lk1 k old next sh a n sc (wrap64 (mk + 1)))) else some (sc, mk)
def stopB (n sc : Int) : Bool := ((n == sc) && (n != 0)) || decide (n > wrap64 (sc + 8))
def lk0 : Nat → List S48 → List Int → List Int → Wk → Option Wk
 | 0, _, _, _, _ => none
 | k + 1, x, old, next, s => if s.a < (next.length : Int) then (if 0 ≤ s.a then ((find_Longest.f k x (next.drop s.a.toNat)).bind fun t => ((lk1 k old next s.sh s.a t.2.1 s.sc s.mr).bind fun u =>
   (if stopB t.2.1 u.1 = true then some { s with n := t.2.1, ps := t.1, sc := u.1, mr := u.2 } else ((shf old next s.sh s.a).bind fun b =>
    (if b = true then lk0 k x old next { s with n := t.2.1, ps := t.1, sc := wrap64 (u.1 - 1), mr := u.2, a := wrap64 (s.a + 1) } else lk0 k x old next { s with n := t.2.1, ps := t.1, sc := u.1, mr := u.2, a := wrap64 (s.a + 1) })))) ) else none) else some s
def lookF (k : Nat) (x : List S48) (old next : List Int) (s : Wk) : Option Wk := lk0 k x old next { s with a := wrap64 (s.a + s.n), sc := 0, mr := wrap64 (s.a + s.n) }
theorem lk1_mono : ∀ k old next sh a n sc mk, LeO (lk1 k old next sh a n sc mk) (lk1 (k + 1) old next sh a n sc mk)
 | 0, _, _, _, _, _, _, _ => fun r h => by simp [lk1] at h
 | k + 1, old, next, sh, a, n, sc, mk => by
  unfold lk1
  refine LeO.ite (LeO.bind (LeO.refl _) (fun _ => LeO.ite (lk1_mono k _ _ _ _ _ _ _) (lk1_mono k _ _ _ _ _ _ _))) (LeO.refl _)
theorem lk0_mono : ∀ k x old next s, LeO (lk0 k x old next s) (lk0 (k + 1) x old next s)
 | 0, _, _, _, _ => fun r h => by simp [lk0] at h
 | k + 1, x, old, next, s => by
  unfold lk0
  refine LeO.ite (LeO.ite (LeO.bind (find_Longest.mono _ _ _) (fun _ => LeO.bind (lk1_mono _ _ _ _ _ _ _ _) (fun _ => LeO.ite (LeO.refl _) (LeO.bind (LeO.refl _) (fun _ => LeO.ite (lk0_mono k _ _ _ _) (lk0_mono k _ _ _ _)))))) (LeO.none _)) (LeO.refl _)
set_option maxHeartbeats 8000000 in
set_option maxRecDepth 100000 in
theorem look_calls (k : Nat) {w w1 : World} {g : Nat} {q : Option Addr} {vS : Value} {x : List S48} {old next : List Int} {s s' : Wk} {Ax AO AN : Option Addr} {cx cO cN : Nat} (hs : WS w w1 g q (.slice AO old.length cO) (.slice AN next.length cN) vS old s)
  (hq : ptrOf (.slice Ax x.length cx) = .pointer q) (hx : Kd.C k48 w Ax x.length x) (hcx : x.length ≤ cx) (hn : Kd.C (Kd.int .u8) w AN next.length next) (hcn : next.length ≤ cN) (h : lookF k x old next s = some s') :
  Calls Try.prog 25 #[.pointer (some ⟨g, 0, none⟩)] w1 fun e w' => e = .returned (.tuple #[]) ∧ WS w w' g q (.slice AO old.length cO) (.slice AN next.length cN) vS old s' := by
 have HS := Aside0.mk hs
 have HQ := Aside0.mk hq
 have HX := Aside0.mk hx
 have HCX := Aside0.mk hcx
 have HN := Aside0.mk hn
 have HCN := Aside0.mk hcn
 clear hs hq hx hcx hn hcn
 unfold lookF at h
 have H := Aside0.mk h
 clear h
 have k6 : w1.cell? ⟨g, 6, none⟩ = some (.int .i64 s.a) := HS.out.cell 6
 have k7 : w1.cell? ⟨g, 7, none⟩ = some (.int .i64 s.n) := HS.out.cell 7
 have k9 : w1.cell? ⟨g, 9, none⟩ = some (.int .i64 s.sc) := HS.out.cell 9
 have k10 : w1.cell? ⟨g, 10, none⟩ = some (.int .i64 s.mr) := HS.out.cell 10
 have f6 := HS.out.free 6
 have f9 := HS.out.free 9
 have f10 := HS.out.free 10
 go_enter Try.func25, Try.ntmps25
 go_wp2
 go_region
 go_wp2
 have HS2 : Aside0 (WS w ((((w1.setCell ⟨g, 6, none⟩ (.int .i64 (wrap64 (s.a + s.n)))).setCell ⟨g, 9, none⟩ (.int .i64 0)).setCell ⟨g, 10, none⟩ (.int .i64 (wrap64 (s.a + s.n)))).drew) g q (.slice AO old.length cO) (.slice AN next.length cN) vS old { s with a := wrap64 (s.a + s.n), sc := 0, mr := wrap64 (s.a + s.n) }) := ⟨by
  have h1 := HS.out.put (s' := { s with a := wrap64 (s.a + s.n) }) 6 (.int .i64 (wrap64 (s.a + s.n))) rfl rfl
  have h2 := h1.put (s' := { s with a := wrap64 (s.a + s.n), sc := 0 }) 9 (.int .i64 0) rfl rfl
  have h3 := h2.put (s' := { s with a := wrap64 (s.a + s.n), sc := 0, mr := wrap64 (s.a + s.n) }) 10 (.int .i64 (wrap64 (s.a + s.n))) rfl rfl
  exact h3.drew⟩
 clear HS k6 k7 k9 k10 f6 f9 f10
 generalize World.drew _ = w2 at HS2 ⊢
 generalize ({ s with a := wrap64 (s.a + s.n), sc := 0, mr := wrap64 (s.a + s.n) } : Wk) = s2 at H HS2
 go_loopg [23] k (fun kq v23 w' => ∃ s_ : Wk, Aside0 (lk0 kq x old next s_ = some s') ∧ Aside0 (kq ≤ k) ∧ Aside0 (WS w w' g q (.slice AO old.length cO) (.slice AN next.length cN) vS old s_))
 case atStart => exact ⟨s2, H, ⟨Nat.le_refl _⟩, HS2⟩
 case round =>
  clear H HS2
  obtain ⟨s_, HA, HK1, HS⟩ := hrel
  cases gk with
  | zero => exact absurd HA.out (by simp [lk0])
  | succ k1 =>
   have h := HA.out
   clear HA
   simp only [lk0] at h
   have k2 : wr.cell? ⟨g, 2, none⟩ = some (.slice AN next.length cN) := HS.out.cell 2
   have k6 : wr.cell? ⟨g, 6, none⟩ = some (.int .i64 s_.a) := HS.out.cell 6
   by_cases c1 : s_.a < (next.length : Int)
   case neg =>
    rw [if_neg c1] at h
    obtain rfl := Option.some.inj h
    have c1b : decide (s_.a < (next.length : Int)) = false := decide_eq_false c1
    clear c1 h
    go_wp2
    go_quiet (fail)
    go_wp2
    go_end0
    exact ⟨rfl, HS.out.drewN _⟩
   rw [if_pos c1] at h
   by_cases c2 : 0 ≤ s_.a
   case neg => rw [if_neg c2] at h; cases h
   rw [if_pos c2] at h
   replace h := Option.bind_eq_some_iff.mp h
   obtain ⟨⟨ps_, n_, z_⟩, hL, h⟩ := h
   replace h := Option.bind_eq_some_iff.mp h
   obtain ⟨⟨sc_, mr_⟩, hM, h⟩ := h
   dsimp only at hM h
   have F1 := Aside0.mk hL
   have F2 := Aside0.mk hM
   have HH := Aside0.mk h
   clear hL hM h
   obtain ⟨i0, hi0, _, hsz0, _⟩ := info_parts info5
   obtain ⟨AD, hcut, hAD, hCD⟩ := print_drop_of (P := Try.prog) (Value.int .u8) 0 23 5 .i64 Try.underlying23 hi0 hsz0 AN cN next s_.a c2 (by omega) HCN.out
   have HRD := Aside0.mk (Kd.C_of_reads (h1 := fun _ => rfl) (hAD _ (Kd.reads_of_C HN.out)))
   have HCD := Aside0.mk hCD
   clear hAD hCD hi0 hsz0
   have c1b : decide (s_.a < (next.length : Int)) = true := decide_eq_true c1
   have c2b := eq_true c2
   have c3b := eq_true (show s_.a ≤ (next.length : Int) by omega)
   clear c1 c2
   go_wp2
   go_quiet (fail)
   go_wp2_with (fail)
   have k0 : (wr.drewN nq).cell? ⟨g, 0, none⟩ = some (.pointer q) := (HS.out.drewN nq).cell 0
   have k2' : (wr.drewN nq).cell? ⟨g, 2, none⟩ = some (.slice AN next.length cN) := (HS.out.drewN nq).cell 2
   have k6' : (wr.drewN nq).cell? ⟨g, 6, none⟩ = some (.int .i64 s_.a) := (HS.out.drewN nq).cell 6
   have HS0 := Aside0.mk (HS.out.drewN nq)
   clear HS k2 k6
   generalize wr.drewN nq = w4 at *
   go_region_held3 (fun w' => w'.cell? ⟨g, 0, none⟩ = some (.pointer q) ∧ w'.cell? ⟨g, 2, none⟩ = some (.slice AN next.length cN) ∧ w'.cell? ⟨g, 6, none⟩ = some (.int .i64 s_.a)) (first | exact ⟨m0, m2, m6⟩ | exact ⟨k0, k2', k6'⟩ | exact ⟨(World.cell?_setCell_other _ _ _ _ (by simp)).trans m0, (World.cell?_setCell_other _ _ _ _ (by simp)).trans m2, (World.cell?_setCell_other _ _ _ _ (by simp)).trans m6⟩ | exact ⟨(World.cell?_setCell_other _ _ _ _ (by simp)).trans ((World.cell?_setCell_other _ _ _ _ (by simp)).trans m0), (World.cell?_setCell_other _ _ _ _ (by simp)).trans ((World.cell?_setCell_other _ _ _ _ (by simp)).trans m2), (World.cell?_setCell_other _ _ _ _ (by simp)).trans ((World.cell?_setCell_other _ _ _ _ (by simp)).trans m6)⟩)
    (first | (go_at_call 42; rw [← HQ.out, show next.length - s_.a.toNat = (next.drop s_.a.toNat).length from List.length_drop.symm]; refine (find_Longest.calls k1 Ax cx x AD _ (next.drop s_.a.toNat) ps_ n_ z_ _ ?s1 ?s2 ?s3 ?s4 F1.out).mono ?_; (case s1 => exact Kd.C_below HX.out (HS0.out.drew).hb); (case s2 => exact HCX.out); (case s3 => exact Kd.C_below HRD.out HS0.out.drew.hb); (case s4 => exact HCD.out); rintro e w5 ⟨rfl, hB⟩; have HS5 := Aside0.mk (HS0.out.drew.below hB); have m0 : w5.cell? ⟨g, 0, none⟩ = some (.pointer q) := HS5.out.cell 0; have m2 : w5.cell? ⟨g, 2, none⟩ = some (.slice AN next.length cN) := HS5.out.cell 2; have m6 : w5.cell? ⟨g, 6, none⟩ = some (.int .i64 s_.a) := HS5.out.cell 6; have m7 : w5.cell? ⟨g, 7, none⟩ = some (.int .i64 s_.n) := HS5.out.cell 7; have m8 : w5.cell? ⟨g, 8, none⟩ = some (.int .i64 s_.ps) := HS5.out.cell 8; have f7 := HS5.out.free 7; have f8 := HS5.out.free 8; clear hB))
   have HS6 : Aside0 (WS w ((w5.setCell ⟨g, 8, none⟩ (.int .i64 ps_)).setCell ⟨g, 7, none⟩ (.int .i64 n_)) g q (.slice AO old.length cO) (.slice AN next.length cN) vS old { s_ with n := n_, ps := ps_ }) := ⟨by
    have h1 := HS5.out.put (s' := { s_ with ps := ps_ }) 8 (.int .i64 ps_) rfl rfl
    exact h1.put (s' := { s_ with n := n_, ps := ps_ }) 7 (.int .i64 n_) rfl rfl⟩
   clear HS5 HS0 m0 m2 m6 m7 m8 f7 f8 k0 k2' k6' hcut HRD HCD c1b c2b c3b F1
   generalize World.setCell _ _ _ = w6 at *
   go_wp2
   go_loopg [57] k1 (fun kr v57 w' => ∃ (c_ m_ : Int), Aside0 (lk1 kr old next s_.sh s_.a n_ c_ m_ = some (sc_, mr_)) ∧ Aside0 (kr ≤ k1) ∧ Aside0 (WS w w' g q (.slice AO old.length cO) (.slice AN next.length cN) vS old { s_ with n := n_, ps := ps_, sc := c_, mr := m_ }))
   case atStart => exact ⟨_, _, F2, ⟨Nat.le_refl _⟩, HS6⟩
   case round =>
    clear F2 HS6
    obtain ⟨c_, m_, HA, HKr, HS⟩ := hrel
    cases gk with
    | zero => exact absurd HA.out (by simp [lk1])
    | succ k2 =>
     have h := HA.out
     clear HA
     simp only [lk1] at h
     have p6 : wr.cell? ⟨g, 6, none⟩ = some (.int .i64 s_.a) := HS.out.cell 6
     have p7 : wr.cell? ⟨g, 7, none⟩ = some (.int .i64 n_) := HS.out.cell 7
     have p9 : wr.cell? ⟨g, 9, none⟩ = some (.int .i64 c_) := HS.out.cell 9
     have p10 : wr.cell? ⟨g, 10, none⟩ = some (.int .i64 m_) := HS.out.cell 10
     by_cases c1 : m_ < wrap64 (s_.a + n_)
     case pos =>
      rw [if_pos c1] at h
      have c1b : decide (m_ < wrap64 (s_.a + n_)) = true := decide_eq_true c1
      clear c1
      replace h := Option.bind_eq_some_iff.mp h
      obtain ⟨b_, hF, h⟩ := h
      have F3 := Aside0.mk hF
      clear hF
      go_wp2
      go_quiet (fail)
      have HSd := Aside0.mk (HS.out.drewN nq)
      have r10 : (wr.drewN nq).cell? ⟨g, 10, none⟩ = some (.int .i64 m_) := HSd.out.cell 10
      clear HS p6 p7 p9 p10
      generalize wr.drewN nq = w7 at *
      go_wp2_with (fail)
      refine (shifted_calls HSd.out HN.out F3.out).mono ?_
      rintro e w8 ⟨rfl, hD⟩
      obtain ⟨nz, rfl⟩ := hD.out
      have HSe := Aside0.mk (HSd.out.drewN nz)
      have q9 : (w7.drewN nz).cell? ⟨g, 9, none⟩ = some (.int .i64 c_) := HSe.out.cell 9
      have q10 : (w7.drewN nz).cell? ⟨g, 10, none⟩ = some (.int .i64 m_) := HSe.out.cell 10
      have f9 := HSe.out.free 9
      have f10 := HSe.out.free 10
      clear HSd r10 hD
      generalize w7.drewN nz = w8 at *
      cases b_
      ·rw [if_neg (by decide)] at h
       have H' := Aside0.mk h
       clear h F3
       go_wp2
       go_roundg k2
       case measure => have := HKr.out; omega
       case rel => exact ⟨c_, wrap64 (m_ + 1), H', ⟨by have := HKr.out; omega⟩, ⟨HSe.out.put 10 (.int .i64 (wrap64 (m_ + 1))) rfl rfl⟩⟩
      ·rw [if_pos rfl] at h
       have H' := Aside0.mk h
       clear h F3
       go_wp2
       go_roundg k2
       case measure => have := HKr.out; omega
       case rel => exact ⟨wrap64 (c_ + 1), wrap64 (m_ + 1), H', ⟨by have := HKr.out; omega⟩, ⟨by
        have h1 := HSe.out.put (s' := { s_ with n := n_, ps := ps_, sc := wrap64 (c_ + 1), mr := m_ }) 9 (.int .i64 (wrap64 (c_ + 1))) rfl rfl
        exact h1.put 10 (.int .i64 (wrap64 (m_ + 1))) rfl rfl⟩⟩
     rw [if_neg c1] at h
     simp only [Option.some.injEq, Prod.mk.injEq] at h
     obtain ⟨rfl, rfl⟩ := h
     have c1b : decide (m_ < wrap64 (s_.a + n_)) = false := decide_eq_false c1
     clear c1
     go_wp2
     go_quiet (fail)
     have HSd := Aside0.mk (HS.out.drewN nq)
     have r7 : (wr.drewN nq).cell? ⟨g, 7, none⟩ = some (.int .i64 n_) := HSd.out.cell 7
     have r9 : (wr.drewN nq).cell? ⟨g, 9, none⟩ = some (.int .i64 c_) := HSd.out.cell 9
     clear HS p6 p7 p9 p10 c1b
     generalize wr.drewN nq = w7 at *
     have h := HH.out
     clear HH
     unfold stopB at h
     by_cases c3 : n_ = c_
     ·have c3b : (n_ == c_) = true := beq_iff_eq.mpr c3
      by_cases c4 : n_ = 0
      ·have c4b : (n_ != 0) = false := bne_eq_false_iff_eq.mpr c4
       by_cases c5 : n_ > wrap64 (c_ + 8)
       ·have c5b : decide (wrap64 (c_ + 8) < n_) = true := decide_eq_true c5
        rw [c3b, c4b, if_pos (by rw [decide_eq_true c5]; rfl)] at h
        clear c3 c4 c5
        have H' := Aside0.mk h
        clear h
        go_wp2
        go_quiet (fail)
        go_wp2
        exact bodyPost_ret (results_none rfl _ _ _) rfl ⟨rfl, by rw [← Option.some.inj H'.out]; exact HSd.out.drewN _⟩
       ·have c5b : decide (wrap64 (c_ + 8) < n_) = false := decide_eq_false c5
        rw [c3b, c4b, if_neg (by rw [decide_eq_false c5]; decide)] at h
        clear c3 c4 c5
        replace h := Option.bind_eq_some_iff.mp h
        obtain ⟨b_, hF, h⟩ := h
        have F3 := Aside0.mk hF
        have HH := Aside0.mk h
        clear hF h
        go_wp2
        go_quiet (fail)
        have HSf := Aside0.mk (HSd.out.drewN nq)
        have t6 : (w7.drewN nq).cell? ⟨g, 6, none⟩ = some (.int .i64 s_.a) := HSf.out.cell 6
        clear HSd r7 r9
        generalize w7.drewN nq = w9 at *
        go_wp2_with (fail)
        refine (shifted_calls HSf.out HN.out F3.out).mono ?_
        rintro e w10 ⟨rfl, hD⟩
        obtain ⟨nz, rfl⟩ := hD.out
        have HSe := Aside0.mk (HSf.out.drewN nz)
        have q6 : (w9.drewN nz).cell? ⟨g, 6, none⟩ = some (.int .i64 s_.a) := HSe.out.cell 6
        have q9 : (w9.drewN nz).cell? ⟨g, 9, none⟩ = some (.int .i64 c_) := HSe.out.cell 9
        have f6 := HSe.out.free 6
        have f9 := HSe.out.free 9
        clear HSf t6 hD
        generalize w9.drewN nz = w11 at *
        cases b_
        ·have h := HH.out
         rw [if_neg (by decide)] at h
         have H' := Aside0.mk h
         clear h HH F3
         go_wp2
         go_roundg k1
         case measure => have := HK1.out; omega
         case rel => exact ⟨_, H', ⟨by have := HK1.out; omega⟩, ⟨HSe.out.put 6 (.int .i64 (wrap64 (s_.a + 1))) rfl rfl⟩⟩
        ·have h := HH.out
         rw [if_pos rfl] at h
         have H' := Aside0.mk h
         clear h HH F3
         go_wp2
         go_roundg k1
         case measure => have := HK1.out; omega
         case rel => exact ⟨_, H', ⟨by have := HK1.out; omega⟩, ⟨by
          have h1 := HSe.out.put (s' := { s_ with n := n_, ps := ps_, sc := wrap64 (c_ - 1), mr := m_ }) 9 (.int .i64 (wrap64 (c_ - 1))) rfl rfl
          exact h1.put 6 (.int .i64 (wrap64 (s_.a + 1))) rfl rfl⟩⟩
      ·have c4b : (n_ != 0) = true := bne_iff_ne.mpr c4
       rw [c3b, c4b, if_pos (by rfl)] at h
       clear c3 c4
       have H' := Aside0.mk h
       clear h
       go_wp2
       go_quiet (fail)
       go_wp2
       exact bodyPost_ret (results_none rfl _ _ _) rfl ⟨rfl, by rw [← Option.some.inj H'.out]; exact HSd.out.drewN _⟩
     ·have c3b : (n_ == c_) = false := beq_eq_false_iff_ne.mpr c3
      by_cases c5 : n_ > wrap64 (c_ + 8)
      ·have c5b : decide (wrap64 (c_ + 8) < n_) = true := decide_eq_true c5
       rw [c3b, if_pos (by rw [decide_eq_true c5]; simp)] at h
       clear c3 c5
       have H' := Aside0.mk h
       clear h
       go_wp2
       go_quiet (fail)
       go_wp2
       exact bodyPost_ret (results_none rfl _ _ _) rfl ⟨rfl, by rw [← Option.some.inj H'.out]; exact HSd.out.drewN _⟩
      ·have c5b : decide (wrap64 (c_ + 8) < n_) = false := decide_eq_false c5
       rw [c3b, if_neg (by rw [decide_eq_false c5]; simp)] at h
       clear c3 c5
       replace h := Option.bind_eq_some_iff.mp h
       obtain ⟨b_, hF, h⟩ := h
       have F3 := Aside0.mk hF
       have HH := Aside0.mk h
       clear hF h
       go_wp2
       go_quiet (fail)
       have HSf := Aside0.mk (HSd.out.drewN nq)
       have t6 : (w7.drewN nq).cell? ⟨g, 6, none⟩ = some (.int .i64 s_.a) := HSf.out.cell 6
       clear HSd r7 r9
       generalize w7.drewN nq = w9 at *
       go_wp2_with (fail)
       refine (shifted_calls HSf.out HN.out F3.out).mono ?_
       rintro e w10 ⟨rfl, hD⟩
       obtain ⟨nz, rfl⟩ := hD.out
       have HSe := Aside0.mk (HSf.out.drewN nz)
       have q6 : (w9.drewN nz).cell? ⟨g, 6, none⟩ = some (.int .i64 s_.a) := HSe.out.cell 6
       have q9 : (w9.drewN nz).cell? ⟨g, 9, none⟩ = some (.int .i64 c_) := HSe.out.cell 9
       have f6 := HSe.out.free 6
       have f9 := HSe.out.free 9
       clear HSf t6 hD
       generalize w9.drewN nz = w11 at *
       cases b_
       ·have h := HH.out
        rw [if_neg (by decide)] at h
        have H' := Aside0.mk h
        clear h HH F3
        go_wp2
        go_roundg k1
        case measure => have := HK1.out; omega
        case rel => exact ⟨_, H', ⟨by have := HK1.out; omega⟩, ⟨HSe.out.put 6 (.int .i64 (wrap64 (s_.a + 1))) rfl rfl⟩⟩
       ·have h := HH.out
        rw [if_pos rfl] at h
        have H' := Aside0.mk h
        clear h HH F3
        go_wp2
        go_roundg k1
        case measure => have := HK1.out; omega
        case rel => exact ⟨_, H', ⟨by have := HK1.out; omega⟩, ⟨by
         have h1 := HSe.out.put (s' := { s_ with n := n_, ps := ps_, sc := wrap64 (c_ - 1), mr := m_ }) 9 (.int .i64 (wrap64 (c_ - 1))) rfl rfl
         exact h1.put 6 (.int .i64 (wrap64 (s_.a + 1))) rfl rfl⟩⟩
end Go.Proofs.Ytobknpeglagaaaa.X
