/- By hand: (*scan.walk).step. -/
import Derived.Test.YtobknpeglagaaaaXSv
import Derived.Deep.AppendLies
import Derived.Deep.DeepCutAuto
namespace Go.Proofs.Ytobknpeglagaaaa.X
open Go.RowKit Go.Proofs.YtobknpeglagaaaaW.PrintWords Go.Proofs.YtobknpeglagaaaaW.PrintLast Go.Proofs.YtobknpeglagaaaaW.PrintMore
attribute [local go_sem] max2_int min2_int max_two min_two
set_option linter.unusedVariables false
set_option linter.unusedSimpArgs false

theorem stepInfo : (Try.prog.info? 39).map (fun i => (i.zero, i.size, i.bytes)) = some (some (.agg #[.int .i64 0, .int .i64 0, .int .i64 0]), 3, 24) := by kernel_rfl
theorem ne_type' {α β : Type} {d1 : Kd α} {d2 : Kd β} {e1 e2 b1 b2 : Nat} {w : World} {ok1 ok2 : Nat → Prop} {v1 v2 : Value} {xs : List α} {ys : List β} (h1 : d1.R e1 w b1 ok1 v1 xs) (h2 : d2.R e2 w b2 ok2 v2 ys) (hne : e1 ≠ e2) : ∀ k, some k = v1.ownBlock → some k ≠ v2.ownBlock := by
 intro k hk hk2
 obtain ⟨i1, o1⟩ := Kd.R_own h1
 obtain ⟨i2, o2⟩ := Kd.R_own h2
 obtain ⟨c1, hc1⟩ := own_typed o1 k hk.symm
 obtain ⟨c2, hc2⟩ := own_typed o2 k hk2.symm
 rw [hc1] at hc2
 injection hc2 with hc2
 injection hc2 with _ hc2
 exact hne hc2
theorem WS.push {w W w8 : World} {g : Nat} {q : Option Addr} {vO vN vS v1 : Value} {old : List Int} {s : Wk} {ys : List S39} {ok : Nat → Prop} (h : WS w W g q vO vN vS old s) (hg : W.grownBy w8 vS.ownBlock) (hb : Below w.heap.size w w8) (hr : k39.R 39 w8 w.heap.size ok v1 ys) :
  WS w (w8.setCell ⟨g, 11, none⟩ v1) g q vO vN v1 old { s with st := ys } := by
 have hbk := blk_grown h.blk hg (Kd.R_ne h.hS h.blk (by decide))
 exact ⟨below_set hb h.ge, h.ge, blk_put hbk 11 v1 rfl, Kd.R_set (Kd.R_grown h.hO hg (ne_type' h.hO h.hS (by decide))) hbk (by decide) 11 v1, Kd.R_set (Kd.R_tight rfl hr) hbk (by decide) 11 v1⟩
theorem WS.fin {w W : World} {g : Nat} {q : Option Addr} {vO vN vS : Value} {old : List Int} {s : Wk} (h : WS w W g q vO vN vS old s) (a b c : Int) : WS w ((((W.setCell ⟨g, 3, none⟩ (.int .i64 a)).setCell ⟨g, 4, none⟩ (.int .i64 b)).setCell ⟨g, 5, none⟩ (.int .i64 c)).drew) g q vO vN vS old { s with dn := a, bs := b, sh := c } := by
 have h1 := h.put (s' := { s with dn := a }) 3 (.int .i64 a) rfl rfl
 have h2 := h1.put (s' := { s with dn := a, bs := b }) 4 (.int .i64 b) rfl rfl
 exact (h2.put (s' := { s with dn := a, bs := b, sh := c }) 5 (.int .i64 c) rfl rfl).drew
theorem WS.cast {w W : World} {g : Nat} {q : Option Addr} {vO vN vS : Value} {old : List Int} {s s' : Wk} (h : WS w W g q vO vN vS old s) (e : s = s') : WS w W g q vO vN vS old s' := e ▸ h
def stepEnd (next : List Int) (s : Wk) (f b : Int) : Option Wk := if s.st.length < 5864062014805 then some { s with st := s.st ++ [⟨f, wrap64 (wrap64 (s.a - b) - wrap64 (s.dn + f)), if s.a = (next.length : Int) then 0 else wrap64 (wrap64 (s.ps - b) - wrap64 (s.bs + f))⟩], dn := wrap64 (s.a - b), bs := wrap64 (s.ps - b), sh := wrap64 (s.ps - s.a) } else none
def ovr (s : Wk) (f b : Int) : Int := wrap64 (wrap64 (s.dn + f) - wrap64 (s.a - b))
def stepMid (old next : List Int) (s : Wk) (f b : Int) : Option Wk := if ovr s f b > 0 then ((scan_Split.f old (wrap64 (wrap64 (s.bs + f) - ovr s f b)) (wrap64 (s.ps - b)) next (wrap64 (wrap64 (s.dn + f) - ovr s f b)) (ovr s f b)).bind fun k => stepEnd next s (wrap64 (f + wrap64 (k - ovr s f b))) (wrap64 (b - k))) else stepEnd next s f b
def stepF (old next : List Int) (s : Wk) : Option Wk := (scan_Forward.f old s.bs next s.dn s.a).bind fun f => (if s.a = (next.length : Int) then stepMid old next s f 0 else ((scan_Backward.f old s.ps next s.dn s.a).bind fun b => stepMid old next s f b))
set_option maxHeartbeats 16000000 in
set_option maxRecDepth 100000 in
theorem step_calls {w w1 : World} {g : Nat} {q : Option Addr} {vS : Value} {old next : List Int} {s s' : Wk} {AO AN : Option Addr} {cO cN : Nat} (hs : WS w w1 g q (.slice AO old.length cO) (.slice AN next.length cN) vS old s)
  (hn : Kd.C (Kd.int .u8) w AN next.length next) (hcn : next.length ≤ cN) (h : stepF old next s = some s') :
  Calls Try.prog 26 #[.pointer (some ⟨g, 0, none⟩)] w1 fun e w' => e = .returned (.tuple #[]) ∧ ∃ vS', WS w w' g q (.slice AO old.length cO) (.slice AN next.length cN) vS' old s' := by
 have HN := Aside0.mk hn
 have HCN := Aside0.mk hcn
 have HS := Aside0.mk hs
 have HCO := Aside0.mk (Kd.R_reads' hs.hO).2.1
 obtain ⟨AS, cS, eS⟩ := Kd.R_slice hs.hS
 subst eS
 clear hn hcn hs
 unfold stepF at h
 replace h := Option.bind_eq_some_iff.mp h
 obtain ⟨f_, hF, h⟩ := h
 have F1 := Aside0.mk hF
 clear hF
 have k6 : w1.cell? ⟨g, 6, none⟩ = some (.int .i64 s.a) := HS.out.cell 6
 have k2 : w1.cell? ⟨g, 2, none⟩ = some (.slice AN next.length cN) := HS.out.cell 2
 have HH := Aside0.mk h
 clear h
 go_enter Try.func26, Try.ntmps26
 go_wp2
 go_quiet (fail)
 go_wp2_with (fail)
 have HS2 := Aside0.mk (HS.out.drewN nq)
 clear HS k2 k6
 generalize w1.drewN nq = w2 at *
 have k1 : w2.cell? ⟨g, 1, none⟩ = some (.slice AO old.length cO) := HS2.out.cell 1
 have k2 : w2.cell? ⟨g, 2, none⟩ = some (.slice AN next.length cN) := HS2.out.cell 2
 have k3 : w2.cell? ⟨g, 3, none⟩ = some (.int .i64 s.dn) := HS2.out.cell 3
 have k4 : w2.cell? ⟨g, 4, none⟩ = some (.int .i64 s.bs) := HS2.out.cell 4
 have k6 : w2.cell? ⟨g, 6, none⟩ = some (.int .i64 s.a) := HS2.out.cell 6
 go_region_held3 (fun w' => w'.cell? ⟨g, 1, none⟩ = some (.slice AO old.length cO) ∧ w'.cell? ⟨g, 2, none⟩ = some (.slice AN next.length cN) ∧ w'.cell? ⟨g, 3, none⟩ = some (.int .i64 s.dn) ∧ w'.cell? ⟨g, 4, none⟩ = some (.int .i64 s.bs) ∧ w'.cell? ⟨g, 6, none⟩ = some (.int .i64 s.a)) (first | exact ⟨m1, m2, m3, m4, m6⟩ | exact ⟨k1, k2, k3, k4, k6⟩)
  (first | (go_at_call 17; (try simp only [i64_w]); refine (scan_Forward.calls AO cO old s.bs AN cN next s.dn s.a f_ _ (Kd.R_reads' HS2.out.drew.hO).2.2 HCO.out (Kd.C_below HN.out HS2.out.drew.hb) HCN.out F1.out).mono ?_; rintro e w5 ⟨rfl, hB⟩; have HS5 := Aside0.mk (HS2.out.drew.below hB); have m1 : w5.cell? ⟨g, 1, none⟩ = some (.slice AO old.length cO) := HS5.out.cell 1; have m2 : w5.cell? ⟨g, 2, none⟩ = some (.slice AN next.length cN) := HS5.out.cell 2; have m3 : w5.cell? ⟨g, 3, none⟩ = some (.int .i64 s.dn) := HS5.out.cell 3; have m4 : w5.cell? ⟨g, 4, none⟩ = some (.int .i64 s.bs) := HS5.out.cell 4; have m6 : w5.cell? ⟨g, 6, none⟩ = some (.int .i64 s.a) := HS5.out.cell 6; clear hB))
 clear k1 k2 k3 k4 k6 HS2 F1
 clear m1 m2 m3 m4 m6
 go_upto_if 40 with (fail)
 go_cut [2, 4] (fun v2 v4 wc => ∃ b_ : Int, v2 = .bool (s.a == (next.length : Int)) ∧ v4 = .int .i64 b_ ∧ Aside0 (stepMid old next s f_ b_ = some s') ∧ Aside0 (WS w wc g q (.slice AO old.length cO) (.slice AN next.length cN) (.slice AS s.st.length cS) old s))
 case first => as_aux_lemma =>
  have h := HH.out
  clear HH
  by_cases ce : s.a = (next.length : Int)
  ·have ceb : (s.a == (next.length : Int)) = true := beq_iff_eq.mpr ce
   rw [if_pos ce] at h
   have H := Aside0.mk h
   clear ce h
   rw [ceb]
   go_wp2
   go_meet
   exact ⟨0, by rw [ceb], rfl, H, HS5⟩
  ·have ceb : (s.a == (next.length : Int)) = false := beq_eq_false_iff_ne.mpr ce
   rw [if_neg ce] at h
   replace h := Option.bind_eq_some_iff.mp h
   obtain ⟨b_, hG, h⟩ := h
   have F2 := Aside0.mk hG
   have H := Aside0.mk h
   clear ce h hG
   rw [ceb]
   have HS3 := HS5
   clear HS5
   generalize w5 = w4 at *
   go_wp2_with (fail)
   have k1 : w4.cell? ⟨g, 1, none⟩ = some (.slice AO old.length cO) := HS3.out.cell 1
   have k2 : w4.cell? ⟨g, 2, none⟩ = some (.slice AN next.length cN) := HS3.out.cell 2
   have k3 : w4.cell? ⟨g, 3, none⟩ = some (.int .i64 s.dn) := HS3.out.cell 3
   have k6 : w4.cell? ⟨g, 6, none⟩ = some (.int .i64 s.a) := HS3.out.cell 6
   have k8 : w4.cell? ⟨g, 8, none⟩ = some (.int .i64 s.ps) := HS3.out.cell 8
   go_region_held3 (fun w' => w'.cell? ⟨g, 1, none⟩ = some (.slice AO old.length cO) ∧ w'.cell? ⟨g, 2, none⟩ = some (.slice AN next.length cN) ∧ w'.cell? ⟨g, 3, none⟩ = some (.int .i64 s.dn) ∧ w'.cell? ⟨g, 6, none⟩ = some (.int .i64 s.a) ∧ w'.cell? ⟨g, 8, none⟩ = some (.int .i64 s.ps)) (first | exact ⟨m1, m2, m3, m6, m8⟩ | exact ⟨k1, k2, k3, k6, k8⟩)
    (first | (go_at_call 19; (try simp only [i64_w]); refine (scan_Backward.calls AO cO old s.ps AN cN next s.dn s.a b_ _ (Kd.R_reads' HS3.out.drew.hO).2.2 HCO.out (Kd.C_below HN.out HS3.out.drew.hb) HCN.out F2.out).mono ?_; rintro e w5 ⟨rfl, hB⟩; have HS5 := Aside0.mk (HS3.out.drew.below hB); have m1 : w5.cell? ⟨g, 1, none⟩ = some (.slice AO old.length cO) := HS5.out.cell 1; have m2 : w5.cell? ⟨g, 2, none⟩ = some (.slice AN next.length cN) := HS5.out.cell 2; have m3 : w5.cell? ⟨g, 3, none⟩ = some (.int .i64 s.dn) := HS5.out.cell 3; have m6 : w5.cell? ⟨g, 6, none⟩ = some (.int .i64 s.a) := HS5.out.cell 6; have m8 : w5.cell? ⟨g, 8, none⟩ = some (.int .i64 s.ps) := HS5.out.cell 8; clear hB))
   clear k1 k2 k3 k6 k8 HS3 F2
   clear m1 m2 m3 m6 m8
   go_wp2
   go_meet
   exact ⟨b_, by rw [ceb], rfl, H, HS5⟩
 case rest => as_aux_lemma =>
  clear HH HS5
  obtain ⟨b_, rfl, rfl, HH, HS5⟩ := hcut
  have m3 : wc.cell? ⟨g, 3, none⟩ = some (.int .i64 s.dn) := HS5.out.cell 3
  have m6 : wc.cell? ⟨g, 6, none⟩ = some (.int .i64 s.a) := HS5.out.cell 6
  go_wp2
  go_quiet (fail)
  have HS6 := Aside0.mk (HS5.out.drewN nq)
  clear HS5 m3 m6
  generalize wc.drewN nq = w6 at *
  have h := HH.out
  clear HH
  unfold stepMid ovr at h
  generalize ho_ : wrap64 (wrap64 (s.dn + f_) - wrap64 (s.a - b_)) = o_ at h ⊢
  clear ho_
  have HH := Aside0.mk h
  clear h
  go_upto_if 76 with (fail)
  go_cut [3, 4] (fun v3 v4 wc => ∃ f2 b2 : Int, v3 = .int .i64 f2 ∧ v4 = .int .i64 b2 ∧ Aside0 (stepEnd next s f2 b2 = some s') ∧ Aside0 (WS w wc g q (.slice AO old.length cO) (.slice AN next.length cN) (.slice AS s.st.length cS) old s))
  case first => as_aux_lemma =>
   have h := HH.out
   clear HH
   by_cases co : o_ > 0
   ·rw [if_pos co] at h
    have cob : decide (0 < o_) = true := decide_eq_true co
    clear co
    replace h := Option.bind_eq_some_iff.mp h
    obtain ⟨k_, hK, h⟩ := h
    have F3 := Aside0.mk hK
    have H := Aside0.mk h
    clear hK h
    have HG := HS6
    clear HS6
    generalize w6 = w4 at *
    (first | rw [cob] | rw [show decide (o_ > 0) = true from cob])
    go_wp2_with (fail)
    have k1 : w4.cell? ⟨g, 1, none⟩ = some (.slice AO old.length cO) := HG.out.cell 1
    have k2 : w4.cell? ⟨g, 2, none⟩ = some (.slice AN next.length cN) := HG.out.cell 2
    have k3 : w4.cell? ⟨g, 3, none⟩ = some (.int .i64 s.dn) := HG.out.cell 3
    have k4 : w4.cell? ⟨g, 4, none⟩ = some (.int .i64 s.bs) := HG.out.cell 4
    have k8 : w4.cell? ⟨g, 8, none⟩ = some (.int .i64 s.ps) := HG.out.cell 8
    go_region_held3 (fun w' => w'.cell? ⟨g, 1, none⟩ = some (.slice AO old.length cO) ∧ w'.cell? ⟨g, 2, none⟩ = some (.slice AN next.length cN) ∧ w'.cell? ⟨g, 3, none⟩ = some (.int .i64 s.dn) ∧ w'.cell? ⟨g, 4, none⟩ = some (.int .i64 s.bs) ∧ w'.cell? ⟨g, 8, none⟩ = some (.int .i64 s.ps)) (first | exact ⟨m1, m2, m3, m4, m8⟩ | exact ⟨k1, k2, k3, k4, k8⟩)
     (first | (go_at_call 21; (try simp only [i64_w]); refine (scan_Split.calls AO cO old (wrap64 (wrap64 (s.bs + f_) - o_)) (wrap64 (s.ps - b_)) AN cN next (wrap64 (wrap64 (s.dn + f_) - o_)) o_ k_ _ (Kd.R_reads' HG.out.drew.hO).2.2 HCO.out (Kd.C_below HN.out HG.out.drew.hb) HCN.out F3.out).mono ?_; rintro e w5 ⟨rfl, hB⟩; have HS5 := Aside0.mk (HG.out.drew.below hB); have m1 : w5.cell? ⟨g, 1, none⟩ = some (.slice AO old.length cO) := HS5.out.cell 1; have m2 : w5.cell? ⟨g, 2, none⟩ = some (.slice AN next.length cN) := HS5.out.cell 2; have m3 : w5.cell? ⟨g, 3, none⟩ = some (.int .i64 s.dn) := HS5.out.cell 3; have m4 : w5.cell? ⟨g, 4, none⟩ = some (.int .i64 s.bs) := HS5.out.cell 4; have m8 : w5.cell? ⟨g, 8, none⟩ = some (.int .i64 s.ps) := HS5.out.cell 8; clear hB))
    clear k1 k2 k3 k4 k8 HG F3
    clear m1 m2 m3 m4 m8
    go_wp2
    go_meet
    exact ⟨_, _, rfl, rfl, H, HS5⟩
   ·rw [if_neg co] at h
    have cob : decide (0 < o_) = false := decide_eq_false co
    have H := Aside0.mk h
    clear co h
    (first | rw [cob] | rw [show decide (o_ > 0) = false from cob])
    go_wp2
    go_meet
    exact ⟨_, _, rfl, rfl, H, HS6⟩
  case rest => as_aux_lemma =>
   clear HH HS6
   obtain ⟨f2, b2, rfl, rfl, HH, HS6⟩ := hcut
   have h := HH.out
   clear HH
   unfold stepEnd at h
   by_cases cl : s.st.length < 5864062014805
   case neg => rw [if_neg cl] at h; cases h
   rw [if_pos cl] at h
   have LM := Aside0.mk cl
   have H' := Aside0.mk (Option.some.inj h)
   clear cl h
   have n3 : wc.cell? ⟨g, 3, none⟩ = some (.int .i64 s.dn) := HS6.out.cell 3
   have n6 : wc.cell? ⟨g, 6, none⟩ = some (.int .i64 s.a) := HS6.out.cell 6
   have hlt := HS6.out.lt
   go_wp2
   go_region
   clear hlt
   have HS7 : Aside0 (WS w (wc.alloc (.cells #[.int .i64 f2, .int .i64 (wrap64 (wrap64 (s.a - b2) - wrap64 (s.dn + f2))), .int .i64 0] 39)).drew g q (.slice AO old.length cO) (.slice AN next.length cN) (.slice AS s.st.length cS) old s) := ⟨(HS6.out.below (below_alloc (Below.refl _ _) _)).drew⟩
   obtain ⟨gb, hgb⟩ : ∃ gb, gb = wc.heap.size := ⟨_, rfl⟩
   have HX7 : Aside0 (((wc.alloc (.cells #[.int .i64 f2, .int .i64 (wrap64 (wrap64 (s.a - b2) - wrap64 (s.dn + f2))), .int .i64 0] 39)).drew).heap[gb]? = some (.cells #[.int .i64 f2, .int .i64 (wrap64 (wrap64 (s.a - b2) - wrap64 (s.dn + f2))), .int .i64 0] 39 (0, 0))) := ⟨by rw [hgb]; exact blk_new _ _⟩
   have HNE : Aside0 (g ≠ gb) := ⟨by have := HS6.out.lt; omega⟩
   have HGB : Aside0 (w.heap.size ≤ gb) := ⟨by rw [hgb]; exact HS6.out.hb.size⟩
   have HGS : Aside0 (some gb ≠ (Value.slice AS s.st.length cS).ownBlock) := ⟨fun e => by have := Kd.R_lt HS6.out.hS gb e.symm; omega⟩
   rw [← hgb]
   clear hgb n3 n6 HS6
   generalize (wc.alloc (.cells #[.int .i64 f2, .int .i64 (wrap64 (wrap64 (s.a - b2) - wrap64 (s.dn + f2))), .int .i64 0] 39)).drew = W5 at *
   go_upto_if 133 with (fail)
   go_cut [2] (fun v2 wc => v2 = .bool (s.a == (next.length : Int)) ∧ Aside0 (wc.heap[gb]? = some (.cells #[.int .i64 f2, .int .i64 (wrap64 (wrap64 (s.a - b2) - wrap64 (s.dn + f2))), .int .i64 (if s.a = (next.length : Int) then 0 else wrap64 (wrap64 (s.ps - b2) - wrap64 (s.bs + f2)))] 39 (0, 0))) ∧ Aside0 (WS w wc g q (.slice AO old.length cO) (.slice AN next.length cN) (.slice AS s.st.length cS) old s))
   case first => as_aux_lemma =>
    by_cases ce : s.a = (next.length : Int)
    ·have ceb : (s.a == (next.length : Int)) = true := beq_iff_eq.mpr ce
     have CE := Aside0.mk ce
     rw [ceb]
     clear ce
     go_wp2
     go_meet
     exact ⟨by rw [ceb], ⟨by rw [if_pos CE.out]; exact HX7.out⟩, HS7⟩
    ·have ceb : (s.a == (next.length : Int)) = false := beq_eq_false_iff_ne.mpr ce
     have CE := Aside0.mk ce
     rw [ceb]
     clear ce
     have n4 : W5.cell? ⟨g, 4, none⟩ = some (.int .i64 s.bs) := HS7.out.cell 4
     have n8 : W5.cell? ⟨g, 8, none⟩ = some (.int .i64 s.ps) := HS7.out.cell 8
     have y2 : W5.cell? ⟨gb, 2, none⟩ = some (.int .i64 0) := blk_cell HX7.out 2
     have fy := blk_frozen HX7.out 2
     go_wp2
     go_region
     go_wp2
     go_meet
     exact ⟨by rw [ceb], ⟨by rw [if_neg CE.out]; exact blk_put HX7.out 2 _ rfl⟩, ⟨by
      refine WS.drew ⟨below_set HS7.out.hb HGB.out, HS7.out.ge, blk_far HS7.out.blk HNE.out _, ?_, ?_⟩
      ·exact Kd.R_far HS7.out.hO (fun k hk e => by
        subst e
        exact Kd.R_ne HS7.out.hO HX7.out (by decide) hk) _
      ·exact Kd.R_far HS7.out.hS (fun k hk e => by subst e; exact HGS.out hk) _⟩⟩
   case rest => as_aux_lemma =>
    clear HX7 HS7
    obtain ⟨rfl, HX7, HS7⟩ := hcut
    generalize (if s.a = (next.length : Int) then 0 else wrap64 (wrap64 (s.ps - b2) - wrap64 (s.bs + f2))) = sk at *
    have x11 : wc.cell? ⟨g, 11, none⟩ = some (.slice AS s.st.length cS) := HS7.out.cell 11
    have y0 : wc.cell? ⟨gb, 0, none⟩ = some (.int .i64 f2) := blk_cell HX7.out 0
    have y1 : wc.cell? ⟨gb, 1, none⟩ = some (.int .i64 (wrap64 (wrap64 (s.a - b2) - wrap64 (s.dn + f2)))) := blk_cell HX7.out 1
    have y2 : wc.cell? ⟨gb, 2, none⟩ = some (.int .i64 sk) := blk_cell HX7.out 2
    generalize (wrap64 (wrap64 (s.a - b2) - wrap64 (s.dn + f2))) = cp at *
    have l11 := HS7.out.lt
    have lgb := blk_lt HX7.out
    go_upto_region 13 with (fail)
    go_cut [3] (fun v3 wc => v3 = .int .i64 f2 ∧ ∃ A1 c1, Aside0 (WS w wc g q (.slice AO old.length cO) (.slice AN next.length cN) (.slice A1 (s.st.length + 1) c1) old { s with st := s.st ++ [⟨f2, cp, sk⟩] }))
    case first => as_aux_lemma =>
     go_region_law (refine Kd.R_append_step k39 (w0 := w) w.heap.size (by rfl) _ _ _ 39 (.agg #[.int .i64 0, .int .i64 0, .int .i64 0]) 24 rfl Try.underlying28 stepInfo rfl (by decide) (by omega) (.slice AS s.st.length cS) s.st ⟨f2, cp, sk⟩ [.int .i64 f2, .int .i64 cp, .int .i64 sk] (fun _ => True) (fun _ => False) rfl rfl (k39_mkM _ _ _ ⟨f2, cp, sk⟩) (fun _ hk => hk.elim) (fun _ _ => trivial) (Kd.R_mono HS7.out.drew.hS (fun _ _ => trivial)) HS7.out.drew.hb HS7.out.hb.size (by have := LM.out; omega) ?_; intro v1 w8 hr hb8 hg8 hat; obtain ⟨A1, c1, e1⟩ := Kd.R_slice hr; subst e1; have z11 : w8.cell? ⟨g, 11, none⟩ = some (.slice AS s.st.length cS) := blk_cell (blk_grown HS7.out.drew.blk hg8 (Kd.R_ne HS7.out.hS HS7.out.blk (by decide))) 11; have zf : w8.frozen? ⟨g, 11, none⟩ = false := blk_frozen (blk_grown HS7.out.drew.blk hg8 (Kd.R_ne HS7.out.hS HS7.out.blk (by decide))) 11)
     all_goals
      have hp := HS7.out.drew.push hg8 hb8 hr
      rw [List.length_append, List.length_singleton] at hp
      have HP := Aside0.mk hp
      clear hp hr hb8 hg8 hat
      go_wp2_with (fail)
      go_meet
      exact ⟨rfl, A1, c1, HP⟩
    case rest => as_aux_lemma =>
     clear HS7 HX7 x11 y0 y1 y2 l11 lgb
     obtain ⟨_, A1, c1, HS9⟩ := hcut
     have z6 : wc.cell? ⟨g, 6, none⟩ = some (.int .i64 s.a) := HS9.out.cell 6
     have z8 : wc.cell? ⟨g, 8, none⟩ = some (.int .i64 s.ps) := HS9.out.cell 8
     have z3 : wc.cell? ⟨g, 3, none⟩ = some (.int .i64 s.dn) := HS9.out.cell 3
     have z4 : wc.cell? ⟨g, 4, none⟩ = some (.int .i64 s.bs) := HS9.out.cell 4
     have z5 : wc.cell? ⟨g, 5, none⟩ = some (.int .i64 s.sh) := HS9.out.cell 5
     have f3 := HS9.out.free 3
     have f4 := HS9.out.free 4
     have f5 := HS9.out.free 5
     go_wp2
     go_region_held3 (fun w' => w'.cell? ⟨g, 6, none⟩ = some (.int .i64 s.a) ∧ w'.cell? ⟨g, 8, none⟩ = some (.int .i64 s.ps)) (first | exact ⟨z6, z8⟩ | exact ⟨((World.cell?_setCell_other _ _ _ _ (by simp)).trans z6), ((World.cell?_setCell_other _ _ _ _ (by simp)).trans z8)⟩ | exact ⟨((World.cell?_setCell_other _ _ _ _ (by simp)).trans ((World.cell?_setCell_other _ _ _ _ (by simp)).trans z6)), ((World.cell?_setCell_other _ _ _ _ (by simp)).trans ((World.cell?_setCell_other _ _ _ _ (by simp)).trans z8))⟩ | exact ⟨((World.cell?_setCell_other _ _ _ _ (by simp)).trans ((World.cell?_setCell_other _ _ _ _ (by simp)).trans ((World.cell?_setCell_other _ _ _ _ (by simp)).trans z6))), ((World.cell?_setCell_other _ _ _ _ (by simp)).trans ((World.cell?_setCell_other _ _ _ _ (by simp)).trans ((World.cell?_setCell_other _ _ _ _ (by simp)).trans z8)))⟩) (fail)
     go_wp2
     simp only [i64_w]
     go_end0
     exact ⟨rfl, _, (HS9.out.fin (wrap64 (s.a - b2)) (wrap64 (s.ps - b2)) (wrap64 (s.ps - s.a))).cast H'.out⟩
end Go.Proofs.Ytobknpeglagaaaa.X
