/- The law FindWithin holds of any bytes and any text: just the suffixes of a range begin with the text; ranges of longer texts lie within, apart, and make up all but a last one. No condition. -/
import Derived.Test.YtphchkkicpnehaaSCFindWithin
import Derived.Test.YtphchkkicpnehaaXx34
namespace Go.Proofs.Ytphchkkicpnehaa.Pure
open Go.RowKit Go.Proofs.Ytphchkkicpnehaa Go.Proofs.Ytphchkkicpnehaa.X Go.Proofs.Ytphchkkicpnehaa.SD Go.Proofs.Ytphchkkicpnehaa.SM Go.Proofs.YtphchkkicpnehaaW.PrintWords Go.Proofs.YtphchkkicpnehaaW.PrintLast

section
variable {s p : List Int} {x : S61}
attribute [local irreducible] cn cv fr tov rk3 loc2 ch rank
theorem wi_l1 (hs : s.length ≤ 16777216) (hx : IsIx s x) (hb : BL s) (hq : BL p) (hp : p.length ≤ 140737488351232) (d : Nat) : ∀ c : Nat, 256 - c = d → c ≤ 256 → ∀ L : Nat, (c < 256 → L ≤ cn s.length (lss s (p ++ [(c : Int)]))) →
    ∃ K, ∀ k, K ≤ k → sapperlaw14_FindWithin.l1 k s p [x] (cn s.length (lss s p) : Int) (cn s.length (leq s p) : Int) (L : Int) (cn s.length (below s p c) : Int) (c : Int) = some true := by
  have hle : ∀ T, cn s.length T ≤ s.length := fun T => cn_le T
  induction d with
  | zero =>
    intro c hd hc L hL
    have : c = 256 := by omega
    subst this
    refine ⟨1, fun k hk => ?_⟩
    obtain ⟨k, rfl⟩ : ∃ k', k = k' + 1 := ⟨k - 1, by omega⟩
    have h1 := below_all hb p
    have h2 := cn_beg s p s.length
    have b1 := hle (leq s p)
    rw [sapperlaw14_FindWithin.l1, if_neg (by omega), wp (x := (cn s.length (leq s p) : Int) - (cn s.length (lss s p) : Int)) (y := (cn s.length (beg s p) : Int)) (by omega) (by omega) (by omega)]
    by_cases c1 : 0 < p.length
    · rw [if_pos (by omega)]
      by_cases c2 : p.length ≤ s.length
      · have e0 : (s.take (s.length - p.length + p.length)).drop (s.length - p.length) = s.drop (s.length - p.length) := by
          rw [show s.length - p.length + p.length = s.length by omega, List.take_length]
        have hps := piece_sl hb hq (a := s.length - p.length) (m := p.length) (by omega) (Nat.le_refl _)
        rw [e0, List.take_length] at hps
        have hf := cml_fits s p (s.length - p.length)
        rw [if_pos (by omega), wp (x := (s.length : Int) - (p.length : Int)) (y := ((s.length - p.length : Nat) : Int)) (by omega) (by omega) (by omega), if_pos (by omega), if_pos (by omega), Int.toNat_natCast]
        by_cases c3 : p.length ≤ cml (s.drop (s.length - p.length)) p 0
        · rw [if_pos ⟨c1, c2, by omega⟩] at h1
          rw [if_pos (hps.2 c3), wp (x := (cn s.length (below s p 256) : Int) + 1) (y := (cn s.length (beg s p) : Int)) (by omega) (by omega) (by omega), beq_self_eq_true]
        · rw [if_neg (fun z => c3 (by omega))] at h1
          rw [if_neg (fun z => c3 (hps.1 z)), h1, Nat.add_zero, beq_self_eq_true]
      · rw [if_neg (fun z => c2 z.2.1)] at h1
        rw [if_neg (by omega), h1, Nat.add_zero, beq_self_eq_true]
    · rw [if_neg (fun z => c1 z.1)] at h1
      rw [if_neg (by omega), h1, Nat.add_zero, beq_self_eq_true]
  | succ d ih =>
    intro c hd hc L hL
    obtain ⟨K1, g1⟩ := Range_ok hs hx (p ++ [(c : Int)])
    obtain ⟨K2, g2⟩ := ih (c + 1) (by omega) (by omega) (cn s.length (leq s (p ++ [(c : Int)]))) (fun _ => within_next p c)
    have w1 := within_lo (s := s) p (c : Int)
    have w2 := within_mid (s := s) p (c : Int)
    have w3 := within_hi (s := s) p (c : Int)
    have w4 := cn_beg s (p ++ [(c : Int)]) s.length
    have w5 := below_next (s := s) p c
    have w6 := hL (by omega)
    have b1 := hle (leq s (p ++ [(c : Int)]))
    have b2 := hle (below s p (c + 1))
    refine ⟨K1 + K2 + 1, fun k hk => ?_⟩
    obtain ⟨k, rfl⟩ : ∃ k', k = k' + 1 := ⟨k - 1, by omega⟩
    rw [sapperlaw14_FindWithin.l1, if_pos (by omega), if_pos (by rw [List.length_nil]; omega), List.nil_append, Option.bind_some, if_pos (by omega), show ((c : Int) % 256) = (c : Int) by omega, g1 k (by omega), Option.bind_some]
    dsimp only
    rw [if_pos rfl, if_neg (by omega), if_neg (by omega), if_neg (by omega), if_neg (by omega), wp (x := (cn s.length (leq s (p ++ [(c : Int)])) : Int) - (cn s.length (lss s (p ++ [(c : Int)])) : Int)) (y := (cn s.length (beg s (p ++ [(c : Int)])) : Int)) (by omega) (by omega) (by omega),
      wp (x := (cn s.length (below s p c) : Int) + (cn s.length (beg s (p ++ [(c : Int)])) : Int)) (y := (cn s.length (below s p (c + 1)) : Int)) (by omega) (by omega) (by omega), wp (x := (c : Int) + 1) (y := ((c + 1 : Nat) : Int)) (by omega) (by omega) (by omega)]
    exact g2 k (by omega)
theorem wi_l0 (hs : s.length ≤ 16777216) (hx : IsIx s x) (hb : BL s) (hq : BL p) (hp : p.length ≤ 140737488351232) (d : Nat) : ∀ r : Nat, s.length - r = d → r ≤ s.length → ∀ k, sapperlaw14_FindWithin.l0 (k + d + 1) s p [x] (cn s.length (lss s p) : Int) (cn s.length (leq s p) : Int) (r : Int) x.f2 = sapperlaw14_FindWithin.l1 k s p [x] (cn s.length (lss s p) : Int) (cn s.length (leq s p) : Int) (cn s.length (lss s p) : Int) 0 0 := by
  have hl := hx.2.2.1.1
  induction d with
  | zero =>
    intro r hd hr k
    rw [show k + 0 + 1 = k + 1 by omega, sapperlaw14_FindWithin.l0, if_neg (by omega)]
  | succ d ih =>
    intro r hd hr k
    have next := ih (r + 1) (by omega) (by omega) k
    obtain ⟨a1, a2, _⟩ := sa_at hx.2.2.1 (show r < s.length by omega)
    have hrb := range_begins hx.2.2.1 p (show r < s.length by omega)
    have hf := cml_fits s p (P x.f2 r)
    rw [show k + (d + 1) + 1 = k + d + 1 + 1 by omega, sapperlaw14_FindWithin.l0, if_pos (by omega), if_pos (by omega), rd_nat, a1, wp (x := (s.length : Int) - (P x.f2 r : Int)) (y := ((s.length - P x.f2 r : Nat) : Int)) (by omega) (by omega) (by omega), wp (x := (r : Int) + 1) (y := ((r + 1 : Nat) : Int)) (by omega) (by omega) (by omega), wp (x := (P x.f2 r : Int) + (p.length : Int)) (y := ((P x.f2 r + p.length : Nat) : Int)) (by omega) (by omega) (by omega)]
    by_cases c1 : p.length ≤ s.length - P x.f2 r
    · have hB : ((strOfNums ((s.take (P x.f2 r + p.length)).drop (P x.f2 r))).toList == (strOfNums p).toList) = decide (cn s.length (lss s p) ≤ r ∧ r < cn s.length (leq s p)) := by
        have hps := piece_sl hb hq (a := P x.f2 r) (m := p.length) (by omega) (Nat.le_refl _)
        rw [List.take_length] at hps
        rw [Bool.eq_iff_iff, beq_iff_eq, hps, decide_eq_true_eq, hrb]
        omega
      rw [if_pos (by omega), if_pos (by omega), if_pos (by omega), if_pos (by omega), Int.toNat_natCast, Int.toNat_natCast, hB]
      by_cases c2 : cn s.length (lss s p) ≤ r
      · rw [if_pos (by omega), if_neg (by simp only [bne_iff_ne, ne_eq, Classical.not_not, decide_eq_decide]; omega)]
        exact next
      · rw [if_neg (by omega), if_neg (by rw [decide_eq_false (fun z => c2 z.1)]; decide)]
        exact next
    · have c3 : ¬ (cn s.length (lss s p) ≤ r ∧ r < cn s.length (leq s p)) := fun z => by have := hrb.1 z; omega
      rw [if_neg (by omega)]
      by_cases c2 : cn s.length (lss s p) ≤ r
      · rw [if_pos (by omega), if_neg (by rw [decide_eq_false (by omega)]; decide)]
        exact next
      · rw [if_neg (by omega), if_neg (by decide)]
        exact next
end
theorem FindWithin : sapperlaw14_FindWithin.Pure := by
  intro s p _ _ hw _ hp hwp
  obtain ⟨K1, h1⟩ := awake_f
  by_cases hs : s.length ≤ 16777216
  case neg =>
    refine ⟨K1 + 1, ?_⟩
    unfold sapperlaw14_FindWithin.f
    rw [index_many (by omega), Option.bind_some, if_pos rfl, sapperlaw14_FindWithin.j0, if_pos (by rfl), if_pos rfl, h1 _ (by omega)]; rfl
  have hb := bl_ok hw
  have hq := bl_ok hwp
  obtain ⟨K2, x, h2, hx⟩ := index_ok hs (byt_wf hw)
  obtain ⟨K3, h3⟩ := Range_ok hs hx p
  obtain ⟨K4, h4⟩ := wi_l1 hs hx hb hq (by omega) 256 0 (by omega) (by omega) (cn s.length (lss s p)) (fun _ => within_lo p _)
  have h5 := wi_l0 hs hx hb hq (by omega) s.length 0 (by omega) (by omega)
  have e1 := cn_beg s p s.length
  have e2 : cn s.length (leq s p) ≤ s.length := cn_le _
  rw [below_none hb, show ((0 : Nat) : Int) = 0 from rfl] at h4
  rw [show ((0 : Nat) : Int) = 0 from rfl] at h5
  refine ⟨(K1 + K2 + K3 + K4 + 10) + s.length + 1 + 1 + 1 + 1, ?_⟩
  unfold sapperlaw14_FindWithin.f
  rw [h2 _ (by omega), Option.bind_some, if_pos rfl, sapperlaw14_FindWithin.j0, if_neg (by simp), h3 _ (by omega), Option.bind_some]
  dsimp only
  rw [if_pos rfl, if_neg (by omega), if_neg (by omega), if_neg (by omega), h1 _ (by omega), Option.bind_some, sapperlaw14_FindWithin.j1, if_neg (by decide), Array_f hs hx, Option.bind_some, hx.2.2.1.1, if_pos rfl, show K1 + K2 + K3 + K4 + 10 + s.length + 2 = (K1 + K2 + K3 + K4 + 11) + s.length + 1 by omega, h5, h4 _ (by omega)]
end Go.Proofs.Ytphchkkicpnehaa.Pure
