/- The law FindFewest holds of any bytes and any text: the parts are the text, each stands there, and no row of such parts has fewer. No condition. -/
import Derived.Test.YtphchkkicpnehaaSCFindFewest
import Derived.Test.YtphchkkicpnehaaXx29
import Derived.Test.YtphchkkicpnehaaXx30
namespace Go.Proofs.Ytphchkkicpnehaa.Pure
open Go.RowKit Go.Proofs.Ytphchkkicpnehaa Go.Proofs.Ytphchkkicpnehaa.X Go.Proofs.Ytphchkkicpnehaa.SD Go.Proofs.Ytphchkkicpnehaa.SM Go.Proofs.YtphchkkicpnehaaW.PrintWords Go.Proofs.YtphchkkicpnehaaW.PrintLast

section
variable {s p : List Int} {x : S61}
attribute [local irreducible] cn cv fr tov rk3 loc2 ch rank
theorem fe_rd {a : List S51} {i : Nat} {v : S51} (h : a[i]? = some v) : rd_T51 a (i : Int) = v := by
  unfold rd_T51
  rw [Int.toNat_natCast, List.getD_eq_getElem?_getD, h]; rfl
theorem cn_order (s q : List Int) : cn s.length (lss s q) ≤ cn s.length (leq s q) := cn_mono fun i _ h => by
  unfold lss at h; unfold leq
  simp only [decide_eq_true_eq] at h ⊢
  omega
/-- How often a piece stands there, if it is not empty: none just if it is longer than the most. -/
theorem fe_count (hs : s.length ≤ 16777216) (hx : IsIx s x) {i n : Nat} (h1 : i + n ≤ p.length) (hn : 1 ≤ n) : ∃ K c : Nat, (∀ k, K ≤ k → find_Count.f k [x] ((p.take (i + n)).drop i) = some ((c : Int), 0)) ∧ (c = 0 ↔ (lgs s (p.drop i) s.length).2 < n) := by
  obtain ⟨K, h⟩ := Range_ok hs hx ((p.take (i + n)).drop i)
  have hb := beg_count (s := s) h1 hn
  have ho := cn_order s ((p.take (i + n)).drop i)
  have hle : cn s.length (leq s ((p.take (i + n)).drop i)) ≤ s.length := cn_le _
  refine ⟨K, cn s.length (leq s ((p.take (i + n)).drop i)) - cn s.length (lss s ((p.take (i + n)).drop i)), fun k hk => ?_, by omega⟩
  unfold find_Count.f
  rw [h k hk, Option.bind_some]
  dsimp only
  rw [wp (x := (cn s.length (leq s ((p.take (i + n)).drop i)) : Int) - (cn s.length (lss s ((p.take (i + n)).drop i)) : Int)) (y := ((cn s.length (leq s ((p.take (i + n)).drop i)) - cn s.length (lss s ((p.take (i + n)).drop i)) : Nat) : Int)) (by omega) (by omega) (by omega)]
/-- The row, filled from a place on. -/
def Rw (s p : List Int) (i : Nat) (g : List Int) : Prop := g.length = p.length + 1 ∧ ∀ j, i ≤ j → j ≤ p.length → ch g j = (few s p j : Int)
theorem ch_set (g : List Int) {i j : Nat} {v : Int} (hi : i < g.length) : ch (g.set i v) j = if i = j then v else ch g j := by
  unfold ch
  rw [List.getD_eq_getElem?_getD, List.getElem?_set]
  split
  · rfl
  · rw [List.getD_eq_getElem?_getD]
theorem fe_l2 (hs : s.length ≤ 16777216) (hx : IsIx s x) (hp : p.length ≤ 500) (y : List S51) (at_ : Int) {i : Nat} (hi : i < p.length) {K0 : Nat}
    (next : ∀ g, Rw s p i g → ∀ k, K0 ≤ k → sapperlaw14_FindFewest.l1 k p [x] y at_ ((i : Int) - 1) g = some true) (d : Nat) :
    ∀ m, stp s p i - 1 - m = d → m ≤ stp s p i - 1 → ∃ K, ∀ g, Rw s p (i + 1) g → ch g i = (lea s p i m : Int) → ∀ k, K ≤ k → sapperlaw14_FindFewest.l2 k p [x] y at_ (i : Int) ((m + 2 : Nat) : Int) g = some true := by
  have hfit := stp_fit s p hi
  have hst : stp s p i = max (lgs s (p.drop i) s.length).2 1 := rfl
  have fin : ∀ g, Rw s p (i + 1) g → ch g i = (lea s p i (stp s p i - 1) : Int) → Rw s p i g := fun g hg h => ⟨hg.1, fun j hj hj2 => by
    by_cases e : j = i
    · subst e; rw [h, lea_few hi]
    · exact hg.2 j (by omega) hj2⟩
  induction d with
  | zero =>
    intro m hd hm
    have e : m = stp s p i - 1 := by omega
    subst e
    by_cases c : i + (stp s p i - 1 + 2) ≤ p.length
    · obtain ⟨K, n, h1, h2⟩ := fe_count (p := p) hs hx (i := i) (n := stp s p i - 1 + 2) c (by omega)
      have hn : n = 0 := h2.2 (by omega)
      subst hn
      refine ⟨K + K0 + 1, fun g hg h k hk => ?_⟩
      have hR := fin g hg h
      obtain ⟨k, rfl⟩ : ∃ k', k = k' + 1 := ⟨k - 1, by omega⟩
      rw [sapperlaw14_FindFewest.l2, wp (x := (i : Int) + ((stp s p i - 1 + 2 : Nat) : Int)) (y := ((i + (stp s p i - 1 + 2) : Nat) : Int)) (by omega) (by omega) (by omega), if_pos (by omega), if_pos (by omega), if_pos (by omega), Int.toNat_natCast, Int.toNat_natCast, h1 k (by omega), Option.bind_some]
      dsimp only
      rw [if_pos rfl, if_pos (by omega), wp (x := (i : Int) - 1) rfl (by omega) (by omega)]
      exact next g hR k (by omega)
    · refine ⟨K0 + 1, fun g hg h k hk => ?_⟩
      have hR := fin g hg h
      obtain ⟨k, rfl⟩ : ∃ k', k = k' + 1 := ⟨k - 1, by omega⟩
      rw [sapperlaw14_FindFewest.l2, wp (x := (i : Int) + ((stp s p i - 1 + 2 : Nat) : Int)) (y := ((i + (stp s p i - 1 + 2) : Nat) : Int)) (by omega) (by omega) (by omega), if_neg (by omega), wp (x := (i : Int) - 1) rfl (by omega) (by omega)]
      exact next g hR k (by omega)
  | succ d ih =>
    intro m hd hm
    obtain ⟨K, n, h1, h2⟩ := fe_count (p := p) hs hx (i := i) (n := m + 2) (by omega) (by omega)
    have hn : n ≠ 0 := fun e => by have := h2.1 e; omega
    have hf1 := few_le s p (i + (m + 2))
    have hlea : lea s p i (m + 1) = min (lea s p i m) (1 + few s p (i + (m + 2))) := rfl
    obtain ⟨K2, g2⟩ := ih (m + 1) (by omega) (by omega)
    refine ⟨K + K2 + 1, fun g hg h k hk => ?_⟩
    have hl := hg.1
    have hv := hg.2 (i + (m + 2)) (by omega) (by omega)
    have g3 := g2 (g.set i (lea s p i (m + 1) : Int)) ⟨by rw [List.length_set]; exact hl, fun j hj hj2 => by rw [ch_set g (by omega), if_neg (by omega)]; exact hg.2 j hj hj2⟩ (by rw [ch_set g (by omega), if_pos rfl])
    obtain ⟨k, rfl⟩ : ∃ k', k = k' + 1 := ⟨k - 1, by omega⟩
    have emn : mn (lea s p i m : Int) ((1 + few s p (i + (m + 2)) : Nat) : Int) = (lea s p i (m + 1) : Int) := by rw [hlea]; exact mn_nat _ _
    rw [sapperlaw14_FindFewest.l2, wp (x := (i : Int) + ((m + 2 : Nat) : Int)) (y := ((i + (m + 2) : Nat) : Int)) (by omega) (by omega) (by omega), if_pos (by omega), if_pos (by omega), if_pos (by omega), Int.toNat_natCast, Int.toNat_natCast, h1 k (by omega), Option.bind_some]
    dsimp only
    rw [if_pos rfl, if_neg (by omega), if_pos (by omega), if_pos (by omega), if_pos (by omega), rd_nat, rd_nat, h, hv, wp (x := 1 + (few s p (i + (m + 2)) : Int)) (y := ((1 + few s p (i + (m + 2)) : Nat) : Int)) (by omega) (by omega) (by omega), emn, wp (x := ((m + 2 : Nat) : Int) + 1) (y := ((m + 1 + 2 : Nat) : Int)) (by omega) (by omega) (by omega)]
    exact g3 k (by omega)
theorem fe_l1 (hs : s.length ≤ 16777216) (hx : IsIx s x) (hp : p.length ≤ 500) (y : List S51) (hy : y.length = few s p 0) (n : Nat) :
    n ≤ p.length → ∃ K, ∀ g, Rw s p n g → ∀ k, K ≤ k → sapperlaw14_FindFewest.l1 k p [x] y (p.length : Int) ((n : Int) - 1) g = some true := by
  induction n with
  | zero =>
    intro _
    refine ⟨1, fun g hg k hk => ?_⟩
    obtain ⟨k, rfl⟩ : ∃ k', k = k' + 1 := ⟨k - 1, by omega⟩
    have hl := hg.1
    have hv := hg.2 0 (Nat.le_refl _) (Nat.zero_le _)
    have hr : rd g 0 = (few s p 0 : Int) := by
      have := rd_nat g 0
      rw [show ((0 : Nat) : Int) = 0 from rfl] at this
      rw [this, hv]
    rw [sapperlaw14_FindFewest.l1, if_neg (by omega), if_pos rfl, if_pos (by omega), hr, hy, beq_self_eq_true]
  | succ n ih =>
    intro hn
    obtain ⟨K0, g0⟩ := ih (by omega)
    obtain ⟨K1, g1⟩ := fe_l2 hs hx hp y (p.length : Int) (i := n) (by omega) g0 (stp s p n - 1 - 0) 0 rfl (Nat.zero_le _)
    refine ⟨K1 + 1, fun g hg k hk => ?_⟩
    obtain ⟨k, rfl⟩ : ∃ k', k = k' + 1 := ⟨k - 1, by omega⟩
    have hl := hg.1
    have hv := hg.2 (n + 1) (Nat.le_refl _) hn
    have hf := few_le s p (n + 1)
    have hl0 : lea s p n 0 = 1 + few s p (n + 1) := rfl
    have h2 := g1 (g.set n (lea s p n 0 : Int)) ⟨by rw [List.length_set]; exact hl, fun j hj hj2 => by rw [ch_set g (by omega), if_neg (by omega)]; exact hg.2 j hj hj2⟩ (by rw [ch_set g (by omega), if_pos rfl]) k (by omega)
    rw [show ((n + 1 : Nat) : Int) - 1 = (n : Int) by omega, sapperlaw14_FindFewest.l1, if_pos (by omega), wp (x := (n : Int) + 1) (y := ((n + 1 : Nat) : Int)) (by omega) (by omega) (by omega), if_pos (by omega), if_pos (by omega), if_pos (by omega), if_pos (by omega), rd_nat, hv, wp (x := 1 + (few s p (n + 1) : Int)) (y := ((lea s p n 0 : Nat) : Int)) (by omega) (by omega) (by omega), Int.toNat_natCast]
    exact h2
theorem lgs_at (s p : List Int) : (lgs s p s.length).1 + (lgs s p s.length).2 ≤ s.length ∧ (lgs s p s.length).2 ≤ cml (s.drop (lgs s p s.length).1) p 0 := by
  have hL : Lg s.length (fun i => cml (s.drop i) p 0) (lgs s p s.length).1 (lgs s p s.length).2 := lng_ok _ _
  obtain ⟨_, h⟩ := hL
  rcases h with ⟨h, h'⟩ | ⟨q1, q2, q3, q4⟩
  · rw [h, h']; exact ⟨by omega, Nat.zero_le _⟩
  · have q3 : cml (s.drop (lgs s p s.length).1) p 0 = (lgs s p s.length).2 := q3
    have := cml_fits s p (lgs s p s.length).1
    exact ⟨by omega, by omega⟩
/-- The parts from a place on, held against the text. -/
theorem fe_l0 (hs : s.length ≤ 16777216) (hx : IsIx s x) (hb : BL s) (hq : BL p) (hp : p.length ≤ 500) (y : List S51) {K0 : Nat}
    (fin : ∀ k, K0 ≤ k → sapperlaw14_FindFewest.l1 k p [x] y (p.length : Int) (wrap64 ((p.length : Int) - 1)) (List.replicate (p.length + 1) 0) = some true) (f : Nat) :
    ∀ j i : Nat, p.length - j ≤ f → j ≤ p.length → i ≤ y.length → y.drop i = (parts s p f j).map mkA → y.length ≤ 1000 → ∃ K, ∀ k, K ≤ k → sapperlaw14_FindFewest.l0 k s p [x] y (j : Int) (y.length : Int) (i : Int) = some true := by
  have stop : ∀ j i : Nat, j = p.length → i = y.length → ∃ K, ∀ k, K ≤ k → sapperlaw14_FindFewest.l0 k s p [x] y (j : Int) (y.length : Int) (i : Int) = some true := fun j i ej ei => by
    subst ej
    subst ei
    refine ⟨K0 + 1, fun k hk => ?_⟩
    obtain ⟨k, rfl⟩ : ∃ k', k = k' + 1 := ⟨k - 1, by omega⟩
    rw [sapperlaw14_FindFewest.l0, if_neg (by omega), wp (x := (p.length : Int) + 1) (y := ((p.length + 1 : Nat) : Int)) (by omega) (by omega) (by omega), if_pos (by omega), Int.toNat_natCast, if_pos (by omega)]
    exact fin k (by omega)
  induction f with
  | zero =>
    intro j i hf hj hi hd _
    refine stop j i (by omega) ?_
    have := congrArg List.length hd
    rw [List.length_drop] at this
    simp only [parts, List.map_nil, List.length_nil] at this
    omega
  | succ f ih =>
    intro j i hf hj hi hd hy
    by_cases c : j < p.length
    · unfold parts at hd
      rw [if_pos c, List.map_cons] at hd
      have hlen := congrArg List.length hd
      rw [List.length_drop, List.length_cons] at hlen
      have hget : y[i]? = some (mkA (part1 s p j)) := by
        have := congrArg (fun l => l[0]?) hd
        simp only [List.getElem?_drop, Nat.add_zero, List.getElem?_cons_zero] at this
        exact this
      have hdrop : y.drop (i + 1) = (parts s p f (j + max (lgs s (p.drop j) s.length).2 1)).map mkA := by
        have := congrArg (fun l => l.drop 1) hd
        simp only [List.drop_drop, List.drop_succ_cons, List.drop_zero] at this
        exact this
      have hrd := fe_rd hget
      have hfit := lgs_fit s (p.drop j)
      rw [List.length_drop] at hfit
      obtain ⟨t1, t2⟩ := lgs_at s (p.drop j)
      obtain ⟨K1, n, h1, h2⟩ := fe_count (p := p) hs hx (i := j) (n := 1) (by omega) (Nat.le_refl _)
      obtain ⟨K2, g2⟩ := ih (j + max (lgs s (p.drop j) s.length).2 1) (i + 1) (by omega) (by omega) (by omega) hdrop hy
      have hps := piece_sl hb (hq.drop j) (a := (lgs s (p.drop j) s.length).1) (m := (lgs s (p.drop j) s.length).2) t1 (by rw [List.length_drop]; omega)
      have hstr := hps.2 t2
      have etk : (p.drop j).take (lgs s (p.drop j) s.length).2 = (p.take (j + (lgs s (p.drop j) s.length).2)).drop j := by rw [List.drop_take, show j + (lgs s (p.drop j) s.length).2 - j = (lgs s (p.drop j) s.length).2 by omega]
      rw [etk] at hstr
      have f0 : (mkA (part1 s p j)).f0 = ((lgs s (p.drop j) s.length).1 : Int) := rfl
      have f1 : (mkA (part1 s p j)).f1 = (j : Int) := rfl
      have f2 : (mkA (part1 s p j)).f2 = ((lgs s (p.drop j) s.length).2 : Int) := rfl
      have emx : mx ((lgs s (p.drop j) s.length).2 : Int) 1 = ((max (lgs s (p.drop j) s.length).2 1 : Nat) : Int) := mx_nat _ 1
      generalize (lgs s (p.drop j) s.length).2 = M at *
      generalize (lgs s (p.drop j) s.length).1 = A at *
      have hz : ((n : Int) == 0) = ((M : Int) == 0) := by
        rw [Bool.eq_iff_iff, beq_iff_eq, beq_iff_eq]
        omega
      refine ⟨K1 + K2 + 3, fun k hk => ?_⟩
      obtain ⟨k, rfl⟩ : ∃ k', k = k' + 1 + 1 := ⟨k - 2, by omega⟩
      rw [sapperlaw14_FindFewest.l0, if_pos (by omega), if_pos (by omega), if_pos (by omega), hrd, f0, f1, f2, emx, if_pos rfl, if_neg (by omega), if_neg (by omega), wp (x := (j : Int) + ((max M 1 : Nat) : Int)) (y := ((j + max M 1 : Nat) : Int)) (by omega) (by omega) (by omega), if_neg (by omega),
        wp (x := (A : Int) + (M : Int)) (y := ((A + M : Nat) : Int)) (by omega) (by omega) (by omega), if_neg (by omega), if_pos (by omega), if_pos (by omega), if_pos (by omega), if_pos (by omega), wp (x := (j : Int) + (M : Int)) (y := ((j + M : Nat) : Int)) (by omega) (by omega) (by omega), if_pos (by omega), if_pos (by omega), Int.toNat_natCast, Int.toNat_natCast, Int.toNat_natCast, Int.toNat_natCast, hstr, bne_self_eq_false,
        sapperlaw14_FindFewest.j4, if_neg (by decide), wp (x := (j : Int) + 1) (y := ((j + 1 : Nat) : Int)) (by omega) (by omega) (by omega), if_pos (by omega), if_pos (by omega), if_pos (by omega), Int.toNat_natCast, Int.toNat_natCast, h1 k (by omega), Option.bind_some]
      dsimp only
      rw [if_pos rfl, hz, bne_self_eq_false, if_neg (by decide), wp (x := (j : Int) + ((max M 1 : Nat) : Int)) (y := ((j + max M 1 : Nat) : Int)) (by omega) (by omega) (by omega), wp (x := (i : Int) + 1) (y := ((i + 1 : Nat) : Int)) (by omega) (by omega) (by omega)]
      exact g2 k (by omega)
    · refine stop j i (by omega) ?_
      unfold parts at hd
      rw [if_neg c, List.map_nil] at hd
      have := congrArg List.length hd
      rw [List.length_drop, List.length_nil] at this
      omega
end
theorem FindFewest : sapperlaw14_FindFewest.Pure := by
  intro s p _ _ hw _ _ hwp
  obtain ⟨K1, h1⟩ := awake_f
  have early : ∀ k, K1 + 1 ≤ k → sapperlaw14_FindFewest.j0 k s p true = some true := fun k hk => by
    obtain ⟨k, rfl⟩ : ∃ k', k = k' + 1 := ⟨k - 1, by omega⟩
    rw [sapperlaw14_FindFewest.j0, if_pos rfl, h1 k (by omega)]; rfl
  by_cases c1 : s.length > 500
  · refine ⟨K1 + 1, ?_⟩
    unfold sapperlaw14_FindFewest.f
    rw [if_pos (by omega)]
    exact early _ (Nat.le_refl _)
  by_cases c2 : p.length > 500
  · refine ⟨K1 + 1, ?_⟩
    unfold sapperlaw14_FindFewest.f
    rw [if_neg (by omega), decide_eq_true (show (p.length : Int) > 500 by omega)]
    exact early _ (Nat.le_refl _)
  have hs : s.length ≤ 16777216 := by omega
  have hb := bl_ok hw
  have hq := bl_ok hwp
  obtain ⟨K2, x, h2, hx⟩ := index_ok hs (byt_wf hw)
  obtain ⟨K3, h3⟩ := Factors_ok (p := p) hs hx (by omega)
  have hy : ((parts s p p.length 0).map mkA).length = few s p 0 := by rw [List.length_map, cnt_parts]; rfl
  have hyl := parts_len (s := s) (p := p) p.length 0 (Nat.zero_le _)
  obtain ⟨K4, h4⟩ := fe_l1 hs hx (by omega) ((parts s p p.length 0).map mkA) hy p.length (Nat.le_refl _)
  have hrow : Rw s p p.length (List.replicate (p.length + 1) 0) := ⟨by rw [List.length_replicate], fun j hj hj2 => by
    have : j = p.length := by omega
    subst this
    rw [few_end (Nat.le_refl _)]
    unfold ch
    rw [List.getD_eq_getElem?_getD, List.getElem?_replicate, if_pos (by omega)]; rfl⟩
  obtain ⟨K5, h5⟩ := fe_l0 hs hx hb hq (by omega) ((parts s p p.length 0).map mkA) (K0 := K4) (fun k hk => by
    rw [wp (x := (p.length : Int) - 1) rfl (by omega) (by omega)]
    exact h4 _ hrow k hk) p.length 0 0 (by omega) (by omega) (Nat.zero_le _) rfl (by rw [List.length_map]; omega)
  rw [show ((0 : Nat) : Int) = 0 from rfl] at h5
  refine ⟨(K1 + K2 + K3 + K4 + K5 + 10) + 1 + 1 + 1, ?_⟩
  unfold sapperlaw14_FindFewest.f
  rw [if_neg (by omega), decide_eq_false (show ¬ ((p.length : Int) > 500) by omega), sapperlaw14_FindFewest.j0, if_neg (by decide), h2 _ (by omega), Option.bind_some, if_pos rfl]
  dsimp only
  rw [show (([x].length : Int) == 0) = false from rfl, sapperlaw14_FindFewest.j1, if_neg (by decide), h3 _ (by omega), Option.bind_some]
  dsimp only
  rw [if_pos rfl, h1 _ (by omega), Option.bind_some, sapperlaw14_FindFewest.j2, if_neg (by decide)]
  exact h5 _ (by omega)
end Go.Proofs.Ytphchkkicpnehaa.Pure
