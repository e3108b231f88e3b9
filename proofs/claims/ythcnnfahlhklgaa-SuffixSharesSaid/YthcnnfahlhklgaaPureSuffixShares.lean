/- The law SuffixShares holds of any two byte lists: Shared tells what the document tells; from the other side as many. No condition. -/
import Derived.Test.YthcnnfahlhklgaaSCSuffixShares
import Derived.Test.YthcnnfahlhklgaaXL
import Derived.Test.YthcnnfahlhklgaaXx26
namespace Go.Proofs.Ythcnnfahlhklgaa.Pure
open Go.RowKit Go.Proofs.Ythcnnfahlhklgaa Go.Proofs.Ythcnnfahlhklgaa.X Go.Proofs.Ythcnnfahlhklgaa.SD Go.Proofs.Ythcnnfahlhklgaa.SM Go.Proofs.YthcnnfahlhklgaaW.PrintWords Go.Proofs.YthcnnfahlhklgaaW.PrintLast

section
variable {s t : List Int} {x : S82}
attribute [local irreducible] cv fr tov rk3 loc2 ch rank
/-- Where both sides stand at once. -/
theorem both_takes {i k n : Nat} (hi : i ≤ s.length) (h : n ≤ cml (s.drop i) (t.drop k) 0) : (s.drop i).take n = tt t k n := by
  have hf := cml_fits s (t.drop k) i
  rw [List.length_drop] at hf
  have := (piece_eq (s := s) (p := t.drop k) (a := i) (m := n) (by omega) (by rw [List.length_drop]; omega)).2 h
  rw [List.drop_take, show i + n - i = n by omega] at this
  exact this
theorem takes_both {i k n : Nat} (hi : i + n ≤ s.length) (hk : k + n ≤ t.length) (h : (s.drop i).take n = tt t k n) : n ≤ cml (s.drop i) (t.drop k) 0 := by
  refine (piece_eq (s := s) (p := t.drop k) (a := i) (m := n) hi (by rw [List.length_drop]; omega)).1 ?_
  rw [List.drop_take, show i + n - i = n by omega]
  exact h
theorem run_hi (F : Nat → Int) (n d : Nat) : ∀ lo, n - lo = d → lo ≤ n → ∃ hi, lo ≤ hi ∧ hi ≤ n ∧ (∀ q, lo ≤ q → q < hi → F q = 0) ∧ (hi < n → F hi ≠ 0) := by
  induction d with
  | zero => intro lo h h'; exact ⟨lo, Nat.le_refl _, h', fun q h1 h2 => by omega, fun h => by omega⟩
  | succ d ih =>
    intro lo h h'
    by_cases c : F lo = 0
    · obtain ⟨hi, i1, i2, i3, i4⟩ := ih (lo + 1) (by omega) (by omega)
      refine ⟨hi, by omega, i2, fun q h1 h2 => ?_, i4⟩
      by_cases e : q = lo
      · rw [e]; exact c
      · exact i3 q (by omega) h2
    · exact ⟨lo, Nat.le_refl _, h', fun q h1 h2 => by omega, fun _ => c⟩
theorem sgn_zero {u v : List Int} (h : sgn u v = 0) : cml u v 0 = v.length := by
  unfold sgn at h
  split at h
  · assumption
  · split at h
    · exact absurd h (by decide)
    · split at h <;> exact absurd h (by decide)
theorem zero_sgn {u v : List Int} (h : cml u v 0 = v.length) : sgn u v = 0 := by unfold sgn; rw [if_pos h]
/-- The final reckoning, and what it says. -/
theorem sh_key (hs : s.length ≤ 16777216) (ht : t.length ≤ 16777216) (hx : IsIx s x) (a w : Nat) (h : Bst (fun i j => i ≤ j) (fz s t) (tt t) 0 (fun y => y < t.length) w a) :
    ∃ z : Nat × Nat, Bst lep (fp s t) (tp s) (0, 0) (fun y => y.1 < s.length ∧ y.2 < t.length) w z ∧ ∃ K, ∀ k, K ≤ k → suffix_Shared.l0 k s t (a : Int) (w : Int) [x] (t.length : Int) (t.length : Int) = some ((z.1 : Int), (z.2 : Int), (w : Int), 0) := by
  have hsa := hx.2.2.1
  have hup : ∀ y : Nat × Nat, y.1 < s.length → fp s t y ≤ fz s t y.2 := fun y hy => (mxv_mx s (t.drop y.2)).1 y.1 hy
  obtain ⟨h1, h2⟩ := h
  rcases h2 with ⟨e1, e2⟩ | ⟨e1, e2, e3, e4⟩
  · refine ⟨(0, 0), ⟨fun y hy => ?_, .inl ⟨e1, rfl⟩⟩, 1, fun k hk => ?_⟩
    · have := hup y hy.1
      have := h1 y.2 hy.2
      omega
    · obtain ⟨k, rfl⟩ : ∃ k', k = k' + 1 := ⟨k - 1, by omega⟩
      subst e1
      rw [suffix_Shared.l0, if_neg (by omega), if_pos (show ((0 : Nat) : Int) = 0 from rfl)]; rfl
  · have e2 : a < t.length := e2
    have hfit := fz_fit s t e2
    have ha : a + w ≤ t.length := by omega
    have hT : (tt t a w).length = w := by unfold tt; rw [List.length_take, List.length_drop]; omega
    have hcm : ∀ i, cml (s.drop i) (tt t a w) 0 = min (cml (s.drop i) (t.drop a) 0) w := fun i => cml_take (by rw [List.length_drop]; omega)
    obtain ⟨lo, hlo, l1, l2, g⟩ := least_ok hs hx (tt t a w)
    have hm : ∀ p q, p ≤ q → q < s.length → sgn (s.drop (P x.f2 p)) (tt t a w) ≤ sgn (s.drop (P x.f2 q)) (tt t a w) := fun p q hpq hq => by
      by_cases e : p = q
      · rw [e]; exact Int.le_refl _
      · exact sgn_mono (slt_rank2 hsa (by omega) hq)
    obtain ⟨hi, i1, i2, i3, i4⟩ := run_hi (fun q => sgn (s.drop (P x.f2 q)) (tt t a w)) s.length _ lo rfl hlo
    obtain ⟨q1, q2⟩ := lst_spec x.f2 s.length lo (hi - lo)
    have hz : ∀ i, i < s.length → w ≤ cml (s.drop i) (t.drop a) 0 → lst x.f2 s.length lo (hi - lo) ≤ i := fun i hi' e => by
      obtain ⟨r, hr, rfl⟩ := rank_of_place hsa hi'
      have hc := hcm (P x.f2 r)
      have h0 := zero_sgn (show cml (s.drop (P x.f2 r)) (tt t a w) 0 = (tt t a w).length by omega)
      have hr1 : lo ≤ r := by
        rcases Nat.lt_or_ge r lo with c | c
        · have := l1 r c; omega
        · exact c
      have hr2 : r < hi := by
        rcases Nat.lt_or_ge r hi with c | c
        · exact c
        · have a1 := hm hi r c hr
          have a2 := l2 hi i1 (by omega)
          have a3 := i4 (by omega)
          have a3 : sgn (s.drop (P x.f2 hi)) (tt t a w) ≠ 0 := a3
          omega
      have := q1 (r - lo) (by omega)
      rw [show lo + (r - lo) = r by omega] at this
      exact this
    have hex : ∃ i, i < s.length ∧ w ≤ cml (s.drop i) (t.drop a) 0 := by
      have e3 : mxv s (t.drop a) s.length = w := e3
      rcases (mxv_mx s (t.drop a)).2 with h | ⟨i, hi', h⟩
      · omega
      · exact ⟨i, hi', by omega⟩
    have hat : lst x.f2 s.length lo (hi - lo) < s.length ∧ w ≤ cml (s.drop (lst x.f2 s.length lo (hi - lo))) (t.drop a) 0 := by
      obtain ⟨i, hi', e⟩ := hex
      have := hz i hi' e
      rcases q2 with h | ⟨q, hq, h⟩
      · omega
      · have h3 : sgn (s.drop (P x.f2 (lo + q))) (tt t a w) = 0 := i3 (lo + q) (by omega) (by omega)
        have h4 := sgn_zero h3
        rw [hcm, hT] at h4
        refine ⟨by omega, ?_⟩
        rw [h]
        omega
    have hfp : fp s t (lst x.f2 s.length lo (hi - lo), a) = w := by
      have := hup (lst x.f2 s.length lo (hi - lo), a) hat.1
      have h3 : w ≤ fp s t (lst x.f2 s.length lo (hi - lo), a) := hat.2
      have e3 : fz s t a = w := e3
      have : fp s t (lst x.f2 s.length lo (hi - lo), a) ≤ fz s t a := this
      omega
    refine ⟨(lst x.f2 s.length lo (hi - lo), a), ⟨fun y hy => Nat.le_trans (hup y hy.1) (h1 y.2 hy.2), .inr ⟨e1, ⟨hat.1, e2⟩, hfp, fun y hy hyw => ?_⟩⟩, 2 * s.length + 10, fun k hk => ?_⟩
    · have f1 := hup y hy.1
      have f2 := h1 y.2 hy.2
      obtain ⟨g1, g2⟩ := e4 y.2 hy.2 (by omega)
      have t1 : tp s y w = tt t y.2 w := both_takes (by omega) (show w ≤ cml (s.drop y.1) (t.drop y.2) 0 from by show w ≤ fp s t y; omega)
      have t2 : tp s (lst x.f2 s.length lo (hi - lo), a) w = tt t a w := both_takes (by omega) hat.2
      rw [t1, t2]
      refine ⟨g1, fun et => ?_⟩
      have ff := fp_fit s t y
      have hle : w ≤ cml (s.drop y.1) (t.drop a) 0 := takes_both (by omega) ha (by rw [← et]; exact t1)
      have d1 := hz y.1 hy.1 hle
      have d2 := g2 et
      have d2 : a ≤ y.2 := d2
      show lst x.f2 s.length lo (hi - lo) < y.1 ∨ (lst x.f2 s.length lo (hi - lo) = y.1 ∧ a ≤ y.2)
      omega
    · obtain ⟨k, rfl⟩ : ∃ k', k = k' + 1 := ⟨k - 1, by omega⟩
      have r0 := sh_l2 hs hx ht ha i2 i3 i4 (hi - lo) 0 (by omega) (by omega) (k - (hi - lo) - 1) (by omega)
      rw [show k - (hi - lo) - 1 + (hi - lo) + 1 = k by omega, show ((lo + 0 : Nat) : Int) = (lo : Int) from rfl] at r0
      rw [suffix_Shared.l0, if_neg (by omega), if_neg (by omega), if_pos (by omega), wp (x := (a : Int) + (w : Int)) (y := ((a + w : Nat) : Int)) (by omega) (by omega) (by omega), if_pos (by omega), if_pos (by omega), Int.toNat_natCast, Int.toNat_natCast, tt_cut, g k (by omega), Option.bind_some]
      exact r0
theorem shared_ok (hs : s.length ≤ 16777216) (ht : t.length ≤ 16777216) (hb1 : Byt s) (hbs : BL s) (hb : BL t) : ∃ (n : Nat) (z : Nat × Nat), Bst lep (fp s t) (tp s) (0, 0) (fun y => y.1 < s.length ∧ y.2 < t.length) n z ∧
    (∃ K, ∀ g, K ≤ g → sapperref13_Shared.f g s t = some ((z.1 : Int), (z.2 : Int), (n : Int), 0)) ∧ ∃ K, ∀ k, K ≤ k → suffix_Shared.f k s t = some ((z.1 : Int), (z.2 : Int), (n : Int), 0) := by
  obtain ⟨K0, x, h0, hx⟩ := New_ok hs hb1
  obtain ⟨n, z, bd, hd⟩ := refShared_ok hs ht hbs
  refine ⟨n, z, bd, hd, ?_⟩
  obtain ⟨K, h⟩ := sh_l0 (R := ((z.1 : Int), (z.2 : Int), (n : Int), 0)) hs hx ht hb (fun a w hB => by
    obtain ⟨z', b', K', h'⟩ := sh_key hs ht hx a w hB
    obtain ⟨e1, e2⟩ := bst_one _ _ _ _ lep_anti b' bd
    rw [e1, e2] at h'
    rw [e1]
    exact ⟨K', h'⟩) t.length 0 (by omega) (Nat.zero_le _) 0 0 ⟨fun y hy => by omega, .inl ⟨rfl, rfl⟩⟩
  rw [show ((0 : Nat) : Int) = 0 from rfl] at h
  refine ⟨K0 + K + 2, fun k hk => ?_⟩
  unfold suffix_Shared.f
  rw [h0 k (by omega), Option.bind_some, if_pos rfl, if_neg (by omega)]
  exact h k (by omega)
theorem cml_sym (u v : List Int) : cml u v 0 = cml v u 0 := by
  have a := cml_fit (u := u) (v := v) _ 0 rfl
  have b := cml_get (u := u) (v := v) _ 0 rfl
  have c := cml_stop (u := u) (v := v) _ 0 rfl
  rw [Nat.zero_add] at c
  refine (cml_is _ (by omega) (by omega) (fun q hq => ?_) (fun z => c ⟨z.2.1, z.1, z.2.2.symm⟩)).symm
  have := (b q hq).2.2
  rw [Nat.zero_add] at this
  exact this.symm
theorem most_le {n n' : Nat} {z z' : Nat × Nat} (h : Bst lep (fp s t) (tp s) (0, 0) (fun y => y.1 < s.length ∧ y.2 < t.length) n z) (h' : Bst lep (fp t s) (tp t) (0, 0) (fun y => y.1 < t.length ∧ y.2 < s.length) n' z') : n ≤ n' := by
  rcases h.2 with ⟨e, _⟩ | ⟨_, e2, e3, _⟩
  · omega
  · have h1 := h'.1 (z.2, z.1) ⟨e2.2, e2.1⟩
    have h2 : fp t s (z.2, z.1) = fp s t z := cml_sym _ _
    omega
theorem sh_many1 (hs : 16777216 < s.length) (k : Nat) : suffix_Shared.f k s t = some (0, 0, 0, 130) := by
  unfold suffix_Shared.f
  rw [New_many hs, Option.bind_some, if_neg (by decide)]
theorem sh_many2 (hs : s.length ≤ 16777216) (hb1 : Byt s) (ht : 16777216 < t.length) : ∃ K, ∀ k, K ≤ k → suffix_Shared.f k s t = some (0, 0, 0, 130) := by
  obtain ⟨K0, x, h0, _⟩ := New_ok hs hb1
  refine ⟨K0, fun k hk => ?_⟩
  unfold suffix_Shared.f
  rw [h0 k hk, Option.bind_some, if_pos rfl, if_pos (by omega)]
theorem sh_many (hb1 : Byt s) (h : 16777216 < s.length ∨ 16777216 < t.length) : ∃ K, ∀ k, K ≤ k → suffix_Shared.f k s t = some (0, 0, 0, 130) := by
  by_cases c : s.length ≤ 16777216
  · exact sh_many2 c hb1 (by omega)
  · exact ⟨0, fun k _ => sh_many1 (by omega) k⟩
theorem rs_many (h : 16777216 < s.length ∨ 16777216 < t.length) {k : Nat} (hk : 1 ≤ k) : sapperref13_Shared.f k s t = some (0, 0, 0, 130) := by
  obtain ⟨k, rfl⟩ : ∃ k', k = k' + 1 := ⟨k - 1, by omega⟩
  unfold sapperref13_Shared.f
  by_cases c : 16777216 < s.length
  · rw [if_pos (by omega), sapperref13_Shared.j0, if_pos rfl]
  · rw [if_neg (by omega), decide_eq_true (show (t.length : Int) > 16777216 by omega), sapperref13_Shared.j0, if_pos rfl]
end
theorem lives13 : ∃ K, ∀ k, K ≤ k → sapperlaw13_lives.f k = some true := by
  have h : sapperlaw13_lives.f 400 = some true := by decide +kernel
  exact ⟨400, fun k hk => at_rounds (g := fun k => sapperlaw13_lives.f k) (fun k => sapperlaw13_lives.mono k) hk h⟩
theorem banana : ∃ K, ∀ k, K ≤ k → suffix_Shared.f k [98, 97, 110, 97, 110, 97] [110, 97, 98] = some (2, 0, 2, 0) := by
  have h : suffix_Shared.f 400 [98, 97, 110, 97, 110, 97] [110, 97, 98] = some (2, 0, 2, 0) := by decide +kernel
  exact ⟨400, fun k hk => at_rounds (g := fun k => suffix_Shared.f k [98, 97, 110, 97, 110, 97] [110, 97, 98]) (fun k => suffix_Shared.mono _ _ k) hk h⟩
theorem SuffixShares : sapperlaw13_SuffixShares.Pure := by
  intro s t _ _ hw _ _ hw2
  obtain ⟨K1, h1⟩ := lives13
  obtain ⟨K2, h2⟩ := banana
  have tail : ∀ k, K1 + K2 ≤ k → sapperlaw13_SuffixShares.j0 (k + 1) false = some true := fun k hk => by
    rw [sapperlaw13_SuffixShares.j0, if_neg (by decide), h2 k (by omega), Option.bind_some, if_pos rfl, if_pos rfl, if_pos rfl, if_pos rfl, h1 k (by omega)]; rfl
  by_cases c : 16777216 < s.length ∨ 16777216 < t.length
  · obtain ⟨K3, h3⟩ := sh_many (t := t) (byt_wf hw) c
    obtain ⟨K4, h4⟩ := sh_many (s := t) (t := s) (byt_wf hw2) (by omega)
    refine ⟨K1 + K2 + K3 + K4 + 10 + 1, ?_⟩
    unfold sapperlaw13_SuffixShares.f
    rw [h3 _ (by omega), Option.bind_some, rs_many c (by omega), Option.bind_some, h4 _ (by omega), Option.bind_some]
    dsimp only
    rw [if_pos rfl, if_pos rfl, if_pos rfl, if_pos rfl, if_pos rfl, bne_self_eq_false]
    exact tail _ (by omega)
  · have hs : s.length ≤ 16777216 := by omega
    have ht : t.length ≤ 16777216 := by omega
    obtain ⟨n, z, b, ⟨K3, h3⟩, K4, h4⟩ := shared_ok hs ht (byt_wf hw) (bl_ok hw) (bl_ok hw2)
    obtain ⟨n', z', b', _, K5, h5⟩ := shared_ok ht hs (byt_wf hw2) (bl_ok hw2) (bl_ok hw)
    have e : n' = n := Nat.le_antisymm (most_le b' b) (most_le b b')
    subst e
    refine ⟨K1 + K2 + K3 + K4 + K5 + 10 + 1, ?_⟩
    unfold sapperlaw13_SuffixShares.f
    rw [h4 _ (by omega), Option.bind_some, h3 _ (by omega), Option.bind_some, h5 _ (by omega), Option.bind_some]
    dsimp only
    rw [if_pos rfl, if_pos rfl, if_pos rfl, if_pos rfl, if_pos rfl, bne_self_eq_false]
    exact tail _ (by omega)
end Go.Proofs.Ythcnnfahlhklgaa.Pure
