/- The law FindNoLonger holds of any bytes and any text, each of at most 1048576 bytes: what Longest tells stands there, at no lesser place, and nothing longer stands anywhere; numbers of Statistics fall by one at most. -/
import Derived.Test.YtphchkkicpnehaaSCFindNoLonger
import Derived.Test.YtphchkkicpnehaaXx51
namespace Go.Proofs.Ytphchkkicpnehaa.Pure
open Go.RowKit Go.Proofs.Ytphchkkicpnehaa Go.Proofs.Ytphchkkicpnehaa.X Go.Proofs.Ytphchkkicpnehaa.SD Go.Proofs.Ytphchkkicpnehaa.SM Go.Proofs.YtphchkkicpnehaaW.PrintWords Go.Proofs.YtphchkkicpnehaaW.PrintLast

section
variable {s p : List Int} {x : S61}
attribute [local irreducible] cn cv fr tov rk3 loc2 ch rank
theorem lgs_mx (s p : List Int) : Mx s p (lgs s p s.length).2 := Lg_mx (lng_ok _ _)
/-- From place to place of a text the most falls by one at most. -/
theorem falls (s p : List Int) (j : Nat) : (lgs s (p.drop j) s.length).2 ≤ (lgs s (p.drop (j + 1)) s.length).2 + 1 := by
  have h0 := lgs_mx s (p.drop j)
  have h1 := lgs_mx s (p.drop (j + 1))
  generalize (lgs s (p.drop j) s.length).2 = M at *
  generalize (lgs s (p.drop (j + 1)) s.length).2 = M' at *
  rcases h0.2 with e | ⟨q, hq, e⟩
  · omega
  · have hf := cml_fits s (p.drop j) q
    rw [List.length_drop] at hf
    by_cases c : q + 1 < s.length
    · have h2 := h1.1 (q + 1) c
      have : M - 1 ≤ cml (s.drop (q + 1)) (p.drop (j + 1)) 0 := cml_ge fun t ht => by
        have g := cml_agree (s := s) (p := p.drop j) (a := q) (q := t + 1) (by omega)
        rw [ch_drop, List.length_drop] at g
        rw [ch_drop, List.length_drop, show q + 1 + t = q + (t + 1) by omega, show j + 1 + t = j + (t + 1) by omega]
        exact ⟨g.1, by omega, g.2.2⟩
      omega
    · omega
theorem sts_rd (s p : List Int) {i : Nat} (hi : i < p.length) : rd (sts s p) (i : Int) = ((lgs s (p.drop i) s.length).2 : Int) := by
  rw [rd_nat]
  unfold ch
  rw [List.getD_eq_getElem?_getD, sts_at hi]; rfl
theorem nl_l2 (hp : p.length ≤ 1048576) (d : Nat) : ∀ i, p.length - i = d → 1 ≤ i → ∀ k, sapperlaw14_FindNoLonger.l2 (k + d + 1) p (sts s p) (i : Int) = some true := by
  have hl := sts_len (s := s) (p := p)
  induction d with
  | zero =>
    intro i hd hi k
    rw [show k + 0 + 1 = k + 1 by omega, sapperlaw14_FindNoLonger.l2, if_neg (by omega)]
  | succ d ih =>
    intro i hd hi k
    have h1 := falls s p (i - 1)
    rw [show i - 1 + 1 = i by omega] at h1
    have h2 := lgs_fit s (p.drop i)
    have h3 := lgs_fit s (p.drop (i - 1))
    rw [List.length_drop] at h2 h3
    rw [show k + (d + 1) + 1 = k + d + 1 + 1 by omega, sapperlaw14_FindNoLonger.l2, if_pos (by omega), if_pos (by omega), wp (x := (i : Int) - 1) (y := ((i - 1 : Nat) : Int)) (by omega) (by omega) (by omega), if_pos (by omega), if_pos (by omega), sts_rd s p (by omega), sts_rd s p (by omega),
      wp (x := ((lgs s (p.drop (i - 1)) s.length).2 : Int) - 1) rfl (by omega) (by omega), if_neg (by omega), wp (x := (p.length : Int) - (i : Int)) (y := ((p.length - i : Nat) : Int)) (by omega) (by omega) (by omega), if_neg (by omega), wp (x := (i : Int) + 1) (y := ((i + 1 : Nat) : Int)) (by omega) (by omega) (by omega)]
    exact ih (i + 1) (by omega) (by omega) k
theorem nl_l1 (hs : s.length ≤ 16777216) (hx : IsIx s x) (hb : BL s) (hq : BL p) (hp : p.length ≤ 1048576) {a m : Nat} (hm : m ≤ p.length) (ha : a + m ≤ s.length) (e : (lgs s p s.length).2 = m) (hn : ∀ i, i < a → cml (s.drop i) p 0 < m) (d : Nat) :
    ∀ i, a - i = d → i ≤ a → ∀ k, 2 * s.length + 2 * p.length + 20 ≤ k → sapperlaw14_FindNoLonger.l1 (k + d + 1) s p [x] (a : Int) (m : Int) (i : Int) = some true := by
  induction d with
  | zero =>
    intro i hd hi k hk
    have hl := sts_len (s := s) (p := p)
    obtain ⟨k, rfl⟩ : ∃ k', k = k' + 1 := ⟨k - 1, by omega⟩
    have fin : sapperlaw14_FindNoLonger.j6 (k + 1) p (sts s p) false = some true := by
      have := nl_l2 (s := s) hp (p.length - 1) 1 rfl (Nat.le_refl _) (k - (p.length - 1) - 1)
      rw [show k - (p.length - 1) - 1 + (p.length - 1) + 1 = k by omega] at this
      rw [sapperlaw14_FindNoLonger.j6, if_neg (by decide)]
      exact this
    rw [show k + 1 + 0 + 1 = k + 1 + 1 by omega, sapperlaw14_FindNoLonger.l1, if_neg (by omega), Statistics_f hs hx hp (by omega), Option.bind_some]
    dsimp only
    rw [if_pos rfl, hl, if_pos rfl]
    by_cases c : 0 < p.length
    · have e0 : rd (sts s p) 0 = (m : Int) := by
        have := sts_rd s p c
        rw [List.drop_zero, e, show ((0 : Nat) : Int) = 0 from rfl] at this
        exact this
      rw [if_pos (by omega), if_pos (by omega), e0, bne_self_eq_false]
      exact fin
    · rw [if_neg (by omega)]
      exact fin
  | succ d ih =>
    intro i hd hi k hk
    have h1 := hn i (by omega)
    have hps := piece_sl hb hq (a := i) (m := m) (by omega) hm
    rw [show k + (d + 1) + 1 = k + d + 1 + 1 by omega, sapperlaw14_FindNoLonger.l1, if_pos (by omega), if_pos (by omega), wp (x := (i : Int) + (m : Int)) (y := ((i + m : Nat) : Int)) (by omega) (by omega) (by omega), if_pos (by omega), if_pos (by omega), if_pos (by omega), if_pos (by omega), Int.toNat_natCast, Int.toNat_natCast, Int.toNat_natCast, if_neg (fun z => by have := hps.1 z; omega), wp (x := (i : Int) + 1) (y := ((i + 1 : Nat) : Int)) (by omega) (by omega) (by omega)]
    exact ih (i + 1) (by omega) (by omega) k hk
theorem nl_l0 (hs : s.length ≤ 16777216) (hb : BL s) (hq : BL p) (hp : p.length ≤ 1048576) {a m K : Nat} (hmx : Mx s p m) (g : ∀ k, K ≤ k → sapperlaw14_FindNoLonger.l1 k s p [x] (a : Int) (m : Int) 0 = some true) (d : Nat) :
    ∀ i, s.length - i = d → i ≤ s.length → ∀ k, K ≤ k → sapperlaw14_FindNoLonger.l0 (k + 2 * d + 2) s p [x] (a : Int) (m : Int) (i : Int) = some true := by
  have hm := Mx_fit hmx
  induction d with
  | zero =>
    intro i hd hi k hk
    rw [show k + 2 * 0 + 2 = k + 1 + 1 by omega, sapperlaw14_FindNoLonger.l0, wp (x := (i : Int) + (m : Int)) (y := ((i + m : Nat) : Int)) (by omega) (by omega) (by omega), if_neg (by omega), sapperlaw14_FindNoLonger.j4, if_neg (by decide)]
    exact g k hk
  | succ d ih =>
    intro i hd hi k hk
    rw [show k + 2 * (d + 1) + 2 = k + 2 * d + 2 + 1 + 1 by omega, sapperlaw14_FindNoLonger.l0, wp (x := (i : Int) + (m : Int)) (y := ((i + m : Nat) : Int)) (by omega) (by omega) (by omega)]
    by_cases c1 : i + m < s.length
    · rw [if_pos (by omega), sapperlaw14_FindNoLonger.j4]
      by_cases c2 : m < p.length
      · have h1 := hmx.1 i (by omega)
        have hps := piece_sl hb hq (a := i) (m := m + 1) (by omega) (by omega)
        rw [decide_eq_true (show (m : Int) < (p.length : Int) by omega), if_pos rfl, if_pos (by omega), wp (x := (i : Int) + (m : Int)) (y := ((i + m : Nat) : Int)) (by omega) (by omega) (by omega), wp (x := ((i + m : Nat) : Int) + 1) (y := ((i + (m + 1) : Nat) : Int)) (by omega) (by omega) (by omega), wp (x := (m : Int) + 1) (y := ((m + 1 : Nat) : Int)) (by omega) (by omega) (by omega), if_pos (by omega), if_pos (by omega), if_pos (by omega), if_pos (by omega), Int.toNat_natCast, Int.toNat_natCast, Int.toNat_natCast, if_neg (fun z => by have := hps.1 z; omega), wp (x := (i : Int) + 1) (y := ((i + 1 : Nat) : Int)) (by omega) (by omega) (by omega)]
        exact ih (i + 1) (by omega) (by omega) k hk
      · rw [decide_eq_false (show ¬ ((m : Int) < (p.length : Int)) by omega), if_neg (by decide)]
        exact g _ (by omega)
    · rw [if_neg (by omega), sapperlaw14_FindNoLonger.j4, if_neg (by decide)]
      exact g _ (by omega)
end
theorem FindNoLongerUpto : ∀ (s p : List Int), s.length ≤ maxLen → s.length * 1 ≤ 140737488351232 → (∀ x ∈ s, (Lit.int .u8 x).wf = true) → p.length ≤ maxLen → p.length * 1 ≤ 140737488351232 → (∀ x ∈ p, (Lit.int .u8 x).wf = true) → s.length ≤ 1048576 → p.length ≤ 1048576 → ∃ k, sapperlaw14_FindNoLonger.f k s p = some true := by
  intro s p _ _ hw _ _ hwp hs hp
  obtain ⟨K1, h1⟩ := awake_f
  have hs' : s.length ≤ 16777216 := by omega
  obtain ⟨K2, x, h2, hx⟩ := index_ok hs' (byt_wf hw)
  obtain ⟨K3, h3⟩ := Longest_ok hs' hx p
  have hb := bl_ok hw
  have hq := bl_ok hwp
  have hL : Lg s.length (fun i => cml (s.drop i) p 0) (lgs s p s.length).1 (lgs s p s.length).2 := lng_ok _ _
  have hmx := Lg_mx hL
  have hfit := Mx_fit hmx
  obtain ⟨a, ea⟩ : ∃ a, a = (lgs s p s.length).1 := ⟨_, rfl⟩
  obtain ⟨m, em⟩ : ∃ m, m = (lgs s p s.length).2 := ⟨_, rfl⟩
  rw [← ea, ← em] at hL h3
  rw [← em] at hmx hfit
  have hat : a + m ≤ s.length ∧ m ≤ cml (s.drop a) p 0 ∧ (m = 0 → a = 0) ∧ ∀ i, i < a → cml (s.drop i) p 0 < m := by
    obtain ⟨_, h⟩ := hL
    rcases h with ⟨h, h'⟩ | ⟨q1, q2, q3, q4⟩
    · subst h; subst h'
      exact ⟨by omega, Nat.zero_le _, fun _ => rfl, fun i hi => by omega⟩
    · have q3 : cml (s.drop a) p 0 = m := q3
      have := cml_fits s p a
      exact ⟨by omega, by omega, by omega, q4⟩
  obtain ⟨t1, t2, t3, t4⟩ := hat
  have g1 := nl_l1 hs' hx hb hq hp hfit t1 em.symm t4 a 0 (by omega) (by omega)
  have g0 := nl_l0 (a := a) (x := x) (K := 2 * s.length + 2 * p.length + 20 + a + 1) hs' hb hq hp hmx (fun k hk => by
    have := g1 (k - a - 1) (by omega)
    rw [show k - a - 1 + a + 1 = k by omega] at this
    exact this) s.length 0 (by omega) (by omega)
  rw [show ((0 : Nat) : Int) = 0 from rfl] at g0
  have hps := piece_sl hb hq (a := a) (m := m) t1 hfit
  have hj2 : ∀ (b : Bool) k, b = false → 2 * s.length + 2 * p.length + 20 + a + 1 ≤ k → sapperlaw14_FindNoLonger.j2 (k + 2 * s.length + 2 + 1) s p [x] (a : Int) (m : Int) b = some true := fun b k hbf hk => by
    subst hbf
    rw [sapperlaw14_FindNoLonger.j2, if_neg (by decide)]
    exact g0 k hk
  refine ⟨(K1 + K2 + K3 + (2 * s.length + 2 * p.length + 20 + a + 1)) + 2 * s.length + 2 + 1 + 1 + 1, ?_⟩
  unfold sapperlaw14_FindNoLonger.f
  rw [h2 _ (by omega), Option.bind_some, if_pos rfl, sapperlaw14_FindNoLonger.j0, if_neg (by simp), h3 _ (by omega), Option.bind_some]
  dsimp only
  rw [if_pos rfl, if_neg (by omega), if_neg (by omega), if_neg (by omega), wp (x := (a : Int) + (m : Int)) (y := ((a + m : Nat) : Int)) (by omega) (by omega) (by omega), if_neg (by omega), h1 _ (by omega), Option.bind_some,
    show K1 + K2 + K3 + (2 * s.length + 2 * p.length + 20 + a + 1) + 2 * s.length + 4 = (K1 + K2 + K3 + (2 * s.length + 2 * p.length + 20 + a + 1)) + 2 * s.length + 2 + 1 + 1 by omega, sapperlaw14_FindNoLonger.j1, if_neg (by decide), wp (x := (a : Int) + (m : Int)) (y := ((a + m : Nat) : Int)) (by omega) (by omega) (by omega), if_pos (by omega), if_pos (by omega), if_pos (by omega), if_pos (by omega), if_pos (by omega), Int.toNat_natCast, Int.toNat_natCast, Int.toNat_natCast, if_pos (hps.2 t2)]
  by_cases c : m = 0
  · rw [if_pos (by omega)]
    exact hj2 _ _ (by rw [t3 c]; rfl) (by omega)
  · rw [if_neg (by omega)]
    exact hj2 _ _ rfl (by omega)
end Go.Proofs.Ytphchkkicpnehaa.Pure
