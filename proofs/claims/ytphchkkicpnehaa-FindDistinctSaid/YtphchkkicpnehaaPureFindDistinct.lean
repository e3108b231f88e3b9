/- The law FindDistinct holds of any bytes: the unlike texts are as many as the document counts place by place. No condition. -/
import Derived.Test.YtphchkkicpnehaaSYa
import Derived.Test.YtphchkkicpnehaaSYb
import Derived.Test.YtphchkkicpnehaaSB
import Derived.Test.YtphchkkicpnehaaXx46
namespace Go.Proofs.Ytphchkkicpnehaa.Pure
open Go.RowKit Go.Proofs.Ytphchkkicpnehaa Go.Proofs.Ytphchkkicpnehaa.X Go.Proofs.Ytphchkkicpnehaa.SD Go.Proofs.Ytphchkkicpnehaa.SM Go.Proofs.YtphchkkicpnehaaW.PrintWords Go.Proofs.YtphchkkicpnehaaW.PrintLast

section
variable {s p : List Int}
attribute [local irreducible] cn cv fr tov rk3 loc2 ch rank
theorem common_l0 (hs : s.length ≤ 16777216) (hp : p.length ≤ 16777216) {a : Nat} (ha : a ≤ s.length) (d : Nat) : ∀ q, p.length - q = d → q ≤ p.length → ∀ k, sapperref14_common.l0 (k + d + 1) s p (a : Int) (q : Int) = some (((q + cml p (s.drop a) q : Nat) : Int)) := by
  induction d with
  | zero =>
    intro q hd hq k
    rw [show k + 0 + 1 = k + 1 by omega, sapperref14_common.l0, if_neg (by omega), cml, dif_neg (by omega), Nat.add_zero]
  | succ d ih =>
    intro q hd hq k
    rw [show k + (d + 1) + 1 = k + d + 1 + 1 by omega, sapperref14_common.l0, if_pos (by omega), cml, dif_pos (by omega), wp (x := (a : Int) + (q : Int)) (y := ((a + q : Nat) : Int)) (by omega) (by omega) (by omega), wp (x := (q : Int) + 1) (y := ((q + 1 : Nat) : Int)) (by omega) (by omega) (by omega), List.length_drop, ch_drop]
    by_cases h1 : a + q < s.length
    · rw [if_pos (by omega), if_pos (by omega), if_pos (by omega), rd_nat, rd_nat]
      by_cases h2 : ch s (a + q) = ch p q
      · rw [if_pos h2, if_pos ⟨by omega, h2.symm⟩, ih (q + 1) (by omega) (by omega), show q + 1 + cml p (s.drop a) (q + 1) = q + (cml p (s.drop a) (q + 1) + 1) by omega]
      · rw [if_neg h2, if_neg (fun h => h2 h.2.symm), Nat.add_zero]
    · rw [if_neg (by omega), if_neg (fun h => h1 (by omega)), Nat.add_zero]
theorem common_f (hs : s.length ≤ 16777216) (hp : p.length ≤ 16777216) {a : Nat} (ha : a ≤ s.length) {k : Nat} (hk : p.length + 1 ≤ k) : sapperref14_common.f k s p (a : Int) = some (cml p (s.drop a) 0 : Int) := by
  unfold sapperref14_common.f
  have := common_l0 hs hp ha p.length 0 (by omega) (by omega) (k - p.length - 1)
  rw [show k - p.length - 1 + p.length + 1 = k by omega, show ((0 : Nat) : Int) = 0 from rfl, Nat.zero_add] at this
  exact this
theorem common_com (hs : s.length ≤ 16777216) {i a : Nat} (ha : a ≤ s.length) {k : Nat} (hk : s.length + 1 ≤ k) : sapperref14_common.f k s (s.drop i) (a : Int) = some (com s.length (ch s) a i : Int) := by
  rw [common_f hs (by rw [List.length_drop]; omega) ha (by rw [List.length_drop]; omega), cml_com _ 0 rfl, com_comm]; rfl
theorem dist_l1 (hs : s.length ≤ 16777216) {i : Nat} (hi : i < s.length) {v : Nat} (hv : v + s.length ≤ 1000000000000000) (d : Nat) : ∀ q, i - q = d → q ≤ i → ∀ k, s.length + 1 ≤ k → sapperref14_Distinct.l1 (k + d + 1) s (v : Int) (i : Int) (mst s.length (ch s) i (downs q) : Int) (q : Int) = sapperref14_Distinct.l0 k s ((v + (s.length - i - mst s.length (ch s) i (downs i)) : Nat) : Int) ((i + 1 : Nat) : Int) := by
  induction d with
  | zero =>
    intro q hd hq k hk
    have : q = i := by omega
    subst this
    have hf := mst_fit (n := s.length) (c := ch s) q (downs q)
    rw [show k + 0 + 1 = k + 1 by omega, sapperref14_Distinct.l1, if_neg (by omega), wp (x := (s.length : Int) - (q : Int)) (y := ((s.length - q : Nat) : Int)) (by omega) (by omega) (by omega),
      wp (x := ((s.length - q : Nat) : Int) - (mst s.length (ch s) q (downs q) : Int)) (y := ((s.length - q - mst s.length (ch s) q (downs q) : Nat) : Int)) (by omega) (by omega) (by omega),
      wp (x := (v : Int) + ((s.length - q - mst s.length (ch s) q (downs q) : Nat) : Int)) (y := ((v + (s.length - q - mst s.length (ch s) q (downs q)) : Nat) : Int)) (by omega) (by omega) (by omega),
      wp (x := (q : Int) + 1) (y := ((q + 1 : Nat) : Int)) (by omega) (by omega) (by omega)]
  | succ d ih =>
    intro q hd hq k hk
    have next := ih (q + 1) (by omega) (by omega) k hk
    have e : mst s.length (ch s) i (downs (q + 1)) = max (mst s.length (ch s) i (downs q)) (com s.length (ch s) q i) := rfl
    rw [show k + (d + 1) + 1 = k + d + 1 + 1 by omega, sapperref14_Distinct.l1, if_pos (by omega), if_pos (by omega), if_pos (by omega), Int.toNat_natCast, common_com hs (by omega) (by omega), Option.bind_some, wp (x := (q : Int) + 1) (y := ((q + 1 : Nat) : Int)) (by omega) (by omega) (by omega)]
    by_cases h : mst s.length (ch s) i (downs q) < com s.length (ch s) q i
    · rw [if_pos (by omega), ← next, e, Nat.max_eq_right (by omega)]
    · rw [if_neg (by omega), ← next, e, Nat.max_eq_left (by omega)]
theorem dist_l0 (hs : s.length ≤ 16777216) (d : Nat) : ∀ i, s.length - i = d → i ≤ s.length → ∃ K, ∀ k, K ≤ k → sapperref14_Distinct.l0 k s (byPlace s i : Int) (i : Int) = some (byPlace s s.length : Int) := by
  induction d with
  | zero =>
    intro i hd hi
    have : i = s.length := by omega
    subst this
    refine ⟨1, fun k hk => ?_⟩
    obtain ⟨k, rfl⟩ : ∃ k', k = k' + 1 := ⟨k - 1, by omega⟩
    rw [sapperref14_Distinct.l0, if_neg (by omega)]
  | succ d ih =>
    intro i hd hi
    obtain ⟨K, hK⟩ := ih (i + 1) (by omega) (by omega)
    have hb := byPlace_sum (s := s) i hi
    have hm : i * s.length ≤ 16777216 * 16777216 := Nat.mul_le_mul (by omega) hs
    refine ⟨K + 2 * s.length + 10, fun k hk => ?_⟩
    obtain ⟨k, rfl⟩ : ∃ k', k = k' + i + 1 + 1 := ⟨k - i - 2, by omega⟩
    rw [sapperref14_Distinct.l0, if_pos (by omega)]
    have := dist_l1 hs (show i < s.length by omega) (v := byPlace s i) (by omega) i 0 (by omega) (by omega) k (by omega)
    rw [show ((0 : Nat) : Int) = 0 from rfl, show (mst s.length (ch s) i (downs 0) : Int) = 0 from rfl] at this
    rw [this]
    exact hK k (by omega)
end
theorem FindDistinct : sapperlaw14_FindDistinct.Pure := by
  intro s _ _ hw
  obtain ⟨K1, h1⟩ := awake_f
  by_cases hs : s.length ≤ 16777216
  case neg =>
    refine ⟨K1 + 1, ?_⟩
    unfold sapperlaw14_FindDistinct.f
    rw [index_many (by omega), Option.bind_some, if_pos rfl, sapperlaw14_FindDistinct.j0, if_pos (by rfl), if_pos rfl, h1 _ (by omega)]; rfl
  obtain ⟨K2, x, h2, hx⟩ := index_ok hs (byt_wf hw)
  obtain ⟨K3, h3⟩ := dist_l0 hs s.length 0 (by omega) (by omega)
  have e : sapperref14_Distinct.f (K1 + K2 + K3 + 2 * s.length + 10) s = some (base s x.f2 s.length : Int) := by
    unfold sapperref14_Distinct.f
    have := h3 (K1 + K2 + K3 + 2 * s.length + 10) (by omega)
    rw [byPlace_all hx.2.2.1] at this
    exact this
  refine ⟨K1 + K2 + K3 + 2 * s.length + 10 + 1, ?_⟩
  unfold sapperlaw14_FindDistinct.f
  rw [h2 _ (by omega), Option.bind_some, if_pos rfl, sapperlaw14_FindDistinct.j0, if_neg (by simp), Distinct_f hs hx (by omega), Option.bind_some, if_pos rfl, e, Option.bind_some, if_pos rfl, h1 _ (by omega)]; rfl
end Go.Proofs.Ytphchkkicpnehaa.Pure
