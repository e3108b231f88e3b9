/- The law FindFactors holds of any bytes and any text, each of at most 1048576 bytes: the row of longest parts, as the document tells; the answer is one's own. -/
import Derived.Test.YtphchkkicpnehaaSCFindFactors
import Derived.Test.YtphchkkicpnehaaXx54
namespace Go.Proofs.Ytphchkkicpnehaa.Pure
open Go.RowKit Go.Proofs.Ytphchkkicpnehaa Go.Proofs.Ytphchkkicpnehaa.X Go.Proofs.Ytphchkkicpnehaa.SD Go.Proofs.Ytphchkkicpnehaa.SM Go.Proofs.YtphchkkicpnehaaW.PrintWords Go.Proofs.YtphchkkicpnehaaW.PrintLast

theorem rdA {a : List S51} {i : Nat} {v : S51} (h : a[i]? = some v) : rd_T51 a (i : Int) = v := by
  unfold rd_T51
  rw [Int.toNat_natCast, List.getD_eq_getElem?_getD, h]; rfl
theorem rdB {a : List S52} {i : Nat} {v : S52} (h : a[i]? = some v) : rd_T52 a (i : Int) = v := by
  unfold rd_T52
  rw [Int.toNat_natCast, List.getD_eq_getElem?_getD, h]; rfl
section
variable (L : List (Nat × Nat × Nat)) (hL : L.length ≤ 2000000)
include hL
theorem fac_l0 (b : List S51) (d : Nat) : ∀ (a : List S51) (i : Nat), a.length = L.length → (∀ j, i ≤ j → a[j]? = (L.map mkA)[j]?) → L.length - i = d → i ≤ L.length →
    ∃ a' : List S51, a'.length = L.length ∧ ∀ k, sapperlaw14_FindFactors.l0 (k + d + 1) a b (L.map mkB) (i : Int) = sapperlaw14_FindFactors.l1 k a' b (L.map mkB) 0 := by
  induction d with
  | zero =>
    intro a i ha _ hd hi
    exact ⟨a, ha, fun k => by rw [show k + 0 + 1 = k + 1 by omega, sapperlaw14_FindFactors.l0, if_neg (by rw [List.length_map]; omega)]⟩
  | succ d ih =>
    intro a i ha hg hd hi
    obtain ⟨q, hq⟩ : ∃ q, L[i]? = some q := ⟨_, List.getElem?_eq_getElem (show i < L.length by omega)⟩
    have e1 : rd_T51 a (i : Int) = mkA q := rdA (by rw [hg i (Nat.le_refl _), List.getElem?_map, hq]; rfl)
    have e2 : rd_T52 (L.map mkB) (i : Int) = mkB q := rdB (by rw [List.getElem?_map, hq]; rfl)
    obtain ⟨a', e, h⟩ := ih (a.set i (⟨(mkA q).f0, 81, (mkA q).f2⟩ : S51)) (i + 1) (by rw [List.length_set]; exact ha) (fun j hj => by rw [List.getElem?_set_ne (by omega)]; exact hg j (by omega)) (by omega) (by omega)
    refine ⟨a', e, fun k => ?_⟩
    rw [show k + (d + 1) + 1 = k + d + 1 + 1 by omega, sapperlaw14_FindFactors.l0, if_pos (by rw [List.length_map]; omega), if_pos (by omega), if_pos (by omega), e1, e2, if_pos (show (mkA q).f0 = (mkB q).f0 from rfl), if_pos (show (mkA q).f1 = (mkB q).f1 from rfl), if_pos (show (mkA q).f2 = (mkB q).f2 from rfl), Int.toNat_natCast, wp (x := (i : Int) + 1) (y := ((i + 1 : Nat) : Int)) (by omega) (by omega) (by omega)]
    exact h k
omit hL in
theorem fac_l1 (b : List S51) (d : Nat) : ∀ (a : List S51) (i : Nat), 40 - i = d → a.length ≤ 2000000 + i → ∀ k, sapperlaw14_FindFactors.l1 (k + d + 1) a b (L.map mkB) (i : Int) = sapperlaw14_FindFactors.l2 k b (L.map mkB) 0 := by
  induction d with
  | zero =>
    intro a i hd ha k
    rw [show k + 0 + 1 = k + 1 by omega, sapperlaw14_FindFactors.l1, if_neg (by omega)]
  | succ d ih =>
    intro a i hd ha k
    have h := ih (a ++ [(⟨0, 82, 0⟩ : S51)]) (i + 1) (by omega) (by rw [List.length_append, List.length_singleton]; omega)
    rw [show k + (d + 1) + 1 = k + d + 1 + 1 by omega, sapperlaw14_FindFactors.l1, if_pos (by omega), if_pos (by omega), wp (x := (i : Int) + 1) (y := ((i + 1 : Nat) : Int)) (by omega) (by omega) (by omega)]
    exact h k
theorem fac_l2 (d : Nat) : ∀ (i : Nat), L.length - i = d → i ≤ L.length → ∀ k, sapperlaw14_FindFactors.l2 (k + d + 1) (L.map mkA) (L.map mkB) (i : Int) = (sapperlaw14_awake.f k).bind fun t => (some t) := by
  induction d with
  | zero =>
    intro i hd hi k
    rw [show k + 0 + 1 = k + 1 by omega, sapperlaw14_FindFactors.l2, if_neg (by rw [List.length_map]; omega)]
  | succ d ih =>
    intro i hd hi k
    obtain ⟨q, hq⟩ : ∃ q, L[i]? = some q := ⟨_, List.getElem?_eq_getElem (show i < L.length by omega)⟩
    have e1 : rd_T51 (L.map mkA) (i : Int) = mkA q := rdA (by rw [List.getElem?_map, hq]; rfl)
    have e2 : rd_T52 (L.map mkB) (i : Int) = mkB q := rdB (by rw [List.getElem?_map, hq]; rfl)
    have h := ih (i + 1) (by omega) (by omega) k
    rw [show k + (d + 1) + 1 = k + d + 1 + 1 by omega, sapperlaw14_FindFactors.l2, if_pos (by rw [List.length_map]; omega), if_pos (by omega), if_pos (by rw [List.length_map]; omega), e1, e2, if_pos (show (mkA q).f1 = (mkB q).f1 from rfl), wp (x := (i : Int) + 1) (y := ((i + 1 : Nat) : Int)) (by omega) (by omega) (by omega)]
    exact h
end
theorem FindFactorsUpto : ∀ (s p : List Int), s.length ≤ maxLen → s.length * 1 ≤ 140737488351232 → (∀ x ∈ s, (Lit.int .u8 x).wf = true) → p.length ≤ maxLen → p.length * 1 ≤ 140737488351232 → (∀ x ∈ p, (Lit.int .u8 x).wf = true) → s.length ≤ 1048576 → p.length ≤ 1048576 → ∃ k, sapperlaw14_FindFactors.f k s p = some true := by
  intro s p _ _ hw _ _ _ hs hp
  obtain ⟨K1, h1⟩ := awake_f
  obtain ⟨K2, x, h2, hx⟩ := index_ok (show s.length ≤ 16777216 by omega) (byt_wf hw)
  have hs' : s.length ≤ 16777216 := by omega
  obtain ⟨K3, h3⟩ := Factors_ok hs' hx hp
  obtain ⟨K4, h4⟩ := refFactors_ok hs' hp
  have hl := parts_len (s := s) (p := p) p.length 0 (Nat.zero_le _)
  generalize parts s p p.length 0 = L at *
  have hL : L.length ≤ 2000000 := by omega
  obtain ⟨a', e, g0⟩ := fac_l0 L hL (L.map mkA) L.length (L.map mkA) 0 (by rw [List.length_map]) (fun _ _ => rfl) (by omega) (by omega)
  have g1 := fac_l1 L (L.map mkA) 40 a' 0 (by omega) (by omega)
  have g2 := fac_l2 L hL L.length 0 (by omega) (by omega)
  rw [show ((0 : Nat) : Int) = 0 from rfl] at g0 g1 g2
  refine ⟨(K1 + K2 + K3 + K4 + 10) + L.length + 1 + 40 + 1 + L.length + 1 + 1 + 1, ?_⟩
  unfold sapperlaw14_FindFactors.f
  rw [h2 _ (by omega), Option.bind_some, if_pos rfl, sapperlaw14_FindFactors.j0, if_neg (by simp), lend14_f (by omega), Option.bind_some, if_pos (by omega), if_pos (by rw [List.length_append]; omega), take_room, h3 _ (by omega), Option.bind_some, Option.bind_some, h4 _ (by omega), Option.bind_some]
  dsimp only
  rw [if_pos rfl, if_pos rfl, if_pos (by rw [List.length_map, List.length_map]), if_pos (by rw [List.length_map, List.length_map]), kept14_f (by omega), Option.bind_some, sapperlaw14_FindFactors.j1, if_neg (by decide), g0, g1, g2, h1 _ (by omega)]; rfl
end Go.Proofs.Ytphchkkicpnehaa.Pure
