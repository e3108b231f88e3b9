/- The law FindMatches holds of any bytes, any text, any bounds: the matches in the document's order, the first so many; refused where the bounds are out of reach; the answer is one's own. No condition. -/
import Derived.Test.YtphchkkicpnehaaSCFindMatches
import Derived.Test.YtphchkkicpnehaaXST
import Derived.Test.YtphchkkicpnehaaXx52
namespace Go.Proofs.Ytphchkkicpnehaa.Pure
open Go.RowKit Go.Proofs.Ytphchkkicpnehaa Go.Proofs.Ytphchkkicpnehaa.X Go.Proofs.Ytphchkkicpnehaa.SD Go.Proofs.Ytphchkkicpnehaa.SM Go.Proofs.YtphchkkicpnehaaW.PrintWords Go.Proofs.YtphchkkicpnehaaW.PrintLast

theorem rdA {a : List S51} {i : Nat} {v : S51} (h : a[i]? = some v) : rd_T51 a (i : Int) = v := by
  unfold rd_T51
  rw [Int.toNat_natCast, List.getD_eq_getElem?_getD, h]; rfl
theorem rdB {a : List S52} {i : Nat} {v : S52} (h : a[i]? = some v) : rd_T52 a (i : Int) = v := by
  unfold rd_T52
  rw [Int.toNat_natCast, List.getD_eq_getElem?_getD, h]; rfl
section
variable (L : List (Nat × Nat × Nat)) (hL : L.length ≤ 16777216)
include hL
theorem mat_l0 (b : List S51) (d : Nat) : ∀ (a : List S51) (i : Nat), a.length = L.length → (∀ j, i ≤ j → a[j]? = (L.map mkM)[j]?) → L.length - i = d → i ≤ L.length →
    ∃ a' : List S51, a'.length = L.length ∧ ∀ k, sapperlaw14_FindMatches.l0 (k + d + 1) a b (L.map mkN) (i : Int) = sapperlaw14_FindMatches.l1 k a' b (L.map mkN) 0 := by
  induction d with
  | zero =>
    intro a i ha _ hd hi
    exact ⟨a, ha, fun k => by rw [show k + 0 + 1 = k + 1 by omega, sapperlaw14_FindMatches.l0, if_neg (by rw [List.length_map]; omega)]⟩
  | succ d ih =>
    intro a i ha hg hd hi
    obtain ⟨q, hq⟩ : ∃ q, L[i]? = some q := ⟨_, List.getElem?_eq_getElem (show i < L.length by omega)⟩
    have e1 : rd_T51 a (i : Int) = mkM q := rdA (by rw [hg i (Nat.le_refl _), List.getElem?_map, hq]; rfl)
    have e2 : rd_T52 (L.map mkN) (i : Int) = mkN q := rdB (by rw [List.getElem?_map, hq]; rfl)
    obtain ⟨a', e, h⟩ := ih (a.set i (⟨(mkM q).f0, (mkM q).f1, 81⟩ : S51)) (i + 1) (by rw [List.length_set]; exact ha) (fun j hj => by rw [List.getElem?_set_ne (by omega)]; exact hg j (by omega)) (by omega) (by omega)
    refine ⟨a', e, fun k => ?_⟩
    rw [show k + (d + 1) + 1 = k + d + 1 + 1 by omega, sapperlaw14_FindMatches.l0, if_pos (by rw [List.length_map]; omega), if_pos (by omega), if_pos (by omega), e1, e2, if_pos (show (mkM q).f0 = (mkN q).f0 from rfl), if_pos (show (mkM q).f1 = (mkN q).f1 from rfl), if_pos (show (mkM q).f2 = (mkN q).f2 from rfl), Int.toNat_natCast, wp (x := (i : Int) + 1) (y := ((i + 1 : Nat) : Int)) (by omega) (by omega) (by omega)]
    exact h k
omit hL in
theorem mat_l1 (b : List S51) (d : Nat) : ∀ (a : List S51) (i : Nat), 40 - i = d → a.length ≤ 16777216 + i → ∀ k, sapperlaw14_FindMatches.l1 (k + d + 1) a b (L.map mkN) (i : Int) = sapperlaw14_FindMatches.l2 k b (L.map mkN) 0 := by
  induction d with
  | zero =>
    intro a i hd ha k
    rw [show k + 0 + 1 = k + 1 by omega, sapperlaw14_FindMatches.l1, if_neg (by omega)]
  | succ d ih =>
    intro a i hd ha k
    have h := ih (a ++ [(⟨0, 0, 82⟩ : S51)]) (i + 1) (by omega) (by rw [List.length_append, List.length_singleton]; omega)
    rw [show k + (d + 1) + 1 = k + d + 1 + 1 by omega, sapperlaw14_FindMatches.l1, if_pos (by omega), if_pos (by omega), wp (x := (i : Int) + 1) (y := ((i + 1 : Nat) : Int)) (by omega) (by omega) (by omega)]
    exact h k
theorem mat_l2 (d : Nat) : ∀ (i : Nat), L.length - i = d → i ≤ L.length → ∀ k, sapperlaw14_FindMatches.l2 (k + d + 1) (L.map mkM) (L.map mkN) (i : Int) = (sapperlaw14_awake.f k).bind fun t => (some t) := by
  induction d with
  | zero =>
    intro i hd hi k
    rw [show k + 0 + 1 = k + 1 by omega, sapperlaw14_FindMatches.l2, if_neg (by rw [List.length_map]; omega)]
  | succ d ih =>
    intro i hd hi k
    obtain ⟨q, hq⟩ : ∃ q, L[i]? = some q := ⟨_, List.getElem?_eq_getElem (show i < L.length by omega)⟩
    have e1 : rd_T51 (L.map mkM) (i : Int) = mkM q := rdA (by rw [List.getElem?_map, hq]; rfl)
    have e2 : rd_T52 (L.map mkN) (i : Int) = mkN q := rdB (by rw [List.getElem?_map, hq]; rfl)
    have h := ih (i + 1) (by omega) (by omega) k
    rw [show k + (d + 1) + 1 = k + d + 1 + 1 by omega, sapperlaw14_FindMatches.l2, if_pos (by rw [List.length_map]; omega), if_pos (by omega), if_pos (by rw [List.length_map]; omega), e1, e2, if_pos (show (mkM q).f2 = (mkN q).f2 from rfl), wp (x := (i : Int) + 1) (y := ((i + 1 : Nat) : Int)) (by omega) (by omega) (by omega)]
    exact h
end
theorem wf_i64 {x : Int} (h : (Lit.int .i64 x).wf = true) : -9223372036854775808 ≤ x ∧ x ≤ 9223372036854775807 := by
  simp [Lit.wf, IntKind.min, IntKind.max, IntKind.signed, IntKind.bits] at h
  omega
theorem FindMatches : sapperlaw14_FindMatches.Pure := by
  intro s p L M _ _ hw _ hp _ hLw _
  obtain ⟨K1, h1⟩ := awake_f
  by_cases hs : s.length ≤ 16777216
  case neg =>
    refine ⟨K1 + 1, ?_⟩
    unfold sapperlaw14_FindMatches.f
    rw [index_many (by omega), Option.bind_some, if_pos rfl, sapperlaw14_FindMatches.j0, if_pos (by rfl), if_pos rfl, h1 _ (by omega)]; rfl
  obtain ⟨K2, x, h2, hx⟩ := index_ok hs (byt_wf hw)
  have hp' : p.length ≤ 140737488351232 := by omega
  by_cases bad : L < 1 ∨ M < 0 ∨ 16777216 < M
  · refine ⟨K1 + K2 + 10, ?_⟩
    have j1 : sapperlaw14_FindMatches.j1 (K1 + K2 + 9) s p (p ++ [71, 72, 73]) [] 1 [] 1 true L M = some true := by
      rw [show K1 + K2 + 9 = K1 + K2 + 8 + 1 by omega, sapperlaw14_FindMatches.j1, if_pos rfl, if_pos (show ((([] : List S51).length : Nat) : Int) = 0 from rfl), if_pos (show ((([] : List S51).length : Nat) : Int) = 0 from rfl), if_pos rfl, h1 _ (by omega)]; rfl
    unfold sapperlaw14_FindMatches.f
    rw [h2 _ (by omega), Option.bind_some, if_pos rfl, show K1 + K2 + 10 = K1 + K2 + 9 + 1 by omega, sapperlaw14_FindMatches.j0, if_neg (by simp), lend14_f (by omega), Option.bind_some, if_pos (by omega), if_pos (by rw [List.length_append]; omega), take_room, Matches_bad hx bad (by omega), Option.bind_some, Option.bind_some]
    dsimp only
    by_cases c1 : L < 1
    · rw [if_pos c1]; exact j1
    · by_cases c2 : M < 0
      · rw [if_neg c1, if_pos c2]; exact j1
      · rw [if_neg c1, if_neg c2, decide_eq_true (by omega : M > 16777216)]; exact j1
  · have hLb := wf_i64 hLw
    obtain ⟨L', rfl⟩ : ∃ n : Nat, L = (n : Int) := ⟨L.toNat, by omega⟩
    obtain ⟨M', rfl⟩ : ∃ n : Nat, M = (n : Int) := ⟨M.toNat, by omega⟩
    obtain ⟨K3, h3⟩ := Matches_ok hs hx hp' (L := L') (M := M') (by omega) (by omega) (by omega)
    obtain ⟨K4, h4⟩ := refMatches_ok hs hp' (L := L') (M := M') (by omega) (by omega)
    have hl : ((allM s p L' p.length).take M').length ≤ 16777216 := by rw [List.length_take]; omega
    generalize (allM s p L' p.length).take M' = Q at *
    obtain ⟨a', e, g0⟩ := mat_l0 Q hl (Q.map mkM) Q.length (Q.map mkM) 0 (by rw [List.length_map]) (fun _ _ => rfl) (by omega) (by omega)
    have g1 := mat_l1 Q (Q.map mkM) 40 a' 0 (by omega) (by omega)
    have g2 := mat_l2 Q hl Q.length 0 (by omega) (by omega)
    rw [show ((0 : Nat) : Int) = 0 from rfl] at g0 g1 g2
    refine ⟨(K1 + K2 + K3 + K4 + 10) + Q.length + 1 + 40 + 1 + Q.length + 1 + 1 + 1 + 1, ?_⟩
    unfold sapperlaw14_FindMatches.f
    rw [h2 _ (by omega), Option.bind_some, if_pos rfl, sapperlaw14_FindMatches.j0, if_neg (by simp), lend14_f (by omega), Option.bind_some, if_pos (by omega), if_pos (by rw [List.length_append]; omega), take_room, h3 _ (by omega), Option.bind_some, Option.bind_some]
    dsimp only
    rw [if_neg (by omega), if_neg (by omega), decide_eq_false (by omega : ¬ (M' : Int) > 16777216), sapperlaw14_FindMatches.j1, if_neg (by decide), h4 _ (by omega), Option.bind_some, if_pos rfl, if_pos rfl, if_pos (by rw [List.length_map, List.length_map]), if_pos (by rw [List.length_map, List.length_map]), kept14_f (by omega), Option.bind_some, sapperlaw14_FindMatches.j2, if_neg (by decide), g0, g1, g2, h1 _ (by omega)]; rfl
end Go.Proofs.Ytphchkkicpnehaa.Pure
