/- The law ScanSteps holds of any two images: the program's steps are just those that the document finds, and they are one's own. No condition. -/
import Derived.Test.YtobknpeglagaaaaSCScanSteps
import Derived.Test.YtobknpeglagaaaaXx52
namespace Go.Proofs.Ytobknpeglagaaaa.Pure
open Go.RowKit Go.Proofs.Ytobknpeglagaaaa Go.Proofs.Ytobknpeglagaaaa.X Go.Proofs.Ytobknpeglagaaaa.SD Go.Proofs.Ytobknpeglagaaaa.SM Go.Proofs.YtobknpeglagaaaaW.PrintWords Go.Proofs.YtobknpeglagaaaaW.PrintLast

theorem lives15T : ∃ K, ∀ k, K ≤ k → sapperlaw15_lives.f k = some true := by
  have h : sapperlaw15_lives.f 400 = some true := by decide +kernel
  exact ⟨400, fun k hk => at_rounds (g := fun k => sapperlaw15_lives.f k) (fun k => sapperlaw15_lives.mono k) hk h⟩
theorem Lend_f {l : List Int} (h : l.length ≤ 140737488351232) : sapperref01_Lend.f l = some (l ++ [171, 172, 173, 174, 175]) := by
  unfold sapperref01_Lend.f
  rw [Option.bind_some, if_pos (by simp; omega), Option.bind_some, Option.bind_some, if_pos (by simp; omega), Option.bind_some, if_pos (by omega), if_pos (by simp; omega), List.nil_append]
theorem Kept_f {l : List Int} (h : l.length ≤ 140737488351232) : sapperref01_Kept.f (l ++ [171, 172, 173, 174, 175]) l = some true := by
  unfold sapperref01_Kept.f
  rw [Lend_f h, Option.bind_some, if_pos (by omega), if_pos (by simp; omega)]
  unfold sapperref01_Same.f
  rw [Option.bind_some, beq_self_eq_true]
theorem index_big {o : List Int} (h : ¬ o.length ≤ 16777216) (k : Nat) : sapperlaw15_index.f k o = some [] := by
  unfold sapperlaw15_index.f suffix_New.f suffix_sorted.f
  rw [if_pos (by omega), Option.bind_some, if_neg (by decide), Option.bind_some, if_neg (by decide)]
theorem rd_toR (l : List S39) (i : Int) : rd_T38 (l.map toR) i = toR (rd_T39 l i) := by
  unfold rd_T38 rd_T39
  rw [List.getD_eq_getElem?_getD, List.getD_eq_getElem?_getD, List.getElem?_map]
  cases l[i.toNat]? <;> rfl
section
variable {l : List S39} (hl : l.length ≤ 16777217) {K : Nat} (hK : ∀ k, K ≤ k → sapperlaw15_lives.f k = some true)
include hl hK
theorem steps_l1 {y : List S39} (hy : y.length = l.length + 2) (d : Nat) : ∀ i, l.length - i = d → i ≤ l.length → ∀ k, K + d < k → sapperlaw15_ScanSteps.l1 k y l (l.map toR) (l.length : Int) (i : Int) = some true := by
  induction d with
  | zero =>
    intro i hd hi k hk
    obtain ⟨k, rfl⟩ : ∃ k', k = k' + 1 := ⟨k - 1, by omega⟩
    rw [sapperlaw15_ScanSteps.l1, if_neg (by omega), List.length_map, wp (x := (l.length : Int) + 2) (y := (l.length : Int) + 2) rfl (by omega) (by omega), if_pos (by omega), hK k (by omega)]
    rfl
  | succ d ih =>
    intro i hd hi k hk
    obtain ⟨k, rfl⟩ : ∃ k', k = k' + 1 := ⟨k - 1, by omega⟩
    have next := ih (i + 1) (by omega) (by omega) k (by omega)
    rw [sapperlaw15_ScanSteps.l1, if_pos (by omega), if_pos (by omega), List.length_map, if_pos (by omega), if_pos (by omega), rd_toR, if_pos (show (rd_T39 l (i : Int)).f0 = (toR (rd_T39 l (i : Int))).f0 from rfl), wp (x := (i : Int) + 1) (y := ((i + 1 : Nat) : Int)) (by omega) (by omega) (by omega)]
    exact next
theorem steps_l0 (d : Nat) : ∀ (y : List S39) i, y.length = l.length → (∀ j, i ≤ j → y.getD j z39 = l.getD j z39) → l.length - i = d → i ≤ l.length → ∀ k, K + l.length + d + 1 < k → sapperlaw15_ScanSteps.l0 k y l (l.map toR) (l.length : Int) (i : Int) = some true := by
  induction d with
  | zero =>
    intro y i hy hr hd hi k hk
    obtain ⟨k, rfl⟩ : ∃ k', k = k' + 1 := ⟨k - 1, by omega⟩
    rw [sapperlaw15_ScanSteps.l0, if_neg (by omega), Option.bind_some, if_pos (by simp only [List.length_cons, List.length_nil]; omega), List.length_map]
    exact steps_l1 hl hK (y := y ++ _) (by rw [List.length_append, hy]; rfl) l.length 0 (by omega) (by omega) k (by omega)
  | succ d ih =>
    intro y i hy hr hd hi k hk
    obtain ⟨k, rfl⟩ : ∃ k', k = k' + 1 := ⟨k - 1, by omega⟩
    have e : rd_T39 y (i : Int) = rd_T39 l (i : Int) := by
      unfold rd_T39
      rw [Int.toNat_natCast]
      exact hr i (Nat.le_refl _)
    have next := ih (y.set i ⟨-1, (rd_T39 l (i : Int)).f1, (rd_T39 l (i : Int)).f2⟩) (i + 1) (by rw [List.length_set, hy]) (fun j hj => by rw [List.getD_eq_getElem?_getD, List.getElem?_set_ne (by omega), ← List.getD_eq_getElem?_getD]; exact hr j (by omega)) (by omega) (by omega) k (by omega)
    rw [sapperlaw15_ScanSteps.l0, if_pos (by omega), if_pos (by omega), List.length_map, if_pos (by omega), if_pos (by omega), e, rd_toR, if_neg (by simp [toR]), Int.toNat_natCast, wp (x := (i : Int) + 1) (y := ((i + 1 : Nat) : Int)) (by omega) (by omega) (by omega)]
    exact next
end
theorem ScanSteps : sapperlaw15_ScanSteps.Pure := by
  intro o n _ ho hwo _ hn hwn
  have hn1 : n.length ≤ 140737488351232 := by omega
  obtain ⟨K1, h1⟩ := lives15T
  by_cases hol : o.length ≤ 16777216
  case neg =>
    refine ⟨1, ?_⟩
    unfold sapperlaw15_ScanSteps.f
    rw [index_big hol, Option.bind_some, if_pos (show (([] : List S48).length : Int) = 0 from rfl), decide_eq_true (by omega)]
  obtain ⟨K2, x, h2, hx⟩ := index_ok hol (byt_wf hwo)
  have both : ∃ K l, ∃ e : Int, l.length ≤ 16777217 ∧ ∀ k, K ≤ k → scan_Steps.f k [x] n = some (l, e) ∧ sapperref15_Steps.f k o n = some (l.map toR, e) := by
    by_cases hnl : n.length ≤ 16777216
    · obtain ⟨K3, l, h3⟩ := Steps_same hol hnl hx
      obtain ⟨K4, l', h4, _, hl⟩ := Steps_all hol hnl hx
      have e := (h3 (K3 + K4) (by omega)).1
      rw [h4 (K3 + K4) (by omega)] at e
      injection e with e
      injection e with e _
      subst e
      exact ⟨K3, _, 0, by omega, h3⟩
    · obtain ⟨K3, h3⟩ := Range_ok hol hx []
      refine ⟨K3, [], 150, by decide, fun k hk => ⟨?_, ?_⟩⟩
      · unfold scan_Steps.f
        rw [h3 k hk, Option.bind_some]
        dsimp only
        rw [if_pos rfl, if_pos (by omega)]
      · unfold sapperref15_Steps.f
        rw [if_pos (by omega)]; rfl
  obtain ⟨K3, l, e, hl, h3⟩ := both
  have tk : ∀ (l : List Int), (l ++ [171, 172, 173, 174, 175]).take (((l.length : Int) : Int)).toNat = l := fun l => by rw [Int.toNat_natCast, List.take_left']; rfl
  refine ⟨K1 + K2 + K3 + 2 * l.length + 10, ?_⟩
  obtain ⟨g1, g2⟩ := h3 (K1 + K2 + K3 + 2 * l.length + 10) (by omega)
  unfold sapperlaw15_ScanSteps.f
  rw [h2 _ (by omega), Option.bind_some, if_neg (by simp), Lend_f hn1, Option.bind_some, if_pos (by omega), if_pos (by rw [List.length_append]; omega), tk, Option.bind_some, g1, Option.bind_some, Option.bind_some, g2, Option.bind_some]
  dsimp only
  rw [if_pos rfl, List.length_map, if_pos rfl, if_pos rfl, Kept_f hn1, Option.bind_some, if_pos rfl, Data_f hol hx, Option.bind_some]
  unfold sapperref01_Same.f
  rw [Option.bind_some, beq_self_eq_true, show K1 + K2 + K3 + 2 * l.length + 10 = K1 + K2 + K3 + 2 * l.length + 9 + 1 by omega, sapperlaw15_ScanSteps.j0, if_neg (by decide), List.length_map]
  exact steps_l0 hl h1 l.length l 0 rfl (fun _ _ => rfl) (by omega) (by omega) _ (by omega)
end Go.Proofs.Ytobknpeglagaaaa.Pure
