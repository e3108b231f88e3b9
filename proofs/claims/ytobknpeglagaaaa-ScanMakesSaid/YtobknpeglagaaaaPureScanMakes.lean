/- The law ScanMakes holds of any two images: the steps are an edit's to the new one: what they add to lies in the old one, and they make as many bytes as the new one has. No condition. -/
import Derived.Test.YtobknpeglagaaaaSCScanMakes
import Derived.Test.YtobknpeglagaaaaXx40
namespace Go.Proofs.Ytobknpeglagaaaa.Pure
open Go.RowKit Go.Proofs.Ytobknpeglagaaaa Go.Proofs.Ytobknpeglagaaaa.X Go.Proofs.Ytobknpeglagaaaa.SD Go.Proofs.Ytobknpeglagaaaa.SM Go.Proofs.YtobknpeglagaaaaW.PrintWords Go.Proofs.YtobknpeglagaaaaW.PrintLast

theorem lives15M : ∃ K, ∀ k, K ≤ k → sapperlaw15_lives.f k = some true := by
  have h : sapperlaw15_lives.f 400 = some true := by decide +kernel
  exact ⟨400, fun k hk => at_rounds (g := fun k => sapperlaw15_lives.f k) (fun k => sapperlaw15_lives.mono k) hk h⟩
theorem makes_l0 {o n : List Int} (ho : o.length ≤ 16777216) (hn : n.length ≤ 16777216) {K : Nat} (hK : ∀ k, K ≤ k → sapperlaw15_lives.f k = some true) (l : List S39) (hl : l.length ≤ 9223372036854775800) (p' : Int) : ∀ (rest : List S39) (i : Nat) (m p : Int), l.drop i = rest → i ≤ l.length → okL (o.length : Int) rest m p (n.length : Int) p' → ∀ k, K + rest.length < k → sapperlaw15_ScanMakes.l0 k o n l m p (l.length : Int) (i : Int) = some true
  | [], i, m, p, hr, hi, h, k, hk => by
    obtain ⟨k, rfl⟩ : ∃ k', k = k' + 1 := ⟨k - 1, by omega⟩
    have : l.length ≤ i := by
      have := congrArg List.length hr
      rw [List.length_drop, List.length_nil] at this
      omega
    rw [sapperlaw15_ScanMakes.l0, if_neg (by omega), if_pos h.1, hK k (by rw [List.length_nil] at hk; omega)]
    rfl
  | s :: rest, i, m, p, hr, hi, h, k, hk => by
    obtain ⟨k, rfl⟩ : ∃ k', k = k' + 1 := ⟨k - 1, by omega⟩
    have hlt : i < l.length := by
      have := congrArg List.length hr
      rw [List.length_drop, List.length_cons] at this
      omega
    have hs : rd_T39 l (i : Int) = s := by
      unfold rd_T39
      rw [Int.toNat_natCast, List.getD_eq_getElem?_getD, List.getElem?_eq_getElem hlt]
      have e := List.drop_eq_getElem_cons hlt
      rw [hr] at e
      injection e with e _
      rw [← e]; rfl
    have hr' : l.drop (i + 1) = rest := by
      have e := List.drop_eq_getElem_cons hlt
      rw [hr] at e
      injection e with _ e
      exact e.symm
    obtain ⟨⟨a1, a2, a3, a4, a5, a6, a7, a8, a9⟩, h⟩ := h
    have next := makes_l0 ho hn hK l hl p' rest (i + 1) _ _ hr' (by omega) h k (by rw [List.length_cons] at hk; omega)
    rw [sapperlaw15_ScanMakes.l0, if_pos (by omega), if_pos (by omega), if_pos (by omega), hs, if_neg (by omega), if_neg (by omega), wp (x := s.f0 + s.f1) (y := s.f0 + s.f1) rfl (by omega) (by omega), wp (x := m + (s.f0 + s.f1)) (y := m + s.f0 + s.f1) (by omega) (by omega) (by omega), wp (x := (i : Int) + 1) (y := ((i + 1 : Nat) : Int)) (by omega) (by omega) (by omega)]
    by_cases c : s.f0 > 0
    · obtain ⟨b1, b2⟩ := a3 c
      rw [if_pos c, if_neg (by omega), wp (x := p + s.f0) (y := p + s.f0) rfl (by omega) (by omega), if_neg (by omega), wp (x := s.f0 + s.f2) (y := s.f0 + s.f2) rfl (by omega) (by omega), wp (x := p + (s.f0 + s.f2)) (y := p + s.f0 + s.f2) (by omega) (by omega) (by omega)]
      exact next
    · rw [if_neg c, wp (x := s.f0 + s.f2) (y := s.f0 + s.f2) rfl (by omega) (by omega), wp (x := p + (s.f0 + s.f2)) (y := p + s.f0 + s.f2) (by omega) (by omega) (by omega)]
      exact next
theorem ScanMakes : sapperlaw15_ScanMakes.Pure := by
  intro o n _ _ hwo _ hn hwn
  obtain ⟨K1, h1⟩ := lives15M
  by_cases hol : o.length ≤ 16777216
  case neg =>
    refine ⟨K1 + 1, ?_⟩
    unfold sapperlaw15_ScanMakes.f
    rw [if_pos (by omega), sapperlaw15_ScanMakes.j0, if_pos rfl, h1 _ (Nat.le_refl _)]; rfl
  by_cases hnl : n.length ≤ 16777216
  case neg =>
    refine ⟨K1 + 1, ?_⟩
    unfold sapperlaw15_ScanMakes.f
    rw [if_neg (by omega), decide_eq_true (by omega), sapperlaw15_ScanMakes.j0, if_pos rfl, h1 _ (Nat.le_refl _)]; rfl
  obtain ⟨K2, x, h2, hx⟩ := index_ok hol (byt_wf hwo)
  obtain ⟨K3, l, h3, ⟨p', hp⟩, hl⟩ := Steps_all hol hnl hx
  refine ⟨K1 + K2 + K3 + l.length + 3, ?_⟩
  unfold sapperlaw15_ScanMakes.f
  rw [if_neg (by omega), decide_eq_false (by omega), sapperlaw15_ScanMakes.j0, if_neg (by decide), h2 _ (by omega), Option.bind_some, h3 _ (by omega), Option.bind_some, if_neg (by simp)]
  rw [sapperlaw15_ScanMakes.j1, if_neg (by simp)]
  exact makes_l0 hol hnl h1 l (by omega) p' l 0 0 0 (by simp) (Nat.zero_le _) hp _ (by omega)
end Go.Proofs.Ytobknpeglagaaaa.Pure
