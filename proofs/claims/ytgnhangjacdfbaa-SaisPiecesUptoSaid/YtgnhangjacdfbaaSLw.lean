/- The laws' own functions words of layer 12. -/
import Derived.Test.YtgnhangjacdfbaaSL0
import Derived.Test.YtgnhangjacdfbaaXx24
namespace Go.Proofs.Ytgnhangjacdfbaa.SD
open Go.RowKit Go.Proofs.Ytgnhangjacdfbaa Go.Proofs.Ytgnhangjacdfbaa.X Go.Proofs.Ytgnhangjacdfbaa.SM Go.Proofs.YtgnhangjacdfbaaW.PrintWords Go.Proofs.YtgnhangjacdfbaaW.PrintLast

theorem ch_mem {l : List Int} {q : Nat} (h : q < l.length) : ch l q ∈ l := by
  unfold ch; rw [List.getD_eq_getElem?_getD, List.getElem?_eq_getElem h]; exact List.getElem_mem h
theorem byte_wf {x : Int} (h : (Lit.int .u8 x).wf = true) : 0 ≤ x ∧ x < 256 := by
  simp [Lit.wf, IntKind.min, IntKind.max, IntKind.signed, IntKind.bits] at h
  omega
theorem bytes_wf {l : List Int} (h : ∀ x ∈ l, (Lit.int .u8 x).wf = true) : ∀ q, q < l.length → 0 ≤ ch l q ∧ ch l q < 256 := fun _ hq => byte_wf (h _ (ch_mem hq))

theorem words_loop (l : List Int) (hl : l.length ≤ 35184372088832) (hb : ∀ q, q < l.length → 0 ≤ ch l q ∧ ch l q < 256) (d : Nat) : ∀ q (K : Int) (o : List Int), l.length - q = d → q ≤ l.length → o.length = l.length → (∀ j, j < q → ch o j = ch l j) → 0 ≤ K → K ≤ 256 → (∀ j, j < q → ch l j < K) →
    ∃ K', 0 ≤ K' ∧ K' ≤ 256 ∧ (∀ j, j < l.length → ch l j < K') ∧ ∀ k, sapperlaw12_words.l0 (k + d + 1) l K (q : Int) o = some (K', l) := by
  induction d with
  | zero =>
    intro q K o hd hq h1 h2 h3 h4 h5
    obtain rfl : q = l.length := by omega
    refine ⟨K, h3, h4, h5, fun k => ?_⟩
    have : o = l := by
      apply List.ext_getElem?
      intro q
      rcases Nat.lt_or_ge q l.length with hq | hq
      · have h6 := h2 q hq
        have e1 : o[q]? = some o[q] := List.getElem?_eq_getElem (by omega)
        have e2 : l[q]? = some l[q] := List.getElem?_eq_getElem (by omega)
        unfold ch at h6
        rw [List.getD_eq_getElem?_getD, List.getD_eq_getElem?_getD] at h6
        rw [e1] at h6 ⊢; rw [e2] at h6 ⊢
        simp only [Option.getD_some] at h6
        rw [h6]
      · rw [List.getElem?_eq_none (by omega), List.getElem?_eq_none (by omega)]
    rw [sapperlaw12_words.l0, if_neg (by omega), this]
  | succ d ih =>
    intro q K o hd hq h1 h2 h3 h4 h5
    have hbq := hb q (by omega)
    obtain ⟨v, hv⟩ : ∃ v, ch l q = v := ⟨_, rfl⟩
    rw [hv] at hbq
    have hmx : mx K (v + 1) = if K < v + 1 then v + 1 else K := rfl
    obtain ⟨K', g1, g2, g3, g4⟩ := ih (q + 1) (mx K (v + 1)) (o.set q v) (by omega) (by omega) (by rw [List.length_set]; exact h1)
      (fun j hj => by
        rw [ch_set _ _ _ _ (by omega)]
        by_cases e : q = j
        · rw [if_pos e, ← e, hv]
        · rw [if_neg e]; exact h2 j (by omega))
      (by rw [hmx]; split <;> omega) (by rw [hmx]; split <;> omega)
      (fun j hj => by
        by_cases e : j = q
        · subst e; rw [hv, hmx]; split <;> omega
        · have := h5 j (by omega); rw [hmx]; split <;> omega)
    refine ⟨K', g1, g2, g3, fun k => ?_⟩
    rw [show k + (d + 1) + 1 = k + d + 1 + 1 by omega, sapperlaw12_words.l0, if_pos (by omega), if_pos (by omega), if_pos (by omega), rd_nat, hv, w64 (x := v) (by omega) (by omega), Option.bind_some, Int.toNat_natCast, rd_nat, ch_set _ _ _ _ (by omega), if_pos rfl, w64 (x := v + 1) (by omega) (by omega), wp (x := (q : Int) + 1) (y := ((q + 1 : Nat) : Int)) (by omega) (by omega) (by omega)]
    exact g4 k
theorem words_f (l : List Int) (hl : l.length ≤ 35184372088832) (hb : ∀ q, q < l.length → 0 ≤ ch l q ∧ ch l q < 256) : ∃ K, (∀ k, l.length + 1 ≤ k → sapperlaw12_words.f k l = some (K, l)) ∧ 0 ≤ K ∧ K ≤ 256 ∧ ∀ q, q < l.length → 0 ≤ ch l q ∧ ch l q < K := by
  obtain ⟨K, g1, g2, g3, g4⟩ := words_loop l hl hb l.length 0 0 (List.replicate l.length 0) (by omega) (by omega) (by simp) (fun j hj => by omega) (by omega) (by omega) (fun j hj => by omega)
  refine ⟨K, fun k hk => ?_, g1, g2, fun q hq => ⟨(hb q hq).1, g3 q hq⟩⟩
  unfold sapperlaw12_words.f
  rw [if_pos (by omega), if_pos (by omega), Int.toNat_natCast]
  have := g4 (k - l.length - 1)
  rw [show k - l.length - 1 + l.length + 1 = k by omega, show ((0 : Nat) : Int) = 0 from rfl] at this; exact this
end Go.Proofs.Ytgnhangjacdfbaa.SD
