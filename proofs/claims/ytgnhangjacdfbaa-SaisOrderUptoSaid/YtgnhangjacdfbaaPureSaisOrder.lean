/- The law SaisOrder, of any bytes, at most 2^20 of them (of more than 2^45 the law's own make ends the call: the law is false there by size): every suffix stands in the array once, each is less than the next one. -/
import Derived.Test.YtgnhangjacdfbaaSLb
import Derived.Test.YtgnhangjacdfbaaXx26
namespace Go.Proofs.Ytgnhangjacdfbaa.Pure
open Go.RowKit Go.Proofs.Ytgnhangjacdfbaa Go.Proofs.Ytgnhangjacdfbaa.X Go.Proofs.Ytgnhangjacdfbaa.SD Go.Proofs.Ytgnhangjacdfbaa.SM Go.Proofs.YtgnhangjacdfbaaW.PrintWords Go.Proofs.YtgnhangjacdfbaaW.PrintLast

section
variable {s : List Int}
attribute [local irreducible] cn cv fr tov rk3 loc2 ch
theorem order_l0 (hn : s.length ≤ 16777216) {l : List Int} (hl : IsSA s l) (d : Nat) : ∀ q (seen : List Bool), s.length - q = d → q ≤ s.length → seen.length = s.length → (∀ i, i < s.length → (seen.getD i false = true ↔ rank s.length (ch s) i < q)) →
    ∀ k, s.length * 2 + 4 ≤ k → sapperlaw12_SaisOrder.l0 (k + d + 1) s l (q : Int) seen = some true := by
  induction d with
  | zero =>
    intro q seen hd hq h1 h2 k hk
    rw [show k + 0 + 1 = k + 1 by omega, sapperlaw12_SaisOrder.l0, if_neg (by rw [hl.1]; omega)]
  | succ d ih =>
    intro q seen hd hq h1 h2 k hk
    obtain ⟨i, hi, hiq⟩ := rank_onto (c := ch s) (show q < s.length by omega)
    have hlq : ch l q = (i : Int) := by rw [← hiq]; exact hl.2 i hi
    have hseen : seen.getD i false = false := by
      cases h : seen.getD i false with
      | false => rfl
      | true => have := (h2 i hi).1 h; omega
    have hnew : ∀ j, j < s.length → ((seen.set i true).getD j false = true ↔ rank s.length (ch s) j < q + 1) := by
      intro j hj
      rw [getD_set _ _ _ _ _ (by omega)]
      by_cases e : i = j
      · subst e; rw [if_pos rfl]; exact ⟨fun _ => by omega, fun _ => rfl⟩
      · rw [if_neg e, h2 j hj]
        have : rank s.length (ch s) i ≠ rank s.length (ch s) j := fun h => e (rank_inj hi hj h)
        omega
    have next := ih (q + 1) (seen.set i true) (by omega) (by omega) (by rw [List.length_set]; exact h1) hnew k hk
    rw [show k + (d + 1) + 1 = k + d + 1 + 1 by omega, sapperlaw12_SaisOrder.l0, if_pos (by rw [hl.1]; omega), if_pos (by omega), rd_nat, hlq, if_neg (by omega), if_neg (by omega), if_pos (by omega), if_pos (by omega), rdB_nat, hseen, if_neg (by simp)]
    by_cases h0 : 0 < q
    · obtain ⟨g, hg, hgq⟩ := rank_onto (c := ch s) (show q - 1 < s.length by omega)
      have hlg : ch l (q - 1) = (g : Int) := by rw [← hgq]; exact hl.2 g hg
      have hlt : slt s.length (ch s) g i = true := (rank_iff hg hi).1 (by omega)
      rw [if_pos (by omega), wp (x := (q : Int) - 1) (y := ((q - 1 : Nat) : Int)) (by omega) (by omega) (by omega), if_pos (by omega), if_pos (by rw [hl.1]; omega), rd_nat, hlg, less12_ge hn (by omega) (by omega) (by omega), Option.bind_some, hlt, if_pos rfl, wp (x := (q : Int) + 1) (y := ((q + 1 : Nat) : Int)) (by omega) (by omega) (by omega), Int.toNat_natCast]
      exact next
    · rw [if_neg (by omega), wp (x := (q : Int) + 1) (y := ((q + 1 : Nat) : Int)) (by omega) (by omega) (by omega), Int.toNat_natCast]
      exact next
end

theorem SaisOrderUpto (l0 : List Int) (_ : l0.length ≤ maxLen) (_ : l0.length * 1 ≤ 140737488351232) (hw : ∀ x ∈ l0, (Lit.int .u8 x).wf = true) (hl : l0.length ≤ 1048576) : ∃ k, sapperlaw12_SaisOrder.f k l0 = some true := by
  obtain ⟨K0, h0, h1, h2, h3⟩ := words_f l0 (by omega) (bytes_wf hw)
  obtain ⟨K1, h4⟩ := awake_f
  obtain ⟨K2, l, g1, g2⟩ := Array_ok (k0 := K0) (s := l0) ⟨h1, by omega, by omega, h3⟩
  refine ⟨K1 + K2 + 10 * l0.length + 100, ?_⟩
  unfold sapperlaw12_SaisOrder.f
  rw [h0 _ (by omega), Option.bind_some, g1 _ (by omega), Option.bind_some, h4 _ (by omega), Option.bind_some, if_pos rfl, if_neg (by omega), if_pos rfl]
  dsimp only
  rw [show K1 + K2 + 10 * l0.length + 100 = K1 + K2 + 9 * l0.length + 98 + l0.length + 1 + 1 by omega, sapperlaw12_SaisOrder.j0, if_neg (by simp [g2.1]), if_pos (by omega), if_pos (by omega), Int.toNat_natCast]
  exact order_l0 (by omega) g2 l0.length 0 (List.replicate l0.length false) (by omega) (by omega) (by simp) (fun i hi => by
    rw [List.getD_eq_getElem?_getD, List.getElem?_replicate, if_pos hi]; simp) _ (by omega)
end Go.Proofs.Ytgnhangjacdfbaa.Pure
