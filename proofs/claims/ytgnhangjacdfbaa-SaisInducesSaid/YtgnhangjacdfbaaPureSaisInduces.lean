/- The law SaisInduces holds of every alphabet, list and order: the program's row and error are the document's, the answer is one's own and the lists stay. No condition. -/
import Derived.Test.YtgnhangjacdfbaaSCSaisInduces
import Derived.Test.YtgnhangjacdfbaaXx46
namespace Go.Proofs.Ytgnhangjacdfbaa.Pure
open Go.RowKit Go.Proofs.Ytgnhangjacdfbaa Go.Proofs.Ytgnhangjacdfbaa.X Go.Proofs.Ytgnhangjacdfbaa.SD Go.Proofs.YtgnhangjacdfbaaW.PrintWords Go.Proofs.YtgnhangjacdfbaaW.PrintLast

theorem SaisInduces (a0 : Int) (s o : List Int) (hs : s.length * 8 ≤ 140737488351232) (ho : o.length * 8 ≤ 140737488351232) : ∃ k, sapperlaw12_SaisInduces.f k a0 s o = some true := by
  obtain ⟨K, l, e, h1, h2⟩ := both_induce a0 s o (by omega) (by omega)
  obtain ⟨K2, h3⟩ := awake_f
  refine ⟨K + K2 + 5 * l.length + 2 * s.length + 2 * o.length + 200, ?_⟩
  unfold sapperlaw12_SaisInduces.f sapperlaw12_num.f
  have g := h1 (K + K2 + 5 * l.length + 2 * s.length + 2 * o.length + 200) (by omega)
  have htake : ∀ l : List Int, (l ++ [71, 72, 73, 74]).take ((l.length : Int)).toNat = l := fun l => by rw [Int.toNat_natCast, List.take_left]
  rw [g.2, Option.bind_some, lend_f s (by omega), Option.bind_some, lend_f o (by omega), Option.bind_some, if_pos (by omega), if_pos (by simp <;> omega), if_pos (by omega), if_pos (by simp <;> omega), htake, htake, g.1]
  simp only [Option.bind_some, if_true]
  rw [own_f l (by omega) _ (by omega), Option.bind_some, if_pos rfl, same12_ge (by simp <;> omega) (by simp <;> omega), Option.bind_some, if_pos rfl, same12_ge (by simp <;> omega) (by simp <;> omega), Option.bind_some, if_pos rfl, h3 _ (by omega)]
  rfl
end Go.Proofs.Ytgnhangjacdfbaa.Pure
