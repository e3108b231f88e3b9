/- The law SaisArrays holds of every alphabet and every list of numbers: the program's order and error are the document's, the answer is one's own and the numbers stay. No condition. -/
import Derived.Test.YtgnhangjacdfbaaSLa
import Derived.Test.YtgnhangjacdfbaaXx23
namespace Go.Proofs.Ytgnhangjacdfbaa.Pure
open Go.RowKit Go.Proofs.Ytgnhangjacdfbaa Go.Proofs.Ytgnhangjacdfbaa.X Go.Proofs.Ytgnhangjacdfbaa.SD Go.Proofs.YtgnhangjacdfbaaW.PrintWords Go.Proofs.YtgnhangjacdfbaaW.PrintLast

theorem SaisArrays : sapperlaw12_SaisArrays.Pure := by
  intro a0 s _ _ hs _
  obtain ⟨K, l, e, h1, h2, _⟩ := both_arrays a0 s (by omega)
  obtain ⟨K2, h3⟩ := awake_f
  refine ⟨K + K2 + 5 * l.length + 2 * s.length + 200, ?_⟩
  unfold sapperlaw12_SaisArrays.f sapperlaw12_num.f
  have g := h1 (K + K2 + 5 * l.length + 2 * s.length + 200) (by omega)
  have htake : (s ++ [71, 72, 73, 74]).take ((s.length : Int)).toNat = s := by rw [Int.toNat_natCast, List.take_left]
  rw [g.2, Option.bind_some, lend_f s (by omega), Option.bind_some, if_pos (by omega), if_pos (by simp <;> omega), htake, g.1]
  simp only [Option.bind_some, if_true]
  rw [own_f l (by omega) _ (by omega), Option.bind_some, if_pos rfl, same12_ge (by simp <;> omega) (by simp <;> omega), Option.bind_some, if_pos rfl, h3 _ (by omega)]
  rfl
end Go.Proofs.Ytgnhangjacdfbaa.Pure
