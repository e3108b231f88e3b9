/- The law FindLongest holds of any bytes and any text: the longest beginning that stands anywhere, at its least place. No condition. -/
import Derived.Test.YtphchkkicpnehaaSCFindLongest
import Derived.Test.YtphchkkicpnehaaXx49
namespace Go.Proofs.Ytphchkkicpnehaa.Pure
open Go.RowKit Go.Proofs.Ytphchkkicpnehaa Go.Proofs.Ytphchkkicpnehaa.X Go.Proofs.Ytphchkkicpnehaa.SD Go.Proofs.Ytphchkkicpnehaa.SM Go.Proofs.YtphchkkicpnehaaW.PrintWords Go.Proofs.YtphchkkicpnehaaW.PrintLast

theorem FindLongest : sapperlaw14_FindLongest.Pure := by
  intro s p _ _ hw _ hp _
  obtain ⟨K1, h1⟩ := awake_f
  by_cases hs : s.length ≤ 16777216
  case neg =>
    refine ⟨K1 + 1, ?_⟩
    unfold sapperlaw14_FindLongest.f
    rw [index_many (by omega), Option.bind_some, if_pos rfl, sapperlaw14_FindLongest.j0, if_pos (by rfl), if_pos rfl, h1 _ (by omega)]; rfl
  obtain ⟨K2, x, h2, hx⟩ := index_ok hs (byt_wf hw)
  obtain ⟨K3, h3⟩ := Longest_ok hs hx p
  refine ⟨K1 + K2 + K3 + 2 * s.length + 10 + 1, ?_⟩
  unfold sapperlaw14_FindLongest.f
  rw [h2 _ (by omega), Option.bind_some, if_pos rfl, sapperlaw14_FindLongest.j0, if_neg (by simp), lend14_f (by omega), Option.bind_some, if_pos (by omega), if_pos (by rw [List.length_append]; omega), take_room, h3 _ (by omega), Option.bind_some, refLongest_f hs (by omega) (by omega), Option.bind_some, if_pos rfl, if_pos rfl, if_pos rfl, kept14_f (by omega), Option.bind_some, if_pos rfl, h1 _ (by omega)]; rfl
end Go.Proofs.Ytphchkkicpnehaa.Pure
