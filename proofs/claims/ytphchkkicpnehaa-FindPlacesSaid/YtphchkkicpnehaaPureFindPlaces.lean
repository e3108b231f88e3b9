/- The law FindPlaces holds of any bytes and any text: how often and where it stands, as the document tells; the answer is one's own. No condition. -/
import Derived.Test.YtphchkkicpnehaaSCFindPlaces
import Derived.Test.YtphchkkicpnehaaXx55
import Derived.Test.YtphchkkicpnehaaXx80
namespace Go.Proofs.Ytphchkkicpnehaa.Pure
open Go.RowKit Go.Proofs.Ytphchkkicpnehaa Go.Proofs.Ytphchkkicpnehaa.X Go.Proofs.Ytphchkkicpnehaa.SD Go.Proofs.Ytphchkkicpnehaa.SM Go.Proofs.YtphchkkicpnehaaW.PrintWords Go.Proofs.YtphchkkicpnehaaW.PrintLast

theorem pl_l1 (p : List Int) (y : List S61) (b w : List Int) (d : Nat) : ∀ (a : List Int) (i : Nat), 40 - i = d → a.length ≤ 20000000 + i → ∀ k, sapperlaw14_FindPlaces.l1 (k + d + 1) p y a b w (i : Int) = (find_All.f k y p).bind fun z => ((sapperlaw14_Same.f k b w).bind fun t => (if t = true then (if z.2 = 0 then ((sapperlaw14_Same.f k z.1 w).bind fun t => (if t = true then ((sapperlaw14_awake.f k).bind fun t => (some t)) else (some false))) else (some false)) else (some false))) := by
  induction d with
  | zero =>
    intro a i hd ha k
    rw [show k + 0 + 1 = k + 1 by omega, sapperlaw14_FindPlaces.l1, if_neg (by omega)]
  | succ d ih =>
    intro a i hd ha k
    have h := ih (a ++ [82]) (i + 1) (by omega) (by rw [List.length_append, List.length_singleton]; omega)
    rw [show k + (d + 1) + 1 = k + d + 1 + 1 by omega, sapperlaw14_FindPlaces.l1, if_pos (by omega), if_pos (by omega), wp (x := (i : Int) + 1) (y := ((i + 1 : Nat) : Int)) (by omega) (by omega) (by omega)]
    exact h k
theorem pl_l0 (p : List Int) (y : List S61) (b w : List Int) (d : Nat) : ∀ (a : List Int) (i : Nat), a.length - i = d → i ≤ a.length → a.length ≤ 20000000 → ∃ a' : List Int, a'.length = a.length ∧ ∀ k, sapperlaw14_FindPlaces.l0 (k + d + 1) p y a b w (i : Int) = sapperlaw14_FindPlaces.l1 k p y a' b w 0 := by
  induction d with
  | zero =>
    intro a i hd hi ha
    exact ⟨a, rfl, fun k => by rw [show k + 0 + 1 = k + 1 by omega, sapperlaw14_FindPlaces.l0, if_neg (by omega)]⟩
  | succ d ih =>
    intro a i hd hi ha
    obtain ⟨a', e, h⟩ := ih (a.set i 81) (i + 1) (by rw [List.length_set]; omega) (by rw [List.length_set]; omega) (by rw [List.length_set]; omega)
    rw [List.length_set] at e
    refine ⟨a', e, fun k => ?_⟩
    rw [show k + (d + 1) + 1 = k + d + 1 + 1 by omega, sapperlaw14_FindPlaces.l0, if_pos (by omega), if_pos (by omega), Int.toNat_natCast, wp (x := (i : Int) + 1) (y := ((i + 1 : Nat) : Int)) (by omega) (by omega) (by omega)]
    exact h k
theorem FindPlaces : sapperlaw14_FindPlaces.Pure := by
  intro s p _ _ hw _ hp _
  obtain ⟨K1, h1⟩ := awake_f
  by_cases hs : s.length ≤ 16777216
  case neg =>
    refine ⟨K1 + 1, ?_⟩
    unfold sapperlaw14_FindPlaces.f
    rw [index_many (by omega), Option.bind_some, if_pos rfl, sapperlaw14_FindPlaces.j0, if_pos (by rfl), if_pos rfl, h1 _ (by omega)]; rfl
  obtain ⟨K2, x, h2, hx⟩ := index_ok hs (byt_wf hw)
  obtain ⟨K3, h3⟩ := Range_ok hs hx p
  obtain ⟨K4, h4⟩ := All_ok hs hx p
  have hl := plc_le (s := s) (p := p) s.length
  have hc := plc_count hx.2.2.1 p
  have hle : cn s.length (leq s p) ≤ s.length := cn_le _
  have hll : cn s.length (lss s p) ≤ cn s.length (leq s p) := cn_mono (fun i hi h => by
    unfold lss at h; unfold leq
    simp only [decide_eq_true_eq] at h ⊢
    omega)
  have hr := fun k (hk : 2 * s.length + 3 ≤ k) => refAll_f (p := p) hs (by omega) hk
  generalize plcN s p s.length = L at *
  have hn : ∀ k, K3 ≤ k → find_Count.f k [x] p = some ((L.length : Int), 0) := fun k hk => by
    unfold find_Count.f
    rw [h3 k hk, Option.bind_some]
    dsimp only
    rw [wp (x := (cn s.length (leq s p) : Int) - (cn s.length (lss s p) : Int)) (y := (L.length : Int)) (by omega) (by omega) (by omega)]
  obtain ⟨a', e, g0⟩ := pl_l0 p [x] L L L.length L 0 (by omega) (by omega) (by omega)
  have g1 := pl_l1 p [x] L L 40 a' 0 (by omega) (by omega)
  rw [show ((0 : Nat) : Int) = 0 from rfl] at g0 g1
  refine ⟨(K1 + K2 + K3 + K4 + 4 * s.length + 100) + 40 + 1 + L.length + 1 + 1 + 1, ?_⟩
  unfold sapperlaw14_FindPlaces.f
  rw [h2 _ (by omega), Option.bind_some, if_pos rfl, sapperlaw14_FindPlaces.j0, if_neg (by simp), lend14_f (by omega), Option.bind_some, if_pos (by omega), if_pos (by rw [List.length_append]; omega), take_room, hn _ (by omega), Option.bind_some, h4 _ (by omega), Option.bind_some, Option.bind_some, hr _ (by omega), Option.bind_some]
  dsimp only
  rw [if_pos rfl, if_pos rfl, if_pos rfl, if_pos rfl, same14_f (by omega) (by omega), Option.bind_some, if_pos rfl, Option.bind_some, if_pos rfl, kept14_f (by omega), Option.bind_some, sapperlaw14_FindPlaces.j1, if_neg (by decide),
    show K1 + K2 + K3 + K4 + 4 * s.length + 100 + 40 + 1 + L.length + 1 = (K1 + K2 + K3 + K4 + 4 * s.length + 100 + 40 + 1) + L.length + 1 by omega, g0, g1, h4 _ (by omega), Option.bind_some, same14_f (by omega) (by omega), Option.bind_some]
  dsimp only
  rw [if_pos rfl, if_pos rfl, Option.bind_some, if_pos rfl, h1 _ (by omega)]; rfl
end Go.Proofs.Ytphchkkicpnehaa.Pure
