/- The law SaisTypes holds of any numbers: which suffixes are small, and the turns, as the document tells; the numbers stay, the answers are one's own. No condition. -/
import Derived.Test.YtgnhangjacdfbaaSCSaisTypes
import Derived.Test.YtgnhangjacdfbaaXx18
namespace Go.Proofs.Ytgnhangjacdfbaa.Pure
open Go.RowKit Go.Proofs.Ytgnhangjacdfbaa Go.Proofs.Ytgnhangjacdfbaa.X Go.Proofs.Ytgnhangjacdfbaa.SD Go.Proofs.Ytgnhangjacdfbaa.SM Go.Proofs.YtgnhangjacdfbaaW.PrintWords Go.Proofs.YtgnhangjacdfbaaW.PrintLast

section
variable (s : List Int) (hs : s.length ≤ 17592186043904) (x0 x4 x5 x6 : List Int) (x8 : List Bool)
include hs
theorem ty_l0 (d : Nat) : ∀ (a : List Bool) (i : Nat), a.length = s.length → (∀ j, i ≤ j → a.getD j false = (tyl s).getD j false) → s.length - i = d → i ≤ s.length →
    ∃ a' : List Bool, a'.length = s.length ∧ ∀ k, sapperlaw12_SaisTypes.l0 (k + d + 1) x0 (tyl s) x4 x5 x6 a x8 (i : Int) = sapperlaw12_SaisTypes.l1 k x0 (tyl s) x4 x5 x6 a' x8 0 := by
  have hl := tyl_length s
  induction d with
  | zero =>
    intro a i ha _ hd hi
    exact ⟨a, ha, fun k => by rw [show k + 0 + 1 = k + 1 by omega, sapperlaw12_SaisTypes.l0, if_neg (by omega)]⟩
  | succ d ih =>
    intro a i ha hg hd hi
    obtain ⟨a', e, h⟩ := ih (a.set i (!(a.getD i false))) (i + 1) (by rw [List.length_set]; exact ha) (fun j hj => by rw [getD_set _ _ _ _ _ (by omega), if_neg (by omega)]; exact hg j (by omega)) (by omega) (by omega)
    refine ⟨a', e, fun k => ?_⟩
    rw [show k + (d + 1) + 1 = k + d + 1 + 1 by omega, sapperlaw12_SaisTypes.l0, if_pos (by omega), if_pos (by omega), if_pos (by omega), rdB_nat, rdB_nat, hg i (Nat.le_refl _), bne_self_eq_false, if_neg (by decide), Int.toNat_natCast, ← hg i (Nat.le_refl _), w64 (by omega) (by omega), show (i : Int) + 1 = ((i + 1 : Nat) : Int) from rfl]
    exact h k
omit hs in
theorem ty_l1 (w : List Bool) (d : Nat) : ∀ (a : List Bool) (i : Nat), 40 - i = d → a.length ≤ 17592186043904 + i → ∀ k, sapperlaw12_SaisTypes.l1 (k + d + 1) x0 w x4 x5 x6 a x8 (i : Int) = sapperlaw12_SaisTypes.l2 k x0 w x4 x5 x6 x8 0 := by
  induction d with
  | zero =>
    intro a i hd ha k
    rw [show k + 0 + 1 = k + 1 by omega, sapperlaw12_SaisTypes.l1, if_neg (by omega)]
  | succ d ih =>
    intro a i hd ha k
    have h := ih (a ++ [true]) (i + 1) (by omega) (by rw [List.length_append, List.length_singleton]; omega)
    rw [show k + (d + 1) + 1 = k + d + 1 + 1 by omega, sapperlaw12_SaisTypes.l1, if_pos (by omega), if_pos (by omega), w64 (by omega) (by omega), show (i : Int) + 1 = ((i + 1 : Nat) : Int) from rfl]
    exact h k
theorem ty_l2 {K : Nat} (h1 : ∀ k, K ≤ k → sapperlaw12_awake.f k = some true) (d : Nat) : ∀ i : Nat, s.length - i = d → i ≤ s.length → ∀ k, K + 10 * s.length + 200 ≤ k → sapperlaw12_SaisTypes.l2 (k + d + 1) s (tyl s) (tul s) (s ++ [71, 72, 73, 74]) s (tyl s) (i : Int) = some true := by
  have hl := tyl_length s
  induction d with
  | zero =>
    intro i hd hi k hk
    have ht := tul_le s
    obtain ⟨j, rfl⟩ : ∃ j, k = j + s.length + 1 := ⟨k - s.length - 1, by omega⟩
    rw [show j + s.length + 1 + 0 + 1 = j + s.length + 1 + 1 by omega, sapperlaw12_SaisTypes.l2, if_neg (by omega), lms_f s (by omega), Option.bind_some, Option.bind_some, own_f (tul s) (by omega) _ (by omega), Option.bind_some, if_pos rfl, lend_f s (by omega), Option.bind_some, same12_ge (by simp <;> omega) (by simp <;> omega), Option.bind_some, if_pos rfl, h1 _ (by omega)]; rfl
  | succ d ih =>
    intro i hd hi k hk
    rw [show k + (d + 1) + 1 = k + d + 1 + 1 by omega, sapperlaw12_SaisTypes.l2, if_pos (by omega), if_pos (by omega), if_pos (by omega), bne_self_eq_false, if_neg (by decide), w64 (by omega) (by omega), show (i : Int) + 1 = ((i + 1 : Nat) : Int) from rfl]
    exact ih (i + 1) (by omega) (by omega) k hk
end
theorem SaisTypes : sapperlaw12_SaisTypes.Pure := by
  intro s _ hs _
  have hs : s.length ≤ 17592186043904 := by omega
  obtain ⟨K, h1⟩ := awake_f
  have hl := tyl_length s
  have htake : (s ++ [71, 72, 73, 74]).take ((s.length : Int)).toNat = s := by rw [Int.toNat_natCast, List.take_left]
  obtain ⟨a', e, g0⟩ := ty_l0 s hs s (tul s) (s ++ [71, 72, 73, 74]) s (tyl s) s.length (tyl s) 0 hl (fun _ _ => rfl) (by omega) (by omega)
  have g1 := ty_l1 s (tul s) (s ++ [71, 72, 73, 74]) s (tyl s) (tyl s) 40 a' 0 (by omega) (by omega)
  have g2 := ty_l2 s hs h1 s.length 0 (by omega) (by omega) (K + 10 * s.length + 200) (Nat.le_refl _)
  rw [show ((0 : Nat) : Int) = 0 from rfl] at g0 g1 g2
  refine ⟨(K + 10 * s.length + 200) + s.length + 1 + 40 + 1 + s.length + 1 + 1, ?_⟩
  unfold sapperlaw12_SaisTypes.f
  rw [show K + 10 * s.length + 200 + s.length + 1 + 40 + 1 + s.length + 1 + 1 = (K + 10 * s.length + 200 + s.length + 1 + 40 + 1 + 1) + s.length + 1 by omega, rtypes_f s (by omega), Option.bind_some, rlms_f s (by omega) _ (by omega), Option.bind_some, lend_f s (by omega), Option.bind_some, if_pos (by omega), if_pos (by rw [List.length_append]; omega), htake, Option.bind_some, types_f s (by omega), Option.bind_some, Option.bind_some, if_pos rfl, bne_self_eq_false,
    show K + 10 * s.length + 200 + s.length + 1 + 40 + 1 + 1 + s.length + 1 = (K + 10 * s.length + 200 + s.length + 1 + 40 + 1) + s.length + 1 + 1 by omega, sapperlaw12_SaisTypes.j0, if_neg (by decide), g0, g1, g2]
end Go.Proofs.Ytgnhangjacdfbaa.Pure
