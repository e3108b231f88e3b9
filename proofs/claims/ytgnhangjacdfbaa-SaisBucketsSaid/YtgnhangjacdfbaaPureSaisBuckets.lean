/- The law SaisBuckets holds of every alphabet and every list of numbers: the program's buckets and error are the document's, the answers are one's own and the numbers stay. No condition. -/
import Derived.Test.YtgnhangjacdfbaaSLa
import Derived.Test.YtgnhangjacdfbaaXx30
namespace Go.Proofs.Ytgnhangjacdfbaa.Pure
open Go.RowKit Go.Proofs.Ytgnhangjacdfbaa Go.Proofs.Ytgnhangjacdfbaa.X Go.Proofs.Ytgnhangjacdfbaa.SD Go.Proofs.Ytgnhangjacdfbaa.SM Go.Proofs.YtgnhangjacdfbaaW.PrintWords Go.Proofs.YtgnhangjacdfbaaW.PrintLast

section
variable {k0 : Int} {s : List Int}
theorem rbuckets_l1 (hok : Ok k0 s) (A : Nat) (hA : k0 = A) (ct : List Int) (hc : ct.length = A) (hct : ∀ u : Nat, u < A → ch ct u = (cv s.length (ch s) u : Int)) (d : Nat) : ∀ v (hd en : List Int), A - v = d → v ≤ A → hd.length = A → en.length = A →
    (∀ u, u < v → ch hd u = (fr s.length (ch s) u : Int)) → (∀ u, u < v → ch en u = (tov s.length (ch s) u : Int)) →
    ∃ hd' en', hd'.length = A ∧ en'.length = A ∧ (∀ u, u < A → ch hd' u = (fr s.length (ch s) u : Int)) ∧ (∀ u, u < A → ch en' u = (tov s.length (ch s) u : Int)) ∧
      ∀ k, sapperref12_Buckets.l1 (k + d + 1) k0 (fr s.length (ch s) v : Int) (v : Int) ct hd en = some (hd', en', 0) := by
  have hn := hok.2.2.1
  have hA2 := hok.2.1
  induction d with
  | zero =>
    intro v hd en hdv hv h1 h2 h3 h4
    obtain rfl : v = A := by omega
    refine ⟨hd, en, h1, h2, h3, h4, fun k => ?_⟩
    rw [sapperref12_Buckets.l1, if_neg (by omega)]
  | succ d ih =>
    intro v hd en hdv hv h1 h2 h3 h4
    have e1 := hct v (by omega)
    have e2 := to_cv s.length (ch s) v
    have e3 := fr_succ s.length (ch s) v
    have e4 := to_le (n := s.length) (c := ch s) v
    have w2 : (-9223372036854775808 : Int) ≤ (fr s.length (ch s) v : Int) + (cv s.length (ch s) v : Int) ∧ (fr s.length (ch s) v : Int) + (cv s.length (ch s) v : Int) ≤ 9223372036854775807 := by omega
    have w3 : (fr s.length (ch s) v : Int) + (cv s.length (ch s) v : Int) = (tov s.length (ch s) v : Int) := by omega
    have w4 : (-9223372036854775808 : Int) ≤ (v : Int) + 1 ∧ (v : Int) + 1 ≤ 9223372036854775807 := by omega
    obtain ⟨hd', en', g1, g2, g3, g4, g5⟩ := ih (v + 1) (hd.set v (fr s.length (ch s) v : Int)) (en.set v (tov s.length (ch s) v : Int)) (by omega) (by omega) (by rw [List.length_set]; exact h1) (by rw [List.length_set]; exact h2)
      (fun u hu => by
        rw [ch_set _ _ _ _ (by omega)]
        by_cases e : v = u
        · rw [if_pos e, e]
        · rw [if_neg e]; exact h3 u (by omega))
      (fun u hu => by
        rw [ch_set _ _ _ _ (by omega)]
        by_cases e : v = u
        · rw [if_pos e, e]
        · rw [if_neg e]; exact h4 u (by omega))
    refine ⟨hd', en', g1, g2, g3, g4, fun k => ?_⟩
    rw [show k + (d + 1) + 1 = (k + d + 1) + 1 by omega, sapperref12_Buckets.l1]
    rw [if_pos (by omega), if_pos (by omega), if_pos (by omega), if_pos (by omega), if_pos (by omega), rd_nat, e1, w64 w2.1 w2.2, w64 w4.1 w4.2, w3, Int.toNat_natCast]
    have := g5 k
    rw [show ((v + 1 : Nat) : Int) = (v : Int) + 1 by omega, e3] at this
    exact this

theorem rbuckets_l0 (hok : Ok k0 s) (A : Nat) (hA : k0 = A) (d : Nat) : ∀ q (en : List Int), s.length - q = d → q ≤ s.length → en.length = A → (∀ u : Nat, u < A → ch en u = (cv q (ch s) u : Int)) →
    ∃ hd' en', hd'.length = A ∧ en'.length = A ∧ (∀ u, u < A → ch hd' u = (fr s.length (ch s) u : Int)) ∧ (∀ u, u < A → ch en' u = (tov s.length (ch s) u : Int)) ∧
      ∀ k, sapperref12_Buckets.l0 (k + d + A + 2) k0 s (q : Int) en = some (hd', en', 0) := by
  have hn := hok.2.2.1
  have hA2 := hok.2.1
  induction d with
  | zero =>
    intro q en hdq hq h2 h3
    obtain rfl : q = s.length := by omega
    have h0 : fr s.length (ch s) 0 = 0 := fr_zero fun j hj => (hok.2.2.2 j hj).1
    obtain ⟨hd', en', g1, g2, g3, g4, g5⟩ := rbuckets_l1 hok A hA en h2 h3 A 0 (List.replicate A 0) (List.replicate A 0) (by omega) (by omega) (by simp) (by simp) (fun u hu => by omega) (fun u hu => by omega)
    refine ⟨hd', en', g1, g2, g3, g4, fun k => ?_⟩
    rw [show k + 0 + A + 2 = (k + A + 1) + 1 by omega, sapperref12_Buckets.l0, if_neg (by omega), if_pos (by omega), if_pos (by omega)]
    have := g5 k
    rw [show ((0 : Nat) : Int) = (0 : Int) from rfl, h0] at this
    rw [show (k0 : Int).toNat = A by omega]
    exact this
  | succ d ih =>
    intro q en hdq hq h2 h3
    have hc := hok.2.2.2 q (by omega)
    obtain ⟨v, hv⟩ : ∃ v : Nat, ch s q = v := ⟨(ch s q).toNat, by omega⟩
    obtain ⟨z, hz, hzq⟩ : ∃ z : Nat, cv q (ch s) (v : Int) = z ∧ z ≤ q := ⟨_, rfl, cv_le _ _ _⟩
    have hvA : v < A := by omega
    have e1 : ch en v = (z : Int) := by rw [← hz]; exact h3 v hvA
    have hq2 : q ≤ 16777216 := by omega
    have h4 : ∀ u : Nat, u < A → ch (en.set v ((z + 1 : Nat) : Int)) u = (cv (q + 1) (ch s) u : Int) := by
      intro u hu
      rw [ch_set _ _ _ _ (by rw [h2]; exact hvA)]
      by_cases e : v = u
      · subst e; rw [if_pos rfl, cv_succ, if_pos (decide_eq_true hv), hz]
      · rw [if_neg e, cv_succ, if_neg (fun h => e (by have := of_decide_eq_true h; omega)), Nat.add_zero]; exact h3 u hu
    obtain ⟨hd', en', g1, g2, g3, g4, g5⟩ := ih (q + 1) (en.set v ((z + 1 : Nat) : Int)) (by omega) (by omega) (by rw [List.length_set]; exact h2) h4
    refine ⟨hd', en', g1, g2, g3, g4, fun k => ?_⟩
    clear h4 hz h3
    rw [show k + (d + 1) + A + 2 = (k + d + A + 2) + 1 by omega, sapperref12_Buckets.l0]
    rw [if_pos (by omega), if_pos (by omega), rd_nat, hv, if_pos (by omega), if_pos (by omega), rd_nat, e1, w64s hzq hq2, w64s (Nat.le_refl q) hq2, Int.toNat_natCast]
    exact g5 k

theorem ch_ext {l l' : List Int} {A : Nat} (h1 : l.length = A) (h2 : l'.length = A) (h : ∀ u, u < A → ch l u = ch l' u) : l = l' := by
  apply List.ext_getElem?
  intro q
  rcases Nat.lt_or_ge q A with hq | hq
  · have h3 := h q hq
    have e1 : l[q]? = some l[q] := List.getElem?_eq_getElem (by omega)
    have e2 : l'[q]? = some l'[q] := List.getElem?_eq_getElem (by omega)
    unfold ch at h3
    rw [List.getD_eq_getElem?_getD, List.getD_eq_getElem?_getD] at h3
    rw [e1] at h3 ⊢; rw [e2] at h3 ⊢
    simp only [Option.getD_some] at h3
    rw [h3]
  · rw [List.getElem?_eq_none (by omega), List.getElem?_eq_none (by omega)]

/-- The two answers agree. -/
theorem both_buckets (k0 : Int) (s : List Int) (hs : s.length ≤ 140737488351328) : ∃ K l l' e, (∀ k, K ≤ k → sais_Buckets.f k k0 s = some (l, l', e) ∧ sapperref12_Buckets.f k k0 s = some (l, l', e)) ∧ l.length ≤ 33554432 ∧ l'.length ≤ 33554432 := by
  obtain ⟨K, e, h1, h2⟩ := both_wrong k0 s hs
  by_cases hok : Ok k0 s
  · have hA2 := hok.2.1
    obtain ⟨A, hA⟩ : ∃ A : Nat, k0 = A := ⟨k0.toNat, by have := hok.1; omega⟩
    obtain ⟨hd, en, b1, b2, b3, b4, b5⟩ := buckets_f hok A hA
    obtain ⟨hd', en', c1, c2, c3, c4, c5⟩ := rbuckets_l0 hok A hA s.length 0 (List.replicate A 0) (by omega) (by omega) (by simp) (fun u hu => by rw [ch_rep _ _ _ hu, cv_zero]; rfl)
    have e1 : hd' = hd := ch_ext c1 b1 (fun u hu => by rw [c3 u hu, b3 u hu])
    have e2 : en' = en := ch_ext c2 b2 (fun u hu => by rw [c4 u hu, b4 u hu])
    subst e1 e2
    have he := h2.2 hok
    refine ⟨K + s.length + A + 2, hd', en', 0, fun k hk => ⟨?_, ?_⟩, by omega, by omega⟩
    · unfold sais_Buckets.f
      have := b5 (k - s.length - A - 2)
      rw [show k - s.length - A - 2 + s.length + A + 2 = k by omega] at this
      rw [(h1 k (by omega)).1, Option.bind_some, if_pos he, this, Option.bind_some]
    · unfold sapperref12_Buckets.f
      have := c5 (k - s.length - A - 2)
      rw [show k - s.length - A - 2 + s.length + A + 2 = k by omega, show ((0 : Nat) : Int) = 0 from rfl] at this
      rw [(h1 k (by omega)).2, Option.bind_some, if_pos he, if_pos hok.1, if_pos (by omega), show (k0 : Int).toNat = A by omega, this]
  · have hne : e ≠ 0 := fun h => hok (h2.1 h)
    refine ⟨K, [], [], e, fun k hk => ⟨?_, ?_⟩, by simp, by simp⟩
    · unfold sais_Buckets.f; rw [(h1 k hk).1, Option.bind_some, if_neg hne]
    · unfold sapperref12_Buckets.f; rw [(h1 k hk).2, Option.bind_some, if_neg hne]
end

theorem SaisBuckets : sapperlaw12_SaisBuckets.Pure := by
  intro a0 s _ _ hs _
  obtain ⟨K, l, l', e, h1, h2, h2'⟩ := both_buckets a0 s (by omega)
  obtain ⟨K2, h3⟩ := awake_f
  refine ⟨K + K2 + 5 * l.length + 5 * l'.length + 2 * s.length + 200, ?_⟩
  unfold sapperlaw12_SaisBuckets.f sapperlaw12_num.f
  have g := h1 (K + K2 + 5 * l.length + 5 * l'.length + 2 * s.length + 200) (by omega)
  have htake : (s ++ [71, 72, 73, 74]).take ((s.length : Int)).toNat = s := by rw [Int.toNat_natCast, List.take_left]
  rw [g.2, Option.bind_some, lend_f s (by omega), Option.bind_some, if_pos (by omega), if_pos (by simp <;> omega), htake, g.1]
  simp only [Option.bind_some, if_true]
  rw [own_f l (by omega) _ (by omega), Option.bind_some, if_pos rfl, own_f l' (by omega) _ (by omega), Option.bind_some, if_pos rfl, same12_ge (l := l') (by omega) (by omega), Option.bind_some, if_pos rfl, same12_ge (by simp <;> omega) (by simp <;> omega), Option.bind_some, if_pos rfl, h3 _ (by omega)]
  rfl
end Go.Proofs.Ytgnhangjacdfbaa.Pure
