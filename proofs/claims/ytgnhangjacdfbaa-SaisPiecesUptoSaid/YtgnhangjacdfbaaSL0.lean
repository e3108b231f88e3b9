/- The laws' functions awake and Same of layer 12; the suffixes' order is one. -/
import Derived.Test.YtgnhangjacdfbaaSMh
import Derived.Test.YtgnhangjacdfbaaXx12
import Derived.Test.YtgnhangjacdfbaaXx11
namespace Go.Proofs.Ytgnhangjacdfbaa.SD
open Go.RowKit Go.Proofs.Ytgnhangjacdfbaa Go.Proofs.Ytgnhangjacdfbaa.X Go.Proofs.Ytgnhangjacdfbaa.SM Go.Proofs.YtgnhangjacdfbaaW.PrintWords Go.Proofs.YtgnhangjacdfbaaW.PrintLast

theorem awake_f : ∃ K, ∀ k, K ≤ k → sapperlaw12_awake.f k = some true := by
  have h : sapperlaw12_awake.f 100 = some true := by decide +kernel
  exact ⟨100, fun k hk => at_rounds (g := fun k => sapperlaw12_awake.f k) (fun k => sapperlaw12_awake.mono k) hk h⟩

theorem same12_loop (l : List Int) (hl : l.length ≤ 9223372036854775000) (d : Nat) : ∀ q, l.length - q = d → q ≤ l.length → ∀ k, sapperlaw12_Same.l0 (k + 2 * d + 2) l l (q : Int) = some true := by
  induction d with
  | zero =>
    intro q hd hq k
    rw [show k + 2 * 0 + 2 = k + 1 + 1 by omega, sapperlaw12_Same.l0, if_neg (by omega), sapperlaw12_Same.j1, if_neg (by simp)]
    simp
  | succ d ih =>
    intro q hd hq k
    rw [show k + 2 * (d + 1) + 2 = k + 2 * d + 2 + 1 + 1 by omega, sapperlaw12_Same.l0, if_pos (by omega), sapperlaw12_Same.j1, if_pos (by simp <;> omega), if_pos (by omega), if_pos (by omega), if_pos (by omega), if_pos rfl, wp (y := ((q + 1 : Nat) : Int)) (by omega) (by omega) (by omega)]
    exact ih (q + 1) (by omega) (by omega) k
theorem same12_f (l : List Int) (hl : l.length ≤ 9223372036854775000) (k : Nat) : sapperlaw12_Same.f (k + 2 * l.length + 2) l l = some true := by
  unfold sapperlaw12_Same.f
  exact same12_loop l hl l.length 0 (by omega) (by omega) k
theorem same12_ge {l : List Int} (hl : l.length ≤ 9223372036854775000) {k : Nat} (hk : 2 * l.length + 2 ≤ k) : sapperlaw12_Same.f k l l = some true := by
  have := same12_f l hl (k - 2 * l.length - 2)
  rw [show k - 2 * l.length - 2 + 2 * l.length + 2 = k by omega] at this; exact this

section
variable {s : List Int}
/-- A rising map of n numbers below n is the identity. -/
theorem mono_id (n : Nat) (f : Nat → Nat) (hf : ∀ a, a < n → f a < n) (hm : ∀ a, a + 1 < n → f a < f (a + 1)) : ∀ a, a < n → f a = a := by
  have lo : ∀ a, a < n → a ≤ f a := by
    intro a
    induction a with
    | zero => intro _; omega
    | succ a ih => intro h; have := ih (by omega); have := hm a h; omega
  have hi : ∀ d a, a + d + 1 = n → f a ≤ a := by
    intro d
    induction d with
    | zero => intro a h; have := hf a (by omega); omega
    | succ d ih => intro a h; have := ih (a + 1) (by omega); have := hm a (by omega); omega
  intro a ha
  have := lo a ha
  have := hi (n - 1 - a) a (by omega)
  omega
/-- A list of all places, each less than the next one, is the suffixes' order. -/
theorem isSA_of_rising {l : List Int} (hl : l.length = s.length) (hm : ∀ q, q < s.length → 0 ≤ ch l q ∧ ch l q < (s.length : Int)) (hr : ∀ q, q + 1 < s.length → slt s.length (ch s) (ch l q).toNat (ch l (q + 1)).toNat = true) : IsSA s l := by
  have key := mono_id s.length (fun q => rank s.length (ch s) (ch l q).toNat) (fun q hq => rank_lt (by have := hm q hq; omega)) (fun q hq => rank_mono (by have := hm q (by omega); omega) (hr q hq))
  refine ⟨hl, fun i hi => ?_⟩
  have h1 := rank_lt (c := ch s) hi
  have h2 := key _ h1
  have h3 := hm _ h1
  have := rank_inj (by omega) hi h2
  omega
theorem isSA_unique {l l' : List Int} (h : IsSA s l) (h' : IsSA s l') : l = l' := by
  apply List.ext_getElem?
  intro q
  rcases Nat.lt_or_ge q s.length with hq | hq
  · obtain ⟨i, hi, he⟩ := rank_onto (c := ch s) hq
    have h1 := h.2 i hi
    have h2 := h'.2 i hi
    rw [he] at h1 h2
    have hl := h.1
    have hl' := h'.1
    have e1 : l[q]? = some l[q] := List.getElem?_eq_getElem (by omega)
    have e2 : l'[q]? = some l'[q] := List.getElem?_eq_getElem (by omega)
    unfold ch at h1 h2
    rw [List.getD_eq_getElem?_getD] at h1 h2
    rw [e1] at h1 ⊢; rw [e2] at h2 ⊢
    simp only [Option.getD_some] at h1 h2
    rw [h1, h2]
  · rw [List.getElem?_eq_none (by rw [h.1]; exact hq), List.getElem?_eq_none (by rw [h'.1]; exact hq)]
end
end Go.Proofs.Ytgnhangjacdfbaa.SD
