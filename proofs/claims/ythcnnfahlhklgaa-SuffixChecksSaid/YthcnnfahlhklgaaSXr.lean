/- The document's answer (sapperref13): its order is the suffixes' order, its Lcp what neighbours have in common; its Check and the code's. -/
import Derived.Test.YthcnnfahlhklgaaSXc
import Derived.Test.YthcnnfahlhklgaaSXd
import Derived.Test.YthcnnfahlhklgaaXx35
namespace Go.Proofs.Ythcnnfahlhklgaa.SD
open Go.RowKit Go.Proofs.Ythcnnfahlhklgaa Go.Proofs.Ythcnnfahlhklgaa.X Go.Proofs.Ythcnnfahlhklgaa.SM Go.Proofs.YthcnnfahlhklgaaW.PrintWords Go.Proofs.YthcnnfahlhklgaaW.PrintLast

section
variable {s : List Int}
attribute [local irreducible] cv fr tov rk3 loc2 ch rank
/-- Two lists that tell the same at all places are one. -/
theorem ext_ch {l l' : List Int} (hl : l.length = l'.length) (h : ∀ q, q < l.length → ch l q = ch l' q) : l = l' := by
  apply List.ext_getElem?
  intro q
  rcases Nat.lt_or_ge q l.length with hq | hq
  · have h1 := h q hq
    unfold ch at h1
    rw [List.getD_eq_getElem?_getD, List.getD_eq_getElem?_getD, List.getElem?_eq_getElem hq, List.getElem?_eq_getElem (by omega)] at h1
    rw [List.getElem?_eq_getElem hq, List.getElem?_eq_getElem (by omega)]
    simpa using h1
  · rw [List.getElem?_eq_none (by omega), List.getElem?_eq_none (by omega)]
theorem sa_one {l l' : List Int} (h : IsSA s l) (h' : IsSA s l') : l = l' := by
  refine ext_ch (by rw [h.1, h'.1]) fun q hq => ?_
  rw [h.1] at hq
  obtain ⟨i, hi, he⟩ := rank_onto (c := ch s) hq
  have h1 := h.2 i hi
  have h2 := h'.2 i hi
  rw [he] at h1 h2
  rw [h1, h2]
theorem bl_of_wf (h : ∀ x ∈ s, (Lit.int .u8 x).wf = true) : BL s := fun x hx => byte_wf' (h x hx)
/-- The inner loop counts what is less. -/
theorem refArray_l1 (hs : s.length ≤ 16777216) (hb : BL s) {i : Nat} (hi : i < s.length) (o : List Int) (ho : o.length = s.length) (d : Nat) : ∀ q, s.length - q = d → q ≤ s.length → ∀ k, sapperref13_Array.l1 (k + d + 1) s (i : Int) ((cn q fun j => slt s.length (ch s) j i : Nat) : Int) o (s.length : Int) (i : Int) (s.length : Int) (q : Int) = sapperref13_Array.l0 k s (o.set (rank s.length (ch s) i) (i : Int)) (s.length : Int) ((i + 1 : Nat) : Int) := by
  induction d with
  | zero =>
    intro q hd hq k
    have : q = s.length := by omega
    subst this
    have hr := rank_lt (c := ch s) hi
    have e : (cn s.length fun j => slt s.length (ch s) j i) = rank s.length (ch s) i := by unfold rank; rfl
    rw [show k + 0 + 1 = k + 1 by omega, sapperref13_Array.l1, if_neg (by omega), e, if_pos (by omega), if_pos (by omega), Int.toNat_natCast, wp (x := (i : Int) + 1) (y := ((i + 1 : Nat) : Int)) (by omega) (by omega) (by omega)]
  | succ d ih =>
    intro q hd hq k
    have hle := cn_le (n := q) (fun j => slt s.length (ch s) j i)
    have e : (cn (q + 1) fun j => slt s.length (ch s) j i) = (cn q fun j => slt s.length (ch s) j i) + if slt s.length (ch s) q i = true then 1 else 0 := by
      rw [cn]; try (cases slt s.length (ch s) q i <;> simp)
    rw [show k + (d + 1) + 1 = k + d + 1 + 1 by omega, sapperref13_Array.l1, if_pos (by omega), if_pos (by omega), if_pos (by omega), if_pos (by omega), if_pos (by omega), Int.toNat_natCast, Int.toNat_natCast, less_sl (hb.drop q) (hb.drop i), lessL_slt _ q i rfl, wp (x := (q : Int) + 1) (y := ((q + 1 : Nat) : Int)) (by omega) (by omega) (by omega)]
    have next := ih (q + 1) (by omega) (by omega) k
    rw [e] at next
    by_cases h : slt s.length (ch s) q i = true
    · rw [if_pos h, wp (x := ((cn q fun j => slt s.length (ch s) j i : Nat) : Int) + 1) (y := (((cn q fun j => slt s.length (ch s) j i) + 1 : Nat) : Int)) (by omega) (by omega) (by omega)]
      rw [if_pos h] at next
      exact next
    · rw [if_neg h]
      rw [if_neg h, Nat.add_zero] at next
      exact next
theorem refArray_l0 (hs : s.length ≤ 16777216) (hb : BL s) (d : Nat) : ∀ i (o : List Int), s.length - i = d → i ≤ s.length → o.length = s.length → (∀ j, j < i → ch o (rank s.length (ch s) j) = (j : Int)) → ∃ K o', IsSA s o' ∧ ∀ k, K ≤ k → sapperref13_Array.l0 k s o (s.length : Int) (i : Int) = some o' := by
  induction d with
  | zero =>
    intro i o hd hi ho hp
    have : i = s.length := by omega
    subst this
    refine ⟨1, o, ⟨ho, hp⟩, fun k hk => ?_⟩
    obtain ⟨k, rfl⟩ : ∃ k', k = k' + 1 := ⟨k - 1, by omega⟩
    rw [sapperref13_Array.l0, if_neg (by omega)]
  | succ d ih =>
    intro i o hd hi ho hp
    have hi' : i < s.length := by omega
    have hr := rank_lt (c := ch s) hi'
    obtain ⟨K, o', h1, h2⟩ := ih (i + 1) (o.set (rank s.length (ch s) i) (i : Int)) (by omega) (by omega) (by rw [List.length_set]; exact ho) (fun j hj => by
      rw [ch_set _ _ _ _ (by omega)]
      by_cases e : rank s.length (ch s) i = rank s.length (ch s) j
      · rw [if_pos e, rank_inj hi' (by omega) e]
      · rw [if_neg e]
        refine hp j ?_
        have : j ≠ i := fun e2 => e (by rw [e2])
        omega)
    refine ⟨K + s.length + 2, o', h1, fun k hk => ?_⟩
    obtain ⟨k, rfl⟩ : ∃ k', k = k' + s.length + 1 + 1 := ⟨k - s.length - 2, by omega⟩
    rw [sapperref13_Array.l0, if_pos (by omega)]
    have := refArray_l1 hs hb hi' o ho s.length 0 (by omega) (by omega) k
    rw [show ((cn 0 fun j => slt s.length (ch s) j i : Nat) : Int) = 0 from rfl, show ((0 : Nat) : Int) = 0 from rfl] at this
    rw [this]
    exact h2 k (by omega)
theorem refArray_ok (hs : s.length ≤ 16777216) (hb : BL s) {sa : List Int} (hsa : IsSA s sa) : ∃ K, ∀ k, K ≤ k → sapperref13_Array.f k s = some sa := by
  obtain ⟨K, o', h1, h2⟩ := refArray_l0 hs hb s.length 0 (List.replicate s.length 0) (by omega) (by omega) (by simp) (fun j hj => by omega)
  refine ⟨K, fun k hk => ?_⟩
  unfold sapperref13_Array.f
  have := h2 k hk
  rw [show ((0 : Nat) : Int) = 0 from rfl] at this
  rw [if_pos (by omega), if_pos (by omega), Int.toNat_natCast, this, sa_one h1 hsa]
/-- The reference's Lcp. -/
theorem refLcp_l0 (hs : s.length ≤ 16777216) {sa : List Int} (hsa : IsSA s sa) (d : Nat) : ∀ r (o : List Int), s.length - r = d → r ≤ s.length → 1 ≤ r → o.length = s.length → (∀ q, q < r → q < s.length → ch o q = (lcv s sa q : Int)) → ∃ o', o'.length = s.length ∧ (∀ q, q < s.length → ch o' q = (lcv s sa q : Int)) ∧ ∀ k, s.length + 2 ≤ k → sapperref13_Lcp.l0 (k + d + 1) s (r : Int) sa o = some o' := by
  have hl := hsa.1
  induction d with
  | zero =>
    intro r o hd hr h1 ho hp
    refine ⟨o, ho, fun q hq => hp q (by omega) hq, fun k hk => ?_⟩
    rw [show k + 0 + 1 = k + 1 by omega, sapperref13_Lcp.l0, if_neg (by omega)]
  | succ d ih =>
    intro r o hd hr h1 ho hp
    obtain ⟨r, rfl⟩ : ∃ r', r = r' + 1 := ⟨r - 1, by omega⟩
    obtain ⟨a1, a2, _⟩ := sa_at hsa (show r < s.length by omega)
    obtain ⟨b1, b2, _⟩ := sa_at hsa (show r + 1 < s.length by omega)
    have hlc : lcv s sa (r + 1) = com s.length (ch s) (P sa r) (P sa (r + 1)) := by unfold lcv; rw [if_neg (by omega), Nat.add_sub_cancel]
    obtain ⟨o', g1, g2, g3⟩ := ih (r + 1 + 1) (o.set (r + 1) (lcv s sa (r + 1) : Int)) (by omega) (by omega) (by omega) (by rw [List.length_set]; exact ho) (fun q hq hq2 => by
      rw [ch_set _ _ _ _ (by omega)]
      by_cases e : r + 1 = q
      · rw [if_pos e, ← e]
      · rw [if_neg e]; exact hp q (by omega) hq2)
    refine ⟨o', g1, g2, fun k hk => ?_⟩
    rw [show k + (d + 1) + 1 = k + d + 1 + 1 by omega, sapperref13_Lcp.l0, if_pos (by omega), wp (x := ((r + 1 : Nat) : Int) - 1) (y := (r : Int)) (by omega) (by omega) (by omega), if_pos (by omega), if_pos (by omega), rd_nat, rd_nat, a1, b1, if_pos (by omega), if_pos (by omega), if_pos (by omega), if_pos (by omega), if_pos (by omega), Int.toNat_natCast, Int.toNat_natCast, refCommon_com hs _ _ (by omega), Option.bind_some, if_pos (by omega), Int.toNat_natCast, wp (x := ((r + 1 : Nat) : Int) + 1) (y := ((r + 1 + 1 : Nat) : Int)) (by omega) (by omega) (by omega), ← hlc]
    exact g3 k hk
theorem refLcp_ok (hs : s.length ≤ 16777216) (hb : BL s) {sa lc : List Int} (hsa : IsSA s sa) (hl : lc.length = s.length) (hlc : ∀ q, q < s.length → ch lc q = (lcv s sa q : Int)) : ∃ K, ∀ k, K ≤ k → sapperref13_Lcp.f k s = some lc := by
  obtain ⟨K, hK⟩ := refArray_ok hs hb hsa
  have hle := hsa.1
  by_cases h0 : s.length = 0
  · refine ⟨K + 1, fun k hk => ?_⟩
    unfold sapperref13_Lcp.f
    rw [hK _ (by omega), Option.bind_some, if_pos (by omega), if_pos (by omega)]
    obtain ⟨k, rfl⟩ : ∃ k', k = k' + 1 := ⟨k - 1, by omega⟩
    have e1 : lc = [] := List.eq_nil_of_length_eq_zero (by omega)
    rw [sapperref13_Lcp.l0, if_neg (by omega), hle, h0, e1]; rfl
  obtain ⟨o', g1, g2, g3⟩ := refLcp_l0 hs hsa (s.length - 1) 1 (List.replicate s.length 0) (by omega) (by omega) (by omega) (by simp) (fun q hq hq2 => by
    have : q = 0 := by omega
    subst this
    have e : lcv s sa 0 = 0 := by unfold lcv; rw [if_pos rfl]
    rw [e]
    unfold ch
    rw [List.getD_eq_getElem?_getD, List.getElem?_replicate, if_pos (by omega)]
    rfl)
  refine ⟨K + 2 * s.length + 10, fun k hk => ?_⟩
  unfold sapperref13_Lcp.f
  have := g3 (k - (s.length - 1) - 1) (by omega)
  rw [show k - (s.length - 1) - 1 + (s.length - 1) + 1 = k by omega, show ((1 : Nat) : Int) = 1 from rfl] at this
  rw [hK _ (by omega), Option.bind_some, if_pos (by omega), if_pos (by omega), Int.toNat_natCast, hle, this]
  exact congrArg some (ext_ch (by omega) fun q hq => by rw [g2 q (by omega), hlc q (by omega)])
end
end Go.Proofs.Ythcnnfahlhklgaa.SD
