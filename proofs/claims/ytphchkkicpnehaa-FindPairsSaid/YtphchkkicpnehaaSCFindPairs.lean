import Derived.Test.YtphchkkicpnehaaSB
import Derived.Test.YtphchkkicpnehaaXK
import Derived.Test.YtphchkkicpnehaaXx14
import Derived.Test.YtphchkkicpnehaaXx17
import Derived.Test.YtphchkkicpnehaaXx16
import Derived.Test.YtphchkkicpnehaaXA
import Derived.Test.YtphchkkicpnehaaXx19
import Derived.Test.YtphchkkicpnehaaXx20
import Derived.Test.YtphchkkicpnehaaXx15
import Derived.Test.YtphchkkicpnehaaXF
import Derived.Test.YtphchkkicpnehaaXx23
import Derived.Test.YtphchkkicpnehaaXx47
import Derived.Test.YtphchkkicpnehaaXx25
import Derived.Test.YtphchkkicpnehaaXx48
section
/- The printed functions sorted, same, New and the accessors of package suffix, and build: an index of any bytes (at most 2^24) has their order, the ranks, and what neighbours have in common. -/
namespace Go.Proofs.Ytphchkkicpnehaa.SD
open Go.RowKit Go.Proofs.Ytphchkkicpnehaa Go.Proofs.Ytphchkkicpnehaa.X Go.Proofs.Ytphchkkicpnehaa.SM Go.Proofs.YtphchkkicpnehaaW.PrintWords Go.Proofs.YtphchkkicpnehaaW.PrintLast

section
variable {s : List Int}
attribute [local irreducible] cn cv fr tov rk3 loc2 ch rank

theorem byte_wf' {x : Int} (h : (Lit.int .u8 x).wf = true) : 0 ≤ x ∧ x < 256 := by
  simp [Lit.wf, IntKind.min, IntKind.max, IntKind.signed, IntKind.bits] at h
  omega
/-- Bytes. -/
def Byt (s : List Int) : Prop := ∀ q, q < s.length → 0 ≤ ch s q ∧ ch s q < 256
theorem ch_mem' {l : List Int} {q : Nat} (h : q < l.length) : ch l q ∈ l := by
  unfold ch
  rw [List.getD_eq_getElem?_getD, List.getElem?_eq_getElem h]
  exact List.getElem_mem h
theorem byt_wf {l : List Int} (h : ∀ x ∈ l, (Lit.int .u8 x).wf = true) : Byt l := fun _ hq => byte_wf' (h _ (ch_mem' hq))

/-- Places by rank. -/
def P (sa : List Int) (r : Nat) : Nat := (ch sa r).toNat
theorem P_rank {sa : List Int} (h : IsSA s sa) {i : Nat} (hi : i < s.length) : P sa (rank s.length (ch s) i) = i := by
  unfold P; rw [h.2 i hi]; omega
theorem sa_at {sa : List Int} (h : IsSA s sa) {r : Nat} (hr : r < s.length) : ch sa r = (P sa r : Int) ∧ P sa r < s.length ∧ rank s.length (ch s) (P sa r) = r := by
  obtain ⟨i, hi, hir⟩ := rank_onto (c := ch s) hr
  have h1 := h.2 i hi
  rw [hir] at h1
  have h2 : P sa r = i := by unfold P; rw [h1]; omega
  rw [h2, h1]
  exact ⟨rfl, hi, hir⟩
/-- What the suffix of rank r has in common with the one ahead. -/
def lcv (s sa : List Int) (r : Nat) : Nat := if r = 0 then 0 else com s.length (ch s) (P sa (r - 1)) (P sa r)
/-- An index of s. -/
def IsIx (s : List Int) (x : S61) : Prop :=
  x.f0 = true ∧ x.f1 = s ∧ IsSA s x.f2 ∧ x.f3.length = s.length ∧ (∀ i, i < s.length → ch x.f3 i = (rank s.length (ch s) i : Int)) ∧
  x.f4.length = s.length ∧ ∀ r, r < s.length → ch x.f4 r = (lcv s x.f2 r : Int)

theorem sorted_loop (hs : s.length ≤ 16777216) (hb : Byt s) (d : Nat) : ∀ q (o : List Int), s.length - q = d → q ≤ s.length → o.length = s.length → (∀ j, j < q → ch o j = ch s j) → ∀ k, suffix_sorted.l0 (k + d + 1) o s (s.length : Int) (q : Int) = (sais_Array.f (k + d - (s.length - q)) 256 s).bind fun b => some (b.1, b.2) := by
  induction d with
  | zero =>
    intro q o hd hq ho hp k
    have e : o = s := by
      apply List.ext_getElem?
      intro j
      rcases Nat.lt_or_ge j s.length with hj | hj
      · have h1 := hp j (by omega)
        unfold ch at h1
        rw [List.getD_eq_getElem?_getD, List.getD_eq_getElem?_getD, List.getElem?_eq_getElem (by omega), List.getElem?_eq_getElem hj] at h1
        rw [List.getElem?_eq_getElem (by omega), List.getElem?_eq_getElem hj]
        simpa using h1
      · rw [List.getElem?_eq_none (by omega), List.getElem?_eq_none hj]
    rw [show k + 0 + 1 = k + 1 by omega, suffix_sorted.l0, if_neg (by omega), e, show k + 0 - (s.length - q) = k by omega]
  | succ d ih =>
    intro q o hd hq ho hp k
    have hv := hb q (by omega)
    have next := ih (q + 1) (o.set q (ch s q)) (by omega) (by omega) (by rw [List.length_set]; exact ho) (fun j hj => by
      rw [ch_set _ _ _ _ (by omega)]
      by_cases e : q = j
      · rw [if_pos e, ← e]
      · rw [if_neg e]; exact hp j (by omega)) k
    rw [show k + (d + 1) + 1 = k + d + 1 + 1 by omega, suffix_sorted.l0, if_pos (by omega), if_pos (by omega), if_pos (by omega), if_pos (by omega), rd_nat, wp (x := ch s q) rfl (by omega) (by omega), wp (x := (q : Int) + 1) (y := ((q + 1 : Nat) : Int)) (by omega) (by omega) (by omega), Int.toNat_natCast, next, show k + d - (s.length - (q + 1)) = k + (d + 1) - (s.length - q) by omega]
/-- The order of any bytes. -/
theorem sorted_ok (hs : s.length ≤ 16777216) (hb : Byt s) : ∃ K sa, (∀ k, K ≤ k → suffix_sorted.f k s = some (sa, 0)) ∧ IsSA s sa := by
  obtain ⟨K, sa, h1, h2⟩ := Array_ok (k0 := 256) (s := s) ⟨by omega, by omega, hs, hb⟩
  refine ⟨K + s.length + 1, sa, fun k hk => ?_, h2⟩
  unfold suffix_sorted.f
  rw [if_neg (by omega), if_pos (by omega), if_pos (by omega), Int.toNat_natCast]
  have := sorted_loop hs hb s.length 0 (List.replicate s.length 0) (by omega) (by omega) (by simp) (fun j hj => by omega) (k - s.length - 1)
  rw [show k - s.length - 1 + s.length + 1 = k by omega] at this
  rw [show ((0 : Nat) : Int) = 0 from rfl] at this
  rw [this, h1 _ (by omega)]; rfl

/-- same, from two places on. -/
theorem sameIx_loop {y : S61} (hy : y.f1 = s) (hs : s.length ≤ 16777216) {i j : Nat} (hi : i ≤ s.length) (hj : j ≤ s.length) (d : Nat) : ∀ q, com s.length (ch s) i j - q = d → q ≤ com s.length (ch s) i j → ∀ k, suffix_Index_same.l0 (k + d + 1) [y] (i : Int) (j : Int) (q : Int) = some (com s.length (ch s) i j : Int) := by
  have hrd : rd_T61 [y] 0 = y := rfl
  have hle := com_le (n := s.length) (c := ch s) i j
  have w1 : ∀ q : Nat, q ≤ s.length → wrap64 ((i : Int) + (q : Int)) = ((i + q : Nat) : Int) := fun q hq => wp (by omega) (by omega) (by omega)
  have w2 : ∀ q : Nat, q ≤ s.length → wrap64 ((j : Int) + (q : Int)) = ((j + q : Nat) : Int) := fun q hq => wp (by omega) (by omega) (by omega)
  induction d with
  | zero =>
    intro q hd hq k
    have hqe : q = com s.length (ch s) i j := by omega
    have he := com_end (n := s.length) (c := ch s) (i := i) (j := j)
    rw [← hqe] at he ⊢
    rw [show k + 0 + 1 = k + 1 by omega, suffix_Index_same.l0, hrd, hy, w1 q (by omega), w2 q (by omega), if_pos (by simp)]
    by_cases h1 : i + q < s.length
    · rw [if_pos (by omega)]
      by_cases h2 : j + q < s.length
      · rw [if_pos (by omega), if_pos (by omega), if_pos (by omega), rd_nat, rd_nat, if_neg (fun h3 => he ⟨h1, h2, h3⟩)]
      · rw [if_neg (by omega)]
    · rw [if_neg (by omega)]
  | succ d ih =>
    intro q hd hq k
    have hg := com_get (n := s.length) (c := ch s) (i := i) (j := j) (q := q) (by omega)
    rw [show k + (d + 1) + 1 = k + d + 1 + 1 by omega, suffix_Index_same.l0, hrd, hy, w1 q (by omega), w2 q (by omega), if_pos (by simp), if_pos (by omega), if_pos (by omega), if_pos (by omega), if_pos (by omega), rd_nat, rd_nat, if_pos hg.2.2, wp (x := (q : Int) + 1) (y := ((q + 1 : Nat) : Int)) (by omega) (by omega) (by omega)]
    exact ih (q + 1) (by omega) (by omega) k
theorem sameIx_f {y : S61} (hy : y.f1 = s) (hs : s.length ≤ 16777216) {i j : Nat} (hi : i ≤ s.length) (hj : j ≤ s.length) {k : Nat} (hk : com s.length (ch s) i j + 1 ≤ k) : suffix_Index_same.f k [y] (i : Int) (j : Int) = some (com s.length (ch s) i j : Int) := by
  unfold suffix_Index_same.f
  have := sameIx_loop hy hs hi hj (com s.length (ch s) i j) 0 (by omega) (by omega) (k - com s.length (ch s) i j - 1)
  rw [show k - com s.length (ch s) i j - 1 + com s.length (ch s) i j + 1 = k by omega] at this
  exact this

theorem build_r_ok (hs : s.length ≤ 16777216) {sa : List Int} (hsa : IsSA s sa) (d : Nat) : ∀ q (o : List Int), s.length - q = d → q ≤ s.length → o.length = s.length → (∀ i, i < s.length → rank s.length (ch s) i < q → ch o i = (rank s.length (ch s) i : Int)) →
    ∃ o', o'.length = s.length ∧ (∀ i, i < s.length → ch o' i = (rank s.length (ch s) i : Int)) ∧ ∀ k, build_r (k + d + 1) s.length sa o (q : Int) = some o' := by
  induction d with
  | zero =>
    intro q o hd hq ho hp
    refine ⟨o, ho, fun i hi => hp i hi (by have := rank_lt (c := ch s) hi; omega), fun k => ?_⟩
    rw [show k + 0 + 1 = k + 1 by omega, build_r, if_neg (by omega)]
  | succ d ih =>
    intro q o hd hq ho hp
    obtain ⟨h1, h2, h3⟩ := sa_at hsa (show q < s.length by omega)
    obtain ⟨o', g1, g2, g3⟩ := ih (q + 1) (o.set (P sa q) (q : Int)) (by omega) (by omega) (by rw [List.length_set]; exact ho) (fun i hi hr => by
      rw [ch_set _ _ _ _ (by omega)]
      by_cases e : P sa q = i
      · rw [if_pos e, ← e, h3]
      · rw [if_neg e]
        refine hp i hi ?_
        have : rank s.length (ch s) i ≠ q := fun e2 => e (rank_inj h2 hi (by rw [h3, e2]))
        omega)
    refine ⟨o', g1, g2, fun k => ?_⟩
    rw [show k + (d + 1) + 1 = k + d + 1 + 1 by omega, build_r, if_pos (by omega), if_pos (by omega), rd_nat, h1, if_pos (by omega), if_pos (by omega), Int.toNat_natCast, wp (x := (q : Int) + 1) (y := ((q + 1 : Nat) : Int)) (by omega) (by omega) (by omega)]
    exact g3 k

theorem build_l_ok (hs : s.length ≤ 16777216) {sa rk : List Int} (hsa : IsSA s sa) (hrl : rk.length = s.length) (hrk : ∀ i, i < s.length → ch rk i = (rank s.length (ch s) i : Int)) (d : Nat) : ∀ i h (l : List Int), s.length - i = d → i ≤ s.length → l.length = s.length → h ≤ s.length → (i < s.length → 0 < rank s.length (ch s) i → h ≤ com s.length (ch s) (P sa (rank s.length (ch s) i - 1)) i) →
    (∀ j, j < s.length → j < i ∨ rank s.length (ch s) j = 0 → ch l (rank s.length (ch s) j) = (lcv s sa (rank s.length (ch s) j) : Int)) →
    ∃ l', l'.length = s.length ∧ (∀ r, r < s.length → ch l' r = (lcv s sa r : Int)) ∧ ∀ k, build_l (k + d + 2) s.length s sa rk l (h : Int) (i : Int) = some l' := by
  induction d with
  | zero =>
    intro i h l hd hi hl hh hc hp
    refine ⟨l, hl, fun r hr => ?_, fun k => ?_⟩
    · obtain ⟨j, hj, hjr⟩ := rank_onto (c := ch s) hr
      rw [← hjr]; exact hp j hj (.inl (by omega))
    · rw [show k + 0 + 2 = k + 1 + 1 by omega, build_l, if_neg (by omega)]
  | succ d ih =>
    intro i h l hd hi hl hh hc hp
    have hi' : i < s.length := by omega
    have hrlt := rank_lt (c := ch s) hi'
    by_cases h0 : rank s.length (ch s) i = 0
    · obtain ⟨l', g1, g2, g3⟩ := ih (i + 1) 0 l (by omega) (by omega) hl (by omega) (fun _ _ => by omega) (fun j hj hji => hp j hj (by
        rcases hji with hji | hji
        · by_cases e : j = i
          · rw [e]; exact .inr h0
          · exact .inl (by omega)
        · exact .inr hji))
      refine ⟨l', g1, g2, fun k => ?_⟩
      rw [show k + (d + 1) + 2 = k + d + 2 + 1 by omega, build_l, if_pos (by omega), if_pos (by omega), rd_nat, hrk i hi', if_pos (by omega), wp (x := (i : Int) + 1) (y := ((i + 1 : Nat) : Int)) (by omega) (by omega) (by omega)]
      exact g3 k
    · obtain ⟨e1, e2, e3⟩ := sa_at hsa (show rank s.length (ch s) i - 1 < s.length by omega)
      have hc' := hc hi' (by omega)
      generalize hm : com s.length (ch s) (P sa (rank s.length (ch s) i - 1)) i = m at hc'
      generalize hj : P sa (rank s.length (ch s) i - 1) = j at *
      have hfr := com_from (n := s.length) (c := ch s) h j i (by omega)
      have hle := com_le (n := s.length) (c := ch s) j i
      have hcm : com s.length (ch s) (i + h) (j + h) = m - h := by rw [com_comm]; omega
      have hP : P sa (rank s.length (ch s) i) = i := P_rank hsa hi'
      have hl2 : ∀ r, r < s.length → ch (l.set (rank s.length (ch s) i) (m : Int)) r = if rank s.length (ch s) i = r then (m : Int) else ch l r := by
        intro r hr; exact ch_set _ _ _ _ (by omega)
      obtain ⟨l', g1, g2, g3⟩ := ih (i + 1) (m - 1) (l.set (rank s.length (ch s) i) (m : Int)) (by omega) (by omega) (by rw [List.length_set]; exact hl) (by omega)
        (fun hi1 hr1 => by
          have := (kasai (n := s.length) (c := ch s) (p := P sa) (fun i hi => P_rank hsa hi) hi1 (by omega)).1
          rw [hj, hm] at this
          omega)
        (fun j' hj' hji => by
          rw [hl2 _ (rank_lt hj')]
          by_cases e : rank s.length (ch s) i = rank s.length (ch s) j'
          · have := rank_inj hi' hj' e
            subst this
            rw [if_pos rfl]
            unfold lcv
            rw [if_neg h0, hj, hP, hm]
          · rw [if_neg e]
            refine hp j' hj' ?_
            rcases hji with hji | hji
            · have : j' ≠ i := fun e' => e (by rw [e'])
              exact .inl (by omega)
            · exact .inr hji)
      refine ⟨l', g1, g2, fun k => ?_⟩
      have hsm : suffix_Index_same.f (k + d + 2) [⟨true, s, sa, rk, l⟩] (((i + h : Nat) : Int)) (((j + h : Nat) : Int)) = some ((m - h : Nat) : Int) := by
        rw [sameIx_f (s := s) (y := ⟨true, s, sa, rk, l⟩) rfl hs (by omega) (by omega) (by rw [hcm]; omega), hcm]
      rw [show k + (d + 1) + 2 = k + d + 2 + 1 by omega, build_l, if_pos (by omega), if_pos (by omega), rd_nat, hrk i hi', if_neg (by omega), wp (x := (rank s.length (ch s) i : Int) - 1) (y := ((rank s.length (ch s) i - 1 : Nat) : Int)) (by omega) (by omega) (by omega), if_pos (by omega), if_pos (by omega), rd_nat, e1,
        wp (x := (i : Int) + (h : Int)) (y := ((i + h : Nat) : Int)) (by omega) (by omega) (by omega), wp (x := (j : Int) + (h : Int)) (y := ((j + h : Nat) : Int)) (by omega) (by omega) (by omega), hsm, Option.bind_some, if_pos (by omega), if_pos (by omega), Int.toNat_natCast,
        wp (x := (h : Int) + ((m - h : Nat) : Int)) (y := (m : Int)) (by omega) (by omega) (by omega), wp (x := (m : Int) - 1) (y := (m : Int) - 1) rfl (by omega) (by omega), show mx ((m : Int) - 1) 0 = ((m - 1 : Nat) : Int) by (unfold mx; split <;> omega), wp (x := (i : Int) + 1) (y := ((i + 1 : Nat) : Int)) (by omega) (by omega) (by omega)]
      exact g3 k

/-- build, of any bytes and their order. -/
theorem build_ok (hs : s.length ≤ 16777216) {sa : List Int} (hsa : IsSA s sa) : ∃ x, suffix_build.f s sa = some [x] ∧ x.f2 = sa ∧ IsIx s x := by
  obtain ⟨rk, r1, r2, r3⟩ := build_r_ok hs hsa s.length 0 (List.replicate s.length 0) (by omega) (by omega) (by simp) (fun i _ h => by omega)
  obtain ⟨lc, l1, l2, l3⟩ := build_l_ok hs hsa r1 r2 s.length 0 0 (List.replicate s.length 0) (by omega) (by omega) (by simp) (by omega) (fun _ _ => by omega) (fun j hj hji => by
    have h0 : rank s.length (ch s) j = 0 := by omega
    rw [h0]
    unfold lcv
    rw [if_pos rfl]
    unfold ch
    rw [List.getD_eq_getElem?_getD, List.getElem?_replicate]
    split <;> rfl)
  refine ⟨⟨true, s, sa, rk, lc⟩, ?_, rfl, rfl, rfl, hsa, r1, r2, l1, l2⟩
  unfold suffix_build.f
  have a1 := r3 0
  have a2 := l3 0
  rw [show 0 + s.length + 1 = s.length + 1 by omega, show ((0 : Nat) : Int) = 0 from rfl] at a1
  rw [show 0 + s.length + 2 = s.length + 2 by omega, show ((0 : Nat) : Int) = 0 from rfl] at a2
  rw [if_pos hs, if_pos hsa.1, a1, Option.bind_some, a2]; rfl
/-- New, of any bytes: an index of them. -/
theorem New_ok (hs : s.length ≤ 16777216) (hb : Byt s) : ∃ K x, (∀ k, K ≤ k → suffix_New.f k s = some ([x], 0)) ∧ IsIx s x := by
  obtain ⟨K, sa, h1, h2⟩ := sorted_ok hs hb
  obtain ⟨x, h3, _, h4⟩ := build_ok hs h2
  refine ⟨K, x, fun k hk => ?_, h4⟩
  unfold suffix_New.f
  rw [h1 k hk, Option.bind_some, if_pos rfl, h3]; rfl
end
end Go.Proofs.Ytphchkkicpnehaa.SD
end

section
/- The accessors of an index. -/
namespace Go.Proofs.Ytphchkkicpnehaa.SD
open Go.RowKit Go.Proofs.Ytphchkkicpnehaa Go.Proofs.Ytphchkkicpnehaa.X Go.Proofs.Ytphchkkicpnehaa.SM Go.Proofs.YtphchkkicpnehaaW.PrintWords Go.Proofs.YtphchkkicpnehaaW.PrintLast

section
variable {s : List Int} {x : S61}
attribute [local irreducible] cn cv fr tov rk3 loc2 ch rank
theorem is_f (hx : x.f0 = true) : suffix_Index_is.f [x] = some true := by
  unfold suffix_Index_is.f
  rw [if_neg (by simp), if_pos (by simp)]
  show some x.f0 = _
  rw [hx]
/-- place, of one number, and of two. -/
theorem place_end (l : List Int) (n : Int) (q : Int) (h : ¬ q < n) (k : Nat) : suffix_Index_place.l0 (k + 1) [x] l n q = some 0 := by
  rw [suffix_Index_place.l0, if_neg h]
theorem place_step (hx : x.f1 = s) (l : List Int) (q : Nat) (hq : q < l.length) (hl : l.length ≤ 1000) (k : Nat) : suffix_Index_place.l0 (k + 1) [x] l (l.length : Int) (q : Int) = if 0 ≤ ch l q ∧ ch l q < (s.length : Int) then suffix_Index_place.l0 k [x] l (l.length : Int) ((q + 1 : Nat) : Int) else some 132 := by
  rw [suffix_Index_place.l0, if_pos (by omega), if_pos (by omega), if_pos (by omega), rd_nat, show rd_T61 [x] 0 = x from rfl, hx]
  by_cases h1 : ch l q < 0
  · rw [if_pos h1, if_neg (by omega)]
  · rw [if_neg h1, if_pos (by simp)]
    by_cases h2 : ch l q ≥ (s.length : Int)
    · rw [if_pos h2, if_neg (by omega)]
    · rw [if_neg h2, if_pos (by omega), wp (x := (q : Int) + 1) (y := ((q + 1 : Nat) : Int)) (by omega) (by omega) (by omega)]
theorem place1_f (hx : IsIx s x) (i : Int) (k : Nat) : suffix_Index_place.f (k + 2) [x] [i] = some (if 0 ≤ i ∧ i < (s.length : Int) then 0 else 132) := by
  unfold suffix_Index_place.f
  rw [is_f hx.1, Option.bind_some, if_pos rfl]
  have h := place_step hx.2.1 [i] 0 (by simp) (by simp) (k + 1)
  have e : ch [i] 0 = i := by unfold ch; rfl
  rw [e] at h
  rw [show ((0 : Nat) : Int) = 0 from rfl] at h
  rw [h]
  split
  · rw [place_end _ _ _ (by simp)]
  · rfl
end
end Go.Proofs.Ytphchkkicpnehaa.SD
end

section
/- The unlike texts of any bytes, in their order: how many, which, that they rise; and Kth tells them. -/
namespace Go.Proofs.Ytphchkkicpnehaa.SD
open Go.RowKit Go.Proofs.Ytphchkkicpnehaa Go.Proofs.Ytphchkkicpnehaa.X Go.Proofs.Ytphchkkicpnehaa.SM Go.Proofs.YtphchkkicpnehaaW.PrintWords Go.Proofs.YtphchkkicpnehaaW.PrintLast

section
variable {s : List Int} {sa : List Int}
attribute [local irreducible] cn cv fr tov rk3 loc2 ch rank
/-- Texts that stand at a rank first. -/
def fresh (s sa : List Int) (r : Nat) : Nat := s.length - P sa r - lcv s sa r
def base (s sa : List Int) : Nat → Nat
  | 0 => 0
  | r + 1 => base s sa r + fresh s sa r
/-- The text. -/
def txt (s sa : List Int) (r j : Nat) : List Int := (s.drop (P sa r)).take (lcv s sa r + 1 + j)
theorem sa_slt (h : IsSA s sa) {r : Nat} (hr : r + 1 < s.length) : slt s.length (ch s) (P sa r) (P sa (r + 1)) = true := by
  obtain ⟨_, a1, a2⟩ := sa_at h (show r < s.length by omega)
  obtain ⟨_, b1, b2⟩ := sa_at h hr
  exact (rank_iff a1 b1).1 (by omega)
theorem lcv_at (sa : List Int) (r : Nat) : lcv s sa (r + 1) = com s.length (ch s) (P sa r) (P sa (r + 1)) := by
  unfold lcv; rw [if_neg (by omega), Nat.add_sub_cancel]
theorem fresh_pos (h : IsSA s sa) {r : Nat} (hr : r < s.length) : P sa r < s.length ∧ lcv s sa r < s.length - P sa r ∧ fresh s sa r + lcv s sa r + P sa r = s.length ∧ 0 < fresh s sa r := by
  have h1 := (sa_at h hr).2.1
  have h2 : lcv s sa r < s.length - P sa r := by
    cases r with
    | zero => unfold lcv; rw [if_pos rfl]; omega
    | succ r =>
      rw [lcv_at]
      have := (slt_com.1 (sa_slt h hr)).1
      omega
  refine ⟨h1, h2, ?_, ?_⟩ <;> (unfold fresh; omega)
theorem base_mono (s sa : List Int) {a b : Nat} (h : a ≤ b) : base s sa a ≤ base s sa b := by
  obtain ⟨d, rfl⟩ := Nat.exists_eq_add_of_le h
  clear h
  induction d with
  | zero => exact Nat.le_refl _
  | succ d ih =>
    have : base s sa (a + (d + 1)) = base s sa (a + d) + fresh s sa (a + d) := rfl
    omega
theorem base_one {r r2 j j2 : Nat} (h : base s sa r + j = base s sa r2 + j2) (h1 : j < fresh s sa r) (h2 : j2 < fresh s sa r2) : r = r2 ∧ j = j2 := by
  rcases Nat.lt_trichotomy r r2 with g | g | g
  · have := base_mono s sa (show r + 1 ≤ r2 by omega)
    have e : base s sa (r + 1) = base s sa r + fresh s sa r := rfl
    omega
  · subst g; exact ⟨rfl, by omega⟩
  · have := base_mono s sa (show r2 + 1 ≤ r by omega)
    have e : base s sa (r2 + 1) = base s sa r2 + fresh s sa r2 := rfl
    omega
theorem txt_len (h : IsSA s sa) {r j : Nat} (hr : r < s.length) (hj : j < fresh s sa r) : (txt s sa r j).length = lcv s sa r + 1 + j := by
  have := fresh_pos h hr
  unfold txt
  rw [List.length_take, List.length_drop]
  omega
/-- They rise. -/
theorem rise_in (h : IsSA s sa) {r j : Nat} (hr : r < s.length) (hj : j + 1 < fresh s sa r) : lessL (txt s sa r j) (txt s sa r (j + 1)) = true := by
  have l1 := txt_len h hr (show j < fresh s sa r by omega)
  have l2 := txt_len h hr hj
  refine lessL_of (lcv s sa r + 1 + j) (by omega) (fun q hq => ⟨by omega, ?_⟩) (.inl (by omega))
  unfold txt
  rw [ch_take, ch_take, if_pos hq, if_pos (by omega)]
theorem rise_next (h : IsSA s sa) {r j : Nat} (hr : r + 1 < s.length) (hj : j + 1 = fresh s sa r) : lessL (txt s sa r j) (txt s sa (r + 1) 0) = true := by
  have f1 := fresh_pos h (show r < s.length by omega)
  have f2 := fresh_pos h hr
  have l1 := txt_len h (show r < s.length by omega) (show j < fresh s sa r by omega)
  have l2 := txt_len h hr f2.2.2.2
  have hc := slt_com.1 (sa_slt h hr)
  have hl := lcv_at (s := s) sa r
  have hle := com_le (n := s.length) (c := ch s) (P sa r) (P sa (r + 1))
  refine lessL_of (lcv s sa (r + 1)) (by omega) (fun q hq => ⟨by omega, ?_⟩) ?_
  · have := com_get (n := s.length) (c := ch s) (i := P sa r) (j := P sa (r + 1)) (q := q) (by omega)
    unfold txt
    rw [ch_take, ch_take, if_pos (by omega), if_pos (by omega), ch_drop, ch_drop]
    exact this.2.2
  · by_cases g : (txt s sa r j).length ≤ lcv s sa (r + 1)
    · exact .inl g
    · refine .inr ?_
      unfold txt
      rw [ch_take, ch_take, if_pos (by omega), if_pos (by omega), ch_drop, ch_drop, hl]
      exact hc.2 (by omega)
/-- The last one told, ahead of number m. -/
def Prev (s sa : List Int) (m : Nat) (last : List Int) : Prop := m = 0 ∧ last = [] ∨ ∃ r j, r < s.length ∧ j < fresh s sa r ∧ m = base s sa r + j + 1 ∧ last = txt s sa r j
theorem rise (h : IsSA s sa) {r j : Nat} (hr : r < s.length) (hj : j < fresh s sa r) {last : List Int} (hp : Prev s sa (base s sa r + j) last) : lessL last (txt s sa r j) = true := by
  rcases hp with ⟨_, rfl⟩ | ⟨r', j', h1, h2, h3, rfl⟩
  · have := txt_len h hr hj
    cases he : txt s sa r j with
    | nil => rw [he, List.length_nil] at this; omega
    | cons a l => rfl
  · by_cases g : j' + 1 < fresh s sa r'
    · obtain ⟨rfl, rfl⟩ := base_one (j2 := j' + 1) (r2 := r') (by omega) hj g
      exact rise_in h h1 g
    · have e : base s sa (r' + 1) = base s sa r' + fresh s sa r' := rfl
      by_cases g2 : r' + 1 < s.length
      · obtain ⟨rfl, rfl⟩ := base_one (j2 := 0) (r2 := r' + 1) (by omega) hj (fresh_pos h g2).2.2.2
        exact rise_next h g2 (by omega)
      · have := base_mono s sa (show r + 1 ≤ r' + 1 by omega)
        have e2 : base s sa (r + 1) = base s sa r + fresh s sa r := rfl
        omega
theorem places (h : IsSA s sa) : ((List.range s.length).map (P sa)).Perm (List.range s.length) := by
  refine (List.perm_ext_iff_of_nodup ?_ List.nodup_range).2 fun x => ?_
  · refine List.pairwise_map.2 (List.Pairwise.imp_of_mem (R := fun a b => a < b) (fun {a b} ha hb hab => ?_) List.pairwise_lt_range)
    have ha := List.mem_range.1 ha
    have hb := List.mem_range.1 hb
    have h1 := (sa_at h ha).2.2
    have h2 := (sa_at h hb).2.2
    intro e
    rw [e] at h1
    omega
  · rw [List.mem_map, List.mem_range]
    constructor
    · rintro ⟨a, ha, rfl⟩
      exact (sa_at h (List.mem_range.1 ha)).2.1
    · intro hx
      exact ⟨rank s.length (ch s) x, List.mem_range.2 (rank_lt hx), P_rank h hx⟩

end
end Go.Proofs.Ytphchkkicpnehaa.SD
end

section
/- Seat of chapter 14: awake, index, made, Len, At. -/
namespace Go.Proofs.Ytphchkkicpnehaa.SD
open Go.RowKit Go.Proofs.Ytphchkkicpnehaa Go.Proofs.Ytphchkkicpnehaa.X Go.Proofs.Ytphchkkicpnehaa.SM Go.Proofs.YtphchkkicpnehaaW.PrintWords Go.Proofs.YtphchkkicpnehaaW.PrintLast

theorem awake_f : ∃ K, ∀ k, K ≤ k → sapperlaw14_awake.f k = some true := by
  have h : sapperlaw14_awake.f 400 = some true := by decide +kernel
  exact ⟨400, fun k hk => at_rounds (g := fun k => sapperlaw14_awake.f k) (fun k => sapperlaw14_awake.mono k) hk h⟩
section
variable {s : List Int} {x : S61}
attribute [local irreducible] cn cv fr tov rk3 loc2 ch rank
theorem index_ok (hs : s.length ≤ 16777216) (hb : Byt s) : ∃ K x, (∀ k, K ≤ k → sapperlaw14_index.f k s = some ([x], true)) ∧ IsIx s x := by
  obtain ⟨K, x, h, hx⟩ := New_ok hs hb
  refine ⟨K, x, fun k hk => ?_, hx⟩
  unfold sapperlaw14_index.f
  rw [h k hk, Option.bind_some, if_neg (by omega), if_pos rfl]; rfl
theorem At_in (hx : IsIx s x) {r : Nat} (hr : r < s.length) {k : Nat} (hk : 2 ≤ k) : suffix_Index_At.f k [x] (r : Int) = some ((P x.f2 r : Int), 0) := by
  unfold suffix_Index_At.f
  have h := place1_f hx (r : Int) (k - 2)
  have hl := hx.2.2.1.1
  rw [show k - 2 + 2 = k by omega] at h
  rw [h, if_pos (by omega), Option.bind_some, if_pos rfl, if_pos (by simp), if_pos (by omega), show rd_T61 [x] 0 = x from rfl, if_pos (by omega), rd_nat, (sa_at hx.2.2.1 hr).1]
theorem made_f (hx : IsIx s x) {k : Nat} (hk : 2 ≤ k) : find_made.f k [x] = some true := by
  unfold find_made.f suffix_Index_At.f
  have h := place1_f hx (-1) (k - 2)
  rw [show k - 2 + 2 = k by omega] at h
  rw [h, if_neg (by omega), Option.bind_some, if_neg (by decide)]; rfl
theorem Len_f (hx : IsIx s x) : suffix_Index_Len.f [x] = some (s.length : Int) := by
  unfold suffix_Index_Len.f
  rw [is_f hx.1, Option.bind_some, if_pos rfl, if_pos (by simp), show rd_T61 [x] 0 = x from rfl, hx.2.1]
end
end Go.Proofs.Ytphchkkicpnehaa.SD
end

section
/- A search over a test that rises finds where it turns. -/
namespace Go.Proofs.Ytphchkkicpnehaa.SD
open Go.RowKit Go.Proofs.Ytphchkkicpnehaa Go.Proofs.Ytphchkkicpnehaa.X Go.Proofs.Ytphchkkicpnehaa.SM Go.Proofs.YtphchkkicpnehaaW.PrintWords Go.Proofs.YtphchkkicpnehaaW.PrintLast

section
variable {x : List S61} {p : List Int} {t : Int → Bool} {n K0 : Nat} {c m : Nat → Int}
theorem srch_ok (hn : n ≤ 16777216) (hc : ∀ r, r < n → ∀ k, K0 ≤ k → find_compare.f k x (r : Int) p = some (c r, m r)) (hm : ∀ a b, a ≤ b → b < n → t (c a) = true → t (c b) = true) (d : Nat) : ∀ lo hi : Nat, hi - lo ≤ d → lo ≤ hi → hi ≤ n →
    ∃ r, lo ≤ r ∧ r ≤ hi ∧ (∀ q, lo ≤ q → q < r → t (c q) = false) ∧ (∀ q, r ≤ q → q < hi → t (c q) = true) ∧ ∀ k, K0 + d + 1 ≤ k → srch t k x p (lo : Int) (hi : Int) = some (r : Int) := by
  induction d with
  | zero =>
    intro lo hi hd hle hhi
    refine ⟨lo, Nat.le_refl _, hle, fun q h1 h2 => by omega, fun q h1 h2 => by omega, fun k hk => ?_⟩
    obtain ⟨k, rfl⟩ : ∃ k', k = k' + 1 := ⟨k - 1, by omega⟩
    rw [srch, if_neg (by omega)]
  | succ d ih =>
    intro lo hi hd hle hhi
    by_cases hlt : lo < hi
    · have hmid : lo + (hi - lo) / 2 < hi := by omega
      have e1 : wrap64 ((lo : Int) + wrap64 (Int.tdiv (wrap64 ((hi : Int) - (lo : Int))) 2)) = ((lo + (hi - lo) / 2 : Nat) : Int) := by
        rw [wp (x := (hi : Int) - (lo : Int)) (y := ((hi - lo : Nat) : Int)) (by omega) (by omega) (by omega), Int.tdiv_eq_ediv_of_nonneg (by omega),
          wp (x := ((hi - lo : Nat) : Int) / 2) (y := (((hi - lo) / 2 : Nat) : Int)) (by omega) (by omega) (by omega),
          wp (x := (lo : Int) + (((hi - lo) / 2 : Nat) : Int)) (y := ((lo + (hi - lo) / 2 : Nat) : Int)) (by omega) (by omega) (by omega)]
      have hmd : lo ≤ lo + (hi - lo) / 2 := by omega
      generalize lo + (hi - lo) / 2 = md at *
      by_cases ht : t (c md) = true
      · obtain ⟨r, g1, g2, g3, g4, g5⟩ := ih lo md (by omega) (by omega) (by omega)
        refine ⟨r, g1, by omega, g3, fun q h1 h2 => ?_, fun k hk => ?_⟩
        · by_cases hq : q < md
          · exact g4 q h1 hq
          · exact hm md q (by omega) (by omega) ht
        · obtain ⟨k, rfl⟩ : ∃ k', k = k' + 1 := ⟨k - 1, by omega⟩
          rw [srch, if_pos (by omega), e1, hc md (by omega) k (by omega), Option.bind_some, if_pos ht]
          exact g5 k (by omega)
      · obtain ⟨r, g1, g2, g3, g4, g5⟩ := ih (md + 1) hi (by omega) (by omega) (by omega)
        refine ⟨r, by omega, g2, fun q h1 h2 => ?_, g4, fun k hk => ?_⟩
        · by_cases hq : q ≤ md
          · rw [Bool.eq_false_iff]
            exact fun h => ht (hm q md hq (by omega) h)
          · exact g3 q (by omega) h2
        · obtain ⟨k, rfl⟩ : ∃ k', k = k' + 1 := ⟨k - 1, by omega⟩
          rw [srch, if_pos (by omega), e1, hc md (by omega) k (by omega), Option.bind_some, if_neg ht, wp (x := (md : Int) + 1) (y := ((md + 1 : Nat) : Int)) (by omega) (by omega) (by omega)]
          exact g5 k (by omega)
    · refine ⟨lo, Nat.le_refl _, hle, fun q h1 h2 => by omega, fun q h1 h2 => by omega, fun k hk => ?_⟩
      obtain ⟨k, rfl⟩ : ∃ k', k = k' + 1 := ⟨k - 1, by omega⟩
      rw [srch, if_neg (by omega)]
end
end Go.Proofs.Ytphchkkicpnehaa.SD
end

section
/- Compare, plain: how many bytes a suffix and a text have in common, and which is less; by rank it rises. -/
namespace Go.Proofs.Ytphchkkicpnehaa.SD
open Go.RowKit Go.Proofs.Ytphchkkicpnehaa Go.Proofs.Ytphchkkicpnehaa.X Go.Proofs.Ytphchkkicpnehaa.SM Go.Proofs.YtphchkkicpnehaaW.PrintWords Go.Proofs.YtphchkkicpnehaaW.PrintLast

section
variable {s p u v : List Int} {x : S61}
attribute [local irreducible] cn cv fr tov rk3 loc2 ch rank
theorem cml_fit (d : Nat) : ∀ q, u.length - q = d → cml u v q ≤ u.length - q ∧ cml u v q ≤ v.length - q := by
  induction d with
  | zero => intro q h; rw [cml, dif_neg (by omega)]; omega
  | succ d ih =>
    intro q h
    rw [cml, dif_pos (by omega)]
    split
    · have := ih (q + 1) (by omega); omega
    · omega
theorem cml_get (d : Nat) : ∀ q, u.length - q = d → ∀ j, j < cml u v q → q + j < u.length ∧ q + j < v.length ∧ ch u (q + j) = ch v (q + j) := by
  induction d with
  | zero => intro q h j hj; rw [cml, dif_neg (by omega)] at hj; omega
  | succ d ih =>
    intro q h j hj
    rw [cml, dif_pos (by omega)] at hj
    split at hj
    · rename_i hq
      cases j with
      | zero => exact ⟨by omega, by omega, hq.2⟩
      | succ j =>
        have := ih (q + 1) (by omega) j (by omega)
        rw [show q + 1 + j = q + (j + 1) by omega] at this
        exact this
    · omega
theorem cml_stop (d : Nat) : ∀ q, u.length - q = d → ¬ (q + cml u v q < u.length ∧ q + cml u v q < v.length ∧ ch u (q + cml u v q) = ch v (q + cml u v q)) := by
  induction d with
  | zero => intro q h; omega
  | succ d ih =>
    intro q h
    rw [cml, dif_pos (by omega)]
    by_cases hq : q < v.length ∧ ch u q = ch v q
    · rw [if_pos hq]
      have := ih (q + 1) (by omega)
      rw [show q + (cml u v (q + 1) + 1) = q + 1 + cml u v (q + 1) by omega]
      exact this
    · rw [if_neg hq, Nat.add_zero]
      exact fun h => hq h.2
theorem cmp_l_ok (hu : u.length ≤ 9223372036854775000) (d : Nat) : ∀ q, u.length - q = d → ∀ k, cmp_l (k + d + 1) u v (q : Int) = some ((q + cml u v q : Nat) : Int) := by
  induction d with
  | zero =>
    intro q h k
    rw [show k + 0 + 1 = k + 1 by omega, cmp_l, if_neg (by omega), cml, dif_neg (by omega), Nat.add_zero]
  | succ d ih =>
    intro q h k
    rw [show k + (d + 1) + 1 = k + d + 1 + 1 by omega, cmp_l, if_pos (by omega), cml, dif_pos (by omega)]
    by_cases h1 : q < v.length
    · rw [if_pos (by omega), if_pos (by omega), rd_nat, rd_nat]
      by_cases h2 : ch u q = ch v q
      · rw [if_pos h2, if_pos ⟨h1, h2⟩, wp (x := (q : Int) + 1) (y := ((q + 1 : Nat) : Int)) (by omega) (by omega) (by omega), ih (q + 1) (by omega), show q + 1 + cml u v (q + 1) = q + (cml u v (q + 1) + 1) by omega]
      · rw [if_neg h2, if_neg (fun h => h2 h.2), Nat.add_zero]
    · rw [if_neg (by omega), if_neg (fun h => h1 h.1), Nat.add_zero]
/-- -1, 0, 1: less, it begins with p, greater. -/
def sgn (u p : List Int) : Int := if cml u p 0 = p.length then 0 else if cml u p 0 = u.length then -1 else if ch u (cml u p 0) < ch p (cml u p 0) then -1 else 1
theorem Compare_f (hs : s.length ≤ 16777216) (hx : IsIx s x) {i : Nat} (hi : i < s.length) {k : Nat} (hk : s.length + 4 ≤ k) : suffix_Index_Compare.f k [x] (i : Int) p = some (sgn (s.drop i) p, (cml (s.drop i) p 0 : Int), 0) := by
  unfold suffix_Index_Compare.f
  have h := place1_f hx (i : Int) (k - 2)
  rw [show k - 2 + 2 = k by omega] at h
  have hl := cmp_l_ok (u := s.drop i) (v := p) (by rw [List.length_drop]; omega) (s.drop i).length 0 (by omega) (k - (s.drop i).length - 1)
  have hd : (s.drop i).length = s.length - i := List.length_drop
  rw [show k - (s.drop i).length - 1 + (s.drop i).length + 1 = k by omega, show ((0 : Nat) : Int) = 0 from rfl, Nat.zero_add] at hl
  have hf := cml_fit (u := s.drop i) (v := p) _ 0 rfl
  rw [h, if_pos (by omega), Option.bind_some, if_pos rfl, if_pos (by simp), if_pos (by omega), show rd_T61 [x] 0 = x from rfl, hx.2.1, if_pos (by omega), Int.toNat_natCast, hl, Option.bind_some]
  unfold sgn
  by_cases c1 : cml (s.drop i) p 0 = p.length
  · rw [if_pos (by omega), if_pos c1]
  · rw [if_neg (by omega), if_neg c1, if_pos (by omega), if_pos (by omega)]
    by_cases c2 : cml (s.drop i) p 0 = (s.drop i).length
    · rw [if_pos (by omega), if_pos c2]
    · rw [if_neg (by omega), if_neg c2, if_pos (by omega), rd_nat, rd_nat]
      by_cases c3 : ch (s.drop i) (cml (s.drop i) p 0) < ch p (cml (s.drop i) p 0)
      · rw [if_pos c3, if_pos c3]
      · rw [if_neg c3, if_neg c3]
theorem compare_f (hs : s.length ≤ 16777216) (hx : IsIx s x) {r : Nat} (hr : r < s.length) {k : Nat} (hk : s.length + 4 ≤ k) : find_compare.f k [x] (r : Int) p = some (sgn (s.drop (P x.f2 r)) p, (cml (s.drop (P x.f2 r)) p 0 : Int)) := by
  unfold find_compare.f
  rw [At_in hx hr (by omega), Option.bind_some]
  dsimp only
  rw [Compare_f hs hx (sa_at hx.2.2.1 hr).2.1 hk]; rfl
end
end Go.Proofs.Ytphchkkicpnehaa.SD
end

section
/- By rank, what compare tells rises; how many are less than a text, by place and by rank. -/
namespace Go.Proofs.Ytphchkkicpnehaa.SD
open Go.RowKit Go.Proofs.Ytphchkkicpnehaa Go.Proofs.Ytphchkkicpnehaa.X Go.Proofs.Ytphchkkicpnehaa.SM Go.Proofs.YtphchkkicpnehaaW.PrintWords Go.Proofs.YtphchkkicpnehaaW.PrintLast

section
variable {s p u v : List Int} {x : S61} {sa : List Int}
attribute [local irreducible] cv fr tov rk3 loc2 ch rank
theorem cml_is (m : Nat) (h1 : m ≤ u.length) (h2 : m ≤ v.length) (h : ∀ q, q < m → ch u q = ch v q) (hs : ¬ (m < u.length ∧ m < v.length ∧ ch u m = ch v m)) : cml u v 0 = m := by
  have a := cml_stop (u := u) (v := v) _ 0 rfl
  have b := cml_get (u := u) (v := v) _ 0 rfl
  rw [Nat.zero_add] at a
  rcases Nat.lt_trichotomy (cml u v 0) m with g | g | g
  · exact absurd ⟨by omega, by omega, h _ g⟩ a
  · exact g
  · have := b m g
    rw [Nat.zero_add] at this
    exact absurd this hs
theorem sgn_cases (u p : List Int) : sgn u p = -1 ∨ sgn u p = 0 ∨ sgn u p = 1 := by
  unfold sgn
  split
  · exact .inr (.inl rfl)
  · split
    · exact .inl rfl
    · split
      · exact .inl rfl
      · exact .inr (.inr rfl)
/-- Greater, if it parts from p upward. -/
theorem sgn_up (m : Nat) (h1 : m < u.length) (h2 : m < p.length) (h : ∀ q, q < m → ch u q = ch p q) (hg : ch p m < ch u m) : sgn u p = 1 := by
  have e := cml_is (u := u) (v := p) m (by omega) (by omega) h (fun z => by omega)
  unfold sgn
  rw [e, if_neg (by omega), if_neg (by omega), if_neg (by omega)]
theorem sgn_mono {i j : Nat} (h : slt s.length (ch s) i j = true) : sgn (s.drop i) p ≤ sgn (s.drop j) p := by
  obtain ⟨h1, h2⟩ := slt_com.1 h
  have hc := fun q => com_get (n := s.length) (c := ch s) (i := i) (j := j) (q := q)
  have li : (s.drop i).length = s.length - i := List.length_drop
  have lj : (s.drop j).length = s.length - j := List.length_drop
  have gi := cml_get (u := s.drop i) (v := p) _ 0 rfl
  have fi := cml_fit (u := s.drop i) (v := p) _ 0 rfl
  have si := cml_stop (u := s.drop i) (v := p) _ 0 rfl
  rw [Nat.zero_add] at si
  have ag : ∀ q, q < cml (s.drop i) p 0 → ch (s.drop i) q = ch p q := fun q hq => by
    have := (gi q hq).2.2
    rw [Nat.zero_add] at this
    exact this
  have hle := com_le (n := s.length) (c := ch s) i j
  by_cases c1 : com s.length (ch s) i j < cml (s.drop i) p 0
  · have : sgn (s.drop j) p = 1 := by
      refine sgn_up (com s.length (ch s) i j) (by omega) (by omega) (fun q hq => ?_) ?_
      · rw [ch_drop, ← (hc q hq).2.2, ← ch_drop, ag q (by omega)]
      · rw [← ag _ c1, ch_drop, ch_drop]
        exact h2 (by omega)
    have := sgn_cases (s.drop i) p
    omega
  · have agj : ∀ q, q < cml (s.drop i) p 0 → ch (s.drop j) q = ch p q := fun q hq => by
      rw [ch_drop, ← (hc q (by omega)).2.2, ← ch_drop, ag q hq]
    by_cases c2 : cml (s.drop i) p 0 = p.length
    · have e0 : sgn (s.drop i) p = 0 := by unfold sgn; rw [if_pos c2]
      have e1 : sgn (s.drop j) p = 0 := by
        have : cml (s.drop j) p 0 = p.length := cml_is p.length (by omega) (Nat.le_refl _) (fun q hq => agj q (by omega)) (fun z => by omega)
        unfold sgn; rw [if_pos this]
      omega
    · rcases sgn_cases (s.drop i) p with e | e | e
      · have := sgn_cases (s.drop j) p; omega
      · unfold sgn at e
        rw [if_neg c2] at e
        split at e
        · exact absurd e (by decide)
        · split at e <;> exact absurd e (by decide)
      · have : sgn (s.drop j) p = 1 := by
          unfold sgn at e
          rw [if_neg c2] at e
          split at e
          · exact absurd e (by decide)
          · rename_i c3
            split at e
            · exact absurd e (by decide)
            · rename_i c4
              have hne : ch (s.drop i) (cml (s.drop i) p 0) ≠ ch p (cml (s.drop i) p 0) := fun z => si ⟨by omega, by omega, z⟩
              refine sgn_up (cml (s.drop i) p 0) (by omega) (by omega) agj ?_
              by_cases c5 : cml (s.drop i) p 0 < com s.length (ch s) i j
              · rw [ch_drop, ← (hc _ c5).2.2, ← ch_drop]; omega
              · have e5 : cml (s.drop i) p 0 = com s.length (ch s) i j := by omega
                rw [ch_drop] at c4 hne ⊢
                rw [e5] at c4 hne c3 ⊢
                have := h2 (by omega)
                omega
        omega
/-- A count over places is one over ranks. -/
theorem cn_range (n : Nat) (T : Nat → Bool) : cn n T = (List.range n).countP T := by
  induction n with
  | zero => rfl
  | succ n ih =>
    rw [List.range_succ, List.countP_append, ← ih, cn]
    cases hT : T n <;> simp [hT]
theorem cn_rank (h : IsSA s sa) (T : Nat → Bool) : cn s.length (fun r => T (P sa r)) = cn s.length T := by
  rw [cn_range, cn_range, ← (places h).countP_eq T, List.countP_map]; rfl
theorem cn_below {n m : Nat} (hm : m ≤ n) {T : Nat → Bool} (h1 : ∀ q, q < m → T q = true) (h2 : ∀ q, m ≤ q → q < n → T q = false) : cn n T = m := by
  induction n with
  | zero =>
    have : m = 0 := by omega
    subst this; rfl
  | succ n ih =>
    by_cases e : m = n + 1
    · subst e
      exact cn_true fun j hj => h1 j hj
    · have := ih (by omega) (fun q a b => h2 q a (by omega))
      rw [cn, this, h2 n (by omega) (by omega)]; rfl
end
end Go.Proofs.Ytphchkkicpnehaa.SD
end

section
/- bounds and Range, plain: as many as are less, and as many as are not greater. -/
namespace Go.Proofs.Ytphchkkicpnehaa.SD
open Go.RowKit Go.Proofs.Ytphchkkicpnehaa Go.Proofs.Ytphchkkicpnehaa.X Go.Proofs.Ytphchkkicpnehaa.SM Go.Proofs.YtphchkkicpnehaaW.PrintWords Go.Proofs.YtphchkkicpnehaaW.PrintLast

section
variable {s p : List Int} {x : S61} {sa : List Int}
attribute [local irreducible] cv fr tov rk3 loc2 ch rank
/-- Less than p, by place. -/
def lss (s p : List Int) (i : Nat) : Bool := decide (sgn (s.drop i) p < 0)
/-- Not greater than p, by place. -/
def leq (s p : List Int) (i : Nat) : Bool := decide (sgn (s.drop i) p ≤ 0)
theorem sgn_ranks (h : IsSA s sa) {a b : Nat} (hab : a ≤ b) (hb : b < s.length) : sgn (s.drop (P sa a)) p ≤ sgn (s.drop (P sa b)) p := by
  by_cases e : a = b
  · rw [e]; exact Int.le_refl _
  · obtain ⟨_, a1, a2⟩ := sa_at h (show a < s.length by omega)
    obtain ⟨_, b1, b2⟩ := sa_at h hb
    exact sgn_mono ((rank_iff a1 b1).1 (by omega))
theorem cn_turn {n : Nat} {T : Nat → Bool} (m : ∀ a b, a ≤ b → b < n → T b = true → T a = true) {r : Nat} (hr : r < n) : T r = true ↔ r < cn n T := by
  constructor
  · intro h
    have h1 : cn (r + 1) T = r + 1 := cn_true fun j hj => m j r (by omega) hr h
    have h2 := cn_up (P := T) (show r + 1 ≤ n by omega)
    omega
  · intro h
    by_cases hT : T r = true
    · exact hT
    · have h1 : cn n T ≤ cn n (fun j => decide (j < r)) := cn_mono fun j hj hj2 => by
        rw [decide_eq_true_eq]
        rcases Nat.lt_or_ge j r with g | g
        · exact g
        · exact absurd (m r j g hj hj2) hT
      have h2 : cn n (fun j => decide (j < r)) = r := cn_below (by omega) (fun q hq => by rw [decide_eq_true_eq]; exact hq) (fun q h1 h2 => by rw [decide_eq_false_iff_not]; omega)
      omega
/-- In the ranks of a text's range its suffixes begin with it, elsewhere none does. -/
theorem range_begins (h : IsSA s sa) (p : List Int) {r : Nat} (hr : r < s.length) : (cn s.length (lss s p) ≤ r ∧ r < cn s.length (leq s p)) ↔ cml (s.drop (P sa r)) p 0 = p.length := by
  have e1 := cn_rank h (lss s p)
  have e2 := cn_rank h (leq s p)
  have m1 : ∀ a b, a ≤ b → b < s.length → lss s p (P sa b) = true → lss s p (P sa a) = true := fun a b hab hb ht => by
    have := sgn_ranks (p := p) h hab hb
    unfold lss at ht ⊢
    simp only [decide_eq_true_eq] at ht ⊢
    omega
  have m2 : ∀ a b, a ≤ b → b < s.length → leq s p (P sa b) = true → leq s p (P sa a) = true := fun a b hab hb ht => by
    have := sgn_ranks (p := p) h hab hb
    unfold leq at ht ⊢
    simp only [decide_eq_true_eq] at ht ⊢
    omega
  have k1 := cn_turn (T := fun r => lss s p (P sa r)) m1 hr
  have k2 := cn_turn (T := fun r => leq s p (P sa r)) m2 hr
  rw [e1] at k1
  rw [e2] at k2
  have key : (lss s p (P sa r) = false ∧ leq s p (P sa r) = true) ↔ cml (s.drop (P sa r)) p 0 = p.length := by
    unfold lss leq
    simp only [decide_eq_false_iff_not, decide_eq_true_eq]
    constructor
    · intro ⟨a, b⟩
      have : sgn (s.drop (P sa r)) p = 0 := by omega
      unfold sgn at this
      split at this
      · assumption
      · split at this
        · exact absurd this (by decide)
        · split at this <;> exact absurd this (by decide)
    · intro e
      have : sgn (s.drop (P sa r)) p = 0 := by unfold sgn; rw [if_pos e]
      omega
  rw [← key]
  constructor
  · intro ⟨a, b⟩
    exact ⟨by rw [Bool.eq_false_iff]; exact fun z => by have := k1.1 z; omega, k2.2 b⟩
  · intro ⟨a, b⟩
    refine ⟨?_, k2.1 b⟩
    rcases Nat.lt_or_ge r (cn s.length (lss s p)) with g | g
    · have := k1.2 g; rw [a] at this; exact absurd this (by decide)
    · exact g
theorem bounds_ok (hs : s.length ≤ 16777216) (hx : IsIx s x) (p : List Int) : ∃ K, ∀ k, K ≤ k → find_bounds.f k [x] p = some ((cn s.length (lss s p) : Int), (cn s.length (leq s p) : Int)) := by
  have hsa := hx.2.2.1
  obtain ⟨lo, _, g2, g3, g4, g5⟩ := srch_ok (x := [x]) (p := p) (t := fun c => decide (c ≥ 0)) (n := s.length) (K0 := s.length + 4) (c := fun r => sgn (s.drop (P x.f2 r)) p) (m := fun r => (cml (s.drop (P x.f2 r)) p 0 : Int)) hs (fun r hr k hk => compare_f hs hx hr hk) (fun a b hab hb ht => by
    have := sgn_ranks (p := p) hsa hab hb
    simp only [decide_eq_true_eq] at ht ⊢
    omega) s.length 0 s.length (by omega) (by omega) (by omega)
  obtain ⟨hi, k1, k2, k3, k4, k5⟩ := srch_ok (x := [x]) (p := p) (t := fun c => decide (c > 0)) (n := s.length) (K0 := s.length + 4) (c := fun r => sgn (s.drop (P x.f2 r)) p) (m := fun r => (cml (s.drop (P x.f2 r)) p 0 : Int)) hs (fun r hr k hk => compare_f hs hx hr hk) (fun a b hab hb ht => by
    have := sgn_ranks (p := p) hsa hab hb
    simp only [decide_eq_true_eq] at ht ⊢
    omega) s.length lo s.length (by omega) (by omega) (by omega)
  have e1 : cn s.length (lss s p) = lo := by
    rw [← cn_rank hsa (lss s p)]
    refine cn_below g2 (fun q hq => ?_) (fun q h1 h2 => ?_)
    · have := g3 q (by omega) hq
      unfold lss
      simp only [decide_eq_false_iff_not, decide_eq_true_eq] at this ⊢
      omega
    · have := g4 q h1 h2
      unfold lss
      simp only [decide_eq_false_iff_not, decide_eq_true_eq] at this ⊢
      omega
  have e2 : cn s.length (leq s p) = hi := by
    rw [← cn_rank hsa (leq s p)]
    refine cn_below k2 (fun q hq => ?_) (fun q h1 h2 => ?_)
    · unfold leq
      by_cases hq2 : q < lo
      · have := g3 q (by omega) hq2
        simp only [decide_eq_false_iff_not, decide_eq_true_eq] at this ⊢
        omega
      · have := k3 q (by omega) hq
        simp only [decide_eq_false_iff_not, decide_eq_true_eq] at this ⊢
        omega
    · have := k4 q h1 h2
      unfold leq
      simp only [decide_eq_false_iff_not, decide_eq_true_eq] at this ⊢
      omega
  refine ⟨2 * s.length + 6, fun k hk => ?_⟩
  unfold find_bounds.f
  have := g5 k (by omega)
  rw [show ((0 : Nat) : Int) = 0 from rfl] at this
  rw [Len_f hx, Option.bind_some, this, Option.bind_some, k5 k (by omega), Option.bind_some, e1, e2]
end
end Go.Proofs.Ytphchkkicpnehaa.SD
end

section
/- The longest beginning of a text that stands anywhere: what most tells, from the rank where the text would stand and the one ahead. -/
namespace Go.Proofs.Ytphchkkicpnehaa.SD
open Go.RowKit Go.Proofs.Ytphchkkicpnehaa Go.Proofs.Ytphchkkicpnehaa.X Go.Proofs.Ytphchkkicpnehaa.SM Go.Proofs.YtphchkkicpnehaaW.PrintWords Go.Proofs.YtphchkkicpnehaaW.PrintLast

section
variable {s p u v : List Int} {x : S61} {sa : List Int}
attribute [local irreducible] cv fr tov rk3 loc2 ch rank
theorem cml_agree {a q : Nat} (hq : q < cml (s.drop a) p 0) : a + q < s.length ∧ q < p.length ∧ ch s (a + q) = ch p q := by
  have h := cml_get (u := s.drop a) (v := p) _ 0 rfl q hq
  rw [Nat.zero_add, List.length_drop, ch_drop] at h
  exact ⟨by omega, h.2⟩
theorem cml_parts (s p : List Int) (a : Nat) : ¬ (a + cml (s.drop a) p 0 < s.length ∧ cml (s.drop a) p 0 < p.length ∧ ch s (a + cml (s.drop a) p 0) = ch p (cml (s.drop a) p 0)) := by
  have h := cml_stop (u := s.drop a) (v := p) _ 0 rfl
  rw [Nat.zero_add, List.length_drop, ch_drop] at h
  exact fun z => h ⟨by omega, z.2⟩
theorem cml_fits (s p : List Int) (a : Nat) : cml (s.drop a) p 0 ≤ s.length - a ∧ cml (s.drop a) p 0 ≤ p.length := by
  have h := cml_fit (u := s.drop a) (v := p) _ 0 rfl
  rw [List.length_drop] at h
  omega
end
end Go.Proofs.Ytphchkkicpnehaa.SD
end

section
/- The least place of the longest beginning: what Longest tells, and what the document tells, are one. -/
namespace Go.Proofs.Ytphchkkicpnehaa.SD
open Go.RowKit Go.Proofs.Ytphchkkicpnehaa Go.Proofs.Ytphchkkicpnehaa.X Go.Proofs.Ytphchkkicpnehaa.SM Go.Proofs.YtphchkkicpnehaaW.PrintWords Go.Proofs.YtphchkkicpnehaaW.PrintLast

section
variable {s p : List Int}
attribute [local irreducible] cv fr tov rk3 loc2 ch rank
/-- A text cut at m stands where m bytes are in common. -/
theorem cml_take {a m : Nat} (hm : m ≤ p.length) : cml (s.drop a) (p.take m) 0 = min (cml (s.drop a) p 0) m := by
  have hf := cml_fits s p a
  have hl : (p.take m).length = m := by rw [List.length_take]; omega
  have hs := cml_parts s p a
  have ht : ∀ q, q < m → ch (p.take m) q = ch p q := fun q hq => by rw [ch_take, if_pos hq]
  refine cml_is _ (by rw [List.length_drop]; omega) (by omega) (fun q hq => ?_) (fun z => ?_)
  · rw [ch_drop, ht q (by omega)]
    exact (cml_agree (s := s) (p := p) (a := a) (by omega)).2.2
  · rw [List.length_drop, hl] at z
    have e : min (cml (s.drop a) p 0) m = cml (s.drop a) p 0 := by omega
    rw [e] at z
    rw [ch_drop, ht _ (by omega)] at z
    exact hs ⟨by omega, by omega, z.2.2⟩
end
end Go.Proofs.Ytphchkkicpnehaa.SD
end

section
/- The document's common and Longest, of a text of any length. -/
namespace Go.Proofs.Ytphchkkicpnehaa.SD
open Go.RowKit Go.Proofs.Ytphchkkicpnehaa Go.Proofs.Ytphchkkicpnehaa.X Go.Proofs.Ytphchkkicpnehaa.SM Go.Proofs.YtphchkkicpnehaaW.PrintWords Go.Proofs.YtphchkkicpnehaaW.PrintLast

section
variable {s p l : List Int}
attribute [local irreducible] cv fr tov rk3 loc2 ch rank
end
end Go.Proofs.Ytphchkkicpnehaa.SD
end

section
/- placesOf, plain: where a text stands, rising. -/
namespace Go.Proofs.Ytphchkkicpnehaa.SD
open Go.RowKit Go.Proofs.Ytphchkkicpnehaa Go.Proofs.Ytphchkkicpnehaa.X Go.Proofs.Ytphchkkicpnehaa.SM Go.Proofs.YtphchkkicpnehaaW.PrintWords Go.Proofs.YtphchkkicpnehaaW.PrintLast

section
variable {s p : List Int} {x : S61} {sa : List Int}
attribute [local irreducible] cv fr tov rk3 loc2 ch rank
/-- It begins with p. -/
def std (s p : List Int) (i : Nat) : Bool := decide (cml (s.drop i) p 0 = p.length)
/-- The places of p, rising. -/
def plcN (s p : List Int) (n : Nat) : List Int := ((List.range n).filter (std s p)).map fun i : Nat => (i : Int)
/-- The places of so many ranks. -/
def rks (sa : List Int) (lo d : Nat) : List Int := (List.range d).map fun j => (P sa (lo + j) : Int)
theorem plc_pw (n : Nat) : (plcN s p n).Pairwise (fun a b => a < b) := by
  unfold plcN
  rw [List.pairwise_map]
  exact (List.pairwise_lt_range.filter _).imp (fun h => by omega)
theorem P_inj (h : IsSA s sa) {a b : Nat} (ha : a < s.length) (hb : b < s.length) (e : P sa a = P sa b) : a = b := by
  have h1 := (sa_at h ha).2.2
  have h2 := (sa_at h hb).2.2
  rw [e] at h1
  omega
theorem rks_perm (h : IsSA s sa) (p : List Int) {lo hi : Nat} (hlo : lo = cn s.length (lss s p)) (hhi : hi = cn s.length (leq s p)) : (rks sa lo (hi - lo)).Perm (plcN s p s.length) := by
  have hle : hi ≤ s.length := by rw [hhi]; exact cn_le _
  refine (List.perm_ext_iff_of_nodup ?_ ((plc_pw _).imp fun h => by omega)).2 fun i => ?_
  · unfold rks
    refine List.pairwise_map.2 (List.Pairwise.imp_of_mem (R := fun a b => a < b) (fun {a b} ha hb hab e => ?_) List.pairwise_lt_range)
    have ha := List.mem_range.1 ha
    have hb := List.mem_range.1 hb
    have := P_inj h (show lo + a < s.length by omega) (show lo + b < s.length by omega) (by omega)
    omega
  · unfold rks plcN
    rw [List.mem_map, List.mem_map]
    constructor
    · rintro ⟨j, hj, rfl⟩
      have hj := List.mem_range.1 hj
      have h1 := (range_begins h p (show lo + j < s.length by omega)).1 ⟨by omega, by omega⟩
      exact ⟨P sa (lo + j), List.mem_filter.2 ⟨List.mem_range.2 (sa_at h (show lo + j < s.length by omega)).2.1, by unfold std; rw [decide_eq_true_eq]; exact h1⟩, rfl⟩
    · rintro ⟨j, hj, rfl⟩
      obtain ⟨hj, hs⟩ := List.mem_filter.1 hj
      have hj := List.mem_range.1 hj
      have hm := (places h).mem_iff.2 (List.mem_range.2 hj)
      obtain ⟨r, hr, e⟩ := List.mem_map.1 hm
      have hr := List.mem_range.1 hr
      unfold std at hs
      rw [decide_eq_true_eq, ← e] at hs
      have h1 := (range_begins h p hr).2 hs
      exact ⟨r - lo, List.mem_range.2 (by omega), by rw [show lo + (r - lo) = r by omega, e]⟩
theorem sort_plc {o : List Int} (h : o.Perm (plcN s p s.length)) : o.mergeSort (fun x y => decide (x ≤ y)) = plcN s p s.length := by
  refine List.Perm.eq_of_pairwise (le := fun a b : Int => a ≤ b) (fun a b _ _ h1 h2 => by omega) ?_ ((plc_pw _).imp (fun h => by omega)) ((List.mergeSort_perm _ _).trans h)
  exact (List.pairwise_mergeSort (le := fun x y : Int => decide (x ≤ y)) (fun a b c h1 h2 => by simp only [decide_eq_true_eq] at *; omega) (fun a b => by simp only [Bool.or_eq_true, decide_eq_true_eq]; omega) o).imp (fun h => by simpa using h)
theorem places_l0 (hs : s.length ≤ 16777216) (hx : IsIx s x) (p : List Int) {lo hi : Nat} (hlo : lo = cn s.length (lss s p)) (hhi : hi = cn s.length (leq s p)) (d : Nat) : ∀ q, hi - (lo + q) = d → lo + q ≤ hi → ∀ k, find_placesOf.l0 (k + d + 3) [x] (hi : Int) (rks x.f2 lo q) ((lo + q : Nat) : Int) = some (plcN s p s.length) := by
  have hle : hi ≤ s.length := by rw [hhi]; exact cn_le _
  have hlen : ∀ q, (rks x.f2 lo q).length = q := fun q => by unfold rks; rw [List.length_map, List.length_range]
  induction d with
  | zero =>
    intro q hd hq k
    have : q = hi - lo := by omega
    subst this
    rw [show k + 0 + 3 = k + 2 + 1 by omega, find_placesOf.l0, if_neg (by omega)]
    unfold slices_Sort_int_int.f
    rw [if_pos (by rw [hlen]; omega), sort_plc (rks_perm hx.2.2.1 p hlo hhi)]; rfl
  | succ d ih =>
    intro q hd hq k
    have e : rks x.f2 lo (q + 1) = rks x.f2 lo q ++ [(P x.f2 (lo + q) : Int)] := by unfold rks; rw [List.range_succ, List.map_append]; rfl
    have hl := hlen q
    rw [show k + (d + 1) + 3 = k + d + 3 + 1 by omega, find_placesOf.l0, if_pos (by omega), At_in hx (by omega) (by omega), Option.bind_some]
    dsimp only
    rw [if_pos (by omega), ← e, wp (x := ((lo + q : Nat) : Int) + 1) (y := ((lo + (q + 1) : Nat) : Int)) (by omega) (by omega) (by omega)]
    exact ih (q + 1) (by omega) (by omega) k
theorem places_ok (hs : s.length ≤ 16777216) (hx : IsIx s x) (p : List Int) : ∃ K, ∀ k, K ≤ k → find_placesOf.f k [x] p = some (plcN s p s.length) := by
  obtain ⟨K, h⟩ := bounds_ok hs hx p
  have hle : cn s.length (leq s p) ≤ s.length := cn_le _
  have hll : cn s.length (lss s p) ≤ cn s.length (leq s p) := cn_mono (fun i hi h => by
    unfold lss at h; unfold leq
    simp only [decide_eq_true_eq] at h ⊢
    omega)
  refine ⟨K + 2 * s.length + 10, fun k hk => ?_⟩
  unfold find_placesOf.f
  have g := places_l0 hs hx p rfl rfl (cn s.length (leq s p) - cn s.length (lss s p)) 0 (by omega) (by omega) (k - (cn s.length (leq s p) - cn s.length (lss s p)) - 3)
  rw [show k - (cn s.length (leq s p) - cn s.length (lss s p)) - 3 + (cn s.length (leq s p) - cn s.length (lss s p)) + 3 = k by omega] at g
  rw [h k (by omega), Option.bind_some]
  dsimp only
  rw [wp (x := (cn s.length (leq s p) : Int) - (cn s.length (lss s p) : Int)) (y := ((cn s.length (leq s p) - cn s.length (lss s p) : Nat) : Int)) (by omega) (by omega) (by omega), if_pos (by omega), if_pos (by omega)]
  exact g
theorem Data_f (hs : s.length ≤ 16777216) (hx : IsIx s x) : suffix_Index_Data.f [x] = some s := by
  unfold suffix_Index_Data.f
  rw [Len_f hx, Option.bind_some, if_pos (by omega), if_pos (by omega), Option.bind_some, is_f hx.1, Option.bind_some, if_pos rfl, if_pos (by simp), show rd_T61 [x] 0 = x from rfl, hx.2.1]
  unfold copy_u8.f
  rw [Option.bind_some]
  dsimp only
  rw [Int.toNat_natCast, cpy_all _ _ (by simp)]
end
end Go.Proofs.Ytphchkkicpnehaa.SD
end

section
/- Matches, plain: the program's list and the document's are the first so many of one list. -/
namespace Go.Proofs.Ytphchkkicpnehaa.SD
open Go.RowKit Go.Proofs.Ytphchkkicpnehaa Go.Proofs.Ytphchkkicpnehaa.X Go.Proofs.Ytphchkkicpnehaa.SM Go.Proofs.YtphchkkicpnehaaW.PrintWords Go.Proofs.YtphchkkicpnehaaW.PrintLast

section
variable {s p : List Int} {x : S61}
attribute [local irreducible] cv fr tov rk3 loc2 ch rank
/-- How much a place of s and one of p have in common. -/
def cc (s p : List Int) (i j : Nat) : Nat := cml (s.drop i) (p.drop j) 0
/-- Does it go on ahead? -/
def ahd (s p : List Int) (i j : Nat) : Bool := decide (0 < i ∧ 0 < j ∧ ch s (i - 1) = ch p (j - 1))
def good (s p : List Int) (L : Nat) (j i : Nat) : Bool := !ahd s p i j && decide (L ≤ cc s p i j)
/-- The matches of one place of p, among the first n of s. -/
def one (s p : List Int) (L j n : Nat) : List (Nat × Nat × Nat) := ((List.range n).filter (good s p L j)).map fun i => (i, j, cc s p i j)
def allM (s p : List Int) (L : Nat) : Nat → List (Nat × Nat × Nat)
  | 0 => []
  | j + 1 => allM s p L j ++ one s p L j s.length
theorem all_full (L M : Nat) (d : Nat) : ∀ j, M ≤ (allM s p L j).length → (allM s p L (j + d)).take M = (allM s p L j).take M := by
  induction d with
  | zero => intro j _; rfl
  | succ d ih =>
    intro j h
    have e := ih j h
    have hl : M ≤ (allM s p L (j + d)).length := by
      have := congrArg List.length e
      rw [List.length_take, List.length_take] at this
      omega
    show (allM s p L (j + d) ++ one s p L (j + d) s.length).take M = _
    rw [List.take_append_of_le_length hl, e]
theorem one_none {L j : Nat} (h : p.length < j + L) (hL : 1 ≤ L) (n : Nat) : one s p L j n = [] := by
  unfold one
  have : (List.range n).filter (good s p L j) = [] := List.filter_eq_nil_iff.2 fun i _ => by
    have := cml_fits s (p.drop j) i
    rw [List.length_drop] at this
    unfold good
    rw [Bool.and_eq_true, decide_eq_true_eq]
    unfold cc
    omega
  rw [this]; rfl
theorem all_none {L : Nat} (hL : 1 ≤ L) (d : Nat) : ∀ j, p.length < j + L → allM s p L (j + d) = allM s p L j := by
  induction d with
  | zero => intro j _; rfl
  | succ d ih =>
    intro j h
    show allM s p L (j + d) ++ one s p L (j + d) s.length = _
    rw [one_none (by omega) hL, List.append_nil, ih j h]
def mkM (q : Nat × Nat × Nat) : S51 := ⟨(q.1 : Int), (q.2.1 : Int), (q.2.2 : Int)⟩
/-- The places that are left of a list of places, those that go on ahead struck out. -/
def rst (s p : List Int) (j : Nat) (T : List Nat) : List (Nat × Nat × Nat) := (T.filter fun i => !ahd s p i j).map fun i => (i, j, cc s p i j)
theorem rst_all (L j : Nat) : rst s p j ((List.range s.length).filter fun i => decide (L ≤ cc s p i j)) = one s p L j s.length := by
  unfold rst one
  rw [List.filter_filter]
  rfl
theorem m_l2 (hs : s.length ≤ 16777216) (hp : p.length ≤ 140737488351232) {L M : Int} {i j c : Nat} (hi : i < s.length) (hj : j ≤ p.length) (hc : c = cc s p i j) (out : List S51) (ho : out.length ≤ 16777216) (T : List Int) (tl q : Int) {R : List S51 × Int}
    (next : ∃ K, ∀ k, K ≤ k → (if ((out ++ [mkM (i, j, c)]).length : Int) = M then find_Matches.l0 k [x] p L M (out ++ [mkM (i, j, c)]) ((j + 1 : Nat) : Int) s else find_Matches.l1 k [x] p L M s (out ++ [mkM (i, j, c)]) (j : Int) s T tl (wrap64 (q + 1))) = some R) (d : Nat) :
    ∀ n, c - n = d → n ≤ c → ∃ K, ∀ k, K ≤ k → find_Matches.l2 k [x] p L M s out (j : Int) (i : Int) (n : Int) s T tl q = some R := by
  have hf := cml_fits s (p.drop j) i
  rw [List.length_drop] at hf
  have hcf : c ≤ s.length - i ∧ c ≤ p.length - j := by rw [hc]; exact hf
  induction d with
  | zero =>
    intro n hd hn
    obtain ⟨K, h⟩ := next
    have e : n = c := by omega
    subst e
    have hst := cml_parts s (p.drop j) i
    rw [List.length_drop, ch_drop] at hst
    have hst : ¬ (i + n < s.length ∧ n < p.length - j ∧ ch s (i + n) = ch p (j + n)) := by rw [hc]; exact hst
    refine ⟨K + 1, fun k hk => ?_⟩
    obtain ⟨k, rfl⟩ : ∃ k', k = k' + 1 := ⟨k - 1, by omega⟩
    have h := h k (by omega)
    have em : (⟨(i : Int), (j : Int), (n : Int)⟩ : S51) = mkM (i, j, n) := rfl
    rw [find_Matches.l2, wp (x := (j : Int) + (n : Int)) (y := ((j + n : Nat) : Int)) (by omega) (by omega) (by omega), wp (x := (i : Int) + (n : Int)) (y := ((i + n : Nat) : Int)) (by omega) (by omega) (by omega), wp (x := (j : Int) + 1) (y := ((j + 1 : Nat) : Int)) (by omega) (by omega) (by omega), em]
    by_cases c1 : j + n < p.length
    · rw [if_pos (by omega)]
      by_cases c2 : i + n < s.length
      · rw [if_pos (by omega), if_pos (by omega), if_pos (by omega), rd_nat, rd_nat, if_neg (fun z => hst ⟨c2, by omega, z.symm⟩), if_pos (by omega), Option.bind_some]
        exact h
      · rw [if_neg (by omega), if_pos (by omega), Option.bind_some]
        exact h
    · rw [if_neg (by omega), if_pos (by omega), Option.bind_some]
      exact h
  | succ d ih =>
    intro n hd hn
    obtain ⟨K, h⟩ := ih (n + 1) (by omega) (by omega)
    have ag := cml_agree (s := s) (p := p.drop j) (a := i) (q := n) (by show n < cc s p i j; omega)
    rw [List.length_drop, ch_drop] at ag
    refine ⟨K + 1, fun k hk => ?_⟩
    obtain ⟨k, rfl⟩ : ∃ k', k = k' + 1 := ⟨k - 1, by omega⟩
    rw [find_Matches.l2, wp (x := (j : Int) + (n : Int)) (y := ((j + n : Nat) : Int)) (by omega) (by omega) (by omega), wp (x := (i : Int) + (n : Int)) (y := ((i + n : Nat) : Int)) (by omega) (by omega) (by omega), if_pos (by omega), if_pos (by omega), if_pos (by omega), if_pos (by omega), rd_nat, rd_nat, if_pos ag.2.2.symm, wp (x := (n : Int) + 1) (y := ((n + 1 : Nat) : Int)) (by omega) (by omega) (by omega)]
    exact h k (by omega)
theorem m_l1 (hs : s.length ≤ 16777216) (hp : p.length ≤ 140737488351232) {L M : Nat} (hM : M ≤ 16777216) {j : Nat} (hj : j ≤ p.length) (T : List Nat) (hT : ∀ i, i ∈ T → i < s.length ∧ L ≤ cc s p i j) (hTl : T.length ≤ 16777216) {R : List S51 × Int} (d : Nat) :
    ∀ q (out : List S51), T.length - q = d → q ≤ T.length → out.length < M → (∃ K, ∀ k, K ≤ k → find_Matches.l0 k [x] p (L : Int) (M : Int) ((out ++ (rst s p j (T.drop q)).map mkM).take M) ((j + 1 : Nat) : Int) s = some R) →
      ∃ K, ∀ k, K ≤ k → find_Matches.l1 k [x] p (L : Int) (M : Int) s out (j : Int) s (T.map fun i : Nat => (i : Int)) (T.length : Int) (q : Int) = some R := by
  induction d with
  | zero =>
    intro q out hd hq ho next
    obtain ⟨K, h⟩ := next
    have e : T.drop q = [] := List.drop_eq_nil_of_le (by omega)
    rw [e] at h
    have e2 : (out ++ (rst s p j []).map mkM).take M = out := by
      show (out ++ []).take M = out
      rw [List.append_nil, List.take_of_length_le (by omega)]
    rw [e2] at h
    refine ⟨K + 1, fun k hk => ?_⟩
    obtain ⟨k, rfl⟩ : ∃ k', k = k' + 1 := ⟨k - 1, by omega⟩
    rw [find_Matches.l1, if_neg (by omega), wp (x := (j : Int) + 1) (y := ((j + 1 : Nat) : Int)) (by omega) (by omega) (by omega)]
    exact h k (by omega)
  | succ d ih =>
    intro q out hd hq ho next
    obtain ⟨i, hi⟩ : ∃ i, T[q]? = some i := ⟨_, List.getElem?_eq_getElem (show q < T.length by omega)⟩
    have hdr : T.drop q = i :: T.drop (q + 1) := by
      rw [List.drop_eq_getElem_cons (show q < T.length by omega)]
      have : T[q] = i := by rw [List.getElem?_eq_getElem (show q < T.length by omega)] at hi; exact Option.some.inj hi
      rw [this]
    have hin := hT i (List.mem_of_getElem? hi)
    have hrd : rd (T.map fun i : Nat => (i : Int)) (q : Int) = (i : Int) := by
      rw [rd_nat]
      unfold ch
      rw [List.getD_eq_getElem?_getD, List.getElem?_map, hi]; rfl
    have hml : (T.map fun i : Nat => (i : Int)).length = T.length := List.length_map _
    -- one place: it goes on ahead, or is taken
    have take : ahd s p i j = false → ∃ K, ∀ k, K ≤ k → find_Matches.l2 k [x] p (L : Int) (M : Int) s out (j : Int) (i : Int) (L : Int) s (T.map fun i : Nat => (i : Int)) (T.length : Int) (q : Int) = some R := fun ha => by
      refine m_l2 hs hp hin.1 hj rfl out (by omega) _ _ _ ?_ (cc s p i j - L) L rfl hin.2
      have er : rst s p j (T.drop q) = (i, j, cc s p i j) :: rst s p j (T.drop (q + 1)) := by
        rw [hdr]
        unfold rst
        rw [List.filter_cons, ha]; rfl
      rw [er, List.map_cons] at next
      have hlen : (out ++ [mkM (i, j, cc s p i j)]).length = out.length + 1 := by rw [List.length_append, List.length_singleton]
      by_cases c : out.length + 1 = M
      · obtain ⟨K, h⟩ := next
        refine ⟨K, fun k hk => ?_⟩
        rw [if_pos (by omega)]
        have h := h k hk
        have e : (out ++ mkM (i, j, cc s p i j) :: (rst s p j (T.drop (q + 1))).map mkM).take M = out ++ [mkM (i, j, cc s p i j)] := by
          rw [show out ++ mkM (i, j, cc s p i j) :: (rst s p j (T.drop (q + 1))).map mkM = (out ++ [mkM (i, j, cc s p i j)]) ++ (rst s p j (T.drop (q + 1))).map mkM by rw [List.append_assoc]; rfl, List.take_append_of_le_length (by omega), List.take_of_length_le (by omega)]
        rw [e] at h
        exact h
      · obtain ⟨K, h⟩ := ih (q + 1) (out ++ [mkM (i, j, cc s p i j)]) (by omega) (by omega) (by omega) (by
          rw [List.append_assoc]; exact next)
        refine ⟨K, fun k hk => ?_⟩
        rw [if_neg (by omega), wp (x := (q : Int) + 1) (y := ((q + 1 : Nat) : Int)) (by omega) (by omega) (by omega)]
        exact h k hk
    have skip : ahd s p i j = true → ∃ K, ∀ k, K ≤ k → find_Matches.l1 k [x] p (L : Int) (M : Int) s out (j : Int) s (T.map fun i : Nat => (i : Int)) (T.length : Int) ((q + 1 : Nat) : Int) = some R := fun ha => by
      refine ih (q + 1) out (by omega) (by omega) ho ?_
      have er : rst s p j (T.drop q) = rst s p j (T.drop (q + 1)) := by
        rw [hdr]
        unfold rst
        rw [List.filter_cons, ha]; rfl
      rw [er] at next
      exact next
    have hj3 : ∀ b, ahd s p i j = b → ∃ K, ∀ k, K ≤ k → find_Matches.j3 k [x] p (L : Int) (M : Int) s out (j : Int) (i : Int) s (T.map fun i : Nat => (i : Int)) (T.length : Int) (q : Int) b = some R := fun b hb => by
      cases b with
      | true =>
        obtain ⟨K, h⟩ := skip hb
        refine ⟨K + 1, fun k hk => ?_⟩
        obtain ⟨k, rfl⟩ : ∃ k', k = k' + 1 := ⟨k - 1, by omega⟩
        rw [find_Matches.j3, if_pos rfl, wp (x := (q : Int) + 1) (y := ((q + 1 : Nat) : Int)) (by omega) (by omega) (by omega)]
        exact h k (by omega)
      | false =>
        obtain ⟨K, h⟩ := take hb
        refine ⟨K + 1, fun k hk => ?_⟩
        obtain ⟨k, rfl⟩ : ∃ k', k = k' + 1 := ⟨k - 1, by omega⟩
        rw [find_Matches.j3, if_neg (by decide)]
        exact h k (by omega)
    obtain ⟨K, h⟩ := hj3 _ rfl
    refine ⟨K + 1, fun k hk => ?_⟩
    obtain ⟨k, rfl⟩ : ∃ k', k = k' + 1 := ⟨k - 1, by omega⟩
    have h := h k (by omega)
    rw [find_Matches.l1, if_pos (by omega), if_pos (by omega), if_pos (by omega), hrd]
    by_cases c1 : 0 < j
    · rw [if_pos (by omega)]
      by_cases c2 : 0 < i
      · rw [if_pos (by omega), wp (x := (j : Int) - 1) (y := ((j - 1 : Nat) : Int)) (by omega) (by omega) (by omega), wp (x := (i : Int) - 1) (y := ((i - 1 : Nat) : Int)) (by omega) (by omega) (by omega), if_pos (by omega), if_pos (by omega), if_pos (by omega), if_pos (by omega), rd_nat, rd_nat]
        have e : (ch p (j - 1) == ch s (i - 1)) = ahd s p i j := by
          unfold ahd
          rw [Bool.eq_iff_iff, beq_iff_eq, decide_eq_true_eq]
          exact ⟨fun h => ⟨c2, c1, h.symm⟩, fun h => h.2.2.symm⟩
        rw [e]
        exact h
      · rw [if_neg (by omega)]
        have e : ahd s p i j = false := by unfold ahd; rw [decide_eq_false_iff_not]; exact fun z => c2 z.1
        rw [e] at h
        exact h
    · rw [if_neg (by omega)]
      have e : ahd s p i j = false := by unfold ahd; rw [decide_eq_false_iff_not]; exact fun z => c1 z.2.1
      rw [e] at h
      exact h
end
end Go.Proofs.Ytphchkkicpnehaa.SD
end

section
/- Matches, plain: what the program's and the document's answer, both the first so many of one list. -/
namespace Go.Proofs.Ytphchkkicpnehaa.SD
open Go.RowKit Go.Proofs.Ytphchkkicpnehaa Go.Proofs.Ytphchkkicpnehaa.X Go.Proofs.Ytphchkkicpnehaa.SM Go.Proofs.YtphchkkicpnehaaW.PrintWords Go.Proofs.YtphchkkicpnehaaW.PrintLast

section
variable {s p : List Int} {x : S61}
attribute [local irreducible] cv fr tov rk3 loc2 ch rank
theorem std_cut {L j : Nat} (h : j + L ≤ p.length) : std s ((p.take (j + L)).drop j) = fun i => decide (L ≤ cc s p i j) := by
  have e : (p.take (j + L)).drop j = (p.drop j).take L := by rw [List.drop_take]; congr 1; omega
  funext i
  have hm : L ≤ (p.drop j).length := by rw [List.length_drop]; omega
  unfold std
  rw [e, cml_take hm, List.length_take, Nat.min_eq_left hm]
  unfold cc
  have hf := (cml_fits s (p.drop j) i).2
  by_cases c : L ≤ cml (s.drop i) (p.drop j) 0
  · rw [decide_eq_true c, decide_eq_true (Nat.min_eq_right c)]
  · rw [decide_eq_false c, decide_eq_false (by omega)]
theorem m_l0 (hs : s.length ≤ 16777216) (hx : IsIx s x) (hp : p.length ≤ 140737488351232) {L M : Nat} (hL : 1 ≤ L) (hM : M ≤ 16777216) (d : Nat) :
    ∀ j, p.length - j = d → j ≤ p.length → j + L ≤ 9223372036854775807 → ∃ K, ∀ k, K ≤ k → find_Matches.l0 k [x] p (L : Int) (M : Int) (((allM s p L j).take M).map mkM) (j : Int) s = some (((allM s p L p.length).take M).map mkM, 0) := by
  have last : ∀ j, ((allM s p L p.length).take M = (allM s p L j).take M) → ∀ k, find_Matches.j1 (k + 1) [x] p (L : Int) (M : Int) s (((allM s p L j).take M).map mkM) (j : Int) s false = some (((allM s p L p.length).take M).map mkM, 0) := fun j e k => by
    rw [find_Matches.j1, if_neg (by decide), e]
  have step : ∀ j, j ≤ p.length → j + L ≤ 9223372036854775807 → (∀ _ : j + L ≤ p.length, ∃ K, ∀ k, K ≤ k → find_Matches.l0 k [x] p (L : Int) (M : Int) (((allM s p L (j + 1)).take M).map mkM) ((j + 1 : Nat) : Int) s = some (((allM s p L p.length).take M).map mkM, 0)) → ∃ K, ∀ k, K ≤ k → find_Matches.l0 k [x] p (L : Int) (M : Int) (((allM s p L j).take M).map mkM) (j : Int) s = some (((allM s p L p.length).take M).map mkM, 0) := by
    intro j hj hjL next
    by_cases c : j + L ≤ p.length
    · by_cases c2 : ((allM s p L j).take M).length < M
      · have hla : (allM s p L j).length < M := by rw [List.length_take] at c2; omega
        have htk : (allM s p L j).take M = allM s p L j := List.take_of_length_le (by omega)
        obtain ⟨K1, h1⟩ := places_ok hs hx ((p.take (j + L)).drop j)
        have hpl : plcN s ((p.take (j + L)).drop j) s.length = ((List.range s.length).filter fun i => decide (L ≤ cc s p i j)).map fun i : Nat => (i : Int) := by
          unfold plcN
          rw [std_cut c]
        have hTl : ((List.range s.length).filter fun i => decide (L ≤ cc s p i j)).length ≤ 16777216 := by
          have := List.length_filter_le (fun i => decide (L ≤ cc s p i j)) (List.range s.length)
          rw [List.length_range] at this
          omega
        obtain ⟨K2, h2⟩ := m_l1 (x := x) hs hp (L := L) hM hj ((List.range s.length).filter fun i => decide (L ≤ cc s p i j)) (fun i hi => by
          obtain ⟨a, b⟩ := List.mem_filter.1 hi
          exact ⟨List.mem_range.1 a, of_decide_eq_true b⟩) hTl (R := (((allM s p L p.length).take M).map mkM, 0)) _ 0 ((allM s p L j).map mkM) rfl (Nat.zero_le _) (by rw [List.length_map]; omega) (by
            obtain ⟨K, h⟩ := next c
            refine ⟨K, fun k hk => ?_⟩
            have e : ((allM s p L j).map mkM ++ (rst s p j (((List.range s.length).filter fun i => decide (L ≤ cc s p i j)).drop 0)).map mkM).take M = ((allM s p L (j + 1)).take M).map mkM := by
              rw [List.drop_zero, rst_all, ← List.map_append, ← List.map_take]; rfl
            rw [e]
            exact h k hk)
        refine ⟨K1 + K2 + 2, fun k hk => ?_⟩
        obtain ⟨k, rfl⟩ : ∃ k', k = k' + 2 := ⟨k - 2, by omega⟩
        have h2 := h2 k (by omega)
        rw [show ((0 : Nat) : Int) = 0 from rfl] at h2
        rw [htk, show k + 2 = k + 1 + 1 by omega, find_Matches.l0, wp (x := (j : Int) + (L : Int)) (y := ((j + L : Nat) : Int)) (by omega) (by omega) (by omega), if_pos (by omega), List.length_map, decide_eq_true (by omega : ((allM s p L j).length : Int) < (M : Int)), find_Matches.j1, if_pos rfl, wp (x := (j : Int) + (L : Int)) (y := ((j + L : Nat) : Int)) (by omega) (by omega) (by omega), if_pos (by omega), if_pos (by omega), if_pos (by omega), Int.toNat_natCast, Int.toNat_natCast, h1 k (by omega), Option.bind_some, hpl, List.length_map]
        exact h2
      · refine ⟨2, fun k hk => ?_⟩
        obtain ⟨k, rfl⟩ : ∃ k', k = k' + 2 := ⟨k - 2, by omega⟩
        have hl : M ≤ (allM s p L j).length := by rw [List.length_take] at c2; omega
        have e := all_full (s := s) (p := p) L M (p.length - j) j hl
        rw [show j + (p.length - j) = p.length by omega] at e
        rw [show k + 2 = k + 1 + 1 by omega, find_Matches.l0, wp (x := (j : Int) + (L : Int)) (y := ((j + L : Nat) : Int)) (by omega) (by omega) (by omega), if_pos (by omega), decide_eq_false (by rw [List.length_map]; omega : ¬ ((((allM s p L j).take M).map mkM).length : Int) < (M : Int))]
        exact last j e k
    · refine ⟨2, fun k hk => ?_⟩
      obtain ⟨k, rfl⟩ : ∃ k', k = k' + 2 := ⟨k - 2, by omega⟩
      have e := all_none (s := s) (p := p) hL (p.length - j) j (by omega)
      rw [show j + (p.length - j) = p.length by omega] at e
      rw [show k + 2 = k + 1 + 1 by omega, find_Matches.l0, wp (x := (j : Int) + (L : Int)) (y := ((j + L : Nat) : Int)) (by omega) (by omega) (by omega), if_neg (by omega)]
      exact last j (by rw [e]) k
  induction d with
  | zero =>
    intro j hd hj hjL
    exact step j hj hjL (fun h => absurd h (by omega))
  | succ d ih =>
    intro j hd hj hjL
    exact step j hj hjL (fun h => ih (j + 1) (by omega) (by omega) (by omega))
theorem Matches_ok (hs : s.length ≤ 16777216) (hx : IsIx s x) (hp : p.length ≤ 140737488351232) {L M : Nat} (hL : 1 ≤ L) (hLb : L ≤ 9223372036854775807) (hM : M ≤ 16777216) : ∃ K, ∀ k, K ≤ k → find_Matches.f k [x] p (L : Int) (M : Int) = some (((allM s p L p.length).take M).map mkM, 0) := by
  obtain ⟨K, h⟩ := m_l0 hs hx hp hL hM p.length 0 (by omega) (by omega) (by omega)
  refine ⟨K + 2, fun k hk => ?_⟩
  unfold find_Matches.f
  rw [made_f hx (by omega), Option.bind_some, if_pos rfl, if_neg (by omega), if_neg (by omega), if_neg (by omega), Data_f hs hx, Option.bind_some]
  have h := h k (by omega)
  have e : ((allM s p L 0).take M).map mkM = [] := by rw [show allM s p L 0 = [] from rfl, List.take_nil]; rfl
  rw [e] at h
  exact h
/-! The document's. -/
end
end Go.Proofs.Ytphchkkicpnehaa.SD
end

section
/- Pairs, plain: the matches cover each pair of like bytes, each once. -/
namespace Go.Proofs.Ytphchkkicpnehaa.SD
open Go.RowKit Go.Proofs.Ytphchkkicpnehaa Go.Proofs.Ytphchkkicpnehaa.X Go.Proofs.Ytphchkkicpnehaa.SM Go.Proofs.YtphchkkicpnehaaW.PrintWords Go.Proofs.YtphchkkicpnehaaW.PrintLast

/-! Sums. -/
def smm (n : Nat) (f : Nat → Nat) : Nat := match n with
  | 0 => 0
  | n + 1 => smm n f + f n
theorem smm_ext {n : Nat} {f g : Nat → Nat} (h : ∀ a, a < n → f a = g a) : smm n f = smm n g := by
  induction n with
  | zero => rfl
  | succ n ih =>
    show smm n f + f n = smm n g + g n
    rw [ih (fun a ha => h a (by omega)), h n (by omega)]
theorem smm_zero (n : Nat) : smm n (fun _ => 0) = 0 := by
  induction n with
  | zero => rfl
  | succ n ih => show smm n _ + 0 = 0; rw [ih]
theorem smm_add (n : Nat) (f g : Nat → Nat) : smm n (fun a => f a + g a) = smm n f + smm n g := by
  induction n with
  | zero => rfl
  | succ n ih =>
    show smm n _ + (f n + g n) = smm n f + f n + (smm n g + g n)
    rw [ih]; omega
theorem smm_swap (n m : Nat) (f : Nat → Nat → Nat) : smm m (fun b => smm n (fun a => f a b)) = smm n (fun a => smm m (fun b => f a b)) := by
  induction m with
  | zero => exact (smm_zero n).symm
  | succ m ih =>
    show smm m _ + smm n (fun a => f a m) = smm n (fun a => smm m (fun b => f a b) + f a m)
    rw [smm_add, ih]
theorem smm_le {n C : Nat} {f : Nat → Nat} (h : ∀ a, f a ≤ C) : smm n f ≤ n * C := by
  induction n with
  | zero => exact Nat.zero_le _
  | succ n ih =>
    show smm n f + f n ≤ _
    have := h n
    rw [Nat.succ_mul]; omega
/-! A table of marks. -/
def bm (n m : Nat) (f : Nat → Nat → Bool) : List Bool := (List.range (n * m)).map fun q => f (q % n) (q / n)
theorem bm_len (n m : Nat) (f : Nat → Nat → Bool) : (bm n m f).length = n * m := by unfold bm; rw [List.length_map, List.length_range]
theorem ix_lt {n m a b : Nat} (ha : a < n) (hb : b < m) : b * n + a < n * m := by
  have h : (b + 1) * n ≤ m * n := Nat.mul_le_mul_right n hb
  rw [Nat.succ_mul, Nat.mul_comm m n] at h
  omega
theorem ix_mod {n a b : Nat} (ha : a < n) : (b * n + a) % n = a := by
  rw [Nat.add_comm, Nat.add_mul_mod_self_right, Nat.mod_eq_of_lt ha]
theorem ix_div {n a b : Nat} (ha : a < n) : (b * n + a) / n = b := by
  rw [Nat.add_comm, Nat.add_mul_div_right _ _ (by omega), Nat.div_eq_of_lt ha, Nat.zero_add]
theorem bm_get {n m a b : Nat} (ha : a < n) (hb : b < m) (f : Nat → Nat → Bool) : (bm n m f)[b * n + a]? = some (f a b) := by
  unfold bm
  rw [List.getElem?_map, List.getElem?_range (ix_lt ha hb), Option.map_some, ix_mod ha, ix_div ha]
theorem bm_set {n m a b : Nat} (ha : a < n) (hb : b < m) {f g : Nat → Nat → Bool} (h : ∀ a' b', g a' b' = (f a' b' || (decide (a' = a) && decide (b' = b)))) : (bm n m f).set (b * n + a) true = bm n m g := by
  apply List.ext_getElem?
  intro q
  rw [List.getElem?_set]
  by_cases e : b * n + a = q
  · subst e
    rw [if_pos rfl, if_pos (by rw [bm_len]; exact ix_lt ha hb), bm_get ha hb, h]
    simp
  · rw [if_neg e]
    unfold bm
    rw [List.getElem?_map, List.getElem?_map]
    cases hr : (List.range (n * m))[q]? with
    | none => rfl
    | some z =>
      obtain ⟨hq, hz⟩ := List.getElem?_eq_some_iff.1 hr
      rw [List.getElem_range] at hz
      subst hz
      rw [Option.map_some, Option.map_some, h]
      have : ¬ (q % n = a ∧ q / n = b) := fun ⟨h1, h2⟩ => e (by rw [← h1, ← h2, Nat.mul_comm]; exact Nat.div_add_mod q n)
      by_cases h1 : q % n = a
      · have h2 : ¬ q / n = b := fun h2 => this ⟨h1, h2⟩
        rw [decide_eq_false h2]; simp
      · rw [decide_eq_false h1]; simp
theorem cnt_map (n : Nat) (f : Nat → Bool) : ((List.range n).map f).count true = smm n (fun a => if f a = true then 1 else 0) := by
  induction n with
  | zero => rfl
  | succ n ih =>
    rw [List.range_succ, List.map_append, List.count_append, ih]
    show _ + ([f n]).count true = smm n _ + (if f n = true then 1 else 0)
    cases f n <;> rfl
theorem bm_cnt {n : Nat} (m : Nat) (f : Nat → Nat → Bool) : (bm n m f).count true = smm m (fun b => smm n (fun a => if f a b = true then 1 else 0)) := by
  induction m with
  | zero => rfl
  | succ m ih =>
    have e : bm n (m + 1) f = bm n m f ++ (List.range n).map (fun a => f a m) := by
      unfold bm
      rw [Nat.mul_succ, List.range_add, List.map_append, List.map_map]
      congr 1
      refine List.map_congr_left fun a ha => ?_
      have ha := List.mem_range.1 ha
      show f ((n * m + a) % n) ((n * m + a) / n) = _
      rw [Nat.mul_comm n m, ix_mod ha, ix_div ha]
    rw [e, List.count_append, ih, cnt_map]; rfl
theorem cnt_set {l : List Bool} {i : Nat} (h : l[i]? = some false) : (l.set i true).count true = l.count true + 1 := by
  obtain ⟨hi, e⟩ := List.getElem?_eq_some_iff.1 h
  rw [List.count_set hi, e]
  simp
/-! What is covered. -/
def cov (T : List (Nat × Nat × Nat)) (a b : Nat) : Bool := T.any fun q => decide (q.1 ≤ a ∧ a < q.1 + q.2.2 ∧ b + q.1 = a + q.2.1)
theorem cov_iff {T : List (Nat × Nat × Nat)} {a b : Nat} : cov T a b = true ↔ ∃ q, q ∈ T ∧ q.1 ≤ a ∧ a < q.1 + q.2.2 ∧ b + q.1 = a + q.2.1 := by
  unfold cov
  rw [List.any_eq_true]
  exact ⟨fun ⟨q, h, e⟩ => ⟨q, h, of_decide_eq_true e⟩, fun ⟨q, h, e⟩ => ⟨q, h, decide_eq_true e⟩⟩
theorem cov_zero (T : List (Nat × Nat × Nat)) (i j : Nat) : cov (T ++ [(i, j, 0)]) = cov T := by
  funext a b
  unfold cov
  rw [List.any_append, List.any_cons, List.any_nil, decide_eq_false (by show ¬ (i ≤ a ∧ a < i + 0 ∧ _); omega), Bool.or_false, Bool.or_false]
theorem cov_next (T : List (Nat × Nat × Nat)) (i j k a b : Nat) : cov (T ++ [(i, j, k + 1)]) a b = (cov (T ++ [(i, j, k)]) a b || (decide (a = i + k) && decide (b = j + k))) := by
  unfold cov
  rw [List.any_append, List.any_append, List.any_cons, List.any_nil, List.any_cons, List.any_nil, Bool.or_false, Bool.or_false, Bool.or_assoc]
  congr 1
  rw [Bool.eq_iff_iff, Bool.or_eq_true, Bool.and_eq_true, decide_eq_true_eq, decide_eq_true_eq, decide_eq_true_eq, decide_eq_true_eq]
  show (i ≤ a ∧ a < i + (k + 1) ∧ b + i = a + j) ↔ (i ≤ a ∧ a < i + k ∧ b + i = a + j) ∨ (a = i + k ∧ b = j + k)
  omega
section
variable {s p : List Int}
theorem cc_fit (s p : List Int) (i j : Nat) : cc s p i j ≤ s.length - i ∧ cc s p i j ≤ p.length - j := by
  have := cml_fits s (p.drop j) i
  rw [List.length_drop] at this
  exact this
theorem cc_like {i j k : Nat} (h : k < cc s p i j) : i + k < s.length ∧ j + k < p.length ∧ ch s (i + k) = ch p (j + k) := by
  have := cml_agree (s := s) (p := p.drop j) (a := i) (q := k) h
  rw [List.length_drop, ch_drop] at this
  exact ⟨this.1, by omega, this.2.2⟩
theorem cc_end (s p : List Int) (i j : Nat) : ¬ (i + cc s p i j < s.length ∧ j + cc s p i j < p.length ∧ ch s (i + cc s p i j) = ch p (j + cc s p i j)) := by
  have := cml_parts s (p.drop j) i
  rw [List.length_drop, ch_drop] at this
  intro h
  exact this ⟨h.1, by have := h.2.1; unfold cc at this; omega, h.2.2⟩
theorem mem_all {L J : Nat} {q : Nat × Nat × Nat} : q ∈ allM s p L J ↔ q.2.1 < J ∧ q.1 < s.length ∧ good s p L q.2.1 q.1 = true ∧ q.2.2 = cc s p q.1 q.2.1 := by
  induction J with
  | zero => exact ⟨fun h => absurd h List.not_mem_nil, fun h => absurd h.1 (Nat.not_lt_zero _)⟩
  | succ J ih =>
    show q ∈ allM s p L J ++ one s p L J s.length ↔ _
    rw [List.mem_append, ih]
    unfold one
    rw [List.mem_map]
    constructor
    · rintro (h | ⟨i, hi, rfl⟩)
      · exact ⟨by omega, h.2⟩
      · obtain ⟨h1, h2⟩ := List.mem_filter.1 hi
        exact ⟨Nat.lt_succ_self _, List.mem_range.1 h1, h2, rfl⟩
    · rintro ⟨h1, h2, h3, h4⟩
      by_cases c : q.2.1 < J
      · exact Or.inl ⟨c, h2, h3, h4⟩
      · have e : q.2.1 = J := by omega
        rw [e] at h3 h4
        exact Or.inr ⟨q.1, List.mem_filter.2 ⟨List.mem_range.2 h2, h3⟩, by rw [← h4, ← e]⟩
theorem all_apart (L J : Nat) : (allM s p L J).Pairwise fun q r => ¬ (q.1 = r.1 ∧ q.2.1 = r.2.1) := by
  induction J with
  | zero => exact List.Pairwise.nil
  | succ J ih =>
    show (allM s p L J ++ one s p L J s.length).Pairwise _
    rw [List.pairwise_append]
    refine ⟨ih, ?_, fun q hq r hr h => ?_⟩
    · unfold one
      rw [List.pairwise_map]
      exact (List.pairwise_lt_range.filter _).imp (fun {a b} h e => by
        have e1 : a = b := e.1
        omega)
    · have h1 := (mem_all.1 hq).1
      unfold one at hr
      obtain ⟨i, _, e⟩ := List.mem_map.1 hr
      have h2 : r.2.1 = J := by rw [← e]
      omega
/-- Two matches that cover one pair begin at one pair. -/
theorem one_start {L J : Nat} {q r : Nat × Nat × Nat} (hq : q ∈ allM s p L J) (hr : r ∈ allM s p L J) {a b : Nat} (h1 : q.1 ≤ a ∧ a < q.1 + q.2.2 ∧ b + q.1 = a + q.2.1) (h2 : r.1 ≤ a ∧ a < r.1 + r.2.2 ∧ b + r.1 = a + r.2.1) : q.1 = r.1 ∧ q.2.1 = r.2.1 := by
  have key : ∀ q r : Nat × Nat × Nat, q ∈ allM s p L J → r ∈ allM s p L J → (q.1 ≤ a ∧ a < q.1 + q.2.2 ∧ b + q.1 = a + q.2.1) → (r.1 ≤ a ∧ a < r.1 + r.2.2 ∧ b + r.1 = a + r.2.1) → ¬ q.1 < r.1 := by
    intro q r hq hr h1 h2 hlt
    have hr := mem_all.1 hr
    have hq := mem_all.1 hq
    have hg := hr.2.2.1
    unfold good at hg
    rw [Bool.and_eq_true] at hg
    have ha : ahd s p r.1 r.2.1 = false := by
      have := hg.1
      cases h : ahd s p r.1 r.2.1 with
      | false => rfl
      | true => rw [h] at this; exact absurd this (by decide)
    unfold ahd at ha
    rw [decide_eq_false_iff_not] at ha
    have hc := cc_like (s := s) (p := p) (i := q.1) (j := q.2.1) (k := r.1 - 1 - q.1) (by rw [← hq.2.2.2]; omega)
    rw [show q.1 + (r.1 - 1 - q.1) = r.1 - 1 by omega, show q.2.1 + (r.1 - 1 - q.1) = r.2.1 - 1 by omega] at hc
    exact ha ⟨by omega, by omega, hc.2.2⟩
  have k1 := key q r hq hr h1 h2
  have k2 := key r q hr hq h2 h1
  omega
/-- Each pair of like bytes is covered, and no other one. -/
theorem cov_all {a : Nat} : ∀ b, a < s.length → b < p.length → cov (allM s p 1 p.length) a b = decide (ch s a = ch p b) := by
  induction a with
  | zero =>
    intro b ha hb
    rw [Bool.eq_iff_iff, decide_eq_true_eq, cov_iff]
    constructor
    · rintro ⟨q, hq, h⟩
      have hq := mem_all.1 hq
      have := (cc_like (s := s) (p := p) (i := q.1) (j := q.2.1) (k := 0 - q.1) (by rw [← hq.2.2.2]; omega)).2.2
      rw [show q.1 + (0 - q.1) = 0 by omega, show q.2.1 + (0 - q.1) = b by omega] at this
      exact this
    · intro e
      have hc : 1 ≤ cc s p 0 b := by
        have := cc_end s p 0 b
        rcases Nat.eq_zero_or_pos (cc s p 0 b) with h | h
        · rw [h] at this; exact absurd ⟨ha, hb, e⟩ this
        · exact h
      have hg : good s p 1 b 0 = true := by
        unfold good ahd
        rw [decide_eq_false (by omega), decide_eq_true hc]; rfl
      exact ⟨(0, b, cc s p 0 b), mem_all.2 ⟨hb, ha, hg, rfl⟩, by show 0 ≤ 0 ∧ 0 < 0 + cc s p 0 b ∧ b + 0 = 0 + b; omega⟩
  | succ a ih =>
    intro b ha hb
    rw [Bool.eq_iff_iff, decide_eq_true_eq, cov_iff]
    constructor
    · rintro ⟨q, hq, h⟩
      have hq := mem_all.1 hq
      have := (cc_like (s := s) (p := p) (i := q.1) (j := q.2.1) (k := a + 1 - q.1) (by rw [← hq.2.2.2]; omega)).2.2
      rw [show q.1 + (a + 1 - q.1) = a + 1 by omega, show q.2.1 + (a + 1 - q.1) = b by omega] at this
      exact this
    · intro e
      by_cases c : 0 < b ∧ ch s a = ch p (b - 1)
      · have h := ih (b - 1) (by omega) (by omega)
        rw [decide_eq_true c.2, cov_iff] at h
        obtain ⟨q, hq, h⟩ := h
        have hq' := mem_all.1 hq
        refine ⟨q, hq, by omega, ?_, by omega⟩
        have he := cc_end s p q.1 q.2.1
        rw [← hq'.2.2.2] at he
        rcases Nat.lt_or_ge (a + 1) (q.1 + q.2.2) with h2 | h2
        · exact h2
        · rw [show q.1 + q.2.2 = a + 1 by omega, show q.2.1 + q.2.2 = b by omega] at he
          exact absurd ⟨ha, hb, e⟩ he
      · have hc : 1 ≤ cc s p (a + 1) b := by
          have := cc_end s p (a + 1) b
          rcases Nat.eq_zero_or_pos (cc s p (a + 1) b) with h | h
          · rw [h] at this; exact absurd ⟨ha, hb, e⟩ this
          · exact h
        have hg : good s p 1 b (a + 1) = true := by
          unfold good ahd
          rw [decide_eq_false (by rintro ⟨_, h1, h2⟩; exact c ⟨h1, by rw [show a + 1 - 1 = a by omega] at h2; exact h2⟩), decide_eq_true hc]; rfl
        exact ⟨(a + 1, b, cc s p (a + 1) b), mem_all.2 ⟨hb, ha, hg, rfl⟩, by show a + 1 ≤ a + 1 ∧ a + 1 < a + 1 + cc s p (a + 1) b ∧ b + (a + 1) = a + 1 + b; omega⟩
theorem all_len (L J : Nat) : (allM s p L J).length ≤ J * s.length := by
  induction J with
  | zero => exact Nat.zero_le _
  | succ J ih =>
    show (allM s p L J ++ one s p L J s.length).length ≤ _
    rw [List.length_append, Nat.succ_mul]
    have : (one s p L J s.length).length ≤ s.length := by
      unfold one
      rw [List.length_map]
      have := List.length_filter_le (good s p L J) (List.range s.length)
      rw [List.length_range] at this
      exact this
    omega
/-- A text's first match with itself: all of it. -/
theorem cc_self (s : List Int) : cc s s 0 0 = s.length := by
  have h1 := cc_fit s s 0 0
  have h2 := cc_end s s 0 0
  rcases Nat.lt_or_ge (cc s s 0 0) s.length with h | h
  · rw [Nat.zero_add] at h2; exact absurd ⟨h, h, rfl⟩ h2
  · omega
theorem own_one (h : 0 < s.length) : (allM s s 1 s.length).take 1 = [(0, 0, s.length)] := by
  have e1 : allM s s 1 1 = one s s 1 0 s.length := by show [] ++ one s s 1 0 s.length = _; rfl
  obtain ⟨t, ht⟩ : ∃ t, one s s 1 0 s.length = (0, 0, s.length) :: t := by
    unfold one
    obtain ⟨n, e⟩ : ∃ n, s.length = n + 1 := ⟨s.length - 1, by omega⟩
    have hg : good s s 1 0 0 = true := by
      unfold good ahd
      rw [decide_eq_false (by omega), cc_self, decide_eq_true (by omega)]; rfl
    rw [e, List.range_succ_eq_map, List.filter_cons, if_pos hg, List.map_cons, cc_self, e]
    exact ⟨_, rfl⟩
  have h2 := all_full (s := s) (p := s) 1 1 (s.length - 1) 1 (by rw [e1, ht, List.length_cons]; omega)
  rw [show 1 + (s.length - 1) = s.length by omega] at h2
  rw [h2, e1, ht]; rfl
end
end Go.Proofs.Ytphchkkicpnehaa.SD
end
