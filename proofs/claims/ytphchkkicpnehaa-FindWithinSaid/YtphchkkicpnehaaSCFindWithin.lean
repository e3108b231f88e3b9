import Derived.Test.YtphchkkicpnehaaSB
import Derived.Test.YtphchkkicpnehaaXK
import Derived.Test.YtphchkkicpnehaaXx14
import Derived.Test.YtphchkkicpnehaaXx17
import Derived.Test.YtphchkkicpnehaaXx16
import Derived.Test.YtphchkkicpnehaaXA
import Derived.Test.YtphchkkicpnehaaXx19
import Derived.Test.YtphchkkicpnehaaXx20
import Derived.Test.YtphchkkicpnehaaXx15
import Derived.Test.YtphchkkicpnehaaXF
import Derived.Test.YtphchkkicpnehaaXx23
import Derived.Test.YtphchkkicpnehaaXx33
import Derived.Test.YtphchkkicpnehaaXx44
section
/- The printed functions sorted, same, New and the accessors of package suffix, and build: an index of any bytes (at most 2^24) has their order, the ranks, and what neighbours have in common. -/
namespace Go.Proofs.Ytphchkkicpnehaa.SD
open Go.RowKit Go.Proofs.Ytphchkkicpnehaa Go.Proofs.Ytphchkkicpnehaa.X Go.Proofs.Ytphchkkicpnehaa.SM Go.Proofs.YtphchkkicpnehaaW.PrintWords Go.Proofs.YtphchkkicpnehaaW.PrintLast

section
variable {s : List Int}
attribute [local irreducible] cn cv fr tov rk3 loc2 ch rank

theorem byte_wf' {x : Int} (h : (Lit.int .u8 x).wf = true) : 0 ≤ x ∧ x < 256 := by
  simp [Lit.wf, IntKind.min, IntKind.max, IntKind.signed, IntKind.bits] at h
  omega
/-- Bytes. -/
def Byt (s : List Int) : Prop := ∀ q, q < s.length → 0 ≤ ch s q ∧ ch s q < 256
theorem ch_mem' {l : List Int} {q : Nat} (h : q < l.length) : ch l q ∈ l := by
  unfold ch
  rw [List.getD_eq_getElem?_getD, List.getElem?_eq_getElem h]
  exact List.getElem_mem h
theorem byt_wf {l : List Int} (h : ∀ x ∈ l, (Lit.int .u8 x).wf = true) : Byt l := fun _ hq => byte_wf' (h _ (ch_mem' hq))

/-- Places by rank. -/
def P (sa : List Int) (r : Nat) : Nat := (ch sa r).toNat
theorem P_rank {sa : List Int} (h : IsSA s sa) {i : Nat} (hi : i < s.length) : P sa (rank s.length (ch s) i) = i := by
  unfold P; rw [h.2 i hi]; omega
theorem sa_at {sa : List Int} (h : IsSA s sa) {r : Nat} (hr : r < s.length) : ch sa r = (P sa r : Int) ∧ P sa r < s.length ∧ rank s.length (ch s) (P sa r) = r := by
  obtain ⟨i, hi, hir⟩ := rank_onto (c := ch s) hr
  have h1 := h.2 i hi
  rw [hir] at h1
  have h2 : P sa r = i := by unfold P; rw [h1]; omega
  rw [h2, h1]
  exact ⟨rfl, hi, hir⟩
/-- What the suffix of rank r has in common with the one ahead. -/
def lcv (s sa : List Int) (r : Nat) : Nat := if r = 0 then 0 else com s.length (ch s) (P sa (r - 1)) (P sa r)
/-- An index of s. -/
def IsIx (s : List Int) (x : S61) : Prop :=
  x.f0 = true ∧ x.f1 = s ∧ IsSA s x.f2 ∧ x.f3.length = s.length ∧ (∀ i, i < s.length → ch x.f3 i = (rank s.length (ch s) i : Int)) ∧
  x.f4.length = s.length ∧ ∀ r, r < s.length → ch x.f4 r = (lcv s x.f2 r : Int)

theorem sorted_loop (hs : s.length ≤ 16777216) (hb : Byt s) (d : Nat) : ∀ q (o : List Int), s.length - q = d → q ≤ s.length → o.length = s.length → (∀ j, j < q → ch o j = ch s j) → ∀ k, suffix_sorted.l0 (k + d + 1) o s (s.length : Int) (q : Int) = (sais_Array.f (k + d - (s.length - q)) 256 s).bind fun b => some (b.1, b.2) := by
  induction d with
  | zero =>
    intro q o hd hq ho hp k
    have e : o = s := by
      apply List.ext_getElem?
      intro j
      rcases Nat.lt_or_ge j s.length with hj | hj
      · have h1 := hp j (by omega)
        unfold ch at h1
        rw [List.getD_eq_getElem?_getD, List.getD_eq_getElem?_getD, List.getElem?_eq_getElem (by omega), List.getElem?_eq_getElem hj] at h1
        rw [List.getElem?_eq_getElem (by omega), List.getElem?_eq_getElem hj]
        simpa using h1
      · rw [List.getElem?_eq_none (by omega), List.getElem?_eq_none hj]
    rw [show k + 0 + 1 = k + 1 by omega, suffix_sorted.l0, if_neg (by omega), e, show k + 0 - (s.length - q) = k by omega]
  | succ d ih =>
    intro q o hd hq ho hp k
    have hv := hb q (by omega)
    have next := ih (q + 1) (o.set q (ch s q)) (by omega) (by omega) (by rw [List.length_set]; exact ho) (fun j hj => by
      rw [ch_set _ _ _ _ (by omega)]
      by_cases e : q = j
      · rw [if_pos e, ← e]
      · rw [if_neg e]; exact hp j (by omega)) k
    rw [show k + (d + 1) + 1 = k + d + 1 + 1 by omega, suffix_sorted.l0, if_pos (by omega), if_pos (by omega), if_pos (by omega), if_pos (by omega), rd_nat, wp (x := ch s q) rfl (by omega) (by omega), wp (x := (q : Int) + 1) (y := ((q + 1 : Nat) : Int)) (by omega) (by omega) (by omega), Int.toNat_natCast, next, show k + d - (s.length - (q + 1)) = k + (d + 1) - (s.length - q) by omega]
/-- The order of any bytes. -/
theorem sorted_ok (hs : s.length ≤ 16777216) (hb : Byt s) : ∃ K sa, (∀ k, K ≤ k → suffix_sorted.f k s = some (sa, 0)) ∧ IsSA s sa := by
  obtain ⟨K, sa, h1, h2⟩ := Array_ok (k0 := 256) (s := s) ⟨by omega, by omega, hs, hb⟩
  refine ⟨K + s.length + 1, sa, fun k hk => ?_, h2⟩
  unfold suffix_sorted.f
  rw [if_neg (by omega), if_pos (by omega), if_pos (by omega), Int.toNat_natCast]
  have := sorted_loop hs hb s.length 0 (List.replicate s.length 0) (by omega) (by omega) (by simp) (fun j hj => by omega) (k - s.length - 1)
  rw [show k - s.length - 1 + s.length + 1 = k by omega] at this
  rw [show ((0 : Nat) : Int) = 0 from rfl] at this
  rw [this, h1 _ (by omega)]; rfl
theorem sorted_many (hs : 16777216 < s.length) (k : Nat) : suffix_sorted.f k s = some ([], 130) := by
  unfold suffix_sorted.f
  rw [if_pos (by omega)]

/-- same, from two places on. -/
theorem sameIx_loop {y : S61} (hy : y.f1 = s) (hs : s.length ≤ 16777216) {i j : Nat} (hi : i ≤ s.length) (hj : j ≤ s.length) (d : Nat) : ∀ q, com s.length (ch s) i j - q = d → q ≤ com s.length (ch s) i j → ∀ k, suffix_Index_same.l0 (k + d + 1) [y] (i : Int) (j : Int) (q : Int) = some (com s.length (ch s) i j : Int) := by
  have hrd : rd_T61 [y] 0 = y := rfl
  have hle := com_le (n := s.length) (c := ch s) i j
  have w1 : ∀ q : Nat, q ≤ s.length → wrap64 ((i : Int) + (q : Int)) = ((i + q : Nat) : Int) := fun q hq => wp (by omega) (by omega) (by omega)
  have w2 : ∀ q : Nat, q ≤ s.length → wrap64 ((j : Int) + (q : Int)) = ((j + q : Nat) : Int) := fun q hq => wp (by omega) (by omega) (by omega)
  induction d with
  | zero =>
    intro q hd hq k
    have hqe : q = com s.length (ch s) i j := by omega
    have he := com_end (n := s.length) (c := ch s) (i := i) (j := j)
    rw [← hqe] at he ⊢
    rw [show k + 0 + 1 = k + 1 by omega, suffix_Index_same.l0, hrd, hy, w1 q (by omega), w2 q (by omega), if_pos (by simp)]
    by_cases h1 : i + q < s.length
    · rw [if_pos (by omega)]
      by_cases h2 : j + q < s.length
      · rw [if_pos (by omega), if_pos (by omega), if_pos (by omega), rd_nat, rd_nat, if_neg (fun h3 => he ⟨h1, h2, h3⟩)]
      · rw [if_neg (by omega)]
    · rw [if_neg (by omega)]
  | succ d ih =>
    intro q hd hq k
    have hg := com_get (n := s.length) (c := ch s) (i := i) (j := j) (q := q) (by omega)
    rw [show k + (d + 1) + 1 = k + d + 1 + 1 by omega, suffix_Index_same.l0, hrd, hy, w1 q (by omega), w2 q (by omega), if_pos (by simp), if_pos (by omega), if_pos (by omega), if_pos (by omega), if_pos (by omega), rd_nat, rd_nat, if_pos hg.2.2, wp (x := (q : Int) + 1) (y := ((q + 1 : Nat) : Int)) (by omega) (by omega) (by omega)]
    exact ih (q + 1) (by omega) (by omega) k
theorem sameIx_f {y : S61} (hy : y.f1 = s) (hs : s.length ≤ 16777216) {i j : Nat} (hi : i ≤ s.length) (hj : j ≤ s.length) {k : Nat} (hk : com s.length (ch s) i j + 1 ≤ k) : suffix_Index_same.f k [y] (i : Int) (j : Int) = some (com s.length (ch s) i j : Int) := by
  unfold suffix_Index_same.f
  have := sameIx_loop hy hs hi hj (com s.length (ch s) i j) 0 (by omega) (by omega) (k - com s.length (ch s) i j - 1)
  rw [show k - com s.length (ch s) i j - 1 + com s.length (ch s) i j + 1 = k by omega] at this
  exact this

theorem build_r_ok (hs : s.length ≤ 16777216) {sa : List Int} (hsa : IsSA s sa) (d : Nat) : ∀ q (o : List Int), s.length - q = d → q ≤ s.length → o.length = s.length → (∀ i, i < s.length → rank s.length (ch s) i < q → ch o i = (rank s.length (ch s) i : Int)) →
    ∃ o', o'.length = s.length ∧ (∀ i, i < s.length → ch o' i = (rank s.length (ch s) i : Int)) ∧ ∀ k, build_r (k + d + 1) s.length sa o (q : Int) = some o' := by
  induction d with
  | zero =>
    intro q o hd hq ho hp
    refine ⟨o, ho, fun i hi => hp i hi (by have := rank_lt (c := ch s) hi; omega), fun k => ?_⟩
    rw [show k + 0 + 1 = k + 1 by omega, build_r, if_neg (by omega)]
  | succ d ih =>
    intro q o hd hq ho hp
    obtain ⟨h1, h2, h3⟩ := sa_at hsa (show q < s.length by omega)
    obtain ⟨o', g1, g2, g3⟩ := ih (q + 1) (o.set (P sa q) (q : Int)) (by omega) (by omega) (by rw [List.length_set]; exact ho) (fun i hi hr => by
      rw [ch_set _ _ _ _ (by omega)]
      by_cases e : P sa q = i
      · rw [if_pos e, ← e, h3]
      · rw [if_neg e]
        refine hp i hi ?_
        have : rank s.length (ch s) i ≠ q := fun e2 => e (rank_inj h2 hi (by rw [h3, e2]))
        omega)
    refine ⟨o', g1, g2, fun k => ?_⟩
    rw [show k + (d + 1) + 1 = k + d + 1 + 1 by omega, build_r, if_pos (by omega), if_pos (by omega), rd_nat, h1, if_pos (by omega), if_pos (by omega), Int.toNat_natCast, wp (x := (q : Int) + 1) (y := ((q + 1 : Nat) : Int)) (by omega) (by omega) (by omega)]
    exact g3 k

theorem build_l_ok (hs : s.length ≤ 16777216) {sa rk : List Int} (hsa : IsSA s sa) (hrl : rk.length = s.length) (hrk : ∀ i, i < s.length → ch rk i = (rank s.length (ch s) i : Int)) (d : Nat) : ∀ i h (l : List Int), s.length - i = d → i ≤ s.length → l.length = s.length → h ≤ s.length → (i < s.length → 0 < rank s.length (ch s) i → h ≤ com s.length (ch s) (P sa (rank s.length (ch s) i - 1)) i) →
    (∀ j, j < s.length → j < i ∨ rank s.length (ch s) j = 0 → ch l (rank s.length (ch s) j) = (lcv s sa (rank s.length (ch s) j) : Int)) →
    ∃ l', l'.length = s.length ∧ (∀ r, r < s.length → ch l' r = (lcv s sa r : Int)) ∧ ∀ k, build_l (k + d + 2) s.length s sa rk l (h : Int) (i : Int) = some l' := by
  induction d with
  | zero =>
    intro i h l hd hi hl hh hc hp
    refine ⟨l, hl, fun r hr => ?_, fun k => ?_⟩
    · obtain ⟨j, hj, hjr⟩ := rank_onto (c := ch s) hr
      rw [← hjr]; exact hp j hj (.inl (by omega))
    · rw [show k + 0 + 2 = k + 1 + 1 by omega, build_l, if_neg (by omega)]
  | succ d ih =>
    intro i h l hd hi hl hh hc hp
    have hi' : i < s.length := by omega
    have hrlt := rank_lt (c := ch s) hi'
    by_cases h0 : rank s.length (ch s) i = 0
    · obtain ⟨l', g1, g2, g3⟩ := ih (i + 1) 0 l (by omega) (by omega) hl (by omega) (fun _ _ => by omega) (fun j hj hji => hp j hj (by
        rcases hji with hji | hji
        · by_cases e : j = i
          · rw [e]; exact .inr h0
          · exact .inl (by omega)
        · exact .inr hji))
      refine ⟨l', g1, g2, fun k => ?_⟩
      rw [show k + (d + 1) + 2 = k + d + 2 + 1 by omega, build_l, if_pos (by omega), if_pos (by omega), rd_nat, hrk i hi', if_pos (by omega), wp (x := (i : Int) + 1) (y := ((i + 1 : Nat) : Int)) (by omega) (by omega) (by omega)]
      exact g3 k
    · obtain ⟨e1, e2, e3⟩ := sa_at hsa (show rank s.length (ch s) i - 1 < s.length by omega)
      have hc' := hc hi' (by omega)
      generalize hm : com s.length (ch s) (P sa (rank s.length (ch s) i - 1)) i = m at hc'
      generalize hj : P sa (rank s.length (ch s) i - 1) = j at *
      have hfr := com_from (n := s.length) (c := ch s) h j i (by omega)
      have hle := com_le (n := s.length) (c := ch s) j i
      have hcm : com s.length (ch s) (i + h) (j + h) = m - h := by rw [com_comm]; omega
      have hP : P sa (rank s.length (ch s) i) = i := P_rank hsa hi'
      have hl2 : ∀ r, r < s.length → ch (l.set (rank s.length (ch s) i) (m : Int)) r = if rank s.length (ch s) i = r then (m : Int) else ch l r := by
        intro r hr; exact ch_set _ _ _ _ (by omega)
      obtain ⟨l', g1, g2, g3⟩ := ih (i + 1) (m - 1) (l.set (rank s.length (ch s) i) (m : Int)) (by omega) (by omega) (by rw [List.length_set]; exact hl) (by omega)
        (fun hi1 hr1 => by
          have := (kasai (n := s.length) (c := ch s) (p := P sa) (fun i hi => P_rank hsa hi) hi1 (by omega)).1
          rw [hj, hm] at this
          omega)
        (fun j' hj' hji => by
          rw [hl2 _ (rank_lt hj')]
          by_cases e : rank s.length (ch s) i = rank s.length (ch s) j'
          · have := rank_inj hi' hj' e
            subst this
            rw [if_pos rfl]
            unfold lcv
            rw [if_neg h0, hj, hP, hm]
          · rw [if_neg e]
            refine hp j' hj' ?_
            rcases hji with hji | hji
            · have : j' ≠ i := fun e' => e (by rw [e'])
              exact .inl (by omega)
            · exact .inr hji)
      refine ⟨l', g1, g2, fun k => ?_⟩
      have hsm : suffix_Index_same.f (k + d + 2) [⟨true, s, sa, rk, l⟩] (((i + h : Nat) : Int)) (((j + h : Nat) : Int)) = some ((m - h : Nat) : Int) := by
        rw [sameIx_f (s := s) (y := ⟨true, s, sa, rk, l⟩) rfl hs (by omega) (by omega) (by rw [hcm]; omega), hcm]
      rw [show k + (d + 1) + 2 = k + d + 2 + 1 by omega, build_l, if_pos (by omega), if_pos (by omega), rd_nat, hrk i hi', if_neg (by omega), wp (x := (rank s.length (ch s) i : Int) - 1) (y := ((rank s.length (ch s) i - 1 : Nat) : Int)) (by omega) (by omega) (by omega), if_pos (by omega), if_pos (by omega), rd_nat, e1,
        wp (x := (i : Int) + (h : Int)) (y := ((i + h : Nat) : Int)) (by omega) (by omega) (by omega), wp (x := (j : Int) + (h : Int)) (y := ((j + h : Nat) : Int)) (by omega) (by omega) (by omega), hsm, Option.bind_some, if_pos (by omega), if_pos (by omega), Int.toNat_natCast,
        wp (x := (h : Int) + ((m - h : Nat) : Int)) (y := (m : Int)) (by omega) (by omega) (by omega), wp (x := (m : Int) - 1) (y := (m : Int) - 1) rfl (by omega) (by omega), show mx ((m : Int) - 1) 0 = ((m - 1 : Nat) : Int) by (unfold mx; split <;> omega), wp (x := (i : Int) + 1) (y := ((i + 1 : Nat) : Int)) (by omega) (by omega) (by omega)]
      exact g3 k

/-- build, of any bytes and their order. -/
theorem build_ok (hs : s.length ≤ 16777216) {sa : List Int} (hsa : IsSA s sa) : ∃ x, suffix_build.f s sa = some [x] ∧ x.f2 = sa ∧ IsIx s x := by
  obtain ⟨rk, r1, r2, r3⟩ := build_r_ok hs hsa s.length 0 (List.replicate s.length 0) (by omega) (by omega) (by simp) (fun i _ h => by omega)
  obtain ⟨lc, l1, l2, l3⟩ := build_l_ok hs hsa r1 r2 s.length 0 0 (List.replicate s.length 0) (by omega) (by omega) (by simp) (by omega) (fun _ _ => by omega) (fun j hj hji => by
    have h0 : rank s.length (ch s) j = 0 := by omega
    rw [h0]
    unfold lcv
    rw [if_pos rfl]
    unfold ch
    rw [List.getD_eq_getElem?_getD, List.getElem?_replicate]
    split <;> rfl)
  refine ⟨⟨true, s, sa, rk, lc⟩, ?_, rfl, rfl, rfl, hsa, r1, r2, l1, l2⟩
  unfold suffix_build.f
  have a1 := r3 0
  have a2 := l3 0
  rw [show 0 + s.length + 1 = s.length + 1 by omega, show ((0 : Nat) : Int) = 0 from rfl] at a1
  rw [show 0 + s.length + 2 = s.length + 2 by omega, show ((0 : Nat) : Int) = 0 from rfl] at a2
  rw [if_pos hs, if_pos hsa.1, a1, Option.bind_some, a2]; rfl
/-- New, of any bytes: an index of them. -/
theorem New_ok (hs : s.length ≤ 16777216) (hb : Byt s) : ∃ K x, (∀ k, K ≤ k → suffix_New.f k s = some ([x], 0)) ∧ IsIx s x := by
  obtain ⟨K, sa, h1, h2⟩ := sorted_ok hs hb
  obtain ⟨x, h3, _, h4⟩ := build_ok hs h2
  refine ⟨K, x, fun k hk => ?_, h4⟩
  unfold suffix_New.f
  rw [h1 k hk, Option.bind_some, if_pos rfl, h3]; rfl
theorem New_many (hs : 16777216 < s.length) (k : Nat) : suffix_New.f k s = some ([], 130) := by
  unfold suffix_New.f
  rw [sorted_many hs, Option.bind_some, if_neg (by decide)]
end
end Go.Proofs.Ytphchkkicpnehaa.SD
end

section
/- The accessors of an index. -/
namespace Go.Proofs.Ytphchkkicpnehaa.SD
open Go.RowKit Go.Proofs.Ytphchkkicpnehaa Go.Proofs.Ytphchkkicpnehaa.X Go.Proofs.Ytphchkkicpnehaa.SM Go.Proofs.YtphchkkicpnehaaW.PrintWords Go.Proofs.YtphchkkicpnehaaW.PrintLast

section
variable {s : List Int} {x : S61}
attribute [local irreducible] cn cv fr tov rk3 loc2 ch rank
theorem is_f (hx : x.f0 = true) : suffix_Index_is.f [x] = some true := by
  unfold suffix_Index_is.f
  rw [if_neg (by simp), if_pos (by simp)]
  show some x.f0 = _
  rw [hx]
/-- place, of one number, and of two. -/
theorem place_end (l : List Int) (n : Int) (q : Int) (h : ¬ q < n) (k : Nat) : suffix_Index_place.l0 (k + 1) [x] l n q = some 0 := by
  rw [suffix_Index_place.l0, if_neg h]
theorem place_step (hx : x.f1 = s) (l : List Int) (q : Nat) (hq : q < l.length) (hl : l.length ≤ 1000) (k : Nat) : suffix_Index_place.l0 (k + 1) [x] l (l.length : Int) (q : Int) = if 0 ≤ ch l q ∧ ch l q < (s.length : Int) then suffix_Index_place.l0 k [x] l (l.length : Int) ((q + 1 : Nat) : Int) else some 132 := by
  rw [suffix_Index_place.l0, if_pos (by omega), if_pos (by omega), if_pos (by omega), rd_nat, show rd_T61 [x] 0 = x from rfl, hx]
  by_cases h1 : ch l q < 0
  · rw [if_pos h1, if_neg (by omega)]
  · rw [if_neg h1, if_pos (by simp)]
    by_cases h2 : ch l q ≥ (s.length : Int)
    · rw [if_pos h2, if_neg (by omega)]
    · rw [if_neg h2, if_pos (by omega), wp (x := (q : Int) + 1) (y := ((q + 1 : Nat) : Int)) (by omega) (by omega) (by omega)]
theorem place1_f (hx : IsIx s x) (i : Int) (k : Nat) : suffix_Index_place.f (k + 2) [x] [i] = some (if 0 ≤ i ∧ i < (s.length : Int) then 0 else 132) := by
  unfold suffix_Index_place.f
  rw [is_f hx.1, Option.bind_some, if_pos rfl]
  have h := place_step hx.2.1 [i] 0 (by simp) (by simp) (k + 1)
  have e : ch [i] 0 = i := by unfold ch; rfl
  rw [e] at h
  rw [show ((0 : Nat) : Int) = 0 from rfl] at h
  rw [h]
  split
  · rw [place_end _ _ _ (by simp)]
  · rfl
end
end Go.Proofs.Ytphchkkicpnehaa.SD
end

section
/- Seat of chapter 14: awake, index, made, Len, At. -/
namespace Go.Proofs.Ytphchkkicpnehaa.SD
open Go.RowKit Go.Proofs.Ytphchkkicpnehaa Go.Proofs.Ytphchkkicpnehaa.X Go.Proofs.Ytphchkkicpnehaa.SM Go.Proofs.YtphchkkicpnehaaW.PrintWords Go.Proofs.YtphchkkicpnehaaW.PrintLast

theorem awake_f : ∃ K, ∀ k, K ≤ k → sapperlaw14_awake.f k = some true := by
  have h : sapperlaw14_awake.f 400 = some true := by decide +kernel
  exact ⟨400, fun k hk => at_rounds (g := fun k => sapperlaw14_awake.f k) (fun k => sapperlaw14_awake.mono k) hk h⟩
section
variable {s : List Int} {x : S61}
attribute [local irreducible] cn cv fr tov rk3 loc2 ch rank
theorem index_ok (hs : s.length ≤ 16777216) (hb : Byt s) : ∃ K x, (∀ k, K ≤ k → sapperlaw14_index.f k s = some ([x], true)) ∧ IsIx s x := by
  obtain ⟨K, x, h, hx⟩ := New_ok hs hb
  refine ⟨K, x, fun k hk => ?_, hx⟩
  unfold sapperlaw14_index.f
  rw [h k hk, Option.bind_some, if_neg (by omega), if_pos rfl]; rfl
theorem index_many (hs : 16777216 < s.length) (k : Nat) : sapperlaw14_index.f k s = some ([], true) := by
  unfold sapperlaw14_index.f
  rw [New_many hs, Option.bind_some, if_pos (by omega)]; rfl
theorem At_in (hx : IsIx s x) {r : Nat} (hr : r < s.length) {k : Nat} (hk : 2 ≤ k) : suffix_Index_At.f k [x] (r : Int) = some ((P x.f2 r : Int), 0) := by
  unfold suffix_Index_At.f
  have h := place1_f hx (r : Int) (k - 2)
  have hl := hx.2.2.1.1
  rw [show k - 2 + 2 = k by omega] at h
  rw [h, if_pos (by omega), Option.bind_some, if_pos rfl, if_pos (by simp), if_pos (by omega), show rd_T61 [x] 0 = x from rfl, if_pos (by omega), rd_nat, (sa_at hx.2.2.1 hr).1]
theorem made_f (hx : IsIx s x) {k : Nat} (hk : 2 ≤ k) : find_made.f k [x] = some true := by
  unfold find_made.f suffix_Index_At.f
  have h := place1_f hx (-1) (k - 2)
  rw [show k - 2 + 2 = k by omega] at h
  rw [h, if_neg (by omega), Option.bind_some, if_neg (by decide)]; rfl
theorem Len_f (hx : IsIx s x) : suffix_Index_Len.f [x] = some (s.length : Int) := by
  unfold suffix_Index_Len.f
  rw [is_f hx.1, Option.bind_some, if_pos rfl, if_pos (by simp), show rd_T61 [x] 0 = x from rfl, hx.2.1]
end
end Go.Proofs.Ytphchkkicpnehaa.SD
end

section
/- A search over a test that rises finds where it turns. -/
namespace Go.Proofs.Ytphchkkicpnehaa.SD
open Go.RowKit Go.Proofs.Ytphchkkicpnehaa Go.Proofs.Ytphchkkicpnehaa.X Go.Proofs.Ytphchkkicpnehaa.SM Go.Proofs.YtphchkkicpnehaaW.PrintWords Go.Proofs.YtphchkkicpnehaaW.PrintLast

section
variable {x : List S61} {p : List Int} {t : Int → Bool} {n K0 : Nat} {c m : Nat → Int}
theorem srch_ok (hn : n ≤ 16777216) (hc : ∀ r, r < n → ∀ k, K0 ≤ k → find_compare.f k x (r : Int) p = some (c r, m r)) (hm : ∀ a b, a ≤ b → b < n → t (c a) = true → t (c b) = true) (d : Nat) : ∀ lo hi : Nat, hi - lo ≤ d → lo ≤ hi → hi ≤ n →
    ∃ r, lo ≤ r ∧ r ≤ hi ∧ (∀ q, lo ≤ q → q < r → t (c q) = false) ∧ (∀ q, r ≤ q → q < hi → t (c q) = true) ∧ ∀ k, K0 + d + 1 ≤ k → srch t k x p (lo : Int) (hi : Int) = some (r : Int) := by
  induction d with
  | zero =>
    intro lo hi hd hle hhi
    refine ⟨lo, Nat.le_refl _, hle, fun q h1 h2 => by omega, fun q h1 h2 => by omega, fun k hk => ?_⟩
    obtain ⟨k, rfl⟩ : ∃ k', k = k' + 1 := ⟨k - 1, by omega⟩
    rw [srch, if_neg (by omega)]
  | succ d ih =>
    intro lo hi hd hle hhi
    by_cases hlt : lo < hi
    · have hmid : lo + (hi - lo) / 2 < hi := by omega
      have e1 : wrap64 ((lo : Int) + wrap64 (Int.tdiv (wrap64 ((hi : Int) - (lo : Int))) 2)) = ((lo + (hi - lo) / 2 : Nat) : Int) := by
        rw [wp (x := (hi : Int) - (lo : Int)) (y := ((hi - lo : Nat) : Int)) (by omega) (by omega) (by omega), Int.tdiv_eq_ediv_of_nonneg (by omega),
          wp (x := ((hi - lo : Nat) : Int) / 2) (y := (((hi - lo) / 2 : Nat) : Int)) (by omega) (by omega) (by omega),
          wp (x := (lo : Int) + (((hi - lo) / 2 : Nat) : Int)) (y := ((lo + (hi - lo) / 2 : Nat) : Int)) (by omega) (by omega) (by omega)]
      have hmd : lo ≤ lo + (hi - lo) / 2 := by omega
      generalize lo + (hi - lo) / 2 = md at *
      by_cases ht : t (c md) = true
      · obtain ⟨r, g1, g2, g3, g4, g5⟩ := ih lo md (by omega) (by omega) (by omega)
        refine ⟨r, g1, by omega, g3, fun q h1 h2 => ?_, fun k hk => ?_⟩
        · by_cases hq : q < md
          · exact g4 q h1 hq
          · exact hm md q (by omega) (by omega) ht
        · obtain ⟨k, rfl⟩ : ∃ k', k = k' + 1 := ⟨k - 1, by omega⟩
          rw [srch, if_pos (by omega), e1, hc md (by omega) k (by omega), Option.bind_some, if_pos ht]
          exact g5 k (by omega)
      · obtain ⟨r, g1, g2, g3, g4, g5⟩ := ih (md + 1) hi (by omega) (by omega) (by omega)
        refine ⟨r, by omega, g2, fun q h1 h2 => ?_, g4, fun k hk => ?_⟩
        · by_cases hq : q ≤ md
          · rw [Bool.eq_false_iff]
            exact fun h => ht (hm q md hq (by omega) h)
          · exact g3 q (by omega) h2
        · obtain ⟨k, rfl⟩ : ∃ k', k = k' + 1 := ⟨k - 1, by omega⟩
          rw [srch, if_pos (by omega), e1, hc md (by omega) k (by omega), Option.bind_some, if_neg ht, wp (x := (md : Int) + 1) (y := ((md + 1 : Nat) : Int)) (by omega) (by omega) (by omega)]
          exact g5 k (by omega)
    · refine ⟨lo, Nat.le_refl _, hle, fun q h1 h2 => by omega, fun q h1 h2 => by omega, fun k hk => ?_⟩
      obtain ⟨k, rfl⟩ : ∃ k', k = k' + 1 := ⟨k - 1, by omega⟩
      rw [srch, if_neg (by omega)]
end
end Go.Proofs.Ytphchkkicpnehaa.SD
end

section
/- Compare, plain: how many bytes a suffix and a text have in common, and which is less; by rank it rises. -/
namespace Go.Proofs.Ytphchkkicpnehaa.SD
open Go.RowKit Go.Proofs.Ytphchkkicpnehaa Go.Proofs.Ytphchkkicpnehaa.X Go.Proofs.Ytphchkkicpnehaa.SM Go.Proofs.YtphchkkicpnehaaW.PrintWords Go.Proofs.YtphchkkicpnehaaW.PrintLast

section
variable {s p u v : List Int} {x : S61}
attribute [local irreducible] cn cv fr tov rk3 loc2 ch rank
theorem cml_fit (d : Nat) : ∀ q, u.length - q = d → cml u v q ≤ u.length - q ∧ cml u v q ≤ v.length - q := by
  induction d with
  | zero => intro q h; rw [cml, dif_neg (by omega)]; omega
  | succ d ih =>
    intro q h
    rw [cml, dif_pos (by omega)]
    split
    · have := ih (q + 1) (by omega); omega
    · omega
theorem cml_get (d : Nat) : ∀ q, u.length - q = d → ∀ j, j < cml u v q → q + j < u.length ∧ q + j < v.length ∧ ch u (q + j) = ch v (q + j) := by
  induction d with
  | zero => intro q h j hj; rw [cml, dif_neg (by omega)] at hj; omega
  | succ d ih =>
    intro q h j hj
    rw [cml, dif_pos (by omega)] at hj
    split at hj
    · rename_i hq
      cases j with
      | zero => exact ⟨by omega, by omega, hq.2⟩
      | succ j =>
        have := ih (q + 1) (by omega) j (by omega)
        rw [show q + 1 + j = q + (j + 1) by omega] at this
        exact this
    · omega
theorem cml_stop (d : Nat) : ∀ q, u.length - q = d → ¬ (q + cml u v q < u.length ∧ q + cml u v q < v.length ∧ ch u (q + cml u v q) = ch v (q + cml u v q)) := by
  induction d with
  | zero => intro q h; omega
  | succ d ih =>
    intro q h
    rw [cml, dif_pos (by omega)]
    by_cases hq : q < v.length ∧ ch u q = ch v q
    · rw [if_pos hq]
      have := ih (q + 1) (by omega)
      rw [show q + (cml u v (q + 1) + 1) = q + 1 + cml u v (q + 1) by omega]
      exact this
    · rw [if_neg hq, Nat.add_zero]
      exact fun h => hq h.2
theorem cmp_l_ok (hu : u.length ≤ 9223372036854775000) (d : Nat) : ∀ q, u.length - q = d → ∀ k, cmp_l (k + d + 1) u v (q : Int) = some ((q + cml u v q : Nat) : Int) := by
  induction d with
  | zero =>
    intro q h k
    rw [show k + 0 + 1 = k + 1 by omega, cmp_l, if_neg (by omega), cml, dif_neg (by omega), Nat.add_zero]
  | succ d ih =>
    intro q h k
    rw [show k + (d + 1) + 1 = k + d + 1 + 1 by omega, cmp_l, if_pos (by omega), cml, dif_pos (by omega)]
    by_cases h1 : q < v.length
    · rw [if_pos (by omega), if_pos (by omega), rd_nat, rd_nat]
      by_cases h2 : ch u q = ch v q
      · rw [if_pos h2, if_pos ⟨h1, h2⟩, wp (x := (q : Int) + 1) (y := ((q + 1 : Nat) : Int)) (by omega) (by omega) (by omega), ih (q + 1) (by omega), show q + 1 + cml u v (q + 1) = q + (cml u v (q + 1) + 1) by omega]
      · rw [if_neg h2, if_neg (fun h => h2 h.2), Nat.add_zero]
    · rw [if_neg (by omega), if_neg (fun h => h1 h.1), Nat.add_zero]
/-- -1, 0, 1: less, it begins with p, greater. -/
def sgn (u p : List Int) : Int := if cml u p 0 = p.length then 0 else if cml u p 0 = u.length then -1 else if ch u (cml u p 0) < ch p (cml u p 0) then -1 else 1
theorem Compare_f (hs : s.length ≤ 16777216) (hx : IsIx s x) {i : Nat} (hi : i < s.length) {k : Nat} (hk : s.length + 4 ≤ k) : suffix_Index_Compare.f k [x] (i : Int) p = some (sgn (s.drop i) p, (cml (s.drop i) p 0 : Int), 0) := by
  unfold suffix_Index_Compare.f
  have h := place1_f hx (i : Int) (k - 2)
  rw [show k - 2 + 2 = k by omega] at h
  have hl := cmp_l_ok (u := s.drop i) (v := p) (by rw [List.length_drop]; omega) (s.drop i).length 0 (by omega) (k - (s.drop i).length - 1)
  have hd : (s.drop i).length = s.length - i := List.length_drop
  rw [show k - (s.drop i).length - 1 + (s.drop i).length + 1 = k by omega, show ((0 : Nat) : Int) = 0 from rfl, Nat.zero_add] at hl
  have hf := cml_fit (u := s.drop i) (v := p) _ 0 rfl
  rw [h, if_pos (by omega), Option.bind_some, if_pos rfl, if_pos (by simp), if_pos (by omega), show rd_T61 [x] 0 = x from rfl, hx.2.1, if_pos (by omega), Int.toNat_natCast, hl, Option.bind_some]
  unfold sgn
  by_cases c1 : cml (s.drop i) p 0 = p.length
  · rw [if_pos (by omega), if_pos c1]
  · rw [if_neg (by omega), if_neg c1, if_pos (by omega), if_pos (by omega)]
    by_cases c2 : cml (s.drop i) p 0 = (s.drop i).length
    · rw [if_pos (by omega), if_pos c2]
    · rw [if_neg (by omega), if_neg c2, if_pos (by omega), rd_nat, rd_nat]
      by_cases c3 : ch (s.drop i) (cml (s.drop i) p 0) < ch p (cml (s.drop i) p 0)
      · rw [if_pos c3, if_pos c3]
      · rw [if_neg c3, if_neg c3]
theorem compare_f (hs : s.length ≤ 16777216) (hx : IsIx s x) {r : Nat} (hr : r < s.length) {k : Nat} (hk : s.length + 4 ≤ k) : find_compare.f k [x] (r : Int) p = some (sgn (s.drop (P x.f2 r)) p, (cml (s.drop (P x.f2 r)) p 0 : Int)) := by
  unfold find_compare.f
  rw [At_in hx hr (by omega), Option.bind_some]
  dsimp only
  rw [Compare_f hs hx (sa_at hx.2.2.1 hr).2.1 hk]; rfl
end
end Go.Proofs.Ytphchkkicpnehaa.SD
end

section
/- The unlike texts of any bytes, in their order: how many, which, that they rise; and Kth tells them. -/
namespace Go.Proofs.Ytphchkkicpnehaa.SD
open Go.RowKit Go.Proofs.Ytphchkkicpnehaa Go.Proofs.Ytphchkkicpnehaa.X Go.Proofs.Ytphchkkicpnehaa.SM Go.Proofs.YtphchkkicpnehaaW.PrintWords Go.Proofs.YtphchkkicpnehaaW.PrintLast

section
variable {s : List Int} {sa : List Int}
attribute [local irreducible] cn cv fr tov rk3 loc2 ch rank
theorem places (h : IsSA s sa) : ((List.range s.length).map (P sa)).Perm (List.range s.length) := by
  refine (List.perm_ext_iff_of_nodup ?_ List.nodup_range).2 fun x => ?_
  · refine List.pairwise_map.2 (List.Pairwise.imp_of_mem (R := fun a b => a < b) (fun {a b} ha hb hab => ?_) List.pairwise_lt_range)
    have ha := List.mem_range.1 ha
    have hb := List.mem_range.1 hb
    have h1 := (sa_at h ha).2.2
    have h2 := (sa_at h hb).2.2
    intro e
    rw [e] at h1
    omega
  · rw [List.mem_map, List.mem_range]
    constructor
    · rintro ⟨a, ha, rfl⟩
      exact (sa_at h (List.mem_range.1 ha)).2.1
    · intro hx
      exact ⟨rank s.length (ch s) x, List.mem_range.2 (rank_lt hx), P_rank h hx⟩

end
end Go.Proofs.Ytphchkkicpnehaa.SD
end

section
/- By rank, what compare tells rises; how many are less than a text, by place and by rank. -/
namespace Go.Proofs.Ytphchkkicpnehaa.SD
open Go.RowKit Go.Proofs.Ytphchkkicpnehaa Go.Proofs.Ytphchkkicpnehaa.X Go.Proofs.Ytphchkkicpnehaa.SM Go.Proofs.YtphchkkicpnehaaW.PrintWords Go.Proofs.YtphchkkicpnehaaW.PrintLast

section
variable {s p u v : List Int} {x : S61} {sa : List Int}
attribute [local irreducible] cv fr tov rk3 loc2 ch rank
theorem cml_is (m : Nat) (h1 : m ≤ u.length) (h2 : m ≤ v.length) (h : ∀ q, q < m → ch u q = ch v q) (hs : ¬ (m < u.length ∧ m < v.length ∧ ch u m = ch v m)) : cml u v 0 = m := by
  have a := cml_stop (u := u) (v := v) _ 0 rfl
  have b := cml_get (u := u) (v := v) _ 0 rfl
  rw [Nat.zero_add] at a
  rcases Nat.lt_trichotomy (cml u v 0) m with g | g | g
  · exact absurd ⟨by omega, by omega, h _ g⟩ a
  · exact g
  · have := b m g
    rw [Nat.zero_add] at this
    exact absurd this hs
theorem sgn_cases (u p : List Int) : sgn u p = -1 ∨ sgn u p = 0 ∨ sgn u p = 1 := by
  unfold sgn
  split
  · exact .inr (.inl rfl)
  · split
    · exact .inl rfl
    · split
      · exact .inl rfl
      · exact .inr (.inr rfl)
/-- Greater, if it parts from p upward. -/
theorem sgn_up (m : Nat) (h1 : m < u.length) (h2 : m < p.length) (h : ∀ q, q < m → ch u q = ch p q) (hg : ch p m < ch u m) : sgn u p = 1 := by
  have e := cml_is (u := u) (v := p) m (by omega) (by omega) h (fun z => by omega)
  unfold sgn
  rw [e, if_neg (by omega), if_neg (by omega), if_neg (by omega)]
theorem sgn_mono {i j : Nat} (h : slt s.length (ch s) i j = true) : sgn (s.drop i) p ≤ sgn (s.drop j) p := by
  obtain ⟨h1, h2⟩ := slt_com.1 h
  have hc := fun q => com_get (n := s.length) (c := ch s) (i := i) (j := j) (q := q)
  have li : (s.drop i).length = s.length - i := List.length_drop
  have lj : (s.drop j).length = s.length - j := List.length_drop
  have gi := cml_get (u := s.drop i) (v := p) _ 0 rfl
  have fi := cml_fit (u := s.drop i) (v := p) _ 0 rfl
  have si := cml_stop (u := s.drop i) (v := p) _ 0 rfl
  rw [Nat.zero_add] at si
  have ag : ∀ q, q < cml (s.drop i) p 0 → ch (s.drop i) q = ch p q := fun q hq => by
    have := (gi q hq).2.2
    rw [Nat.zero_add] at this
    exact this
  have hle := com_le (n := s.length) (c := ch s) i j
  by_cases c1 : com s.length (ch s) i j < cml (s.drop i) p 0
  · have : sgn (s.drop j) p = 1 := by
      refine sgn_up (com s.length (ch s) i j) (by omega) (by omega) (fun q hq => ?_) ?_
      · rw [ch_drop, ← (hc q hq).2.2, ← ch_drop, ag q (by omega)]
      · rw [← ag _ c1, ch_drop, ch_drop]
        exact h2 (by omega)
    have := sgn_cases (s.drop i) p
    omega
  · have agj : ∀ q, q < cml (s.drop i) p 0 → ch (s.drop j) q = ch p q := fun q hq => by
      rw [ch_drop, ← (hc q (by omega)).2.2, ← ch_drop, ag q hq]
    by_cases c2 : cml (s.drop i) p 0 = p.length
    · have e0 : sgn (s.drop i) p = 0 := by unfold sgn; rw [if_pos c2]
      have e1 : sgn (s.drop j) p = 0 := by
        have : cml (s.drop j) p 0 = p.length := cml_is p.length (by omega) (Nat.le_refl _) (fun q hq => agj q (by omega)) (fun z => by omega)
        unfold sgn; rw [if_pos this]
      omega
    · rcases sgn_cases (s.drop i) p with e | e | e
      · have := sgn_cases (s.drop j) p; omega
      · unfold sgn at e
        rw [if_neg c2] at e
        split at e
        · exact absurd e (by decide)
        · split at e <;> exact absurd e (by decide)
      · have : sgn (s.drop j) p = 1 := by
          unfold sgn at e
          rw [if_neg c2] at e
          split at e
          · exact absurd e (by decide)
          · rename_i c3
            split at e
            · exact absurd e (by decide)
            · rename_i c4
              have hne : ch (s.drop i) (cml (s.drop i) p 0) ≠ ch p (cml (s.drop i) p 0) := fun z => si ⟨by omega, by omega, z⟩
              refine sgn_up (cml (s.drop i) p 0) (by omega) (by omega) agj ?_
              by_cases c5 : cml (s.drop i) p 0 < com s.length (ch s) i j
              · rw [ch_drop, ← (hc _ c5).2.2, ← ch_drop]; omega
              · have e5 : cml (s.drop i) p 0 = com s.length (ch s) i j := by omega
                rw [ch_drop] at c4 hne ⊢
                rw [e5] at c4 hne c3 ⊢
                have := h2 (by omega)
                omega
        omega
/-- A count over places is one over ranks. -/
theorem cn_range (n : Nat) (T : Nat → Bool) : cn n T = (List.range n).countP T := by
  induction n with
  | zero => rfl
  | succ n ih =>
    rw [List.range_succ, List.countP_append, ← ih, cn]
    cases hT : T n <;> simp [hT]
theorem cn_rank (h : IsSA s sa) (T : Nat → Bool) : cn s.length (fun r => T (P sa r)) = cn s.length T := by
  rw [cn_range, cn_range, ← (places h).countP_eq T, List.countP_map]; rfl
theorem cn_below {n m : Nat} (hm : m ≤ n) {T : Nat → Bool} (h1 : ∀ q, q < m → T q = true) (h2 : ∀ q, m ≤ q → q < n → T q = false) : cn n T = m := by
  induction n with
  | zero => have : m = 0 := by omega
            subst this; rfl
  | succ n ih =>
    by_cases e : m = n + 1
    · subst e
      exact cn_true fun j hj => h1 j hj
    · have := ih (by omega) (fun q a b => h2 q a (by omega))
      rw [cn, this, h2 n (by omega) (by omega)]; rfl
end
end Go.Proofs.Ytphchkkicpnehaa.SD
end

section
/- The longest beginning of a text that stands anywhere: what most tells, from the rank where the text would stand and the one ahead. -/
namespace Go.Proofs.Ytphchkkicpnehaa.SD
open Go.RowKit Go.Proofs.Ytphchkkicpnehaa Go.Proofs.Ytphchkkicpnehaa.X Go.Proofs.Ytphchkkicpnehaa.SM Go.Proofs.YtphchkkicpnehaaW.PrintWords Go.Proofs.YtphchkkicpnehaaW.PrintLast

section
variable {s p u v : List Int} {x : S61} {sa : List Int}
attribute [local irreducible] cv fr tov rk3 loc2 ch rank
theorem cml_agree {a q : Nat} (hq : q < cml (s.drop a) p 0) : a + q < s.length ∧ q < p.length ∧ ch s (a + q) = ch p q := by
  have h := cml_get (u := s.drop a) (v := p) _ 0 rfl q hq
  rw [Nat.zero_add, List.length_drop, ch_drop] at h
  exact ⟨by omega, h.2⟩
theorem cml_parts (s p : List Int) (a : Nat) : ¬ (a + cml (s.drop a) p 0 < s.length ∧ cml (s.drop a) p 0 < p.length ∧ ch s (a + cml (s.drop a) p 0) = ch p (cml (s.drop a) p 0)) := by
  have h := cml_stop (u := s.drop a) (v := p) _ 0 rfl
  rw [Nat.zero_add, List.length_drop, ch_drop] at h
  exact fun z => h ⟨by omega, z.2⟩
theorem cml_ge {a m : Nat} (h : ∀ q, q < m → a + q < s.length ∧ q < p.length ∧ ch s (a + q) = ch p q) : m ≤ cml (s.drop a) p 0 := by
  rcases Nat.lt_or_ge (cml (s.drop a) p 0) m with g | g
  · exact absurd (h _ g) (cml_parts s p a)
  · exact g
theorem cml_fits (s p : List Int) (a : Nat) : cml (s.drop a) p 0 ≤ s.length - a ∧ cml (s.drop a) p 0 ≤ p.length := by
  have h := cml_fit (u := s.drop a) (v := p) _ 0 rfl
  rw [List.length_drop] at h
  omega
theorem sgn_neg {a : Nat} (h : sgn (s.drop a) p < 0) : cml (s.drop a) p 0 < p.length ∧ (a + cml (s.drop a) p 0 < s.length → ch s (a + cml (s.drop a) p 0) < ch p (cml (s.drop a) p 0)) := by
  have hf := cml_fits s p a
  unfold sgn at h
  rw [List.length_drop, ch_drop] at h
  split at h
  · omega
  · refine ⟨by omega, fun hl => ?_⟩
    split at h
    · omega
    · split at h
      · assumption
      · omega
end
end Go.Proofs.Ytphchkkicpnehaa.SD
end

section
/- Pieces: a text's beginning stands at a place if as many bytes are in common. -/
namespace Go.Proofs.Ytphchkkicpnehaa.SD
open Go.RowKit Go.Proofs.Ytphchkkicpnehaa Go.Proofs.Ytphchkkicpnehaa.X Go.Proofs.Ytphchkkicpnehaa.SM Go.Proofs.YtphchkkicpnehaaW.PrintWords Go.Proofs.YtphchkkicpnehaaW.PrintLast

section
variable {s p : List Int}
attribute [local irreducible] cv fr tov rk3 loc2 rank
theorem bl_ok (h : ∀ x ∈ s, (Lit.int .u8 x).wf = true) : BL s := fun x hx => byte_wf' (h x hx)
theorem ch_ext2 {l l' : List Int} (hl : l.length = l'.length) (h : ∀ q, q < l.length → ch l q = ch l' q) : l = l' := by
  apply List.ext_getElem?
  intro q
  by_cases hq : q < l.length
  · have := h q hq
    unfold ch at this
    rw [List.getD_eq_getElem?_getD, List.getD_eq_getElem?_getD, List.getElem?_eq_getElem hq, List.getElem?_eq_getElem (by omega)] at this
    rw [List.getElem?_eq_getElem hq, List.getElem?_eq_getElem (by omega)]
    exact congrArg some this
  · rw [List.getElem?_eq_none (by omega), List.getElem?_eq_none (by omega)]
theorem piece_eq {a m : Nat} (ha : a + m ≤ s.length) (hm : m ≤ p.length) : (s.take (a + m)).drop a = p.take m ↔ m ≤ cml (s.drop a) p 0 := by
  constructor
  · intro e
    refine cml_ge fun q hq => ⟨by omega, by omega, ?_⟩
    have := congrArg (fun l => ch l q) e
    rw [ch_drop, ch_take, ch_take, if_pos (by omega), if_pos hq] at this
    exact this
  · intro h
    refine ch_ext2 ?_ fun q hq => ?_
    · rw [List.length_drop, List.length_take, List.length_take]; omega
    · rw [List.length_drop, List.length_take] at hq
      rw [ch_drop, ch_take, ch_take, if_pos (by omega), if_pos (by omega)]
      exact (cml_agree (s := s) (p := p) (a := a) (by omega)).2.2
theorem piece_sl (hs : BL s) (hp : BL p) {a m : Nat} (ha : a + m ≤ s.length) (hm : m ≤ p.length) : (strOfNums ((s.take (a + m)).drop a)).toList = (strOfNums (p.take m)).toList ↔ m ≤ cml (s.drop a) p 0 := by
  rw [eq_sl ((hs.take _).drop _) (hp.take _), piece_eq ha hm]
end
end Go.Proofs.Ytphchkkicpnehaa.SD
end

section
/- bounds and Range, plain: as many as are less, and as many as are not greater. -/
namespace Go.Proofs.Ytphchkkicpnehaa.SD
open Go.RowKit Go.Proofs.Ytphchkkicpnehaa Go.Proofs.Ytphchkkicpnehaa.X Go.Proofs.Ytphchkkicpnehaa.SM Go.Proofs.YtphchkkicpnehaaW.PrintWords Go.Proofs.YtphchkkicpnehaaW.PrintLast

section
variable {s p : List Int} {x : S61} {sa : List Int}
attribute [local irreducible] cv fr tov rk3 loc2 ch rank
/-- Less than p, by place. -/
def lss (s p : List Int) (i : Nat) : Bool := decide (sgn (s.drop i) p < 0)
/-- Not greater than p, by place. -/
def leq (s p : List Int) (i : Nat) : Bool := decide (sgn (s.drop i) p ≤ 0)
theorem sgn_ranks (h : IsSA s sa) {a b : Nat} (hab : a ≤ b) (hb : b < s.length) : sgn (s.drop (P sa a)) p ≤ sgn (s.drop (P sa b)) p := by
  by_cases e : a = b
  · rw [e]; exact Int.le_refl _
  · obtain ⟨_, a1, a2⟩ := sa_at h (show a < s.length by omega)
    obtain ⟨_, b1, b2⟩ := sa_at h hb
    exact sgn_mono ((rank_iff a1 b1).1 (by omega))
theorem cn_turn {n : Nat} {T : Nat → Bool} (m : ∀ a b, a ≤ b → b < n → T b = true → T a = true) {r : Nat} (hr : r < n) : T r = true ↔ r < cn n T := by
  constructor
  · intro h
    have h1 : cn (r + 1) T = r + 1 := cn_true fun j hj => m j r (by omega) hr h
    have h2 := cn_up (P := T) (show r + 1 ≤ n by omega)
    omega
  · intro h
    by_cases hT : T r = true
    · exact hT
    · have h1 : cn n T ≤ cn n (fun j => decide (j < r)) := cn_mono fun j hj hj2 => by
        rw [decide_eq_true_eq]
        rcases Nat.lt_or_ge j r with g | g
        · exact g
        · exact absurd (m r j g hj hj2) hT
      have h2 : cn n (fun j => decide (j < r)) = r := cn_below (by omega) (fun q hq => by rw [decide_eq_true_eq]; exact hq) (fun q h1 h2 => by rw [decide_eq_false_iff_not]; omega)
      omega
/-- In the ranks of a text's range its suffixes begin with it, elsewhere none does. -/
theorem range_begins (h : IsSA s sa) (p : List Int) {r : Nat} (hr : r < s.length) : (cn s.length (lss s p) ≤ r ∧ r < cn s.length (leq s p)) ↔ cml (s.drop (P sa r)) p 0 = p.length := by
  have e1 := cn_rank h (lss s p)
  have e2 := cn_rank h (leq s p)
  have m1 : ∀ a b, a ≤ b → b < s.length → lss s p (P sa b) = true → lss s p (P sa a) = true := fun a b hab hb ht => by
    have := sgn_ranks (p := p) h hab hb
    unfold lss at ht ⊢
    simp only [decide_eq_true_eq] at ht ⊢
    omega
  have m2 : ∀ a b, a ≤ b → b < s.length → leq s p (P sa b) = true → leq s p (P sa a) = true := fun a b hab hb ht => by
    have := sgn_ranks (p := p) h hab hb
    unfold leq at ht ⊢
    simp only [decide_eq_true_eq] at ht ⊢
    omega
  have k1 := cn_turn (T := fun r => lss s p (P sa r)) m1 hr
  have k2 := cn_turn (T := fun r => leq s p (P sa r)) m2 hr
  rw [e1] at k1
  rw [e2] at k2
  have key : (lss s p (P sa r) = false ∧ leq s p (P sa r) = true) ↔ cml (s.drop (P sa r)) p 0 = p.length := by
    unfold lss leq
    simp only [decide_eq_false_iff_not, decide_eq_true_eq]
    constructor
    · intro ⟨a, b⟩
      have : sgn (s.drop (P sa r)) p = 0 := by omega
      unfold sgn at this
      split at this
      · assumption
      · split at this
        · exact absurd this (by decide)
        · split at this <;> exact absurd this (by decide)
    · intro e
      have : sgn (s.drop (P sa r)) p = 0 := by unfold sgn; rw [if_pos e]
      omega
  rw [← key]
  constructor
  · intro ⟨a, b⟩
    exact ⟨by rw [Bool.eq_false_iff]; exact fun z => by have := k1.1 z; omega, k2.2 b⟩
  · intro ⟨a, b⟩
    refine ⟨?_, k2.1 b⟩
    rcases Nat.lt_or_ge r (cn s.length (lss s p)) with g | g
    · have := k1.2 g; rw [a] at this; exact absurd this (by decide)
    · exact g
theorem bounds_ok (hs : s.length ≤ 16777216) (hx : IsIx s x) (p : List Int) : ∃ K, ∀ k, K ≤ k → find_bounds.f k [x] p = some ((cn s.length (lss s p) : Int), (cn s.length (leq s p) : Int)) := by
  have hsa := hx.2.2.1
  obtain ⟨lo, _, g2, g3, g4, g5⟩ := srch_ok (x := [x]) (p := p) (t := fun c => decide (c ≥ 0)) (n := s.length) (K0 := s.length + 4) (c := fun r => sgn (s.drop (P x.f2 r)) p) (m := fun r => (cml (s.drop (P x.f2 r)) p 0 : Int)) hs (fun r hr k hk => compare_f hs hx hr hk) (fun a b hab hb ht => by
    have := sgn_ranks (p := p) hsa hab hb
    simp only [decide_eq_true_eq] at ht ⊢
    omega) s.length 0 s.length (by omega) (by omega) (by omega)
  obtain ⟨hi, k1, k2, k3, k4, k5⟩ := srch_ok (x := [x]) (p := p) (t := fun c => decide (c > 0)) (n := s.length) (K0 := s.length + 4) (c := fun r => sgn (s.drop (P x.f2 r)) p) (m := fun r => (cml (s.drop (P x.f2 r)) p 0 : Int)) hs (fun r hr k hk => compare_f hs hx hr hk) (fun a b hab hb ht => by
    have := sgn_ranks (p := p) hsa hab hb
    simp only [decide_eq_true_eq] at ht ⊢
    omega) s.length lo s.length (by omega) (by omega) (by omega)
  have e1 : cn s.length (lss s p) = lo := by
    rw [← cn_rank hsa (lss s p)]
    refine cn_below g2 (fun q hq => ?_) (fun q h1 h2 => ?_)
    · have := g3 q (by omega) hq
      unfold lss
      simp only [decide_eq_false_iff_not, decide_eq_true_eq] at this ⊢
      omega
    · have := g4 q h1 h2
      unfold lss
      simp only [decide_eq_false_iff_not, decide_eq_true_eq] at this ⊢
      omega
  have e2 : cn s.length (leq s p) = hi := by
    rw [← cn_rank hsa (leq s p)]
    refine cn_below k2 (fun q hq => ?_) (fun q h1 h2 => ?_)
    · unfold leq
      by_cases hq2 : q < lo
      · have := g3 q (by omega) hq2
        simp only [decide_eq_false_iff_not, decide_eq_true_eq] at this ⊢
        omega
      · have := k3 q (by omega) hq
        simp only [decide_eq_false_iff_not, decide_eq_true_eq] at this ⊢
        omega
    · have := k4 q h1 h2
      unfold leq
      simp only [decide_eq_false_iff_not, decide_eq_true_eq] at this ⊢
      omega
  refine ⟨2 * s.length + 6, fun k hk => ?_⟩
  unfold find_bounds.f
  have := g5 k (by omega)
  rw [show ((0 : Nat) : Int) = 0 from rfl] at this
  rw [Len_f hx, Option.bind_some, this, Option.bind_some, k5 k (by omega), Option.bind_some, e1, e2]
theorem Range_ok (hs : s.length ≤ 16777216) (hx : IsIx s x) (p : List Int) : ∃ K, ∀ k, K ≤ k → find_Range.f k [x] p = some ((cn s.length (lss s p) : Int), (cn s.length (leq s p) : Int), 0) := by
  obtain ⟨K, h⟩ := bounds_ok hs hx p
  refine ⟨K + 2, fun k hk => ?_⟩
  unfold find_Range.f
  rw [made_f hx (by omega), Option.bind_some, if_pos rfl, h k (by omega)]; rfl
end
end Go.Proofs.Ytphchkkicpnehaa.SD
end

section
/- Ranges of a text with one byte more: within the text's own, apart, and all but a last one. -/
namespace Go.Proofs.Ytphchkkicpnehaa.SD
open Go.RowKit Go.Proofs.Ytphchkkicpnehaa Go.Proofs.Ytphchkkicpnehaa.X Go.Proofs.Ytphchkkicpnehaa.SM Go.Proofs.YtphchkkicpnehaaW.PrintWords Go.Proofs.YtphchkkicpnehaaW.PrintLast

section
variable {s p : List Int}
attribute [local irreducible] cv fr tov rk3 loc2 ch rank
/-- It begins with p. -/
def beg (s p : List Int) (i : Nat) : Bool := decide (cml (s.drop i) p 0 = p.length)
theorem leq_beg (s p : List Int) (a : Nat) : leq s p a = (lss s p a || beg s p a) := by
  unfold leq lss beg
  rw [Bool.eq_iff_iff, Bool.or_eq_true, decide_eq_true_eq, decide_eq_true_eq, decide_eq_true_eq]
  constructor
  · intro h
    by_cases c : cml (s.drop a) p 0 = p.length
    · exact .inr c
    · left
      unfold sgn at h ⊢
      rw [if_neg c] at h ⊢
      split at h
      · rename_i h2; rw [if_pos h2]; decide
      · rename_i h2; rw [if_neg h2]
        split at h
        · rename_i h3; rw [if_pos h3]; decide
        · exact absurd h (by decide)
  · intro h
    rcases h with h | h
    · omega
    · unfold sgn; rw [if_pos h]; decide
theorem lss_beg {a : Nat} (h : lss s p a = true) : beg s p a = false := by
  unfold lss at h
  unfold beg
  rw [decide_eq_true_eq] at h
  rw [decide_eq_false_iff_not]
  intro e
  unfold sgn at h
  rw [if_pos e] at h
  exact absurd h (by decide)
theorem cn_beg (s p : List Int) (n : Nat) : cn n (leq s p) = cn n (lss s p) + cn n (beg s p) := by
  rw [← cn_or (fun j _ h => by rw [lss_beg h.1] at h; exact absurd h.2 (by decide))]
  exact cn_congr fun j _ => leq_beg s p j
theorem ch_one (p : List Int) (c : Int) (q : Nat) : ch (p ++ [c]) q = if q < p.length then ch p q else if q = p.length then c else 0 := by
  unfold ch
  rw [List.getD_eq_getElem?_getD]
  split
  · rw [List.getElem?_append_left (by omega), List.getD_eq_getElem?_getD]
  · rw [List.getElem?_append_right (by omega)]
    split
    · rename_i h; rw [h, Nat.sub_self]; rfl
    · rw [List.getElem?_eq_none (by rw [List.length_singleton]; omega)]; rfl
/-- What is in common with one byte more. -/
theorem cml_one (p : List Int) (c : Int) (i : Nat) : cml (s.drop i) (p ++ [c]) 0 = if cml (s.drop i) p 0 = p.length ∧ i + p.length < s.length ∧ ch s (i + p.length) = c then p.length + 1 else cml (s.drop i) p 0 := by
  have hf := cml_fits s p i
  have hst := cml_parts s p i
  have ag := fun q (hq : q < cml (s.drop i) p 0) => cml_agree (s := s) (p := p) (a := i) (q := q) hq
  split
  · rename_i h
    refine cml_is _ (by rw [List.length_drop]; omega) (by rw [List.length_append, List.length_singleton]; omega) (fun q hq => ?_) (fun z => ?_)
    · rw [ch_drop, ch_one]
      by_cases g : q < p.length
      · rw [if_pos g]; exact (ag q (by omega)).2.2
      · rw [if_neg g, if_pos (by omega), show q = p.length by omega]; exact h.2.2
    · rw [List.length_append, List.length_singleton] at z; omega
  · rename_i h
    refine cml_is _ (by rw [List.length_drop]; omega) (by rw [List.length_append]; omega) (fun q hq => ?_) (fun z => ?_)
    · rw [ch_drop, ch_one, if_pos (by omega)]; exact (ag q hq).2.2
    · rw [List.length_drop, List.length_append, List.length_singleton, ch_drop, ch_one] at z
      obtain ⟨z1, z2, z3⟩ := z
      by_cases g : cml (s.drop i) p 0 < p.length
      · rw [if_pos g] at z3
        exact hst ⟨by omega, g, z3⟩
      · rw [if_neg g, if_pos (by omega)] at z3
        exact h ⟨by omega, by omega, by rw [show i + p.length = i + cml (s.drop i) p 0 by omega]; exact z3⟩
theorem beg_one (p : List Int) (c : Int) (i : Nat) : beg s (p ++ [c]) i = true ↔ beg s p i = true ∧ i + p.length < s.length ∧ ch s (i + p.length) = c := by
  have hf := cml_fits s p i
  unfold beg
  rw [cml_one, decide_eq_true_eq, decide_eq_true_eq, List.length_append, List.length_singleton]
  split
  · rename_i h; exact ⟨fun _ => h, fun _ => rfl⟩
  · rename_i h; exact ⟨fun z => by omega, fun z => absurd z h⟩
theorem lss_iff (s p : List Int) (i : Nat) : lss s p i = true ↔ cml (s.drop i) p 0 < p.length ∧ (i + cml (s.drop i) p 0 < s.length → ch s (i + cml (s.drop i) p 0) < ch p (cml (s.drop i) p 0)) := by
  have hf := cml_fits s p i
  unfold lss
  rw [decide_eq_true_eq]
  constructor
  · exact sgn_neg
  · intro ⟨h1, h2⟩
    unfold sgn
    rw [if_neg (by omega), List.length_drop, ch_drop]
    by_cases c : cml (s.drop i) p 0 = s.length - i
    · rw [if_pos c]; decide
    · rw [if_neg c, if_pos (h2 (by omega))]; decide
theorem lss_one (p : List Int) (c : Int) {i : Nat} (hi : i < s.length) : lss s (p ++ [c]) i = true ↔ lss s p i = true ∨ (beg s p i = true ∧ (i + p.length = s.length ∨ (i + p.length < s.length ∧ ch s (i + p.length) < c))) := by
  have hf := cml_fits s p i
  rw [lss_iff, lss_iff, cml_one]
  unfold beg
  rw [decide_eq_true_eq, List.length_append, List.length_singleton]
  split
  · rename_i h
    constructor
    · intro z; omega
    · intro z; omega
  · rename_i h
    rw [ch_one]
    by_cases g : cml (s.drop i) p 0 < p.length
    · rw [if_pos g]
      constructor
      · intro z; exact .inl ⟨g, z.2⟩
      · intro z
        rcases z with z | z
        · exact ⟨by omega, z.2⟩
        · omega
    · have e : cml (s.drop i) p 0 = p.length := by omega
      rw [if_neg g, if_pos e, e]
      constructor
      · intro z
        right
        refine ⟨rfl, ?_⟩
        by_cases g2 : i + p.length < s.length
        · exact .inr ⟨g2, z.2 g2⟩
        · left; omega
      · intro z
        rcases z with z | z
        · omega
        · refine ⟨by omega, fun g2 => ?_⟩
          rcases z.2 with z2 | z2
          · omega
          · exact z2.2
theorem within_lo (p : List Int) (c : Int) : cn s.length (lss s p) ≤ cn s.length (lss s (p ++ [c])) := cn_mono fun _ hj h => (lss_one p c hj).2 (.inl h)
theorem within_mid (p : List Int) (c : Int) : cn s.length (lss s (p ++ [c])) ≤ cn s.length (leq s (p ++ [c])) := by rw [cn_beg]; omega
theorem within_hi (p : List Int) (c : Int) : cn s.length (leq s (p ++ [c])) ≤ cn s.length (leq s p) := cn_mono fun j hj h => by
  rw [leq_beg, Bool.or_eq_true, lss_one p c hj, beg_one] at h
  rw [leq_beg, Bool.or_eq_true]
  rcases h with (h | h) | h
  · exact .inl h
  · exact .inr h.1
  · exact .inr h.1
theorem within_next (p : List Int) (c : Nat) : cn s.length (leq s (p ++ [(c : Int)])) ≤ cn s.length (lss s (p ++ [((c + 1 : Nat) : Int)])) := cn_mono fun j hj h => by
  rw [leq_beg, Bool.or_eq_true, lss_one p _ hj, beg_one] at h
  rw [lss_one p _ hj]
  rcases h with (h | h) | h
  · exact .inl h
  · refine .inr ⟨h.1, ?_⟩
    rcases h.2 with g | g
    · exact .inl g
    · exact .inr ⟨g.1, by omega⟩
  · exact .inr ⟨h.1, .inr ⟨h.2.1, by omega⟩⟩
/-- It begins with p, and a byte below c follows. -/
def below (s p : List Int) (c : Nat) (i : Nat) : Bool := beg s p i && decide (i + p.length < s.length ∧ ch s (i + p.length) < (c : Int))
theorem below_iff (s p : List Int) (c i : Nat) : below s p c i = true ↔ beg s p i = true ∧ i + p.length < s.length ∧ ch s (i + p.length) < (c : Int) := by
  unfold below; rw [Bool.and_eq_true, decide_eq_true_eq]
theorem below_next (p : List Int) (c : Nat) : cn s.length (below s p (c + 1)) = cn s.length (below s p c) + cn s.length (beg s (p ++ [(c : Int)])) := by
  rw [← cn_or (fun j _ h => by
    have h1 := (below_iff s p c j).1 h.1
    have h2 := (beg_one p (c : Int) j).1 h.2
    omega)]
  refine cn_congr fun j _ => ?_
  rw [Bool.eq_iff_iff, Bool.or_eq_true, below_iff, below_iff, beg_one]
  constructor
  · intro ⟨a, b, d⟩
    by_cases e : ch s (j + p.length) = (c : Int)
    · exact .inr ⟨a, b, e⟩
    · exact .inl ⟨a, b, by omega⟩
  · intro h
    rcases h with ⟨a, b, d⟩ | ⟨a, b, d⟩
    · exact ⟨a, b, by omega⟩
    · exact ⟨a, b, by omega⟩
theorem ch_bl (hs : BL s) {q : Nat} (hq : q < s.length) : 0 ≤ ch s q ∧ ch s q < 256 := by
  refine hs _ ?_
  unfold ch
  rw [List.getD_eq_getElem?_getD, List.getElem?_eq_getElem hq]
  exact List.getElem_mem hq
theorem below_none (hs : BL s) (p : List Int) : cn s.length (below s p 0) = 0 := cn_false fun j _ => by
  rw [Bool.eq_false_iff]
  intro h
  have h := (below_iff s p 0 j).1 h
  have := ch_bl hs h.2.1
  omega
/-- All, but a last one that is the text itself. -/
theorem below_all (hs : BL s) (p : List Int) : cn s.length (beg s p) = cn s.length (below s p 256) + (if 0 < p.length ∧ p.length ≤ s.length ∧ cml (s.drop (s.length - p.length)) p 0 = p.length then 1 else 0) := by
  have hb : ∀ j, j < s.length → below s p 256 j = (beg s p j && decide (j + p.length < s.length)) := fun j _ => by
    rw [Bool.eq_iff_iff, below_iff, Bool.and_eq_true, decide_eq_true_eq]
    exact ⟨fun h => ⟨h.1, h.2.1⟩, fun h => ⟨h.1, h.2, by have := ch_bl hs h.2; omega⟩⟩
  rw [cn_congr hb]
  have hfit : ∀ j, beg s p j = true → p.length ≤ s.length - j := fun j h => by
    have := cml_fits s p j
    unfold beg at h
    rw [decide_eq_true_eq] at h
    omega
  split
  · rename_i h
    have hb2 : beg s p (s.length - p.length) = true := by unfold beg; rw [decide_eq_true_eq]; exact h.2.2
    refine cn_succ (i := s.length - p.length) (by omega) (by rw [hb2, Bool.true_and, decide_eq_false_iff_not]; omega) (fun j hj => ?_)
    rw [Bool.eq_iff_iff, Bool.or_eq_true, Bool.and_eq_true, decide_eq_true_eq, beq_iff_eq]
    constructor
    · intro g
      have := hfit j g
      by_cases e : j = s.length - p.length
      · exact .inr e
      · exact .inl ⟨g, by omega⟩
    · intro g
      rcases g with g | g
      · exact g.1
      · rw [g]; exact hb2
  · rename_i h
    rw [Nat.add_zero]
    refine cn_congr fun j hj => ?_
    rw [Bool.eq_iff_iff, Bool.and_eq_true, decide_eq_true_eq]
    refine ⟨fun g => ⟨g, ?_⟩, fun g => g.1⟩
    have h1 := hfit j g
    by_cases e : j + p.length < s.length
    · exact e
    · exfalso
      refine h ⟨by omega, by omega, ?_⟩
      unfold beg at g
      rw [decide_eq_true_eq] at g
      rw [show s.length - p.length = j by omega]
      exact g
end
end Go.Proofs.Ytphchkkicpnehaa.SD
end

section
/- The rows that an index tells. -/
namespace Go.Proofs.Ytphchkkicpnehaa.SD
open Go.RowKit Go.Proofs.Ytphchkkicpnehaa Go.Proofs.Ytphchkkicpnehaa.X Go.Proofs.Ytphchkkicpnehaa.SM Go.Proofs.YtphchkkicpnehaaW.PrintWords Go.Proofs.YtphchkkicpnehaaW.PrintLast

section
variable {s : List Int} {x : S61}
attribute [local irreducible] cn cv fr tov rk3 loc2 ch rank
theorem told_f {l : List Int} (hl : l.length ≤ 16777216) : suffix_told.f l = some l := by
  unfold suffix_told.f
  rw [if_pos (by omega), if_pos (by omega), Int.toNat_natCast, copy_eq _ _ (by simp)]; rfl
theorem Array_f (hs : s.length ≤ 16777216) (hx : IsIx s x) : suffix_Index_Array.f [x] = some x.f2 := by
  unfold suffix_Index_Array.f
  rw [is_f hx.1, Option.bind_some, if_pos rfl, if_pos (by simp), show rd_T61 [x] 0 = x from rfl, told_f (by rw [hx.2.2.1.1]; exact hs)]; rfl
end
end Go.Proofs.Ytphchkkicpnehaa.SD
end
