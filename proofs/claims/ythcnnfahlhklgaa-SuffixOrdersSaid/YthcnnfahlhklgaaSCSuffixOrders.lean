import Derived.Test.YthcnnfahlhklgaaSB
import Derived.Test.YthcnnfahlhklgaaXK
import Derived.Test.YthcnnfahlhklgaaXx13
import Derived.Test.YthcnnfahlhklgaaXx21
import Derived.Test.YthcnnfahlhklgaaXx14
import Derived.Test.YthcnnfahlhklgaaXx17
import Derived.Test.YthcnnfahlhklgaaXx16
import Derived.Test.YthcnnfahlhklgaaXL
import Derived.Test.YthcnnfahlhklgaaXx22
import Derived.Test.YthcnnfahlhklgaaXx23
section
/- The printed functions sorted, same, New and the accessors of package suffix, and build: an index of any bytes (at most 2^24) has their order, the ranks, and what neighbours have in common. -/
namespace Go.Proofs.Ythcnnfahlhklgaa.SD
open Go.RowKit Go.Proofs.Ythcnnfahlhklgaa Go.Proofs.Ythcnnfahlhklgaa.X Go.Proofs.Ythcnnfahlhklgaa.SM Go.Proofs.YthcnnfahlhklgaaW.PrintWords Go.Proofs.YthcnnfahlhklgaaW.PrintLast

section
variable {s : List Int}
attribute [local irreducible] cn cv fr tov rk3 loc2 ch rank

theorem byte_wf' {x : Int} (h : (Lit.int .u8 x).wf = true) : 0 ≤ x ∧ x < 256 := by
  simp [Lit.wf, IntKind.min, IntKind.max, IntKind.signed, IntKind.bits] at h
  omega
/-- Bytes. -/
def Byt (s : List Int) : Prop := ∀ q, q < s.length → 0 ≤ ch s q ∧ ch s q < 256
theorem ch_mem' {l : List Int} {q : Nat} (h : q < l.length) : ch l q ∈ l := by
  unfold ch
  rw [List.getD_eq_getElem?_getD, List.getElem?_eq_getElem h]
  exact List.getElem_mem h
theorem byt_wf {l : List Int} (h : ∀ x ∈ l, (Lit.int .u8 x).wf = true) : Byt l := fun _ hq => byte_wf' (h _ (ch_mem' hq))

/-- Places by rank. -/
def P (sa : List Int) (r : Nat) : Nat := (ch sa r).toNat
theorem P_rank {sa : List Int} (h : IsSA s sa) {i : Nat} (hi : i < s.length) : P sa (rank s.length (ch s) i) = i := by
  unfold P; rw [h.2 i hi]; omega
theorem sa_at {sa : List Int} (h : IsSA s sa) {r : Nat} (hr : r < s.length) : ch sa r = (P sa r : Int) ∧ P sa r < s.length ∧ rank s.length (ch s) (P sa r) = r := by
  obtain ⟨i, hi, hir⟩ := rank_onto (c := ch s) hr
  have h1 := h.2 i hi
  rw [hir] at h1
  have h2 : P sa r = i := by unfold P; rw [h1]; omega
  rw [h2, h1]
  exact ⟨rfl, hi, hir⟩
/-- What the suffix of rank r has in common with the one ahead. -/
def lcv (s sa : List Int) (r : Nat) : Nat := if r = 0 then 0 else com s.length (ch s) (P sa (r - 1)) (P sa r)
/-- An index of s. -/
def IsIx (s : List Int) (x : S82) : Prop :=
  x.f0 = true ∧ x.f1 = s ∧ IsSA s x.f2 ∧ x.f3.length = s.length ∧ (∀ i, i < s.length → ch x.f3 i = (rank s.length (ch s) i : Int)) ∧
  x.f4.length = s.length ∧ ∀ r, r < s.length → ch x.f4 r = (lcv s x.f2 r : Int)

theorem sorted_loop (hs : s.length ≤ 16777216) (hb : Byt s) (d : Nat) : ∀ q (o : List Int), s.length - q = d → q ≤ s.length → o.length = s.length → (∀ j, j < q → ch o j = ch s j) → ∀ k, suffix_sorted.l0 (k + d + 1) o s (s.length : Int) (q : Int) = (sais_Array.f (k + d - (s.length - q)) 256 s).bind fun b => some (b.1, b.2) := by
  induction d with
  | zero =>
    intro q o hd hq ho hp k
    have e : o = s := by
      apply List.ext_getElem?
      intro j
      rcases Nat.lt_or_ge j s.length with hj | hj
      · have h1 := hp j (by omega)
        unfold ch at h1
        rw [List.getD_eq_getElem?_getD, List.getD_eq_getElem?_getD, List.getElem?_eq_getElem (by omega), List.getElem?_eq_getElem hj] at h1
        rw [List.getElem?_eq_getElem (by omega), List.getElem?_eq_getElem hj]
        simpa using h1
      · rw [List.getElem?_eq_none (by omega), List.getElem?_eq_none hj]
    rw [show k + 0 + 1 = k + 1 by omega, suffix_sorted.l0, if_neg (by omega), e, show k + 0 - (s.length - q) = k by omega]
  | succ d ih =>
    intro q o hd hq ho hp k
    have hv := hb q (by omega)
    have next := ih (q + 1) (o.set q (ch s q)) (by omega) (by omega) (by rw [List.length_set]; exact ho) (fun j hj => by
      rw [ch_set _ _ _ _ (by omega)]
      by_cases e : q = j
      · rw [if_pos e, ← e]
      · rw [if_neg e]; exact hp j (by omega)) k
    rw [show k + (d + 1) + 1 = k + d + 1 + 1 by omega, suffix_sorted.l0, if_pos (by omega), if_pos (by omega), if_pos (by omega), if_pos (by omega), rd_nat, wp (x := ch s q) rfl (by omega) (by omega), wp (x := (q : Int) + 1) (y := ((q + 1 : Nat) : Int)) (by omega) (by omega) (by omega), Int.toNat_natCast, next, show k + d - (s.length - (q + 1)) = k + (d + 1) - (s.length - q) by omega]
/-- The order of any bytes. -/
theorem sorted_ok (hs : s.length ≤ 16777216) (hb : Byt s) : ∃ K sa, (∀ k, K ≤ k → suffix_sorted.f k s = some (sa, 0)) ∧ IsSA s sa := by
  obtain ⟨K, sa, h1, h2⟩ := Array_ok (k0 := 256) (s := s) ⟨by omega, by omega, hs, hb⟩
  refine ⟨K + s.length + 1, sa, fun k hk => ?_, h2⟩
  unfold suffix_sorted.f
  rw [if_neg (by omega), if_pos (by omega), if_pos (by omega), Int.toNat_natCast]
  have := sorted_loop hs hb s.length 0 (List.replicate s.length 0) (by omega) (by omega) (by simp) (fun j hj => by omega) (k - s.length - 1)
  rw [show k - s.length - 1 + s.length + 1 = k by omega] at this
  rw [show ((0 : Nat) : Int) = 0 from rfl] at this
  rw [this, h1 _ (by omega)]; rfl
theorem sorted_many (hs : 16777216 < s.length) (k : Nat) : suffix_sorted.f k s = some ([], 130) := by
  unfold suffix_sorted.f
  rw [if_pos (by omega)]

/-- same, from two places on. -/
theorem sameIx_loop {y : S82} (hy : y.f1 = s) (hs : s.length ≤ 16777216) {i j : Nat} (hi : i ≤ s.length) (hj : j ≤ s.length) (d : Nat) : ∀ q, com s.length (ch s) i j - q = d → q ≤ com s.length (ch s) i j → ∀ k, suffix_Index_same.l0 (k + d + 1) [y] (i : Int) (j : Int) (q : Int) = some (com s.length (ch s) i j : Int) := by
  have hrd : rd_T82 [y] 0 = y := rfl
  have hle := com_le (n := s.length) (c := ch s) i j
  have w1 : ∀ q : Nat, q ≤ s.length → wrap64 ((i : Int) + (q : Int)) = ((i + q : Nat) : Int) := fun q hq => wp (by omega) (by omega) (by omega)
  have w2 : ∀ q : Nat, q ≤ s.length → wrap64 ((j : Int) + (q : Int)) = ((j + q : Nat) : Int) := fun q hq => wp (by omega) (by omega) (by omega)
  induction d with
  | zero =>
    intro q hd hq k
    have hqe : q = com s.length (ch s) i j := by omega
    have he := com_end (n := s.length) (c := ch s) (i := i) (j := j)
    rw [← hqe] at he ⊢
    rw [show k + 0 + 1 = k + 1 by omega, suffix_Index_same.l0, hrd, hy, w1 q (by omega), w2 q (by omega), if_pos (by simp)]
    by_cases h1 : i + q < s.length
    · rw [if_pos (by omega)]
      by_cases h2 : j + q < s.length
      · rw [if_pos (by omega), if_pos (by omega), if_pos (by omega), rd_nat, rd_nat, if_neg (fun h3 => he ⟨h1, h2, h3⟩)]
      · rw [if_neg (by omega)]
    · rw [if_neg (by omega)]
  | succ d ih =>
    intro q hd hq k
    have hg := com_get (n := s.length) (c := ch s) (i := i) (j := j) (q := q) (by omega)
    rw [show k + (d + 1) + 1 = k + d + 1 + 1 by omega, suffix_Index_same.l0, hrd, hy, w1 q (by omega), w2 q (by omega), if_pos (by simp), if_pos (by omega), if_pos (by omega), if_pos (by omega), if_pos (by omega), rd_nat, rd_nat, if_pos hg.2.2, wp (x := (q : Int) + 1) (y := ((q + 1 : Nat) : Int)) (by omega) (by omega) (by omega)]
    exact ih (q + 1) (by omega) (by omega) k
theorem sameIx_f {y : S82} (hy : y.f1 = s) (hs : s.length ≤ 16777216) {i j : Nat} (hi : i ≤ s.length) (hj : j ≤ s.length) {k : Nat} (hk : com s.length (ch s) i j + 1 ≤ k) : suffix_Index_same.f k [y] (i : Int) (j : Int) = some (com s.length (ch s) i j : Int) := by
  unfold suffix_Index_same.f
  have := sameIx_loop hy hs hi hj (com s.length (ch s) i j) 0 (by omega) (by omega) (k - com s.length (ch s) i j - 1)
  rw [show k - com s.length (ch s) i j - 1 + com s.length (ch s) i j + 1 = k by omega] at this
  exact this

theorem build_r_ok (hs : s.length ≤ 16777216) {sa : List Int} (hsa : IsSA s sa) (d : Nat) : ∀ q (o : List Int), s.length - q = d → q ≤ s.length → o.length = s.length → (∀ i, i < s.length → rank s.length (ch s) i < q → ch o i = (rank s.length (ch s) i : Int)) →
    ∃ o', o'.length = s.length ∧ (∀ i, i < s.length → ch o' i = (rank s.length (ch s) i : Int)) ∧ ∀ k, build_r (k + d + 1) s.length sa o (q : Int) = some o' := by
  induction d with
  | zero =>
    intro q o hd hq ho hp
    refine ⟨o, ho, fun i hi => hp i hi (by have := rank_lt (c := ch s) hi; omega), fun k => ?_⟩
    rw [show k + 0 + 1 = k + 1 by omega, build_r, if_neg (by omega)]
  | succ d ih =>
    intro q o hd hq ho hp
    obtain ⟨h1, h2, h3⟩ := sa_at hsa (show q < s.length by omega)
    obtain ⟨o', g1, g2, g3⟩ := ih (q + 1) (o.set (P sa q) (q : Int)) (by omega) (by omega) (by rw [List.length_set]; exact ho) (fun i hi hr => by
      rw [ch_set _ _ _ _ (by omega)]
      by_cases e : P sa q = i
      · rw [if_pos e, ← e, h3]
      · rw [if_neg e]
        refine hp i hi ?_
        have : rank s.length (ch s) i ≠ q := fun e2 => e (rank_inj h2 hi (by rw [h3, e2]))
        omega)
    refine ⟨o', g1, g2, fun k => ?_⟩
    rw [show k + (d + 1) + 1 = k + d + 1 + 1 by omega, build_r, if_pos (by omega), if_pos (by omega), rd_nat, h1, if_pos (by omega), if_pos (by omega), Int.toNat_natCast, wp (x := (q : Int) + 1) (y := ((q + 1 : Nat) : Int)) (by omega) (by omega) (by omega)]
    exact g3 k

theorem build_l_ok (hs : s.length ≤ 16777216) {sa rk : List Int} (hsa : IsSA s sa) (hrl : rk.length = s.length) (hrk : ∀ i, i < s.length → ch rk i = (rank s.length (ch s) i : Int)) (d : Nat) : ∀ i h (l : List Int), s.length - i = d → i ≤ s.length → l.length = s.length → h ≤ s.length → (i < s.length → 0 < rank s.length (ch s) i → h ≤ com s.length (ch s) (P sa (rank s.length (ch s) i - 1)) i) →
    (∀ j, j < s.length → j < i ∨ rank s.length (ch s) j = 0 → ch l (rank s.length (ch s) j) = (lcv s sa (rank s.length (ch s) j) : Int)) →
    ∃ l', l'.length = s.length ∧ (∀ r, r < s.length → ch l' r = (lcv s sa r : Int)) ∧ ∀ k, build_l (k + d + 2) s.length s sa rk l (h : Int) (i : Int) = some l' := by
  induction d with
  | zero =>
    intro i h l hd hi hl hh hc hp
    refine ⟨l, hl, fun r hr => ?_, fun k => ?_⟩
    · obtain ⟨j, hj, hjr⟩ := rank_onto (c := ch s) hr
      rw [← hjr]; exact hp j hj (.inl (by omega))
    · rw [show k + 0 + 2 = k + 1 + 1 by omega, build_l, if_neg (by omega)]
  | succ d ih =>
    intro i h l hd hi hl hh hc hp
    have hi' : i < s.length := by omega
    have hrlt := rank_lt (c := ch s) hi'
    by_cases h0 : rank s.length (ch s) i = 0
    · obtain ⟨l', g1, g2, g3⟩ := ih (i + 1) 0 l (by omega) (by omega) hl (by omega) (fun _ _ => by omega) (fun j hj hji => hp j hj (by
        rcases hji with hji | hji
        · by_cases e : j = i
          · rw [e]; exact .inr h0
          · exact .inl (by omega)
        · exact .inr hji))
      refine ⟨l', g1, g2, fun k => ?_⟩
      rw [show k + (d + 1) + 2 = k + d + 2 + 1 by omega, build_l, if_pos (by omega), if_pos (by omega), rd_nat, hrk i hi', if_pos (by omega), wp (x := (i : Int) + 1) (y := ((i + 1 : Nat) : Int)) (by omega) (by omega) (by omega)]
      exact g3 k
    · obtain ⟨e1, e2, e3⟩ := sa_at hsa (show rank s.length (ch s) i - 1 < s.length by omega)
      have hc' := hc hi' (by omega)
      generalize hm : com s.length (ch s) (P sa (rank s.length (ch s) i - 1)) i = m at hc'
      generalize hj : P sa (rank s.length (ch s) i - 1) = j at *
      have hfr := com_from (n := s.length) (c := ch s) h j i (by omega)
      have hle := com_le (n := s.length) (c := ch s) j i
      have hcm : com s.length (ch s) (i + h) (j + h) = m - h := by rw [com_comm]; omega
      have hP : P sa (rank s.length (ch s) i) = i := P_rank hsa hi'
      have hl2 : ∀ r, r < s.length → ch (l.set (rank s.length (ch s) i) (m : Int)) r = if rank s.length (ch s) i = r then (m : Int) else ch l r := by
        intro r hr; exact ch_set _ _ _ _ (by omega)
      obtain ⟨l', g1, g2, g3⟩ := ih (i + 1) (m - 1) (l.set (rank s.length (ch s) i) (m : Int)) (by omega) (by omega) (by rw [List.length_set]; exact hl) (by omega)
        (fun hi1 hr1 => by
          have := (kasai (n := s.length) (c := ch s) (p := P sa) (fun i hi => P_rank hsa hi) hi1 (by omega)).1
          rw [hj, hm] at this
          omega)
        (fun j' hj' hji => by
          rw [hl2 _ (rank_lt hj')]
          by_cases e : rank s.length (ch s) i = rank s.length (ch s) j'
          · have := rank_inj hi' hj' e
            subst this
            rw [if_pos rfl]
            unfold lcv
            rw [if_neg h0, hj, hP, hm]
          · rw [if_neg e]
            refine hp j' hj' ?_
            rcases hji with hji | hji
            · have : j' ≠ i := fun e' => e (by rw [e'])
              exact .inl (by omega)
            · exact .inr hji)
      refine ⟨l', g1, g2, fun k => ?_⟩
      have hsm : suffix_Index_same.f (k + d + 2) [⟨true, s, sa, rk, l⟩] (((i + h : Nat) : Int)) (((j + h : Nat) : Int)) = some ((m - h : Nat) : Int) := by
        rw [sameIx_f (s := s) (y := ⟨true, s, sa, rk, l⟩) rfl hs (by omega) (by omega) (by rw [hcm]; omega), hcm]
      rw [show k + (d + 1) + 2 = k + d + 2 + 1 by omega, build_l, if_pos (by omega), if_pos (by omega), rd_nat, hrk i hi', if_neg (by omega), wp (x := (rank s.length (ch s) i : Int) - 1) (y := ((rank s.length (ch s) i - 1 : Nat) : Int)) (by omega) (by omega) (by omega), if_pos (by omega), if_pos (by omega), rd_nat, e1,
        wp (x := (i : Int) + (h : Int)) (y := ((i + h : Nat) : Int)) (by omega) (by omega) (by omega), wp (x := (j : Int) + (h : Int)) (y := ((j + h : Nat) : Int)) (by omega) (by omega) (by omega), hsm, Option.bind_some, if_pos (by omega), if_pos (by omega), Int.toNat_natCast,
        wp (x := (h : Int) + ((m - h : Nat) : Int)) (y := (m : Int)) (by omega) (by omega) (by omega), wp (x := (m : Int) - 1) (y := (m : Int) - 1) rfl (by omega) (by omega), show mx ((m : Int) - 1) 0 = ((m - 1 : Nat) : Int) by (unfold mx; split <;> omega), wp (x := (i : Int) + 1) (y := ((i + 1 : Nat) : Int)) (by omega) (by omega) (by omega)]
      exact g3 k

/-- build, of any bytes and their order. -/
theorem build_ok (hs : s.length ≤ 16777216) {sa : List Int} (hsa : IsSA s sa) : ∃ x, suffix_build.f s sa = some [x] ∧ x.f2 = sa ∧ IsIx s x := by
  obtain ⟨rk, r1, r2, r3⟩ := build_r_ok hs hsa s.length 0 (List.replicate s.length 0) (by omega) (by omega) (by simp) (fun i _ h => by omega)
  obtain ⟨lc, l1, l2, l3⟩ := build_l_ok hs hsa r1 r2 s.length 0 0 (List.replicate s.length 0) (by omega) (by omega) (by simp) (by omega) (fun _ _ => by omega) (fun j hj hji => by
    have h0 : rank s.length (ch s) j = 0 := by omega
    rw [h0]
    unfold lcv
    rw [if_pos rfl]
    unfold ch
    rw [List.getD_eq_getElem?_getD, List.getElem?_replicate]
    split <;> rfl)
  refine ⟨⟨true, s, sa, rk, lc⟩, ?_, rfl, rfl, rfl, hsa, r1, r2, l1, l2⟩
  unfold suffix_build.f
  have a1 := r3 0
  have a2 := l3 0
  rw [show 0 + s.length + 1 = s.length + 1 by omega, show ((0 : Nat) : Int) = 0 from rfl] at a1
  rw [show 0 + s.length + 2 = s.length + 2 by omega, show ((0 : Nat) : Int) = 0 from rfl] at a2
  rw [if_pos hs, if_pos hsa.1, a1, Option.bind_some, a2]; rfl
/-- New, of any bytes: an index of them. -/
theorem New_ok (hs : s.length ≤ 16777216) (hb : Byt s) : ∃ K x, (∀ k, K ≤ k → suffix_New.f k s = some ([x], 0)) ∧ IsIx s x := by
  obtain ⟨K, sa, h1, h2⟩ := sorted_ok hs hb
  obtain ⟨x, h3, _, h4⟩ := build_ok hs h2
  refine ⟨K, x, fun k hk => ?_, h4⟩
  unfold suffix_New.f
  rw [h1 k hk, Option.bind_some, if_pos rfl, h3]; rfl
theorem New_many (hs : 16777216 < s.length) (k : Nat) : suffix_New.f k s = some ([], 130) := by
  unfold suffix_New.f
  rw [sorted_many hs, Option.bind_some, if_neg (by decide)]
end
end Go.Proofs.Ythcnnfahlhklgaa.SD
end

section
/- The accessors of an index. -/
namespace Go.Proofs.Ythcnnfahlhklgaa.SD
open Go.RowKit Go.Proofs.Ythcnnfahlhklgaa Go.Proofs.Ythcnnfahlhklgaa.X Go.Proofs.Ythcnnfahlhklgaa.SM Go.Proofs.YthcnnfahlhklgaaW.PrintWords Go.Proofs.YthcnnfahlhklgaaW.PrintLast

section
variable {s : List Int} {x : S82}
attribute [local irreducible] cn cv fr tov rk3 loc2 ch rank
theorem is_f (hx : x.f0 = true) : suffix_Index_is.f [x] = some true := by
  unfold suffix_Index_is.f
  rw [if_neg (by simp), if_pos (by simp)]
  show some x.f0 = _
  rw [hx]
/-- place, of one number, and of two. -/
theorem place_end (l : List Int) (n : Int) (q : Int) (h : ¬ q < n) (k : Nat) : suffix_Index_place.l0 (k + 1) [x] l n q = some 0 := by
  rw [suffix_Index_place.l0, if_neg h]
theorem place_step (hx : x.f1 = s) (l : List Int) (q : Nat) (hq : q < l.length) (hl : l.length ≤ 1000) (k : Nat) : suffix_Index_place.l0 (k + 1) [x] l (l.length : Int) (q : Int) = if 0 ≤ ch l q ∧ ch l q < (s.length : Int) then suffix_Index_place.l0 k [x] l (l.length : Int) ((q + 1 : Nat) : Int) else some 132 := by
  rw [suffix_Index_place.l0, if_pos (by omega), if_pos (by omega), if_pos (by omega), rd_nat, show rd_T82 [x] 0 = x from rfl, hx]
  by_cases h1 : ch l q < 0
  · rw [if_pos h1, if_neg (by omega)]
  · rw [if_neg h1, if_pos (by simp)]
    by_cases h2 : ch l q ≥ (s.length : Int)
    · rw [if_pos h2, if_neg (by omega)]
    · rw [if_neg h2, if_pos (by omega), wp (x := (q : Int) + 1) (y := ((q + 1 : Nat) : Int)) (by omega) (by omega) (by omega)]
theorem place1_f (hx : IsIx s x) (i : Int) (k : Nat) : suffix_Index_place.f (k + 2) [x] [i] = some (if 0 ≤ i ∧ i < (s.length : Int) then 0 else 132) := by
  unfold suffix_Index_place.f
  rw [is_f hx.1, Option.bind_some, if_pos rfl]
  have h := place_step hx.2.1 [i] 0 (by simp) (by simp) (k + 1)
  have e : ch [i] 0 = i := by unfold ch; rfl
  rw [e] at h
  rw [show ((0 : Nat) : Int) = 0 from rfl] at h
  rw [h]
  split
  · rw [place_end _ _ _ (by simp)]
  · rfl
end
end Go.Proofs.Ythcnnfahlhklgaa.SD
end

section
/- The rows that an index tells. -/
namespace Go.Proofs.Ythcnnfahlhklgaa.SD
open Go.RowKit Go.Proofs.Ythcnnfahlhklgaa Go.Proofs.Ythcnnfahlhklgaa.X Go.Proofs.Ythcnnfahlhklgaa.SM Go.Proofs.YthcnnfahlhklgaaW.PrintWords Go.Proofs.YthcnnfahlhklgaaW.PrintLast

section
variable {s : List Int} {x : S82}
attribute [local irreducible] cn cv fr tov rk3 loc2 ch rank
theorem told_f {l : List Int} (hl : l.length ≤ 16777216) : suffix_told.f l = some l := by
  unfold suffix_told.f
  rw [if_pos (by omega), if_pos (by omega), Int.toNat_natCast, copy_eq _ _ (by simp)]; rfl
theorem Array_f (hs : s.length ≤ 16777216) (hx : IsIx s x) : suffix_Index_Array.f [x] = some x.f2 := by
  unfold suffix_Index_Array.f
  rw [is_f hx.1, Option.bind_some, if_pos rfl, if_pos (by simp), show rd_T82 [x] 0 = x from rfl, told_f (by rw [hx.2.2.1.1]; exact hs)]; rfl
theorem Lcp_f (hs : s.length ≤ 16777216) (hx : IsIx s x) : suffix_Index_Lcp.f [x] = some x.f4 := by
  unfold suffix_Index_Lcp.f
  rw [is_f hx.1, Option.bind_some, if_pos rfl, if_pos (by simp), show rd_T82 [x] 0 = x from rfl, told_f (by rw [hx.2.2.2.2.2.1]; exact hs)]; rfl
end
end Go.Proofs.Ythcnnfahlhklgaa.SD
end

section
/- lives, and the document's Common. -/
namespace Go.Proofs.Ythcnnfahlhklgaa.SD
open Go.RowKit Go.Proofs.Ythcnnfahlhklgaa Go.Proofs.Ythcnnfahlhklgaa.X Go.Proofs.Ythcnnfahlhklgaa.SM Go.Proofs.YthcnnfahlhklgaaW.PrintWords Go.Proofs.YthcnnfahlhklgaaW.PrintLast

theorem lives_f : ∃ K, ∀ k, K ≤ k → sapperlaw13_lives.f k = some true := by
  have h : sapperlaw13_lives.f 400 = some true := by decide +kernel
  exact ⟨400, fun k hk => at_rounds (g := fun k => sapperlaw13_lives.f k) (fun k => sapperlaw13_lives.mono k) hk h⟩

section
variable {s : List Int} {x : S82}
attribute [local irreducible] cn cv fr tov rk3 loc2 ch rank

end
end Go.Proofs.Ythcnnfahlhklgaa.SD
end

section
/- The unlike texts of any bytes, in their order: how many, which, that they rise; and Kth tells them. -/
namespace Go.Proofs.Ythcnnfahlhklgaa.SD
open Go.RowKit Go.Proofs.Ythcnnfahlhklgaa Go.Proofs.Ythcnnfahlhklgaa.X Go.Proofs.Ythcnnfahlhklgaa.SM Go.Proofs.YthcnnfahlhklgaaW.PrintWords Go.Proofs.YthcnnfahlhklgaaW.PrintLast

section
variable {s : List Int} {sa : List Int}
attribute [local irreducible] cn cv fr tov rk3 loc2 ch rank
theorem sa_slt (h : IsSA s sa) {r : Nat} (hr : r + 1 < s.length) : slt s.length (ch s) (P sa r) (P sa (r + 1)) = true := by
  obtain ⟨_, a1, a2⟩ := sa_at h (show r < s.length by omega)
  obtain ⟨_, b1, b2⟩ := sa_at h hr
  exact (rank_iff a1 b1).1 (by omega)
theorem lcv_at (sa : List Int) (r : Nat) : lcv s sa (r + 1) = com s.length (ch s) (P sa r) (P sa (r + 1)) := by
  unfold lcv; rw [if_neg (by omega), Nat.add_sub_cancel]

end
end Go.Proofs.Ythcnnfahlhklgaa.SD
end
