import Derived.Test.YthcnnfahlhklgaaSB
import Derived.Test.YthcnnfahlhklgaaXK
import Derived.Test.YthcnnfahlhklgaaXx13
import Derived.Test.YthcnnfahlhklgaaXx27
import Derived.Test.YthcnnfahlhklgaaXx14
import Derived.Test.YthcnnfahlhklgaaXx17
import Derived.Test.YthcnnfahlhklgaaXx16
import Derived.Test.YthcnnfahlhklgaaXL
import Derived.Test.YthcnnfahlhklgaaXx24
import Derived.Test.YthcnnfahlhklgaaXx25
import Derived.Test.YthcnnfahlhklgaaXC
import Derived.Test.YthcnnfahlhklgaaXx33
import Derived.Test.YthcnnfahlhklgaaXx34
import Derived.Test.YthcnnfahlhklgaaXx36
section
/- The printed functions sorted, same, New and the accessors of package suffix, and build: an index of any bytes (at most 2^24) has their order, the ranks, and what neighbours have in common. -/
namespace Go.Proofs.Ythcnnfahlhklgaa.SD
open Go.RowKit Go.Proofs.Ythcnnfahlhklgaa Go.Proofs.Ythcnnfahlhklgaa.X Go.Proofs.Ythcnnfahlhklgaa.SM Go.Proofs.YthcnnfahlhklgaaW.PrintWords Go.Proofs.YthcnnfahlhklgaaW.PrintLast

section
variable {s : List Int}
attribute [local irreducible] cn cv fr tov rk3 loc2 ch rank

theorem byte_wf' {x : Int} (h : (Lit.int .u8 x).wf = true) : 0 ≤ x ∧ x < 256 := by
 simp [Lit.wf, IntKind.min, IntKind.max, IntKind.signed, IntKind.bits] at h
 omega
/-- Bytes. -/
def Byt (s : List Int) : Prop := ∀ q, q < s.length → 0 ≤ ch s q ∧ ch s q < 256
theorem ch_mem' {l : List Int} {q : Nat} (h : q < l.length) : ch l q ∈ l := by
 unfold ch
 rw [List.getD_eq_getElem?_getD, List.getElem?_eq_getElem h]
 exact List.getElem_mem h
theorem byt_wf {l : List Int} (h : ∀ x ∈ l, (Lit.int .u8 x).wf = true) : Byt l := fun _ hq => byte_wf' (h _ (ch_mem' hq))

/-- Places by rank. -/
def P (sa : List Int) (r : Nat) : Nat := (ch sa r).toNat
theorem P_rank {sa : List Int} (h : IsSA s sa) {i : Nat} (hi : i < s.length) : P sa (rank s.length (ch s) i) = i := by
 unfold P; rw [h.2 i hi]; omega
theorem sa_at {sa : List Int} (h : IsSA s sa) {r : Nat} (hr : r < s.length) : ch sa r = (P sa r : Int) ∧ P sa r < s.length ∧ rank s.length (ch s) (P sa r) = r := by
 obtain ⟨i, hi, hir⟩ := rank_onto (c := ch s) hr
 have h1 := h.2 i hi
 rw [hir] at h1
 have h2 : P sa r = i := by unfold P; rw [h1]; omega
 rw [h2, h1]
 exact ⟨rfl, hi, hir⟩
/-- What the suffix of rank r has in common with the one ahead. -/
def lcv (s sa : List Int) (r : Nat) : Nat := if r = 0 then 0 else com s.length (ch s) (P sa (r - 1)) (P sa r)
/-- An index of s. -/
def IsIx (s : List Int) (x : S82) : Prop :=
 x.f0 = true ∧ x.f1 = s ∧ IsSA s x.f2 ∧ x.f3.length = s.length ∧ (∀ i, i < s.length → ch x.f3 i = (rank s.length (ch s) i : Int)) ∧
 x.f4.length = s.length ∧ ∀ r, r < s.length → ch x.f4 r = (lcv s x.f2 r : Int)

theorem sorted_loop (hs : s.length ≤ 16777216) (hb : Byt s) (d : Nat) : ∀ q (o : List Int), s.length - q = d → q ≤ s.length → o.length = s.length → (∀ j, j < q → ch o j = ch s j) → ∀ k, suffix_sorted.l0 (k + d + 1) o s (s.length : Int) (q : Int) = (sais_Array.f (k + d - (s.length - q)) 256 s).bind fun b => some (b.1, b.2) := by
 induction d with
 | zero =>
  intro q o hd hq ho hp k
  have e : o = s := by
   apply List.ext_getElem?
   intro j
   rcases Nat.lt_or_ge j s.length with hj | hj
   ·have h1 := hp j (by omega)
    unfold ch at h1
    rw [List.getD_eq_getElem?_getD, List.getD_eq_getElem?_getD, List.getElem?_eq_getElem (by omega), List.getElem?_eq_getElem hj] at h1
    rw [List.getElem?_eq_getElem (by omega), List.getElem?_eq_getElem hj]
    simpa using h1
   ·rw [List.getElem?_eq_none (by omega), List.getElem?_eq_none hj]
  rw [show k + 0 + 1 = k + 1 by omega, suffix_sorted.l0, if_neg (by omega), e, show k + 0 - (s.length - q) = k by omega]
 | succ d ih =>
  intro q o hd hq ho hp k
  have hv := hb q (by omega)
  have next := ih (q + 1) (o.set q (ch s q)) (by omega) (by omega) (by rw [List.length_set]; exact ho) (fun j hj => by
   rw [ch_set _ _ _ _ (by omega)]
   by_cases e : q = j
   ·rw [if_pos e, ← e]
   ·rw [if_neg e]; exact hp j (by omega)) k
  rw [show k + (d + 1) + 1 = k + d + 1 + 1 by omega, suffix_sorted.l0, if_pos (by omega), if_pos (by omega), if_pos (by omega), if_pos (by omega), rd_nat, wp (x := ch s q) rfl (by omega) (by omega), wp (x := (q : Int) + 1) (y := ((q + 1 : Nat) : Int)) (by omega) (by omega) (by omega), Int.toNat_natCast, next, show k + d - (s.length - (q + 1)) = k + (d + 1) - (s.length - q) by omega]
/-- The order of any bytes. -/
theorem sorted_ok (hs : s.length ≤ 16777216) (hb : Byt s) : ∃ K sa, (∀ k, K ≤ k → suffix_sorted.f k s = some (sa, 0)) ∧ IsSA s sa := by
 obtain ⟨K, sa, h1, h2⟩ := Array_ok (k0 := 256) (s := s) ⟨by omega, by omega, hs, hb⟩
 refine ⟨K + s.length + 1, sa, fun k hk => ?_, h2⟩
 unfold suffix_sorted.f
 rw [if_neg (by omega), if_pos (by omega), if_pos (by omega), Int.toNat_natCast]
 have := sorted_loop hs hb s.length 0 (List.replicate s.length 0) (by omega) (by omega) (by simp) (fun j hj => by omega) (k - s.length - 1)
 rw [show k - s.length - 1 + s.length + 1 = k by omega] at this
 rw [show ((0 : Nat) : Int) = 0 from rfl] at this
 rw [this, h1 _ (by omega)]; rfl
theorem sorted_many (hs : 16777216 < s.length) (k : Nat) : suffix_sorted.f k s = some ([], 130) := by
 unfold suffix_sorted.f
 rw [if_pos (by omega)]

/-- same, from two places on. -/
theorem sameIx_loop {y : S82} (hy : y.f1 = s) (hs : s.length ≤ 16777216) {i j : Nat} (hi : i ≤ s.length) (hj : j ≤ s.length) (d : Nat) : ∀ q, com s.length (ch s) i j - q = d → q ≤ com s.length (ch s) i j → ∀ k, suffix_Index_same.l0 (k + d + 1) [y] (i : Int) (j : Int) (q : Int) = some (com s.length (ch s) i j : Int) := by
 have hrd : rd_T82 [y] 0 = y := rfl
 have hle := com_le (n := s.length) (c := ch s) i j
 have w1 : ∀ q : Nat, q ≤ s.length → wrap64 ((i : Int) + (q : Int)) = ((i + q : Nat) : Int) := fun q hq => wp (by omega) (by omega) (by omega)
 have w2 : ∀ q : Nat, q ≤ s.length → wrap64 ((j : Int) + (q : Int)) = ((j + q : Nat) : Int) := fun q hq => wp (by omega) (by omega) (by omega)
 induction d with
 | zero =>
  intro q hd hq k
  have hqe : q = com s.length (ch s) i j := by omega
  have he := com_end (n := s.length) (c := ch s) (i := i) (j := j)
  rw [← hqe] at he ⊢
  rw [show k + 0 + 1 = k + 1 by omega, suffix_Index_same.l0, hrd, hy, w1 q (by omega), w2 q (by omega), if_pos (by simp)]
  by_cases h1 : i + q < s.length
  ·rw [if_pos (by omega)]
   by_cases h2 : j + q < s.length
   ·rw [if_pos (by omega), if_pos (by omega), if_pos (by omega), rd_nat, rd_nat, if_neg (fun h3 => he ⟨h1, h2, h3⟩)]
   ·rw [if_neg (by omega)]
  ·rw [if_neg (by omega)]
 | succ d ih =>
  intro q hd hq k
  have hg := com_get (n := s.length) (c := ch s) (i := i) (j := j) (q := q) (by omega)
  rw [show k + (d + 1) + 1 = k + d + 1 + 1 by omega, suffix_Index_same.l0, hrd, hy, w1 q (by omega), w2 q (by omega), if_pos (by simp), if_pos (by omega), if_pos (by omega), if_pos (by omega), if_pos (by omega), rd_nat, rd_nat, if_pos hg.2.2, wp (x := (q : Int) + 1) (y := ((q + 1 : Nat) : Int)) (by omega) (by omega) (by omega)]
  exact ih (q + 1) (by omega) (by omega) k
theorem sameIx_f {y : S82} (hy : y.f1 = s) (hs : s.length ≤ 16777216) {i j : Nat} (hi : i ≤ s.length) (hj : j ≤ s.length) {k : Nat} (hk : com s.length (ch s) i j + 1 ≤ k) : suffix_Index_same.f k [y] (i : Int) (j : Int) = some (com s.length (ch s) i j : Int) := by
 unfold suffix_Index_same.f
 have := sameIx_loop hy hs hi hj (com s.length (ch s) i j) 0 (by omega) (by omega) (k - com s.length (ch s) i j - 1)
 rw [show k - com s.length (ch s) i j - 1 + com s.length (ch s) i j + 1 = k by omega] at this
 exact this

theorem build_r_ok (hs : s.length ≤ 16777216) {sa : List Int} (hsa : IsSA s sa) (d : Nat) : ∀ q (o : List Int), s.length - q = d → q ≤ s.length → o.length = s.length → (∀ i, i < s.length → rank s.length (ch s) i < q → ch o i = (rank s.length (ch s) i : Int)) →
  ∃ o', o'.length = s.length ∧ (∀ i, i < s.length → ch o' i = (rank s.length (ch s) i : Int)) ∧ ∀ k, build_r (k + d + 1) s.length sa o (q : Int) = some o' := by
 induction d with
 | zero =>
  intro q o hd hq ho hp
  refine ⟨o, ho, fun i hi => hp i hi (by have := rank_lt (c := ch s) hi; omega), fun k => ?_⟩
  rw [show k + 0 + 1 = k + 1 by omega, build_r, if_neg (by omega)]
 | succ d ih =>
  intro q o hd hq ho hp
  obtain ⟨h1, h2, h3⟩ := sa_at hsa (show q < s.length by omega)
  obtain ⟨o', g1, g2, g3⟩ := ih (q + 1) (o.set (P sa q) (q : Int)) (by omega) (by omega) (by rw [List.length_set]; exact ho) (fun i hi hr => by
   rw [ch_set _ _ _ _ (by omega)]
   by_cases e : P sa q = i
   ·rw [if_pos e, ← e, h3]
   ·rw [if_neg e]
    refine hp i hi ?_
    have : rank s.length (ch s) i ≠ q := fun e2 => e (rank_inj h2 hi (by rw [h3, e2]))
    omega)
  refine ⟨o', g1, g2, fun k => ?_⟩
  rw [show k + (d + 1) + 1 = k + d + 1 + 1 by omega, build_r, if_pos (by omega), if_pos (by omega), rd_nat, h1, if_pos (by omega), if_pos (by omega), Int.toNat_natCast, wp (x := (q : Int) + 1) (y := ((q + 1 : Nat) : Int)) (by omega) (by omega) (by omega)]
  exact g3 k

theorem build_l_ok (hs : s.length ≤ 16777216) {sa rk : List Int} (hsa : IsSA s sa) (hrl : rk.length = s.length) (hrk : ∀ i, i < s.length → ch rk i = (rank s.length (ch s) i : Int)) (d : Nat) : ∀ i h (l : List Int), s.length - i = d → i ≤ s.length → l.length = s.length → h ≤ s.length → (i < s.length → 0 < rank s.length (ch s) i → h ≤ com s.length (ch s) (P sa (rank s.length (ch s) i - 1)) i) →
  (∀ j, j < s.length → j < i ∨ rank s.length (ch s) j = 0 → ch l (rank s.length (ch s) j) = (lcv s sa (rank s.length (ch s) j) : Int)) →
  ∃ l', l'.length = s.length ∧ (∀ r, r < s.length → ch l' r = (lcv s sa r : Int)) ∧ ∀ k, build_l (k + d + 2) s.length s sa rk l (h : Int) (i : Int) = some l' := by
 induction d with
 | zero =>
  intro i h l hd hi hl hh hc hp
  refine ⟨l, hl, fun r hr => ?_, fun k => ?_⟩
  ·obtain ⟨j, hj, hjr⟩ := rank_onto (c := ch s) hr
   rw [← hjr]; exact hp j hj (.inl (by omega))
  ·rw [show k + 0 + 2 = k + 1 + 1 by omega, build_l, if_neg (by omega)]
 | succ d ih =>
  intro i h l hd hi hl hh hc hp
  have hi' : i < s.length := by omega
  have hrlt := rank_lt (c := ch s) hi'
  by_cases h0 : rank s.length (ch s) i = 0
  ·obtain ⟨l', g1, g2, g3⟩ := ih (i + 1) 0 l (by omega) (by omega) hl (by omega) (fun _ _ => by omega) (fun j hj hji => hp j hj (by
    rcases hji with hji | hji
    ·by_cases e : j = i
     ·rw [e]; exact .inr h0
     ·exact .inl (by omega)
    ·exact .inr hji))
   refine ⟨l', g1, g2, fun k => ?_⟩
   rw [show k + (d + 1) + 2 = k + d + 2 + 1 by omega, build_l, if_pos (by omega), if_pos (by omega), rd_nat, hrk i hi', if_pos (by omega), wp (x := (i : Int) + 1) (y := ((i + 1 : Nat) : Int)) (by omega) (by omega) (by omega)]
   exact g3 k
  ·obtain ⟨e1, e2, e3⟩ := sa_at hsa (show rank s.length (ch s) i - 1 < s.length by omega)
   have hc' := hc hi' (by omega)
   generalize hm : com s.length (ch s) (P sa (rank s.length (ch s) i - 1)) i = m at hc'
   generalize hj : P sa (rank s.length (ch s) i - 1) = j at *
   have hfr := com_from (n := s.length) (c := ch s) h j i (by omega)
   have hle := com_le (n := s.length) (c := ch s) j i
   have hcm : com s.length (ch s) (i + h) (j + h) = m - h := by rw [com_comm]; omega
   have hP : P sa (rank s.length (ch s) i) = i := P_rank hsa hi'
   have hl2 : ∀ r, r < s.length → ch (l.set (rank s.length (ch s) i) (m : Int)) r = if rank s.length (ch s) i = r then (m : Int) else ch l r := by
    intro r hr; exact ch_set _ _ _ _ (by omega)
   obtain ⟨l', g1, g2, g3⟩ := ih (i + 1) (m - 1) (l.set (rank s.length (ch s) i) (m : Int)) (by omega) (by omega) (by rw [List.length_set]; exact hl) (by omega)
    (fun hi1 hr1 => by
     have := (kasai (n := s.length) (c := ch s) (p := P sa) (fun i hi => P_rank hsa hi) hi1 (by omega)).1
     rw [hj, hm] at this
     omega)
    (fun j' hj' hji => by
     rw [hl2 _ (rank_lt hj')]
     by_cases e : rank s.length (ch s) i = rank s.length (ch s) j'
     ·have := rank_inj hi' hj' e
      subst this
      rw [if_pos rfl]
      unfold lcv
      rw [if_neg h0, hj, hP, hm]
     ·rw [if_neg e]
      refine hp j' hj' ?_
      rcases hji with hji | hji
      ·have : j' ≠ i := fun e' => e (by rw [e'])
       exact .inl (by omega)
      ·exact .inr hji)
   refine ⟨l', g1, g2, fun k => ?_⟩
   have hsm : suffix_Index_same.f (k + d + 2) [⟨true, s, sa, rk, l⟩] (((i + h : Nat) : Int)) (((j + h : Nat) : Int)) = some ((m - h : Nat) : Int) := by
    rw [sameIx_f (s := s) (y := ⟨true, s, sa, rk, l⟩) rfl hs (by omega) (by omega) (by rw [hcm]; omega), hcm]
   rw [show k + (d + 1) + 2 = k + d + 2 + 1 by omega, build_l, if_pos (by omega), if_pos (by omega), rd_nat, hrk i hi', if_neg (by omega), wp (x := (rank s.length (ch s) i : Int) - 1) (y := ((rank s.length (ch s) i - 1 : Nat) : Int)) (by omega) (by omega) (by omega), if_pos (by omega), if_pos (by omega), rd_nat, e1,
    wp (x := (i : Int) + (h : Int)) (y := ((i + h : Nat) : Int)) (by omega) (by omega) (by omega), wp (x := (j : Int) + (h : Int)) (y := ((j + h : Nat) : Int)) (by omega) (by omega) (by omega), hsm, Option.bind_some, if_pos (by omega), if_pos (by omega), Int.toNat_natCast,
    wp (x := (h : Int) + ((m - h : Nat) : Int)) (y := (m : Int)) (by omega) (by omega) (by omega), wp (x := (m : Int) - 1) (y := (m : Int) - 1) rfl (by omega) (by omega), show mx ((m : Int) - 1) 0 = ((m - 1 : Nat) : Int) by (unfold mx; split <;> omega), wp (x := (i : Int) + 1) (y := ((i + 1 : Nat) : Int)) (by omega) (by omega) (by omega)]
   exact g3 k

/-- build, of any bytes and their order. -/
theorem build_ok (hs : s.length ≤ 16777216) {sa : List Int} (hsa : IsSA s sa) : ∃ x, suffix_build.f s sa = some [x] ∧ x.f2 = sa ∧ IsIx s x := by
 obtain ⟨rk, r1, r2, r3⟩ := build_r_ok hs hsa s.length 0 (List.replicate s.length 0) (by omega) (by omega) (by simp) (fun i _ h => by omega)
 obtain ⟨lc, l1, l2, l3⟩ := build_l_ok hs hsa r1 r2 s.length 0 0 (List.replicate s.length 0) (by omega) (by omega) (by simp) (by omega) (fun _ _ => by omega) (fun j hj hji => by
  have h0 : rank s.length (ch s) j = 0 := by omega
  rw [h0]
  unfold lcv
  rw [if_pos rfl]
  unfold ch
  rw [List.getD_eq_getElem?_getD, List.getElem?_replicate]
  split <;> rfl)
 refine ⟨⟨true, s, sa, rk, lc⟩, ?_, rfl, rfl, rfl, hsa, r1, r2, l1, l2⟩
 unfold suffix_build.f
 have a1 := r3 0
 have a2 := l3 0
 rw [show 0 + s.length + 1 = s.length + 1 by omega, show ((0 : Nat) : Int) = 0 from rfl] at a1
 rw [show 0 + s.length + 2 = s.length + 2 by omega, show ((0 : Nat) : Int) = 0 from rfl] at a2
 rw [if_pos hs, if_pos hsa.1, a1, Option.bind_some, a2]; rfl
/-- New, of any bytes: an index of them. -/
theorem New_ok (hs : s.length ≤ 16777216) (hb : Byt s) : ∃ K x, (∀ k, K ≤ k → suffix_New.f k s = some ([x], 0)) ∧ IsIx s x := by
 obtain ⟨K, sa, h1, h2⟩ := sorted_ok hs hb
 obtain ⟨x, h3, _, h4⟩ := build_ok hs h2
 refine ⟨K, x, fun k hk => ?_, h4⟩
 unfold suffix_New.f
 rw [h1 k hk, Option.bind_some, if_pos rfl, h3]; rfl
theorem New_many (hs : 16777216 < s.length) (k : Nat) : suffix_New.f k s = some ([], 130) := by
 unfold suffix_New.f
 rw [sorted_many hs, Option.bind_some, if_neg (by decide)]
end
end Go.Proofs.Ythcnnfahlhklgaa.SD
end

section
/- The accessors of an index. -/
namespace Go.Proofs.Ythcnnfahlhklgaa.SD
open Go.RowKit Go.Proofs.Ythcnnfahlhklgaa Go.Proofs.Ythcnnfahlhklgaa.X Go.Proofs.Ythcnnfahlhklgaa.SM Go.Proofs.YthcnnfahlhklgaaW.PrintWords Go.Proofs.YthcnnfahlhklgaaW.PrintLast

section
variable {s : List Int} {x : S82}
attribute [local irreducible] cn cv fr tov rk3 loc2 ch rank
theorem is_f (hx : x.f0 = true) : suffix_Index_is.f [x] = some true := by
 unfold suffix_Index_is.f
 rw [if_neg (by simp), if_pos (by simp)]
 show some x.f0 = _
 rw [hx]
/-- place, of one number, and of two. -/
theorem place_end (l : List Int) (n : Int) (q : Int) (h : ¬ q < n) (k : Nat) : suffix_Index_place.l0 (k + 1) [x] l n q = some 0 := by
 rw [suffix_Index_place.l0, if_neg h]
theorem place_step (hx : x.f1 = s) (l : List Int) (q : Nat) (hq : q < l.length) (hl : l.length ≤ 1000) (k : Nat) : suffix_Index_place.l0 (k + 1) [x] l (l.length : Int) (q : Int) = if 0 ≤ ch l q ∧ ch l q < (s.length : Int) then suffix_Index_place.l0 k [x] l (l.length : Int) ((q + 1 : Nat) : Int) else some 132 := by
 rw [suffix_Index_place.l0, if_pos (by omega), if_pos (by omega), if_pos (by omega), rd_nat, show rd_T82 [x] 0 = x from rfl, hx]
 by_cases h1 : ch l q < 0
 ·rw [if_pos h1, if_neg (by omega)]
 ·rw [if_neg h1, if_pos (by simp)]
  by_cases h2 : ch l q ≥ (s.length : Int)
  ·rw [if_pos h2, if_neg (by omega)]
  ·rw [if_neg h2, if_pos (by omega), wp (x := (q : Int) + 1) (y := ((q + 1 : Nat) : Int)) (by omega) (by omega) (by omega)]
theorem place1_f (hx : IsIx s x) (i : Int) (k : Nat) : suffix_Index_place.f (k + 2) [x] [i] = some (if 0 ≤ i ∧ i < (s.length : Int) then 0 else 132) := by
 unfold suffix_Index_place.f
 rw [is_f hx.1, Option.bind_some, if_pos rfl]
 have h := place_step hx.2.1 [i] 0 (by simp) (by simp) (k + 1)
 have e : ch [i] 0 = i := by unfold ch; rfl
 rw [e] at h
 rw [show ((0 : Nat) : Int) = 0 from rfl] at h
 rw [h]
 split
 ·rw [place_end _ _ _ (by simp)]
 ·rfl
end
end Go.Proofs.Ythcnnfahlhklgaa.SD
end

section
/- The rows that an index tells. -/
namespace Go.Proofs.Ythcnnfahlhklgaa.SD
open Go.RowKit Go.Proofs.Ythcnnfahlhklgaa Go.Proofs.Ythcnnfahlhklgaa.X Go.Proofs.Ythcnnfahlhklgaa.SM Go.Proofs.YthcnnfahlhklgaaW.PrintWords Go.Proofs.YthcnnfahlhklgaaW.PrintLast

section
variable {s : List Int} {x : S82}
attribute [local irreducible] cn cv fr tov rk3 loc2 ch rank
theorem told_f {l : List Int} (hl : l.length ≤ 16777216) : suffix_told.f l = some l := by
 unfold suffix_told.f
 rw [if_pos (by omega), if_pos (by omega), Int.toNat_natCast, copy_eq _ _ (by simp)]; rfl
theorem Array_f (hs : s.length ≤ 16777216) (hx : IsIx s x) : suffix_Index_Array.f [x] = some x.f2 := by
 unfold suffix_Index_Array.f
 rw [is_f hx.1, Option.bind_some, if_pos rfl, if_pos (by simp), show rd_T82 [x] 0 = x from rfl, told_f (by rw [hx.2.2.1.1]; exact hs)]; rfl
theorem Lcp_f (hs : s.length ≤ 16777216) (hx : IsIx s x) : suffix_Index_Lcp.f [x] = some x.f4 := by
 unfold suffix_Index_Lcp.f
 rw [is_f hx.1, Option.bind_some, if_pos rfl, if_pos (by simp), show rd_T82 [x] 0 = x from rfl, told_f (by rw [hx.2.2.2.2.2.1]; exact hs)]; rfl
end
end Go.Proofs.Ythcnnfahlhklgaa.SD
end

section
/- lives, and the document's Common. -/
namespace Go.Proofs.Ythcnnfahlhklgaa.SD
open Go.RowKit Go.Proofs.Ythcnnfahlhklgaa Go.Proofs.Ythcnnfahlhklgaa.X Go.Proofs.Ythcnnfahlhklgaa.SM Go.Proofs.YthcnnfahlhklgaaW.PrintWords Go.Proofs.YthcnnfahlhklgaaW.PrintLast

theorem lives_f : ∃ K, ∀ k, K ≤ k → sapperlaw13_lives.f k = some true := by
 have h : sapperlaw13_lives.f 400 = some true := by decide +kernel
 exact ⟨400, fun k hk => at_rounds (g := fun k => sapperlaw13_lives.f k) (fun k => sapperlaw13_lives.mono k) hk h⟩

section
variable {s : List Int} {x : S82}
attribute [local irreducible] cn cv fr tov rk3 loc2 ch rank

theorem refCommon_loop {u v : List Int} (hu : u.length ≤ 9223372036854775000) (d : Nat) : ∀ q, u.length - q = d → ∀ k, sapperref13_Common.l0 (k + d + 1) u v (q : Int) = some (((q + cml u v q : Nat) : Int)) := by
 induction d with
 | zero =>
  intro q h k
  rw [show k + 0 + 1 = k + 1 by omega, sapperref13_Common.l0, if_neg (by omega), cml, dif_neg (by omega), Nat.add_zero]
 | succ d ih =>
  intro q h k
  rw [show k + (d + 1) + 1 = k + d + 1 + 1 by omega, sapperref13_Common.l0, if_pos (by omega), cml, dif_pos (by omega)]
  by_cases h1 : q < v.length
  ·rw [if_pos (by omega), if_pos (by omega), rd_nat, rd_nat]
   by_cases h2 : ch u q = ch v q
   ·rw [if_pos h2, if_pos ⟨h1, h2⟩, wp (x := (q : Int) + 1) (y := ((q + 1 : Nat) : Int)) (by omega) (by omega) (by omega), ih (q + 1) (by omega), show q + 1 + cml u v (q + 1) = q + (cml u v (q + 1) + 1) by omega]
   ·rw [if_neg h2, if_neg (fun h => h2 h.2), Nat.add_zero]
  ·rw [if_neg (by omega), if_neg (fun h => h1 h.1), Nat.add_zero]
theorem refCommon_f {u v : List Int} (hu : u.length ≤ 9223372036854775000) {k : Nat} (hk : u.length + 1 ≤ k) : sapperref13_Common.f k u v = some (cml u v 0 : Int) := by
 unfold sapperref13_Common.f
 have := refCommon_loop (v := v) hu u.length 0 (by omega) (k - u.length - 1)
 rw [show k - u.length - 1 + u.length + 1 = k by omega, show ((0 : Nat) : Int) = 0 from rfl] at this
 rw [this, Nat.zero_add]
theorem refCommon_com (hs : s.length ≤ 16777216) (i j : Nat) {k : Nat} (hk : s.length + 1 ≤ k) : sapperref13_Common.f k (s.drop i) (s.drop j) = some (com s.length (ch s) i j : Int) := by
 rw [refCommon_f (by rw [List.length_drop]; omega) (by rw [List.length_drop]; omega), cml_com _ 0 rfl]; rfl
end
end Go.Proofs.Ythcnnfahlhklgaa.SD
end

section
/- The unlike texts of any bytes, in their order: how many, which, that they rise; and Kth tells them. -/
namespace Go.Proofs.Ythcnnfahlhklgaa.SD
open Go.RowKit Go.Proofs.Ythcnnfahlhklgaa Go.Proofs.Ythcnnfahlhklgaa.X Go.Proofs.Ythcnnfahlhklgaa.SM Go.Proofs.YthcnnfahlhklgaaW.PrintWords Go.Proofs.YthcnnfahlhklgaaW.PrintLast

section
variable {s : List Int} {sa : List Int}
attribute [local irreducible] cn cv fr tov rk3 loc2 ch rank
/-- Texts that stand at a rank first. -/
def fresh (s sa : List Int) (r : Nat) : Nat := s.length - P sa r - lcv s sa r
def base (s sa : List Int) : Nat → Nat
 | 0 => 0
 | r + 1 => base s sa r + fresh s sa r
/-- The text. -/
def txt (s sa : List Int) (r j : Nat) : List Int := (s.drop (P sa r)).take (lcv s sa r + 1 + j)
theorem sa_slt (h : IsSA s sa) {r : Nat} (hr : r + 1 < s.length) : slt s.length (ch s) (P sa r) (P sa (r + 1)) = true := by
 obtain ⟨_, a1, a2⟩ := sa_at h (show r < s.length by omega)
 obtain ⟨_, b1, b2⟩ := sa_at h hr
 exact (rank_iff a1 b1).1 (by omega)
theorem lcv_at (sa : List Int) (r : Nat) : lcv s sa (r + 1) = com s.length (ch s) (P sa r) (P sa (r + 1)) := by
 unfold lcv; rw [if_neg (by omega), Nat.add_sub_cancel]
theorem fresh_pos (h : IsSA s sa) {r : Nat} (hr : r < s.length) : P sa r < s.length ∧ lcv s sa r < s.length - P sa r ∧ fresh s sa r + lcv s sa r + P sa r = s.length ∧ 0 < fresh s sa r := by
 have h1 := (sa_at h hr).2.1
 have h2 : lcv s sa r < s.length - P sa r := by
  cases r with
  | zero => unfold lcv; rw [if_pos rfl]; omega
  | succ r =>
   rw [lcv_at]
   have := (slt_com.1 (sa_slt h hr)).1
   omega
 refine ⟨h1, h2, ?_, ?_⟩ <;> (unfold fresh; omega)
theorem base_mono (s sa : List Int) {a b : Nat} (h : a ≤ b) : base s sa a ≤ base s sa b := by
 obtain ⟨d, rfl⟩ := Nat.exists_eq_add_of_le h
 clear h
 induction d with
 | zero => exact Nat.le_refl _
 | succ d ih =>
  have : base s sa (a + (d + 1)) = base s sa (a + d) + fresh s sa (a + d) := rfl
  omega
theorem base_one {r r2 j j2 : Nat} (h : base s sa r + j = base s sa r2 + j2) (h1 : j < fresh s sa r) (h2 : j2 < fresh s sa r2) : r = r2 ∧ j = j2 := by
 rcases Nat.lt_trichotomy r r2 with g | g | g
 ·have := base_mono s sa (show r + 1 ≤ r2 by omega)
  have e : base s sa (r + 1) = base s sa r + fresh s sa r := rfl
  omega
 ·subst g; exact ⟨rfl, by omega⟩
 ·have := base_mono s sa (show r2 + 1 ≤ r by omega)
  have e : base s sa (r2 + 1) = base s sa r2 + fresh s sa r2 := rfl
  omega
theorem txt_len (h : IsSA s sa) {r j : Nat} (hr : r < s.length) (hj : j < fresh s sa r) : (txt s sa r j).length = lcv s sa r + 1 + j := by
 have := fresh_pos h hr
 unfold txt
 rw [List.length_take, List.length_drop]
 omega
/-- They rise. -/
theorem rise_in (h : IsSA s sa) {r j : Nat} (hr : r < s.length) (hj : j + 1 < fresh s sa r) : lessL (txt s sa r j) (txt s sa r (j + 1)) = true := by
 have l1 := txt_len h hr (show j < fresh s sa r by omega)
 have l2 := txt_len h hr hj
 refine lessL_of (lcv s sa r + 1 + j) (by omega) (fun q hq => ⟨by omega, ?_⟩) (.inl (by omega))
 unfold txt
 rw [ch_take, ch_take, if_pos hq, if_pos (by omega)]
theorem rise_next (h : IsSA s sa) {r j : Nat} (hr : r + 1 < s.length) (hj : j + 1 = fresh s sa r) : lessL (txt s sa r j) (txt s sa (r + 1) 0) = true := by
 have f1 := fresh_pos h (show r < s.length by omega)
 have f2 := fresh_pos h hr
 have l1 := txt_len h (show r < s.length by omega) (show j < fresh s sa r by omega)
 have l2 := txt_len h hr f2.2.2.2
 have hc := slt_com.1 (sa_slt h hr)
 have hl := lcv_at (s := s) sa r
 have hle := com_le (n := s.length) (c := ch s) (P sa r) (P sa (r + 1))
 refine lessL_of (lcv s sa (r + 1)) (by omega) (fun q hq => ⟨by omega, ?_⟩) ?_
 ·have := com_get (n := s.length) (c := ch s) (i := P sa r) (j := P sa (r + 1)) (q := q) (by omega)
  unfold txt
  rw [ch_take, ch_take, if_pos (by omega), if_pos (by omega), ch_drop, ch_drop]
  exact this.2.2
 ·by_cases g : (txt s sa r j).length ≤ lcv s sa (r + 1)
  ·exact .inl g
  ·refine .inr ?_
   unfold txt
   rw [ch_take, ch_take, if_pos (by omega), if_pos (by omega), ch_drop, ch_drop, hl]
   exact hc.2 (by omega)
/-- The last one told, ahead of number m. -/
def Prev (s sa : List Int) (m : Nat) (last : List Int) : Prop := m = 0 ∧ last = [] ∨ ∃ r j, r < s.length ∧ j < fresh s sa r ∧ m = base s sa r + j + 1 ∧ last = txt s sa r j
theorem rise (h : IsSA s sa) {r j : Nat} (hr : r < s.length) (hj : j < fresh s sa r) {last : List Int} (hp : Prev s sa (base s sa r + j) last) : lessL last (txt s sa r j) = true := by
 rcases hp with ⟨_, rfl⟩ | ⟨r', j', h1, h2, h3, rfl⟩
 ·have := txt_len h hr hj
  cases he : txt s sa r j with
  | nil => rw [he, List.length_nil] at this; omega
  | cons a l => rfl
 ·by_cases g : j' + 1 < fresh s sa r'
  ·obtain ⟨rfl, rfl⟩ := base_one (j2 := j' + 1) (r2 := r') (by omega) hj g
   exact rise_in h h1 g
  ·have e : base s sa (r' + 1) = base s sa r' + fresh s sa r' := rfl
   by_cases g2 : r' + 1 < s.length
   ·obtain ⟨rfl, rfl⟩ := base_one (j2 := 0) (r2 := r' + 1) (by omega) hj (fresh_pos h g2).2.2.2
    exact rise_next h g2 (by omega)
   ·have := base_mono s sa (show r + 1 ≤ r' + 1 by omega)
    have e2 : base s sa (r + 1) = base s sa r + fresh s sa r := rfl
    omega
theorem places (h : IsSA s sa) : ((List.range s.length).map (P sa)).Perm (List.range s.length) := by
 refine (List.perm_ext_iff_of_nodup ?_ List.nodup_range).2 fun x => ?_
 ·refine List.pairwise_map.2 (List.Pairwise.imp_of_mem (R := fun a b => a < b) (fun {a b} ha hb hab => ?_) List.pairwise_lt_range)
  have ha := List.mem_range.1 ha
  have hb := List.mem_range.1 hb
  have h1 := (sa_at h ha).2.2
  have h2 := (sa_at h hb).2.2
  intro e
  rw [e] at h1
  omega
 ·rw [List.mem_map, List.mem_range]
  constructor
  ·rintro ⟨a, ha, rfl⟩
   exact (sa_at h (List.mem_range.1 ha)).2.1
  ·intro hx
   exact ⟨rank s.length (ch s) x, List.mem_range.2 (rank_lt hx), P_rank h hx⟩

end
end Go.Proofs.Ythcnnfahlhklgaa.SD
end

section
/- The document's answer (sapperref13): its order is the suffixes' order, its Lcp what neighbours have in common; its Check and the code's. -/
namespace Go.Proofs.Ythcnnfahlhklgaa.SD
open Go.RowKit Go.Proofs.Ythcnnfahlhklgaa Go.Proofs.Ythcnnfahlhklgaa.X Go.Proofs.Ythcnnfahlhklgaa.SM Go.Proofs.YthcnnfahlhklgaaW.PrintWords Go.Proofs.YthcnnfahlhklgaaW.PrintLast

section
variable {s : List Int}
attribute [local irreducible] cv fr tov rk3 loc2 ch rank
/-- Two lists that tell the same at all places are one. -/
theorem ext_ch {l l' : List Int} (hl : l.length = l'.length) (h : ∀ q, q < l.length → ch l q = ch l' q) : l = l' := by
 apply List.ext_getElem?
 intro q
 rcases Nat.lt_or_ge q l.length with hq | hq
 ·have h1 := h q hq
  unfold ch at h1
  rw [List.getD_eq_getElem?_getD, List.getD_eq_getElem?_getD, List.getElem?_eq_getElem hq, List.getElem?_eq_getElem (by omega)] at h1
  rw [List.getElem?_eq_getElem hq, List.getElem?_eq_getElem (by omega)]
  simpa using h1
 ·rw [List.getElem?_eq_none (by omega), List.getElem?_eq_none (by omega)]
theorem sa_one {l l' : List Int} (h : IsSA s l) (h' : IsSA s l') : l = l' := by
 refine ext_ch (by rw [h.1, h'.1]) fun q hq => ?_
 rw [h.1] at hq
 obtain ⟨i, hi, he⟩ := rank_onto (c := ch s) hq
 have h1 := h.2 i hi
 have h2 := h'.2 i hi
 rw [he] at h1 h2
 rw [h1, h2]
theorem bl_of_wf (h : ∀ x ∈ s, (Lit.int .u8 x).wf = true) : BL s := fun x hx => byte_wf' (h x hx)
/-- The inner loop counts what is less. -/
theorem refArray_l1 (hs : s.length ≤ 16777216) (hb : BL s) {i : Nat} (hi : i < s.length) (o : List Int) (ho : o.length = s.length) (d : Nat) : ∀ q, s.length - q = d → q ≤ s.length → ∀ k, sapperref13_Array.l1 (k + d + 1) s (i : Int) ((cn q fun j => slt s.length (ch s) j i : Nat) : Int) o (s.length : Int) (i : Int) (s.length : Int) (q : Int) = sapperref13_Array.l0 k s (o.set (rank s.length (ch s) i) (i : Int)) (s.length : Int) ((i + 1 : Nat) : Int) := by
 induction d with
 | zero =>
  intro q hd hq k
  have : q = s.length := by omega
  subst this
  have hr := rank_lt (c := ch s) hi
  have e : (cn s.length fun j => slt s.length (ch s) j i) = rank s.length (ch s) i := by unfold rank; rfl
  rw [show k + 0 + 1 = k + 1 by omega, sapperref13_Array.l1, if_neg (by omega), e, if_pos (by omega), if_pos (by omega), Int.toNat_natCast, wp (x := (i : Int) + 1) (y := ((i + 1 : Nat) : Int)) (by omega) (by omega) (by omega)]
 | succ d ih =>
  intro q hd hq k
  have hle := cn_le (n := q) (fun j => slt s.length (ch s) j i)
  have e : (cn (q + 1) fun j => slt s.length (ch s) j i) = (cn q fun j => slt s.length (ch s) j i) + if slt s.length (ch s) q i = true then 1 else 0 := by
   rw [cn]; try (cases slt s.length (ch s) q i <;> simp)
  rw [show k + (d + 1) + 1 = k + d + 1 + 1 by omega, sapperref13_Array.l1, if_pos (by omega), if_pos (by omega), if_pos (by omega), if_pos (by omega), if_pos (by omega), Int.toNat_natCast, Int.toNat_natCast, less_sl (hb.drop q) (hb.drop i), lessL_slt _ q i rfl, wp (x := (q : Int) + 1) (y := ((q + 1 : Nat) : Int)) (by omega) (by omega) (by omega)]
  have next := ih (q + 1) (by omega) (by omega) k
  rw [e] at next
  by_cases h : slt s.length (ch s) q i = true
  ·rw [if_pos h, wp (x := ((cn q fun j => slt s.length (ch s) j i : Nat) : Int) + 1) (y := (((cn q fun j => slt s.length (ch s) j i) + 1 : Nat) : Int)) (by omega) (by omega) (by omega)]
   rw [if_pos h] at next
   exact next
  ·rw [if_neg h]
   rw [if_neg h, Nat.add_zero] at next
   exact next
theorem refArray_l0 (hs : s.length ≤ 16777216) (hb : BL s) (d : Nat) : ∀ i (o : List Int), s.length - i = d → i ≤ s.length → o.length = s.length → (∀ j, j < i → ch o (rank s.length (ch s) j) = (j : Int)) → ∃ K o', IsSA s o' ∧ ∀ k, K ≤ k → sapperref13_Array.l0 k s o (s.length : Int) (i : Int) = some o' := by
 induction d with
 | zero =>
  intro i o hd hi ho hp
  have : i = s.length := by omega
  subst this
  refine ⟨1, o, ⟨ho, hp⟩, fun k hk => ?_⟩
  obtain ⟨k, rfl⟩ : ∃ k', k = k' + 1 := ⟨k - 1, by omega⟩
  rw [sapperref13_Array.l0, if_neg (by omega)]
 | succ d ih =>
  intro i o hd hi ho hp
  have hi' : i < s.length := by omega
  have hr := rank_lt (c := ch s) hi'
  obtain ⟨K, o', h1, h2⟩ := ih (i + 1) (o.set (rank s.length (ch s) i) (i : Int)) (by omega) (by omega) (by rw [List.length_set]; exact ho) (fun j hj => by
   rw [ch_set _ _ _ _ (by omega)]
   by_cases e : rank s.length (ch s) i = rank s.length (ch s) j
   ·rw [if_pos e, rank_inj hi' (by omega) e]
   ·rw [if_neg e]
    refine hp j ?_
    have : j ≠ i := fun e2 => e (by rw [e2])
    omega)
  refine ⟨K + s.length + 2, o', h1, fun k hk => ?_⟩
  obtain ⟨k, rfl⟩ : ∃ k', k = k' + s.length + 1 + 1 := ⟨k - s.length - 2, by omega⟩
  rw [sapperref13_Array.l0, if_pos (by omega)]
  have := refArray_l1 hs hb hi' o ho s.length 0 (by omega) (by omega) k
  rw [show ((cn 0 fun j => slt s.length (ch s) j i : Nat) : Int) = 0 from rfl, show ((0 : Nat) : Int) = 0 from rfl] at this
  rw [this]
  exact h2 k (by omega)
theorem refArray_ok (hs : s.length ≤ 16777216) (hb : BL s) {sa : List Int} (hsa : IsSA s sa) : ∃ K, ∀ k, K ≤ k → sapperref13_Array.f k s = some sa := by
 obtain ⟨K, o', h1, h2⟩ := refArray_l0 hs hb s.length 0 (List.replicate s.length 0) (by omega) (by omega) (by simp) (fun j hj => by omega)
 refine ⟨K, fun k hk => ?_⟩
 unfold sapperref13_Array.f
 have := h2 k hk
 rw [show ((0 : Nat) : Int) = 0 from rfl] at this
 rw [if_pos (by omega), if_pos (by omega), Int.toNat_natCast, this, sa_one h1 hsa]
/-- The reference's Lcp. -/
theorem refLcp_l0 (hs : s.length ≤ 16777216) {sa : List Int} (hsa : IsSA s sa) (d : Nat) : ∀ r (o : List Int), s.length - r = d → r ≤ s.length → 1 ≤ r → o.length = s.length → (∀ q, q < r → q < s.length → ch o q = (lcv s sa q : Int)) → ∃ o', o'.length = s.length ∧ (∀ q, q < s.length → ch o' q = (lcv s sa q : Int)) ∧ ∀ k, s.length + 2 ≤ k → sapperref13_Lcp.l0 (k + d + 1) s (r : Int) sa o = some o' := by
 have hl := hsa.1
 induction d with
 | zero =>
  intro r o hd hr h1 ho hp
  refine ⟨o, ho, fun q hq => hp q (by omega) hq, fun k hk => ?_⟩
  rw [show k + 0 + 1 = k + 1 by omega, sapperref13_Lcp.l0, if_neg (by omega)]
 | succ d ih =>
  intro r o hd hr h1 ho hp
  obtain ⟨r, rfl⟩ : ∃ r', r = r' + 1 := ⟨r - 1, by omega⟩
  obtain ⟨a1, a2, _⟩ := sa_at hsa (show r < s.length by omega)
  obtain ⟨b1, b2, _⟩ := sa_at hsa (show r + 1 < s.length by omega)
  have hlc : lcv s sa (r + 1) = com s.length (ch s) (P sa r) (P sa (r + 1)) := by unfold lcv; rw [if_neg (by omega), Nat.add_sub_cancel]
  obtain ⟨o', g1, g2, g3⟩ := ih (r + 1 + 1) (o.set (r + 1) (lcv s sa (r + 1) : Int)) (by omega) (by omega) (by omega) (by rw [List.length_set]; exact ho) (fun q hq hq2 => by
   rw [ch_set _ _ _ _ (by omega)]
   by_cases e : r + 1 = q
   ·rw [if_pos e, ← e]
   ·rw [if_neg e]; exact hp q (by omega) hq2)
  refine ⟨o', g1, g2, fun k hk => ?_⟩
  rw [show k + (d + 1) + 1 = k + d + 1 + 1 by omega, sapperref13_Lcp.l0, if_pos (by omega), wp (x := ((r + 1 : Nat) : Int) - 1) (y := (r : Int)) (by omega) (by omega) (by omega), if_pos (by omega), if_pos (by omega), rd_nat, rd_nat, a1, b1, if_pos (by omega), if_pos (by omega), if_pos (by omega), if_pos (by omega), if_pos (by omega), Int.toNat_natCast, Int.toNat_natCast, refCommon_com hs _ _ (by omega), Option.bind_some, if_pos (by omega), Int.toNat_natCast, wp (x := ((r + 1 : Nat) : Int) + 1) (y := ((r + 1 + 1 : Nat) : Int)) (by omega) (by omega) (by omega), ← hlc]
  exact g3 k hk
theorem refLcp_ok (hs : s.length ≤ 16777216) (hb : BL s) {sa lc : List Int} (hsa : IsSA s sa) (hl : lc.length = s.length) (hlc : ∀ q, q < s.length → ch lc q = (lcv s sa q : Int)) : ∃ K, ∀ k, K ≤ k → sapperref13_Lcp.f k s = some lc := by
 obtain ⟨K, hK⟩ := refArray_ok hs hb hsa
 have hle := hsa.1
 by_cases h0 : s.length = 0
 ·refine ⟨K + 1, fun k hk => ?_⟩
  unfold sapperref13_Lcp.f
  rw [hK _ (by omega), Option.bind_some, if_pos (by omega), if_pos (by omega)]
  obtain ⟨k, rfl⟩ : ∃ k', k = k' + 1 := ⟨k - 1, by omega⟩
  have e1 : lc = [] := List.eq_nil_of_length_eq_zero (by omega)
  rw [sapperref13_Lcp.l0, if_neg (by omega), hle, h0, e1]; rfl
 obtain ⟨o', g1, g2, g3⟩ := refLcp_l0 hs hsa (s.length - 1) 1 (List.replicate s.length 0) (by omega) (by omega) (by omega) (by simp) (fun q hq hq2 => by
  have : q = 0 := by omega
  subst this
  have e : lcv s sa 0 = 0 := by unfold lcv; rw [if_pos rfl]
  rw [e]
  unfold ch
  rw [List.getD_eq_getElem?_getD, List.getElem?_replicate, if_pos (by omega)]
  rfl)
 refine ⟨K + 2 * s.length + 10, fun k hk => ?_⟩
 unfold sapperref13_Lcp.f
 have := g3 (k - (s.length - 1) - 1) (by omega)
 rw [show k - (s.length - 1) - 1 + (s.length - 1) + 1 = k by omega, show ((1 : Nat) : Int) = 1 from rfl] at this
 rw [hK _ (by omega), Option.bind_some, if_pos (by omega), if_pos (by omega), Int.toNat_natCast, hle, this]
 exact congrArg some (ext_ch (by omega) fun q hq => by rw [g2 q (by omega), hlc q (by omega)])
end
end Go.Proofs.Ythcnnfahlhklgaa.SD
end

section
/- What a suffix and a text have in common, and which is less; by rank it rises. -/
namespace Go.Proofs.Ythcnnfahlhklgaa.SD
open Go.RowKit Go.Proofs.Ythcnnfahlhklgaa Go.Proofs.Ythcnnfahlhklgaa.X Go.Proofs.Ythcnnfahlhklgaa.SM Go.Proofs.YthcnnfahlhklgaaW.PrintWords Go.Proofs.YthcnnfahlhklgaaW.PrintLast

section
variable {s p u v : List Int} {x : S82} {sa : List Int}
attribute [local irreducible] cv fr tov rk3 loc2 ch rank
theorem cml_fit (d : Nat) : ∀ q, u.length - q = d → cml u v q ≤ u.length - q ∧ cml u v q ≤ v.length - q := by
 induction d with
 | zero => intro q h; rw [cml, dif_neg (by omega)]; omega
 | succ d ih =>
  intro q h
  rw [cml, dif_pos (by omega)]
  split
  ·have := ih (q + 1) (by omega); omega
  ·omega
theorem cml_get (d : Nat) : ∀ q, u.length - q = d → ∀ j, j < cml u v q → q + j < u.length ∧ q + j < v.length ∧ ch u (q + j) = ch v (q + j) := by
 induction d with
 | zero => intro q h j hj; rw [cml, dif_neg (by omega)] at hj; omega
 | succ d ih =>
  intro q h j hj
  rw [cml, dif_pos (by omega)] at hj
  split at hj
  ·rename_i hq
   cases j with
   | zero => exact ⟨by omega, by omega, hq.2⟩
   | succ j =>
    have := ih (q + 1) (by omega) j (by omega)
    rw [show q + 1 + j = q + (j + 1) by omega] at this
    exact this
  ·omega
theorem cml_stop (d : Nat) : ∀ q, u.length - q = d → ¬ (q + cml u v q < u.length ∧ q + cml u v q < v.length ∧ ch u (q + cml u v q) = ch v (q + cml u v q)) := by
 induction d with
 | zero => intro q h; omega
 | succ d ih =>
  intro q h
  rw [cml, dif_pos (by omega)]
  by_cases hq : q < v.length ∧ ch u q = ch v q
  ·rw [if_pos hq]
   have := ih (q + 1) (by omega)
   rw [show q + (cml u v (q + 1) + 1) = q + 1 + cml u v (q + 1) by omega]
   exact this
  ·rw [if_neg hq, Nat.add_zero]
   exact fun h => hq h.2
theorem cmp_l_ok (hu : u.length ≤ 9223372036854775000) (d : Nat) : ∀ q, u.length - q = d → ∀ k, cmp_l (k + d + 1) u v (q : Int) = some ((q + cml u v q : Nat) : Int) := by
 induction d with
 | zero =>
  intro q h k
  rw [show k + 0 + 1 = k + 1 by omega, cmp_l, if_neg (by omega), cml, dif_neg (by omega), Nat.add_zero]
 | succ d ih =>
  intro q h k
  rw [show k + (d + 1) + 1 = k + d + 1 + 1 by omega, cmp_l, if_pos (by omega), cml, dif_pos (by omega)]
  by_cases h1 : q < v.length
  ·rw [if_pos (by omega), if_pos (by omega), rd_nat, rd_nat]
   by_cases h2 : ch u q = ch v q
   ·rw [if_pos h2, if_pos ⟨h1, h2⟩, wp (x := (q : Int) + 1) (y := ((q + 1 : Nat) : Int)) (by omega) (by omega) (by omega), ih (q + 1) (by omega), show q + 1 + cml u v (q + 1) = q + (cml u v (q + 1) + 1) by omega]
   ·rw [if_neg h2, if_neg (fun h => h2 h.2), Nat.add_zero]
  ·rw [if_neg (by omega), if_neg (fun h => h1 h.1), Nat.add_zero]
/-- -1, 0, 1: less, it begins with p, greater. -/
def sgn (u p : List Int) : Int := if cml u p 0 = p.length then 0 else if cml u p 0 = u.length then -1 else if ch u (cml u p 0) < ch p (cml u p 0) then -1 else 1
theorem Compare_f (hs : s.length ≤ 16777216) (hx : IsIx s x) {i : Nat} (hi : i < s.length) {k : Nat} (hk : s.length + 4 ≤ k) : suffix_Index_Compare.f k [x] (i : Int) p = some (sgn (s.drop i) p, (cml (s.drop i) p 0 : Int), 0) := by
 unfold suffix_Index_Compare.f
 have h := place1_f hx (i : Int) (k - 2)
 rw [show k - 2 + 2 = k by omega] at h
 have hl := cmp_l_ok (u := s.drop i) (v := p) (by rw [List.length_drop]; omega) (s.drop i).length 0 (by omega) (k - (s.drop i).length - 1)
 have hd : (s.drop i).length = s.length - i := List.length_drop
 rw [show k - (s.drop i).length - 1 + (s.drop i).length + 1 = k by omega, show ((0 : Nat) : Int) = 0 from rfl, Nat.zero_add] at hl
 have hf := cml_fit (u := s.drop i) (v := p) _ 0 rfl
 rw [h, if_pos (by omega), Option.bind_some, if_pos rfl, if_pos (by simp), if_pos (by omega), show rd_T82 [x] 0 = x from rfl, hx.2.1, if_pos (by omega), Int.toNat_natCast, hl, Option.bind_some]
 unfold sgn
 by_cases c1 : cml (s.drop i) p 0 = p.length
 ·rw [if_pos (by omega), if_pos c1]
 ·rw [if_neg (by omega), if_neg c1, if_pos (by omega), if_pos (by omega)]
  by_cases c2 : cml (s.drop i) p 0 = (s.drop i).length
  ·rw [if_pos (by omega), if_pos c2]
  ·rw [if_neg (by omega), if_neg c2, if_pos (by omega), rd_nat, rd_nat]
   by_cases c3 : ch (s.drop i) (cml (s.drop i) p 0) < ch p (cml (s.drop i) p 0)
   ·rw [if_pos c3, if_pos c3]
   ·rw [if_neg c3, if_neg c3]
end
section
variable {s p : List Int}
attribute [local irreducible] cv fr tov rk3 loc2 rank
end
end Go.Proofs.Ythcnnfahlhklgaa.SD
end

section
/- The longest bytes that stand in two places: at which ranks they stand. -/
namespace Go.Proofs.Ythcnnfahlhklgaa.SD
open Go.RowKit Go.Proofs.Ythcnnfahlhklgaa Go.Proofs.Ythcnnfahlhklgaa.X Go.Proofs.Ythcnnfahlhklgaa.SM Go.Proofs.YthcnnfahlhklgaaW.PrintWords Go.Proofs.YthcnnfahlhklgaaW.PrintLast

section
variable {s sa : List Int}
attribute [local irreducible] cn cv fr tov rk3 loc2 ch rank
/-- The greatest of what the first ranks have in common with the rank ahead, and the first rank that has it. -/
def bst (s sa : List Int) : Nat → Nat × Nat
 | 0 => (0, 0)
 | r + 1 => if (bst s sa r).1 < lcv s sa r then (lcv s sa r, r) else bst s sa r
theorem bst_ok (r : Nat) : (∀ q, q < r → lcv s sa q ≤ (bst s sa r).1) ∧ (0 < (bst s sa r).1 → (bst s sa r).2 < r ∧ 0 < (bst s sa r).2 ∧ lcv s sa (bst s sa r).2 = (bst s sa r).1 ∧ ∀ q, q < (bst s sa r).2 → lcv s sa q < (bst s sa r).1) := by
 induction r with
 | zero => exact ⟨fun q hq => absurd hq (by omega), fun h => absurd h (by simp [bst])⟩
 | succ r ih =>
  by_cases c : (bst s sa r).1 < lcv s sa r
  ·have e : bst s sa (r + 1) = (lcv s sa r, r) := by rw [bst, if_pos c]
   rw [e]
   refine ⟨fun q hq => ?_, fun _ => ⟨by show r < r + 1; omega, ?_, rfl, fun q hq => ?_⟩⟩
   ·by_cases z : q = r
    ·subst z; exact Nat.le_refl _
    ·have := ih.1 q (by omega); show lcv s sa q ≤ lcv s sa r; omega
   ·show 0 < r
    by_cases z : r = 0
    ·subst z; unfold lcv at c; rw [if_pos rfl] at c; omega
    ·omega
   ·have := ih.1 q hq; show lcv s sa q < lcv s sa r; omega
  ·have e : bst s sa (r + 1) = bst s sa r := by rw [bst, if_neg c]
   rw [e]
   refine ⟨fun q hq => ?_, fun h => ?_⟩
   ·by_cases z : q = r
    ·subst z; omega
    ·exact ih.1 q (by omega)
   ·obtain ⟨a, b⟩ := ih.2 h
    exact ⟨by omega, b⟩
/-- Where as many bytes stand: the rank ahead, and the ranks from it on up to the first that has less in common. -/
theorem stand_iff (h : IsSA s sa) {R B : Nat} (hR : R + 1 < s.length) (e : lcv s sa (R + 1) = B) (lo : ∀ q, q < R + 1 → lcv s sa q < B) {r : Nat} (hr : r < s.length) :
  B ≤ com s.length (ch s) (P sa r) (P sa (R + 1)) ↔ R ≤ r ∧ ∀ q, R < q → q ≤ r → B ≤ lcv s sa q := by
 have hp : ∀ i, i < s.length → P sa (rank s.length (ch s) i) = i := fun i hi => P_rank h hi
 rcases Nat.lt_or_ge r R with c | c
 ·refine ⟨fun hb => ?_, fun hb => absurd hb.1 (by omega)⟩
  have h1 := com_range hp (R - r) r (by omega) (R - 1 - r) (by omega)
  rw [show r + (R - r + 1) = R + 1 by omega, show r + (R - 1 - r) = R - 1 by omega, show R - 1 + 1 = R by omega] at h1
  have h2 := lo R (by omega)
  rw [show R = R - 1 + 1 by omega, lcv_at, show R - 1 + 1 = R by omega] at h2
  omega
 ·rcases (by omega : r = R ∨ r = R + 1 ∨ R + 1 < r) with z | z | z
  ·subst z
   rw [← lcv_at, e]
   exact ⟨fun _ => ⟨Nat.le_refl _, fun q h1 h2 => absurd h1 (by omega)⟩, fun _ => Nat.le_refl _⟩
  ·subst z
   have h1 := (sa_at h hR).2.1
   have h2 := (fresh_pos h hR).2.1
   rw [com_self (by omega)]
   refine ⟨fun _ => ⟨by omega, fun q h3 h4 => ?_⟩, fun _ => by omega⟩
   rw [show q = R + 1 by omega, e]; exact Nat.le_refl _
  ·obtain ⟨m, rfl⟩ : ∃ m, r = R + 1 + (m + 1) := ⟨r - R - 2, by omega⟩
   rw [com_comm]
   constructor
   ·intro hb
    refine ⟨by omega, fun q h3 h4 => ?_⟩
    by_cases z2 : q = R + 1
    ·rw [z2, e]; exact Nat.le_refl _
    ·have h1 := com_range hp m (R + 1) hr (q - R - 2) (by omega)
     rw [← lcv_at, show R + 1 + (q - R - 2) + 1 = q by omega] at h1
     omega
   ·intro hb
    obtain ⟨k, hk, h1⟩ := com_range_min hp m (R + 1) hr
    have := hb.2 (R + 1 + k + 1) (by omega) (by omega)
    rw [h1, ← lcv_at]; exact this
end
end Go.Proofs.Ythcnnfahlhklgaa.SD
end

section
/- Repeat of an index and of the document, and the document's Compare: they tell the same. -/
namespace Go.Proofs.Ythcnnfahlhklgaa.SD
open Go.RowKit Go.Proofs.Ythcnnfahlhklgaa Go.Proofs.Ythcnnfahlhklgaa.X Go.Proofs.Ythcnnfahlhklgaa.SM Go.Proofs.YthcnnfahlhklgaaW.PrintWords Go.Proofs.YthcnnfahlhklgaaW.PrintLast

section
variable {s u p : List Int} {x : S82}
attribute [local irreducible] cn cv fr tov rk3 loc2 ch rank
theorem lessL_asym : ∀ {a b : List Int}, lessL a b = true → lessL b a = false
 | [], [], h => by cases h
 | [], _ :: _, _ => rfl
 | _ :: _, [], h => by cases h
 | x :: a, y :: b, h => by
  simp only [lessL, Bool.or_eq_true, Bool.and_eq_true, decide_eq_true_eq, Bool.or_eq_false_iff, Bool.and_eq_false_iff, decide_eq_false_iff_not] at h ⊢
  rcases h with h | ⟨h1, h2⟩
  ·exact ⟨by omega, .inl (by omega)⟩
  ·exact ⟨by omega, .inr (lessL_asym h2)⟩
theorem refCompare_f (hu : BL u) (hp : BL p) (hl : u.length ≤ 9223372036854775000) {k : Nat} (hk : u.length + 1 ≤ k) : sapperref13_Compare.f k u p = some (sgn u p, (cml u p 0 : Int)) := by
 unfold sapperref13_Compare.f
 rw [refCommon_f hl hk, Option.bind_some, less_sl hu hp]
 have hf := cml_fit (u := u) (v := p) _ 0 rfl
 have hst := cml_stop (u := u) (v := p) _ 0 rfl
 have hg := cml_get (u := u) (v := p) _ 0 rfl
 simp only [Nat.zero_add] at hst hg
 unfold sgn
 by_cases c1 : cml u p 0 = p.length
 ·rw [if_pos (by omega), if_pos c1]
 ·rw [if_neg (by omega), if_neg c1]
  by_cases c2 : cml u p 0 = u.length
  ·rw [if_pos c2, if_pos (lessL_of (cml u p 0) (by omega) (fun q hq => ⟨(hg q hq).1, (hg q hq).2.2⟩) (.inl (by omega)))]
  ·rw [if_neg c2]
   by_cases c3 : ch u (cml u p 0) < ch p (cml u p 0)
   ·rw [if_pos c3, if_pos (lessL_of (cml u p 0) (by omega) (fun q hq => ⟨(hg q hq).1, (hg q hq).2.2⟩) (.inr c3))]
   ·have := lessL_asym (lessL_of (a := p) (b := u) (cml u p 0) (by omega) (fun q hq => ⟨(hg q hq).2.1, (hg q hq).2.2.symm⟩) (.inr (by omega)))
    rw [if_neg c3, if_neg (by rw [this]; decide)]
theorem rep_l1 (hs : s.length ≤ 16777216) (hx : IsIx s x) {R B : Nat} (d : Nat) : ∀ r a, s.length - r = d → r ≤ s.length → R < r → (∀ q, R < q → q < r → B ≤ lcv s x.f2 q) → (∃ q, R ≤ q ∧ q < r ∧ P x.f2 q = a) → (∀ q, R ≤ q → q < r → a ≤ P x.f2 q) →
  ∃ v, (∃ q, q < s.length ∧ R ≤ q ∧ (∀ j, R < j → j ≤ q → B ≤ lcv s x.f2 j) ∧ P x.f2 q = v) ∧ (∀ q, q < s.length → R ≤ q → (∀ j, R < j → j ≤ q → B ≤ lcv s x.f2 j) → v ≤ P x.f2 q) ∧
   ∀ k, suffix_Index_Repeat.l1 (k + d + 1) [x] (B : Int) (a : Int) (r : Int) = some ((v : Int), (B : Int)) := by
 have hl4 := hx.2.2.2.2.2.1
 have hl2 := hx.2.2.1.1
 induction d with
 | zero =>
  intro r a hd hr hRr hq hin hle
  refine ⟨a, ?_, fun q h1 h2 _ => hle q h2 (by omega), fun k => ?_⟩
  ·obtain ⟨q, h1, h2, h3⟩ := hin
   exact ⟨q, by omega, h1, fun j h4 h5 => hq j h4 (by omega), h3⟩
  ·rw [show k + 0 + 1 = k + 1 by omega, suffix_Index_Repeat.l1, if_pos (by simp), show rd_T82 [x] 0 = x from rfl, if_neg (by omega)]
 | succ d ih =>
  intro r a hd hr hRr hq hin hle
  have hrl : r < s.length := by omega
  have hlc := hx.2.2.2.2.2.2 r hrl
  have hsa := (sa_at hx.2.2.1 hrl).1
  by_cases c : B ≤ lcv s x.f2 r
  ·obtain ⟨v, h1, h2, h3⟩ := ih (r + 1) (if P x.f2 r < a then P x.f2 r else a) (by omega) (by omega) (by omega) (fun q g1 g2 => by
     by_cases z : q = r
     ·rw [z]; exact c
     ·exact hq q g1 (by omega)) (by
     by_cases z : P x.f2 r < a
     ·rw [if_pos z]; exact ⟨r, by omega, by omega, rfl⟩
     ·rw [if_neg z]; obtain ⟨q, g1, g2, g3⟩ := hin; exact ⟨q, g1, by omega, g3⟩) (fun q g1 g2 => by
     by_cases z : q = r
     ·subst z; split <;> omega
     ·have := hle q g1 (by omega); split <;> omega)
   refine ⟨v, h1, h2, fun k => ?_⟩
   have hm : mn (a : Int) (P x.f2 r : Int) = (((if P x.f2 r < a then P x.f2 r else a) : Nat) : Int) := by
    unfold mn
    by_cases z : P x.f2 r < a
    ·rw [if_pos z, if_pos (by omega)]
    ·rw [if_neg z, if_neg (by omega)]
   rw [show k + (d + 1) + 1 = k + d + 1 + 1 by omega, suffix_Index_Repeat.l1, if_pos (by simp), show rd_T82 [x] 0 = x from rfl, if_pos (by omega), if_pos (by omega), rd_nat, hlc, if_pos (by omega), if_pos (by omega), rd_nat, hsa, hm, wp (x := (r : Int) + 1) (y := ((r + 1 : Nat) : Int)) (by omega) (by omega) (by omega)]
   exact h3 k
  ·refine ⟨a, ?_, fun q h1 h2 h3 => ?_, fun k => ?_⟩
   ·obtain ⟨q, h1, h2, h3⟩ := hin
    exact ⟨q, by omega, h1, fun j h4 h5 => hq j h4 (by omega), h3⟩
   ·rcases Nat.lt_or_ge q r with z | z
    ·exact hle q h2 z
    ·exact absurd (h3 r hRr z) c
   ·rw [show k + (d + 1) + 1 = k + d + 1 + 1 by omega, suffix_Index_Repeat.l1, if_pos (by simp), show rd_T82 [x] 0 = x from rfl, if_pos (by omega), if_pos (by omega), rd_nat, hlc, if_neg (by omega)]
theorem rep_l0 (hs : s.length ≤ 16777216) (hx : IsIx s x) {K : Nat} {res : Int × Int} (hend : ∀ k, K ≤ k → suffix_Index_Repeat.l0 (k + 1) [x] ((bst s x.f2 s.length).1 : Int) ((bst s x.f2 s.length).2 : Int) x.f4 (s.length : Int) (s.length : Int) = some res) (d : Nat) :
  ∀ r, s.length - r = d → r ≤ s.length → ∀ k, K ≤ k → suffix_Index_Repeat.l0 (k + d + 1) [x] ((bst s x.f2 r).1 : Int) ((bst s x.f2 r).2 : Int) x.f4 (s.length : Int) (r : Int) = some res := by
 have hl4 := hx.2.2.2.2.2.1
 induction d with
 | zero =>
  intro r hd hr k hk
  have : r = s.length := by omega
  subst this
  exact hend k hk
 | succ d ih =>
  intro r hd hr k hk
  have hlc := hx.2.2.2.2.2.2 r (by omega)
  have next := ih (r + 1) (by omega) (by omega) k hk
  rw [show k + (d + 1) + 1 = k + d + 1 + 1 by omega, suffix_Index_Repeat.l0, if_pos (by omega), if_pos (by omega), if_pos (by omega), rd_nat, hlc, wp (x := (r : Int) + 1) (y := ((r + 1 : Nat) : Int)) (by omega) (by omega) (by omega)]
  rw [bst] at next
  by_cases c : (bst s x.f2 r).1 < lcv s x.f2 r
  ·rw [if_pos c] at next
   rw [if_pos (by omega)]; exact next
  ·rw [if_neg c] at next
   rw [if_neg (by omega)]; exact next
/-- The document's place. -/
def bat (s sa : List Int) (r : Nat) : Nat := if (bst s sa r).1 = 0 then 0 else P sa (bst s sa r).2
theorem ref_l0 (hs : s.length ≤ 16777216) {sa lc : List Int} (hsa : IsSA s sa) (hl : lc.length = s.length) (hlc : ∀ q, q < s.length → ch lc q = (lcv s sa q : Int)) {K : Nat} {res : Int × Int} (hend : ∀ k, K ≤ k → sapperref13_Repeat.l0 (k + 1) s ((bst s sa s.length).1 : Int) (bat s sa s.length : Int) sa lc (s.length : Int) (s.length : Int) = some res) (d : Nat) :
  ∀ r, s.length - r = d → r ≤ s.length → ∀ k, K ≤ k → sapperref13_Repeat.l0 (k + d + 1) s ((bst s sa r).1 : Int) (bat s sa r : Int) sa lc (s.length : Int) (r : Int) = some res := by
 have hl2 := hsa.1
 induction d with
 | zero =>
  intro r hd hr k hk
  have : r = s.length := by omega
  subst this
  exact hend k hk
 | succ d ih =>
  intro r hd hr k hk
  have hv := hlc r (by omega)
  have next := ih (r + 1) (by omega) (by omega) k hk
  rw [show k + (d + 1) + 1 = k + d + 1 + 1 by omega, sapperref13_Repeat.l0, if_pos (by omega), if_pos (by omega), if_pos (by omega), rd_nat, hv, wp (x := (r : Int) + 1) (y := ((r + 1 : Nat) : Int)) (by omega) (by omega) (by omega)]
  unfold bat at next ⊢
  rw [bst] at next
  by_cases c : (bst s sa r).1 < lcv s sa r
  ·rw [if_pos c] at next
   rw [if_neg (show ¬ (lcv s sa r = 0) by omega)] at next
   rw [if_pos (by omega), if_pos (by omega), rd_nat, (sa_at hsa (show r < s.length by omega)).1]; exact next
  ·rw [if_neg c] at next
   rw [if_neg (by omega)]; exact next
theorem ref_l1 (hs : s.length ≤ 16777216) {a B v : Nat} (ha : a < s.length) (hv : v < s.length) (h1 : B ≤ com s.length (ch s) v a) (d : Nat) : ∀ i, v - i = d → i ≤ v → (∀ j, i ≤ j → j < v → com s.length (ch s) j a < B) → ∀ k, s.length + 1 ≤ k → sapperref13_Repeat.l1 (k + d + 1) s (B : Int) (a : Int) (s.length : Int) (i : Int) = some ((v : Int), (B : Int)) := by
 induction d with
 | zero =>
  intro i hd hi hlt k hk
  have : i = v := by omega
  subst this
  rw [show k + 0 + 1 = k + 1 by omega, sapperref13_Repeat.l1, if_pos (by omega), if_pos (by omega), if_pos (by omega), if_pos (by omega), if_pos (by omega), Int.toNat_natCast, Int.toNat_natCast, refCommon_com hs _ _ hk, Option.bind_some, if_pos (by omega)]
 | succ d ih =>
  intro i hd hi hlt k hk
  have := hlt i (Nat.le_refl _) (by omega)
  rw [show k + (d + 1) + 1 = k + d + 1 + 1 by omega, sapperref13_Repeat.l1, if_pos (by omega), if_pos (by omega), if_pos (by omega), if_pos (by omega), if_pos (by omega), Int.toNat_natCast, Int.toNat_natCast, refCommon_com hs _ _ (by omega), Option.bind_some, if_neg (by omega), wp (x := (i : Int) + 1) (y := ((i + 1 : Nat) : Int)) (by omega) (by omega) (by omega)]
  exact ih (i + 1) (by omega) (by omega) (fun j g1 g2 => hlt j (by omega) g2) k hk
/-- Both tell the same. -/
theorem Repeat_both (hs : s.length ≤ 16777216) (hb : BL s) (hx : IsIx s x) : ∃ K t, ∀ k, K ≤ k → suffix_Index_Repeat.f k [x] = some t ∧ sapperref13_Repeat.f k s = some t := by
 have hsa := hx.2.2.1
 have hl2 := hsa.1
 have hl4 := hx.2.2.2.2.2.1
 obtain ⟨K1, h1⟩ := refArray_ok hs hb hsa
 obtain ⟨K2, h2⟩ := refLcp_ok hs hb hsa hl4 hx.2.2.2.2.2.2
 obtain ⟨b1, b2⟩ := bst_ok (s := s) (sa := x.f2) s.length
 have key : ∃ K t, (∀ k, K ≤ k → suffix_Index_Repeat.l0 (k + 1) [x] ((bst s x.f2 s.length).1 : Int) ((bst s x.f2 s.length).2 : Int) x.f4 (s.length : Int) (s.length : Int) = some t) ∧ (∀ k, K ≤ k → sapperref13_Repeat.l0 (k + 1) s ((bst s x.f2 s.length).1 : Int) (bat s x.f2 s.length : Int) x.f2 x.f4 (s.length : Int) (s.length : Int) = some t) := by
  by_cases c0 : (bst s x.f2 s.length).1 = 0
  ·refine ⟨0, (0, 0), fun k _ => ?_, fun k _ => ?_⟩
   ·rw [suffix_Index_Repeat.l0, if_neg (by omega), if_pos (by omega)]
   ·rw [sapperref13_Repeat.l0, if_neg (by omega), if_pos (by omega)]
  ·obtain ⟨g1, g2, g3, g4⟩ := b2 (by omega)
   unfold bat
   rw [if_neg c0]
   obtain ⟨B, hB⟩ : ∃ B, (bst s x.f2 s.length).1 = B := ⟨_, rfl⟩
   obtain ⟨R, hR⟩ : ∃ R, (bst s x.f2 s.length).2 = R + 1 := ⟨(bst s x.f2 s.length).2 - 1, by omega⟩
   rw [hB] at g3 g4 c0
   rw [hR] at g1 g3 g4
   rw [hB, hR]
   obtain ⟨a1, a2, a3⟩ := sa_at hsa (show R < s.length by omega)
   obtain ⟨e1, e2, e3⟩ := sa_at hsa g1
   obtain ⟨v, ⟨q, v1, v2, v3, v4⟩, v5, v6⟩ := rep_l1 hs hx (R := R) (B := B) (s.length - (R + 1)) (R + 1) (P x.f2 R) (by omega) (by omega) (by omega) (fun q z1 z2 => by omega) ⟨R, Nat.le_refl _, by omega, rfl⟩ (fun q z1 z2 => by rw [show q = R by omega]; exact Nat.le_refl _)
   have st := fun {r : Nat} (hr : r < s.length) => stand_iff hsa g1 g3 g4 hr
   have vl : v < s.length := by rw [← v4]; exact (sa_at hsa v1).2.1
   have w1 : B ≤ com s.length (ch s) v (P x.f2 (R + 1)) := by rw [← v4]; exact (st v1).2 ⟨v2, v3⟩
   refine ⟨2 * s.length + 10, ((v : Int), (B : Int)), fun k hk => ?_, fun k hk => ?_⟩
   ·rw [suffix_Index_Repeat.l0, if_neg (by omega), if_neg (by omega), if_pos (by simp), show rd_T82 [x] 0 = x from rfl, wp (x := ((R + 1 : Nat) : Int) - 1) (y := (R : Int)) (by omega) (by omega) (by omega), if_pos (by omega), if_pos (by omega), rd_nat, a1]
    have := v6 (k - (s.length - (R + 1)) - 1)
    rw [show k - (s.length - (R + 1)) - 1 + (s.length - (R + 1)) + 1 = k by omega] at this
    exact this
   ·rw [sapperref13_Repeat.l0, if_neg (by omega), if_neg (by omega)]
    have := ref_l1 hs e2 vl w1 v 0 (by omega) (Nat.zero_le _) (fun j _ hj => by
     rcases Nat.lt_or_ge (com s.length (ch s) j (P x.f2 (R + 1))) B with z | z
     ·exact z
     ·have hjl : j < s.length := by omega
      have hr := rank_lt (c := ch s) hjl
      have hp := P_rank hsa hjl
      have z2 := (st hr).1 (by rw [hp]; exact z)
      have := v5 _ hr z2.1 z2.2
      rw [hp] at this
      omega) (k - v - 1) (by omega)
    rw [show k - v - 1 + v + 1 = k by omega, show ((0 : Nat) : Int) = 0 from rfl] at this
    exact this
 obtain ⟨K3, t, k1, k2⟩ := key
 refine ⟨K1 + K2 + K3 + s.length + 10, t, fun k hk => ⟨?_, ?_⟩⟩
 ·unfold suffix_Index_Repeat.f
  have := rep_l0 hs hx k1 s.length 0 (by omega) (by omega) (k - s.length - 1) (by omega)
  rw [show k - s.length - 1 + s.length + 1 = k by omega] at this
  rw [is_f hx.1, Option.bind_some, if_pos rfl, if_pos (by simp), show rd_T82 [x] 0 = x from rfl, hl4]
  exact this
 ·unfold sapperref13_Repeat.f
  have := ref_l0 hs hsa hl4 hx.2.2.2.2.2.2 k2 s.length 0 (by omega) (by omega) (k - s.length - 1) (by omega)
  rw [show k - s.length - 1 + s.length + 1 = k by omega] at this
  rw [h1 _ (by omega), Option.bind_some, h2 _ (by omega), Option.bind_some, hl4]
  exact this
end
end Go.Proofs.Ythcnnfahlhklgaa.SD
end
