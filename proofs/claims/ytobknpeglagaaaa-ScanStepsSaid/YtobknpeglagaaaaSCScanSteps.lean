import Derived.Test.YtobknpeglagaaaaSB
import Derived.Test.YtobknpeglagaaaaXK
import Derived.Test.YtobknpeglagaaaaXx14
import Derived.Test.YtobknpeglagaaaaXx19
import Derived.Test.YtobknpeglagaaaaXx16
import Derived.Test.YtobknpeglagaaaaXx21
import Derived.Test.YtobknpeglagaaaaXx17
import Derived.Test.YtobknpeglagaaaaXx15
import Derived.Test.YtobknpeglagaaaaXF
import Derived.Test.YtobknpeglagaaaaXx47
import Derived.Test.YtobknpeglagaaaaXSd
import Derived.Test.YtobknpeglagaaaaXx18
import Derived.Test.YtobknpeglagaaaaXx24
import Derived.Test.YtobknpeglagaaaaXx28
import Derived.Test.YtobknpeglagaaaaXSt
import Derived.Test.YtobknpeglagaaaaXx49
import Derived.Test.YtobknpeglagaaaaXx44
import Derived.Test.YtobknpeglagaaaaXx45
import Derived.Test.YtobknpeglagaaaaXx46
section
namespace Go.Proofs.Ytobknpeglagaaaa.SD
open Go.RowKit Go.Proofs.Ytobknpeglagaaaa Go.Proofs.Ytobknpeglagaaaa.X Go.Proofs.Ytobknpeglagaaaa.SM Go.Proofs.YtobknpeglagaaaaW.PrintWords Go.Proofs.YtobknpeglagaaaaW.PrintLast
section
variable {s : List Int}
attribute [local irreducible] cn cv fr tov rk3 loc2 ch rank

theorem byte_wf' {x : Int} (h : (Lit.int .u8 x).wf = true) : 0 ≤ x ∧ x < 256 := by
 simp [Lit.wf, IntKind.min, IntKind.max, IntKind.signed, IntKind.bits] at h
 omega
def Byt (s : List Int) : Prop := ∀ q, q < s.length → 0 ≤ ch s q ∧ ch s q < 256
theorem ch_mem' {l : List Int} {q : Nat} (h : q < l.length) : ch l q ∈ l := by
 unfold ch
 rw [List.getD_eq_getElem?_getD, List.getElem?_eq_getElem h]
 exact List.getElem_mem h
theorem byt_wf {l : List Int} (h : ∀ x ∈ l, (Lit.int .u8 x).wf = true) : Byt l := fun _ hq => byte_wf' (h _ (ch_mem' hq))

def P (sa : List Int) (r : Nat) : Nat := (ch sa r).toNat
theorem P_rank {sa : List Int} (h : IsSA s sa) {i : Nat} (hi : i < s.length) : P sa (rank s.length (ch s) i) = i := by
 unfold P; rw [h.2 i hi]; omega
theorem sa_at {sa : List Int} (h : IsSA s sa) {r : Nat} (hr : r < s.length) : ch sa r = (P sa r : Int) ∧ P sa r < s.length ∧ rank s.length (ch s) (P sa r) = r := by
 obtain ⟨i, hi, hir⟩ := rank_onto (c := ch s) hr
 have h1 := h.2 i hi
 rw [hir] at h1
 have h2 : P sa r = i := by unfold P; rw [h1]; omega
 rw [h2, h1]
 exact ⟨rfl, hi, hir⟩
def lcv (s sa : List Int) (r : Nat) : Nat := if r = 0 then 0 else com s.length (ch s) (P sa (r - 1)) (P sa r)
def IsIx (s : List Int) (x : S48) : Prop :=
 x.f0 = true ∧ x.f1 = s ∧ IsSA s x.f2 ∧ x.f3.length = s.length ∧ (∀ i, i < s.length → ch x.f3 i = (rank s.length (ch s) i : Int)) ∧
 x.f4.length = s.length ∧ ∀ r, r < s.length → ch x.f4 r = (lcv s x.f2 r : Int)

theorem sorted_loop (hs : s.length ≤ 16777216) (hb : Byt s) (d : Nat) : ∀ q (o : List Int), s.length - q = d → q ≤ s.length → o.length = s.length → (∀ j, j < q → ch o j = ch s j) → ∀ k, suffix_sorted.l0 (k + d + 1) o s (s.length : Int) (q : Int) = (sais_Array.f (k + d - (s.length - q)) 256 s).bind fun b => some (b.1, b.2) := by
 induction d with
 | zero =>
  intro q o hd hq ho hp k
  have e : o = s := by
   apply List.ext_getElem?
   intro j
   rcases Nat.lt_or_ge j s.length with hj | hj
   ·have h1 := hp j (by omega)
    unfold ch at h1
    rw [List.getD_eq_getElem?_getD, List.getD_eq_getElem?_getD, List.getElem?_eq_getElem (by omega), List.getElem?_eq_getElem hj] at h1
    rw [List.getElem?_eq_getElem (by omega), List.getElem?_eq_getElem hj]
    simpa using h1
   ·rw [List.getElem?_eq_none (by omega), List.getElem?_eq_none hj]
  rw [show k + 0 + 1 = k + 1 by omega, suffix_sorted.l0, if_neg (by omega), e, show k + 0 - (s.length - q) = k by omega]
 | succ d ih =>
  intro q o hd hq ho hp k
  have hv := hb q (by omega)
  have next := ih (q + 1) (o.set q (ch s q)) (by omega) (by omega) (by rw [List.length_set]; exact ho) (fun j hj => by
   rw [ch_set _ _ _ _ (by omega)]
   by_cases e : q = j
   ·rw [if_pos e, ← e]
   ·rw [if_neg e]; exact hp j (by omega)) k
  rw [show k + (d + 1) + 1 = k + d + 1 + 1 by omega, suffix_sorted.l0, if_pos (by omega), if_pos (by omega), if_pos (by omega), if_pos (by omega), rd_nat, wp (x := ch s q) rfl (by omega) (by omega), wp (x := (q : Int) + 1) (y := ((q + 1 : Nat) : Int)) (by omega) (by omega) (by omega), Int.toNat_natCast, next, show k + d - (s.length - (q + 1)) = k + (d + 1) - (s.length - q) by omega]
theorem sorted_ok (hs : s.length ≤ 16777216) (hb : Byt s) : ∃ K sa, (∀ k, K ≤ k → suffix_sorted.f k s = some (sa, 0)) ∧ IsSA s sa := by
 obtain ⟨K, sa, h1, h2⟩ := Array_ok (k0 := 256) (s := s) ⟨by omega, by omega, hs, hb⟩
 refine ⟨K + s.length + 1, sa, fun k hk => ?_, h2⟩
 unfold suffix_sorted.f
 rw [if_neg (by omega), if_pos (by omega), if_pos (by omega), Int.toNat_natCast]
 have := sorted_loop hs hb s.length 0 (List.replicate s.length 0) (by omega) (by omega) (by simp) (fun j hj => by omega) (k - s.length - 1)
 rw [show k - s.length - 1 + s.length + 1 = k by omega] at this
 rw [show ((0 : Nat) : Int) = 0 from rfl] at this
 rw [this, h1 _ (by omega)]; rfl

theorem sameIx_loop {y : S48} (hy : y.f1 = s) (hs : s.length ≤ 16777216) {i j : Nat} (hi : i ≤ s.length) (hj : j ≤ s.length) (d : Nat) : ∀ q, com s.length (ch s) i j - q = d → q ≤ com s.length (ch s) i j → ∀ k, suffix_Index_same.l0 (k + d + 1) [y] (i : Int) (j : Int) (q : Int) = some (com s.length (ch s) i j : Int) := by
 have hrd : rd_T48 [y] 0 = y := rfl
 have hle := com_le (n := s.length) (c := ch s) i j
 have w1 : ∀ q : Nat, q ≤ s.length → wrap64 ((i : Int) + (q : Int)) = ((i + q : Nat) : Int) := fun q hq => wp (by omega) (by omega) (by omega)
 have w2 : ∀ q : Nat, q ≤ s.length → wrap64 ((j : Int) + (q : Int)) = ((j + q : Nat) : Int) := fun q hq => wp (by omega) (by omega) (by omega)
 induction d with
 | zero =>
  intro q hd hq k
  have hqe : q = com s.length (ch s) i j := by omega
  have he := com_end (n := s.length) (c := ch s) (i := i) (j := j)
  rw [← hqe] at he ⊢
  rw [show k + 0 + 1 = k + 1 by omega, suffix_Index_same.l0, hrd, hy, w1 q (by omega), w2 q (by omega), if_pos (by simp)]
  by_cases h1 : i + q < s.length
  ·rw [if_pos (by omega)]
   by_cases h2 : j + q < s.length
   ·rw [if_pos (by omega), if_pos (by omega), if_pos (by omega), rd_nat, rd_nat, if_neg (fun h3 => he ⟨h1, h2, h3⟩)]
   ·rw [if_neg (by omega)]
  ·rw [if_neg (by omega)]
 | succ d ih =>
  intro q hd hq k
  have hg := com_get (n := s.length) (c := ch s) (i := i) (j := j) (q := q) (by omega)
  rw [show k + (d + 1) + 1 = k + d + 1 + 1 by omega, suffix_Index_same.l0, hrd, hy, w1 q (by omega), w2 q (by omega), if_pos (by simp), if_pos (by omega), if_pos (by omega), if_pos (by omega), if_pos (by omega), rd_nat, rd_nat, if_pos hg.2.2, wp (x := (q : Int) + 1) (y := ((q + 1 : Nat) : Int)) (by omega) (by omega) (by omega)]
  exact ih (q + 1) (by omega) (by omega) k
theorem sameIx_f {y : S48} (hy : y.f1 = s) (hs : s.length ≤ 16777216) {i j : Nat} (hi : i ≤ s.length) (hj : j ≤ s.length) {k : Nat} (hk : com s.length (ch s) i j + 1 ≤ k) : suffix_Index_same.f k [y] (i : Int) (j : Int) = some (com s.length (ch s) i j : Int) := by
 unfold suffix_Index_same.f
 have := sameIx_loop hy hs hi hj (com s.length (ch s) i j) 0 (by omega) (by omega) (k - com s.length (ch s) i j - 1)
 rw [show k - com s.length (ch s) i j - 1 + com s.length (ch s) i j + 1 = k by omega] at this
 exact this

theorem build_r_ok (hs : s.length ≤ 16777216) {sa : List Int} (hsa : IsSA s sa) (d : Nat) : ∀ q (o : List Int), s.length - q = d → q ≤ s.length → o.length = s.length → (∀ i, i < s.length → rank s.length (ch s) i < q → ch o i = (rank s.length (ch s) i : Int)) →
  ∃ o', o'.length = s.length ∧ (∀ i, i < s.length → ch o' i = (rank s.length (ch s) i : Int)) ∧ ∀ k, build_r (k + d + 1) s.length sa o (q : Int) = some o' := by
 induction d with
 | zero =>
  intro q o hd hq ho hp
  refine ⟨o, ho, fun i hi => hp i hi (by have := rank_lt (c := ch s) hi; omega), fun k => ?_⟩
  rw [show k + 0 + 1 = k + 1 by omega, build_r, if_neg (by omega)]
 | succ d ih =>
  intro q o hd hq ho hp
  obtain ⟨h1, h2, h3⟩ := sa_at hsa (show q < s.length by omega)
  obtain ⟨o', g1, g2, g3⟩ := ih (q + 1) (o.set (P sa q) (q : Int)) (by omega) (by omega) (by rw [List.length_set]; exact ho) (fun i hi hr => by
   rw [ch_set _ _ _ _ (by omega)]
   by_cases e : P sa q = i
   ·rw [if_pos e, ← e, h3]
   ·rw [if_neg e]
    refine hp i hi ?_
    have : rank s.length (ch s) i ≠ q := fun e2 => e (rank_inj h2 hi (by rw [h3, e2]))
    omega)
  refine ⟨o', g1, g2, fun k => ?_⟩
  rw [show k + (d + 1) + 1 = k + d + 1 + 1 by omega, build_r, if_pos (by omega), if_pos (by omega), rd_nat, h1, if_pos (by omega), if_pos (by omega), Int.toNat_natCast, wp (x := (q : Int) + 1) (y := ((q + 1 : Nat) : Int)) (by omega) (by omega) (by omega)]
  exact g3 k

theorem build_l_ok (hs : s.length ≤ 16777216) {sa rk : List Int} (hsa : IsSA s sa) (hrl : rk.length = s.length) (hrk : ∀ i, i < s.length → ch rk i = (rank s.length (ch s) i : Int)) (d : Nat) : ∀ i h (l : List Int), s.length - i = d → i ≤ s.length → l.length = s.length → h ≤ s.length → (i < s.length → 0 < rank s.length (ch s) i → h ≤ com s.length (ch s) (P sa (rank s.length (ch s) i - 1)) i) →
  (∀ j, j < s.length → j < i ∨ rank s.length (ch s) j = 0 → ch l (rank s.length (ch s) j) = (lcv s sa (rank s.length (ch s) j) : Int)) →
  ∃ l', l'.length = s.length ∧ (∀ r, r < s.length → ch l' r = (lcv s sa r : Int)) ∧ ∀ k, build_l (k + d + 2) s.length s sa rk l (h : Int) (i : Int) = some l' := by
 induction d with
 | zero =>
  intro i h l hd hi hl hh hc hp
  refine ⟨l, hl, fun r hr => ?_, fun k => ?_⟩
  ·obtain ⟨j, hj, hjr⟩ := rank_onto (c := ch s) hr
   rw [← hjr]; exact hp j hj (.inl (by omega))
  ·rw [show k + 0 + 2 = k + 1 + 1 by omega, build_l, if_neg (by omega)]
 | succ d ih =>
  intro i h l hd hi hl hh hc hp
  have hi' : i < s.length := by omega
  have hrlt := rank_lt (c := ch s) hi'
  by_cases h0 : rank s.length (ch s) i = 0
  ·obtain ⟨l', g1, g2, g3⟩ := ih (i + 1) 0 l (by omega) (by omega) hl (by omega) (fun _ _ => by omega) (fun j hj hji => hp j hj (by
    rcases hji with hji | hji
    ·by_cases e : j = i
     ·rw [e]; exact .inr h0
     ·exact .inl (by omega)
    ·exact .inr hji))
   refine ⟨l', g1, g2, fun k => ?_⟩
   rw [show k + (d + 1) + 2 = k + d + 2 + 1 by omega, build_l, if_pos (by omega), if_pos (by omega), rd_nat, hrk i hi', if_pos (by omega), wp (x := (i : Int) + 1) (y := ((i + 1 : Nat) : Int)) (by omega) (by omega) (by omega)]
   exact g3 k
  ·obtain ⟨e1, e2, e3⟩ := sa_at hsa (show rank s.length (ch s) i - 1 < s.length by omega)
   have hc' := hc hi' (by omega)
   generalize hm : com s.length (ch s) (P sa (rank s.length (ch s) i - 1)) i = m at hc'
   generalize hj : P sa (rank s.length (ch s) i - 1) = j at *
   have hfr := com_from (n := s.length) (c := ch s) h j i (by omega)
   have hle := com_le (n := s.length) (c := ch s) j i
   have hcm : com s.length (ch s) (i + h) (j + h) = m - h := by rw [com_comm]; omega
   have hP : P sa (rank s.length (ch s) i) = i := P_rank hsa hi'
   have hl2 : ∀ r, r < s.length → ch (l.set (rank s.length (ch s) i) (m : Int)) r = if rank s.length (ch s) i = r then (m : Int) else ch l r := by
    intro r hr; exact ch_set _ _ _ _ (by omega)
   obtain ⟨l', g1, g2, g3⟩ := ih (i + 1) (m - 1) (l.set (rank s.length (ch s) i) (m : Int)) (by omega) (by omega) (by rw [List.length_set]; exact hl) (by omega)
    (fun hi1 hr1 => by
     have := (kasai (n := s.length) (c := ch s) (p := P sa) (fun i hi => P_rank hsa hi) hi1 (by omega)).1
     rw [hj, hm] at this
     omega)
    (fun j' hj' hji => by
     rw [hl2 _ (rank_lt hj')]
     by_cases e : rank s.length (ch s) i = rank s.length (ch s) j'
     ·have := rank_inj hi' hj' e
      subst this
      rw [if_pos rfl]
      unfold lcv
      rw [if_neg h0, hj, hP, hm]
     ·rw [if_neg e]
      refine hp j' hj' ?_
      rcases hji with hji | hji
      ·have : j' ≠ i := fun e' => e (by rw [e'])
       exact .inl (by omega)
      ·exact .inr hji)
   refine ⟨l', g1, g2, fun k => ?_⟩
   have hsm : suffix_Index_same.f (k + d + 2) [⟨true, s, sa, rk, l⟩] (((i + h : Nat) : Int)) (((j + h : Nat) : Int)) = some ((m - h : Nat) : Int) := by
    rw [sameIx_f (s := s) (y := ⟨true, s, sa, rk, l⟩) rfl hs (by omega) (by omega) (by rw [hcm]; omega), hcm]
   rw [show k + (d + 1) + 2 = k + d + 2 + 1 by omega, build_l, if_pos (by omega), if_pos (by omega), rd_nat, hrk i hi', if_neg (by omega), wp (x := (rank s.length (ch s) i : Int) - 1) (y := ((rank s.length (ch s) i - 1 : Nat) : Int)) (by omega) (by omega) (by omega), if_pos (by omega), if_pos (by omega), rd_nat, e1,
    wp (x := (i : Int) + (h : Int)) (y := ((i + h : Nat) : Int)) (by omega) (by omega) (by omega), wp (x := (j : Int) + (h : Int)) (y := ((j + h : Nat) : Int)) (by omega) (by omega) (by omega), hsm, Option.bind_some, if_pos (by omega), if_pos (by omega), Int.toNat_natCast,
    wp (x := (h : Int) + ((m - h : Nat) : Int)) (y := (m : Int)) (by omega) (by omega) (by omega), wp (x := (m : Int) - 1) (y := (m : Int) - 1) rfl (by omega) (by omega), show mx ((m : Int) - 1) 0 = ((m - 1 : Nat) : Int) by (unfold mx; split <;> omega), wp (x := (i : Int) + 1) (y := ((i + 1 : Nat) : Int)) (by omega) (by omega) (by omega)]
   exact g3 k

theorem build_ok (hs : s.length ≤ 16777216) {sa : List Int} (hsa : IsSA s sa) : ∃ x, suffix_build.f s sa = some [x] ∧ x.f2 = sa ∧ IsIx s x := by
 obtain ⟨rk, r1, r2, r3⟩ := build_r_ok hs hsa s.length 0 (List.replicate s.length 0) (by omega) (by omega) (by simp) (fun i _ h => by omega)
 obtain ⟨lc, l1, l2, l3⟩ := build_l_ok hs hsa r1 r2 s.length 0 0 (List.replicate s.length 0) (by omega) (by omega) (by simp) (by omega) (fun _ _ => by omega) (fun j hj hji => by
  have h0 : rank s.length (ch s) j = 0 := by omega
  rw [h0]
  unfold lcv
  rw [if_pos rfl]
  unfold ch
  rw [List.getD_eq_getElem?_getD, List.getElem?_replicate]
  split <;> rfl)
 refine ⟨⟨true, s, sa, rk, lc⟩, ?_, rfl, rfl, rfl, hsa, r1, r2, l1, l2⟩
 unfold suffix_build.f
 have a1 := r3 0
 have a2 := l3 0
 rw [show 0 + s.length + 1 = s.length + 1 by omega, show ((0 : Nat) : Int) = 0 from rfl] at a1
 rw [show 0 + s.length + 2 = s.length + 2 by omega, show ((0 : Nat) : Int) = 0 from rfl] at a2
 rw [if_pos hs, if_pos hsa.1, a1, Option.bind_some, a2]; rfl
theorem New_ok (hs : s.length ≤ 16777216) (hb : Byt s) : ∃ K x, (∀ k, K ≤ k → suffix_New.f k s = some ([x], 0)) ∧ IsIx s x := by
 obtain ⟨K, sa, h1, h2⟩ := sorted_ok hs hb
 obtain ⟨x, h3, _, h4⟩ := build_ok hs h2
 refine ⟨K, x, fun k hk => ?_, h4⟩
 unfold suffix_New.f
 rw [h1 k hk, Option.bind_some, if_pos rfl, h3]; rfl
end
section
variable {s : List Int} {x : S48}
attribute [local irreducible] cn cv fr tov rk3 loc2 ch rank
theorem is_f (hx : x.f0 = true) : suffix_Index_is.f [x] = some true := by
 unfold suffix_Index_is.f
 rw [if_neg (by simp), if_pos (by simp)]
 show some x.f0 = _
 rw [hx]
theorem place_end (l : List Int) (n : Int) (q : Int) (h : ¬ q < n) (k : Nat) : suffix_Index_place.l0 (k + 1) [x] l n q = some 0 := by
 rw [suffix_Index_place.l0, if_neg h]
theorem place_step (hx : x.f1 = s) (l : List Int) (q : Nat) (hq : q < l.length) (hl : l.length ≤ 1000) (k : Nat) : suffix_Index_place.l0 (k + 1) [x] l (l.length : Int) (q : Int) = if 0 ≤ ch l q ∧ ch l q < (s.length : Int) then suffix_Index_place.l0 k [x] l (l.length : Int) ((q + 1 : Nat) : Int) else some 132 := by
 rw [suffix_Index_place.l0, if_pos (by omega), if_pos (by omega), if_pos (by omega), rd_nat, show rd_T48 [x] 0 = x from rfl, hx]
 by_cases h1 : ch l q < 0
 ·rw [if_pos h1, if_neg (by omega)]
 ·rw [if_neg h1, if_pos (by simp)]
  by_cases h2 : ch l q ≥ (s.length : Int)
  ·rw [if_pos h2, if_neg (by omega)]
  ·rw [if_neg h2, if_pos (by omega), wp (x := (q : Int) + 1) (y := ((q + 1 : Nat) : Int)) (by omega) (by omega) (by omega)]
theorem place1_f (hx : IsIx s x) (i : Int) (k : Nat) : suffix_Index_place.f (k + 2) [x] [i] = some (if 0 ≤ i ∧ i < (s.length : Int) then 0 else 132) := by
 unfold suffix_Index_place.f
 rw [is_f hx.1, Option.bind_some, if_pos rfl]
 have h := place_step hx.2.1 [i] 0 (by simp) (by simp) (k + 1)
 have e : ch [i] 0 = i := by unfold ch; rfl
 rw [e] at h
 rw [show ((0 : Nat) : Int) = 0 from rfl] at h
 rw [h]
 split
 ·rw [place_end _ _ _ (by simp)]
 ·rfl
end
section
variable {s : List Int} {x : S48}
attribute [local irreducible] cn cv fr tov rk3 loc2 ch rank
theorem index_ok (hs : s.length ≤ 16777216) (hb : Byt s) : ∃ K x, (∀ k, K ≤ k → sapperlaw15_index.f k s = some [x]) ∧ IsIx s x := by
 obtain ⟨K, x, h, hx⟩ := New_ok hs hb
 refine ⟨K, x, fun k hk => ?_, hx⟩
 unfold sapperlaw15_index.f
 rw [h k hk, Option.bind_some, if_pos rfl]
theorem At_in (hx : IsIx s x) {r : Nat} (hr : r < s.length) {k : Nat} (hk : 2 ≤ k) : suffix_Index_At.f k [x] (r : Int) = some ((P x.f2 r : Int), 0) := by
 unfold suffix_Index_At.f
 have h := place1_f hx (r : Int) (k - 2)
 have hl := hx.2.2.1.1
 rw [show k - 2 + 2 = k by omega] at h
 rw [h, if_pos (by omega), Option.bind_some, if_pos rfl, if_pos (by simp), if_pos (by omega), show rd_T48 [x] 0 = x from rfl, if_pos (by omega), rd_nat, (sa_at hx.2.2.1 hr).1]
theorem made_f (hx : IsIx s x) {k : Nat} (hk : 2 ≤ k) : find_made.f k [x] = some true := by
 unfold find_made.f suffix_Index_At.f
 have h := place1_f hx (-1) (k - 2)
 rw [show k - 2 + 2 = k by omega] at h
 rw [h, if_neg (by omega), Option.bind_some, if_neg (by decide)]; rfl
theorem Len_f (hx : IsIx s x) : suffix_Index_Len.f [x] = some (s.length : Int) := by
 unfold suffix_Index_Len.f
 rw [is_f hx.1, Option.bind_some, if_pos rfl, if_pos (by simp), show rd_T48 [x] 0 = x from rfl, hx.2.1]
end
section
variable {x : List S48} {p : List Int} {t : Int → Bool} {n K0 : Nat} {c m : Nat → Int}
theorem srch_ok (hn : n ≤ 16777216) (hc : ∀ r, r < n → ∀ k, K0 ≤ k → find_compare.f k x (r : Int) p = some (c r, m r)) (hm : ∀ a b, a ≤ b → b < n → t (c a) = true → t (c b) = true) (d : Nat) : ∀ lo hi : Nat, hi - lo ≤ d → lo ≤ hi → hi ≤ n →
  ∃ r, lo ≤ r ∧ r ≤ hi ∧ (∀ q, lo ≤ q → q < r → t (c q) = false) ∧ (∀ q, r ≤ q → q < hi → t (c q) = true) ∧ ∀ k, K0 + d + 1 ≤ k → srch t k x p (lo : Int) (hi : Int) = some (r : Int) := by
 induction d with
 | zero =>
  intro lo hi hd hle hhi
  refine ⟨lo, Nat.le_refl _, hle, fun q h1 h2 => by omega, fun q h1 h2 => by omega, fun k hk => ?_⟩
  obtain ⟨k, rfl⟩ : ∃ k', k = k' + 1 := ⟨k - 1, by omega⟩
  rw [srch, if_neg (by omega)]
 | succ d ih =>
  intro lo hi hd hle hhi
  by_cases hlt : lo < hi
  ·have hmid : lo + (hi - lo) / 2 < hi := by omega
   have e1 : wrap64 ((lo : Int) + wrap64 (Int.tdiv (wrap64 ((hi : Int) - (lo : Int))) 2)) = ((lo + (hi - lo) / 2 : Nat) : Int) := by
    rw [wp (x := (hi : Int) - (lo : Int)) (y := ((hi - lo : Nat) : Int)) (by omega) (by omega) (by omega), Int.tdiv_eq_ediv_of_nonneg (by omega),
     wp (x := ((hi - lo : Nat) : Int) / 2) (y := (((hi - lo) / 2 : Nat) : Int)) (by omega) (by omega) (by omega),
     wp (x := (lo : Int) + (((hi - lo) / 2 : Nat) : Int)) (y := ((lo + (hi - lo) / 2 : Nat) : Int)) (by omega) (by omega) (by omega)]
   have hmd : lo ≤ lo + (hi - lo) / 2 := by omega
   generalize lo + (hi - lo) / 2 = md at *
   by_cases ht : t (c md) = true
   ·obtain ⟨r, g1, g2, g3, g4, g5⟩ := ih lo md (by omega) (by omega) (by omega)
    refine ⟨r, g1, by omega, g3, fun q h1 h2 => ?_, fun k hk => ?_⟩
    ·by_cases hq : q < md
     ·exact g4 q h1 hq
     ·exact hm md q (by omega) (by omega) ht
    ·obtain ⟨k, rfl⟩ : ∃ k', k = k' + 1 := ⟨k - 1, by omega⟩
     rw [srch, if_pos (by omega), e1, hc md (by omega) k (by omega), Option.bind_some, if_pos ht]
     exact g5 k (by omega)
   ·obtain ⟨r, g1, g2, g3, g4, g5⟩ := ih (md + 1) hi (by omega) (by omega) (by omega)
    refine ⟨r, by omega, g2, fun q h1 h2 => ?_, g4, fun k hk => ?_⟩
    ·by_cases hq : q ≤ md
     ·rw [Bool.eq_false_iff]
      exact fun h => ht (hm q md hq (by omega) h)
     ·exact g3 q (by omega) h2
    ·obtain ⟨k, rfl⟩ : ∃ k', k = k' + 1 := ⟨k - 1, by omega⟩
     rw [srch, if_pos (by omega), e1, hc md (by omega) k (by omega), Option.bind_some, if_neg ht, wp (x := (md : Int) + 1) (y := ((md + 1 : Nat) : Int)) (by omega) (by omega) (by omega)]
     exact g5 k (by omega)
  ·refine ⟨lo, Nat.le_refl _, hle, fun q h1 h2 => by omega, fun q h1 h2 => by omega, fun k hk => ?_⟩
   obtain ⟨k, rfl⟩ : ∃ k', k = k' + 1 := ⟨k - 1, by omega⟩
   rw [srch, if_neg (by omega)]
end
section
variable {s p u v : List Int} {x : S48}
attribute [local irreducible] cn cv fr tov rk3 loc2 ch rank
theorem cml_fit (d : Nat) : ∀ q, u.length - q = d → cml u v q ≤ u.length - q ∧ cml u v q ≤ v.length - q := by
 induction d with
 | zero => intro q h; rw [cml, dif_neg (by omega)]; omega
 | succ d ih =>
  intro q h
  rw [cml, dif_pos (by omega)]
  split
  ·have := ih (q + 1) (by omega); omega
  ·omega
theorem cml_get (d : Nat) : ∀ q, u.length - q = d → ∀ j, j < cml u v q → q + j < u.length ∧ q + j < v.length ∧ ch u (q + j) = ch v (q + j) := by
 induction d with
 | zero => intro q h j hj; rw [cml, dif_neg (by omega)] at hj; omega
 | succ d ih =>
  intro q h j hj
  rw [cml, dif_pos (by omega)] at hj
  split at hj
  ·rename_i hq
   cases j with
   | zero => exact ⟨by omega, by omega, hq.2⟩
   | succ j =>
    have := ih (q + 1) (by omega) j (by omega)
    rw [show q + 1 + j = q + (j + 1) by omega] at this
    exact this
  ·omega
theorem cml_stop (d : Nat) : ∀ q, u.length - q = d → ¬ (q + cml u v q < u.length ∧ q + cml u v q < v.length ∧ ch u (q + cml u v q) = ch v (q + cml u v q)) := by
 induction d with
 | zero => intro q h; omega
 | succ d ih =>
  intro q h
  rw [cml, dif_pos (by omega)]
  by_cases hq : q < v.length ∧ ch u q = ch v q
  ·rw [if_pos hq]
   have := ih (q + 1) (by omega)
   rw [show q + (cml u v (q + 1) + 1) = q + 1 + cml u v (q + 1) by omega]
   exact this
  ·rw [if_neg hq, Nat.add_zero]
   exact fun h => hq h.2
theorem cmp_l_ok (hu : u.length ≤ 9223372036854775000) (d : Nat) : ∀ q, u.length - q = d → ∀ k, cmp_l (k + d + 1) u v (q : Int) = some ((q + cml u v q : Nat) : Int) := by
 induction d with
 | zero =>
  intro q h k
  rw [show k + 0 + 1 = k + 1 by omega, cmp_l, if_neg (by omega), cml, dif_neg (by omega), Nat.add_zero]
 | succ d ih =>
  intro q h k
  rw [show k + (d + 1) + 1 = k + d + 1 + 1 by omega, cmp_l, if_pos (by omega), cml, dif_pos (by omega)]
  by_cases h1 : q < v.length
  ·rw [if_pos (by omega), if_pos (by omega), rd_nat, rd_nat]
   by_cases h2 : ch u q = ch v q
   ·rw [if_pos h2, if_pos ⟨h1, h2⟩, wp (x := (q : Int) + 1) (y := ((q + 1 : Nat) : Int)) (by omega) (by omega) (by omega), ih (q + 1) (by omega), show q + 1 + cml u v (q + 1) = q + (cml u v (q + 1) + 1) by omega]
   ·rw [if_neg h2, if_neg (fun h => h2 h.2), Nat.add_zero]
  ·rw [if_neg (by omega), if_neg (fun h => h1 h.1), Nat.add_zero]
def sgn (u p : List Int) : Int := if cml u p 0 = p.length then 0 else if cml u p 0 = u.length then -1 else if ch u (cml u p 0) < ch p (cml u p 0) then -1 else 1
theorem Compare_f (hs : s.length ≤ 16777216) (hx : IsIx s x) {i : Nat} (hi : i < s.length) {k : Nat} (hk : s.length + 4 ≤ k) : suffix_Index_Compare.f k [x] (i : Int) p = some (sgn (s.drop i) p, (cml (s.drop i) p 0 : Int), 0) := by
 unfold suffix_Index_Compare.f
 have h := place1_f hx (i : Int) (k - 2)
 rw [show k - 2 + 2 = k by omega] at h
 have hl := cmp_l_ok (u := s.drop i) (v := p) (by rw [List.length_drop]; omega) (s.drop i).length 0 (by omega) (k - (s.drop i).length - 1)
 have hd : (s.drop i).length = s.length - i := List.length_drop
 rw [show k - (s.drop i).length - 1 + (s.drop i).length + 1 = k by omega, show ((0 : Nat) : Int) = 0 from rfl, Nat.zero_add] at hl
 have hf := cml_fit (u := s.drop i) (v := p) _ 0 rfl
 rw [h, if_pos (by omega), Option.bind_some, if_pos rfl, if_pos (by simp), if_pos (by omega), show rd_T48 [x] 0 = x from rfl, hx.2.1, if_pos (by omega), Int.toNat_natCast, hl, Option.bind_some]
 unfold sgn
 by_cases c1 : cml (s.drop i) p 0 = p.length
 ·rw [if_pos (by omega), if_pos c1]
 ·rw [if_neg (by omega), if_neg c1, if_pos (by omega), if_pos (by omega)]
  by_cases c2 : cml (s.drop i) p 0 = (s.drop i).length
  ·rw [if_pos (by omega), if_pos c2]
  ·rw [if_neg (by omega), if_neg c2, if_pos (by omega), rd_nat, rd_nat]
   by_cases c3 : ch (s.drop i) (cml (s.drop i) p 0) < ch p (cml (s.drop i) p 0)
   ·rw [if_pos c3, if_pos c3]
   ·rw [if_neg c3, if_neg c3]
theorem compare_f (hs : s.length ≤ 16777216) (hx : IsIx s x) {r : Nat} (hr : r < s.length) {k : Nat} (hk : s.length + 4 ≤ k) : find_compare.f k [x] (r : Int) p = some (sgn (s.drop (P x.f2 r)) p, (cml (s.drop (P x.f2 r)) p 0 : Int)) := by
 unfold find_compare.f
 rw [At_in hx hr (by omega), Option.bind_some]
 dsimp only
 rw [Compare_f hs hx (sa_at hx.2.2.1 hr).2.1 hk]; rfl
end
section
variable {s : List Int} {sa : List Int}
attribute [local irreducible] cn cv fr tov rk3 loc2 ch rank
def fresh (s sa : List Int) (r : Nat) : Nat := s.length - P sa r - lcv s sa r
def base (s sa : List Int) : Nat → Nat
 | 0 => 0
 | r + 1 => base s sa r + fresh s sa r
def txt (s sa : List Int) (r j : Nat) : List Int := (s.drop (P sa r)).take (lcv s sa r + 1 + j)
theorem sa_slt (h : IsSA s sa) {r : Nat} (hr : r + 1 < s.length) : slt s.length (ch s) (P sa r) (P sa (r + 1)) = true := by
 obtain ⟨_, a1, a2⟩ := sa_at h (show r < s.length by omega)
 obtain ⟨_, b1, b2⟩ := sa_at h hr
 exact (rank_iff a1 b1).1 (by omega)
theorem lcv_at (sa : List Int) (r : Nat) : lcv s sa (r + 1) = com s.length (ch s) (P sa r) (P sa (r + 1)) := by
 unfold lcv; rw [if_neg (by omega), Nat.add_sub_cancel]
theorem fresh_pos (h : IsSA s sa) {r : Nat} (hr : r < s.length) : P sa r < s.length ∧ lcv s sa r < s.length - P sa r ∧ fresh s sa r + lcv s sa r + P sa r = s.length ∧ 0 < fresh s sa r := by
 have h1 := (sa_at h hr).2.1
 have h2 : lcv s sa r < s.length - P sa r := by
  cases r with
  | zero => unfold lcv; rw [if_pos rfl]; omega
  | succ r =>
   rw [lcv_at]
   have := (slt_com.1 (sa_slt h hr)).1
   omega
 refine ⟨h1, h2, ?_, ?_⟩ <;> (unfold fresh; omega)
theorem base_mono (s sa : List Int) {a b : Nat} (h : a ≤ b) : base s sa a ≤ base s sa b := by
 obtain ⟨d, rfl⟩ := Nat.exists_eq_add_of_le h
 clear h
 induction d with
 | zero => exact Nat.le_refl _
 | succ d ih =>
  have : base s sa (a + (d + 1)) = base s sa (a + d) + fresh s sa (a + d) := rfl
  omega
theorem base_one {r r2 j j2 : Nat} (h : base s sa r + j = base s sa r2 + j2) (h1 : j < fresh s sa r) (h2 : j2 < fresh s sa r2) : r = r2 ∧ j = j2 := by
 rcases Nat.lt_trichotomy r r2 with g | g | g
 ·have := base_mono s sa (show r + 1 ≤ r2 by omega)
  have e : base s sa (r + 1) = base s sa r + fresh s sa r := rfl
  omega
 ·subst g; exact ⟨rfl, by omega⟩
 ·have := base_mono s sa (show r2 + 1 ≤ r by omega)
  have e : base s sa (r2 + 1) = base s sa r2 + fresh s sa r2 := rfl
  omega
theorem txt_len (h : IsSA s sa) {r j : Nat} (hr : r < s.length) (hj : j < fresh s sa r) : (txt s sa r j).length = lcv s sa r + 1 + j := by
 have := fresh_pos h hr
 unfold txt
 rw [List.length_take, List.length_drop]
 omega
theorem rise_in (h : IsSA s sa) {r j : Nat} (hr : r < s.length) (hj : j + 1 < fresh s sa r) : lessL (txt s sa r j) (txt s sa r (j + 1)) = true := by
 have l1 := txt_len h hr (show j < fresh s sa r by omega)
 have l2 := txt_len h hr hj
 refine lessL_of (lcv s sa r + 1 + j) (by omega) (fun q hq => ⟨by omega, ?_⟩) (.inl (by omega))
 unfold txt
 rw [ch_take, ch_take, if_pos hq, if_pos (by omega)]
theorem rise_next (h : IsSA s sa) {r j : Nat} (hr : r + 1 < s.length) (hj : j + 1 = fresh s sa r) : lessL (txt s sa r j) (txt s sa (r + 1) 0) = true := by
 have f1 := fresh_pos h (show r < s.length by omega)
 have f2 := fresh_pos h hr
 have l1 := txt_len h (show r < s.length by omega) (show j < fresh s sa r by omega)
 have l2 := txt_len h hr f2.2.2.2
 have hc := slt_com.1 (sa_slt h hr)
 have hl := lcv_at (s := s) sa r
 have hle := com_le (n := s.length) (c := ch s) (P sa r) (P sa (r + 1))
 refine lessL_of (lcv s sa (r + 1)) (by omega) (fun q hq => ⟨by omega, ?_⟩) ?_
 ·have := com_get (n := s.length) (c := ch s) (i := P sa r) (j := P sa (r + 1)) (q := q) (by omega)
  unfold txt
  rw [ch_take, ch_take, if_pos (by omega), if_pos (by omega), ch_drop, ch_drop]
  exact this.2.2
 ·by_cases g : (txt s sa r j).length ≤ lcv s sa (r + 1)
  ·exact .inl g
  ·refine .inr ?_
   unfold txt
   rw [ch_take, ch_take, if_pos (by omega), if_pos (by omega), ch_drop, ch_drop, hl]
   exact hc.2 (by omega)
def Prev (s sa : List Int) (m : Nat) (last : List Int) : Prop := m = 0 ∧ last = [] ∨ ∃ r j, r < s.length ∧ j < fresh s sa r ∧ m = base s sa r + j + 1 ∧ last = txt s sa r j
theorem rise (h : IsSA s sa) {r j : Nat} (hr : r < s.length) (hj : j < fresh s sa r) {last : List Int} (hp : Prev s sa (base s sa r + j) last) : lessL last (txt s sa r j) = true := by
 rcases hp with ⟨_, rfl⟩ | ⟨r', j', h1, h2, h3, rfl⟩
 ·have := txt_len h hr hj
  cases he : txt s sa r j with
  | nil => rw [he, List.length_nil] at this; omega
  | cons a l => rfl
 ·by_cases g : j' + 1 < fresh s sa r'
  ·obtain ⟨rfl, rfl⟩ := base_one (j2 := j' + 1) (r2 := r') (by omega) hj g
   exact rise_in h h1 g
  ·have e : base s sa (r' + 1) = base s sa r' + fresh s sa r' := rfl
   by_cases g2 : r' + 1 < s.length
   ·obtain ⟨rfl, rfl⟩ := base_one (j2 := 0) (r2 := r' + 1) (by omega) hj (fresh_pos h g2).2.2.2
    exact rise_next h g2 (by omega)
   ·have := base_mono s sa (show r + 1 ≤ r' + 1 by omega)
    have e2 : base s sa (r + 1) = base s sa r + fresh s sa r := rfl
    omega
theorem places (h : IsSA s sa) : ((List.range s.length).map (P sa)).Perm (List.range s.length) := by
 refine (List.perm_ext_iff_of_nodup ?_ List.nodup_range).2 fun x => ?_
 ·refine List.pairwise_map.2 (List.Pairwise.imp_of_mem (R := fun a b => a < b) (fun {a b} ha hb hab => ?_) List.pairwise_lt_range)
  have ha := List.mem_range.1 ha
  have hb := List.mem_range.1 hb
  have h1 := (sa_at h ha).2.2
  have h2 := (sa_at h hb).2.2
  intro e
  rw [e] at h1
  omega
 ·rw [List.mem_map, List.mem_range]
  constructor
  ·rintro ⟨a, ha, rfl⟩
   exact (sa_at h (List.mem_range.1 ha)).2.1
  ·intro hx
   exact ⟨rank s.length (ch s) x, List.mem_range.2 (rank_lt hx), P_rank h hx⟩

end
section
variable {s p u v : List Int} {x : S48} {sa : List Int}
attribute [local irreducible] cv fr tov rk3 loc2 ch rank
theorem cml_is (m : Nat) (h1 : m ≤ u.length) (h2 : m ≤ v.length) (h : ∀ q, q < m → ch u q = ch v q) (hs : ¬ (m < u.length ∧ m < v.length ∧ ch u m = ch v m)) : cml u v 0 = m := by
 have a := cml_stop (u := u) (v := v) _ 0 rfl
 have b := cml_get (u := u) (v := v) _ 0 rfl
 rw [Nat.zero_add] at a
 rcases Nat.lt_trichotomy (cml u v 0) m with g | g | g
 ·exact absurd ⟨by omega, by omega, h _ g⟩ a
 ·exact g
 ·have := b m g
  rw [Nat.zero_add] at this
  exact absurd this hs
theorem sgn_cases (u p : List Int) : sgn u p = -1 ∨ sgn u p = 0 ∨ sgn u p = 1 := by
 unfold sgn
 split
 ·exact .inr (.inl rfl)
 ·split
  ·exact .inl rfl
  ·split
   ·exact .inl rfl
   ·exact .inr (.inr rfl)
theorem sgn_up (m : Nat) (h1 : m < u.length) (h2 : m < p.length) (h : ∀ q, q < m → ch u q = ch p q) (hg : ch p m < ch u m) : sgn u p = 1 := by
 have e := cml_is (u := u) (v := p) m (by omega) (by omega) h (fun z => by omega)
 unfold sgn
 rw [e, if_neg (by omega), if_neg (by omega), if_neg (by omega)]
theorem sgn_mono {i j : Nat} (h : slt s.length (ch s) i j = true) : sgn (s.drop i) p ≤ sgn (s.drop j) p := by
 obtain ⟨h1, h2⟩ := slt_com.1 h
 have hc := fun q => com_get (n := s.length) (c := ch s) (i := i) (j := j) (q := q)
 have li : (s.drop i).length = s.length - i := List.length_drop
 have lj : (s.drop j).length = s.length - j := List.length_drop
 have gi := cml_get (u := s.drop i) (v := p) _ 0 rfl
 have fi := cml_fit (u := s.drop i) (v := p) _ 0 rfl
 have si := cml_stop (u := s.drop i) (v := p) _ 0 rfl
 rw [Nat.zero_add] at si
 have ag : ∀ q, q < cml (s.drop i) p 0 → ch (s.drop i) q = ch p q := fun q hq => by
  have := (gi q hq).2.2
  rw [Nat.zero_add] at this
  exact this
 have hle := com_le (n := s.length) (c := ch s) i j
 by_cases c1 : com s.length (ch s) i j < cml (s.drop i) p 0
 ·have : sgn (s.drop j) p = 1 := by
   refine sgn_up (com s.length (ch s) i j) (by omega) (by omega) (fun q hq => ?_) ?_
   ·rw [ch_drop, ← (hc q hq).2.2, ← ch_drop, ag q (by omega)]
   ·rw [← ag _ c1, ch_drop, ch_drop]
    exact h2 (by omega)
  have := sgn_cases (s.drop i) p
  omega
 ·have agj : ∀ q, q < cml (s.drop i) p 0 → ch (s.drop j) q = ch p q := fun q hq => by
   rw [ch_drop, ← (hc q (by omega)).2.2, ← ch_drop, ag q hq]
  by_cases c2 : cml (s.drop i) p 0 = p.length
  ·have e0 : sgn (s.drop i) p = 0 := by unfold sgn; rw [if_pos c2]
   have e1 : sgn (s.drop j) p = 0 := by
    have : cml (s.drop j) p 0 = p.length := cml_is p.length (by omega) (Nat.le_refl _) (fun q hq => agj q (by omega)) (fun z => by omega)
    unfold sgn; rw [if_pos this]
   omega
  ·rcases sgn_cases (s.drop i) p with e | e | e
   ·have := sgn_cases (s.drop j) p; omega
   ·unfold sgn at e
    rw [if_neg c2] at e
    split at e
    ·exact absurd e (by decide)
    ·split at e <;> exact absurd e (by decide)
   ·have : sgn (s.drop j) p = 1 := by
     unfold sgn at e
     rw [if_neg c2] at e
     split at e
     ·exact absurd e (by decide)
     ·rename_i c3
      split at e
      ·exact absurd e (by decide)
      ·rename_i c4
       have hne : ch (s.drop i) (cml (s.drop i) p 0) ≠ ch p (cml (s.drop i) p 0) := fun z => si ⟨by omega, by omega, z⟩
       refine sgn_up (cml (s.drop i) p 0) (by omega) (by omega) agj ?_
       by_cases c5 : cml (s.drop i) p 0 < com s.length (ch s) i j
       ·rw [ch_drop, ← (hc _ c5).2.2, ← ch_drop]; omega
       ·have e5 : cml (s.drop i) p 0 = com s.length (ch s) i j := by omega
        rw [ch_drop] at c4 hne ⊢
        rw [e5] at c4 hne c3 ⊢
        have := h2 (by omega)
        omega
    omega
theorem cn_range (n : Nat) (T : Nat → Bool) : cn n T = (List.range n).countP T := by
 induction n with
 | zero => rfl
 | succ n ih =>
  rw [List.range_succ, List.countP_append, ← ih, cn]
  cases hT : T n <;> simp [hT]
theorem cn_rank (h : IsSA s sa) (T : Nat → Bool) : cn s.length (fun r => T (P sa r)) = cn s.length T := by
 rw [cn_range, cn_range, ← (places h).countP_eq T, List.countP_map]; rfl
theorem cn_below {n m : Nat} (hm : m ≤ n) {T : Nat → Bool} (h1 : ∀ q, q < m → T q = true) (h2 : ∀ q, m ≤ q → q < n → T q = false) : cn n T = m := by
 induction n with
 | zero =>
  have : m = 0 := by omega
  subst this; rfl
 | succ n ih =>
  by_cases e : m = n + 1
  ·subst e
   exact cn_true fun j hj => h1 j hj
  ·have := ih (by omega) (fun q a b => h2 q a (by omega))
   rw [cn, this, h2 n (by omega) (by omega)]; rfl
end
section
variable {s p u v : List Int} {x : S48} {sa : List Int}
attribute [local irreducible] cv fr tov rk3 loc2 ch rank
theorem cml_agree {a q : Nat} (hq : q < cml (s.drop a) p 0) : a + q < s.length ∧ q < p.length ∧ ch s (a + q) = ch p q := by
 have h := cml_get (u := s.drop a) (v := p) _ 0 rfl q hq
 rw [Nat.zero_add, List.length_drop, ch_drop] at h
 exact ⟨by omega, h.2⟩
theorem cml_parts (s p : List Int) (a : Nat) : ¬ (a + cml (s.drop a) p 0 < s.length ∧ cml (s.drop a) p 0 < p.length ∧ ch s (a + cml (s.drop a) p 0) = ch p (cml (s.drop a) p 0)) := by
 have h := cml_stop (u := s.drop a) (v := p) _ 0 rfl
 rw [Nat.zero_add, List.length_drop, ch_drop] at h
 exact fun z => h ⟨by omega, z.2⟩
theorem cml_fits (s p : List Int) (a : Nat) : cml (s.drop a) p 0 ≤ s.length - a ∧ cml (s.drop a) p 0 ≤ p.length := by
 have h := cml_fit (u := s.drop a) (v := p) _ 0 rfl
 rw [List.length_drop] at h
 omega
theorem sgn_neg {a : Nat} (h : sgn (s.drop a) p < 0) : cml (s.drop a) p 0 < p.length ∧ (a + cml (s.drop a) p 0 < s.length → ch s (a + cml (s.drop a) p 0) < ch p (cml (s.drop a) p 0)) := by
 have hf := cml_fits s p a
 unfold sgn at h
 rw [List.length_drop, ch_drop] at h
 split at h
 ·omega
 ·refine ⟨by omega, fun hl => ?_⟩
  split at h
  ·omega
  ·split at h
   ·assumption
   ·omega
theorem sgn_pos {a : Nat} (h : 0 ≤ sgn (s.drop a) p) (hl : cml (s.drop a) p 0 < p.length) : a + cml (s.drop a) p 0 < s.length ∧ ch p (cml (s.drop a) p 0) < ch s (a + cml (s.drop a) p 0) := by
 have hf := cml_fits s p a
 have hp := cml_parts s p a
 unfold sgn at h
 rw [List.length_drop, ch_drop] at h
 split at h
 ·omega
 ·split at h
  ·omega
  ·split at h
   ·omega
   ·have : a + cml (s.drop a) p 0 < s.length := by omega
    refine ⟨this, ?_⟩
    have : ch s (a + cml (s.drop a) p 0) ≠ ch p (cml (s.drop a) p 0) := fun e => hp ⟨this, hl, e⟩
    omega
theorem cml_up {i j : Nat} (h : slt s.length (ch s) i j = true) (hj : sgn (s.drop j) p < 0) : cml (s.drop i) p 0 ≤ cml (s.drop j) p 0 := by
 obtain ⟨h1, h2⟩ := slt_com.1 h
 obtain ⟨j1, j2⟩ := sgn_neg hj
 have sj := cml_parts s p j
 rcases Nat.lt_or_ge (cml (s.drop j) p 0) (cml (s.drop i) p 0) with g | g
 case inr => exact g
 generalize hc : cml (s.drop j) p 0 = c at *
 have ai := cml_agree (s := s) (p := p) (a := i) g
 have hm : c ≤ com s.length (ch s) i j := com_ge c i j fun q hq => by
  have a1 := cml_agree (s := s) (p := p) (a := i) (show q < cml (s.drop i) p 0 by omega)
  have a2 := cml_agree (s := s) (p := p) (a := j) (show q < cml (s.drop j) p 0 by omega)
  exact ⟨a1.1, a2.1, by rw [a1.2.2, a2.2.2]⟩
 by_cases hm2 : c = com s.length (ch s) i j
 ·rw [← hm2] at h1 h2
  have := h2 ai.1
  have := j2 h1
  omega
 ·have := com_get (n := s.length) (c := ch s) (i := i) (j := j) (q := c) (by omega)
  exact absurd ⟨this.2.1, ai.2.1, by rw [← this.2.2]; exact ai.2.2⟩ sj
theorem cml_down {i j : Nat} (h : slt s.length (ch s) i j = true) (hi : 0 ≤ sgn (s.drop i) p) : cml (s.drop j) p 0 ≤ cml (s.drop i) p 0 := by
 obtain ⟨h1, h2⟩ := slt_com.1 h
 rcases Nat.lt_or_ge (cml (s.drop i) p 0) (cml (s.drop j) p 0) with g | g
 case inr => exact g
 have aj := cml_agree (s := s) (p := p) (a := j) g
 obtain ⟨i1, i2⟩ := sgn_pos hi aj.2.1
 generalize hc : cml (s.drop i) p 0 = c at *
 have hm : c ≤ com s.length (ch s) i j := com_ge c i j fun q hq => by
  have a1 := cml_agree (s := s) (p := p) (a := i) (show q < cml (s.drop i) p 0 by omega)
  have a2 := cml_agree (s := s) (p := p) (a := j) (show q < cml (s.drop j) p 0 by omega)
  exact ⟨a1.1, a2.1, by rw [a1.2.2, a2.2.2]⟩
 by_cases hm2 : c = com s.length (ch s) i j
 ·rw [← hm2] at h1 h2
  have := h2 i1
  omega
 ·have := com_get (n := s.length) (c := ch s) (i := i) (j := j) (q := c) (by omega)
  omega
def Mx (s p : List Int) (m : Nat) : Prop := (∀ i, i < s.length → cml (s.drop i) p 0 ≤ m) ∧ (m = 0 ∨ ∃ i, i < s.length ∧ cml (s.drop i) p 0 = m)
theorem Mx_one {m m' : Nat} (h : Mx s p m) (h' : Mx s p m') : m = m' := by
 rcases h with ⟨a, rfl | ⟨i, hi, e⟩⟩
 ·rcases h' with ⟨a', rfl | ⟨i', hi', e'⟩⟩
  ·rfl
  ·have := a i' hi'; omega
 ·have := h'.1 i hi
  rcases h' with ⟨a', rfl | ⟨i', hi', e'⟩⟩
  ·omega
  ·have := a i' hi'; omega
theorem Mx_fit {m : Nat} (h : Mx s p m) : m ≤ p.length := by
 rcases h with ⟨_, rfl | ⟨i, hi, e⟩⟩
 ·exact Nat.zero_le _
 ·have := cml_fits s p i; omega
theorem rank_of_place (h : IsSA s sa) {i : Nat} (hi : i < s.length) : ∃ r, r < s.length ∧ P sa r = i := by
 have := (places h).mem_iff.2 (List.mem_range.2 hi)
 obtain ⟨r, hr, e⟩ := List.mem_map.1 this
 exact ⟨r, List.mem_range.1 hr, e⟩
theorem slt_rank2 (h : IsSA s sa) {a b : Nat} (hab : a < b) (hb : b < s.length) : slt s.length (ch s) (P sa a) (P sa b) = true := by
 obtain ⟨_, a1, a2⟩ := sa_at h (show a < s.length by omega)
 obtain ⟨_, b1, b2⟩ := sa_at h hb
 exact (rank_iff a1 b1).1 (by omega)
theorem Mx_of (h : IsSA s sa) {lo : Nat} (hlo : lo ≤ s.length) (h1 : ∀ q, q < lo → sgn (s.drop (P sa q)) p < 0) (h2 : ∀ q, lo ≤ q → q < s.length → 0 ≤ sgn (s.drop (P sa q)) p) {m : Nat}
  (hm1 : 0 < lo → cml (s.drop (P sa (lo - 1))) p 0 ≤ m) (hm2 : lo < s.length → cml (s.drop (P sa lo)) p 0 ≤ m)
  (hm3 : m = 0 ∨ (0 < lo ∧ m = cml (s.drop (P sa (lo - 1))) p 0) ∨ (lo < s.length ∧ m = cml (s.drop (P sa lo)) p 0)) : Mx s p m := by
 refine ⟨fun i hi => ?_, ?_⟩
 ·obtain ⟨r, hr, rfl⟩ := rank_of_place h hi
  by_cases c : r < lo
  ·by_cases c2 : r = lo - 1
   ·rw [c2]; exact hm1 (by omega)
   ·exact Nat.le_trans (cml_up (slt_rank2 h (show r < lo - 1 by omega) (by omega)) (h1 (lo - 1) (by omega))) (hm1 (by omega))
  ·by_cases c2 : r = lo
   ·rw [c2]; exact hm2 (by omega)
   ·exact Nat.le_trans (cml_down (slt_rank2 h (show lo < r by omega) hr) (h2 lo (Nat.le_refl _) (by omega))) (hm2 (by omega))
 ·rcases hm3 with e | ⟨e1, e2⟩ | ⟨e1, e2⟩
  ·exact .inl e
  ·exact .inr ⟨_, (sa_at h (show lo - 1 < s.length by omega)).2.1, e2.symm⟩
  ·exact .inr ⟨_, (sa_at h e1).2.1, e2.symm⟩
theorem mx_nat (a b : Nat) : mx (a : Int) (b : Int) = ((max a b : Nat) : Int) := by unfold mx; split <;> omega
theorem most_step (hs : s.length ≤ 16777216) (hx : IsIx s x) {q m lo k : Nat} (hq : q < s.length) (h : q ≤ lo) (hk : s.length + 4 ≤ k) : most_l (k + 1) [x] p (lo : Int) (s.length : Int) (m : Int) (q : Int) = most_l k [x] p (lo : Int) (s.length : Int) ((max m (cml (s.drop (P x.f2 q)) p 0) : Nat) : Int) ((q + 1 : Nat) : Int) := by
 rw [most_l, if_pos (by omega), if_pos (by omega), compare_f hs hx hq hk, Option.bind_some]
 dsimp only
 rw [mx_nat, wp (x := (q : Int) + 1) (y := ((q + 1 : Nat) : Int)) (by omega) (by omega) (by omega)]
theorem most_end {q m lo k : Nat} (h : lo < q ∨ s.length ≤ q) : most_l (k + 1) [x] p (lo : Int) (s.length : Int) (m : Int) (q : Int) = some (m : Int) := by
 rw [most_l]
 by_cases c : q ≤ lo
 ·rw [if_pos (by omega), if_neg (by omega)]
 ·rw [if_neg (by omega)]
theorem most_ok (hs : s.length ≤ 16777216) (hx : IsIx s x) (p : List Int) : ∃ m, Mx s p m ∧ ∀ k, 2 * s.length + 10 ≤ k → find_most.f k [x] p = some (m : Int) := by
 have hsa := hx.2.2.1
 obtain ⟨lo, _, g2, g3, g4, g5⟩ := srch_ok (x := [x]) (p := p) (t := fun c => decide (c ≥ 0)) (n := s.length) (K0 := s.length + 4) (c := fun r => sgn (s.drop (P x.f2 r)) p) (m := fun r => (cml (s.drop (P x.f2 r)) p 0 : Int)) hs (fun r hr k hk => compare_f hs hx hr hk) (fun a b hab hb ht => by
  have : sgn (s.drop (P x.f2 a)) p ≤ sgn (s.drop (P x.f2 b)) p := by
   by_cases e : a = b
   ·rw [e]; exact Int.le_refl _
   ·exact sgn_mono (slt_rank2 hsa (by omega) hb)
  simp only [decide_eq_true_eq] at ht ⊢
  omega) s.length 0 s.length (by omega) (by omega) (by omega)
 have l1 : ∀ q, q < lo → sgn (s.drop (P x.f2 q)) p < 0 := fun q hq => by
  have := g3 q (by omega) hq
  simp only [decide_eq_false_iff_not] at this
  omega
 have l2 : ∀ q, lo ≤ q → q < s.length → 0 ≤ sgn (s.drop (P x.f2 q)) p := fun q h1 h2 => by
  have := g4 q h1 h2
  simp only [decide_eq_true_eq] at this
  omega
 have start : ∀ k, 2 * s.length + 10 ≤ k → find_most.f k [x] p = most_l k [x] p (lo : Int) (s.length : Int) ((0 : Nat) : Int) ((lo - 1 : Nat) : Int) := fun k hk => by
  unfold find_most.f
  have := g5 k (by omega)
  rw [show ((0 : Nat) : Int) = 0 from rfl] at this
  rw [Len_f hx, Option.bind_some, this, Option.bind_some]
  have e : mx (wrap64 ((lo : Int) - 1)) 0 = ((lo - 1 : Nat) : Int) := by
   rw [wp (x := (lo : Int) - 1) rfl (by omega) (by omega)]
   unfold mx
   split <;> omega
  rw [e]; rfl
 by_cases c0 : lo = 0
 ·by_cases c1 : s.length = 0
  ·refine ⟨0, Mx_of hsa g2 l1 l2 (by omega) (by omega) (.inl rfl), fun k hk => ?_⟩
   obtain ⟨k, rfl⟩ : ∃ k', k = k' + 1 := ⟨k - 1, by omega⟩
   rw [start _ hk, most_end (by omega)]
  ·refine ⟨cml (s.drop (P x.f2 lo)) p 0, Mx_of hsa g2 l1 l2 (by omega) (fun _ => Nat.le_refl _) (.inr (.inr ⟨by omega, rfl⟩)), fun k hk => ?_⟩
   obtain ⟨k, rfl⟩ : ∃ k', k = k' + 1 + 1 := ⟨k - 2, by omega⟩
   rw [start _ hk, show lo - 1 = lo by omega, most_step hs hx (by omega) (Nat.le_refl _) (by omega), most_end (by omega), Nat.zero_max]
 ·by_cases c1 : lo < s.length
  ·refine ⟨max (cml (s.drop (P x.f2 (lo - 1))) p 0) (cml (s.drop (P x.f2 lo)) p 0), Mx_of hsa g2 l1 l2 (fun _ => Nat.le_max_left _ _) (fun _ => Nat.le_max_right _ _) ?_, fun k hk => ?_⟩
   ·right
    rcases Nat.le_total (cml (s.drop (P x.f2 (lo - 1))) p 0) (cml (s.drop (P x.f2 lo)) p 0) with g | g
    ·exact .inr ⟨c1, Nat.max_eq_right g⟩
    ·exact .inl ⟨by omega, Nat.max_eq_left g⟩
   ·obtain ⟨k, rfl⟩ : ∃ k', k = k' + 1 + 1 + 1 := ⟨k - 3, by omega⟩
    rw [start _ hk, most_step hs hx (by omega) (by omega) (by omega), show lo - 1 + 1 = lo by omega, most_step hs hx c1 (Nat.le_refl _) (by omega), most_end (by omega), Nat.zero_max]
  ·refine ⟨cml (s.drop (P x.f2 (lo - 1))) p 0, Mx_of hsa g2 l1 l2 (fun _ => Nat.le_refl _) (by omega) (.inr (.inl ⟨by omega, rfl⟩)), fun k hk => ?_⟩
   obtain ⟨k, rfl⟩ : ∃ k', k = k' + 1 + 1 := ⟨k - 2, by omega⟩
   rw [start _ hk, most_step hs hx (by omega) (by omega) (by omega), most_end (by omega), Nat.zero_max]
end
section
variable {s p : List Int}
attribute [local irreducible] cv fr tov rk3 loc2 ch rank
def Lg (n : Nat) (f : Nat → Nat) (a m : Nat) : Prop := (∀ i, i < n → f i ≤ m) ∧ ((m = 0 ∧ a = 0) ∨ (0 < m ∧ a < n ∧ f a = m ∧ ∀ i, i < a → f i < m))
theorem Lg_one {n : Nat} {f : Nat → Nat} {a m a' m' : Nat} (h : Lg n f a m) (h' : Lg n f a' m') : a = a' ∧ m = m' := by
 obtain ⟨b, c⟩ := h
 obtain ⟨b', c'⟩ := h'
 have hm : m = m' := by
  rcases c with ⟨c1, c2⟩ | ⟨c1, c2, c3, c4⟩
  ·rcases c' with ⟨d1, d2⟩ | ⟨d1, d2, d3, d4⟩
   ·omega
   ·have := b a' d2; omega
  ·have := b' a c2
   rcases c' with ⟨d1, d2⟩ | ⟨d1, d2, d3, d4⟩
   ·omega
   ·have := b a' d2; omega
 subst hm
 refine ⟨?_, rfl⟩
 rcases c with ⟨c1, c2⟩ | ⟨c1, c2, c3, c4⟩
 ·rcases c' with ⟨d1, d2⟩ | ⟨d1, d2, d3, d4⟩
  ·omega
  ·omega
 ·rcases c' with ⟨d1, d2⟩ | ⟨d1, d2, d3, d4⟩
  ·omega
  ·rcases Nat.lt_trichotomy a a' with g | g | g
   ·have := d4 a g; omega
   ·exact g
   ·have := c4 a' g; omega
def lng (f : Nat → Nat) : Nat → Nat × Nat
 | 0 => (0, 0)
 | i + 1 => if (lng f i).2 < f i then (i, f i) else lng f i
theorem lng_ok (f : Nat → Nat) : ∀ n, Lg n f (lng f n).1 (lng f n).2
 | 0 => ⟨fun i hi => by omega, .inl ⟨rfl, rfl⟩⟩
 | n + 1 => by
  obtain ⟨a, b⟩ := lng_ok f n
  unfold lng
  by_cases c : (lng f n).2 < f n
  ·rw [if_pos c]
   refine ⟨fun i hi => ?_, .inr ⟨by show 0 < f n; omega, by show n < n + 1; omega, rfl, fun i hi => ?_⟩⟩
   ·by_cases e : i = n
    ·subst e; exact Nat.le_refl _
    ·have := a i (by omega)
     show f i ≤ f n
     omega
   ·have := a i hi
    show f i < f n
    omega
  ·rw [if_neg c]
   refine ⟨fun i hi => ?_, ?_⟩
   ·by_cases e : i = n
    ·subst e; omega
    ·exact a i (by omega)
   ·rcases b with h | ⟨h1, h2, h3, h4⟩
    ·exact .inl h
    ·exact .inr ⟨h1, by omega, h3, h4⟩
theorem Lg_mx {a m : Nat} (h : Lg s.length (fun i => cml (s.drop i) p 0) a m) : Mx s p m := by
 obtain ⟨b, c⟩ := h
 refine ⟨b, ?_⟩
 rcases c with ⟨c1, _⟩ | ⟨_, c2, c3, _⟩
 ·exact .inl c1
 ·exact .inr ⟨a, c2, c3⟩
theorem cml_take {a m : Nat} (hm : m ≤ p.length) : cml (s.drop a) (p.take m) 0 = min (cml (s.drop a) p 0) m := by
 have hf := cml_fits s p a
 have hl : (p.take m).length = m := by rw [List.length_take]; omega
 have hs := cml_parts s p a
 have ht : ∀ q, q < m → ch (p.take m) q = ch p q := fun q hq => by rw [ch_take, if_pos hq]
 refine cml_is _ (by rw [List.length_drop]; omega) (by omega) (fun q hq => ?_) (fun z => ?_)
 ·rw [ch_drop, ht q (by omega)]
  exact (cml_agree (s := s) (p := p) (a := a) (by omega)).2.2
 ·rw [List.length_drop, hl] at z
  have e : min (cml (s.drop a) p 0) m = cml (s.drop a) p 0 := by omega
  rw [e] at z
  rw [ch_drop, ht _ (by omega)] at z
  exact hs ⟨by omega, by omega, z.2.2⟩
end
section
variable {s p l : List Int}
attribute [local irreducible] cv fr tov rk3 loc2 ch rank
def lgs (s p : List Int) (n : Nat) : Nat × Nat := lng (fun i => cml (s.drop i) p 0) n
theorem lng15_l1 (hs : s.length ≤ 16777216) (hp : p.length ≤ 140737488351232) {a i m : Nat} (hi : i < s.length) (R : Int × Int) (next : ∃ K, ∀ k, K ≤ k → sapperref15_longest.l0 k s p ((lgs s p (i + 1)).1 : Int) ((lgs s p (i + 1)).2 : Int) (s.length : Int) ((i + 1 : Nat) : Int) = some R) (d : Nat) : ∀ q, cml (s.drop i) p 0 - q = d → q ≤ cml (s.drop i) p 0 → ∃ K, ∀ k, K ≤ k → sapperref15_longest.l1 k s p ((lgs s p i).1 : Int) ((lgs s p i).2 : Int) (i : Int) (q : Int) (s.length : Int) (i : Int) = some R := by
 have hf := cml_fits s p i
 have e : lgs s p (i + 1) = if (lgs s p i).2 < cml (s.drop i) p 0 then (i, cml (s.drop i) p 0) else lgs s p i := rfl
 induction d with
 | zero =>
  intro q hd hq
  have hqe : q = cml (s.drop i) p 0 := by omega
  have hst := cml_parts s p i
  obtain ⟨K, next⟩ := next
  rw [e, ← hqe] at next
  rw [← hqe] at hst hf
  have fin : ∀ k, K ≤ k → (if (q : Int) > ((lgs s p i).2 : Int) then (sapperref15_longest.l0 k s p (i : Int) (q : Int) (s.length : Int) (wrap64 ((i : Int) + 1))) else (sapperref15_longest.l0 k s p ((lgs s p i).1 : Int) ((lgs s p i).2 : Int) (s.length : Int) (wrap64 ((i : Int) + 1)))) = some R := fun k hk => by
   rw [wp (x := (i : Int) + 1) (y := ((i + 1 : Nat) : Int)) (by omega) (by omega) (by omega)]
   have h := next k hk
   by_cases c : (lgs s p i).2 < q
   ·rw [if_pos c] at h
    rw [if_pos (by omega)]
    exact h
   ·rw [if_neg c] at h
    rw [if_neg (by omega)]
    exact h
  refine ⟨K + 1, fun k hk => ?_⟩
  obtain ⟨k, rfl⟩ : ∃ k', k = k' + 1 := ⟨k - 1, by omega⟩
  rw [sapperref15_longest.l1]
  by_cases c1 : q < p.length
  ·rw [if_pos (by omega), wp (x := (i : Int) + (q : Int)) (y := ((i + q : Nat) : Int)) (by omega) (by omega) (by omega)]
   by_cases c2 : i + q < s.length
   ·rw [if_pos (by omega), if_pos (by omega), if_pos (by omega), rd_nat, rd_nat, if_neg (fun z => hst ⟨c2, c1, z⟩)]
    exact fin k (by omega)
   ·rw [if_neg (by omega)]
    exact fin k (by omega)
  ·rw [if_neg (by omega)]
   exact fin k (by omega)
 | succ d ih =>
  intro q hd hq
  obtain ⟨K, h⟩ := ih (q + 1) (by omega) (by omega)
  have ha := cml_agree (s := s) (p := p) (a := i) (q := q) (by omega)
  refine ⟨K + 1, fun k hk => ?_⟩
  obtain ⟨k, rfl⟩ : ∃ k', k = k' + 1 := ⟨k - 1, by omega⟩
  rw [sapperref15_longest.l1, if_pos (by omega), wp (x := (i : Int) + (q : Int)) (y := ((i + q : Nat) : Int)) (by omega) (by omega) (by omega), if_pos (by omega), if_pos (by omega), if_pos (by omega), rd_nat, rd_nat, if_pos ha.2.2, wp (x := (q : Int) + 1) (y := ((q + 1 : Nat) : Int)) (by omega) (by omega) (by omega)]
  exact h k (by omega)
theorem lng15_l0 (hs : s.length ≤ 16777216) (hp : p.length ≤ 140737488351232) (d : Nat) : ∀ i, s.length - i = d → i ≤ s.length → ∃ K, ∀ k, K ≤ k → sapperref15_longest.l0 k s p ((lgs s p i).1 : Int) ((lgs s p i).2 : Int) (s.length : Int) (i : Int) = some (((lgs s p s.length).1 : Int), ((lgs s p s.length).2 : Int)) := by
 induction d with
 | zero =>
  intro i hd hi
  have : i = s.length := by omega
  subst this
  refine ⟨1, fun k hk => ?_⟩
  obtain ⟨k, rfl⟩ : ∃ k', k = k' + 1 := ⟨k - 1, by omega⟩
  rw [sapperref15_longest.l0, if_neg (by omega)]
 | succ d ih =>
  intro i hd hi
  obtain ⟨K, h⟩ := lng15_l1 hs hp (a := 0) (i := i) (m := 0) (by omega) _ (ih (i + 1) (by omega) (by omega)) (cml (s.drop i) p 0) 0 (by omega) (by omega)
  refine ⟨K + 1, fun k hk => ?_⟩
  obtain ⟨k, rfl⟩ : ∃ k', k = k' + 1 := ⟨k - 1, by omega⟩
  rw [sapperref15_longest.l0, if_pos (by omega)]
  exact h k (by omega)
theorem refLongest_ok (hs : s.length ≤ 16777216) (hp : p.length ≤ 140737488351232) : ∃ K, ∀ k, K ≤ k → sapperref15_longest.f k s p = some (((lgs s p s.length).1 : Int), ((lgs s p s.length).2 : Int)) := by
 obtain ⟨K, h⟩ := lng15_l0 hs hp s.length 0 (by omega) (by omega)
 exact ⟨K, fun k hk => h k hk⟩
theorem lgs_fit (s p : List Int) : (lgs s p s.length).2 ≤ p.length := Mx_fit (Lg_mx (lng_ok _ _))
end
section
variable {s p : List Int} {x : S48}
theorem Data_f (hs : s.length ≤ 16777216) (hx : IsIx s x) : suffix_Index_Data.f [x] = some s := by
 unfold suffix_Index_Data.f
 rw [Len_f hx, Option.bind_some, if_pos (by omega), if_pos (by omega), Option.bind_some, is_f hx.1, Option.bind_some, if_pos rfl, if_pos (by simp), show rd_T48 [x] 0 = x from rfl, hx.2.1]
 unfold copy_u8.f
 rw [Option.bind_some]
 dsimp only
 rw [Int.toNat_natCast, cpy_all _ _ (by simp)]
end
def cnt (b : Nat → Bool) : Nat → Nat
 | 0 => 0
 | n + 1 => cnt b n + (if b n = true then 1 else 0)
theorem cnt_le (b : Nat → Bool) : ∀ n, cnt b n ≤ n
 | 0 => Nat.le_refl _
 | n + 1 => by
  have := cnt_le b n
  unfold cnt
  split <;> omega
def bo (b : Nat → Bool) : Nat → Nat × Int
 | 0 => (0, 0)
 | n + 1 => if 2 * (cnt b (n + 1) : Int) - ((n + 1 : Nat) : Int) > (bo b n).2 then (n + 1, 2 * (cnt b (n + 1) : Int) - ((n + 1 : Nat) : Int)) else bo b n
theorem bo_le (b : Nat → Bool) : ∀ n, (bo b n).1 ≤ n ∧ 0 ≤ (bo b n).2 ∧ (bo b n).2 ≤ n
 | 0 => ⟨Nat.le_refl _, Int.le_refl _, Int.le_refl _⟩
 | n + 1 => by
  obtain ⟨h1, h2, h3⟩ := bo_le b n
  have := cnt_le b (n + 1)
  unfold bo
  split
  ·exact ⟨Nat.le_refl _, by dsimp only; omega, by dsimp only; omega⟩
  ·exact ⟨by omega, h2, by omega⟩
theorem bst_go {t : Int → Option Bool} {b : Nat → Bool} {m : Nat} (hm : m ≤ 140737488351300) (ht : ∀ n, n < m → t (n : Int) = some (b n)) (d : Nat) : ∀ n, m - n = d → n ≤ m → ∀ k, d < k → bst t k (m : Int) (cnt b n : Int) ((bo b n).1 : Int) (bo b n).2 (n : Int) = some ((bo b m).1 : Int) := by
 induction d with
 | zero =>
  intro n hd hn k hk
  have : n = m := by omega
  subst this
  obtain ⟨k, rfl⟩ : ∃ k', k = k' + 1 := ⟨k - 1, by omega⟩
  rw [bst, if_neg (by omega)]
 | succ d ih =>
  intro n hd hn k hk
  obtain ⟨k, rfl⟩ : ∃ k', k = k' + 1 := ⟨k - 1, by omega⟩
  have next := ih (n + 1) (by omega) (by omega) k (by omega)
  have hc := cnt_le b n
  have hb := bo_le b n
  rw [bst, if_pos (by omega), ht n (by omega), Option.bind_some]
  have ec : cnt b (n + 1) = cnt b n + (if b n = true then 1 else 0) := rfl
  have eb : bo b (n + 1) = if 2 * (cnt b (n + 1) : Int) - ((n + 1 : Nat) : Int) > (bo b n).2 then (n + 1, 2 * (cnt b (n + 1) : Int) - ((n + 1 : Nat) : Int)) else bo b n := rfl
  rw [wp (x := (n : Int) + 1) (y := ((n + 1 : Nat) : Int)) (by omega) (by omega) (by omega)]
  by_cases hbn : b n = true
  ·rw [if_pos hbn] at ec
   rw [if_pos hbn, wp (x := (cnt b n : Int) + 1) (y := (cnt b (n + 1) : Int)) (by omega) (by omega) (by omega), wp (x := 2 * (cnt b (n + 1) : Int)) (y := 2 * (cnt b (n + 1) : Int)) rfl (by omega) (by omega), wp (x := 2 * (cnt b (n + 1) : Int) - ((n + 1 : Nat) : Int)) (y := 2 * (cnt b (n + 1) : Int) - ((n + 1 : Nat) : Int)) rfl (by omega) (by omega)]
   by_cases c : 2 * (cnt b (n + 1) : Int) - ((n + 1 : Nat) : Int) > (bo b n).2
   ·rw [if_pos c] at eb
    rw [if_pos c]
    rw [eb] at next
    exact next
   ·rw [if_neg c] at eb
    rw [if_neg c]
    rw [eb] at next
    exact next
  ·rw [if_neg hbn] at ec
   have ec : cnt b (n + 1) = cnt b n := ec
   rw [if_neg hbn, wp (x := 2 * (cnt b n : Int)) (y := 2 * (cnt b (n + 1) : Int)) (by omega) (by omega) (by omega), wp (x := 2 * (cnt b (n + 1) : Int) - ((n + 1 : Nat) : Int)) (y := 2 * (cnt b (n + 1) : Int) - ((n + 1 : Nat) : Int)) rfl (by omega) (by omega)]
   rw [← ec]
   by_cases c : 2 * (cnt b (n + 1) : Int) - ((n + 1 : Nat) : Int) > (bo b n).2
   ·rw [if_pos c] at eb
    rw [if_pos c]
    rw [eb] at next
    exact next
   ·rw [if_neg c] at eb
    rw [if_neg c]
    rw [eb] at next
    exact next
theorem bst_ok {t : Int → Option Bool} {b : Nat → Bool} {m : Nat} (hm : m ≤ 140737488351300) (ht : ∀ n, n < m → t (n : Int) = some (b n)) {k : Nat} (hk : m < k) : bst t k (m : Int) 0 0 0 0 = some ((bo b m).1 : Int) :=
 bst_go hm ht m 0 (by omega) (by omega) k hk
theorem likeAt_nat {a b : List Int} {i j : Nat} (h1 : i < a.length) (h2 : j < b.length) : likeAt a (i : Int) b (j : Int) = some (ch a i == ch b j) := by
 unfold likeAt
 rw [if_pos (by omega), if_pos (by omega), if_pos (by omega), if_pos (by omega), rd_nat, rd_nat]
section
variable {o n : List Int} (ho : o.length ≤ 140737488351300) (hn : n.length ≤ 140737488351300)
set_option linter.unusedSectionVars false
include ho hn
def fwb (o : List Int) (pos : Nat) (n : List Int) (fr : Nat) (i : Nat) : Bool := ch o (pos + i) == ch n (fr + i)
def bwb (o : List Int) (pos : Nat) (n : List Int) (to_ : Nat) (i : Nat) : Bool := ch o (pos - 1 - i) == ch n (to_ - 1 - i)
def fwd (o : List Int) (pos : Nat) (n : List Int) (fr to_ : Nat) : Nat := (bo (fwb o pos n fr) (min (to_ - fr) (o.length - pos))).1
def bwd (o : List Int) (pos : Nat) (n : List Int) (fr to_ : Nat) : Nat := (bo (bwb o pos n to_) (min (to_ - fr) pos)).1
theorem Forward_in {pos fr to_ : Nat} (h1 : pos ≤ o.length) (h2 : fr ≤ to_) (h3 : to_ ≤ n.length) : scan_Forward.f o (pos : Int) n (fr : Int) (to_ : Int) = some (fwd o pos n fr to_ : Int) := by
 unfold scan_Forward.f scan_right.f
 rw [if_pos (by omega), if_pos (by omega), if_pos (by omega), if_pos (by omega), decide_eq_true (by omega), Option.bind_some, if_pos rfl, wp (x := (to_ : Int) - (fr : Int)) (y := ((to_ - fr : Nat) : Int)) (by omega) (by omega) (by omega), wp (x := (o.length : Int) - (pos : Int)) (y := ((o.length - pos : Nat) : Int)) (by omega) (by omega) (by omega)]
 have hmn : mn ((to_ - fr : Nat) : Int) ((o.length - pos : Nat) : Int) = ((min (to_ - fr) (o.length - pos) : Nat) : Int) := by unfold mn; split <;> omega
 rw [hmn]
 refine bst_ok (b := fwb o pos n fr) (by omega) (fun i hi => ?_) (by omega)
 unfold fwd1
 rw [wp (x := (pos : Int) + (i : Int)) (y := ((pos + i : Nat) : Int)) (by omega) (by omega) (by omega), wp (x := (fr : Int) + (i : Int)) (y := ((fr + i : Nat) : Int)) (by omega) (by omega) (by omega), likeAt_nat (by omega) (by omega)]
 rfl
theorem Backward_in {pos fr to_ : Nat} (h1 : pos ≤ o.length) (h2 : fr ≤ to_) (h3 : to_ ≤ n.length) : scan_Backward.f o (pos : Int) n (fr : Int) (to_ : Int) = some (bwd o pos n fr to_ : Int) := by
 unfold scan_Backward.f scan_right.f
 rw [if_pos (by omega), if_pos (by omega), if_pos (by omega), if_pos (by omega), decide_eq_true (by omega), Option.bind_some, if_pos rfl, wp (x := (to_ : Int) - (fr : Int)) (y := ((to_ - fr : Nat) : Int)) (by omega) (by omega) (by omega)]
 have hmn : mn ((to_ - fr : Nat) : Int) (pos : Int) = ((min (to_ - fr) pos : Nat) : Int) := by unfold mn; split <;> omega
 rw [hmn]
 refine bst_ok (b := bwb o pos n to_) (by omega) (fun i hi => ?_) (by omega)
 unfold bwd1
 rw [wp (x := (pos : Int) - 1) (y := (pos : Int) - 1) rfl (by omega) (by omega), wp (x := (to_ : Int) - 1) (y := (to_ : Int) - 1) rfl (by omega) (by omega), wp (x := (pos : Int) - 1 - (i : Int)) (y := ((pos - 1 - i : Nat) : Int)) (by omega) (by omega) (by omega), wp (x := (to_ : Int) - 1 - (i : Int)) (y := ((to_ - 1 - i : Nat) : Int)) (by omega) (by omega) (by omega), likeAt_nat (by omega) (by omega)]
 rfl
theorem fwd_le (pos fr to_ : Nat) : fwd o pos n fr to_ ≤ min (to_ - fr) (o.length - pos) := (bo_le _ _).1
theorem bwd_le (pos fr to_ : Nat) : bwd o pos n fr to_ ≤ min (to_ - fr) pos := (bo_le _ _).1
end
def sco (o : List Int) (a1 a2 : Nat) (n : List Int) (a4 : Nat) (i : Nat) : Int := (cnt (fwb o a1 n a4) i : Int) - (cnt (fwb o a2 n a4) i : Int)
def sp (f : Nat → Int) : Nat → Nat × Int
 | 0 => (0, 0)
 | n + 1 => if f (n + 1) > (sp f n).2 then (n + 1, f (n + 1)) else sp f n
theorem sp_le (f : Nat → Int) : ∀ n, (sp f n).1 ≤ n
 | 0 => Nat.le_refl _
 | n + 1 => by
  have := sp_le f n
  unfold sp
  split
  ·exact Nat.le_refl _
  ·omega
section
variable {o n : List Int} (ho : o.length ≤ 140737488351300) (hn : n.length ≤ 140737488351300) {a1 a2 a4 m : Nat} (h1 : a1 + m ≤ o.length) (h2 : a2 + m ≤ o.length) (h4 : a4 + m ≤ n.length)
include ho hn h1 h2 h4
theorem splt_go (d : Nat) : ∀ i, m - i = d → i ≤ m → ∀ k, d < k → splt k o (a1 : Int) (a2 : Int) n (a4 : Int) (m : Int) ((sp (sco o a1 a2 n a4) i).1 : Int) (sp (sco o a1 a2 n a4) i).2 (sco o a1 a2 n a4 i) (i : Int) = some ((sp (sco o a1 a2 n a4) m).1 : Int) := by
 induction d with
 | zero =>
  intro i hd hi k hk
  have : i = m := by omega
  subst this
  obtain ⟨k, rfl⟩ : ∃ k', k = k' + 1 := ⟨k - 1, by omega⟩
  rw [splt, if_neg (by omega)]
 | succ d ih =>
  intro i hd hi k hk
  obtain ⟨k, rfl⟩ : ∃ k', k = k' + 1 := ⟨k - 1, by omega⟩
  have next := ih (i + 1) (by omega) (by omega) k (by omega)
  rw [splt, if_pos (by omega), wp (x := (a1 : Int) + (i : Int)) (y := ((a1 + i : Nat) : Int)) (by omega) (by omega) (by omega), wp (x := (a4 : Int) + (i : Int)) (y := ((a4 + i : Nat) : Int)) (by omega) (by omega) (by omega), wp (x := (a2 : Int) + (i : Int)) (y := ((a2 + i : Nat) : Int)) (by omega) (by omega) (by omega), likeAt_nat (by omega) (by omega), Option.bind_some, likeAt_nat (by omega) (by omega), Option.bind_some]
  have hc1 := cnt_le (fwb o a1 n a4) i
  have hc2 := cnt_le (fwb o a2 n a4) i
  have e : sc1 (ch o (a1 + i) == ch n (a4 + i)) (ch o (a2 + i) == ch n (a4 + i)) (sco o a1 a2 n a4 i) = sco o a1 a2 n a4 (i + 1) := by
   have e1 : cnt (fwb o a1 n a4) (i + 1) = cnt (fwb o a1 n a4) i + (if fwb o a1 n a4 i = true then 1 else 0) := rfl
   have e2 : cnt (fwb o a2 n a4) (i + 1) = cnt (fwb o a2 n a4) i + (if fwb o a2 n a4 i = true then 1 else 0) := rfl
   show sc1 (fwb o a1 n a4 i) (fwb o a2 n a4 i) _ = _
   unfold sc1 sco
   rw [e1, e2]
   clear e1 e2
   generalize cnt (fwb o a1 n a4) i = x at hc1 ⊢
   generalize cnt (fwb o a2 n a4) i = y at hc2 ⊢
   generalize fwb o a1 n a4 i = b1
   generalize fwb o a2 n a4 i = b2
   cases b1 <;> cases b2 <;> simp only [if_true, if_false, Bool.false_eq_true]
   ·omega
   ·exact wp (by omega) (by omega) (by omega)
   ·exact wp (by omega) (by omega) (by omega)
   ·rw [wp (x := (x : Int) - (y : Int) + 1) (y := (x : Int) - (y : Int) + 1) rfl (by omega) (by omega)]
    exact wp (by omega) (by omega) (by omega)
  rw [e, wp (x := (i : Int) + 1) (y := ((i + 1 : Nat) : Int)) (by omega) (by omega) (by omega)]
  have eb : sp (sco o a1 a2 n a4) (i + 1) = if sco o a1 a2 n a4 (i + 1) > (sp (sco o a1 a2 n a4) i).2 then (i + 1, sco o a1 a2 n a4 (i + 1)) else sp (sco o a1 a2 n a4) i := rfl
  by_cases c : sco o a1 a2 n a4 (i + 1) > (sp (sco o a1 a2 n a4) i).2
  ·rw [if_pos c] at eb
   rw [if_pos c]
   rw [eb] at next
   exact next
  ·rw [if_neg c] at eb
   rw [if_neg c]
   rw [eb] at next
   exact next
theorem Split_in : scan_Split.f o (a1 : Int) (a2 : Int) n (a4 : Int) (m : Int) = some ((sp (sco o a1 a2 n a4) m).1 : Int) := by
 have e : ∀ (l : List Int) (a : Nat), l.length ≤ 140737488351300 → a + m ≤ l.length → spl1 l (a : Int) (m : Int) = true := by
  intro l a hl ha
  unfold spl1
  rw [decide_eq_true (by omega), decide_eq_true (by omega), wp (x := (l.length : Int) - (a : Int)) (y := ((l.length - a : Nat) : Int)) (by omega) (by omega) (by omega), decide_eq_true (by omega)]
  rfl
 unfold scan_Split.f
 rw [if_neg (by omega), e o a1 ho h1, if_pos rfl, e o a2 ho h2, if_pos rfl, e n a4 hn h4, if_pos rfl]
 exact splt_go ho hn h1 h2 h4 m 0 (by omega) (by omega) _ (by omega)
end
section
variable {s p : List Int} {x : S48} {sa : List Int}
attribute [local irreducible] cv fr tov rk3 loc2 ch rank
def lss (s p : List Int) (i : Nat) : Bool := decide (sgn (s.drop i) p < 0)
def leq (s p : List Int) (i : Nat) : Bool := decide (sgn (s.drop i) p ≤ 0)
theorem sgn_ranks (h : IsSA s sa) {a b : Nat} (hab : a ≤ b) (hb : b < s.length) : sgn (s.drop (P sa a)) p ≤ sgn (s.drop (P sa b)) p := by
 by_cases e : a = b
 ·rw [e]; exact Int.le_refl _
 ·obtain ⟨_, a1, a2⟩ := sa_at h (show a < s.length by omega)
  obtain ⟨_, b1, b2⟩ := sa_at h hb
  exact sgn_mono ((rank_iff a1 b1).1 (by omega))
theorem cn_turn {n : Nat} {T : Nat → Bool} (m : ∀ a b, a ≤ b → b < n → T b = true → T a = true) {r : Nat} (hr : r < n) : T r = true ↔ r < cn n T := by
 constructor
 ·intro h
  have h1 : cn (r + 1) T = r + 1 := cn_true fun j hj => m j r (by omega) hr h
  have h2 := cn_up (P := T) (show r + 1 ≤ n by omega)
  omega
 ·intro h
  by_cases hT : T r = true
  ·exact hT
  ·have h1 : cn n T ≤ cn n (fun j => decide (j < r)) := cn_mono fun j hj hj2 => by
    rw [decide_eq_true_eq]
    rcases Nat.lt_or_ge j r with g | g
    ·exact g
    ·exact absurd (m r j g hj hj2) hT
   have h2 : cn n (fun j => decide (j < r)) = r := cn_below (by omega) (fun q hq => by rw [decide_eq_true_eq]; exact hq) (fun q h1 h2 => by rw [decide_eq_false_iff_not]; omega)
   omega
theorem range_begins (h : IsSA s sa) (p : List Int) {r : Nat} (hr : r < s.length) : (cn s.length (lss s p) ≤ r ∧ r < cn s.length (leq s p)) ↔ cml (s.drop (P sa r)) p 0 = p.length := by
 have e1 := cn_rank h (lss s p)
 have e2 := cn_rank h (leq s p)
 have m1 : ∀ a b, a ≤ b → b < s.length → lss s p (P sa b) = true → lss s p (P sa a) = true := fun a b hab hb ht => by
  have := sgn_ranks (p := p) h hab hb
  unfold lss at ht ⊢
  simp only [decide_eq_true_eq] at ht ⊢
  omega
 have m2 : ∀ a b, a ≤ b → b < s.length → leq s p (P sa b) = true → leq s p (P sa a) = true := fun a b hab hb ht => by
  have := sgn_ranks (p := p) h hab hb
  unfold leq at ht ⊢
  simp only [decide_eq_true_eq] at ht ⊢
  omega
 have k1 := cn_turn (T := fun r => lss s p (P sa r)) m1 hr
 have k2 := cn_turn (T := fun r => leq s p (P sa r)) m2 hr
 rw [e1] at k1
 rw [e2] at k2
 have key : (lss s p (P sa r) = false ∧ leq s p (P sa r) = true) ↔ cml (s.drop (P sa r)) p 0 = p.length := by
  unfold lss leq
  simp only [decide_eq_false_iff_not, decide_eq_true_eq]
  constructor
  ·intro ⟨a, b⟩
   have : sgn (s.drop (P sa r)) p = 0 := by omega
   unfold sgn at this
   split at this
   ·assumption
   ·split at this
    ·exact absurd this (by decide)
    ·split at this <;> exact absurd this (by decide)
  ·intro e
   have : sgn (s.drop (P sa r)) p = 0 := by unfold sgn; rw [if_pos e]
   omega
 rw [← key]
 constructor
 ·intro ⟨a, b⟩
  exact ⟨by rw [Bool.eq_false_iff]; exact fun z => by have := k1.1 z; omega, k2.2 b⟩
 ·intro ⟨a, b⟩
  refine ⟨?_, k2.1 b⟩
  rcases Nat.lt_or_ge r (cn s.length (lss s p)) with g | g
  ·have := k1.2 g; rw [a] at this; exact absurd this (by decide)
  ·exact g
theorem bounds_ok (hs : s.length ≤ 16777216) (hx : IsIx s x) (p : List Int) : ∃ K, ∀ k, K ≤ k → find_bounds.f k [x] p = some ((cn s.length (lss s p) : Int), (cn s.length (leq s p) : Int)) := by
 have hsa := hx.2.2.1
 obtain ⟨lo, _, g2, g3, g4, g5⟩ := srch_ok (x := [x]) (p := p) (t := fun c => decide (c ≥ 0)) (n := s.length) (K0 := s.length + 4) (c := fun r => sgn (s.drop (P x.f2 r)) p) (m := fun r => (cml (s.drop (P x.f2 r)) p 0 : Int)) hs (fun r hr k hk => compare_f hs hx hr hk) (fun a b hab hb ht => by
  have := sgn_ranks (p := p) hsa hab hb
  simp only [decide_eq_true_eq] at ht ⊢
  omega) s.length 0 s.length (by omega) (by omega) (by omega)
 obtain ⟨hi, k1, k2, k3, k4, k5⟩ := srch_ok (x := [x]) (p := p) (t := fun c => decide (c > 0)) (n := s.length) (K0 := s.length + 4) (c := fun r => sgn (s.drop (P x.f2 r)) p) (m := fun r => (cml (s.drop (P x.f2 r)) p 0 : Int)) hs (fun r hr k hk => compare_f hs hx hr hk) (fun a b hab hb ht => by
  have := sgn_ranks (p := p) hsa hab hb
  simp only [decide_eq_true_eq] at ht ⊢
  omega) s.length lo s.length (by omega) (by omega) (by omega)
 have e1 : cn s.length (lss s p) = lo := by
  rw [← cn_rank hsa (lss s p)]
  refine cn_below g2 (fun q hq => ?_) (fun q h1 h2 => ?_)
  ·have := g3 q (by omega) hq
   unfold lss
   simp only [decide_eq_false_iff_not, decide_eq_true_eq] at this ⊢
   omega
  ·have := g4 q h1 h2
   unfold lss
   simp only [decide_eq_false_iff_not, decide_eq_true_eq] at this ⊢
   omega
 have e2 : cn s.length (leq s p) = hi := by
  rw [← cn_rank hsa (leq s p)]
  refine cn_below k2 (fun q hq => ?_) (fun q h1 h2 => ?_)
  ·unfold leq
   by_cases hq2 : q < lo
   ·have := g3 q (by omega) hq2
    simp only [decide_eq_false_iff_not, decide_eq_true_eq] at this ⊢
    omega
   ·have := k3 q (by omega) hq
    simp only [decide_eq_false_iff_not, decide_eq_true_eq] at this ⊢
    omega
  ·have := k4 q h1 h2
   unfold leq
   simp only [decide_eq_false_iff_not, decide_eq_true_eq] at this ⊢
   omega
 refine ⟨2 * s.length + 6, fun k hk => ?_⟩
 unfold find_bounds.f
 have := g5 k (by omega)
 rw [show ((0 : Nat) : Int) = 0 from rfl] at this
 rw [Len_f hx, Option.bind_some, this, Option.bind_some, k5 k (by omega), Option.bind_some, e1, e2]
theorem Range_ok (hs : s.length ≤ 16777216) (hx : IsIx s x) (p : List Int) : ∃ K, ∀ k, K ≤ k → find_Range.f k [x] p = some ((cn s.length (lss s p) : Int), (cn s.length (leq s p) : Int), 0) := by
 obtain ⟨K, h⟩ := bounds_ok hs hx p
 refine ⟨K + 2, fun k hk => ?_⟩
 unfold find_Range.f
 rw [made_f hx (by omega), Option.bind_some, if_pos rfl, h k (by omega)]; rfl
end
section
variable {s p : List Int} {x : S48} {sa : List Int}
attribute [local irreducible] cv fr tov rk3 loc2 ch rank
theorem mn_nat (a b : Nat) : mn (a : Int) (b : Int) = ((min a b : Nat) : Int) := by unfold mn; split <;> omega
def lst (sa : List Int) (b : Nat) (lo : Nat) : Nat → Nat
 | 0 => b
 | d + 1 => min (lst sa b lo d) (P sa (lo + d))
theorem Longest_l0 (hs : s.length ≤ 16777216) (hx : IsIx s x) (m lo hi : Nat) (hh : hi ≤ s.length) (d : Nat) : ∀ q, hi - (lo + q) = d → lo + q ≤ hi → ∀ k, find_Longest.l0 (k + d + 3) [x] (m : Int) (hi : Int) (lst x.f2 s.length lo q : Int) ((lo + q : Nat) : Int) = some ((lst x.f2 s.length lo (hi - lo) : Int), (m : Int), 0) := by
 induction d with
 | zero =>
  intro q hd hq k
  rw [show k + 0 + 3 = k + 2 + 1 by omega, find_Longest.l0, if_neg (by omega), show hi - lo = q by omega]
 | succ d ih =>
  intro q hd hq k
  have next := ih (q + 1) (by omega) (by omega) k
  rw [show k + (d + 1) + 3 = k + d + 3 + 1 by omega, find_Longest.l0, if_pos (by omega), At_in hx (by omega) (by omega), Option.bind_some]
  dsimp only
  rw [mn_nat, wp (x := ((lo + q : Nat) : Int) + 1) (y := ((lo + (q + 1) : Nat) : Int)) (by omega) (by omega) (by omega)]
  exact next
theorem lst_spec (sa : List Int) (b lo d : Nat) : (∀ q, q < d → lst sa b lo d ≤ P sa (lo + q)) ∧ (lst sa b lo d = b ∨ ∃ q, q < d ∧ lst sa b lo d = P sa (lo + q)) := by
 induction d with
 | zero => exact ⟨fun q hq => by omega, .inl rfl⟩
 | succ d ih =>
  obtain ⟨h1, h2⟩ := ih
  have e : lst sa b lo (d + 1) = min (lst sa b lo d) (P sa (lo + d)) := rfl
  rw [e]
  refine ⟨fun q hq => ?_, ?_⟩
  ·by_cases c : q = d
   ·rw [c]; exact Nat.min_le_right _ _
   ·exact Nat.le_trans (Nat.min_le_left _ _) (h1 q (by omega))
  ·rcases Nat.le_total (lst sa b lo d) (P sa (lo + d)) with g | g
   ·rw [Nat.min_eq_left g]
    rcases h2 with h2 | ⟨q, hq, h2⟩
    ·exact .inl h2
    ·exact .inr ⟨q, by omega, h2⟩
   ·rw [Nat.min_eq_right g]
    exact .inr ⟨d, by omega, rfl⟩
theorem Longest_ok (hs : s.length ≤ 16777216) (hx : IsIx s x) (p : List Int) : ∃ K, ∀ k, K ≤ k → find_Longest.f k [x] p = some (((lgs s p s.length).1 : Int), ((lgs s p s.length).2 : Int), 0) := by
 have hsa := hx.2.2.1
 obtain ⟨m, hm, g⟩ := most_ok hs hx p
 have hl : Lg s.length (fun i => cml (s.drop i) p 0) (lgs s p s.length).1 (lgs s p s.length).2 := lng_ok _ _
 have hmm : m = (lgs s p s.length).2 := Mx_one hm (Lg_mx hl)
 have hfit := Mx_fit hm
 by_cases c : m = 0
 ·have e0 : (lgs s p s.length).1 = 0 ∧ (lgs s p s.length).2 = 0 := by
   obtain ⟨_, h⟩ := hl
   rcases h with h | h <;> omega
  refine ⟨2 * s.length + 10, fun k hk => ?_⟩
  unfold find_Longest.f
  rw [made_f hx (by omega), Option.bind_some, if_pos rfl, g k hk, Option.bind_some, if_pos (by omega), e0.1, e0.2]; rfl
 ·obtain ⟨K, hK⟩ := bounds_ok hs hx (p.take m)
  have hle : cn s.length (leq s (p.take m)) ≤ s.length := cn_le _
  have hll : cn s.length (lss s (p.take m)) ≤ cn s.length (leq s (p.take m)) := cn_mono (fun i hi h => by
   unfold lss at h; unfold leq
   simp only [decide_eq_true_eq] at h ⊢
   omega)
  have htl : (p.take m).length = m := by rw [List.length_take]; omega
  generalize hlo : cn s.length (lss s (p.take m)) = lo at *
  generalize hhi : cn s.length (leq s (p.take m)) = hi at *
  have hb := fun {r : Nat} (hr : r < s.length) => range_begins hsa (p.take m) hr
  rw [hlo, hhi, htl] at hb
  have hcm : ∀ i, cml (s.drop i) (p.take m) 0 = min (cml (s.drop i) p 0) m := fun i => cml_take hfit
  obtain ⟨q1, q2⟩ := lst_spec x.f2 s.length lo (hi - lo)
  have hex : ∃ i, i < s.length ∧ cml (s.drop i) p 0 = m := by
   rcases hm.2 with h | h
   ·exact absurd h c
   ·exact h
  have hin : ∀ i, i < s.length → cml (s.drop i) p 0 = m → lst x.f2 s.length lo (hi - lo) ≤ i := fun i hi' e => by
   obtain ⟨r, hr, rfl⟩ := rank_of_place hsa hi'
   have := (hb hr).2 (by rw [hcm, e, Nat.min_self])
   have := q1 (r - lo) (by omega)
   rw [show lo + (r - lo) = r by omega] at this
   exact this
  have hat : lst x.f2 s.length lo (hi - lo) < s.length ∧ cml (s.drop (lst x.f2 s.length lo (hi - lo))) p 0 = m := by
   rcases q2 with h | ⟨q, hq, h⟩
   ·obtain ⟨i, hi', e⟩ := hex
    have := hin i hi' e
    omega
   ·have h1 := (sa_at hsa (show lo + q < s.length by omega)).2.1
    have h2 := (hb (show lo + q < s.length by omega)).1 ⟨by omega, by omega⟩
    rw [hcm] at h2
    have h3 := hm.1 _ h1
    rw [h]
    exact ⟨h1, by omega⟩
  have hL : Lg s.length (fun i => cml (s.drop i) p 0) (lst x.f2 s.length lo (hi - lo)) m := by
   refine ⟨hm.1, .inr ⟨by omega, hat.1, hat.2, fun i hi' => ?_⟩⟩
   have h1 := hm.1 i (by omega)
   have h2 := hin i (by omega)
   show cml (s.drop i) p 0 < m
   rcases Nat.lt_or_ge (cml (s.drop i) p 0) m with g | g
   ·exact g
   ·have := h2 (by omega); omega
  obtain ⟨e1, e2⟩ := Lg_one hL hl
  refine ⟨K + 2 * s.length + 10, fun k hk => ?_⟩
  unfold find_Longest.f
  have h0 := Longest_l0 hs hx m lo hi hle (hi - lo) 0 (by omega) (by omega) (k - (hi - lo) - 3)
  rw [show k - (hi - lo) - 3 + (hi - lo) + 3 = k by omega, show ((lo + 0 : Nat) : Int) = (lo : Int) from rfl] at h0
  rw [made_f hx (by omega), Option.bind_some, if_pos rfl, g k (by omega), Option.bind_some, if_neg (by omega), if_pos (by omega), if_pos (by omega), Int.toNat_natCast, hK k (by omega), Option.bind_some, Len_f hx, Option.bind_some]
  dsimp only
  rw [← e1, ← e2]
  exact h0
end
def sbit (o n : List Int) (sh : Int) (i : Nat) : Bool := decide (0 ≤ (i : Int) + sh) && decide ((i : Int) + sh < (o.length : Int)) && (ch o ((i : Int) + sh).toNat == ch n i)
section
variable {o n : List Int} {sh : Int} (ho : o.length ≤ 16777216) (hn : n.length ≤ 16777216) (hsh : -16777216 ≤ sh ∧ sh ≤ 16777216)
set_option linter.unusedSectionVars false
attribute [local irreducible] cv fr tov rk3 loc2 ch rank
include ho hn hsh
theorem shf_ok {i : Nat} (hi : i < n.length) : shf o n sh (i : Int) = some (sbit o n sh i) := by
 unfold shf sbit
 rw [wp (x := (i : Int) + sh) (y := (i : Int) + sh) rfl (by omega) (by omega)]
 by_cases c1 : 0 ≤ (i : Int) + sh
 ·rw [if_pos c1, decide_eq_true c1]
  by_cases c2 : (i : Int) + sh < (o.length : Int)
  ·rw [if_pos c2, decide_eq_true c2]
   obtain ⟨j, hj⟩ := Int.eq_ofNat_of_zero_le c1
   rw [hj, Int.toNat_natCast, likeAt_nat (by omega) hi]
   rfl
  ·rw [if_neg c2, decide_eq_false c2]; rfl
 ·rw [if_neg (by omega), decide_eq_false c1]; rfl
theorem same15_ok {i : Nat} (hi : i < n.length) : sapperref15_same.f o (wrap64 ((i : Int) + sh)) n (i : Int) = some (sbit o n sh i) := by
 unfold sapperref15_same.f sbit
 rw [wp (x := (i : Int) + sh) (y := (i : Int) + sh) rfl (by omega) (by omega)]
 by_cases c1 : 0 ≤ (i : Int) + sh
 ·rw [if_pos c1, decide_eq_true c1]
  by_cases c2 : (i : Int) + sh < (o.length : Int)
  ·obtain ⟨j, hj⟩ := Int.eq_ofNat_of_zero_le c1
   rw [if_pos c2, decide_eq_true c2, if_pos c1, if_pos (by omega), if_pos (by omega), hj, Int.toNat_natCast, rd_nat, rd_nat]
   rfl
  ·rw [if_neg c2, decide_eq_false c2]; rfl
 ·rw [if_neg (by omega), decide_eq_false c1]; rfl
theorem lk1_ok {a nn : Nat} (he : a + nn ≤ n.length) {z : Int} (hz : -1000000000 ≤ z ∧ z ≤ 1000000000) (d : Nat) : ∀ m, (a + nn) - m = d → m ≤ n.length → ∀ k, d < k → lk1 k o n sh (a : Int) (nn : Int) (z + (cnt (sbit o n sh) m : Int)) (m : Int) = some (z + (cnt (sbit o n sh) (max m (a + nn)) : Int), ((max m (a + nn) : Nat) : Int)) := by
 induction d with
 | zero =>
  intro m hd hm k hk
  obtain ⟨k, rfl⟩ : ∃ k', k = k' + 1 := ⟨k - 1, by omega⟩
  rw [show max m (a + nn) = m by omega, lk1, wp (x := (a : Int) + (nn : Int)) (y := ((a + nn : Nat) : Int)) (by omega) (by omega) (by omega), if_neg (by omega)]
 | succ d ih =>
  intro m hd hm k hk
  obtain ⟨k, rfl⟩ : ∃ k', k = k' + 1 := ⟨k - 1, by omega⟩
  have next := ih (m + 1) (by omega) (by omega) k (by omega)
  have hc := cnt_le (sbit o n sh) m
  have ec : cnt (sbit o n sh) (m + 1) = cnt (sbit o n sh) m + (if sbit o n sh m = true then 1 else 0) := rfl
  rw [show max (m + 1) (a + nn) = max m (a + nn) by omega] at next
  rw [lk1, wp (x := (a : Int) + (nn : Int)) (y := ((a + nn : Nat) : Int)) (by omega) (by omega) (by omega), if_pos (by omega), shf_ok ho hn hsh (by omega), Option.bind_some, wp (x := (m : Int) + 1) (y := ((m + 1 : Nat) : Int)) (by omega) (by omega) (by omega)]
  by_cases c : sbit o n sh m = true
  ·rw [if_pos c] at ec
   rw [if_pos c, wp (x := z + (cnt (sbit o n sh) m : Int) + 1) (y := z + (cnt (sbit o n sh) (m + 1) : Int)) (by omega) (by omega) (by omega)]
   exact next
  ·rw [if_neg c] at ec
   rw [if_neg c, show cnt (sbit o n sh) m = cnt (sbit o n sh) (m + 1) from ec.symm]
   exact next
theorem stop_ref {a nn sc mk : Int} {l : List S38} {dn bs ps : Int} (k : Nat) : (if nn = sc then (if nn = 0 then (sapperref15_Steps.j3 k o n l dn bs sh a nn ps sc mk (decide (nn > (wrap64 (sc + 8))))) else (sapperref15_Steps.j3 k o n l dn bs sh a nn ps sc mk true)) else (sapperref15_Steps.j3 k o n l dn bs sh a nn ps sc mk (decide (nn > (wrap64 (sc + 8)))))) = sapperref15_Steps.j3 k o n l dn bs sh a nn ps sc mk (stopB nn sc) := by
 unfold stopB
 by_cases c1 : nn = sc
 ·rw [if_pos c1]
  by_cases c2 : nn = 0
  ·rw [if_pos c2]
   have e : (nn != 0) = false := bne_eq_false_iff_eq.mpr c2
   rw [e, Bool.and_false, Bool.false_or]
  ·rw [if_neg c2]
   have e1 : (nn == sc) = true := beq_iff_eq.mpr c1
   have e2 : (nn != 0) = true := bne_iff_ne.mpr c2
   rw [e1, e2]; rfl
 ·rw [if_neg c1]
  have e1 : (nn == sc) = false := beq_eq_false_iff_ne.mpr c1
  rw [e1, Bool.false_and, Bool.false_or]
theorem l2_ok {a nn : Nat} (he : a + nn ≤ n.length) {z : Int} (hz : -1000000000 ≤ z ∧ z ≤ 1000000000) {l : List S38} {dn bs ps : Int} {R : List S38 × Int} {M : Nat} (next : Ev (fun k => sapperref15_Steps.j3 k o n l dn bs sh (a : Int) (nn : Int) ps (z + (cnt (sbit o n sh) M : Int)) (M : Int) (stopB (nn : Int) (z + (cnt (sbit o n sh) M : Int)))) R) (d : Nat) : ∀ m, (a + nn) - m = d → m ≤ n.length → M = max m (a + nn) → Ev (fun k => sapperref15_Steps.l2 k o n l dn bs sh (a : Int) (nn : Int) ps (z + (cnt (sbit o n sh) m : Int)) (m : Int)) R := by
 induction d with
 | zero =>
  intro m hd hm hM
  obtain rfl : M = m := by omega
  obtain ⟨K, next⟩ := next
  refine ⟨K + 1, fun k hk => ?_⟩
  obtain ⟨k, rfl⟩ : ∃ k', k = k' + 1 := ⟨k - 1, by omega⟩
  dsimp only
  rw [sapperref15_Steps.l2, wp (x := (a : Int) + (nn : Int)) (y := ((a + nn : Nat) : Int)) (by omega) (by omega) (by omega), if_neg (by omega), stop_ref ho hn hsh]
  exact next k (by omega)
 | succ d ih =>
  intro m hd hm hM
  obtain ⟨K, h⟩ := ih (m + 1) (by omega) (by omega) (by omega)
  have hc := cnt_le (sbit o n sh) m
  have ec : cnt (sbit o n sh) (m + 1) = cnt (sbit o n sh) m + (if sbit o n sh m = true then 1 else 0) := rfl
  refine ⟨K + 1, fun k hk => ?_⟩
  obtain ⟨k, rfl⟩ : ∃ k', k = k' + 1 := ⟨k - 1, by omega⟩
  have h := h k (by omega)
  dsimp only at h ⊢
  rw [sapperref15_Steps.l2, wp (x := (a : Int) + (nn : Int)) (y := ((a + nn : Nat) : Int)) (by omega) (by omega) (by omega), if_pos (by omega), same15_ok ho hn hsh (by omega), Option.bind_some, wp (x := (m : Int) + 1) (y := ((m + 1 : Nat) : Int)) (by omega) (by omega) (by omega)]
  by_cases c : sbit o n sh m = true
  ·rw [if_pos c] at ec
   rw [if_pos c, wp (x := z + (cnt (sbit o n sh) m : Int) + 1) (y := z + (cnt (sbit o n sh) (m + 1) : Int)) (by omega) (by omega) (by omega)]
   exact h
  ·rw [if_neg c] at ec
   rw [if_neg c, show cnt (sbit o n sh) m = cnt (sbit o n sh) (m + 1) from ec.symm]
   exact h
theorem none_sbit {a : Nat} (ha : a < n.length) (h0 : (lgs o (n.drop a) o.length).2 = 0) : sbit o n sh a = false := by
 cases hb : sbit o n sh a with
 | false => rfl
 | true =>
  exfalso
  unfold sbit at hb
  simp only [Bool.and_eq_true, decide_eq_true_eq, beq_iff_eq] at hb
  obtain ⟨⟨h1, h2⟩, h3⟩ := hb
  obtain ⟨j, hj⟩ := Int.eq_ofNat_of_zero_le h1
  rw [hj, Int.toNat_natCast] at h3
  have hl : Lg o.length (fun i => cml (o.drop i) (n.drop a) 0) (lgs o (n.drop a) o.length).1 (lgs o (n.drop a) o.length).2 := lng_ok _ _
  have h4 := hl.1 j (by omega)
  dsimp only at h4
  have h5 := cml_parts o (n.drop a) j
  have h6 : cml (o.drop j) (n.drop a) 0 = 0 := by omega
  rw [h6] at h5
  refine h5 ⟨by omega, by rw [List.length_drop]; omega, ?_⟩
  rw [ch_drop, Nat.add_zero, Nat.add_zero]
  exact h3
theorem lgs_in {a : Nat} (ha : a ≤ n.length) : a + (lgs o (n.drop a) o.length).2 ≤ n.length ∧ (lgs o (n.drop a) o.length).1 + (lgs o (n.drop a) o.length).2 ≤ o.length := by
 have hl : Lg o.length (fun i => cml (o.drop i) (n.drop a) 0) (lgs o (n.drop a) o.length).1 (lgs o (n.drop a) o.length).2 := lng_ok _ _
 have h1 := lgs_fit o (n.drop a)
 rw [List.length_drop] at h1
 refine ⟨by omega, ?_⟩
 rcases hl.2 with ⟨c1, c2⟩ | ⟨c1, c2, c3, _⟩
 ·omega
 ·have := cml_fits o (n.drop a) (lgs o (n.drop a) o.length).1
  dsimp only at c3
  omega
end
theorem cnt_mono (b : Nat → Bool) {i j : Nat} (h : i ≤ j) : cnt b i ≤ cnt b j := by
 induction j with
 | zero =>
  have : i = 0 := by omega
  subst this; exact Nat.le_refl _
 | succ j ih =>
  by_cases e : i = j + 1
  ·rw [e]; exact Nat.le_refl _
  ·have := ih (by omega)
   have ec : cnt b (j + 1) = cnt b j + (if b j = true then 1 else 0) := rfl
   omega
theorem ev_step {α : Type} {g h : Nat → Option α} {r : α} (hg : Ev g r) (e : ∃ K, ∀ k, K ≤ k → h (k + 1) = g k) : Ev h r := by
 obtain ⟨K1, h1⟩ := hg
 obtain ⟨K2, h2⟩ := e
 refine ⟨K1 + K2 + 1, fun k hk => ?_⟩
 obtain ⟨k, rfl⟩ : ∃ k', k = k' + 1 := ⟨k - 1, by omega⟩
 rw [h2 k (by omega)]
 exact h1 k (by omega)
section
variable {o n : List Int} {sh : Int} {x : S48} (ho : o.length ≤ 16777216) (hn : n.length ≤ 16777216) (hsh : -16777216 ≤ sh ∧ sh ≤ 16777216) (hx : IsIx o x)
set_option linter.unusedSectionVars false
attribute [local irreducible] cv fr tov rk3 loc2 ch rank
include ho hn hsh hx
theorem lk0_ok (d : Nat) : ∀ a m, n.length - a = d → a ≤ n.length → m ≤ n.length → (a ≤ m ∨ (m + 1 = a ∧ sbit o n sh m = false)) → ∀ s0 : Wk, s0.sh = sh → s0.a = (a : Int) → s0.sc = -(cnt (sbit o n sh) a : Int) + (cnt (sbit o n sh) m : Int) → s0.mr = (m : Int) →
  ∃ r : Wk, Ev (fun k => lk0 k [x] o n s0) r ∧ r.dn = s0.dn ∧ r.bs = s0.bs ∧ r.sh = s0.sh ∧ r.st = s0.st ∧
   (∃ a' : Nat, r.a = (a' : Int) ∧ a ≤ a' ∧ a' ≤ n.length ∧ (a' < n.length → r.ps = ((lgs o (n.drop a') o.length).1 : Int) ∧ r.n = ((lgs o (n.drop a') o.length).2 : Int) ∧ 0 < (lgs o (n.drop a') o.length).2)) ∧
   (∀ l R, Ev (fun k => sapperref15_Steps.j4 k o n l r.dn r.bs r.sh r.a r.n r.ps r.sc) R → Ev (fun k => sapperref15_Steps.l1 k o n l s0.dn s0.bs s0.sh s0.a s0.n s0.ps s0.sc s0.mr) R) := by
 induction d with
 | zero =>
  intro a m hd ha hm hi s0 h1 h2 h3 h4
  obtain ⟨dn, bs, sh0, a0, n0, p0, sc0, mr0, st⟩ := s0
  dsimp only at h1 h2 h3 h4
  subst h2 h3 h4 h1
  have : a = n.length := by omega
  subst this
  refine ⟨_, ⟨1, fun k hk => ?_⟩, rfl, rfl, rfl, rfl, ⟨n.length, rfl, Nat.le_refl _, Nat.le_refl _, fun h => absurd h (Nat.lt_irrefl _)⟩, fun l R hR => ?_⟩
  ·obtain ⟨k, rfl⟩ : ∃ k', k = k' + 1 := ⟨k - 1, by omega⟩
   (try dsimp only)
   rw [lk0, if_neg (by show ¬ ((n.length : Int) < _); omega)]
  ·refine ev_step hR ⟨0, fun k _ => ?_⟩
   (try dsimp only)
   rw [sapperref15_Steps.l1, if_neg (by omega)]
 | succ d ih =>
  intro a m hd ha hm hi s0 h1 h2 h3 h4
  obtain ⟨dn, bs, sh0, a0, n0, p0, sc0, mr0, st⟩ := s0
  dsimp only at h1 h2 h3 h4
  subst h2 h3 h4 h1
  obtain ⟨K1, hL⟩ := Longest_ok ho hx (n.drop a)
  obtain ⟨K2, hL2⟩ := refLongest_ok (s := o) (p := n.drop a) ho (by rw [List.length_drop]; omega)
  obtain ⟨hin1, hin2⟩ := lgs_in ho hn hsh (a := a) ha
  have h0 := none_sbit ho hn hsh (a := a) (by omega)
  generalize hpp : (lgs o (n.drop a) o.length).1 = ps at *
  generalize hnn : (lgs o (n.drop a) o.length).2 = nn at *
  have hca := cnt_le (sbit o n sh0) a
  have hz : -1000000000 ≤ -(cnt (sbit o n sh0) a : Int) ∧ -(cnt (sbit o n sh0) a : Int) ≤ 1000000000 := by omega
  have hlk := lk1_ok ho hn hsh hin1 hz (a + nn - m) m rfl hm
  obtain ⟨M, hM⟩ : ∃ M, M = max m (a + nn) := ⟨_, rfl⟩
  rw [← hM] at hlk
  have hMa : a ≤ M := by omega
  have hMl : M ≤ n.length := by omega
  have hcM := cnt_mono (sbit o n sh0) hMa
  have hcMl := cnt_le (sbit o n sh0) M
  have prog : ∀ k, K1 + (a + nn - m) + 1 ≤ k → lk0 (k + 1) [x] o n ⟨dn, bs, sh0, (a : Int), n0, p0, -(cnt (sbit o n sh0) a : Int) + (cnt (sbit o n sh0) m : Int), (m : Int), st⟩ = (if stopB (nn : Int) (-(cnt (sbit o n sh0) a : Int) + (cnt (sbit o n sh0) M : Int)) = true then some ⟨dn, bs, sh0, (a : Int), (nn : Int), (ps : Int), -(cnt (sbit o n sh0) a : Int) + (cnt (sbit o n sh0) M : Int), (M : Int), st⟩ else ((some (sbit o n sh0 a)).bind fun b => (if b = true then lk0 k [x] o n ⟨dn, bs, sh0, wrap64 ((a : Int) + 1), (nn : Int), (ps : Int), wrap64 (-(cnt (sbit o n sh0) a : Int) + (cnt (sbit o n sh0) M : Int) - 1), (M : Int), st⟩ else lk0 k [x] o n ⟨dn, bs, sh0, wrap64 ((a : Int) + 1), (nn : Int), (ps : Int), -(cnt (sbit o n sh0) a : Int) + (cnt (sbit o n sh0) M : Int), (M : Int), st⟩))) := by
   intro k hk
   rw [lk0, if_pos (by show (a : Int) < _; omega), if_pos (by show (0 : Int) ≤ (a : Int); omega)]
   (try dsimp only)
   rw [Int.toNat_natCast, hL k (by omega), Option.bind_some]
   (try dsimp only)
   rw [hlk k (by omega), Option.bind_some]
   (try dsimp only)
   rw [shf_ok ho hn hsh (by omega)]
  have refr : ∀ l R, Ev (fun k => sapperref15_Steps.j3 k o n l dn bs sh0 (a : Int) (nn : Int) (ps : Int) (-(cnt (sbit o n sh0) a : Int) + (cnt (sbit o n sh0) M : Int)) (M : Int) (stopB (nn : Int) (-(cnt (sbit o n sh0) a : Int) + (cnt (sbit o n sh0) M : Int)))) R → Ev (fun k => sapperref15_Steps.l1 k o n l dn bs sh0 (a : Int) n0 p0 (-(cnt (sbit o n sh0) a : Int) + (cnt (sbit o n sh0) m : Int)) (m : Int)) R := by
   intro l R hR
   have h := l2_ok ho hn hsh hin1 hz hR (a + nn - m) m rfl hm hM
   refine ev_step h ⟨K2, fun k hk => ?_⟩
   (try dsimp only)
   rw [sapperref15_Steps.l1, if_pos (by omega), if_pos (by omega), if_pos (by omega), Int.toNat_natCast, hL2 k hk, Option.bind_some]
  by_cases hst : stopB (nn : Int) (-(cnt (sbit o n sh0) a : Int) + (cnt (sbit o n sh0) M : Int)) = true
  ·refine ⟨⟨dn, bs, sh0, (a : Int), (nn : Int), (ps : Int), -(cnt (sbit o n sh0) a : Int) + (cnt (sbit o n sh0) M : Int), (M : Int), st⟩, ⟨K1 + (a + nn - m) + 2, fun k hk => ?_⟩, rfl, rfl, rfl, rfl, ⟨a, rfl, Nat.le_refl _, ha, fun _ => ⟨by rw [hpp], by rw [hnn], ?_⟩⟩, fun l R hR => refr l R ?_⟩
   ·obtain ⟨k, rfl⟩ : ∃ k', k = k' + 1 := ⟨k - 1, by omega⟩
    (try dsimp only)
    rw [prog k (by omega), if_pos hst]
   ·rw [hnn]
    unfold stopB at hst
    rw [wp (x := -(cnt (sbit o n sh0) a : Int) + (cnt (sbit o n sh0) M : Int) + 8) (y := -(cnt (sbit o n sh0) a : Int) + (cnt (sbit o n sh0) M : Int) + 8) rfl (by omega) (by omega)] at hst
    simp only [Bool.or_eq_true, Bool.and_eq_true, beq_iff_eq, bne_iff_ne, decide_eq_true_eq] at hst
    omega
   ·refine ev_step hR ⟨0, fun k _ => ?_⟩
    (try dsimp only)
    rw [sapperref15_Steps.j3, if_pos hst]
  ·have hstf : stopB (nn : Int) (-(cnt (sbit o n sh0) a : Int) + (cnt (sbit o n sh0) M : Int)) = false := by
    cases h : stopB (nn : Int) (-(cnt (sbit o n sh0) a : Int) + (cnt (sbit o n sh0) M : Int)) with
    | false => rfl
    | true => exact absurd h hst
   have ec : cnt (sbit o n sh0) (a + 1) = cnt (sbit o n sh0) a + (if sbit o n sh0 a = true then 1 else 0) := rfl
   have hinv : a + 1 ≤ M ∨ (M + 1 = a + 1 ∧ sbit o n sh0 M = false) := by
    by_cases c : a + 1 ≤ M
    ·exact .inl c
    ·have e : M = a := by omega
     refine .inr ⟨by omega, ?_⟩
     rw [e]
     exact h0 (by omega)
   obtain ⟨r, g1, g2, g3, g4, g5, ⟨a', g6, g7, g8, g9⟩, g10⟩ := ih (a + 1) M (by omega) (by omega) hMl hinv ⟨dn, bs, sh0, ((a + 1 : Nat) : Int), (nn : Int), (ps : Int), -(cnt (sbit o n sh0) (a + 1) : Int) + (cnt (sbit o n sh0) M : Int), (M : Int), st⟩ rfl rfl rfl rfl
   refine ⟨r, ?_, g2, g3, g4, g5, ⟨a', g6, by omega, g8, g9⟩, fun l R hR => refr l R ?_⟩
   ·refine ev_step g1 ⟨K1 + (a + nn - m) + 1, fun k hk => ?_⟩
    (try dsimp only)
    rw [prog k hk, if_neg hst, Option.bind_some, wp (x := (a : Int) + 1) (y := ((a + 1 : Nat) : Int)) (by omega) (by omega) (by omega)]
    by_cases c : sbit o n sh0 a = true
    ·rw [if_pos c] at ec
     rw [if_pos c, wp (x := -(cnt (sbit o n sh0) a : Int) + (cnt (sbit o n sh0) M : Int) - 1) (y := -(cnt (sbit o n sh0) (a + 1) : Int) + (cnt (sbit o n sh0) M : Int)) (by omega) (by omega) (by omega)]
    ·rw [if_neg c] at ec
     rw [if_neg c, show cnt (sbit o n sh0) (a + 1) = cnt (sbit o n sh0) a from ec]
   ·refine ev_step (g10 l R hR) ⟨0, fun k _ => ?_⟩
    (try dsimp only)
    rw [sapperref15_Steps.j3, if_neg hst, same15_ok ho hn hsh (by omega), Option.bind_some, wp (x := (a : Int) + 1) (y := ((a + 1 : Nat) : Int)) (by omega) (by omega) (by omega)]
    by_cases c : sbit o n sh0 a = true
    ·rw [if_pos c] at ec
     rw [if_pos c, wp (x := -(cnt (sbit o n sh0) a : Int) + (cnt (sbit o n sh0) M : Int) - 1) (y := -(cnt (sbit o n sh0) (a + 1) : Int) + (cnt (sbit o n sh0) M : Int)) (by omega) (by omega) (by omega)]
    ·rw [if_neg c] at ec
     rw [if_neg c, show cnt (sbit o n sh0) (a + 1) = cnt (sbit o n sh0) a from ec]
theorem look_ok {a nn : Nat} (he : a + nn ≤ n.length) (s : Wk) (h1 : s.sh = sh) (h2 : s.a = (a : Int)) (h3 : s.n = (nn : Int)) :
  ∃ r : Wk, Ev (fun k => lookF k [x] o n s) r ∧ r.dn = s.dn ∧ r.bs = s.bs ∧ r.sh = s.sh ∧ r.st = s.st ∧
   (∃ a' : Nat, r.a = (a' : Int) ∧ a + nn ≤ a' ∧ a' ≤ n.length ∧ (a' < n.length → r.ps = ((lgs o (n.drop a') o.length).1 : Int) ∧ r.n = ((lgs o (n.drop a') o.length).2 : Int) ∧ 0 < (lgs o (n.drop a') o.length).2)) ∧
   (a < n.length → ∀ l R, Ev (fun k => sapperref15_Steps.j4 k o n l r.dn r.bs r.sh r.a r.n r.ps r.sc) R → Ev (fun k => sapperref15_Steps.l0 k o n l s.dn s.bs s.sh s.a s.n s.ps) R) := by
 obtain ⟨r, g1, g2, g3, g4, g5, g6, g7⟩ := lk0_ok ho hn hsh hx (n.length - (a + nn)) (a + nn) (a + nn) rfl he he (.inl (Nat.le_refl _)) { s with a := ((a + nn : Nat) : Int), sc := 0, mr := ((a + nn : Nat) : Int) } h1 rfl (by dsimp only; omega) rfl
 refine ⟨r, ?_, g2, g3, g4, g5, g6, fun hlt l R hR => ?_⟩
 ·obtain ⟨K, g1⟩ := g1
  exact ⟨K, fun k hk => by dsimp only; unfold lookF; rw [h2, h3, wp (x := (a : Int) + (nn : Int)) (y := ((a + nn : Nat) : Int)) (by omega) (by omega) (by omega), ← h3]; exact g1 k hk⟩
 ·refine ev_step (g7 l R hR) ⟨0, fun k _ => ?_⟩
  (try dsimp only)
  rw [sapperref15_Steps.l0, if_pos (by rw [h2]; omega), h2, h3, wp (x := (a : Int) + (nn : Int)) (y := ((a + nn : Nat) : Int)) (by omega) (by omega) (by omega)]
end
section
variable {o n : List Int} (ho : o.length ≤ 16777216) (hn : n.length ≤ 16777216)
set_option linter.unusedSectionVars false
attribute [local irreducible] cv fr tov rk3 loc2 ch rank
include ho hn
theorem stepMid_in (s : Wk) {dn bs a ps f b : Nat} (h1 : s.dn = (dn : Int)) (h2 : s.bs = (bs : Int)) (h3 : s.a = (a : Int)) (h4 : s.ps = (ps : Int)) (h5 : dn ≤ a) (h6 : a ≤ n.length) (h7 : bs ≤ o.length) (h8 : ps ≤ o.length) (hf : f ≤ min (a - dn) (o.length - bs)) (hb : b ≤ min (a - dn) ps) :
  ∃ f' b' : Nat, stepMid o n s (f : Int) (b : Int) = stepEnd n s (f' : Int) (b' : Int) ∧ f' ≤ f ∧ b' ≤ b ∧ dn + f' + b' ≤ a := by
 unfold stepMid
 have eo : ovr s (f : Int) (b : Int) = ((dn + f + b : Nat) : Int) - (a : Int) := by
  unfold ovr
  rw [h1, h3, wp (x := (dn : Int) + (f : Int)) (y := ((dn + f : Nat) : Int)) (by omega) (by omega) (by omega), wp (x := (a : Int) - (b : Int)) (y := ((a - b : Nat) : Int)) (by omega) (by omega) (by omega)]
  exact wp (by omega) (by omega) (by omega)
 rw [eo]
 clear eo
 by_cases c : ((dn + f + b : Nat) : Int) - (a : Int) > 0
 ·rw [if_pos c]
  obtain ⟨v, hv⟩ : ∃ v : Nat, v = dn + f + b - a := ⟨_, rfl⟩
  have hS := Split_in (o := o) (n := n) (a1 := bs + f - v) (a2 := ps - b) (a4 := dn + f - v) (m := v) (by omega) (by omega) (by omega) (by omega) (by omega)
  have hk := sp_le (sco o (bs + f - v) (ps - b) n (dn + f - v)) v
  generalize (sp (sco o (bs + f - v) (ps - b) n (dn + f - v)) v).1 = k at hS hk
  refine ⟨f + k - v, b - k, ?_, by omega, by omega, by omega⟩
  rw [h1, h2, h4, show ((dn + f + b : Nat) : Int) - (a : Int) = (v : Int) by omega, wp (x := (bs : Int) + (f : Int)) (y := ((bs + f : Nat) : Int)) (by omega) (by omega) (by omega), wp (x := ((bs + f : Nat) : Int) - (v : Int)) (y := ((bs + f - v : Nat) : Int)) (by omega) (by omega) (by omega), wp (x := (ps : Int) - (b : Int)) (y := ((ps - b : Nat) : Int)) (by omega) (by omega) (by omega), wp (x := (dn : Int) + (f : Int)) (y := ((dn + f : Nat) : Int)) (by omega) (by omega) (by omega), wp (x := ((dn + f : Nat) : Int) - (v : Int)) (y := ((dn + f - v : Nat) : Int)) (by omega) (by omega) (by omega), hS, Option.bind_some, wp (x := (k : Int) - (v : Int)) (y := (k : Int) - (v : Int)) rfl (by omega) (by omega), wp (x := (f : Int) + ((k : Int) - (v : Int))) (y := ((f + k - v : Nat) : Int)) (by omega) (by omega) (by omega), wp (x := (b : Int) - (k : Int)) (y := ((b - k : Nat) : Int)) (by omega) (by omega) (by omega)]
 ·rw [if_neg c]
  exact ⟨f, b, rfl, Nat.le_refl _, Nat.le_refl _, by omega⟩
theorem step_in (s : Wk) {dn bs a ps : Nat} (h1 : s.dn = (dn : Int)) (h2 : s.bs = (bs : Int)) (h3 : s.a = (a : Int)) (h4 : s.ps = (ps : Int)) (h5 : dn ≤ a) (h6 : a < n.length) (h7 : bs ≤ o.length) (h8 : ps ≤ o.length) (hl : s.st.length < 5864062014805) :
  ∃ f b : Nat, stepF o n s = some { s with st := s.st ++ [⟨(f : Int), ((a - b - (dn + f) : Nat) : Int), ((ps - b : Nat) : Int) - ((bs + f : Nat) : Int)⟩], dn := ((a - b : Nat) : Int), bs := ((ps - b : Nat) : Int), sh := (ps : Int) - (a : Int) } ∧ dn + f + b ≤ a ∧ bs + f ≤ o.length ∧ b ≤ ps := by
 have hf := fwd_le (o := o) (n := n) (by omega) (by omega) bs dn a
 have hb := bwd_le (o := o) (n := n) (by omega) (by omega) ps dn a
 obtain ⟨f, b, e, g1, g2, g3⟩ := stepMid_in ho hn s h1 h2 h3 h4 h5 (by omega) h7 h8 hf hb
 refine ⟨f, b, ?_, g3, by omega, by omega⟩
 unfold stepF
 have hF := Forward_in (o := o) (n := n) (by omega) (by omega) (pos := bs) (fr := dn) (to_ := a) h7 h5 (by omega)
 have hB := Backward_in (o := o) (n := n) (by omega) (by omega) (pos := ps) (fr := dn) (to_ := a) h8 h5 (by omega)
 rw [h1, h2, h3, hF, Option.bind_some, if_neg (by omega), h4, hB, Option.bind_some, e]
 unfold stepEnd
 rw [if_pos hl, h1, h2, h3, h4, if_neg (by omega), wp (x := (a : Int) - (b : Int)) (y := ((a - b : Nat) : Int)) (by omega) (by omega) (by omega), wp (x := (dn : Int) + (f : Int)) (y := ((dn + f : Nat) : Int)) (by omega) (by omega) (by omega), wp (x := ((a - b : Nat) : Int) - ((dn + f : Nat) : Int)) (y := ((a - b - (dn + f) : Nat) : Int)) (by omega) (by omega) (by omega), wp (x := (ps : Int) - (b : Int)) (y := ((ps - b : Nat) : Int)) (by omega) (by omega) (by omega), wp (x := (bs : Int) + (f : Int)) (y := ((bs + f : Nat) : Int)) (by omega) (by omega) (by omega), wp (x := ((ps - b : Nat) : Int) - ((bs + f : Nat) : Int)) (y := ((ps - b : Nat) : Int) - ((bs + f : Nat) : Int)) rfl (by omega) (by omega), wp (x := (ps : Int) - (a : Int)) (y := (ps : Int) - (a : Int)) rfl (by omega) (by omega)]
theorem step_end (s : Wk) {dn bs : Nat} (h1 : s.dn = (dn : Int)) (h2 : s.bs = (bs : Int)) (h3 : s.a = (n.length : Int)) (h5 : dn ≤ n.length) (h7 : bs ≤ o.length) (hl : s.st.length < 5864062014805) :
  stepF o n s = some { s with st := s.st ++ [⟨(fwd o bs n dn n.length : Int), ((n.length - (dn + fwd o bs n dn n.length) : Nat) : Int), 0⟩], dn := (n.length : Int), bs := wrap64 s.ps, sh := wrap64 (s.ps - s.a) } := by
 have hf := fwd_le (o := o) (n := n) (by omega) (by omega) bs dn n.length
 have hF := Forward_in (o := o) (n := n) (by omega) (by omega) (pos := bs) (fr := dn) (to_ := n.length) h7 h5 (Nat.le_refl _)
 generalize fwd o bs n dn n.length = f at hf hF ⊢
 unfold stepF
 rw [h1, h2, h3, hF, Option.bind_some, if_pos rfl]
 unfold stepMid ovr
 rw [h1, h3, Int.sub_zero, wp (x := (n.length : Int)) (y := (n.length : Int)) rfl (by omega) (by omega), wp (x := (dn : Int) + (f : Int)) (y := ((dn + f : Nat) : Int)) (by omega) (by omega) (by omega), wp (x := ((dn + f : Nat) : Int) - (n.length : Int)) (y := ((dn + f : Nat) : Int) - (n.length : Int)) rfl (by omega) (by omega), if_neg (by omega)]
 unfold stepEnd
 rw [if_pos hl, h1, h3, if_pos rfl, Int.sub_zero, Int.sub_zero, wp (x := (n.length : Int)) (y := (n.length : Int)) rfl (by omega) (by omega), wp (x := (dn : Int) + (f : Int)) (y := ((dn + f : Nat) : Int)) (by omega) (by omega) (by omega), wp (x := (n.length : Int) - ((dn + f : Nat) : Int)) (y := ((n.length - (dn + f) : Nat) : Int)) (by omega) (by omega) (by omega)]
end
def okL (L : Int) : List S39 → Int → Int → Int → Int → Prop
 | [], m, p, m', p' => m = m' ∧ p = p'
 | s :: l, m, p, m', p' => (0 ≤ s.f0 ∧ 0 ≤ s.f1 ∧ (0 < s.f0 → 0 ≤ p ∧ p + s.f0 ≤ L) ∧ 0 ≤ m ∧ m + s.f0 + s.f1 ≤ 16777216 ∧ -33554432 ≤ s.f2 ∧ s.f2 ≤ 33554432 ∧ -33554432 ≤ p ∧ p ≤ 33554432) ∧ okL L l (m + s.f0 + s.f1) (p + s.f0 + s.f2) m' p'
theorem okL_snoc {L : Int} (s : S39) : ∀ (l : List S39) (a b m p : Int), okL L l a b m p → (0 ≤ s.f0 ∧ 0 ≤ s.f1 ∧ (0 < s.f0 → 0 ≤ p ∧ p + s.f0 ≤ L) ∧ 0 ≤ m ∧ m + s.f0 + s.f1 ≤ 16777216 ∧ -33554432 ≤ s.f2 ∧ s.f2 ≤ 33554432 ∧ -33554432 ≤ p ∧ p ≤ 33554432) → okL L (l ++ [s]) a b (m + s.f0 + s.f1) (p + s.f0 + s.f2)
 | [], a, b, m, p, h, hs => by
  obtain ⟨rfl, rfl⟩ := h
  exact ⟨hs, rfl, rfl⟩
 | t :: l, a, b, m, p, h, hs => ⟨h.1, okL_snoc s l _ _ m p h.2 hs⟩
section
variable {o n : List Int} {x : S48} (ho : o.length ≤ 16777216) (hn : n.length ≤ 16777216) (hx : IsIx o x)
set_option linter.unusedSectionVars false
attribute [local irreducible] cv fr tov rk3 loc2 ch rank
include ho hn hx
theorem stl_ok (d : Nat) : ∀ (s : Wk) (a nn dn bs : Nat), n.length - (a + nn) ≤ d → a + nn ≤ n.length → s.a = (a : Int) → s.n = (nn : Int) → s.dn = (dn : Int) → s.bs = (bs : Int) → dn ≤ a → bs ≤ o.length → -16777216 ≤ s.sh ∧ s.sh ≤ 16777216 → s.st.length ≤ a + nn → okL (o.length : Int) s.st 0 0 (dn : Int) (bs : Int) → (a = n.length → dn = n.length) →
  ∃ r : Wk, Ev (fun k => stl k [x] o n s) r ∧ (∃ p' : Int, okL (o.length : Int) r.st 0 0 (n.length : Int) p') ∧ r.st.length ≤ n.length + 1 := by
 induction d with
 | zero =>
  intro s a nn dn bs hd he h1 h2 h3 h4 h5 h6 h7 h8 h9 h10
  by_cases c : a = n.length
  ·refine ⟨s, ⟨1, fun k hk => ?_⟩, ⟨(bs : Int), ?_⟩, by omega⟩
   ·obtain ⟨k, rfl⟩ : ∃ k', k = k' + 1 := ⟨k - 1, by omega⟩
    (try dsimp only)
    rw [stl, if_neg (by rw [h1]; omega)]
   ·rw [h10 c] at h9; exact h9
  obtain ⟨r, ⟨K, g1⟩, g2, g3, g4, g5, ⟨a', g6, g7, g8, g9⟩, _⟩ := look_ok ho hn h7 hx he s rfl h1 h2
  have ea : a' = n.length := by omega
  subst ea
  have hS := step_end ho hn r (dn := dn) (bs := bs) (by rw [g2, h3]) (by rw [g3, h4]) g6 (by omega) h6 (by rw [g5]; omega)
  have hf := fwd_le (o := o) (n := n) (by omega) (by omega) bs dn n.length
  generalize fwd o bs n dn n.length = f at hS hf
  refine ⟨{ r with st := r.st ++ [⟨(f : Int), ((n.length - (dn + f) : Nat) : Int), 0⟩], dn := (n.length : Int), bs := wrap64 r.ps, sh := wrap64 (r.ps - r.a) }, ⟨K + 3, fun k hk => ?_⟩, ⟨(bs : Int) + (f : Int) + 0, ?_⟩, by (try dsimp only); rw [List.length_append, List.length_singleton, g5]; omega⟩
  ·obtain ⟨k, rfl⟩ : ∃ k', k = k' + 2 := ⟨k - 2, by omega⟩
   (try dsimp only)
   rw [stl, if_pos (by rw [h1]; omega), show lookF (k + 1) [x] o n s = some r from g1 (k + 1) (by omega), Option.bind_some, hS, Option.bind_some, if_pos g6, ite_self]
   rw [stl, if_neg (by show ¬ (r.a < _); rw [g6]; omega)]
  ·have := okL_snoc (L := (o.length : Int)) ⟨(f : Int), ((n.length - (dn + f) : Nat) : Int), 0⟩ s.st 0 0 (dn : Int) (bs : Int) h9 ⟨by (try dsimp only); omega, by (try dsimp only); omega, fun _ => ⟨by (try dsimp only); omega, by (try dsimp only); omega⟩, by omega, by (try dsimp only); omega, by (try dsimp only); omega, by (try dsimp only); omega, by omega, by omega⟩
   dsimp only at this ⊢
   rw [g5]
   rw [show (dn : Int) + (f : Int) + ((n.length - (dn + f) : Nat) : Int) = (n.length : Int) by omega] at this
   exact this
 | succ d ih =>
  intro s a nn dn bs hd he h1 h2 h3 h4 h5 h6 h7 h8 h9 h10
  by_cases c : a = n.length
  ·refine ⟨s, ⟨1, fun k hk => ?_⟩, ⟨(bs : Int), ?_⟩, by omega⟩
   ·obtain ⟨k, rfl⟩ : ∃ k', k = k' + 1 := ⟨k - 1, by omega⟩
    (try dsimp only)
    rw [stl, if_neg (by rw [h1]; omega)]
   ·rw [h10 c] at h9; exact h9
  obtain ⟨r, ⟨K, g1⟩, g2, g3, g4, g5, ⟨a', g6, g7, g8, g9⟩, _⟩ := look_ok ho hn h7 hx he s rfl h1 h2
  by_cases ea : a' = n.length
  ·subst ea
   have hS := step_end ho hn r (dn := dn) (bs := bs) (by rw [g2, h3]) (by rw [g3, h4]) g6 (by omega) h6 (by rw [g5]; omega)
   have hf := fwd_le (o := o) (n := n) (by omega) (by omega) bs dn n.length
   generalize fwd o bs n dn n.length = f at hS hf
   refine ⟨{ r with st := r.st ++ [⟨(f : Int), ((n.length - (dn + f) : Nat) : Int), 0⟩], dn := (n.length : Int), bs := wrap64 r.ps, sh := wrap64 (r.ps - r.a) }, ⟨K + 3, fun k hk => ?_⟩, ⟨(bs : Int) + (f : Int) + 0, ?_⟩, by (try dsimp only); rw [List.length_append, List.length_singleton, g5]; omega⟩
   ·obtain ⟨k, rfl⟩ : ∃ k', k = k' + 2 := ⟨k - 2, by omega⟩
    (try dsimp only)
    rw [stl, if_pos (by rw [h1]; omega), show lookF (k + 1) [x] o n s = some r from g1 (k + 1) (by omega), Option.bind_some, hS, Option.bind_some, if_pos g6, ite_self]
    rw [stl, if_neg (by show ¬ (r.a < _); rw [g6]; omega)]
   ·have := okL_snoc (L := (o.length : Int)) ⟨(f : Int), ((n.length - (dn + f) : Nat) : Int), 0⟩ s.st 0 0 (dn : Int) (bs : Int) h9 ⟨by (try dsimp only); omega, by (try dsimp only); omega, fun _ => ⟨by (try dsimp only); omega, by (try dsimp only); omega⟩, by omega, by (try dsimp only); omega, by (try dsimp only); omega, by (try dsimp only); omega, by omega, by omega⟩
    dsimp only at this ⊢
    rw [g5]
    rw [show (dn : Int) + (f : Int) + ((n.length - (dn + f) : Nat) : Int) = (n.length : Int) by omega] at this
    exact this
  obtain ⟨e1, e2, e3⟩ := g9 (by omega)
  obtain ⟨hin1, hin2⟩ := lgs_in ho hn h7 (a := a') g8
  generalize (lgs o (n.drop a') o.length).1 = ps at *
  generalize (lgs o (n.drop a') o.length).2 = nn' at *
  by_cases cs : r.n = r.sc
  ·obtain ⟨q, ⟨K2, q1⟩, ⟨p', q2⟩, q3⟩ := ih r a' nn' dn bs (by omega) hin1 g6 e2 (by rw [g2, h3]) (by rw [g3, h4]) (by omega) h6 (by rw [g4]; exact h7) (by rw [g5]; omega) (by rw [g5]; exact h9) (fun h => absurd h ea)
   refine ⟨q, ⟨K + K2 + 1, fun k hk => ?_⟩, ⟨p', q2⟩, q3⟩
   obtain ⟨k, rfl⟩ : ∃ k', k = k' + 1 := ⟨k - 1, by omega⟩
   (try dsimp only)
   rw [stl, if_pos (by rw [h1]; omega), show lookF k [x] o n s = some r from g1 k (by omega), Option.bind_some, if_pos cs, if_neg (by rw [g6]; omega)]
   exact q1 k (by omega)
  ·obtain ⟨f, b, hS, k1, k2, k3⟩ := step_in ho hn r (dn := dn) (bs := bs) (a := a') (ps := ps) (by rw [g2, h3]) (by rw [g3, h4]) g6 e1 (by omega) (by omega) h6 (by omega) (by rw [g5]; omega)
   have hok := okL_snoc (L := (o.length : Int)) ⟨(f : Int), ((a' - b - (dn + f) : Nat) : Int), ((ps - b : Nat) : Int) - ((bs + f : Nat) : Int)⟩ s.st 0 0 (dn : Int) (bs : Int) h9 ⟨by (try dsimp only); omega, by (try dsimp only); omega, fun _ => ⟨by (try dsimp only); omega, by (try dsimp only); omega⟩, by omega, by (try dsimp only); omega, by (try dsimp only); omega, by (try dsimp only); omega, by omega, by omega⟩
   dsimp only at hok
   rw [show (dn : Int) + (f : Int) + ((a' - b - (dn + f) : Nat) : Int) = ((a' - b : Nat) : Int) by omega, show (bs : Int) + (f : Int) + (((ps - b : Nat) : Int) - ((bs + f : Nat) : Int)) = ((ps - b : Nat) : Int) by omega] at hok
   obtain ⟨q, ⟨K2, q1⟩, ⟨p', q2⟩, q3⟩ := ih { r with st := r.st ++ [⟨(f : Int), ((a' - b - (dn + f) : Nat) : Int), ((ps - b : Nat) : Int) - ((bs + f : Nat) : Int)⟩], dn := ((a' - b : Nat) : Int), bs := ((ps - b : Nat) : Int), sh := (ps : Int) - (a' : Int) } a' nn' (a' - b) (ps - b) (by omega) hin1 g6 e2 rfl rfl (by omega) (by omega) (by (try dsimp only); omega) (by dsimp only; rw [g5, List.length_append, List.length_singleton]; omega) (by dsimp only; rw [g5]; exact hok) (fun h => absurd h ea)
   refine ⟨q, ⟨K + K2 + 1, fun k hk => ?_⟩, ⟨p', q2⟩, q3⟩
   obtain ⟨k, rfl⟩ : ∃ k', k = k' + 1 := ⟨k - 1, by omega⟩
   (try dsimp only)
   rw [stl, if_pos (by rw [h1]; omega), show lookF k [x] o n s = some r from g1 k (by omega), Option.bind_some, if_neg cs, hS, Option.bind_some]
   exact q1 k (by omega)
theorem Steps_all : ∃ K l, (∀ k, K ≤ k → scan_Steps.f k [x] n = some (l, 0)) ∧ (∃ p' : Int, okL (o.length : Int) l 0 0 (n.length : Int) p') ∧ l.length ≤ n.length + 1 := by
 obtain ⟨r, ⟨K, g⟩, hp, hl⟩ := stl_ok ho hn hx n.length ⟨0, 0, 0, 0, 0, 0, 0, 0, []⟩ 0 0 0 0 (by omega) (by omega) rfl rfl rfl rfl (Nat.le_refl _) (Nat.zero_le _) (by decide) (Nat.le_refl _) ⟨rfl, rfl⟩ (fun h => h)
 obtain ⟨K2, h2⟩ := Range_ok ho hx []
 refine ⟨K + K2, r.st, fun k hk => ?_, hp, hl⟩
 unfold scan_Steps.f
 rw [h2 k (by omega), Option.bind_some]
 dsimp only
 rw [if_pos rfl, if_neg (by omega), Data_f ho hx, Option.bind_some, show stl k [x] o n ⟨0, 0, 0, 0, 0, 0, 0, 0, []⟩ = some r from g k (by omega), Option.bind_some]
end
section
set_option linter.unusedSectionVars false
theorem cnt_congr {b c : Nat → Bool} : ∀ m, (∀ i, i < m → b i = c i) → cnt b m = cnt c m
 | 0, _ => rfl
 | m + 1, h => by
  have := cnt_congr m (fun i hi => h i (by omega))
  simp only [cnt, this, h m (by omega)]
theorem cnt_shift (b : Nat → Bool) : ∀ m, cnt b (m + 1) = (if b 0 = true then 1 else 0) + cnt (fun i => b (i + 1)) m
 | 0 => by simp [cnt]
 | m + 1 => by
  have := cnt_shift b m
  have e : cnt b (m + 1 + 1) = cnt b (m + 1) + (if b (m + 1) = true then 1 else 0) := rfl
  have e2 : cnt (fun i => b (i + 1)) (m + 1) = cnt (fun i => b (i + 1)) m + (if b (m + 1) = true then 1 else 0) := rfl
  rw [e, e2, this]; omega
theorem cnt_rev (b : Nat → Bool) : ∀ m, cnt (fun i => b (m - 1 - i)) m = cnt b m
 | 0 => rfl
 | m + 1 => by
  rw [cnt_shift]
  have e : cnt b (m + 1) = cnt b m + (if b m = true then 1 else 0) := rfl
  have h := cnt_rev b m
  rw [e, ← h, cnt_congr (b := fun i => b (m + 1 - 1 - (i + 1))) (c := fun i => b (m - 1 - i)) m (fun i hi => by rw [show m + 1 - 1 - (i + 1) = m - 1 - i by omega])]
  simp only [Nat.add_sub_cancel, Nat.sub_zero]
  omega
theorem alike_l0 {a b : List Int} (ha : a.length ≤ 140737488351300) {m : Nat} (h1 : m ≤ a.length) (h2 : m ≤ b.length) (d : Nat) : ∀ i, m - i = d → i ≤ m → ∀ k, d < k → sapperref15_alike.l0 k a b (m : Int) (cnt (fun i => ch a i == ch b i) i : Int) (i : Int) = some (cnt (fun i => ch a i == ch b i) m : Int) := by
 induction d with
 | zero =>
  intro i hd hi k hk
  obtain ⟨k, rfl⟩ : ∃ k', k = k' + 1 := ⟨k - 1, by omega⟩
  have : i = m := by omega
  subst this
  rw [sapperref15_alike.l0, if_neg (by omega)]
 | succ d ih =>
  intro i hd hi k hk
  obtain ⟨k, rfl⟩ : ∃ k', k = k' + 1 := ⟨k - 1, by omega⟩
  have next := ih (i + 1) (by omega) (by omega) k (by omega)
  have hc := cnt_le (fun i => ch a i == ch b i) i
  have ec : cnt (fun i => ch a i == ch b i) (i + 1) = cnt (fun i => ch a i == ch b i) i + (if (ch a i == ch b i) = true then 1 else 0) := rfl
  rw [sapperref15_alike.l0, if_pos (by omega), if_pos (by omega), if_pos (by omega), if_pos (by omega), rd_nat, rd_nat, wp (x := (i : Int) + 1) (y := ((i + 1 : Nat) : Int)) (by omega) (by omega) (by omega)]
  by_cases c : ch a i = ch b i
  ·rw [if_pos (beq_iff_eq.mpr c)] at ec
   rw [if_pos c, wp (x := (cnt (fun i => ch a i == ch b i) i : Int) + 1) (y := (cnt (fun i => ch a i == ch b i) (i + 1) : Int)) (by omega) (by omega) (by omega)]
   exact next
  ·rw [if_neg (by simp [c])] at ec
   rw [if_neg c, show cnt (fun i => ch a i == ch b i) i = cnt (fun i => ch a i == ch b i) (i + 1) from ec.symm]
   exact next
theorem alike_ok {a b : List Int} (ha : a.length ≤ 140737488351300) {m : Nat} (h1 : m ≤ a.length) (h2 : m ≤ b.length) {k : Nat} (hk : m < k) : sapperref15_alike.f k a b (m : Int) = some (cnt (fun i => ch a i == ch b i) m : Int) :=
 alike_l0 ha h1 h2 m 0 (by omega) (by omega) k hk
section
variable {o n : List Int} (ho : o.length ≤ 140737488351232) (hn : n.length ≤ 140737488351232)
include ho hn
theorem refF_l0 {pos fr to_ : Nat} (h1 : pos ≤ o.length) (h2 : fr ≤ to_) (h3 : to_ ≤ n.length) {m : Nat} (hm : m = min (to_ - fr) (o.length - pos)) (d : Nat) : ∀ i, m + 1 - i = d → i ≤ m + 1 → ∀ k, 2 * d + m + 3 ≤ k → sapperref15_Forward.l0 k o (pos : Int) n (fr : Int) (to_ : Int) ((bo (fwb o pos n fr) (i - 1)).1 : Int) (bo (fwb o pos n fr) (i - 1)).2 (i : Int) = some ((bo (fwb o pos n fr) m).1 : Int) := by
 induction d with
 | zero =>
  intro i hd hi k hk
  obtain ⟨k, rfl⟩ : ∃ k', k = k' + 2 := ⟨k - 2, by omega⟩
  have : i = m + 1 := by omega
  subst this
  rw [sapperref15_Forward.l0, wp (x := (fr : Int) + ((m + 1 : Nat) : Int)) (y := ((fr + (m + 1) : Nat) : Int)) (by omega) (by omega) (by omega), wp (x := (pos : Int) + ((m + 1 : Nat) : Int)) (y := ((pos + (m + 1) : Nat) : Int)) (by omega) (by omega) (by omega)]
  by_cases c : fr + (m + 1) ≤ to_
  ·rw [if_pos (by omega), decide_eq_false (by omega), sapperref15_Forward.j1, if_neg (by decide)]; rfl
  ·rw [if_neg (by omega), sapperref15_Forward.j1, if_neg (by decide)]; rfl
 | succ d ih =>
  intro i hd hi k hk
  obtain ⟨k, rfl⟩ : ∃ k', k = k' + 2 := ⟨k - 2, by omega⟩
  have next := ih (i + 1) (by omega) (by omega) k (by omega)
  have hc := cnt_le (fwb o pos n fr) i
  have hA : sapperref15_alike.f k (o.drop pos) (n.drop fr) (i : Int) = some (cnt (fwb o pos n fr) i : Int) := by
   rw [alike_ok (by rw [List.length_drop]; omega) (by rw [List.length_drop]; omega) (by rw [List.length_drop]; omega) (by omega)]
   rw [cnt_congr (c := fwb o pos n fr) i (fun j _ => by rw [ch_drop, ch_drop]; (try rfl))]
  rw [sapperref15_Forward.l0, wp (x := (fr : Int) + (i : Int)) (y := ((fr + i : Nat) : Int)) (by omega) (by omega) (by omega), wp (x := (pos : Int) + (i : Int)) (y := ((pos + i : Nat) : Int)) (by omega) (by omega) (by omega), if_pos (by omega), decide_eq_true (by omega), sapperref15_Forward.j1, if_pos rfl, if_pos (by omega), if_pos (by omega), if_pos (by omega), if_pos (by omega), Int.toNat_natCast, Int.toNat_natCast, hA, Option.bind_some, wp (x := 2 * (cnt (fwb o pos n fr) i : Int)) (y := 2 * (cnt (fwb o pos n fr) i : Int)) rfl (by omega) (by omega), wp (x := 2 * (cnt (fwb o pos n fr) i : Int) - (i : Int)) (y := 2 * (cnt (fwb o pos n fr) i : Int) - (i : Int)) rfl (by omega) (by omega), wp (x := (i : Int) + 1) (y := ((i + 1 : Nat) : Int)) (by omega) (by omega) (by omega)]
  rw [Nat.add_sub_cancel] at next
  cases i with
  | zero =>
   rw [if_neg (by show ¬ ((2 : Int) * ((0 : Nat) : Int) - ((0 : Nat) : Int) > 0); decide)]
   exact next
  | succ i =>
   have eb : bo (fwb o pos n fr) (i + 1) = if 2 * (cnt (fwb o pos n fr) (i + 1) : Int) - ((i + 1 : Nat) : Int) > (bo (fwb o pos n fr) i).2 then (i + 1, 2 * (cnt (fwb o pos n fr) (i + 1) : Int) - ((i + 1 : Nat) : Int)) else bo (fwb o pos n fr) i := rfl
   rw [Nat.add_sub_cancel]
   by_cases c : 2 * (cnt (fwb o pos n fr) (i + 1) : Int) - ((i + 1 : Nat) : Int) > (bo (fwb o pos n fr) i).2
   ·rw [if_pos c] at eb
    rw [eb] at next
    rw [if_pos c]
    exact next
   ·rw [if_neg c] at eb
    rw [eb] at next
    rw [if_neg c]
    exact next
theorem refForward_in {pos fr to_ : Nat} (h1 : pos ≤ o.length) (h2 : fr ≤ to_) (h3 : to_ ≤ n.length) {k : Nat} (hk : 3 * n.length + 10 ≤ k) : sapperref15_Forward.f k o (pos : Int) n (fr : Int) (to_ : Int) = some (fwd o pos n fr to_ : Int) := by
 unfold sapperref15_Forward.f sapperref15_within.f
 rw [if_pos (by omega), if_pos (by omega), if_pos (by omega), if_pos (by omega), decide_eq_true (by omega), Option.bind_some, if_pos rfl]
 exact refF_l0 ho hn h1 h2 h3 rfl (min (to_ - fr) (o.length - pos) + 1) 0 (by omega) (by omega) k (by omega)
theorem refB_l0 {pos fr to_ : Nat} (h1 : pos ≤ o.length) (h2 : fr ≤ to_) (h3 : to_ ≤ n.length) {m : Nat} (hm : m = min (to_ - fr) pos) (d : Nat) : ∀ i, m + 1 - i = d → i ≤ m + 1 → ∀ k, 2 * d + m + 3 ≤ k → sapperref15_Backward.l0 k o (pos : Int) n (fr : Int) (to_ : Int) ((bo (bwb o pos n to_) (i - 1)).1 : Int) (bo (bwb o pos n to_) (i - 1)).2 (i : Int) = some ((bo (bwb o pos n to_) m).1 : Int) := by
 induction d with
 | zero =>
  intro i hd hi k hk
  obtain ⟨k, rfl⟩ : ∃ k', k = k' + 2 := ⟨k - 2, by omega⟩
  have : i = m + 1 := by omega
  subst this
  rw [sapperref15_Backward.l0, wp (x := (fr : Int) + ((m + 1 : Nat) : Int)) (y := ((fr + (m + 1) : Nat) : Int)) (by omega) (by omega) (by omega)]
  by_cases c : fr + (m + 1) ≤ to_
  ·rw [if_pos (by omega), decide_eq_false (by omega), sapperref15_Backward.j1, if_neg (by decide)]; rfl
  ·rw [if_neg (by omega), sapperref15_Backward.j1, if_neg (by decide)]; rfl
 | succ d ih =>
  intro i hd hi k hk
  obtain ⟨k, rfl⟩ : ∃ k', k = k' + 2 := ⟨k - 2, by omega⟩
  have next := ih (i + 1) (by omega) (by omega) k (by omega)
  have hc := cnt_le (bwb o pos n to_) i
  have hA : sapperref15_alike.f k (o.drop (pos - i)) (n.drop (to_ - i)) (i : Int) = some (cnt (bwb o pos n to_) i : Int) := by
   rw [alike_ok (by rw [List.length_drop]; omega) (by rw [List.length_drop]; omega) (by rw [List.length_drop]; omega) (by omega)]
   rw [← cnt_rev (bwb o pos n to_) i]
   rw [cnt_congr (c := fun j => bwb o pos n to_ (i - 1 - j)) i (fun j hj => by
    rw [ch_drop, ch_drop]
    show _ = (ch o (pos - 1 - (i - 1 - j)) == ch n (to_ - 1 - (i - 1 - j)))
    rw [show pos - 1 - (i - 1 - j) = pos - i + j by omega, show to_ - 1 - (i - 1 - j) = to_ - i + j by omega])]
  rw [sapperref15_Backward.l0, wp (x := (fr : Int) + (i : Int)) (y := ((fr + i : Nat) : Int)) (by omega) (by omega) (by omega), if_pos (by omega), decide_eq_true (by omega), sapperref15_Backward.j1, if_pos rfl, wp (x := (pos : Int) - (i : Int)) (y := ((pos - i : Nat) : Int)) (by omega) (by omega) (by omega), wp (x := (to_ : Int) - (i : Int)) (y := ((to_ - i : Nat) : Int)) (by omega) (by omega) (by omega), if_pos (by omega), if_pos (by omega), if_pos (by omega), if_pos (by omega), Int.toNat_natCast, Int.toNat_natCast, hA, Option.bind_some, wp (x := 2 * (cnt (bwb o pos n to_) i : Int)) (y := 2 * (cnt (bwb o pos n to_) i : Int)) rfl (by omega) (by omega), wp (x := 2 * (cnt (bwb o pos n to_) i : Int) - (i : Int)) (y := 2 * (cnt (bwb o pos n to_) i : Int) - (i : Int)) rfl (by omega) (by omega), wp (x := (i : Int) + 1) (y := ((i + 1 : Nat) : Int)) (by omega) (by omega) (by omega)]
  rw [Nat.add_sub_cancel] at next
  cases i with
  | zero =>
   rw [if_neg (by show ¬ ((2 : Int) * ((0 : Nat) : Int) - ((0 : Nat) : Int) > 0); decide)]
   exact next
  | succ i =>
   have eb : bo (bwb o pos n to_) (i + 1) = if 2 * (cnt (bwb o pos n to_) (i + 1) : Int) - ((i + 1 : Nat) : Int) > (bo (bwb o pos n to_) i).2 then (i + 1, 2 * (cnt (bwb o pos n to_) (i + 1) : Int) - ((i + 1 : Nat) : Int)) else bo (bwb o pos n to_) i := rfl
   rw [Nat.add_sub_cancel]
   by_cases c : 2 * (cnt (bwb o pos n to_) (i + 1) : Int) - ((i + 1 : Nat) : Int) > (bo (bwb o pos n to_) i).2
   ·rw [if_pos c] at eb
    rw [eb] at next
    rw [if_pos c]
    exact next
   ·rw [if_neg c] at eb
    rw [eb] at next
    rw [if_neg c]
    exact next
theorem refBackward_in {pos fr to_ : Nat} (h1 : pos ≤ o.length) (h2 : fr ≤ to_) (h3 : to_ ≤ n.length) {k : Nat} (hk : 3 * n.length + 10 ≤ k) : sapperref15_Backward.f k o (pos : Int) n (fr : Int) (to_ : Int) = some (bwd o pos n fr to_ : Int) := by
 unfold sapperref15_Backward.f sapperref15_within.f
 rw [if_pos (by omega), if_pos (by omega), if_pos (by omega), if_pos (by omega), decide_eq_true (by omega), Option.bind_some, if_pos rfl]
 exact refB_l0 ho hn h1 h2 h3 rfl (min (to_ - fr) pos + 1) 0 (by omega) (by omega) k (by omega)
theorem refS_l0 {a1 a2 a4 m : Nat} (h1 : a1 + m ≤ o.length) (h2 : a2 + m ≤ o.length) (h4 : a4 + m ≤ n.length) (d : Nat) : ∀ i, m + 1 - i = d → i ≤ m + 1 → ∀ k, d + m + 3 ≤ k → sapperref15_Split.l0 k o (a1 : Int) (a2 : Int) n (a4 : Int) (m : Int) ((sp (sco o a1 a2 n a4) (i - 1)).1 : Int) (sp (sco o a1 a2 n a4) (i - 1)).2 (i : Int) = some ((sp (sco o a1 a2 n a4) m).1 : Int) := by
 induction d with
 | zero =>
  intro i hd hi k hk
  obtain ⟨k, rfl⟩ : ∃ k', k = k' + 1 := ⟨k - 1, by omega⟩
  have : i = m + 1 := by omega
  subst this
  rw [sapperref15_Split.l0, if_neg (by omega)]; rfl
 | succ d ih =>
  intro i hd hi k hk
  obtain ⟨k, rfl⟩ : ∃ k', k = k' + 1 := ⟨k - 1, by omega⟩
  have next := ih (i + 1) (by omega) (by omega) k (by omega)
  have hc := cnt_le (fwb o a1 n a4) i
  have hc2 := cnt_le (fwb o a2 n a4) i
  have hA : ∀ a, a + m ≤ o.length → sapperref15_alike.f k (o.drop a) (n.drop a4) (i : Int) = some (cnt (fwb o a n a4) i : Int) := fun a ha => by
   rw [alike_ok (by rw [List.length_drop]; omega) (by rw [List.length_drop]; omega) (by rw [List.length_drop]; omega) (by omega)]
   rw [cnt_congr (c := fwb o a n a4) i (fun j _ => by rw [ch_drop, ch_drop]; (try rfl))]
  rw [sapperref15_Split.l0, if_pos (by omega), if_pos (by omega), if_pos (by omega), if_pos (by omega), if_pos (by omega), Int.toNat_natCast, Int.toNat_natCast, hA a1 h1, Option.bind_some, if_pos (by omega), if_pos (by omega), Int.toNat_natCast, hA a2 h2, Option.bind_some, wp (x := (cnt (fwb o a1 n a4) i : Int) - (cnt (fwb o a2 n a4) i : Int)) (y := sco o a1 a2 n a4 i) rfl (by unfold sco; omega) (by unfold sco; omega), wp (x := (i : Int) + 1) (y := ((i + 1 : Nat) : Int)) (by omega) (by omega) (by omega)]
  rw [Nat.add_sub_cancel] at next
  cases i with
  | zero =>
   rw [if_neg (by show ¬ ((((0 : Nat) : Int) - ((0 : Nat) : Int)) > 0); decide)]
   exact next
  | succ i =>
   have eb : sp (sco o a1 a2 n a4) (i + 1) = if sco o a1 a2 n a4 (i + 1) > (sp (sco o a1 a2 n a4) i).2 then (i + 1, sco o a1 a2 n a4 (i + 1)) else sp (sco o a1 a2 n a4) i := rfl
   rw [Nat.add_sub_cancel]
   by_cases c : sco o a1 a2 n a4 (i + 1) > (sp (sco o a1 a2 n a4) i).2
   ·rw [if_pos c] at eb
    rw [eb] at next
    rw [if_pos c]
    exact next
   ·rw [if_neg c] at eb
    rw [eb] at next
    rw [if_neg c]
    exact next
theorem refSplit_in {a1 a2 a4 m : Nat} (h1 : a1 + m ≤ o.length) (h2 : a2 + m ≤ o.length) (h4 : a4 + m ≤ n.length) {k : Nat} (hk : 2 * n.length + 10 ≤ k) : sapperref15_Split.f k o (a1 : Int) (a2 : Int) n (a4 : Int) (m : Int) = some ((sp (sco o a1 a2 n a4) m).1 : Int) := by
 obtain ⟨k, rfl⟩ : ∃ k', k = k' + 1 := ⟨k - 1, by omega⟩
 unfold sapperref15_Split.f
 rw [if_neg (by omega), if_neg (by omega), if_neg (by omega), if_neg (by omega), wp (x := (o.length : Int) - (m : Int)) (y := ((o.length - m : Nat) : Int)) (by omega) (by omega) (by omega), if_neg (by omega), if_neg (by omega), wp (x := (n.length : Int) - (m : Int)) (y := ((n.length - m : Nat) : Int)) (by omega) (by omega) (by omega), decide_eq_false (by omega), sapperref15_Split.j0, if_neg (by decide)]
 exact refS_l0 ho hn h1 h2 h4 (m + 1) 0 (by omega) (by omega) k (by omega)
end
end
theorem nat_of {a : Int} (h : 0 ≤ a) : ∃ m : Nat, a = (m : Int) := Int.eq_ofNat_of_zero_le h
section
set_option linter.unusedSectionVars false
variable {o n : List Int} (ho : o.length ≤ 140737488351232) (hn : n.length ≤ 140737488351232)
include ho hn
theorem fwd_any (a b c : Int) : ∃ r, scan_Forward.f o a n b c = some r ∧ ∀ k, 3 * n.length + 10 ≤ k → sapperref15_Forward.f k o a n b c = some r := by
 by_cases h : 0 ≤ a ∧ a ≤ (o.length : Int) ∧ 0 ≤ b ∧ b ≤ c ∧ c ≤ (n.length : Int)
 ·obtain ⟨h1, h2, h3, h4, h5⟩ := h
  obtain ⟨a, rfl⟩ := nat_of h1
  obtain ⟨b, rfl⟩ := nat_of h3
  obtain ⟨c, rfl⟩ := nat_of (show 0 ≤ c by omega)
  exact ⟨_, Forward_in (by omega) (by omega) (by omega) (by omega) (by omega), fun k hk => refForward_in ho hn (by omega) (by omega) (by omega) hk⟩
 ·have e1 : scan_right.f o a n b c = some false := by
   unfold scan_right.f
   by_cases g1 : a ≥ 0
   ·rw [if_pos g1]
    by_cases g2 : a ≤ (o.length : Int)
    ·rw [if_pos g2]
     by_cases g3 : b ≥ 0
     ·rw [if_pos g3]
      by_cases g4 : b ≤ c
      ·rw [if_pos g4, decide_eq_false (by omega)]
      ·rw [if_neg g4]
     ·rw [if_neg g3]
    ·rw [if_neg g2]
   ·rw [if_neg g1]
  have e2 : sapperref15_within.f a o b c n = some false := e1
  refine ⟨0, ?_, fun k _ => ?_⟩
  ·unfold scan_Forward.f
   rw [e1, Option.bind_some, if_neg (by decide)]
  ·unfold sapperref15_Forward.f
   rw [e2, Option.bind_some, if_neg (by decide)]
theorem bwd_any (a b c : Int) : ∃ r, scan_Backward.f o a n b c = some r ∧ ∀ k, 3 * n.length + 10 ≤ k → sapperref15_Backward.f k o a n b c = some r := by
 by_cases h : 0 ≤ a ∧ a ≤ (o.length : Int) ∧ 0 ≤ b ∧ b ≤ c ∧ c ≤ (n.length : Int)
 ·obtain ⟨h1, h2, h3, h4, h5⟩ := h
  obtain ⟨a, rfl⟩ := nat_of h1
  obtain ⟨b, rfl⟩ := nat_of h3
  obtain ⟨c, rfl⟩ := nat_of (show 0 ≤ c by omega)
  exact ⟨_, Backward_in (by omega) (by omega) (by omega) (by omega) (by omega), fun k hk => refBackward_in ho hn (by omega) (by omega) (by omega) hk⟩
 ·have e1 : scan_right.f o a n b c = some false := by
   unfold scan_right.f
   by_cases g1 : a ≥ 0
   ·rw [if_pos g1]
    by_cases g2 : a ≤ (o.length : Int)
    ·rw [if_pos g2]
     by_cases g3 : b ≥ 0
     ·rw [if_pos g3]
      by_cases g4 : b ≤ c
      ·rw [if_pos g4, decide_eq_false (by omega)]
      ·rw [if_neg g4]
     ·rw [if_neg g3]
    ·rw [if_neg g2]
   ·rw [if_neg g1]
  have e2 : sapperref15_within.f a o b c n = some false := e1
  refine ⟨0, ?_, fun k _ => ?_⟩
  ·unfold scan_Backward.f
   rw [e1, Option.bind_some, if_neg (by decide)]
  ·unfold sapperref15_Backward.f
   rw [e2, Option.bind_some, if_neg (by decide)]
theorem spl1_is (l : List Int) (hl : l.length ≤ 140737488351232) (a m : Int) : spl1 l a m = (decide (0 ≤ a) && decide (a ≤ (l.length : Int)) && decide (m ≤ (l.length : Int) - a)) := by
 unfold spl1
 by_cases h1 : 0 ≤ a
 ·by_cases h2 : a ≤ (l.length : Int)
  ·rw [wp (x := (l.length : Int) - a) (y := (l.length : Int) - a) rfl (by omega) (by omega)]
  ·rw [decide_eq_false h2]; simp
 ·rw [decide_eq_false h1]; rfl
theorem spl_any (a b c m : Int) (hm : m ≤ 9223372036854775807) : ∃ r, scan_Split.f o a b n c m = some r ∧ ∀ k, 2 * n.length + 10 ≤ k → sapperref15_Split.f k o a b n c m = some r := by
 by_cases h : 0 ≤ m ∧ 0 ≤ a ∧ a + m ≤ (o.length : Int) ∧ 0 ≤ b ∧ b + m ≤ (o.length : Int) ∧ 0 ≤ c ∧ c + m ≤ (n.length : Int)
 ·obtain ⟨h1, h2, h3, h4, h5, h6, h7⟩ := h
  obtain ⟨a, rfl⟩ := nat_of h2
  obtain ⟨b, rfl⟩ := nat_of h4
  obtain ⟨c, rfl⟩ := nat_of h6
  obtain ⟨m, rfl⟩ := nat_of h1
  exact ⟨_, Split_in (by omega) (by omega) (by omega) (by omega) (by omega), fun k hk => refSplit_in ho hn (by omega) (by omega) (by omega) hk⟩
 ·refine ⟨0, ?_, fun k hk => ?_⟩
  ·unfold scan_Split.f
   by_cases g0 : m < 0
   ·rw [if_pos g0]
   ·rw [if_neg g0, spl1_is ho hn o ho, spl1_is ho hn o ho, spl1_is ho hn n hn]
    by_cases g1 : (decide (0 ≤ a) && decide (a ≤ (o.length : Int)) && decide (m ≤ (o.length : Int) - a)) = true
    ·rw [if_pos g1]
     by_cases g2 : (decide (0 ≤ b) && decide (b ≤ (o.length : Int)) && decide (m ≤ (o.length : Int) - b)) = true
     ·rw [if_pos g2, if_neg (fun g3 => h ?_)]
      simp only [Bool.and_eq_true, decide_eq_true_eq] at g1 g2 g3
      omega
     ·rw [if_neg g2]
    ·rw [if_neg g1]
  ·obtain ⟨k, rfl⟩ : ∃ k', k = k' + 1 := ⟨k - 1, by omega⟩
   have z : sapperref15_Split.j0 (k + 1) o a b n c m true = some 0 := by rw [sapperref15_Split.j0, if_pos rfl]
   unfold sapperref15_Split.f
   by_cases g0 : m < 0
   ·rw [if_pos g0, z]
   rw [if_neg g0]
   by_cases g1 : a < 0
   ·rw [if_pos g1, z]
   rw [if_neg g1]
   by_cases g2 : b < 0
   ·rw [if_pos g2, z]
   rw [if_neg g2]
   by_cases g3 : c < 0
   ·rw [if_pos g3, z]
   rw [if_neg g3, wp (x := (o.length : Int) - m) (y := (o.length : Int) - m) rfl (by omega) (by omega)]
   by_cases g4 : a > (o.length : Int) - m
   ·rw [if_pos g4, z]
   rw [if_neg g4]
   by_cases g5 : b > (o.length : Int) - m
   ·rw [if_pos g5, z]
   rw [if_neg g5, wp (x := (n.length : Int) - m) (y := (n.length : Int) - m) rfl (by omega) (by omega), decide_eq_true (by omega), z]
end
def toR (s : S39) : S38 := ⟨s.f0, s.f1, s.f2⟩
theorem wrap_le (x : Int) : wrap64 x ≤ 9223372036854775807 := by
 unfold wrap64
 omega
section
variable {o n : List Int} {x : S48} (ho : o.length ≤ 16777216) (hn : n.length ≤ 16777216) (hx : IsIx o x)
set_option linter.unusedSectionVars false
attribute [local irreducible] cv fr tov rk3 loc2 ch rank
include ho hn
theorem j6_step {s s2 : Wk} {f b : Int} (h : stepMid o n s f b = some s2) {R : List S38 × Int} (hR : Ev (fun k => sapperref15_Steps.l0 k o n (s2.st.map toR) s2.dn s2.bs s2.sh s2.a s2.n s2.ps) R) :
  Ev (fun k => sapperref15_Steps.j6 k o n (s.st.map toR) s.dn s.bs s.a s.n s.ps f b) R := by
 have ends : ∀ (f b : Int), stepEnd n s f b = some s2 → ∀ k, (if s.a = (n.length : Int) then (if (s.st.map toR).length < 5864062014805 then (sapperref15_Steps.l0 k o n (s.st.map toR ++ [(⟨f, wrap64 ((wrap64 (s.a - b)) - (wrap64 (s.dn + f))), 0⟩ : S38)]) (wrap64 (s.a - b)) (wrap64 (s.ps - b)) (wrap64 (s.ps - s.a)) s.a s.n s.ps) else none) else (if (s.st.map toR).length < 5864062014805 then (sapperref15_Steps.l0 k o n (s.st.map toR ++ [(⟨f, wrap64 ((wrap64 (s.a - b)) - (wrap64 (s.dn + f))), wrap64 ((wrap64 (s.ps - b)) - (wrap64 (s.bs + f)))⟩ : S38)]) (wrap64 (s.a - b)) (wrap64 (s.ps - b)) (wrap64 (s.ps - s.a)) s.a s.n s.ps) else none)) = sapperref15_Steps.l0 k o n (s2.st.map toR) s2.dn s2.bs s2.sh s2.a s2.n s2.ps := by
  intro f b he k
  unfold stepEnd at he
  by_cases c : s.st.length < 5864062014805
  ·rw [if_pos c] at he
   obtain rfl := Option.some.inj he
   rw [List.length_map, if_pos c, if_pos c]
   dsimp only
   rw [List.map_append]
   by_cases c2 : s.a = (n.length : Int)
   ·rw [if_pos c2, if_pos c2]; rfl
   ·rw [if_neg c2, if_neg c2]; rfl
  ·rw [if_neg c] at he; cases he
 unfold stepMid ovr at h
 by_cases c : wrap64 (wrap64 (s.dn + f) - wrap64 (s.a - b)) > 0
 ·rw [if_pos c] at h
  obtain ⟨kk, hk, h⟩ := Option.bind_eq_some_iff.mp h
  obtain ⟨r, hr, hs⟩ := spl_any (o := o) (n := n) (by omega) (by omega) (wrap64 (wrap64 (s.bs + f) - wrap64 (wrap64 (s.dn + f) - wrap64 (s.a - b)))) (wrap64 (s.ps - b)) (wrap64 (wrap64 (s.dn + f) - wrap64 (wrap64 (s.dn + f) - wrap64 (s.a - b)))) (wrap64 (wrap64 (s.dn + f) - wrap64 (s.a - b))) (wrap_le _)
  rw [hk] at hr
  obtain rfl := Option.some.inj hr
  refine ev_step hR ⟨2 * n.length + 10, fun k hK => ?_⟩
  (try dsimp only)
  rw [sapperref15_Steps.j6, if_pos c, hs k hK, Option.bind_some]
  exact ends _ _ h k
 ·rw [if_neg c] at h
  refine ev_step hR ⟨0, fun k hK => ?_⟩
  (try dsimp only)
  rw [sapperref15_Steps.j6, if_neg c]
  exact ends _ _ h k
theorem j5_step {s s2 : Wk} (ha : s.a ≤ (n.length : Int)) (h : stepF o n s = some s2) {R : List S38 × Int} (hR : Ev (fun k => sapperref15_Steps.l0 k o n (s2.st.map toR) s2.dn s2.bs s2.sh s2.a s2.n s2.ps) R) (sh : Int) :
  Ev (fun k => sapperref15_Steps.j5 k o n (s.st.map toR) s.dn s.bs sh s.a s.n s.ps false) R := by
 unfold stepF at h
 obtain ⟨f, hf, h⟩ := Option.bind_eq_some_iff.mp h
 obtain ⟨r, hr, hF⟩ := fwd_any (o := o) (n := n) (by omega) (by omega) s.bs s.dn s.a
 rw [hf] at hr
 obtain rfl := Option.some.inj hr
 by_cases c : s.a = (n.length : Int)
 ·rw [if_pos c] at h
  refine ev_step (j6_step ho hn h hR) ⟨3 * n.length + 10, fun k hK => ?_⟩
  (try dsimp only)
  rw [sapperref15_Steps.j5, if_neg (by decide), hF k hK, Option.bind_some, if_neg (by omega)]
 ·rw [if_neg c] at h
  obtain ⟨b, hb, h⟩ := Option.bind_eq_some_iff.mp h
  obtain ⟨r, hr, hB⟩ := bwd_any (o := o) (n := n) (by omega) (by omega) s.ps s.dn s.a
  rw [hb] at hr
  obtain rfl := Option.some.inj hr
  refine ev_step (j6_step ho hn h hR) ⟨3 * n.length + 10, fun k hK => ?_⟩
  (try dsimp only)
  rw [sapperref15_Steps.j5, if_neg (by decide), hF k hK, Option.bind_some, if_pos (by omega), hB k hK, Option.bind_some]
theorem j4_step {s s2 : Wk} (ha : s.a ≤ (n.length : Int)) (h : stepF o n s = some s2) (hc : s.n ≠ s.sc ∨ s.a = (n.length : Int)) {R : List S38 × Int} (hR : Ev (fun k => sapperref15_Steps.l0 k o n (s2.st.map toR) s2.dn s2.bs s2.sh s2.a s2.n s2.ps) R) (sh : Int) :
  Ev (fun k => sapperref15_Steps.j4 k o n (s.st.map toR) s.dn s.bs sh s.a s.n s.ps s.sc) R := by
 refine ev_step (j5_step ho hn ha h hR sh) ⟨0, fun k _ => ?_⟩
 (try dsimp only)
 rw [sapperref15_Steps.j4]
 by_cases c : s.n = s.sc
 ·rw [if_pos c]
  have e : (s.a != (n.length : Int)) = false := bne_eq_false_iff_eq.mpr (hc.resolve_left (fun h => h c))
  rw [e]
 ·rw [if_neg c]
theorem j4_on {s : Wk} (hs : s.n = s.sc) (ha : s.a ≠ (n.length : Int)) {l : List S38} {R : List S38 × Int} (hR : Ev (fun k => sapperref15_Steps.l0 k o n l s.dn s.bs s.sh s.a s.n s.ps) R) :
  Ev (fun k => sapperref15_Steps.j4 k o n l s.dn s.bs s.sh s.a s.n s.ps s.sc) R := by
 refine ev_step (h := fun k => sapperref15_Steps.j4 k o n l s.dn s.bs s.sh s.a s.n s.ps s.sc) (g := fun k => sapperref15_Steps.j5 k o n l s.dn s.bs s.sh s.a s.n s.ps true) (ev_step hR ⟨0, fun k _ => ?_⟩) ⟨0, fun k _ => ?_⟩
 ·(try dsimp only)
  rw [sapperref15_Steps.j5, if_pos rfl]
 ·(try dsimp only)
  have e : (s.a != (n.length : Int)) = true := bne_iff_ne.mpr ha
  rw [sapperref15_Steps.j4, if_pos hs, e]
include hx
theorem stl_ref (d : Nat) : ∀ (s : Wk) (a nn dn bs : Nat), n.length - (a + nn) ≤ d → a + nn ≤ n.length → s.a = (a : Int) → s.n = (nn : Int) → s.dn = (dn : Int) → s.bs = (bs : Int) → dn ≤ a → bs ≤ o.length → -16777216 ≤ s.sh ∧ s.sh ≤ 16777216 → s.st.length ≤ a + nn →
  ∃ r : Wk, Ev (fun k => stl k [x] o n s) r ∧ Ev (fun k => sapperref15_Steps.l0 k o n (s.st.map toR) s.dn s.bs s.sh s.a s.n s.ps) (r.st.map toR, 0) := by
 induction d with
 | zero =>
  intro s a nn dn bs hd he h1 h2 h3 h4 h5 h6 h7 h8
  by_cases c : a = n.length
  ·refine ⟨s, ⟨1, fun k hk => ?_⟩, ⟨1, fun k hk => ?_⟩⟩
   ·obtain ⟨k, rfl⟩ : ∃ k', k = k' + 1 := ⟨k - 1, by omega⟩
    (try dsimp only)
    rw [stl, if_neg (by rw [h1]; omega)]
   ·obtain ⟨k, rfl⟩ : ∃ k', k = k' + 1 := ⟨k - 1, by omega⟩
    (try dsimp only)
    rw [sapperref15_Steps.l0, if_neg (by rw [h1]; omega)]
  obtain ⟨r, ⟨K, g1⟩, g2, g3, g4, g5, ⟨a', g6, g7, g8, g9⟩, gc⟩ := look_ok ho hn h7 hx he s rfl h1 h2
  have ea : a' = n.length := by omega
  subst ea
  have hS := step_end ho hn r (dn := dn) (bs := bs) (by rw [g2, h3]) (by rw [g3, h4]) g6 (by omega) h6 (by rw [g5]; omega)
  have hf := fwd_le (o := o) (n := n) (by omega) (by omega) bs dn n.length
  generalize fwd o bs n dn n.length = f at hS hf
  refine ⟨{ r with st := r.st ++ [⟨(f : Int), ((n.length - (dn + f) : Nat) : Int), 0⟩], dn := (n.length : Int), bs := wrap64 r.ps, sh := wrap64 (r.ps - r.a) }, ⟨K + 3, fun k hk => ?_⟩, ?_⟩
  ·obtain ⟨k, rfl⟩ : ∃ k', k = k' + 2 := ⟨k - 2, by omega⟩
   (try dsimp only)
   rw [stl, if_pos (by rw [h1]; omega), show lookF (k + 1) [x] o n s = some r from g1 (k + 1) (by omega), Option.bind_some, hS, Option.bind_some, if_pos g6, ite_self]
   rw [stl, if_neg (by show ¬ (r.a < _); rw [g6]; omega)]
  ·refine gc (by omega) _ _ ?_
   rw [← g5]
   refine j4_step ho hn (by omega) hS (.inr g6) ⟨1, fun k hk => ?_⟩ _
   obtain ⟨k, rfl⟩ : ∃ k', k = k' + 1 := ⟨k - 1, by omega⟩
   (try dsimp only)
   rw [sapperref15_Steps.l0, if_neg (by rw [g6]; omega)]
 | succ d ih =>
  intro s a nn dn bs hd he h1 h2 h3 h4 h5 h6 h7 h8
  by_cases c : a = n.length
  ·refine ⟨s, ⟨1, fun k hk => ?_⟩, ⟨1, fun k hk => ?_⟩⟩
   ·obtain ⟨k, rfl⟩ : ∃ k', k = k' + 1 := ⟨k - 1, by omega⟩
    (try dsimp only)
    rw [stl, if_neg (by rw [h1]; omega)]
   ·obtain ⟨k, rfl⟩ : ∃ k', k = k' + 1 := ⟨k - 1, by omega⟩
    (try dsimp only)
    rw [sapperref15_Steps.l0, if_neg (by rw [h1]; omega)]
  obtain ⟨r, ⟨K, g1⟩, g2, g3, g4, g5, ⟨a', g6, g7, g8, g9⟩, gc⟩ := look_ok ho hn h7 hx he s rfl h1 h2
  by_cases ea : a' = n.length
  ·subst ea
   have hS := step_end ho hn r (dn := dn) (bs := bs) (by rw [g2, h3]) (by rw [g3, h4]) g6 (by omega) h6 (by rw [g5]; omega)
   have hf := fwd_le (o := o) (n := n) (by omega) (by omega) bs dn n.length
   generalize fwd o bs n dn n.length = f at hS hf
   refine ⟨{ r with st := r.st ++ [⟨(f : Int), ((n.length - (dn + f) : Nat) : Int), 0⟩], dn := (n.length : Int), bs := wrap64 r.ps, sh := wrap64 (r.ps - r.a) }, ⟨K + 3, fun k hk => ?_⟩, ?_⟩
   ·obtain ⟨k, rfl⟩ : ∃ k', k = k' + 2 := ⟨k - 2, by omega⟩
    (try dsimp only)
    rw [stl, if_pos (by rw [h1]; omega), show lookF (k + 1) [x] o n s = some r from g1 (k + 1) (by omega), Option.bind_some, hS, Option.bind_some, if_pos g6, ite_self]
    rw [stl, if_neg (by show ¬ (r.a < _); rw [g6]; omega)]
   ·refine gc (by omega) _ _ ?_
    rw [← g5]
    refine j4_step ho hn (by omega) hS (.inr g6) ⟨1, fun k hk => ?_⟩ _
    obtain ⟨k, rfl⟩ : ∃ k', k = k' + 1 := ⟨k - 1, by omega⟩
    (try dsimp only)
    rw [sapperref15_Steps.l0, if_neg (by rw [g6]; omega)]
  obtain ⟨e1, e2, e3⟩ := g9 (by omega)
  obtain ⟨hin1, hin2⟩ := lgs_in ho hn h7 (a := a') g8
  generalize (lgs o (n.drop a') o.length).1 = ps at *
  generalize (lgs o (n.drop a') o.length).2 = nn' at *
  by_cases cs : r.n = r.sc
  ·obtain ⟨q, ⟨K2, q1⟩, q2⟩ := ih r a' nn' dn bs (by omega) hin1 g6 e2 (by rw [g2, h3]) (by rw [g3, h4]) (by omega) h6 (by rw [g4]; exact h7) (by rw [g5]; omega)
   refine ⟨q, ⟨K + K2 + 1, fun k hk => ?_⟩, gc (by omega) _ _ (j4_on ho hn cs (by rw [g6]; omega) (by rw [← g5]; exact q2))⟩
   obtain ⟨k, rfl⟩ : ∃ k', k = k' + 1 := ⟨k - 1, by omega⟩
   (try dsimp only)
   rw [stl, if_pos (by rw [h1]; omega), show lookF k [x] o n s = some r from g1 k (by omega), Option.bind_some, if_pos cs, if_neg (by rw [g6]; omega)]
   exact q1 k (by omega)
  ·obtain ⟨f, b, hS, k1, k2, k3⟩ := step_in ho hn r (dn := dn) (bs := bs) (a := a') (ps := ps) (by rw [g2, h3]) (by rw [g3, h4]) g6 e1 (by omega) (by omega) h6 (by omega) (by rw [g5]; omega)
   obtain ⟨q, ⟨K2, q1⟩, q2⟩ := ih { r with st := r.st ++ [⟨(f : Int), ((a' - b - (dn + f) : Nat) : Int), ((ps - b : Nat) : Int) - ((bs + f : Nat) : Int)⟩], dn := ((a' - b : Nat) : Int), bs := ((ps - b : Nat) : Int), sh := (ps : Int) - (a' : Int) } a' nn' (a' - b) (ps - b) (by omega) hin1 g6 e2 rfl rfl (by omega) (by omega) (by (try dsimp only); omega) (by dsimp only; rw [g5, List.length_append, List.length_singleton]; omega)
   refine ⟨q, ⟨K + K2 + 1, fun k hk => ?_⟩, gc (by omega) _ _ ?_⟩
   ·obtain ⟨k, rfl⟩ : ∃ k', k = k' + 1 := ⟨k - 1, by omega⟩
    (try dsimp only)
    rw [stl, if_pos (by rw [h1]; omega), show lookF k [x] o n s = some r from g1 k (by omega), Option.bind_some, if_neg cs, hS, Option.bind_some]
    exact q1 k (by omega)
   ·rw [← g5]
    exact j4_step ho hn (by omega) hS (.inl cs) q2 _
theorem Steps_same : ∃ K l, ∀ k, K ≤ k → scan_Steps.f k [x] n = some (l, 0) ∧ sapperref15_Steps.f k o n = some (l.map toR, 0) := by
 obtain ⟨r, ⟨K, g⟩, ⟨K3, hp⟩⟩ := stl_ref ho hn hx n.length ⟨0, 0, 0, 0, 0, 0, 0, 0, []⟩ 0 0 0 0 (by omega) (by omega) rfl rfl rfl rfl (Nat.le_refl _) (Nat.zero_le _) (by decide) (Nat.le_refl _)
 obtain ⟨K2, h2⟩ := Range_ok ho hx []
 refine ⟨K + K2 + K3, r.st, fun k hk => ⟨?_, ?_⟩⟩
 ·unfold scan_Steps.f
  rw [h2 k (by omega), Option.bind_some]
  dsimp only
  rw [if_pos rfl, if_neg (by omega), Data_f ho hx, Option.bind_some, show stl k [x] o n ⟨0, 0, 0, 0, 0, 0, 0, 0, []⟩ = some r from g k (by omega), Option.bind_some]
 ·unfold sapperref15_Steps.f
  rw [if_neg (by omega)]
  exact hp k (by omega)
end
end Go.Proofs.Ytobknpeglagaaaa.SD
end
