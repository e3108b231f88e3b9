import Derived.Test.YthcnnfahlhklgaaSB
import Derived.Test.YthcnnfahlhklgaaXK
import Derived.Test.YthcnnfahlhklgaaXx13
import Derived.Test.YthcnnfahlhklgaaXx20
import Derived.Test.YthcnnfahlhklgaaXx14
import Derived.Test.YthcnnfahlhklgaaXC
import Derived.Test.YthcnnfahlhklgaaXx23
import Derived.Test.YthcnnfahlhklgaaXx25
section
/- The printed functions sorted, same, New and the accessors of package suffix, and build: an index of any bytes (at most 2^24) has their order, the ranks, and what neighbours have in common. -/
namespace Go.Proofs.Ythcnnfahlhklgaa.SD
open Go.RowKit Go.Proofs.Ythcnnfahlhklgaa Go.Proofs.Ythcnnfahlhklgaa.X Go.Proofs.Ythcnnfahlhklgaa.SM Go.Proofs.YthcnnfahlhklgaaW.PrintWords Go.Proofs.YthcnnfahlhklgaaW.PrintLast

section
variable {s : List Int}
attribute [local irreducible] cn cv fr tov rk3 loc2 ch rank

theorem byte_wf' {x : Int} (h : (Lit.int .u8 x).wf = true) : 0 ≤ x ∧ x < 256 := by
  simp [Lit.wf, IntKind.min, IntKind.max, IntKind.signed, IntKind.bits] at h
  omega
/-- Bytes. -/
def Byt (s : List Int) : Prop := ∀ q, q < s.length → 0 ≤ ch s q ∧ ch s q < 256
theorem ch_mem' {l : List Int} {q : Nat} (h : q < l.length) : ch l q ∈ l := by
  unfold ch
  rw [List.getD_eq_getElem?_getD, List.getElem?_eq_getElem h]
  exact List.getElem_mem h
theorem byt_wf {l : List Int} (h : ∀ x ∈ l, (Lit.int .u8 x).wf = true) : Byt l := fun _ hq => byte_wf' (h _ (ch_mem' hq))

/-- Places by rank. -/
def P (sa : List Int) (r : Nat) : Nat := (ch sa r).toNat
theorem P_rank {sa : List Int} (h : IsSA s sa) {i : Nat} (hi : i < s.length) : P sa (rank s.length (ch s) i) = i := by
  unfold P; rw [h.2 i hi]; omega
theorem sa_at {sa : List Int} (h : IsSA s sa) {r : Nat} (hr : r < s.length) : ch sa r = (P sa r : Int) ∧ P sa r < s.length ∧ rank s.length (ch s) (P sa r) = r := by
  obtain ⟨i, hi, hir⟩ := rank_onto (c := ch s) hr
  have h1 := h.2 i hi
  rw [hir] at h1
  have h2 : P sa r = i := by unfold P; rw [h1]; omega
  rw [h2, h1]
  exact ⟨rfl, hi, hir⟩
/-- What the suffix of rank r has in common with the one ahead. -/
def lcv (s sa : List Int) (r : Nat) : Nat := if r = 0 then 0 else com s.length (ch s) (P sa (r - 1)) (P sa r)
/-- An index of s. -/
def IsIx (s : List Int) (x : S82) : Prop :=
  x.f0 = true ∧ x.f1 = s ∧ IsSA s x.f2 ∧ x.f3.length = s.length ∧ (∀ i, i < s.length → ch x.f3 i = (rank s.length (ch s) i : Int)) ∧
  x.f4.length = s.length ∧ ∀ r, r < s.length → ch x.f4 r = (lcv s x.f2 r : Int)

theorem sorted_loop (hs : s.length ≤ 16777216) (hb : Byt s) (d : Nat) : ∀ q (o : List Int), s.length - q = d → q ≤ s.length → o.length = s.length → (∀ j, j < q → ch o j = ch s j) → ∀ k, suffix_sorted.l0 (k + d + 1) o s (s.length : Int) (q : Int) = (sais_Array.f (k + d - (s.length - q)) 256 s).bind fun b => some (b.1, b.2) := by
  induction d with
  | zero =>
    intro q o hd hq ho hp k
    have e : o = s := by
      apply List.ext_getElem?
      intro j
      rcases Nat.lt_or_ge j s.length with hj | hj
      · have h1 := hp j (by omega)
        unfold ch at h1
        rw [List.getD_eq_getElem?_getD, List.getD_eq_getElem?_getD, List.getElem?_eq_getElem (by omega), List.getElem?_eq_getElem hj] at h1
        rw [List.getElem?_eq_getElem (by omega), List.getElem?_eq_getElem hj]
        simpa using h1
      · rw [List.getElem?_eq_none (by omega), List.getElem?_eq_none hj]
    rw [show k + 0 + 1 = k + 1 by omega, suffix_sorted.l0, if_neg (by omega), e, show k + 0 - (s.length - q) = k by omega]
  | succ d ih =>
    intro q o hd hq ho hp k
    have hv := hb q (by omega)
    have next := ih (q + 1) (o.set q (ch s q)) (by omega) (by omega) (by rw [List.length_set]; exact ho) (fun j hj => by
      rw [ch_set _ _ _ _ (by omega)]
      by_cases e : q = j
      · rw [if_pos e, ← e]
      · rw [if_neg e]; exact hp j (by omega)) k
    rw [show k + (d + 1) + 1 = k + d + 1 + 1 by omega, suffix_sorted.l0, if_pos (by omega), if_pos (by omega), if_pos (by omega), if_pos (by omega), rd_nat, wp (x := ch s q) rfl (by omega) (by omega), wp (x := (q : Int) + 1) (y := ((q + 1 : Nat) : Int)) (by omega) (by omega) (by omega), Int.toNat_natCast, next, show k + d - (s.length - (q + 1)) = k + (d + 1) - (s.length - q) by omega]
/-- The order of any bytes. -/
theorem sorted_ok (hs : s.length ≤ 16777216) (hb : Byt s) : ∃ K sa, (∀ k, K ≤ k → suffix_sorted.f k s = some (sa, 0)) ∧ IsSA s sa := by
  obtain ⟨K, sa, h1, h2⟩ := Array_ok (k0 := 256) (s := s) ⟨by omega, by omega, hs, hb⟩
  refine ⟨K + s.length + 1, sa, fun k hk => ?_, h2⟩
  unfold suffix_sorted.f
  rw [if_neg (by omega), if_pos (by omega), if_pos (by omega), Int.toNat_natCast]
  have := sorted_loop hs hb s.length 0 (List.replicate s.length 0) (by omega) (by omega) (by simp) (fun j hj => by omega) (k - s.length - 1)
  rw [show k - s.length - 1 + s.length + 1 = k by omega] at this
  rw [show ((0 : Nat) : Int) = 0 from rfl] at this
  rw [this, h1 _ (by omega)]; rfl
theorem sorted_many (hs : 16777216 < s.length) (k : Nat) : suffix_sorted.f k s = some ([], 130) := by
  unfold suffix_sorted.f
  rw [if_pos (by omega)]

/-- same, from two places on. -/
theorem sameIx_loop {y : S82} (hy : y.f1 = s) (hs : s.length ≤ 16777216) {i j : Nat} (hi : i ≤ s.length) (hj : j ≤ s.length) (d : Nat) : ∀ q, com s.length (ch s) i j - q = d → q ≤ com s.length (ch s) i j → ∀ k, suffix_Index_same.l0 (k + d + 1) [y] (i : Int) (j : Int) (q : Int) = some (com s.length (ch s) i j : Int) := by
  have hrd : rd_T82 [y] 0 = y := rfl
  have hle := com_le (n := s.length) (c := ch s) i j
  have w1 : ∀ q : Nat, q ≤ s.length → wrap64 ((i : Int) + (q : Int)) = ((i + q : Nat) : Int) := fun q hq => wp (by omega) (by omega) (by omega)
  have w2 : ∀ q : Nat, q ≤ s.length → wrap64 ((j : Int) + (q : Int)) = ((j + q : Nat) : Int) := fun q hq => wp (by omega) (by omega) (by omega)
  induction d with
  | zero =>
    intro q hd hq k
    have hqe : q = com s.length (ch s) i j := by omega
    have he := com_end (n := s.length) (c := ch s) (i := i) (j := j)
    rw [← hqe] at he ⊢
    rw [show k + 0 + 1 = k + 1 by omega, suffix_Index_same.l0, hrd, hy, w1 q (by omega), w2 q (by omega), if_pos (by simp)]
    by_cases h1 : i + q < s.length
    · rw [if_pos (by omega)]
      by_cases h2 : j + q < s.length
      · rw [if_pos (by omega), if_pos (by omega), if_pos (by omega), rd_nat, rd_nat, if_neg (fun h3 => he ⟨h1, h2, h3⟩)]
      · rw [if_neg (by omega)]
    · rw [if_neg (by omega)]
  | succ d ih =>
    intro q hd hq k
    have hg := com_get (n := s.length) (c := ch s) (i := i) (j := j) (q := q) (by omega)
    rw [show k + (d + 1) + 1 = k + d + 1 + 1 by omega, suffix_Index_same.l0, hrd, hy, w1 q (by omega), w2 q (by omega), if_pos (by simp), if_pos (by omega), if_pos (by omega), if_pos (by omega), if_pos (by omega), rd_nat, rd_nat, if_pos hg.2.2, wp (x := (q : Int) + 1) (y := ((q + 1 : Nat) : Int)) (by omega) (by omega) (by omega)]
    exact ih (q + 1) (by omega) (by omega) k
theorem sameIx_f {y : S82} (hy : y.f1 = s) (hs : s.length ≤ 16777216) {i j : Nat} (hi : i ≤ s.length) (hj : j ≤ s.length) {k : Nat} (hk : com s.length (ch s) i j + 1 ≤ k) : suffix_Index_same.f k [y] (i : Int) (j : Int) = some (com s.length (ch s) i j : Int) := by
  unfold suffix_Index_same.f
  have := sameIx_loop hy hs hi hj (com s.length (ch s) i j) 0 (by omega) (by omega) (k - com s.length (ch s) i j - 1)
  rw [show k - com s.length (ch s) i j - 1 + com s.length (ch s) i j + 1 = k by omega] at this
  exact this

theorem build_r_ok (hs : s.length ≤ 16777216) {sa : List Int} (hsa : IsSA s sa) (d : Nat) : ∀ q (o : List Int), s.length - q = d → q ≤ s.length → o.length = s.length → (∀ i, i < s.length → rank s.length (ch s) i < q → ch o i = (rank s.length (ch s) i : Int)) →
    ∃ o', o'.length = s.length ∧ (∀ i, i < s.length → ch o' i = (rank s.length (ch s) i : Int)) ∧ ∀ k, build_r (k + d + 1) s.length sa o (q : Int) = some o' := by
  induction d with
  | zero =>
    intro q o hd hq ho hp
    refine ⟨o, ho, fun i hi => hp i hi (by have := rank_lt (c := ch s) hi; omega), fun k => ?_⟩
    rw [show k + 0 + 1 = k + 1 by omega, build_r, if_neg (by omega)]
  | succ d ih =>
    intro q o hd hq ho hp
    obtain ⟨h1, h2, h3⟩ := sa_at hsa (show q < s.length by omega)
    obtain ⟨o', g1, g2, g3⟩ := ih (q + 1) (o.set (P sa q) (q : Int)) (by omega) (by omega) (by rw [List.length_set]; exact ho) (fun i hi hr => by
      rw [ch_set _ _ _ _ (by omega)]
      by_cases e : P sa q = i
      · rw [if_pos e, ← e, h3]
      · rw [if_neg e]
        refine hp i hi ?_
        have : rank s.length (ch s) i ≠ q := fun e2 => e (rank_inj h2 hi (by rw [h3, e2]))
        omega)
    refine ⟨o', g1, g2, fun k => ?_⟩
    rw [show k + (d + 1) + 1 = k + d + 1 + 1 by omega, build_r, if_pos (by omega), if_pos (by omega), rd_nat, h1, if_pos (by omega), if_pos (by omega), Int.toNat_natCast, wp (x := (q : Int) + 1) (y := ((q + 1 : Nat) : Int)) (by omega) (by omega) (by omega)]
    exact g3 k

theorem build_l_ok (hs : s.length ≤ 16777216) {sa rk : List Int} (hsa : IsSA s sa) (hrl : rk.length = s.length) (hrk : ∀ i, i < s.length → ch rk i = (rank s.length (ch s) i : Int)) (d : Nat) : ∀ i h (l : List Int), s.length - i = d → i ≤ s.length → l.length = s.length → h ≤ s.length → (i < s.length → 0 < rank s.length (ch s) i → h ≤ com s.length (ch s) (P sa (rank s.length (ch s) i - 1)) i) →
    (∀ j, j < s.length → j < i ∨ rank s.length (ch s) j = 0 → ch l (rank s.length (ch s) j) = (lcv s sa (rank s.length (ch s) j) : Int)) →
    ∃ l', l'.length = s.length ∧ (∀ r, r < s.length → ch l' r = (lcv s sa r : Int)) ∧ ∀ k, build_l (k + d + 2) s.length s sa rk l (h : Int) (i : Int) = some l' := by
  induction d with
  | zero =>
    intro i h l hd hi hl hh hc hp
    refine ⟨l, hl, fun r hr => ?_, fun k => ?_⟩
    · obtain ⟨j, hj, hjr⟩ := rank_onto (c := ch s) hr
      rw [← hjr]; exact hp j hj (.inl (by omega))
    · rw [show k + 0 + 2 = k + 1 + 1 by omega, build_l, if_neg (by omega)]
  | succ d ih =>
    intro i h l hd hi hl hh hc hp
    have hi' : i < s.length := by omega
    have hrlt := rank_lt (c := ch s) hi'
    by_cases h0 : rank s.length (ch s) i = 0
    · obtain ⟨l', g1, g2, g3⟩ := ih (i + 1) 0 l (by omega) (by omega) hl (by omega) (fun _ _ => by omega) (fun j hj hji => hp j hj (by
        rcases hji with hji | hji
        · by_cases e : j = i
          · rw [e]; exact .inr h0
          · exact .inl (by omega)
        · exact .inr hji))
      refine ⟨l', g1, g2, fun k => ?_⟩
      rw [show k + (d + 1) + 2 = k + d + 2 + 1 by omega, build_l, if_pos (by omega), if_pos (by omega), rd_nat, hrk i hi', if_pos (by omega), wp (x := (i : Int) + 1) (y := ((i + 1 : Nat) : Int)) (by omega) (by omega) (by omega)]
      exact g3 k
    · obtain ⟨e1, e2, e3⟩ := sa_at hsa (show rank s.length (ch s) i - 1 < s.length by omega)
      have hc' := hc hi' (by omega)
      generalize hm : com s.length (ch s) (P sa (rank s.length (ch s) i - 1)) i = m at hc'
      generalize hj : P sa (rank s.length (ch s) i - 1) = j at *
      have hfr := com_from (n := s.length) (c := ch s) h j i (by omega)
      have hle := com_le (n := s.length) (c := ch s) j i
      have hcm : com s.length (ch s) (i + h) (j + h) = m - h := by rw [com_comm]; omega
      have hP : P sa (rank s.length (ch s) i) = i := P_rank hsa hi'
      have hl2 : ∀ r, r < s.length → ch (l.set (rank s.length (ch s) i) (m : Int)) r = if rank s.length (ch s) i = r then (m : Int) else ch l r := by
        intro r hr; exact ch_set _ _ _ _ (by omega)
      obtain ⟨l', g1, g2, g3⟩ := ih (i + 1) (m - 1) (l.set (rank s.length (ch s) i) (m : Int)) (by omega) (by omega) (by rw [List.length_set]; exact hl) (by omega)
        (fun hi1 hr1 => by
          have := (kasai (n := s.length) (c := ch s) (p := P sa) (fun i hi => P_rank hsa hi) hi1 (by omega)).1
          rw [hj, hm] at this
          omega)
        (fun j' hj' hji => by
          rw [hl2 _ (rank_lt hj')]
          by_cases e : rank s.length (ch s) i = rank s.length (ch s) j'
          · have := rank_inj hi' hj' e
            subst this
            rw [if_pos rfl]
            unfold lcv
            rw [if_neg h0, hj, hP, hm]
          · rw [if_neg e]
            refine hp j' hj' ?_
            rcases hji with hji | hji
            · have : j' ≠ i := fun e' => e (by rw [e'])
              exact .inl (by omega)
            · exact .inr hji)
      refine ⟨l', g1, g2, fun k => ?_⟩
      have hsm : suffix_Index_same.f (k + d + 2) [⟨true, s, sa, rk, l⟩] (((i + h : Nat) : Int)) (((j + h : Nat) : Int)) = some ((m - h : Nat) : Int) := by
        rw [sameIx_f (s := s) (y := ⟨true, s, sa, rk, l⟩) rfl hs (by omega) (by omega) (by rw [hcm]; omega), hcm]
      rw [show k + (d + 1) + 2 = k + d + 2 + 1 by omega, build_l, if_pos (by omega), if_pos (by omega), rd_nat, hrk i hi', if_neg (by omega), wp (x := (rank s.length (ch s) i : Int) - 1) (y := ((rank s.length (ch s) i - 1 : Nat) : Int)) (by omega) (by omega) (by omega), if_pos (by omega), if_pos (by omega), rd_nat, e1,
        wp (x := (i : Int) + (h : Int)) (y := ((i + h : Nat) : Int)) (by omega) (by omega) (by omega), wp (x := (j : Int) + (h : Int)) (y := ((j + h : Nat) : Int)) (by omega) (by omega) (by omega), hsm, Option.bind_some, if_pos (by omega), if_pos (by omega), Int.toNat_natCast,
        wp (x := (h : Int) + ((m - h : Nat) : Int)) (y := (m : Int)) (by omega) (by omega) (by omega), wp (x := (m : Int) - 1) (y := (m : Int) - 1) rfl (by omega) (by omega), show mx ((m : Int) - 1) 0 = ((m - 1 : Nat) : Int) by (unfold mx; split <;> omega), wp (x := (i : Int) + 1) (y := ((i + 1 : Nat) : Int)) (by omega) (by omega) (by omega)]
      exact g3 k

/-- build, of any bytes and their order. -/
theorem build_ok (hs : s.length ≤ 16777216) {sa : List Int} (hsa : IsSA s sa) : ∃ x, suffix_build.f s sa = some [x] ∧ x.f2 = sa ∧ IsIx s x := by
  obtain ⟨rk, r1, r2, r3⟩ := build_r_ok hs hsa s.length 0 (List.replicate s.length 0) (by omega) (by omega) (by simp) (fun i _ h => by omega)
  obtain ⟨lc, l1, l2, l3⟩ := build_l_ok hs hsa r1 r2 s.length 0 0 (List.replicate s.length 0) (by omega) (by omega) (by simp) (by omega) (fun _ _ => by omega) (fun j hj hji => by
    have h0 : rank s.length (ch s) j = 0 := by omega
    rw [h0]
    unfold lcv
    rw [if_pos rfl]
    unfold ch
    rw [List.getD_eq_getElem?_getD, List.getElem?_replicate]
    split <;> rfl)
  refine ⟨⟨true, s, sa, rk, lc⟩, ?_, rfl, rfl, rfl, hsa, r1, r2, l1, l2⟩
  unfold suffix_build.f
  have a1 := r3 0
  have a2 := l3 0
  rw [show 0 + s.length + 1 = s.length + 1 by omega, show ((0 : Nat) : Int) = 0 from rfl] at a1
  rw [show 0 + s.length + 2 = s.length + 2 by omega, show ((0 : Nat) : Int) = 0 from rfl] at a2
  rw [if_pos hs, if_pos hsa.1, a1, Option.bind_some, a2]; rfl
/-- New, of any bytes: an index of them. -/
theorem New_ok (hs : s.length ≤ 16777216) (hb : Byt s) : ∃ K x, (∀ k, K ≤ k → suffix_New.f k s = some ([x], 0)) ∧ IsIx s x := by
  obtain ⟨K, sa, h1, h2⟩ := sorted_ok hs hb
  obtain ⟨x, h3, _, h4⟩ := build_ok hs h2
  refine ⟨K, x, fun k hk => ?_, h4⟩
  unfold suffix_New.f
  rw [h1 k hk, Option.bind_some, if_pos rfl, h3]; rfl
theorem New_many (hs : 16777216 < s.length) (k : Nat) : suffix_New.f k s = some ([], 130) := by
  unfold suffix_New.f
  rw [sorted_many hs, Option.bind_some, if_neg (by decide)]
end
end Go.Proofs.Ythcnnfahlhklgaa.SD
end

section
/- The unlike texts of any bytes, in their order: how many, which, that they rise; and Kth tells them. -/
namespace Go.Proofs.Ythcnnfahlhklgaa.SD
open Go.RowKit Go.Proofs.Ythcnnfahlhklgaa Go.Proofs.Ythcnnfahlhklgaa.X Go.Proofs.Ythcnnfahlhklgaa.SM Go.Proofs.YthcnnfahlhklgaaW.PrintWords Go.Proofs.YthcnnfahlhklgaaW.PrintLast

section
variable {s : List Int} {sa : List Int}
attribute [local irreducible] cn cv fr tov rk3 loc2 ch rank
/-- Texts that stand at a rank first. -/
def fresh (s sa : List Int) (r : Nat) : Nat := s.length - P sa r - lcv s sa r
def base (s sa : List Int) : Nat → Nat
  | 0 => 0
  | r + 1 => base s sa r + fresh s sa r
/-- The text. -/
def txt (s sa : List Int) (r j : Nat) : List Int := (s.drop (P sa r)).take (lcv s sa r + 1 + j)
theorem sa_slt (h : IsSA s sa) {r : Nat} (hr : r + 1 < s.length) : slt s.length (ch s) (P sa r) (P sa (r + 1)) = true := by
  obtain ⟨_, a1, a2⟩ := sa_at h (show r < s.length by omega)
  obtain ⟨_, b1, b2⟩ := sa_at h hr
  exact (rank_iff a1 b1).1 (by omega)
theorem lcv_at (sa : List Int) (r : Nat) : lcv s sa (r + 1) = com s.length (ch s) (P sa r) (P sa (r + 1)) := by
  unfold lcv; rw [if_neg (by omega), Nat.add_sub_cancel]
theorem fresh_pos (h : IsSA s sa) {r : Nat} (hr : r < s.length) : P sa r < s.length ∧ lcv s sa r < s.length - P sa r ∧ fresh s sa r + lcv s sa r + P sa r = s.length ∧ 0 < fresh s sa r := by
  have h1 := (sa_at h hr).2.1
  have h2 : lcv s sa r < s.length - P sa r := by
    cases r with
    | zero => unfold lcv; rw [if_pos rfl]; omega
    | succ r =>
      rw [lcv_at]
      have := (slt_com.1 (sa_slt h hr)).1
      omega
  refine ⟨h1, h2, ?_, ?_⟩ <;> (unfold fresh; omega)
theorem base_mono (s sa : List Int) {a b : Nat} (h : a ≤ b) : base s sa a ≤ base s sa b := by
  obtain ⟨d, rfl⟩ := Nat.exists_eq_add_of_le h
  clear h
  induction d with
  | zero => exact Nat.le_refl _
  | succ d ih =>
    have : base s sa (a + (d + 1)) = base s sa (a + d) + fresh s sa (a + d) := rfl
    omega
theorem base_one {r r2 j j2 : Nat} (h : base s sa r + j = base s sa r2 + j2) (h1 : j < fresh s sa r) (h2 : j2 < fresh s sa r2) : r = r2 ∧ j = j2 := by
  rcases Nat.lt_trichotomy r r2 with g | g | g
  · have := base_mono s sa (show r + 1 ≤ r2 by omega)
    have e : base s sa (r + 1) = base s sa r + fresh s sa r := rfl
    omega
  · subst g; exact ⟨rfl, by omega⟩
  · have := base_mono s sa (show r2 + 1 ≤ r by omega)
    have e : base s sa (r2 + 1) = base s sa r2 + fresh s sa r2 := rfl
    omega
theorem txt_len (h : IsSA s sa) {r j : Nat} (hr : r < s.length) (hj : j < fresh s sa r) : (txt s sa r j).length = lcv s sa r + 1 + j := by
  have := fresh_pos h hr
  unfold txt
  rw [List.length_take, List.length_drop]
  omega
/-- They rise. -/
theorem rise_in (h : IsSA s sa) {r j : Nat} (hr : r < s.length) (hj : j + 1 < fresh s sa r) : lessL (txt s sa r j) (txt s sa r (j + 1)) = true := by
  have l1 := txt_len h hr (show j < fresh s sa r by omega)
  have l2 := txt_len h hr hj
  refine lessL_of (lcv s sa r + 1 + j) (by omega) (fun q hq => ⟨by omega, ?_⟩) (.inl (by omega))
  unfold txt
  rw [ch_take, ch_take, if_pos hq, if_pos (by omega)]
theorem rise_next (h : IsSA s sa) {r j : Nat} (hr : r + 1 < s.length) (hj : j + 1 = fresh s sa r) : lessL (txt s sa r j) (txt s sa (r + 1) 0) = true := by
  have f1 := fresh_pos h (show r < s.length by omega)
  have f2 := fresh_pos h hr
  have l1 := txt_len h (show r < s.length by omega) (show j < fresh s sa r by omega)
  have l2 := txt_len h hr f2.2.2.2
  have hc := slt_com.1 (sa_slt h hr)
  have hl := lcv_at (s := s) sa r
  have hle := com_le (n := s.length) (c := ch s) (P sa r) (P sa (r + 1))
  refine lessL_of (lcv s sa (r + 1)) (by omega) (fun q hq => ⟨by omega, ?_⟩) ?_
  · have := com_get (n := s.length) (c := ch s) (i := P sa r) (j := P sa (r + 1)) (q := q) (by omega)
    unfold txt
    rw [ch_take, ch_take, if_pos (by omega), if_pos (by omega), ch_drop, ch_drop]
    exact this.2.2
  · by_cases g : (txt s sa r j).length ≤ lcv s sa (r + 1)
    · exact .inl g
    · refine .inr ?_
      unfold txt
      rw [ch_take, ch_take, if_pos (by omega), if_pos (by omega), ch_drop, ch_drop, hl]
      exact hc.2 (by omega)
/-- The last one told, ahead of number m. -/
def Prev (s sa : List Int) (m : Nat) (last : List Int) : Prop := m = 0 ∧ last = [] ∨ ∃ r j, r < s.length ∧ j < fresh s sa r ∧ m = base s sa r + j + 1 ∧ last = txt s sa r j
theorem rise (h : IsSA s sa) {r j : Nat} (hr : r < s.length) (hj : j < fresh s sa r) {last : List Int} (hp : Prev s sa (base s sa r + j) last) : lessL last (txt s sa r j) = true := by
  rcases hp with ⟨_, rfl⟩ | ⟨r', j', h1, h2, h3, rfl⟩
  · have := txt_len h hr hj
    cases he : txt s sa r j with
    | nil => rw [he, List.length_nil] at this; omega
    | cons a l => rfl
  · by_cases g : j' + 1 < fresh s sa r'
    · obtain ⟨rfl, rfl⟩ := base_one (j2 := j' + 1) (r2 := r') (by omega) hj g
      exact rise_in h h1 g
    · have e : base s sa (r' + 1) = base s sa r' + fresh s sa r' := rfl
      by_cases g2 : r' + 1 < s.length
      · obtain ⟨rfl, rfl⟩ := base_one (j2 := 0) (r2 := r' + 1) (by omega) hj (fresh_pos h g2).2.2.2
        exact rise_next h g2 (by omega)
      · have := base_mono s sa (show r + 1 ≤ r' + 1 by omega)
        have e2 : base s sa (r + 1) = base s sa r + fresh s sa r := rfl
        omega
theorem places (h : IsSA s sa) : ((List.range s.length).map (P sa)).Perm (List.range s.length) := by
  refine (List.perm_ext_iff_of_nodup ?_ List.nodup_range).2 fun x => ?_
  · refine List.pairwise_map.2 (List.Pairwise.imp_of_mem (R := fun a b => a < b) (fun {a b} ha hb hab => ?_) List.pairwise_lt_range)
    have ha := List.mem_range.1 ha
    have hb := List.mem_range.1 hb
    have h1 := (sa_at h ha).2.2
    have h2 := (sa_at h hb).2.2
    intro e
    rw [e] at h1
    omega
  · rw [List.mem_map, List.mem_range]
    constructor
    · rintro ⟨a, ha, rfl⟩
      exact (sa_at h (List.mem_range.1 ha)).2.1
    · intro hx
      exact ⟨rank s.length (ch s) x, List.mem_range.2 (rank_lt hx), P_rank h hx⟩

end
end Go.Proofs.Ythcnnfahlhklgaa.SD
end

section
/- The accessors of an index. -/
namespace Go.Proofs.Ythcnnfahlhklgaa.SD
open Go.RowKit Go.Proofs.Ythcnnfahlhklgaa Go.Proofs.Ythcnnfahlhklgaa.X Go.Proofs.Ythcnnfahlhklgaa.SM Go.Proofs.YthcnnfahlhklgaaW.PrintWords Go.Proofs.YthcnnfahlhklgaaW.PrintLast

section
variable {s : List Int} {x : S82}
attribute [local irreducible] cn cv fr tov rk3 loc2 ch rank
theorem is_f (hx : x.f0 = true) : suffix_Index_is.f [x] = some true := by
  unfold suffix_Index_is.f
  rw [if_neg (by simp), if_pos (by simp)]
  show some x.f0 = _
  rw [hx]
/-- place, of one number, and of two. -/
theorem place_end (l : List Int) (n : Int) (q : Int) (h : ¬ q < n) (k : Nat) : suffix_Index_place.l0 (k + 1) [x] l n q = some 0 := by
  rw [suffix_Index_place.l0, if_neg h]
theorem place_step (hx : x.f1 = s) (l : List Int) (q : Nat) (hq : q < l.length) (hl : l.length ≤ 1000) (k : Nat) : suffix_Index_place.l0 (k + 1) [x] l (l.length : Int) (q : Int) = if 0 ≤ ch l q ∧ ch l q < (s.length : Int) then suffix_Index_place.l0 k [x] l (l.length : Int) ((q + 1 : Nat) : Int) else some 132 := by
  rw [suffix_Index_place.l0, if_pos (by omega), if_pos (by omega), if_pos (by omega), rd_nat, show rd_T82 [x] 0 = x from rfl, hx]
  by_cases h1 : ch l q < 0
  · rw [if_pos h1, if_neg (by omega)]
  · rw [if_neg h1, if_pos (by simp)]
    by_cases h2 : ch l q ≥ (s.length : Int)
    · rw [if_pos h2, if_neg (by omega)]
    · rw [if_neg h2, if_pos (by omega), wp (x := (q : Int) + 1) (y := ((q + 1 : Nat) : Int)) (by omega) (by omega) (by omega)]
theorem place1_f (hx : IsIx s x) (i : Int) (k : Nat) : suffix_Index_place.f (k + 2) [x] [i] = some (if 0 ≤ i ∧ i < (s.length : Int) then 0 else 132) := by
  unfold suffix_Index_place.f
  rw [is_f hx.1, Option.bind_some, if_pos rfl]
  have h := place_step hx.2.1 [i] 0 (by simp) (by simp) (k + 1)
  have e : ch [i] 0 = i := by unfold ch; rfl
  rw [e] at h
  rw [show ((0 : Nat) : Int) = 0 from rfl] at h
  rw [h]
  split
  · rw [place_end _ _ _ (by simp)]
  · rfl
end
end Go.Proofs.Ythcnnfahlhklgaa.SD
end

section
/- What a suffix and a text have in common, and which is less; by rank it rises. -/
namespace Go.Proofs.Ythcnnfahlhklgaa.SD
open Go.RowKit Go.Proofs.Ythcnnfahlhklgaa Go.Proofs.Ythcnnfahlhklgaa.X Go.Proofs.Ythcnnfahlhklgaa.SM Go.Proofs.YthcnnfahlhklgaaW.PrintWords Go.Proofs.YthcnnfahlhklgaaW.PrintLast

section
variable {s p u v : List Int} {x : S82} {sa : List Int}
attribute [local irreducible] cv fr tov rk3 loc2 ch rank
theorem cml_fit (d : Nat) : ∀ q, u.length - q = d → cml u v q ≤ u.length - q ∧ cml u v q ≤ v.length - q := by
  induction d with
  | zero => intro q h; rw [cml, dif_neg (by omega)]; omega
  | succ d ih =>
    intro q h
    rw [cml, dif_pos (by omega)]
    split
    · have := ih (q + 1) (by omega); omega
    · omega
theorem cml_get (d : Nat) : ∀ q, u.length - q = d → ∀ j, j < cml u v q → q + j < u.length ∧ q + j < v.length ∧ ch u (q + j) = ch v (q + j) := by
  induction d with
  | zero => intro q h j hj; rw [cml, dif_neg (by omega)] at hj; omega
  | succ d ih =>
    intro q h j hj
    rw [cml, dif_pos (by omega)] at hj
    split at hj
    · rename_i hq
      cases j with
      | zero => exact ⟨by omega, by omega, hq.2⟩
      | succ j =>
        have := ih (q + 1) (by omega) j (by omega)
        rw [show q + 1 + j = q + (j + 1) by omega] at this
        exact this
    · omega
theorem cml_stop (d : Nat) : ∀ q, u.length - q = d → ¬ (q + cml u v q < u.length ∧ q + cml u v q < v.length ∧ ch u (q + cml u v q) = ch v (q + cml u v q)) := by
  induction d with
  | zero => intro q h; omega
  | succ d ih =>
    intro q h
    rw [cml, dif_pos (by omega)]
    by_cases hq : q < v.length ∧ ch u q = ch v q
    · rw [if_pos hq]
      have := ih (q + 1) (by omega)
      rw [show q + (cml u v (q + 1) + 1) = q + 1 + cml u v (q + 1) by omega]
      exact this
    · rw [if_neg hq, Nat.add_zero]
      exact fun h => hq h.2
theorem cmp_l_ok (hu : u.length ≤ 9223372036854775000) (d : Nat) : ∀ q, u.length - q = d → ∀ k, cmp_l (k + d + 1) u v (q : Int) = some ((q + cml u v q : Nat) : Int) := by
  induction d with
  | zero =>
    intro q h k
    rw [show k + 0 + 1 = k + 1 by omega, cmp_l, if_neg (by omega), cml, dif_neg (by omega), Nat.add_zero]
  | succ d ih =>
    intro q h k
    rw [show k + (d + 1) + 1 = k + d + 1 + 1 by omega, cmp_l, if_pos (by omega), cml, dif_pos (by omega)]
    by_cases h1 : q < v.length
    · rw [if_pos (by omega), if_pos (by omega), rd_nat, rd_nat]
      by_cases h2 : ch u q = ch v q
      · rw [if_pos h2, if_pos ⟨h1, h2⟩, wp (x := (q : Int) + 1) (y := ((q + 1 : Nat) : Int)) (by omega) (by omega) (by omega), ih (q + 1) (by omega), show q + 1 + cml u v (q + 1) = q + (cml u v (q + 1) + 1) by omega]
      · rw [if_neg h2, if_neg (fun h => h2 h.2), Nat.add_zero]
    · rw [if_neg (by omega), if_neg (fun h => h1 h.1), Nat.add_zero]
/-- -1, 0, 1: less, it begins with p, greater. -/
def sgn (u p : List Int) : Int := if cml u p 0 = p.length then 0 else if cml u p 0 = u.length then -1 else if ch u (cml u p 0) < ch p (cml u p 0) then -1 else 1
theorem Compare_f (hs : s.length ≤ 16777216) (hx : IsIx s x) {i : Nat} (hi : i < s.length) {k : Nat} (hk : s.length + 4 ≤ k) : suffix_Index_Compare.f k [x] (i : Int) p = some (sgn (s.drop i) p, (cml (s.drop i) p 0 : Int), 0) := by
  unfold suffix_Index_Compare.f
  have h := place1_f hx (i : Int) (k - 2)
  rw [show k - 2 + 2 = k by omega] at h
  have hl := cmp_l_ok (u := s.drop i) (v := p) (by rw [List.length_drop]; omega) (s.drop i).length 0 (by omega) (k - (s.drop i).length - 1)
  have hd : (s.drop i).length = s.length - i := List.length_drop
  rw [show k - (s.drop i).length - 1 + (s.drop i).length + 1 = k by omega, show ((0 : Nat) : Int) = 0 from rfl, Nat.zero_add] at hl
  have hf := cml_fit (u := s.drop i) (v := p) _ 0 rfl
  rw [h, if_pos (by omega), Option.bind_some, if_pos rfl, if_pos (by simp), if_pos (by omega), show rd_T82 [x] 0 = x from rfl, hx.2.1, if_pos (by omega), Int.toNat_natCast, hl, Option.bind_some]
  unfold sgn
  by_cases c1 : cml (s.drop i) p 0 = p.length
  · rw [if_pos (by omega), if_pos c1]
  · rw [if_neg (by omega), if_neg c1, if_pos (by omega), if_pos (by omega)]
    by_cases c2 : cml (s.drop i) p 0 = (s.drop i).length
    · rw [if_pos (by omega), if_pos c2]
    · rw [if_neg (by omega), if_neg c2, if_pos (by omega), rd_nat, rd_nat]
      by_cases c3 : ch (s.drop i) (cml (s.drop i) p 0) < ch p (cml (s.drop i) p 0)
      · rw [if_pos c3, if_pos c3]
      · rw [if_neg c3, if_neg c3]
theorem cml_is (m : Nat) (h1 : m ≤ u.length) (h2 : m ≤ v.length) (h : ∀ q, q < m → ch u q = ch v q) (hs : ¬ (m < u.length ∧ m < v.length ∧ ch u m = ch v m)) : cml u v 0 = m := by
  have a := cml_stop (u := u) (v := v) _ 0 rfl
  have b := cml_get (u := u) (v := v) _ 0 rfl
  rw [Nat.zero_add] at a
  rcases Nat.lt_trichotomy (cml u v 0) m with g | g | g
  · exact absurd ⟨by omega, by omega, h _ g⟩ a
  · exact g
  · have := b m g
    rw [Nat.zero_add] at this
    exact absurd this hs
theorem sgn_cases (u p : List Int) : sgn u p = -1 ∨ sgn u p = 0 ∨ sgn u p = 1 := by
  unfold sgn
  split
  · exact .inr (.inl rfl)
  · split
    · exact .inl rfl
    · split
      · exact .inl rfl
      · exact .inr (.inr rfl)
/-- Greater, if it parts from p upward. -/
theorem sgn_up (m : Nat) (h1 : m < u.length) (h2 : m < p.length) (h : ∀ q, q < m → ch u q = ch p q) (hg : ch p m < ch u m) : sgn u p = 1 := by
  have e := cml_is (u := u) (v := p) m (by omega) (by omega) h (fun z => by omega)
  unfold sgn
  rw [e, if_neg (by omega), if_neg (by omega), if_neg (by omega)]
theorem sgn_mono {i j : Nat} (h : slt s.length (ch s) i j = true) : sgn (s.drop i) p ≤ sgn (s.drop j) p := by
  obtain ⟨h1, h2⟩ := slt_com.1 h
  have hc := fun q => com_get (n := s.length) (c := ch s) (i := i) (j := j) (q := q)
  have li : (s.drop i).length = s.length - i := List.length_drop
  have lj : (s.drop j).length = s.length - j := List.length_drop
  have gi := cml_get (u := s.drop i) (v := p) _ 0 rfl
  have fi := cml_fit (u := s.drop i) (v := p) _ 0 rfl
  have si := cml_stop (u := s.drop i) (v := p) _ 0 rfl
  rw [Nat.zero_add] at si
  have ag : ∀ q, q < cml (s.drop i) p 0 → ch (s.drop i) q = ch p q := fun q hq => by
    have := (gi q hq).2.2
    rw [Nat.zero_add] at this
    exact this
  have hle := com_le (n := s.length) (c := ch s) i j
  by_cases c1 : com s.length (ch s) i j < cml (s.drop i) p 0
  · have : sgn (s.drop j) p = 1 := by
      refine sgn_up (com s.length (ch s) i j) (by omega) (by omega) (fun q hq => ?_) ?_
      · rw [ch_drop, ← (hc q hq).2.2, ← ch_drop, ag q (by omega)]
      · rw [← ag _ c1, ch_drop, ch_drop]
        exact h2 (by omega)
    have := sgn_cases (s.drop i) p
    omega
  · have agj : ∀ q, q < cml (s.drop i) p 0 → ch (s.drop j) q = ch p q := fun q hq => by
      rw [ch_drop, ← (hc q (by omega)).2.2, ← ch_drop, ag q hq]
    by_cases c2 : cml (s.drop i) p 0 = p.length
    · have e0 : sgn (s.drop i) p = 0 := by unfold sgn; rw [if_pos c2]
      have e1 : sgn (s.drop j) p = 0 := by
        have : cml (s.drop j) p 0 = p.length := cml_is p.length (by omega) (Nat.le_refl _) (fun q hq => agj q (by omega)) (fun z => by omega)
        unfold sgn; rw [if_pos this]
      omega
    · rcases sgn_cases (s.drop i) p with e | e | e
      · have := sgn_cases (s.drop j) p; omega
      · unfold sgn at e
        rw [if_neg c2] at e
        split at e
        · exact absurd e (by decide)
        · split at e <;> exact absurd e (by decide)
      · have : sgn (s.drop j) p = 1 := by
          unfold sgn at e
          rw [if_neg c2] at e
          split at e
          · exact absurd e (by decide)
          · rename_i c3
            split at e
            · exact absurd e (by decide)
            · rename_i c4
              have hne : ch (s.drop i) (cml (s.drop i) p 0) ≠ ch p (cml (s.drop i) p 0) := fun z => si ⟨by omega, by omega, z⟩
              refine sgn_up (cml (s.drop i) p 0) (by omega) (by omega) agj ?_
              by_cases c5 : cml (s.drop i) p 0 < com s.length (ch s) i j
              · rw [ch_drop, ← (hc _ c5).2.2, ← ch_drop]; omega
              · have e5 : cml (s.drop i) p 0 = com s.length (ch s) i j := by omega
                rw [ch_drop] at c4 hne ⊢
                rw [e5] at c4 hne c3 ⊢
                have := h2 (by omega)
                omega
        omega
theorem cml_agree {a q : Nat} (hq : q < cml (s.drop a) p 0) : a + q < s.length ∧ q < p.length ∧ ch s (a + q) = ch p q := by
  have h := cml_get (u := s.drop a) (v := p) _ 0 rfl q hq
  rw [Nat.zero_add, List.length_drop, ch_drop] at h
  exact ⟨by omega, h.2⟩
theorem cml_parts (s p : List Int) (a : Nat) : ¬ (a + cml (s.drop a) p 0 < s.length ∧ cml (s.drop a) p 0 < p.length ∧ ch s (a + cml (s.drop a) p 0) = ch p (cml (s.drop a) p 0)) := by
  have h := cml_stop (u := s.drop a) (v := p) _ 0 rfl
  rw [Nat.zero_add, List.length_drop, ch_drop] at h
  exact fun z => h ⟨by omega, z.2⟩
theorem cml_ge {a m : Nat} (h : ∀ q, q < m → a + q < s.length ∧ q < p.length ∧ ch s (a + q) = ch p q) : m ≤ cml (s.drop a) p 0 := by
  rcases Nat.lt_or_ge (cml (s.drop a) p 0) m with g | g
  · exact absurd (h _ g) (cml_parts s p a)
  · exact g
theorem cml_fits (s p : List Int) (a : Nat) : cml (s.drop a) p 0 ≤ s.length - a ∧ cml (s.drop a) p 0 ≤ p.length := by
  have h := cml_fit (u := s.drop a) (v := p) _ 0 rfl
  rw [List.length_drop] at h
  omega
theorem sgn_neg {a : Nat} (h : sgn (s.drop a) p < 0) : cml (s.drop a) p 0 < p.length ∧ (a + cml (s.drop a) p 0 < s.length → ch s (a + cml (s.drop a) p 0) < ch p (cml (s.drop a) p 0)) := by
  have hf := cml_fits s p a
  unfold sgn at h
  rw [List.length_drop, ch_drop] at h
  split at h
  · omega
  · refine ⟨by omega, fun hl => ?_⟩
    split at h
    · omega
    · split at h
      · assumption
      · omega
theorem sgn_pos {a : Nat} (h : 0 ≤ sgn (s.drop a) p) (hl : cml (s.drop a) p 0 < p.length) : a + cml (s.drop a) p 0 < s.length ∧ ch p (cml (s.drop a) p 0) < ch s (a + cml (s.drop a) p 0) := by
  have hf := cml_fits s p a
  have hp := cml_parts s p a
  unfold sgn at h
  rw [List.length_drop, ch_drop] at h
  split at h
  · omega
  · split at h
    · omega
    · split at h
      · omega
      · have : a + cml (s.drop a) p 0 < s.length := by omega
        refine ⟨this, ?_⟩
        have : ch s (a + cml (s.drop a) p 0) ≠ ch p (cml (s.drop a) p 0) := fun e => hp ⟨this, hl, e⟩
        omega
/-- Below the text what is in common rises. -/
theorem cml_up {i j : Nat} (h : slt s.length (ch s) i j = true) (hj : sgn (s.drop j) p < 0) : cml (s.drop i) p 0 ≤ cml (s.drop j) p 0 := by
  obtain ⟨h1, h2⟩ := slt_com.1 h
  obtain ⟨j1, j2⟩ := sgn_neg hj
  have sj := cml_parts s p j
  rcases Nat.lt_or_ge (cml (s.drop j) p 0) (cml (s.drop i) p 0) with g | g
  case inr => exact g
  generalize hc : cml (s.drop j) p 0 = c at *
  have ai := cml_agree (s := s) (p := p) (a := i) g
  have hm : c ≤ com s.length (ch s) i j := com_ge c i j fun q hq => by
    have a1 := cml_agree (s := s) (p := p) (a := i) (show q < cml (s.drop i) p 0 by omega)
    have a2 := cml_agree (s := s) (p := p) (a := j) (show q < cml (s.drop j) p 0 by omega)
    exact ⟨a1.1, a2.1, by rw [a1.2.2, a2.2.2]⟩
  by_cases hm2 : c = com s.length (ch s) i j
  · rw [← hm2] at h1 h2
    have := h2 ai.1
    have := j2 h1
    omega
  · have := com_get (n := s.length) (c := ch s) (i := i) (j := j) (q := c) (by omega)
    exact absurd ⟨this.2.1, ai.2.1, by rw [← this.2.2]; exact ai.2.2⟩ sj
/-- From the text on it falls. -/
theorem cml_down {i j : Nat} (h : slt s.length (ch s) i j = true) (hi : 0 ≤ sgn (s.drop i) p) : cml (s.drop j) p 0 ≤ cml (s.drop i) p 0 := by
  obtain ⟨h1, h2⟩ := slt_com.1 h
  rcases Nat.lt_or_ge (cml (s.drop i) p 0) (cml (s.drop j) p 0) with g | g
  case inr => exact g
  have aj := cml_agree (s := s) (p := p) (a := j) g
  obtain ⟨i1, i2⟩ := sgn_pos hi aj.2.1
  generalize hc : cml (s.drop i) p 0 = c at *
  have hm : c ≤ com s.length (ch s) i j := com_ge c i j fun q hq => by
    have a1 := cml_agree (s := s) (p := p) (a := i) (show q < cml (s.drop i) p 0 by omega)
    have a2 := cml_agree (s := s) (p := p) (a := j) (show q < cml (s.drop j) p 0 by omega)
    exact ⟨a1.1, a2.1, by rw [a1.2.2, a2.2.2]⟩
  by_cases hm2 : c = com s.length (ch s) i j
  · rw [← hm2] at h1 h2
    have := h2 i1
    omega
  · have := com_get (n := s.length) (c := ch s) (i := i) (j := j) (q := c) (by omega)
    omega
/-- The most that any place has in common with p. -/
def Mx (s p : List Int) (m : Nat) : Prop := (∀ i, i < s.length → cml (s.drop i) p 0 ≤ m) ∧ (m = 0 ∨ ∃ i, i < s.length ∧ cml (s.drop i) p 0 = m)
theorem Mx_one {m m' : Nat} (h : Mx s p m) (h' : Mx s p m') : m = m' := by
  rcases h with ⟨a, rfl | ⟨i, hi, e⟩⟩
  · rcases h' with ⟨a', rfl | ⟨i', hi', e'⟩⟩
    · rfl
    · have := a i' hi'; omega
  · have := h'.1 i hi
    rcases h' with ⟨a', rfl | ⟨i', hi', e'⟩⟩
    · omega
    · have := a i' hi'; omega
theorem Mx_fit {m : Nat} (h : Mx s p m) : m ≤ p.length := by
  rcases h with ⟨_, rfl | ⟨i, hi, e⟩⟩
  · exact Nat.zero_le _
  · have := cml_fits s p i; omega
theorem rank_of_place (h : IsSA s sa) {i : Nat} (hi : i < s.length) : ∃ r, r < s.length ∧ P sa r = i := by
  have := (places h).mem_iff.2 (List.mem_range.2 hi)
  obtain ⟨r, hr, e⟩ := List.mem_map.1 this
  exact ⟨r, List.mem_range.1 hr, e⟩
theorem slt_rank2 (h : IsSA s sa) {a b : Nat} (hab : a < b) (hb : b < s.length) : slt s.length (ch s) (P sa a) (P sa b) = true := by
  obtain ⟨_, a1, a2⟩ := sa_at h (show a < s.length by omega)
  obtain ⟨_, b1, b2⟩ := sa_at h hb
  exact (rank_iff a1 b1).1 (by omega)
theorem Mx_of (h : IsSA s sa) {lo : Nat} (hlo : lo ≤ s.length) (h1 : ∀ q, q < lo → sgn (s.drop (P sa q)) p < 0) (h2 : ∀ q, lo ≤ q → q < s.length → 0 ≤ sgn (s.drop (P sa q)) p) {m : Nat}
    (hm1 : 0 < lo → cml (s.drop (P sa (lo - 1))) p 0 ≤ m) (hm2 : lo < s.length → cml (s.drop (P sa lo)) p 0 ≤ m)
    (hm3 : m = 0 ∨ (0 < lo ∧ m = cml (s.drop (P sa (lo - 1))) p 0) ∨ (lo < s.length ∧ m = cml (s.drop (P sa lo)) p 0)) : Mx s p m := by
  refine ⟨fun i hi => ?_, ?_⟩
  · obtain ⟨r, hr, rfl⟩ := rank_of_place h hi
    by_cases c : r < lo
    · by_cases c2 : r = lo - 1
      · rw [c2]; exact hm1 (by omega)
      · exact Nat.le_trans (cml_up (slt_rank2 h (show r < lo - 1 by omega) (by omega)) (h1 (lo - 1) (by omega))) (hm1 (by omega))
    · by_cases c2 : r = lo
      · rw [c2]; exact hm2 (by omega)
      · exact Nat.le_trans (cml_down (slt_rank2 h (show lo < r by omega) hr) (h2 lo (Nat.le_refl _) (by omega))) (hm2 (by omega))
  · rcases hm3 with e | ⟨e1, e2⟩ | ⟨e1, e2⟩
    · exact .inl e
    · exact .inr ⟨_, (sa_at h (show lo - 1 < s.length by omega)).2.1, e2.symm⟩
    · exact .inr ⟨_, (sa_at h e1).2.1, e2.symm⟩
theorem mx_nat (a b : Nat) : mx (a : Int) (b : Int) = ((max a b : Nat) : Int) := by unfold mx; split <;> omega
theorem mn_nat (a b : Nat) : mn (a : Int) (b : Int) = ((min a b : Nat) : Int) := by unfold mn; split <;> omega
/-- The least place of the ranks lo to hi. -/
def lst (sa : List Int) (b : Nat) (lo : Nat) : Nat → Nat
  | 0 => b
  | d + 1 => min (lst sa b lo d) (P sa (lo + d))
theorem lst_spec (sa : List Int) (b lo d : Nat) : (∀ q, q < d → lst sa b lo d ≤ P sa (lo + q)) ∧ (lst sa b lo d = b ∨ ∃ q, q < d ∧ lst sa b lo d = P sa (lo + q)) := by
  induction d with
  | zero => exact ⟨fun q hq => by omega, .inl rfl⟩
  | succ d ih =>
    obtain ⟨h1, h2⟩ := ih
    have e : lst sa b lo (d + 1) = min (lst sa b lo d) (P sa (lo + d)) := rfl
    rw [e]
    refine ⟨fun q hq => ?_, ?_⟩
    · by_cases c : q = d
      · rw [c]; exact Nat.min_le_right _ _
      · exact Nat.le_trans (Nat.min_le_left _ _) (h1 q (by omega))
    · rcases Nat.le_total (lst sa b lo d) (P sa (lo + d)) with g | g
      · rw [Nat.min_eq_left g]
        rcases h2 with h2 | ⟨q, hq, h2⟩
        · exact .inl h2
        · exact .inr ⟨q, by omega, h2⟩
      · rw [Nat.min_eq_right g]
        exact .inr ⟨d, by omega, rfl⟩
theorem cml_take {a m : Nat} (hm : m ≤ p.length) : cml (s.drop a) (p.take m) 0 = min (cml (s.drop a) p 0) m := by
  have hf := cml_fits s p a
  have hl : (p.take m).length = m := by rw [List.length_take]; omega
  have hs := cml_parts s p a
  have ht : ∀ q, q < m → ch (p.take m) q = ch p q := fun q hq => by rw [ch_take, if_pos hq]
  refine cml_is _ (by rw [List.length_drop]; omega) (by omega) (fun q hq => ?_) (fun z => ?_)
  · rw [ch_drop, ht q (by omega)]
    exact (cml_agree (s := s) (p := p) (a := a) (by omega)).2.2
  · rw [List.length_drop, hl] at z
    have e : min (cml (s.drop a) p 0) m = cml (s.drop a) p 0 := by omega
    rw [e] at z
    rw [ch_drop, ht _ (by omega)] at z
    exact hs ⟨by omega, by omega, z.2.2⟩
end
section
variable {s p : List Int}
attribute [local irreducible] cv fr tov rk3 loc2 rank
theorem bl_ok (h : ∀ x ∈ s, (Lit.int .u8 x).wf = true) : BL s := fun x hx => byte_wf' (h x hx)
theorem ch_ext2 {l l' : List Int} (hl : l.length = l'.length) (h : ∀ q, q < l.length → ch l q = ch l' q) : l = l' := by
  apply List.ext_getElem?
  intro q
  by_cases hq : q < l.length
  · have := h q hq
    unfold ch at this
    rw [List.getD_eq_getElem?_getD, List.getD_eq_getElem?_getD, List.getElem?_eq_getElem hq, List.getElem?_eq_getElem (by omega)] at this
    rw [List.getElem?_eq_getElem hq, List.getElem?_eq_getElem (by omega)]
    exact congrArg some this
  · rw [List.getElem?_eq_none (by omega), List.getElem?_eq_none (by omega)]
theorem piece_eq {a m : Nat} (ha : a + m ≤ s.length) (hm : m ≤ p.length) : (s.take (a + m)).drop a = p.take m ↔ m ≤ cml (s.drop a) p 0 := by
  constructor
  · intro e
    refine cml_ge fun q hq => ⟨by omega, by omega, ?_⟩
    have := congrArg (fun l => ch l q) e
    rw [ch_drop, ch_take, ch_take, if_pos (by omega), if_pos hq] at this
    exact this
  · intro h
    refine ch_ext2 ?_ fun q hq => ?_
    · rw [List.length_drop, List.length_take, List.length_take]; omega
    · rw [List.length_drop, List.length_take] at hq
      rw [ch_drop, ch_take, ch_take, if_pos (by omega), if_pos (by omega)]
      exact (cml_agree (s := s) (p := p) (a := a) (by omega)).2.2
end
end Go.Proofs.Ythcnnfahlhklgaa.SD
end

section
/- The first best of many: the most, then the least text, then the first place. -/
namespace Go.Proofs.Ythcnnfahlhklgaa.SD
open Go.RowKit Go.Proofs.Ythcnnfahlhklgaa Go.Proofs.Ythcnnfahlhklgaa.X Go.Proofs.Ythcnnfahlhklgaa.SM Go.Proofs.YthcnnfahlhklgaaW.PrintWords Go.Proofs.YthcnnfahlhklgaaW.PrintLast

theorem lessL_irr : ∀ a : List Int, lessL a a = false
  | [] => rfl
  | x :: a => by simp [lessL, lessL_irr a]
theorem lessL_trans : ∀ {a b c : List Int}, lessL a b = true → lessL b c = true → lessL a c = true
  | _, [], _, h, _ => by simp [lessL] at h
  | [], _ :: _, [], _, h => by simp [lessL] at h
  | [], _ :: _, _ :: _, _, _ => rfl
  | _ :: _, _ :: _, [], _, h => by simp [lessL] at h
  | x :: a, y :: b, z :: c, h1, h2 => by
    simp only [lessL, Bool.or_eq_true, Bool.and_eq_true, decide_eq_true_eq] at h1 h2 ⊢
    rcases h1 with h1 | ⟨e1, h1⟩
    · rcases h2 with h2 | ⟨e2, h2⟩
      · left; omega
      · left; omega
    · rcases h2 with h2 | ⟨e2, h2⟩
      · left; omega
      · exact .inr ⟨by omega, lessL_trans h1 h2⟩
theorem lessL_tri : ∀ {a b : List Int}, lessL a b = false → lessL b a = false → a = b
  | [], [], _, _ => rfl
  | [], _ :: _, h, _ => by simp [lessL] at h
  | _ :: _, [], _, h => by simp [lessL] at h
  | x :: a, y :: b, h1, h2 => by
    simp only [lessL, Bool.or_eq_false_iff, Bool.and_eq_false_iff, decide_eq_false_iff_not] at h1 h2
    have e : x = y := by omega
    subst e
    have g1 : lessL a b = false := by rcases h1.2 with h | h; exact absurd rfl h; exact h
    have g2 : lessL b a = false := by rcases h2.2 with h | h; exact absurd rfl h; exact h
    rw [lessL_tri g1 g2]

section
variable {ι : Type} (le : ι → ι → Prop) (f : ι → Nat) (tx : ι → Nat → List Int) (x0 : ι)
/-- Of those that Q lets in: n is the most, x the first that has the least text of those with the most (x0, if it is nothing). -/
def Bst (Q : ι → Prop) (n : Nat) (x : ι) : Prop := (∀ y, Q y → f y ≤ n) ∧ ((n = 0 ∧ x = x0) ∨ (0 < n ∧ Q x ∧ f x = n ∧ ∀ y, Q y → f y = n → lessL (tx y n) (tx x n) = false ∧ (tx y n = tx x n → le x y)))
theorem bst_one (anti : ∀ a b, le a b → le b a → a = b) {Q : ι → Prop} {n n' : Nat} {x x' : ι} (h : Bst le f tx x0 Q n x) (h' : Bst le f tx x0 Q n' x') : n = n' ∧ x = x' := by
  obtain ⟨a, b⟩ := h
  obtain ⟨a', b'⟩ := h'
  rcases b with ⟨b1, b2⟩ | ⟨b1, b2, b3, b4⟩
  · rcases b' with ⟨c1, c2⟩ | ⟨c1, c2, c3, c4⟩
    · exact ⟨by omega, by rw [b2, c2]⟩
    · have := a x' c2; omega
  · rcases b' with ⟨c1, c2⟩ | ⟨c1, c2, c3, c4⟩
    · have := a' x b2; omega
    · have h1 := a x' c2
      have h2 := a' x b2
      have e : n = n' := by omega
      subst e
      have g1 := b4 x' c2 c3
      have g2 := c4 x b2 b3
      have et := lessL_tri g1.1 g2.1
      exact ⟨rfl, anti _ _ (g1.2 et) (g2.2 et.symm)⟩
theorem bst_new {Q Q' : ι → Prop} {n : Nat} {x z : ι} (h : Bst le f tx x0 Q n x) (hQ : ∀ y, Q' y ↔ Q y ∨ y = z) (hr : le z z) (hup : n < f z ∨ (f z = n ∧ 0 < n ∧ lessL (tx z n) (tx x n) = true)) : Bst le f tx x0 Q' (f z) z := by
  obtain ⟨a, b⟩ := h
  refine ⟨fun y hy => ?_, .inr ⟨by omega, (hQ z).2 (.inr rfl), rfl, fun y hy e => ?_⟩⟩
  · rcases (hQ y).1 hy with h | h
    · have := a y h; omega
    · rw [h]; exact Nat.le_refl _
  · rcases (hQ y).1 hy with h | h
    · have h1 := a y h
      rcases hup with u | ⟨u1, u2, u3⟩
      · omega
      · rcases b with ⟨b1, _⟩ | ⟨b1, b2, b3, b4⟩
        · omega
        · have g := b4 y h (by omega)
          rw [u1] at e ⊢
          constructor
          · rw [Bool.eq_false_iff]
            intro hl
            have := lessL_trans hl u3
            rw [g.1] at this
            exact absurd this (by decide)
          · intro et
            rw [et, u3] at g
            exact absurd g.1 (by decide)
    · rw [h]; exact ⟨lessL_irr _, fun _ => hr⟩
theorem bst_old {Q Q' : ι → Prop} {n : Nat} {x z : ι} (h : Bst le f tx x0 Q n x) (hQ : ∀ y, Q' y ↔ Q y ∨ y = z) (ho : ∀ y, Q y → le y z) (h1 : f z ≤ n) (h2 : f z = n → 0 < n → lessL (tx z n) (tx x n) = false) : Bst le f tx x0 Q' n x := by
  obtain ⟨a, b⟩ := h
  refine ⟨fun y hy => ?_, ?_⟩
  · rcases (hQ y).1 hy with h | h
    · exact a y h
    · rw [h]; exact h1
  · rcases b with b | ⟨b1, b2, b3, b4⟩
    · exact .inl b
    · refine .inr ⟨b1, (hQ x).2 (.inl b2), b3, fun y hy e => ?_⟩
      rcases (hQ y).1 hy with h | h
      · exact b4 y h e
      · subst h
        exact ⟨h2 e b1, fun _ => ho x b2⟩
end
end Go.Proofs.Ythcnnfahlhklgaa.SD
end

section
/- Shared, plain: the most that both have in common, the least text of these, its first places. -/
namespace Go.Proofs.Ythcnnfahlhklgaa.SD
open Go.RowKit Go.Proofs.Ythcnnfahlhklgaa Go.Proofs.Ythcnnfahlhklgaa.X Go.Proofs.Ythcnnfahlhklgaa.SM Go.Proofs.YthcnnfahlhklgaaW.PrintWords Go.Proofs.YthcnnfahlhklgaaW.PrintLast

section
variable {s t p : List Int} {x : S82} {sa : List Int}
attribute [local irreducible] cv fr tov rk3 loc2 ch rank
theorem least_l0 (hs : s.length ≤ 16777216) (hx : IsIx s x) (p : List Int) (d : Nat) : ∀ lo hi : Nat, hi - lo ≤ d → lo ≤ hi → hi ≤ s.length →
    ∃ r, lo ≤ r ∧ r ≤ hi ∧ (∀ q, lo ≤ q → q < r → sgn (s.drop (P x.f2 q)) p < 0) ∧ (∀ q, r ≤ q → q < hi → 0 ≤ sgn (s.drop (P x.f2 q)) p) ∧ ∀ k, s.length + 4 + d + 1 ≤ k → suffix_Index_least.l0 k [x] p (lo : Int) (hi : Int) = some (r : Int) := by
  have hm : ∀ a b, a ≤ b → b < s.length → sgn (s.drop (P x.f2 a)) p ≤ sgn (s.drop (P x.f2 b)) p := fun a b hab hb => by
    by_cases e : a = b
    · rw [e]; exact Int.le_refl _
    · exact sgn_mono (slt_rank2 hx.2.2.1 (by omega) hb)
  have hl := hx.2.2.1.1
  induction d with
  | zero =>
    intro lo hi hd hle hhi
    refine ⟨lo, Nat.le_refl _, hle, fun q h1 h2 => by omega, fun q h1 h2 => by omega, fun k hk => ?_⟩
    obtain ⟨k, rfl⟩ : ∃ k', k = k' + 1 := ⟨k - 1, by omega⟩
    rw [suffix_Index_least.l0, if_neg (by omega)]
  | succ d ih =>
    intro lo hi hd hle hhi
    by_cases hlt : lo < hi
    · have e1 : ∀ (A : Int), A = wrap64 (Int.tdiv (wrap64 ((lo : Int) + (hi : Int))) 2) → A = (((lo + hi) / 2 : Nat) : Int) := fun A hA => by
        rw [hA, wp (x := (lo : Int) + (hi : Int)) (y := ((lo + hi : Nat) : Int)) (by omega) (by omega) (by omega), Int.tdiv_eq_ediv_of_nonneg (by omega), wp (x := ((lo + hi : Nat) : Int) / 2) (y := (((lo + hi) / 2 : Nat) : Int)) (by omega) (by omega) (by omega)]
      have e2 := e1 _ rfl
      clear e1
      have hmd : lo ≤ (lo + hi) / 2 := by omega
      have hmid : (lo + hi) / 2 < hi := by omega
      have step : ∀ k, s.length + 4 ≤ k → suffix_Index_least.l0 (k + 1) [x] p (lo : Int) (hi : Int) = if sgn (s.drop (P x.f2 ((lo + hi) / 2))) p < 0 then suffix_Index_least.l0 k [x] p (((lo + hi) / 2 + 1 : Nat) : Int) (hi : Int) else suffix_Index_least.l0 k [x] p (lo : Int) (((lo + hi) / 2 : Nat) : Int) := fun k hk => by
        obtain ⟨a1, a2, _⟩ := sa_at hx.2.2.1 (show (lo + hi) / 2 < s.length by omega)
        rw [suffix_Index_least.l0, e2]
        clear e2
        generalize (lo + hi) / 2 = md at *
        rw [if_pos (by omega), if_pos (by simp), if_pos (by omega), show rd_T82 [x] 0 = x from rfl, if_pos (by omega), rd_nat, a1, Compare_f hs hx a2 hk, Option.bind_some, wp (x := (md : Int) + 1) (y := ((md + 1 : Nat) : Int)) (by omega) (by omega) (by omega)]
      clear e2
      generalize (lo + hi) / 2 = md at *
      by_cases ht : sgn (s.drop (P x.f2 md)) p < 0
      · obtain ⟨r, g1, g2, g3, g4, g5⟩ := ih (md + 1) hi (by omega) (by omega) (by omega)
        refine ⟨r, by omega, g2, fun q h1 h2 => ?_, g4, fun k hk => ?_⟩
        · by_cases hq : q ≤ md
          · have := hm q md hq (by omega); omega
          · exact g3 q (by omega) h2
        · obtain ⟨k, rfl⟩ : ∃ k', k = k' + 1 := ⟨k - 1, by omega⟩
          rw [step k (by omega), if_pos ht]
          exact g5 k (by omega)
      · obtain ⟨r, g1, g2, g3, g4, g5⟩ := ih lo md (by omega) (by omega) (by omega)
        refine ⟨r, g1, by omega, g3, fun q h1 h2 => ?_, fun k hk => ?_⟩
        · by_cases hq : q < md
          · exact g4 q h1 hq
          · have := hm md q (by omega) (by omega); omega
        · obtain ⟨k, rfl⟩ : ∃ k', k = k' + 1 := ⟨k - 1, by omega⟩
          rw [step k (by omega), if_neg ht]
          exact g5 k (by omega)
    · refine ⟨lo, Nat.le_refl _, hle, fun q h1 h2 => by omega, fun q h1 h2 => by omega, fun k hk => ?_⟩
      obtain ⟨k, rfl⟩ : ∃ k', k = k' + 1 := ⟨k - 1, by omega⟩
      rw [suffix_Index_least.l0, if_neg (by omega)]
theorem least_ok (hs : s.length ≤ 16777216) (hx : IsIx s x) (p : List Int) : ∃ r, r ≤ s.length ∧ (∀ q, q < r → sgn (s.drop (P x.f2 q)) p < 0) ∧ (∀ q, r ≤ q → q < s.length → 0 ≤ sgn (s.drop (P x.f2 q)) p) ∧ ∀ k, 2 * s.length + 5 ≤ k → suffix_Index_least.f k [x] p = some (r : Int) := by
  obtain ⟨r, _, g2, g3, g4, g5⟩ := least_l0 hs hx p s.length 0 s.length (by omega) (by omega) (by omega)
  refine ⟨r, g2, fun q hq => g3 q (by omega) hq, g4, fun k hk => ?_⟩
  unfold suffix_Index_least.f
  have := g5 k (by omega)
  rw [show ((0 : Nat) : Int) = 0 from rfl] at this
  rw [if_pos (by simp), show rd_T82 [x] 0 = x from rfl, hx.2.2.1.1]
  exact this
/-- The most of a place. -/
def mxv (s p : List Int) : Nat → Nat
  | 0 => 0
  | i + 1 => max (mxv s p i) (cml (s.drop i) p 0)
theorem mxv_ok (s p : List Int) : ∀ n, (∀ i, i < n → cml (s.drop i) p 0 ≤ mxv s p n) ∧ (mxv s p n = 0 ∨ ∃ i, i < n ∧ cml (s.drop i) p 0 = mxv s p n)
  | 0 => ⟨fun i hi => by omega, .inl rfl⟩
  | n + 1 => by
    obtain ⟨a, b⟩ := mxv_ok s p n
    have e : mxv s p (n + 1) = max (mxv s p n) (cml (s.drop n) p 0) := rfl
    rw [e]
    refine ⟨fun i hi => ?_, ?_⟩
    · by_cases c : i = n
      · subst c; exact Nat.le_max_right _ _
      · exact Nat.le_trans (a i (by omega)) (Nat.le_max_left _ _)
    · rcases Nat.le_total (mxv s p n) (cml (s.drop n) p 0) with g | g
      · rw [Nat.max_eq_right g]; exact .inr ⟨n, by omega, rfl⟩
      · rw [Nat.max_eq_left g]
        rcases b with b | ⟨i, hi, b⟩
        · exact .inl b
        · exact .inr ⟨i, by omega, b⟩
theorem mxv_mx (s p : List Int) : Mx s p (mxv s p s.length) := mxv_ok s p s.length
/-- A text's piece. -/
def tt (t : List Int) (z n : Nat) : List Int := (t.drop z).take n
theorem tt_cut (t : List Int) (z n : Nat) : (t.take (z + n)).drop z = tt t z n := by unfold tt; rw [List.drop_take, show z + n - z = n by omega]
/-- Its place's most, told of places. -/
def fz (s t : List Int) (z : Nat) : Nat := mxv s (t.drop z) s.length
theorem fz_fit (s t : List Int) {z : Nat} (hz : z < t.length) : z + fz s t z ≤ t.length := by
  have := Mx_fit (mxv_mx s (t.drop z))
  rw [List.length_drop] at this
  show z + mxv s (t.drop z) s.length ≤ t.length
  omega
theorem sh_step (hs : s.length ≤ 16777216) (hx : IsIx s x) {a w : Int} {z q r m k : Nat} (hz : z ≤ t.length) (hq : q < s.length) (h : q ≤ r) (hk : s.length + 4 ≤ k) :
    suffix_Shared.l1 (k + 1) s t a w (z : Int) (r : Int) (m : Int) (q : Int) [x] (t.length : Int) (z : Int) = suffix_Shared.l1 k s t a w (z : Int) (r : Int) ((max m (cml (s.drop (P x.f2 q)) (t.drop z) 0) : Nat) : Int) ((q + 1 : Nat) : Int) [x] (t.length : Int) (z : Int) := by
  have hl := hx.2.2.1.1
  obtain ⟨a1, a2, _⟩ := sa_at hx.2.2.1 hq
  rw [suffix_Shared.l1, if_pos (by omega), if_pos (by simp), show rd_T82 [x] 0 = x from rfl, if_pos (by omega), if_pos (by omega), if_pos (by omega), if_pos (by omega), Int.toNat_natCast, rd_nat, a1, Compare_f hs hx a2 hk, Option.bind_some]
  dsimp only
  rw [mx_nat, wp (x := (q : Int) + 1) (y := ((q + 1 : Nat) : Int)) (by omega) (by omega) (by omega)]
theorem sh_end (hx : IsIx s x) (ht : t.length ≤ 16777216) (hb : BL t) {a w z q r m k : Nat} (hz : z + m ≤ t.length) (ha : a + w ≤ t.length) (hq : r < q ∨ s.length ≤ q) :
    suffix_Shared.l1 (k + 1) s t (a : Int) (w : Int) (z : Int) (r : Int) (m : Int) (q : Int) [x] (t.length : Int) (z : Int) =
      if w < m ∨ (m = w ∧ 0 < w ∧ lessL (tt t z w) (tt t a w) = true) then suffix_Shared.l0 k s t (z : Int) (m : Int) [x] (t.length : Int) ((z + 1 : Nat) : Int) else suffix_Shared.l0 k s t (a : Int) (w : Int) [x] (t.length : Int) ((z + 1 : Nat) : Int) := by
  have hl := hx.2.2.1.1
  have hbt : ∀ z n, BL (tt t z n) := fun z n => (hb.drop z).take n
  have key : ∀ X : Option (Int × Int × Int × Int), X = (if (m : Int) > (w : Int) then suffix_Shared.l0 k s t (z : Int) (m : Int) [x] (t.length : Int) (wrap64 ((z : Int) + 1)) else (if (m : Int) = (w : Int) then (if (m : Int) > 0 then (if 0 ≤ (z : Int) then (if (z : Int) ≤ (wrap64 ((z : Int) + (m : Int))) then (if (wrap64 ((z : Int) + (m : Int))) ≤ (t.length : Int) then (if 0 ≤ (a : Int) then (if (a : Int) ≤ (wrap64 ((a : Int) + (m : Int))) then (if (wrap64 ((a : Int) + (m : Int))) ≤ (t.length : Int) then (if (Op.bytesLess ((strOfNums ((t.take ((wrap64 ((z : Int) + (m : Int))) : Int).toNat).drop ((z : Int) : Int).toNat)).toList) ((strOfNums ((t.take ((wrap64 ((a : Int) + (m : Int))) : Int).toNat).drop ((a : Int) : Int).toNat)).toList)) = true then suffix_Shared.l0 k s t (z : Int) (m : Int) [x] (t.length : Int) (wrap64 ((z : Int) + 1)) else suffix_Shared.l0 k s t (a : Int) (w : Int) [x] (t.length : Int) (wrap64 ((z : Int) + 1))) else none) else none) else none) else none) else none) else none) else suffix_Shared.l0 k s t (a : Int) (w : Int) [x] (t.length : Int) (wrap64 ((z : Int) + 1))) else suffix_Shared.l0 k s t (a : Int) (w : Int) [x] (t.length : Int) (wrap64 ((z : Int) + 1)))) →
      X = if w < m ∨ (m = w ∧ 0 < w ∧ lessL (tt t z w) (tt t a w) = true) then suffix_Shared.l0 k s t (z : Int) (m : Int) [x] (t.length : Int) ((z + 1 : Nat) : Int) else suffix_Shared.l0 k s t (a : Int) (w : Int) [x] (t.length : Int) ((z + 1 : Nat) : Int) := fun X hX => by
    rw [hX, wp (x := (z : Int) + 1) (y := ((z + 1 : Nat) : Int)) (by omega) (by omega) (by omega)]
    clear hX
    by_cases c1 : w < m
    · rw [if_pos (by omega), if_pos (.inl c1)]
    · rw [if_neg (by omega)]
      by_cases c2 : m = w
      · subst c2
        rw [if_pos rfl]
        by_cases c3 : 0 < m
        · rw [if_pos (by omega), if_pos (by omega), wp (x := (z : Int) + (m : Int)) (y := ((z + m : Nat) : Int)) (by omega) (by omega) (by omega), wp (x := (a : Int) + (m : Int)) (y := ((a + m : Nat) : Int)) (by omega) (by omega) (by omega), if_pos (by omega), if_pos (by omega), if_pos (by omega), if_pos (by omega), if_pos (by omega), Int.toNat_natCast, Int.toNat_natCast, Int.toNat_natCast, Int.toNat_natCast, tt_cut, tt_cut, less_sl (hbt z m) (hbt a m)]
          by_cases c4 : lessL (tt t z m) (tt t a m) = true
          · rw [if_pos c4, if_pos (.inr ⟨rfl, c3, c4⟩)]
          · rw [if_neg c4, if_neg (fun h => h.elim (fun h => by omega) (fun h => c4 h.2.2))]
        · rw [if_neg (by omega), if_neg (fun h => h.elim (fun h => by omega) (fun h => c3 h.2.1))]
      · rw [if_neg (by omega), if_neg (fun h => h.elim (fun h => by omega) (fun h => c2 h.1))]
  by_cases c : q ≤ r
  · rw [suffix_Shared.l1, if_pos (by omega), if_pos (by simp), show rd_T82 [x] 0 = x from rfl, if_neg (by omega)]
    exact key _ rfl
  · rw [suffix_Shared.l1, if_neg (by omega)]
    exact key _ rfl
/-- One place of t. -/
theorem sh_l1 (hs : s.length ≤ 16777216) (hx : IsIx s x) (ht : t.length ≤ 16777216) (hb : BL t) {a w z : Nat} (hz : z < t.length) (ha : a + w ≤ t.length) {R : Int × Int × Int × Int}
    (next : ∃ K, ∀ k, K ≤ k → (if w < fz s t z ∨ (fz s t z = w ∧ 0 < w ∧ lessL (tt t z w) (tt t a w) = true) then suffix_Shared.l0 k s t (z : Int) (fz s t z : Int) [x] (t.length : Int) ((z + 1 : Nat) : Int) else suffix_Shared.l0 k s t (a : Int) (w : Int) [x] (t.length : Int) ((z + 1 : Nat) : Int)) = some R) :
    ∃ K, ∀ k, K ≤ k → suffix_Shared.l0 k s t (a : Int) (w : Int) [x] (t.length : Int) (z : Int) = some R := by
  obtain ⟨K, hK⟩ := next
  obtain ⟨r, hr, l1, l2, g⟩ := least_ok hs hx (t.drop z)
  have hsa := hx.2.2.1
  have hfit := fz_fit s t hz
  have start : ∀ k, 2 * s.length + 5 ≤ k → suffix_Shared.l0 (k + 1) s t (a : Int) (w : Int) [x] (t.length : Int) (z : Int) = suffix_Shared.l1 k s t (a : Int) (w : Int) (z : Int) (r : Int) ((0 : Nat) : Int) ((r - 1 : Nat) : Int) [x] (t.length : Int) (z : Int) := fun k hk => by
    have e : mx (wrap64 ((r : Int) - 1)) 0 = ((r - 1 : Nat) : Int) := by
      rw [wp (x := (r : Int) - 1) rfl (by omega) (by omega)]
      unfold mx
      split <;> omega
    rw [suffix_Shared.l0, if_pos (by omega), if_pos (by omega), if_pos (by omega), Int.toNat_natCast, g k hk, Option.bind_some, e]; rfl
  have done : ∀ m, Mx s (t.drop z) m → m = fz s t z := fun m hm => Mx_one hm (mxv_mx s (t.drop z))
  have fin : ∀ m q k, m = fz s t z → (r < q ∨ s.length ≤ q) → K ≤ k → suffix_Shared.l1 (k + 1) s t (a : Int) (w : Int) (z : Int) (r : Int) (m : Int) (q : Int) [x] (t.length : Int) (z : Int) = some R := fun m q k hm hq hk => by
    subst hm
    rw [sh_end hx ht hb hfit ha hq]
    exact hK k hk
  by_cases c0 : r = 0
  · by_cases c1 : s.length = 0
    · refine ⟨K + 2 * s.length + 10, fun k hk => ?_⟩
      obtain ⟨k, rfl⟩ : ∃ k', k = k' + 1 + 1 := ⟨k - 2, by omega⟩
      rw [start _ (by omega)]
      exact fin 0 _ k (done 0 (Mx_of hsa hr l1 l2 (by omega) (by omega) (.inl rfl))) (by omega) (by omega)
    · refine ⟨K + 2 * s.length + 10, fun k hk => ?_⟩
      obtain ⟨k, rfl⟩ : ∃ k', k = k' + 1 + 1 + 1 := ⟨k - 3, by omega⟩
      rw [start _ (by omega), show r - 1 = r by omega, sh_step hs hx (by omega) (by omega) (Nat.le_refl _) (by omega), Nat.zero_max]
      exact fin _ _ k (done _ (Mx_of hsa hr l1 l2 (by omega) (fun _ => Nat.le_refl _) (.inr (.inr ⟨by omega, rfl⟩)))) (by omega) (by omega)
  · by_cases c1 : r < s.length
    · refine ⟨K + 2 * s.length + 10, fun k hk => ?_⟩
      obtain ⟨k, rfl⟩ : ∃ k', k = k' + 1 + 1 + 1 + 1 := ⟨k - 4, by omega⟩
      rw [start _ (by omega), sh_step hs hx (by omega) (by omega) (by omega) (by omega), show r - 1 + 1 = r by omega, sh_step hs hx (by omega) c1 (Nat.le_refl _) (by omega), Nat.zero_max]
      refine fin _ _ k (done _ (Mx_of hsa hr l1 l2 (fun _ => Nat.le_max_left _ _) (fun _ => Nat.le_max_right _ _) ?_)) (by omega) (by omega)
      right
      rcases Nat.le_total (cml (s.drop (P x.f2 (r - 1))) (t.drop z) 0) (cml (s.drop (P x.f2 r)) (t.drop z) 0) with g | g
      · exact .inr ⟨c1, Nat.max_eq_right g⟩
      · exact .inl ⟨by omega, Nat.max_eq_left g⟩
    · refine ⟨K + 2 * s.length + 10, fun k hk => ?_⟩
      obtain ⟨k, rfl⟩ : ∃ k', k = k' + 1 + 1 + 1 := ⟨k - 3, by omega⟩
      rw [start _ (by omega), sh_step hs hx (by omega) (by omega) (by omega) (by omega), Nat.zero_max]
      exact fin _ _ k (done _ (Mx_of hsa hr l1 l2 (fun _ => Nat.le_refl _) (by omega) (.inr (.inl ⟨by omega, rfl⟩)))) (by omega) (by omega)
/-- All places of t. -/
theorem sh_l0 (hs : s.length ≤ 16777216) (hx : IsIx s x) (ht : t.length ≤ 16777216) (hb : BL t) {R : Int × Int × Int × Int}
    (fin : ∀ a w : Nat, Bst (fun i j => i ≤ j) (fz s t) (tt t) 0 (fun y => y < t.length) w a → ∃ K, ∀ k, K ≤ k → suffix_Shared.l0 k s t (a : Int) (w : Int) [x] (t.length : Int) (t.length : Int) = some R) (d : Nat) :
    ∀ z, t.length - z = d → z ≤ t.length → ∀ a w : Nat, Bst (fun i j => i ≤ j) (fz s t) (tt t) 0 (fun y => y < z) w a → ∃ K, ∀ k, K ≤ k → suffix_Shared.l0 k s t (a : Int) (w : Int) [x] (t.length : Int) (z : Int) = some R := by
  induction d with
  | zero =>
    intro z hd hz a w h
    have : z = t.length := by omega
    subst this
    exact fin a w h
  | succ d ih =>
    intro z hd hz a w h
    have ha : a + w ≤ t.length := by
      rcases h.2 with ⟨h1, h2⟩ | ⟨h1, h2, h3, _⟩
      · omega
      · have := fz_fit s t (show a < t.length by omega)
        omega
    refine sh_l1 hs hx ht hb (by omega) ha ?_
    by_cases c : w < fz s t z ∨ (fz s t z = w ∧ 0 < w ∧ lessL (tt t z w) (tt t a w) = true)
    · obtain ⟨K, hK⟩ := ih (z + 1) (by omega) (by omega) z (fz s t z) (bst_new _ _ _ _ h (fun y => by omega) (Nat.le_refl _) c)
      refine ⟨K, fun k hk => ?_⟩
      rw [if_pos c]
      exact hK k hk
    · obtain ⟨K, hK⟩ := ih (z + 1) (by omega) (by omega) a w (bst_old (z := z) _ _ _ _ h (fun y => by omega) (fun y hy => by omega) (by omega) (fun e1 e2 => by
        rw [Bool.eq_false_iff]
        exact fun e3 => c (.inr ⟨e1, e2, e3⟩)))
      refine ⟨K, fun k hk => ?_⟩
      rw [if_neg c]
      exact hK k hk
/-- The places of the least text. -/
theorem sh_l2 (hs : s.length ≤ 16777216) (hx : IsIx s x) (ht : t.length ≤ 16777216) {a w lo hi : Nat} (ha : a + w ≤ t.length) (hh : hi ≤ s.length) (h0 : ∀ q, lo ≤ q → q < hi → sgn (s.drop (P x.f2 q)) (tt t a w) = 0) (h1 : hi < s.length → sgn (s.drop (P x.f2 hi)) (tt t a w) ≠ 0) (d : Nat) :
    ∀ q, hi - (lo + q) = d → lo + q ≤ hi → ∀ k, s.length + 4 ≤ k → suffix_Shared.l2 (k + d + 1) t (a : Int) (w : Int) (lst x.f2 s.length lo q : Int) ((lo + q : Nat) : Int) [x] = some ((lst x.f2 s.length lo (hi - lo) : Int), (a : Int), (w : Int), 0) := by
  have hl := hx.2.2.1.1
  induction d with
  | zero =>
    intro q hd hq k hk
    have e : lo + q = hi := by omega
    rw [show k + 0 + 1 = k + 1 by omega, suffix_Shared.l2, if_pos (by simp), show rd_T82 [x] 0 = x from rfl, e, show hi - lo = q by omega]
    by_cases c : hi < s.length
    · obtain ⟨a1, a2, _⟩ := sa_at hx.2.2.1 c
      rw [if_pos (by omega), if_pos (by omega), if_pos (by omega), wp (x := (a : Int) + (w : Int)) (y := ((a + w : Nat) : Int)) (by omega) (by omega) (by omega), if_pos (by omega), if_pos (by omega), Int.toNat_natCast, Int.toNat_natCast, tt_cut, rd_nat, a1, Compare_f hs hx a2 hk, Option.bind_some]
      dsimp only
      rw [if_neg (h1 c)]
    · rw [if_neg (by omega)]
  | succ d ih =>
    intro q hd hq k hk
    obtain ⟨a1, a2, _⟩ := sa_at hx.2.2.1 (show lo + q < s.length by omega)
    have next := ih (q + 1) (by omega) (by omega) k hk
    rw [show k + (d + 1) + 1 = k + d + 1 + 1 by omega, suffix_Shared.l2, if_pos (by simp), show rd_T82 [x] 0 = x from rfl, if_pos (by omega), if_pos (by omega), if_pos (by omega), wp (x := (a : Int) + (w : Int)) (y := ((a + w : Nat) : Int)) (by omega) (by omega) (by omega), if_pos (by omega), if_pos (by omega), Int.toNat_natCast, Int.toNat_natCast, tt_cut, rd_nat, a1, Compare_f hs hx a2 (by omega), Option.bind_some]
    dsimp only
    rw [if_pos (h0 _ (by omega) (by omega)), mn_nat, wp (x := ((lo + q : Nat) : Int) + 1) (y := ((lo + (q + 1) : Nat) : Int)) (by omega) (by omega) (by omega)]
    exact next
end
end Go.Proofs.Ythcnnfahlhklgaa.SD
end

section
/- The document's Shared. -/
namespace Go.Proofs.Ythcnnfahlhklgaa.SD
open Go.RowKit Go.Proofs.Ythcnnfahlhklgaa Go.Proofs.Ythcnnfahlhklgaa.X Go.Proofs.Ythcnnfahlhklgaa.SM Go.Proofs.YthcnnfahlhklgaaW.PrintWords Go.Proofs.YthcnnfahlhklgaaW.PrintLast

section
variable {s t : List Int}
attribute [local irreducible] cv fr tov rk3 loc2 ch rank
theorem rc_loop {u v : List Int} (hu : u.length ≤ 9223372036854775000) (d : Nat) : ∀ q, u.length - q = d → ∀ k, sapperref13_Common.l0 (k + d + 1) u v (q : Int) = some (((q + cml u v q : Nat) : Int)) := by
  induction d with
  | zero =>
    intro q h k
    rw [show k + 0 + 1 = k + 1 by omega, sapperref13_Common.l0, if_neg (by omega), cml, dif_neg (by omega), Nat.add_zero]
  | succ d ih =>
    intro q h k
    rw [show k + (d + 1) + 1 = k + d + 1 + 1 by omega, sapperref13_Common.l0, if_pos (by omega), cml, dif_pos (by omega)]
    by_cases h1 : q < v.length
    · rw [if_pos (by omega), if_pos (by omega), rd_nat, rd_nat]
      by_cases h2 : ch u q = ch v q
      · rw [if_pos h2, if_pos ⟨h1, h2⟩, wp (x := (q : Int) + 1) (y := ((q + 1 : Nat) : Int)) (by omega) (by omega) (by omega), ih (q + 1) (by omega), show q + 1 + cml u v (q + 1) = q + (cml u v (q + 1) + 1) by omega]
      · rw [if_neg h2, if_neg (fun h => h2 h.2), Nat.add_zero]
    · rw [if_neg (by omega), if_neg (fun h => h1 h.1), Nat.add_zero]
theorem rc_f {u v : List Int} (hu : u.length ≤ 9223372036854775000) {k : Nat} (hk : u.length + 1 ≤ k) : sapperref13_Common.f k u v = some (cml u v 0 : Int) := by
  unfold sapperref13_Common.f
  have := rc_loop (v := v) hu u.length 0 (by omega) (k - u.length - 1)
  rw [show k - u.length - 1 + u.length + 1 = k by omega, show ((0 : Nat) : Int) = 0 from rfl, Nat.zero_add] at this
  exact this
/-- Two places: how much they have in common, their text, and which comes first. -/
def fp (s t : List Int) (y : Nat × Nat) : Nat := cml (s.drop y.1) (t.drop y.2) 0
def tp (s : List Int) (y : Nat × Nat) (n : Nat) : List Int := (s.drop y.1).take n
def lep (a b : Nat × Nat) : Prop := a.1 < b.1 ∨ (a.1 = b.1 ∧ a.2 ≤ b.2)
theorem lep_anti (a b : Nat × Nat) (h : lep a b) (h' : lep b a) : a = b := by
  unfold lep at h h'
  exact Prod.ext (by omega) (by omega)
theorem fp_fit (s t : List Int) (y : Nat × Nat) : fp s t y ≤ s.length - y.1 ∧ fp s t y ≤ t.length - y.2 := by
  have := cml_fits s (t.drop y.2) y.1
  rw [List.length_drop] at this
  exact this
/-- The pairs behind which the reckoning stands. -/
def Qp (t : List Int) (i k : Nat) (y : Nat × Nat) : Prop := (y.1 < i ∧ y.2 < t.length) ∨ (y.1 = i ∧ y.2 < k)
theorem rs_l1 (hs : s.length ≤ 16777216) (ht : t.length ≤ 16777216) (hb : BL s) {i : Nat} (hi : i < s.length) (d : Nat) : ∀ k, t.length - k = d → k ≤ t.length → ∀ (n : Nat) (z : Nat × Nat), Bst lep (fp s t) (tp s) (0, 0) (Qp t i k) n z →
    ∃ (n' : Nat) (z' : Nat × Nat), Bst lep (fp s t) (tp s) (0, 0) (Qp t i t.length) n' z' ∧ ∀ g, s.length + 1 ≤ g → sapperref13_Shared.l1 (g + d + 1) s t (n : Int) (z.1 : Int) (z.2 : Int) (i : Int) (s.length : Int) (i : Int) (t.length : Int) (k : Int) = sapperref13_Shared.l0 g s t (n' : Int) (z'.1 : Int) (z'.2 : Int) (s.length : Int) ((i + 1 : Nat) : Int) := by
  have hbt : ∀ z n, BL ((s.drop z).take n) := fun z n => (hb.drop z).take n
  induction d with
  | zero =>
    intro k hd hk n z h
    have : k = t.length := by omega
    subst this
    exact ⟨n, z, h, fun g _ => by rw [show g + 0 + 1 = g + 1 by omega, sapperref13_Shared.l1, if_neg (by omega), wp (x := (i : Int) + 1) (y := ((i + 1 : Nat) : Int)) (by omega) (by omega) (by omega)]⟩
  | succ d ih =>
    intro k hd hk n z h
    have hc : fp s t (i, k) = cml (s.drop i) (t.drop k) 0 := rfl
    have hfit := fp_fit s t (i, k)
    have hQ : ∀ y, Qp t i (k + 1) y ↔ Qp t i k y ∨ y = (i, k) := fun y => by
      unfold Qp
      rw [Prod.ext_iff]
      omega
    have hle : ∀ y, Qp t i k y → lep y (i, k) := fun y hy => by
      unfold Qp at hy
      unfold lep
      show y.1 < i ∨ (y.1 = i ∧ y.2 ≤ k)
      omega
    have hz : z.1 + n ≤ s.length := by
      rcases h.2 with ⟨h1, h2⟩ | ⟨h1, h2, h3, _⟩
      · rw [h2, h1]; exact Nat.zero_le _
      · have := fp_fit s t z
        have : z.1 < s.length := by unfold Qp at h2; omega
        omega
    have fwd : ∀ g, s.length + 1 ≤ g → sapperref13_Shared.l1 (g + (d + 1) + 1) s t (n : Int) (z.1 : Int) (z.2 : Int) (i : Int) (s.length : Int) (i : Int) (t.length : Int) (k : Int) =
        if n < fp s t (i, k) ∨ (fp s t (i, k) = n ∧ 0 < n ∧ lessL (tp s (i, k) n) (tp s z n) = true) then sapperref13_Shared.l1 (g + d + 1) s t (fp s t (i, k) : Int) (i : Int) (k : Int) (i : Int) (s.length : Int) (i : Int) (t.length : Int) ((k + 1 : Nat) : Int)
        else sapperref13_Shared.l1 (g + d + 1) s t (n : Int) (z.1 : Int) (z.2 : Int) (i : Int) (s.length : Int) (i : Int) (t.length : Int) ((k + 1 : Nat) : Int) := fun g hg => by
      rw [show g + (d + 1) + 1 = g + d + 1 + 1 by omega, sapperref13_Shared.l1, if_pos (by omega), if_pos (by omega), if_pos (by omega), if_pos (by omega), if_pos (by omega), Int.toNat_natCast, Int.toNat_natCast, rc_f (by rw [List.length_drop]; omega) (by rw [List.length_drop]; omega), Option.bind_some, ← hc, wp (x := (k : Int) + 1) (y := ((k + 1 : Nat) : Int)) (by omega) (by omega) (by omega)]
      have hfit : fp s t (i, k) ≤ s.length - i := hfit.1
      have ht1 : ∀ m, tp s (i, k) m = (s.drop i).take m := fun _ => rfl
      generalize fp s t (i, k) = c at *
      by_cases c1 : n < c
      · rw [if_pos (by omega), if_pos (.inl c1)]
      · rw [if_neg (by omega)]
        by_cases c2 : c = n
        · subst c2
          rw [if_pos rfl]
          by_cases c3 : 0 < c
          · rw [if_pos (by omega), wp (x := (i : Int) + (c : Int)) (y := ((i + c : Nat) : Int)) (by omega) (by omega) (by omega), wp (x := (z.1 : Int) + (c : Int)) (y := ((z.1 + c : Nat) : Int)) (by omega) (by omega) (by omega), if_pos (by omega), if_pos (by omega), if_pos (by omega), if_pos (by omega), if_pos (by omega), Int.toNat_natCast, Int.toNat_natCast, Int.toNat_natCast,
              List.drop_take, List.drop_take, show i + c - i = c by omega, show z.1 + c - z.1 = c by omega, less_sl (hbt i c) (hbt z.1 c), ht1]
            by_cases c4 : lessL ((s.drop i).take c) ((s.drop z.1).take c) = true
            · rw [if_pos c4, if_pos (.inr ⟨rfl, c3, c4⟩)]
            · rw [if_neg c4, if_neg (fun h => h.elim (fun h => by omega) (fun h => c4 h.2.2))]
          · rw [if_neg (by omega), if_neg (fun h => h.elim (fun h => by omega) (fun h => c3 h.2.1))]
        · rw [if_neg (by omega), if_neg (fun h => h.elim (fun h => by omega) (fun h => c2 h.1))]
    by_cases c : n < fp s t (i, k) ∨ (fp s t (i, k) = n ∧ 0 < n ∧ lessL (tp s (i, k) n) (tp s z n) = true)
    · obtain ⟨n', z', b, g0⟩ := ih (k + 1) (by omega) (by omega) (fp s t (i, k)) (i, k) (bst_new (z := (i, k)) _ _ _ _ h hQ (.inr ⟨rfl, Nat.le_refl _⟩) c)
      exact ⟨n', z', b, fun g hg => by rw [fwd g hg, if_pos c]; exact g0 g hg⟩
    · obtain ⟨n', z', b, g0⟩ := ih (k + 1) (by omega) (by omega) n z (bst_old (z := (i, k)) _ _ _ _ h hQ hle (by omega) (fun e1 e2 => by
        rw [Bool.eq_false_iff]
        exact fun e3 => c (.inr ⟨e1, e2, e3⟩)))
      exact ⟨n', z', b, fun g hg => by rw [fwd g hg, if_neg c]; exact g0 g hg⟩
theorem rs_l0 (hs : s.length ≤ 16777216) (ht : t.length ≤ 16777216) (hb : BL s) (d : Nat) : ∀ i, s.length - i = d → i ≤ s.length → ∀ (n : Nat) (z : Nat × Nat), Bst lep (fp s t) (tp s) (0, 0) (Qp t i 0) n z →
    ∃ (n' : Nat) (z' : Nat × Nat), Bst lep (fp s t) (tp s) (0, 0) (Qp t s.length 0) n' z' ∧ ∃ K, ∀ g, K ≤ g → sapperref13_Shared.l0 g s t (n : Int) (z.1 : Int) (z.2 : Int) (s.length : Int) (i : Int) = some ((z'.1 : Int), (z'.2 : Int), (n' : Int), 0) := by
  induction d with
  | zero =>
    intro i hd hi n z h
    have : i = s.length := by omega
    subst this
    refine ⟨n, z, h, 1, fun g hg => ?_⟩
    obtain ⟨g, rfl⟩ : ∃ g', g = g' + 1 := ⟨g - 1, by omega⟩
    rw [sapperref13_Shared.l0, if_neg (by omega)]
  | succ d ih =>
    intro i hd hi n z h
    obtain ⟨n1, z1, b1, g1⟩ := rs_l1 hs ht hb (show i < s.length by omega) t.length 0 (by omega) (Nat.zero_le _) n z h
    have hQ : ∀ y, Qp t i t.length y ↔ Qp t (i + 1) 0 y := fun y => by unfold Qp; omega
    have b2 : Bst lep (fp s t) (tp s) (0, 0) (Qp t (i + 1) 0) n1 z1 := by
      have e : Qp t i t.length = Qp t (i + 1) 0 := funext fun y => propext (hQ y)
      rw [← e]; exact b1
    obtain ⟨n', z', b', K, g2⟩ := ih (i + 1) (by omega) (by omega) n1 z1 b2
    refine ⟨n', z', b', K + s.length + t.length + 10, fun g hg => ?_⟩
    obtain ⟨g, rfl⟩ : ∃ g', g = g' + t.length + 1 + 1 := ⟨g - t.length - 2, by omega⟩
    have h3 := g1 g (by omega)
    rw [show ((0 : Nat) : Int) = 0 from rfl] at h3
    rw [sapperref13_Shared.l0, if_pos (by omega), h3]
    exact g2 g (by omega)
theorem refShared_ok (hs : s.length ≤ 16777216) (ht : t.length ≤ 16777216) (hb : BL s) : ∃ (n : Nat) (z : Nat × Nat), Bst lep (fp s t) (tp s) (0, 0) (fun y => y.1 < s.length ∧ y.2 < t.length) n z ∧ ∃ K, ∀ g, K ≤ g → sapperref13_Shared.f g s t = some ((z.1 : Int), (z.2 : Int), (n : Int), 0) := by
  obtain ⟨n, z, b, K, h⟩ := rs_l0 hs ht hb s.length 0 (by omega) (by omega) 0 (0, 0) ⟨fun y hy => by unfold Qp at hy; omega, .inl ⟨rfl, rfl⟩⟩
  refine ⟨n, z, ?_, K + 2, fun g hg => ?_⟩
  · have e : Qp t s.length 0 = fun y => y.1 < s.length ∧ y.2 < t.length := funext fun y => propext (by unfold Qp; omega)
    rw [← e]; exact b
  · unfold sapperref13_Shared.f
    obtain ⟨g, rfl⟩ : ∃ g', g = g' + 1 := ⟨g - 1, by omega⟩
    rw [if_neg (by omega), decide_eq_false (show ¬ ((t.length : Int) > 16777216) by omega), sapperref13_Shared.j0, if_neg (by decide)]
    exact h g (by omega)
end
end Go.Proofs.Ythcnnfahlhklgaa.SD
end
