import Derived.Test.YtobknpeglagaaaaSB
import Derived.Test.YtobknpeglagaaaaXK
import Derived.Test.YtobknpeglagaaaaXx13
import Derived.Test.YtobknpeglagaaaaXY
import Derived.Test.YtobknpeglagaaaaXx14
import Derived.Test.YtobknpeglagaaaaXF
import Derived.Test.YtobknpeglagaaaaXx17
import Derived.Test.YtobknpeglagaaaaXx44
import Derived.Test.YtobknpeglagaaaaXx45
import Derived.Test.YtobknpeglagaaaaXx46
section
/- The printed functions sorted, same, New and the accessors of package suffix, and build: an index of any bytes (at most 2^24) has their order, the ranks, and what neighbours have in common. -/
namespace Go.Proofs.Ytobknpeglagaaaa.SD
open Go.RowKit Go.Proofs.Ytobknpeglagaaaa Go.Proofs.Ytobknpeglagaaaa.X Go.Proofs.Ytobknpeglagaaaa.SM Go.Proofs.YtobknpeglagaaaaW.PrintWords Go.Proofs.YtobknpeglagaaaaW.PrintLast

section
variable {s : List Int}
attribute [local irreducible] cn cv fr tov rk3 loc2 ch rank


/-- Places by rank. -/
def P (sa : List Int) (r : Nat) : Nat := (ch sa r).toNat
theorem P_rank {sa : List Int} (h : IsSA s sa) {i : Nat} (hi : i < s.length) : P sa (rank s.length (ch s) i) = i := by
  unfold P; rw [h.2 i hi]; omega
theorem sa_at {sa : List Int} (h : IsSA s sa) {r : Nat} (hr : r < s.length) : ch sa r = (P sa r : Int) ∧ P sa r < s.length ∧ rank s.length (ch s) (P sa r) = r := by
  obtain ⟨i, hi, hir⟩ := rank_onto (c := ch s) hr
  have h1 := h.2 i hi
  rw [hir] at h1
  have h2 : P sa r = i := by unfold P; rw [h1]; omega
  rw [h2, h1]
  exact ⟨rfl, hi, hir⟩
/-- What the suffix of rank r has in common with the one ahead. -/
def lcv (s sa : List Int) (r : Nat) : Nat := if r = 0 then 0 else com s.length (ch s) (P sa (r - 1)) (P sa r)





end
end Go.Proofs.Ytobknpeglagaaaa.SD
end

section
/- The accessors of an index. -/
namespace Go.Proofs.Ytobknpeglagaaaa.SD
open Go.RowKit Go.Proofs.Ytobknpeglagaaaa Go.Proofs.Ytobknpeglagaaaa.X Go.Proofs.Ytobknpeglagaaaa.SM Go.Proofs.YtobknpeglagaaaaW.PrintWords Go.Proofs.YtobknpeglagaaaaW.PrintLast

section
variable {s : List Int} {x : S48}
attribute [local irreducible] cn cv fr tov rk3 loc2 ch rank
end
end Go.Proofs.Ytobknpeglagaaaa.SD
end

section
/- Seat of chapter 15: index, made, Len, At. -/
namespace Go.Proofs.Ytobknpeglagaaaa.SD
open Go.RowKit Go.Proofs.Ytobknpeglagaaaa Go.Proofs.Ytobknpeglagaaaa.X Go.Proofs.Ytobknpeglagaaaa.SM Go.Proofs.YtobknpeglagaaaaW.PrintWords Go.Proofs.YtobknpeglagaaaaW.PrintLast

section
variable {s : List Int} {x : S48}
attribute [local irreducible] cn cv fr tov rk3 loc2 ch rank
end
end Go.Proofs.Ytobknpeglagaaaa.SD
end

section
/- A search over a test that rises finds where it turns. -/
namespace Go.Proofs.Ytobknpeglagaaaa.SD
open Go.RowKit Go.Proofs.Ytobknpeglagaaaa Go.Proofs.Ytobknpeglagaaaa.X Go.Proofs.Ytobknpeglagaaaa.SM Go.Proofs.YtobknpeglagaaaaW.PrintWords Go.Proofs.YtobknpeglagaaaaW.PrintLast

section
variable {x : List S48} {p : List Int} {t : Int → Bool} {n K0 : Nat} {c m : Nat → Int}
end
end Go.Proofs.Ytobknpeglagaaaa.SD
end

section
/- Compare, plain: how many bytes a suffix and a text have in common, and which is less; by rank it rises. -/
namespace Go.Proofs.Ytobknpeglagaaaa.SD
open Go.RowKit Go.Proofs.Ytobknpeglagaaaa Go.Proofs.Ytobknpeglagaaaa.X Go.Proofs.Ytobknpeglagaaaa.SM Go.Proofs.YtobknpeglagaaaaW.PrintWords Go.Proofs.YtobknpeglagaaaaW.PrintLast

section
variable {s p u v : List Int} {x : S48}
attribute [local irreducible] cn cv fr tov rk3 loc2 ch rank
end
end Go.Proofs.Ytobknpeglagaaaa.SD
end

section
/- The unlike texts of any bytes, in their order: how many, which, that they rise; and Kth tells them. -/
namespace Go.Proofs.Ytobknpeglagaaaa.SD
open Go.RowKit Go.Proofs.Ytobknpeglagaaaa Go.Proofs.Ytobknpeglagaaaa.X Go.Proofs.Ytobknpeglagaaaa.SM Go.Proofs.YtobknpeglagaaaaW.PrintWords Go.Proofs.YtobknpeglagaaaaW.PrintLast

section
variable {s : List Int} {sa : List Int}
attribute [local irreducible] cn cv fr tov rk3 loc2 ch rank
/-- Texts that stand at a rank first. -/
def fresh (s sa : List Int) (r : Nat) : Nat := s.length - P sa r - lcv s sa r
def base (s sa : List Int) : Nat → Nat
  | 0 => 0
  | r + 1 => base s sa r + fresh s sa r
/-- The text. -/
def txt (s sa : List Int) (r j : Nat) : List Int := (s.drop (P sa r)).take (lcv s sa r + 1 + j)
theorem sa_slt (h : IsSA s sa) {r : Nat} (hr : r + 1 < s.length) : slt s.length (ch s) (P sa r) (P sa (r + 1)) = true := by
  obtain ⟨_, a1, a2⟩ := sa_at h (show r < s.length by omega)
  obtain ⟨_, b1, b2⟩ := sa_at h hr
  exact (rank_iff a1 b1).1 (by omega)
theorem lcv_at (sa : List Int) (r : Nat) : lcv s sa (r + 1) = com s.length (ch s) (P sa r) (P sa (r + 1)) := by
  unfold lcv; rw [if_neg (by omega), Nat.add_sub_cancel]
theorem fresh_pos (h : IsSA s sa) {r : Nat} (hr : r < s.length) : P sa r < s.length ∧ lcv s sa r < s.length - P sa r ∧ fresh s sa r + lcv s sa r + P sa r = s.length ∧ 0 < fresh s sa r := by
  have h1 := (sa_at h hr).2.1
  have h2 : lcv s sa r < s.length - P sa r := by
    cases r with
    | zero => unfold lcv; rw [if_pos rfl]; omega
    | succ r =>
      rw [lcv_at]
      have := (slt_com.1 (sa_slt h hr)).1
      omega
  refine ⟨h1, h2, ?_, ?_⟩ <;> (unfold fresh; omega)
theorem base_mono (s sa : List Int) {a b : Nat} (h : a ≤ b) : base s sa a ≤ base s sa b := by
  obtain ⟨d, rfl⟩ := Nat.exists_eq_add_of_le h
  clear h
  induction d with
  | zero => exact Nat.le_refl _
  | succ d ih =>
    have : base s sa (a + (d + 1)) = base s sa (a + d) + fresh s sa (a + d) := rfl
    omega
theorem base_one {r r2 j j2 : Nat} (h : base s sa r + j = base s sa r2 + j2) (h1 : j < fresh s sa r) (h2 : j2 < fresh s sa r2) : r = r2 ∧ j = j2 := by
  rcases Nat.lt_trichotomy r r2 with g | g | g
  · have := base_mono s sa (show r + 1 ≤ r2 by omega)
    have e : base s sa (r + 1) = base s sa r + fresh s sa r := rfl
    omega
  · subst g; exact ⟨rfl, by omega⟩
  · have := base_mono s sa (show r2 + 1 ≤ r by omega)
    have e : base s sa (r2 + 1) = base s sa r2 + fresh s sa r2 := rfl
    omega
theorem txt_len (h : IsSA s sa) {r j : Nat} (hr : r < s.length) (hj : j < fresh s sa r) : (txt s sa r j).length = lcv s sa r + 1 + j := by
  have := fresh_pos h hr
  unfold txt
  rw [List.length_take, List.length_drop]
  omega
/-- They rise. -/
theorem rise_in (h : IsSA s sa) {r j : Nat} (hr : r < s.length) (hj : j + 1 < fresh s sa r) : lessL (txt s sa r j) (txt s sa r (j + 1)) = true := by
  have l1 := txt_len h hr (show j < fresh s sa r by omega)
  have l2 := txt_len h hr hj
  refine lessL_of (lcv s sa r + 1 + j) (by omega) (fun q hq => ⟨by omega, ?_⟩) (.inl (by omega))
  unfold txt
  rw [ch_take, ch_take, if_pos hq, if_pos (by omega)]
theorem rise_next (h : IsSA s sa) {r j : Nat} (hr : r + 1 < s.length) (hj : j + 1 = fresh s sa r) : lessL (txt s sa r j) (txt s sa (r + 1) 0) = true := by
  have f1 := fresh_pos h (show r < s.length by omega)
  have f2 := fresh_pos h hr
  have l1 := txt_len h (show r < s.length by omega) (show j < fresh s sa r by omega)
  have l2 := txt_len h hr f2.2.2.2
  have hc := slt_com.1 (sa_slt h hr)
  have hl := lcv_at (s := s) sa r
  have hle := com_le (n := s.length) (c := ch s) (P sa r) (P sa (r + 1))
  refine lessL_of (lcv s sa (r + 1)) (by omega) (fun q hq => ⟨by omega, ?_⟩) ?_
  · have := com_get (n := s.length) (c := ch s) (i := P sa r) (j := P sa (r + 1)) (q := q) (by omega)
    unfold txt
    rw [ch_take, ch_take, if_pos (by omega), if_pos (by omega), ch_drop, ch_drop]
    exact this.2.2
  · by_cases g : (txt s sa r j).length ≤ lcv s sa (r + 1)
    · exact .inl g
    · refine .inr ?_
      unfold txt
      rw [ch_take, ch_take, if_pos (by omega), if_pos (by omega), ch_drop, ch_drop, hl]
      exact hc.2 (by omega)
/-- The last one told, ahead of number m. -/
def Prev (s sa : List Int) (m : Nat) (last : List Int) : Prop := m = 0 ∧ last = [] ∨ ∃ r j, r < s.length ∧ j < fresh s sa r ∧ m = base s sa r + j + 1 ∧ last = txt s sa r j
theorem rise (h : IsSA s sa) {r j : Nat} (hr : r < s.length) (hj : j < fresh s sa r) {last : List Int} (hp : Prev s sa (base s sa r + j) last) : lessL last (txt s sa r j) = true := by
  rcases hp with ⟨_, rfl⟩ | ⟨r', j', h1, h2, h3, rfl⟩
  · have := txt_len h hr hj
    cases he : txt s sa r j with
    | nil => rw [he, List.length_nil] at this; omega
    | cons a l => rfl
  · by_cases g : j' + 1 < fresh s sa r'
    · obtain ⟨rfl, rfl⟩ := base_one (j2 := j' + 1) (r2 := r') (by omega) hj g
      exact rise_in h h1 g
    · have e : base s sa (r' + 1) = base s sa r' + fresh s sa r' := rfl
      by_cases g2 : r' + 1 < s.length
      · obtain ⟨rfl, rfl⟩ := base_one (j2 := 0) (r2 := r' + 1) (by omega) hj (fresh_pos h g2).2.2.2
        exact rise_next h g2 (by omega)
      · have := base_mono s sa (show r + 1 ≤ r' + 1 by omega)
        have e2 : base s sa (r + 1) = base s sa r + fresh s sa r := rfl
        omega
theorem places (h : IsSA s sa) : ((List.range s.length).map (P sa)).Perm (List.range s.length) := by
  refine (List.perm_ext_iff_of_nodup ?_ List.nodup_range).2 fun x => ?_
  · refine List.pairwise_map.2 (List.Pairwise.imp_of_mem (R := fun a b => a < b) (fun {a b} ha hb hab => ?_) List.pairwise_lt_range)
    have ha := List.mem_range.1 ha
    have hb := List.mem_range.1 hb
    have h1 := (sa_at h ha).2.2
    have h2 := (sa_at h hb).2.2
    intro e
    rw [e] at h1
    omega
  · rw [List.mem_map, List.mem_range]
    constructor
    · rintro ⟨a, ha, rfl⟩
      exact (sa_at h (List.mem_range.1 ha)).2.1
    · intro hx
      exact ⟨rank s.length (ch s) x, List.mem_range.2 (rank_lt hx), P_rank h hx⟩

end
end Go.Proofs.Ytobknpeglagaaaa.SD
end

section
/- By rank, what compare tells rises; how many are less than a text, by place and by rank. -/
namespace Go.Proofs.Ytobknpeglagaaaa.SD
open Go.RowKit Go.Proofs.Ytobknpeglagaaaa Go.Proofs.Ytobknpeglagaaaa.X Go.Proofs.Ytobknpeglagaaaa.SM Go.Proofs.YtobknpeglagaaaaW.PrintWords Go.Proofs.YtobknpeglagaaaaW.PrintLast

section
variable {s p u v : List Int} {x : S48} {sa : List Int}
attribute [local irreducible] cv fr tov rk3 loc2 ch rank
end
end Go.Proofs.Ytobknpeglagaaaa.SD
end

section
/- The longest beginning of a text that stands anywhere: what most tells, from the rank where the text would stand and the one ahead. -/
namespace Go.Proofs.Ytobknpeglagaaaa.SD
open Go.RowKit Go.Proofs.Ytobknpeglagaaaa Go.Proofs.Ytobknpeglagaaaa.X Go.Proofs.Ytobknpeglagaaaa.SM Go.Proofs.YtobknpeglagaaaaW.PrintWords Go.Proofs.YtobknpeglagaaaaW.PrintLast

section
variable {s p u v : List Int} {x : S48} {sa : List Int}
attribute [local irreducible] cv fr tov rk3 loc2 ch rank
end
end Go.Proofs.Ytobknpeglagaaaa.SD
end

section
/- The least place of the longest beginning: what Longest tells, and what the document tells, are one. -/
namespace Go.Proofs.Ytobknpeglagaaaa.SD
open Go.RowKit Go.Proofs.Ytobknpeglagaaaa Go.Proofs.Ytobknpeglagaaaa.X Go.Proofs.Ytobknpeglagaaaa.SM Go.Proofs.YtobknpeglagaaaaW.PrintWords Go.Proofs.YtobknpeglagaaaaW.PrintLast

section
variable {s p : List Int}
attribute [local irreducible] cv fr tov rk3 loc2 ch rank
end
end Go.Proofs.Ytobknpeglagaaaa.SD
end

section
/- The document's longest (chapter 15), of a text of any length. -/
namespace Go.Proofs.Ytobknpeglagaaaa.SD
open Go.RowKit Go.Proofs.Ytobknpeglagaaaa Go.Proofs.Ytobknpeglagaaaa.X Go.Proofs.Ytobknpeglagaaaa.SM Go.Proofs.YtobknpeglagaaaaW.PrintWords Go.Proofs.YtobknpeglagaaaaW.PrintLast

section
variable {s p l : List Int}
attribute [local irreducible] cv fr tov rk3 loc2 ch rank
end
end Go.Proofs.Ytobknpeglagaaaa.SD
end

section
/- Package scan: the best number of bytes, by a test: as the program reckons it. -/
namespace Go.Proofs.Ytobknpeglagaaaa.SD
open Go.RowKit Go.Proofs.Ytobknpeglagaaaa Go.Proofs.Ytobknpeglagaaaa.X Go.Proofs.Ytobknpeglagaaaa.SM Go.Proofs.YtobknpeglagaaaaW.PrintWords Go.Proofs.YtobknpeglagaaaaW.PrintLast

section
variable {s p : List Int} {x : S48}
end
/-- How many of the first n are true. -/
def cnt (b : Nat → Bool) : Nat → Nat
  | 0 => 0
  | n + 1 => cnt b n + (if b n = true then 1 else 0)
theorem cnt_le (b : Nat → Bool) : ∀ n, cnt b n ≤ n
  | 0 => Nat.le_refl _
  | n + 1 => by
    have := cnt_le b n
    unfold cnt
    split <;> omega
/-- The least n up to which it pays best, and how well. -/
def bo (b : Nat → Bool) : Nat → Nat × Int
  | 0 => (0, 0)
  | n + 1 => if 2 * (cnt b (n + 1) : Int) - ((n + 1 : Nat) : Int) > (bo b n).2 then (n + 1, 2 * (cnt b (n + 1) : Int) - ((n + 1 : Nat) : Int)) else bo b n
theorem bo_le (b : Nat → Bool) : ∀ n, (bo b n).1 ≤ n ∧ 0 ≤ (bo b n).2 ∧ (bo b n).2 ≤ n
  | 0 => ⟨Nat.le_refl _, Int.le_refl _, Int.le_refl _⟩
  | n + 1 => by
    obtain ⟨h1, h2, h3⟩ := bo_le b n
    have := cnt_le b (n + 1)
    unfold bo
    split
    · exact ⟨Nat.le_refl _, by dsimp only; omega, by dsimp only; omega⟩
    · exact ⟨by omega, h2, by omega⟩
theorem bst_go {t : Int → Option Bool} {b : Nat → Bool} {m : Nat} (hm : m ≤ 140737488351300) (ht : ∀ n, n < m → t (n : Int) = some (b n)) (d : Nat) : ∀ n, m - n = d → n ≤ m → ∀ k, d < k → bst t k (m : Int) (cnt b n : Int) ((bo b n).1 : Int) (bo b n).2 (n : Int) = some ((bo b m).1 : Int) := by
  induction d with
  | zero =>
    intro n hd hn k hk
    have : n = m := by omega
    subst this
    obtain ⟨k, rfl⟩ : ∃ k', k = k' + 1 := ⟨k - 1, by omega⟩
    rw [bst, if_neg (by omega)]
  | succ d ih =>
    intro n hd hn k hk
    obtain ⟨k, rfl⟩ : ∃ k', k = k' + 1 := ⟨k - 1, by omega⟩
    have next := ih (n + 1) (by omega) (by omega) k (by omega)
    have hc := cnt_le b n
    have hb := bo_le b n
    rw [bst, if_pos (by omega), ht n (by omega), Option.bind_some]
    have ec : cnt b (n + 1) = cnt b n + (if b n = true then 1 else 0) := rfl
    have eb : bo b (n + 1) = if 2 * (cnt b (n + 1) : Int) - ((n + 1 : Nat) : Int) > (bo b n).2 then (n + 1, 2 * (cnt b (n + 1) : Int) - ((n + 1 : Nat) : Int)) else bo b n := rfl
    rw [wp (x := (n : Int) + 1) (y := ((n + 1 : Nat) : Int)) (by omega) (by omega) (by omega)]
    by_cases hbn : b n = true
    · rw [if_pos hbn] at ec
      rw [if_pos hbn, wp (x := (cnt b n : Int) + 1) (y := (cnt b (n + 1) : Int)) (by omega) (by omega) (by omega), wp (x := 2 * (cnt b (n + 1) : Int)) (y := 2 * (cnt b (n + 1) : Int)) rfl (by omega) (by omega), wp (x := 2 * (cnt b (n + 1) : Int) - ((n + 1 : Nat) : Int)) (y := 2 * (cnt b (n + 1) : Int) - ((n + 1 : Nat) : Int)) rfl (by omega) (by omega)]
      by_cases c : 2 * (cnt b (n + 1) : Int) - ((n + 1 : Nat) : Int) > (bo b n).2
      · rw [if_pos c] at eb
        rw [if_pos c]
        rw [eb] at next
        exact next
      · rw [if_neg c] at eb
        rw [if_neg c]
        rw [eb] at next
        exact next
    · rw [if_neg hbn] at ec
      have ec : cnt b (n + 1) = cnt b n := ec
      rw [if_neg hbn, wp (x := 2 * (cnt b n : Int)) (y := 2 * (cnt b (n + 1) : Int)) (by omega) (by omega) (by omega), wp (x := 2 * (cnt b (n + 1) : Int) - ((n + 1 : Nat) : Int)) (y := 2 * (cnt b (n + 1) : Int) - ((n + 1 : Nat) : Int)) rfl (by omega) (by omega)]
      rw [← ec]
      by_cases c : 2 * (cnt b (n + 1) : Int) - ((n + 1 : Nat) : Int) > (bo b n).2
      · rw [if_pos c] at eb
        rw [if_pos c]
        rw [eb] at next
        exact next
      · rw [if_neg c] at eb
        rw [if_neg c]
        rw [eb] at next
        exact next
theorem bst_ok {t : Int → Option Bool} {b : Nat → Bool} {m : Nat} (hm : m ≤ 140737488351300) (ht : ∀ n, n < m → t (n : Int) = some (b n)) {k : Nat} (hk : m < k) : bst t k (m : Int) 0 0 0 0 = some ((bo b m).1 : Int) :=
  bst_go hm ht m 0 (by omega) (by omega) k hk
theorem likeAt_nat {a b : List Int} {i j : Nat} (h1 : i < a.length) (h2 : j < b.length) : likeAt a (i : Int) b (j : Int) = some (ch a i == ch b j) := by
  unfold likeAt
  rw [if_pos (by omega), if_pos (by omega), if_pos (by omega), if_pos (by omega), rd_nat, rd_nat]
section
variable {o n : List Int} (ho : o.length ≤ 140737488351300) (hn : n.length ≤ 140737488351300)
set_option linter.unusedSectionVars false
include ho hn
/-- Forward at places that are right ones. -/
def fwb (o : List Int) (pos : Nat) (n : List Int) (fr : Nat) (i : Nat) : Bool := ch o (pos + i) == ch n (fr + i)
def bwb (o : List Int) (pos : Nat) (n : List Int) (to_ : Nat) (i : Nat) : Bool := ch o (pos - 1 - i) == ch n (to_ - 1 - i)
def fwd (o : List Int) (pos : Nat) (n : List Int) (fr to_ : Nat) : Nat := (bo (fwb o pos n fr) (min (to_ - fr) (o.length - pos))).1
def bwd (o : List Int) (pos : Nat) (n : List Int) (fr to_ : Nat) : Nat := (bo (bwb o pos n to_) (min (to_ - fr) pos)).1
theorem Forward_in {pos fr to_ : Nat} (h1 : pos ≤ o.length) (h2 : fr ≤ to_) (h3 : to_ ≤ n.length) : scan_Forward.f o (pos : Int) n (fr : Int) (to_ : Int) = some (fwd o pos n fr to_ : Int) := by
  unfold scan_Forward.f scan_right.f
  rw [if_pos (by omega), if_pos (by omega), if_pos (by omega), if_pos (by omega), decide_eq_true (by omega), Option.bind_some, if_pos rfl, wp (x := (to_ : Int) - (fr : Int)) (y := ((to_ - fr : Nat) : Int)) (by omega) (by omega) (by omega), wp (x := (o.length : Int) - (pos : Int)) (y := ((o.length - pos : Nat) : Int)) (by omega) (by omega) (by omega)]
  have hmn : mn ((to_ - fr : Nat) : Int) ((o.length - pos : Nat) : Int) = ((min (to_ - fr) (o.length - pos) : Nat) : Int) := by unfold mn; split <;> omega
  rw [hmn]
  refine bst_ok (b := fwb o pos n fr) (by omega) (fun i hi => ?_) (by omega)
  unfold fwd1
  rw [wp (x := (pos : Int) + (i : Int)) (y := ((pos + i : Nat) : Int)) (by omega) (by omega) (by omega), wp (x := (fr : Int) + (i : Int)) (y := ((fr + i : Nat) : Int)) (by omega) (by omega) (by omega), likeAt_nat (by omega) (by omega)]
  rfl
theorem Backward_in {pos fr to_ : Nat} (h1 : pos ≤ o.length) (h2 : fr ≤ to_) (h3 : to_ ≤ n.length) : scan_Backward.f o (pos : Int) n (fr : Int) (to_ : Int) = some (bwd o pos n fr to_ : Int) := by
  unfold scan_Backward.f scan_right.f
  rw [if_pos (by omega), if_pos (by omega), if_pos (by omega), if_pos (by omega), decide_eq_true (by omega), Option.bind_some, if_pos rfl, wp (x := (to_ : Int) - (fr : Int)) (y := ((to_ - fr : Nat) : Int)) (by omega) (by omega) (by omega)]
  have hmn : mn ((to_ - fr : Nat) : Int) (pos : Int) = ((min (to_ - fr) pos : Nat) : Int) := by unfold mn; split <;> omega
  rw [hmn]
  refine bst_ok (b := bwb o pos n to_) (by omega) (fun i hi => ?_) (by omega)
  unfold bwd1
  rw [wp (x := (pos : Int) - 1) (y := (pos : Int) - 1) rfl (by omega) (by omega), wp (x := (to_ : Int) - 1) (y := (to_ : Int) - 1) rfl (by omega) (by omega), wp (x := (pos : Int) - 1 - (i : Int)) (y := ((pos - 1 - i : Nat) : Int)) (by omega) (by omega) (by omega), wp (x := (to_ : Int) - 1 - (i : Int)) (y := ((to_ - 1 - i : Nat) : Int)) (by omega) (by omega) (by omega), likeAt_nat (by omega) (by omega)]
  rfl
end
/-- The best parting, by a score. -/
def sco (o : List Int) (a1 a2 : Nat) (n : List Int) (a4 : Nat) (i : Nat) : Int := (cnt (fwb o a1 n a4) i : Int) - (cnt (fwb o a2 n a4) i : Int)
def sp (f : Nat → Int) : Nat → Nat × Int
  | 0 => (0, 0)
  | n + 1 => if f (n + 1) > (sp f n).2 then (n + 1, f (n + 1)) else sp f n
section
variable {o n : List Int} (ho : o.length ≤ 140737488351300) (hn : n.length ≤ 140737488351300) {a1 a2 a4 m : Nat} (h1 : a1 + m ≤ o.length) (h2 : a2 + m ≤ o.length) (h4 : a4 + m ≤ n.length)
include ho hn h1 h2 h4
theorem splt_go (d : Nat) : ∀ i, m - i = d → i ≤ m → ∀ k, d < k → splt k o (a1 : Int) (a2 : Int) n (a4 : Int) (m : Int) ((sp (sco o a1 a2 n a4) i).1 : Int) (sp (sco o a1 a2 n a4) i).2 (sco o a1 a2 n a4 i) (i : Int) = some ((sp (sco o a1 a2 n a4) m).1 : Int) := by
  induction d with
  | zero =>
    intro i hd hi k hk
    have : i = m := by omega
    subst this
    obtain ⟨k, rfl⟩ : ∃ k', k = k' + 1 := ⟨k - 1, by omega⟩
    rw [splt, if_neg (by omega)]
  | succ d ih =>
    intro i hd hi k hk
    obtain ⟨k, rfl⟩ : ∃ k', k = k' + 1 := ⟨k - 1, by omega⟩
    have next := ih (i + 1) (by omega) (by omega) k (by omega)
    rw [splt, if_pos (by omega), wp (x := (a1 : Int) + (i : Int)) (y := ((a1 + i : Nat) : Int)) (by omega) (by omega) (by omega), wp (x := (a4 : Int) + (i : Int)) (y := ((a4 + i : Nat) : Int)) (by omega) (by omega) (by omega), wp (x := (a2 : Int) + (i : Int)) (y := ((a2 + i : Nat) : Int)) (by omega) (by omega) (by omega), likeAt_nat (by omega) (by omega), Option.bind_some, likeAt_nat (by omega) (by omega), Option.bind_some]
    have hc1 := cnt_le (fwb o a1 n a4) i
    have hc2 := cnt_le (fwb o a2 n a4) i
    have e : sc1 (ch o (a1 + i) == ch n (a4 + i)) (ch o (a2 + i) == ch n (a4 + i)) (sco o a1 a2 n a4 i) = sco o a1 a2 n a4 (i + 1) := by
      have e1 : cnt (fwb o a1 n a4) (i + 1) = cnt (fwb o a1 n a4) i + (if fwb o a1 n a4 i = true then 1 else 0) := rfl
      have e2 : cnt (fwb o a2 n a4) (i + 1) = cnt (fwb o a2 n a4) i + (if fwb o a2 n a4 i = true then 1 else 0) := rfl
      show sc1 (fwb o a1 n a4 i) (fwb o a2 n a4 i) _ = _
      unfold sc1 sco
      rw [e1, e2]
      clear e1 e2
      generalize cnt (fwb o a1 n a4) i = x at hc1 ⊢
      generalize cnt (fwb o a2 n a4) i = y at hc2 ⊢
      generalize fwb o a1 n a4 i = b1
      generalize fwb o a2 n a4 i = b2
      cases b1 <;> cases b2 <;> simp only [if_true, if_false, Bool.false_eq_true]
      · omega
      · exact wp (by omega) (by omega) (by omega)
      · exact wp (by omega) (by omega) (by omega)
      · rw [wp (x := (x : Int) - (y : Int) + 1) (y := (x : Int) - (y : Int) + 1) rfl (by omega) (by omega)]
        exact wp (by omega) (by omega) (by omega)
    rw [e, wp (x := (i : Int) + 1) (y := ((i + 1 : Nat) : Int)) (by omega) (by omega) (by omega)]
    have eb : sp (sco o a1 a2 n a4) (i + 1) = if sco o a1 a2 n a4 (i + 1) > (sp (sco o a1 a2 n a4) i).2 then (i + 1, sco o a1 a2 n a4 (i + 1)) else sp (sco o a1 a2 n a4) i := rfl
    by_cases c : sco o a1 a2 n a4 (i + 1) > (sp (sco o a1 a2 n a4) i).2
    · rw [if_pos c] at eb
      rw [if_pos c]
      rw [eb] at next
      exact next
    · rw [if_neg c] at eb
      rw [if_neg c]
      rw [eb] at next
      exact next
theorem Split_in : scan_Split.f o (a1 : Int) (a2 : Int) n (a4 : Int) (m : Int) = some ((sp (sco o a1 a2 n a4) m).1 : Int) := by
  have e : ∀ (l : List Int) (a : Nat), l.length ≤ 140737488351300 → a + m ≤ l.length → spl1 l (a : Int) (m : Int) = true := by
    intro l a hl ha
    unfold spl1
    rw [decide_eq_true (by omega), decide_eq_true (by omega), wp (x := (l.length : Int) - (a : Int)) (y := ((l.length - a : Nat) : Int)) (by omega) (by omega) (by omega), decide_eq_true (by omega)]
    rfl
  unfold scan_Split.f
  rw [if_neg (by omega), e o a1 ho h1, if_pos rfl, e o a2 ho h2, if_pos rfl, e n a4 hn h4, if_pos rfl]
  exact splt_go ho hn h1 h2 h4 m 0 (by omega) (by omega) _ (by omega)
end
end Go.Proofs.Ytobknpeglagaaaa.SD
end

section
/- The document's Forward, Backward and Split (chapter 15): by the same counts. -/
namespace Go.Proofs.Ytobknpeglagaaaa.SD
open Go.RowKit Go.Proofs.Ytobknpeglagaaaa Go.Proofs.Ytobknpeglagaaaa.X Go.Proofs.Ytobknpeglagaaaa.SM Go.Proofs.YtobknpeglagaaaaW.PrintWords Go.Proofs.YtobknpeglagaaaaW.PrintLast

section
set_option linter.unusedSectionVars false
theorem cnt_congr {b c : Nat → Bool} : ∀ m, (∀ i, i < m → b i = c i) → cnt b m = cnt c m
  | 0, _ => rfl
  | m + 1, h => by
    have := cnt_congr m (fun i hi => h i (by omega))
    simp only [cnt, this, h m (by omega)]
theorem cnt_shift (b : Nat → Bool) : ∀ m, cnt b (m + 1) = (if b 0 = true then 1 else 0) + cnt (fun i => b (i + 1)) m
  | 0 => by simp [cnt]
  | m + 1 => by
    have := cnt_shift b m
    have e : cnt b (m + 1 + 1) = cnt b (m + 1) + (if b (m + 1) = true then 1 else 0) := rfl
    have e2 : cnt (fun i => b (i + 1)) (m + 1) = cnt (fun i => b (i + 1)) m + (if b (m + 1) = true then 1 else 0) := rfl
    rw [e, e2, this]; omega
theorem cnt_rev (b : Nat → Bool) : ∀ m, cnt (fun i => b (m - 1 - i)) m = cnt b m
  | 0 => rfl
  | m + 1 => by
    rw [cnt_shift]
    have e : cnt b (m + 1) = cnt b m + (if b m = true then 1 else 0) := rfl
    have h := cnt_rev b m
    rw [e, ← h, cnt_congr (b := fun i => b (m + 1 - 1 - (i + 1))) (c := fun i => b (m - 1 - i)) m (fun i hi => by rw [show m + 1 - 1 - (i + 1) = m - 1 - i by omega])]
    simp only [Nat.add_sub_cancel, Nat.sub_zero]
    omega
theorem alike_l0 {a b : List Int} (ha : a.length ≤ 140737488351300) {m : Nat} (h1 : m ≤ a.length) (h2 : m ≤ b.length) (d : Nat) : ∀ i, m - i = d → i ≤ m → ∀ k, d < k → sapperref15_alike.l0 k a b (m : Int) (cnt (fun i => ch a i == ch b i) i : Int) (i : Int) = some (cnt (fun i => ch a i == ch b i) m : Int) := by
  induction d with
  | zero =>
    intro i hd hi k hk
    obtain ⟨k, rfl⟩ : ∃ k', k = k' + 1 := ⟨k - 1, by omega⟩
    have : i = m := by omega
    subst this
    rw [sapperref15_alike.l0, if_neg (by omega)]
  | succ d ih =>
    intro i hd hi k hk
    obtain ⟨k, rfl⟩ : ∃ k', k = k' + 1 := ⟨k - 1, by omega⟩
    have next := ih (i + 1) (by omega) (by omega) k (by omega)
    have hc := cnt_le (fun i => ch a i == ch b i) i
    have ec : cnt (fun i => ch a i == ch b i) (i + 1) = cnt (fun i => ch a i == ch b i) i + (if (ch a i == ch b i) = true then 1 else 0) := rfl
    rw [sapperref15_alike.l0, if_pos (by omega), if_pos (by omega), if_pos (by omega), if_pos (by omega), rd_nat, rd_nat, wp (x := (i : Int) + 1) (y := ((i + 1 : Nat) : Int)) (by omega) (by omega) (by omega)]
    by_cases c : ch a i = ch b i
    · rw [if_pos (beq_iff_eq.mpr c)] at ec
      rw [if_pos c, wp (x := (cnt (fun i => ch a i == ch b i) i : Int) + 1) (y := (cnt (fun i => ch a i == ch b i) (i + 1) : Int)) (by omega) (by omega) (by omega)]
      exact next
    · rw [if_neg (by simp [c])] at ec
      rw [if_neg c, show cnt (fun i => ch a i == ch b i) i = cnt (fun i => ch a i == ch b i) (i + 1) from ec.symm]
      exact next
theorem alike_ok {a b : List Int} (ha : a.length ≤ 140737488351300) {m : Nat} (h1 : m ≤ a.length) (h2 : m ≤ b.length) {k : Nat} (hk : m < k) : sapperref15_alike.f k a b (m : Int) = some (cnt (fun i => ch a i == ch b i) m : Int) :=
  alike_l0 ha h1 h2 m 0 (by omega) (by omega) k hk
section
variable {o n : List Int} (ho : o.length ≤ 140737488351232) (hn : n.length ≤ 140737488351232)
include ho hn
theorem refF_l0 {pos fr to_ : Nat} (h1 : pos ≤ o.length) (h2 : fr ≤ to_) (h3 : to_ ≤ n.length) {m : Nat} (hm : m = min (to_ - fr) (o.length - pos)) (d : Nat) : ∀ i, m + 1 - i = d → i ≤ m + 1 → ∀ k, 2 * d + m + 3 ≤ k → sapperref15_Forward.l0 k o (pos : Int) n (fr : Int) (to_ : Int) ((bo (fwb o pos n fr) (i - 1)).1 : Int) (bo (fwb o pos n fr) (i - 1)).2 (i : Int) = some ((bo (fwb o pos n fr) m).1 : Int) := by
  induction d with
  | zero =>
    intro i hd hi k hk
    obtain ⟨k, rfl⟩ : ∃ k', k = k' + 2 := ⟨k - 2, by omega⟩
    have : i = m + 1 := by omega
    subst this
    rw [sapperref15_Forward.l0, wp (x := (fr : Int) + ((m + 1 : Nat) : Int)) (y := ((fr + (m + 1) : Nat) : Int)) (by omega) (by omega) (by omega), wp (x := (pos : Int) + ((m + 1 : Nat) : Int)) (y := ((pos + (m + 1) : Nat) : Int)) (by omega) (by omega) (by omega)]
    by_cases c : fr + (m + 1) ≤ to_
    · rw [if_pos (by omega), decide_eq_false (by omega), sapperref15_Forward.j1, if_neg (by decide)]; rfl
    · rw [if_neg (by omega), sapperref15_Forward.j1, if_neg (by decide)]; rfl
  | succ d ih =>
    intro i hd hi k hk
    obtain ⟨k, rfl⟩ : ∃ k', k = k' + 2 := ⟨k - 2, by omega⟩
    have next := ih (i + 1) (by omega) (by omega) k (by omega)
    have hc := cnt_le (fwb o pos n fr) i
    have hA : sapperref15_alike.f k (o.drop pos) (n.drop fr) (i : Int) = some (cnt (fwb o pos n fr) i : Int) := by
      rw [alike_ok (by rw [List.length_drop]; omega) (by rw [List.length_drop]; omega) (by rw [List.length_drop]; omega) (by omega)]
      rw [cnt_congr (c := fwb o pos n fr) i (fun j _ => by rw [ch_drop, ch_drop]; (try rfl))]
    rw [sapperref15_Forward.l0, wp (x := (fr : Int) + (i : Int)) (y := ((fr + i : Nat) : Int)) (by omega) (by omega) (by omega), wp (x := (pos : Int) + (i : Int)) (y := ((pos + i : Nat) : Int)) (by omega) (by omega) (by omega), if_pos (by omega), decide_eq_true (by omega), sapperref15_Forward.j1, if_pos rfl, if_pos (by omega), if_pos (by omega), if_pos (by omega), if_pos (by omega), Int.toNat_natCast, Int.toNat_natCast, hA, Option.bind_some, wp (x := 2 * (cnt (fwb o pos n fr) i : Int)) (y := 2 * (cnt (fwb o pos n fr) i : Int)) rfl (by omega) (by omega), wp (x := 2 * (cnt (fwb o pos n fr) i : Int) - (i : Int)) (y := 2 * (cnt (fwb o pos n fr) i : Int) - (i : Int)) rfl (by omega) (by omega), wp (x := (i : Int) + 1) (y := ((i + 1 : Nat) : Int)) (by omega) (by omega) (by omega)]
    rw [Nat.add_sub_cancel] at next
    cases i with
    | zero =>
      rw [if_neg (by show ¬ ((2 : Int) * ((0 : Nat) : Int) - ((0 : Nat) : Int) > 0); decide)]
      exact next
    | succ i =>
      have eb : bo (fwb o pos n fr) (i + 1) = if 2 * (cnt (fwb o pos n fr) (i + 1) : Int) - ((i + 1 : Nat) : Int) > (bo (fwb o pos n fr) i).2 then (i + 1, 2 * (cnt (fwb o pos n fr) (i + 1) : Int) - ((i + 1 : Nat) : Int)) else bo (fwb o pos n fr) i := rfl
      rw [Nat.add_sub_cancel]
      by_cases c : 2 * (cnt (fwb o pos n fr) (i + 1) : Int) - ((i + 1 : Nat) : Int) > (bo (fwb o pos n fr) i).2
      · rw [if_pos c] at eb
        rw [eb] at next
        rw [if_pos c]
        exact next
      · rw [if_neg c] at eb
        rw [eb] at next
        rw [if_neg c]
        exact next
theorem refForward_in {pos fr to_ : Nat} (h1 : pos ≤ o.length) (h2 : fr ≤ to_) (h3 : to_ ≤ n.length) {k : Nat} (hk : 3 * n.length + 10 ≤ k) : sapperref15_Forward.f k o (pos : Int) n (fr : Int) (to_ : Int) = some (fwd o pos n fr to_ : Int) := by
  unfold sapperref15_Forward.f sapperref15_within.f
  rw [if_pos (by omega), if_pos (by omega), if_pos (by omega), if_pos (by omega), decide_eq_true (by omega), Option.bind_some, if_pos rfl]
  exact refF_l0 ho hn h1 h2 h3 rfl (min (to_ - fr) (o.length - pos) + 1) 0 (by omega) (by omega) k (by omega)
theorem refB_l0 {pos fr to_ : Nat} (h1 : pos ≤ o.length) (h2 : fr ≤ to_) (h3 : to_ ≤ n.length) {m : Nat} (hm : m = min (to_ - fr) pos) (d : Nat) : ∀ i, m + 1 - i = d → i ≤ m + 1 → ∀ k, 2 * d + m + 3 ≤ k → sapperref15_Backward.l0 k o (pos : Int) n (fr : Int) (to_ : Int) ((bo (bwb o pos n to_) (i - 1)).1 : Int) (bo (bwb o pos n to_) (i - 1)).2 (i : Int) = some ((bo (bwb o pos n to_) m).1 : Int) := by
  induction d with
  | zero =>
    intro i hd hi k hk
    obtain ⟨k, rfl⟩ : ∃ k', k = k' + 2 := ⟨k - 2, by omega⟩
    have : i = m + 1 := by omega
    subst this
    rw [sapperref15_Backward.l0, wp (x := (fr : Int) + ((m + 1 : Nat) : Int)) (y := ((fr + (m + 1) : Nat) : Int)) (by omega) (by omega) (by omega)]
    by_cases c : fr + (m + 1) ≤ to_
    · rw [if_pos (by omega), decide_eq_false (by omega), sapperref15_Backward.j1, if_neg (by decide)]; rfl
    · rw [if_neg (by omega), sapperref15_Backward.j1, if_neg (by decide)]; rfl
  | succ d ih =>
    intro i hd hi k hk
    obtain ⟨k, rfl⟩ : ∃ k', k = k' + 2 := ⟨k - 2, by omega⟩
    have next := ih (i + 1) (by omega) (by omega) k (by omega)
    have hc := cnt_le (bwb o pos n to_) i
    have hA : sapperref15_alike.f k (o.drop (pos - i)) (n.drop (to_ - i)) (i : Int) = some (cnt (bwb o pos n to_) i : Int) := by
      rw [alike_ok (by rw [List.length_drop]; omega) (by rw [List.length_drop]; omega) (by rw [List.length_drop]; omega) (by omega)]
      rw [← cnt_rev (bwb o pos n to_) i]
      rw [cnt_congr (c := fun j => bwb o pos n to_ (i - 1 - j)) i (fun j hj => by
        rw [ch_drop, ch_drop]
        show _ = (ch o (pos - 1 - (i - 1 - j)) == ch n (to_ - 1 - (i - 1 - j)))
        rw [show pos - 1 - (i - 1 - j) = pos - i + j by omega, show to_ - 1 - (i - 1 - j) = to_ - i + j by omega])]
    rw [sapperref15_Backward.l0, wp (x := (fr : Int) + (i : Int)) (y := ((fr + i : Nat) : Int)) (by omega) (by omega) (by omega), if_pos (by omega), decide_eq_true (by omega), sapperref15_Backward.j1, if_pos rfl, wp (x := (pos : Int) - (i : Int)) (y := ((pos - i : Nat) : Int)) (by omega) (by omega) (by omega), wp (x := (to_ : Int) - (i : Int)) (y := ((to_ - i : Nat) : Int)) (by omega) (by omega) (by omega), if_pos (by omega), if_pos (by omega), if_pos (by omega), if_pos (by omega), Int.toNat_natCast, Int.toNat_natCast, hA, Option.bind_some, wp (x := 2 * (cnt (bwb o pos n to_) i : Int)) (y := 2 * (cnt (bwb o pos n to_) i : Int)) rfl (by omega) (by omega), wp (x := 2 * (cnt (bwb o pos n to_) i : Int) - (i : Int)) (y := 2 * (cnt (bwb o pos n to_) i : Int) - (i : Int)) rfl (by omega) (by omega), wp (x := (i : Int) + 1) (y := ((i + 1 : Nat) : Int)) (by omega) (by omega) (by omega)]
    rw [Nat.add_sub_cancel] at next
    cases i with
    | zero =>
      rw [if_neg (by show ¬ ((2 : Int) * ((0 : Nat) : Int) - ((0 : Nat) : Int) > 0); decide)]
      exact next
    | succ i =>
      have eb : bo (bwb o pos n to_) (i + 1) = if 2 * (cnt (bwb o pos n to_) (i + 1) : Int) - ((i + 1 : Nat) : Int) > (bo (bwb o pos n to_) i).2 then (i + 1, 2 * (cnt (bwb o pos n to_) (i + 1) : Int) - ((i + 1 : Nat) : Int)) else bo (bwb o pos n to_) i := rfl
      rw [Nat.add_sub_cancel]
      by_cases c : 2 * (cnt (bwb o pos n to_) (i + 1) : Int) - ((i + 1 : Nat) : Int) > (bo (bwb o pos n to_) i).2
      · rw [if_pos c] at eb
        rw [eb] at next
        rw [if_pos c]
        exact next
      · rw [if_neg c] at eb
        rw [eb] at next
        rw [if_neg c]
        exact next
theorem refBackward_in {pos fr to_ : Nat} (h1 : pos ≤ o.length) (h2 : fr ≤ to_) (h3 : to_ ≤ n.length) {k : Nat} (hk : 3 * n.length + 10 ≤ k) : sapperref15_Backward.f k o (pos : Int) n (fr : Int) (to_ : Int) = some (bwd o pos n fr to_ : Int) := by
  unfold sapperref15_Backward.f sapperref15_within.f
  rw [if_pos (by omega), if_pos (by omega), if_pos (by omega), if_pos (by omega), decide_eq_true (by omega), Option.bind_some, if_pos rfl]
  exact refB_l0 ho hn h1 h2 h3 rfl (min (to_ - fr) pos + 1) 0 (by omega) (by omega) k (by omega)
theorem refS_l0 {a1 a2 a4 m : Nat} (h1 : a1 + m ≤ o.length) (h2 : a2 + m ≤ o.length) (h4 : a4 + m ≤ n.length) (d : Nat) : ∀ i, m + 1 - i = d → i ≤ m + 1 → ∀ k, d + m + 3 ≤ k → sapperref15_Split.l0 k o (a1 : Int) (a2 : Int) n (a4 : Int) (m : Int) ((sp (sco o a1 a2 n a4) (i - 1)).1 : Int) (sp (sco o a1 a2 n a4) (i - 1)).2 (i : Int) = some ((sp (sco o a1 a2 n a4) m).1 : Int) := by
  induction d with
  | zero =>
    intro i hd hi k hk
    obtain ⟨k, rfl⟩ : ∃ k', k = k' + 1 := ⟨k - 1, by omega⟩
    have : i = m + 1 := by omega
    subst this
    rw [sapperref15_Split.l0, if_neg (by omega)]; rfl
  | succ d ih =>
    intro i hd hi k hk
    obtain ⟨k, rfl⟩ : ∃ k', k = k' + 1 := ⟨k - 1, by omega⟩
    have next := ih (i + 1) (by omega) (by omega) k (by omega)
    have hc := cnt_le (fwb o a1 n a4) i
    have hc2 := cnt_le (fwb o a2 n a4) i
    have hA : ∀ a, a + m ≤ o.length → sapperref15_alike.f k (o.drop a) (n.drop a4) (i : Int) = some (cnt (fwb o a n a4) i : Int) := fun a ha => by
      rw [alike_ok (by rw [List.length_drop]; omega) (by rw [List.length_drop]; omega) (by rw [List.length_drop]; omega) (by omega)]
      rw [cnt_congr (c := fwb o a n a4) i (fun j _ => by rw [ch_drop, ch_drop]; (try rfl))]
    rw [sapperref15_Split.l0, if_pos (by omega), if_pos (by omega), if_pos (by omega), if_pos (by omega), if_pos (by omega), Int.toNat_natCast, Int.toNat_natCast, hA a1 h1, Option.bind_some, if_pos (by omega), if_pos (by omega), Int.toNat_natCast, hA a2 h2, Option.bind_some, wp (x := (cnt (fwb o a1 n a4) i : Int) - (cnt (fwb o a2 n a4) i : Int)) (y := sco o a1 a2 n a4 i) rfl (by unfold sco; omega) (by unfold sco; omega), wp (x := (i : Int) + 1) (y := ((i + 1 : Nat) : Int)) (by omega) (by omega) (by omega)]
    rw [Nat.add_sub_cancel] at next
    cases i with
    | zero =>
      rw [if_neg (by show ¬ ((((0 : Nat) : Int) - ((0 : Nat) : Int)) > 0); decide)]
      exact next
    | succ i =>
      have eb : sp (sco o a1 a2 n a4) (i + 1) = if sco o a1 a2 n a4 (i + 1) > (sp (sco o a1 a2 n a4) i).2 then (i + 1, sco o a1 a2 n a4 (i + 1)) else sp (sco o a1 a2 n a4) i := rfl
      rw [Nat.add_sub_cancel]
      by_cases c : sco o a1 a2 n a4 (i + 1) > (sp (sco o a1 a2 n a4) i).2
      · rw [if_pos c] at eb
        rw [eb] at next
        rw [if_pos c]
        exact next
      · rw [if_neg c] at eb
        rw [eb] at next
        rw [if_neg c]
        exact next
theorem refSplit_in {a1 a2 a4 m : Nat} (h1 : a1 + m ≤ o.length) (h2 : a2 + m ≤ o.length) (h4 : a4 + m ≤ n.length) {k : Nat} (hk : 2 * n.length + 10 ≤ k) : sapperref15_Split.f k o (a1 : Int) (a2 : Int) n (a4 : Int) (m : Int) = some ((sp (sco o a1 a2 n a4) m).1 : Int) := by
  obtain ⟨k, rfl⟩ : ∃ k', k = k' + 1 := ⟨k - 1, by omega⟩
  unfold sapperref15_Split.f
  rw [if_neg (by omega), if_neg (by omega), if_neg (by omega), if_neg (by omega), wp (x := (o.length : Int) - (m : Int)) (y := ((o.length - m : Nat) : Int)) (by omega) (by omega) (by omega), if_neg (by omega), if_neg (by omega), wp (x := (n.length : Int) - (m : Int)) (y := ((n.length - m : Nat) : Int)) (by omega) (by omega) (by omega), decide_eq_false (by omega), sapperref15_Split.j0, if_neg (by decide)]
  exact refS_l0 ho hn h1 h2 h4 (m + 1) 0 (by omega) (by omega) k (by omega)
end
end
end Go.Proofs.Ytobknpeglagaaaa.SD
end

section
/- The program's Forward, Backward and Split tell what the document's tell, at any places. -/
namespace Go.Proofs.Ytobknpeglagaaaa.SD
open Go.RowKit Go.Proofs.Ytobknpeglagaaaa Go.Proofs.Ytobknpeglagaaaa.X Go.Proofs.Ytobknpeglagaaaa.SM Go.Proofs.YtobknpeglagaaaaW.PrintWords Go.Proofs.YtobknpeglagaaaaW.PrintLast

theorem nat_of {a : Int} (h : 0 ≤ a) : ∃ m : Nat, a = (m : Int) := Int.eq_ofNat_of_zero_le h
section
set_option linter.unusedSectionVars false
variable {o n : List Int} (ho : o.length ≤ 140737488351232) (hn : n.length ≤ 140737488351232)
include ho hn
theorem fwd_any (a b c : Int) : ∃ r, scan_Forward.f o a n b c = some r ∧ ∀ k, 3 * n.length + 10 ≤ k → sapperref15_Forward.f k o a n b c = some r := by
  by_cases h : 0 ≤ a ∧ a ≤ (o.length : Int) ∧ 0 ≤ b ∧ b ≤ c ∧ c ≤ (n.length : Int)
  · obtain ⟨h1, h2, h3, h4, h5⟩ := h
    obtain ⟨a, rfl⟩ := nat_of h1
    obtain ⟨b, rfl⟩ := nat_of h3
    obtain ⟨c, rfl⟩ := nat_of (show 0 ≤ c by omega)
    exact ⟨_, Forward_in (by omega) (by omega) (by omega) (by omega) (by omega), fun k hk => refForward_in ho hn (by omega) (by omega) (by omega) hk⟩
  · have e1 : scan_right.f o a n b c = some false := by
      unfold scan_right.f
      by_cases g1 : a ≥ 0
      · rw [if_pos g1]
        by_cases g2 : a ≤ (o.length : Int)
        · rw [if_pos g2]
          by_cases g3 : b ≥ 0
          · rw [if_pos g3]
            by_cases g4 : b ≤ c
            · rw [if_pos g4, decide_eq_false (by omega)]
            · rw [if_neg g4]
          · rw [if_neg g3]
        · rw [if_neg g2]
      · rw [if_neg g1]
    have e2 : sapperref15_within.f a o b c n = some false := e1
    refine ⟨0, ?_, fun k _ => ?_⟩
    · unfold scan_Forward.f
      rw [e1, Option.bind_some, if_neg (by decide)]
    · unfold sapperref15_Forward.f
      rw [e2, Option.bind_some, if_neg (by decide)]
theorem bwd_any (a b c : Int) : ∃ r, scan_Backward.f o a n b c = some r ∧ ∀ k, 3 * n.length + 10 ≤ k → sapperref15_Backward.f k o a n b c = some r := by
  by_cases h : 0 ≤ a ∧ a ≤ (o.length : Int) ∧ 0 ≤ b ∧ b ≤ c ∧ c ≤ (n.length : Int)
  · obtain ⟨h1, h2, h3, h4, h5⟩ := h
    obtain ⟨a, rfl⟩ := nat_of h1
    obtain ⟨b, rfl⟩ := nat_of h3
    obtain ⟨c, rfl⟩ := nat_of (show 0 ≤ c by omega)
    exact ⟨_, Backward_in (by omega) (by omega) (by omega) (by omega) (by omega), fun k hk => refBackward_in ho hn (by omega) (by omega) (by omega) hk⟩
  · have e1 : scan_right.f o a n b c = some false := by
      unfold scan_right.f
      by_cases g1 : a ≥ 0
      · rw [if_pos g1]
        by_cases g2 : a ≤ (o.length : Int)
        · rw [if_pos g2]
          by_cases g3 : b ≥ 0
          · rw [if_pos g3]
            by_cases g4 : b ≤ c
            · rw [if_pos g4, decide_eq_false (by omega)]
            · rw [if_neg g4]
          · rw [if_neg g3]
        · rw [if_neg g2]
      · rw [if_neg g1]
    have e2 : sapperref15_within.f a o b c n = some false := e1
    refine ⟨0, ?_, fun k _ => ?_⟩
    · unfold scan_Backward.f
      rw [e1, Option.bind_some, if_neg (by decide)]
    · unfold sapperref15_Backward.f
      rw [e2, Option.bind_some, if_neg (by decide)]
theorem spl1_is (l : List Int) (hl : l.length ≤ 140737488351232) (a m : Int) : spl1 l a m = (decide (0 ≤ a) && decide (a ≤ (l.length : Int)) && decide (m ≤ (l.length : Int) - a)) := by
  unfold spl1
  by_cases h1 : 0 ≤ a
  · by_cases h2 : a ≤ (l.length : Int)
    · rw [wp (x := (l.length : Int) - a) (y := (l.length : Int) - a) rfl (by omega) (by omega)]
    · rw [decide_eq_false h2]; simp
  · rw [decide_eq_false h1]; rfl
theorem spl_any (a b c m : Int) (hm : m ≤ 9223372036854775807) : ∃ r, scan_Split.f o a b n c m = some r ∧ ∀ k, 2 * n.length + 10 ≤ k → sapperref15_Split.f k o a b n c m = some r := by
  by_cases h : 0 ≤ m ∧ 0 ≤ a ∧ a + m ≤ (o.length : Int) ∧ 0 ≤ b ∧ b + m ≤ (o.length : Int) ∧ 0 ≤ c ∧ c + m ≤ (n.length : Int)
  · obtain ⟨h1, h2, h3, h4, h5, h6, h7⟩ := h
    obtain ⟨a, rfl⟩ := nat_of h2
    obtain ⟨b, rfl⟩ := nat_of h4
    obtain ⟨c, rfl⟩ := nat_of h6
    obtain ⟨m, rfl⟩ := nat_of h1
    exact ⟨_, Split_in (by omega) (by omega) (by omega) (by omega) (by omega), fun k hk => refSplit_in ho hn (by omega) (by omega) (by omega) hk⟩
  · refine ⟨0, ?_, fun k hk => ?_⟩
    · unfold scan_Split.f
      by_cases g0 : m < 0
      · rw [if_pos g0]
      · rw [if_neg g0, spl1_is ho hn o ho, spl1_is ho hn o ho, spl1_is ho hn n hn]
        by_cases g1 : (decide (0 ≤ a) && decide (a ≤ (o.length : Int)) && decide (m ≤ (o.length : Int) - a)) = true
        · rw [if_pos g1]
          by_cases g2 : (decide (0 ≤ b) && decide (b ≤ (o.length : Int)) && decide (m ≤ (o.length : Int) - b)) = true
          · rw [if_pos g2, if_neg (fun g3 => h ?_)]
            simp only [Bool.and_eq_true, decide_eq_true_eq] at g1 g2 g3
            omega
          · rw [if_neg g2]
        · rw [if_neg g1]
    · obtain ⟨k, rfl⟩ : ∃ k', k = k' + 1 := ⟨k - 1, by omega⟩
      have z : sapperref15_Split.j0 (k + 1) o a b n c m true = some 0 := by rw [sapperref15_Split.j0, if_pos rfl]
      unfold sapperref15_Split.f
      by_cases g0 : m < 0
      · rw [if_pos g0, z]
      rw [if_neg g0]
      by_cases g1 : a < 0
      · rw [if_pos g1, z]
      rw [if_neg g1]
      by_cases g2 : b < 0
      · rw [if_pos g2, z]
      rw [if_neg g2]
      by_cases g3 : c < 0
      · rw [if_pos g3, z]
      rw [if_neg g3, wp (x := (o.length : Int) - m) (y := (o.length : Int) - m) rfl (by omega) (by omega)]
      by_cases g4 : a > (o.length : Int) - m
      · rw [if_pos g4, z]
      rw [if_neg g4]
      by_cases g5 : b > (o.length : Int) - m
      · rw [if_pos g5, z]
      rw [if_neg g5, wp (x := (n.length : Int) - m) (y := (n.length : Int) - m) rfl (by omega) (by omega), decide_eq_true (by omega), z]
end
end Go.Proofs.Ytobknpeglagaaaa.SD
end
