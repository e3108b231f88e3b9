/- How many unlike texts, counted place by place, is how many they are in the suffixes' order: what each place has in common with those ahead adds up to the same in any order. -/
import Derived.Test.YtphchkkicpnehaaSXe0
namespace Go.Proofs.Ytphchkkicpnehaa.SD
open Go.RowKit Go.Proofs.Ytphchkkicpnehaa Go.Proofs.Ytphchkkicpnehaa.X Go.Proofs.Ytphchkkicpnehaa.SM Go.Proofs.YtphchkkicpnehaaW.PrintWords Go.Proofs.YtphchkkicpnehaaW.PrintLast

section
variable {n : Nat} {c : Nat → Int} {s : List Int} {sa : List Int}
attribute [local irreducible] cn cv fr tov rk3 loc2 ch rank
/-- The most that a place has in common with one of a list. -/
def mst (n : Nat) (c : Nat → Int) (i : Nat) : List Nat → Nat
  | [] => 0
  | k :: l => max (mst n c i l) (com n c k i)
/-- Added up over a list, each place held against those behind it in the list. -/
def sumM (n : Nat) (c : Nat → Int) : List Nat → Nat
  | [] => 0
  | i :: l => sumM n c l + mst n c i l
theorem com_ultra (i j k : Nat) : min (com n c i j) (com n c j k) ≤ com n c i k := by
  refine com_ge _ i k fun q hq => ?_
  have h1 := com_get (n := n) (c := c) (i := i) (j := j) (q := q) (by omega)
  have h2 := com_get (n := n) (c := c) (i := j) (j := k) (q := q) (by omega)
  exact ⟨h1.1, h2.2.1, by rw [h1.2.2, h2.2.2]⟩
theorem mst_min (i j : Nat) : ∀ l, min (mst n c i l) (com n c i j) = min (mst n c j l) (com n c i j)
  | [] => rfl
  | k :: l => by
    have ih := mst_min i j l
    have u1 := com_ultra (n := n) (c := c) k i j
    have u2 := com_ultra (n := n) (c := c) k j i
    have e := com_comm (n := n) (c := c) j i
    simp only [mst]
    omega
theorem mst_perm {l l' : List Nat} (h : l.Perm l') (i : Nat) : mst n c i l = mst n c i l' := by
  induction h with
  | nil => rfl
  | cons a _ ih => simp only [mst, ih]
  | swap a b l => simp only [mst]; omega
  | trans _ _ ih1 ih2 => rw [ih1, ih2]
theorem sumM_perm {l l' : List Nat} (h : l.Perm l') : sumM n c l = sumM n c l' := by
  induction h with
  | nil => rfl
  | cons a p ih => simp only [sumM, ih, mst_perm p]
  | swap a b l =>
    have h1 := mst_min (n := n) (c := c) a b l
    have e := com_comm (n := n) (c := c) a b
    simp only [sumM, mst]
    omega
  | trans _ _ ih1 ih2 => rw [ih1, ih2]
/-- Down from m. -/
def downs : Nat → List Nat
  | 0 => []
  | m + 1 => m :: downs m
theorem downs_perm (m : Nat) : (downs m).Perm (List.range m) := by
  induction m with
  | zero => exact List.Perm.refl _
  | succ m ih =>
    rw [List.range_succ]
    exact ((ih.cons m)).trans (List.perm_append_singleton m (List.range m)).symm
/-- By rank: the most is what the one ahead has. -/
theorem slt_ranks (h : IsSA s sa) {a b : Nat} (hab : a < b) (hb : b < s.length) : slt s.length (ch s) (P sa a) (P sa b) = true := by
  obtain ⟨_, a1, a2⟩ := sa_at h (show a < s.length by omega)
  obtain ⟨_, b1, b2⟩ := sa_at h hb
  exact (rank_iff a1 b1).1 (by omega)
theorem mst_le (h : IsSA s sa) {r : Nat} (hr : r + 1 < s.length) : ∀ m, m ≤ r + 1 → mst s.length (ch s) (P sa (r + 1)) ((downs m).map (P sa)) ≤ com s.length (ch s) (P sa r) (P sa (r + 1))
  | 0, _ => Nat.zero_le _
  | m + 1, hm => by
    have ih := mst_le h hr m (by omega)
    have h2 : com s.length (ch s) (P sa m) (P sa (r + 1)) ≤ com s.length (ch s) (P sa r) (P sa (r + 1)) := by
      by_cases e : m = r
      · rw [e]; exact Nat.le_refl _
      · rw [com_mid (slt_ranks h (show m < r by omega) (by omega)) (slt_ranks h (show r < r + 1 by omega) hr)]
        exact Nat.min_le_right _ _
    simp only [downs, List.map_cons, mst]
    omega
theorem mst_rank (h : IsSA s sa) {r : Nat} (hr : r < s.length) : mst s.length (ch s) (P sa r) ((downs r).map (P sa)) = lcv s sa r := by
  cases r with
  | zero => unfold lcv; rw [if_pos rfl]; rfl
  | succ r =>
    have h1 := mst_le h hr (r + 1) (Nat.le_refl _)
    rw [lcv_at]
    refine Nat.le_antisymm h1 ?_
    simp only [downs, List.map_cons, mst]
    exact Nat.le_max_right _ _
theorem sumM_rank (h : IsSA s sa) : ∀ m, m ≤ s.length → sumM s.length (ch s) ((downs m).map (P sa)) = sumL s sa m
  | 0, _ => rfl
  | m + 1, hm => by
    have ih := sumM_rank h m (by omega)
    simp only [downs, List.map_cons, sumM, sumL]
    rw [ih, mst_rank h (by omega)]
theorem sumM_places (h : IsSA s sa) : sumM s.length (ch s) (downs s.length) = sumL s sa s.length := by
  rw [← sumM_rank h s.length (Nat.le_refl _)]
  refine sumM_perm ?_
  exact (downs_perm _).trans ((places h).symm.trans ((downs_perm s.length).symm.map (P sa)))
/-- Place by place. -/
def byPlace (s : List Int) : Nat → Nat
  | 0 => 0
  | i + 1 => byPlace s i + (s.length - i - mst s.length (ch s) i (downs i))
theorem mst_fit (i : Nat) : ∀ l, mst n c i l ≤ n - i
  | [] => Nat.zero_le _
  | k :: l => by
    have := mst_fit i l
    have := (com_le (n := n) (c := c) k i).2
    simp only [mst]
    omega
theorem byPlace_sum (m : Nat) (hm : m ≤ s.length) : byPlace s m + sumM s.length (ch s) (downs m) + (List.range m).sum = m * s.length := by
  induction m with
  | zero => simp [byPlace, downs, sumM]
  | succ m ih =>
    have h1 := ih (by omega)
    have h2 := mst_fit (n := s.length) (c := ch s) m (downs m)
    rw [List.range_succ, List.sum_append, Nat.add_mul]
    simp only [byPlace, downs, sumM, List.sum_cons, List.sum_nil]
    omega
theorem byPlace_all (h : IsSA s sa) : byPlace s s.length = base s sa s.length := by
  have h1 := byPlace_sum (s := s) s.length (Nat.le_refl _)
  have h2 := base_sum h s.length (Nat.le_refl _)
  have h3 := (places h).sum_nat
  rw [sumM_places h] at h1
  rw [h3] at h2
  omega
end
end Go.Proofs.Ytphchkkicpnehaa.SD
