/- The unlike texts of any bytes, in their order: how many, which, that they rise; and Kth tells them. -/
import Derived.Test.YtphchkkicpnehaaSXb
import Derived.Test.YtphchkkicpnehaaSB
namespace Go.Proofs.Ytphchkkicpnehaa.SD
open Go.RowKit Go.Proofs.Ytphchkkicpnehaa Go.Proofs.Ytphchkkicpnehaa.X Go.Proofs.Ytphchkkicpnehaa.SM Go.Proofs.YtphchkkicpnehaaW.PrintWords Go.Proofs.YtphchkkicpnehaaW.PrintLast

section
variable {s : List Int} {sa : List Int}
attribute [local irreducible] cn cv fr tov rk3 loc2 ch rank
/-- Texts that stand at a rank first. -/
def fresh (s sa : List Int) (r : Nat) : Nat := s.length - P sa r - lcv s sa r
def base (s sa : List Int) : Nat → Nat
  | 0 => 0
  | r + 1 => base s sa r + fresh s sa r
/-- The text. -/
def txt (s sa : List Int) (r j : Nat) : List Int := (s.drop (P sa r)).take (lcv s sa r + 1 + j)
theorem sa_slt (h : IsSA s sa) {r : Nat} (hr : r + 1 < s.length) : slt s.length (ch s) (P sa r) (P sa (r + 1)) = true := by
  obtain ⟨_, a1, a2⟩ := sa_at h (show r < s.length by omega)
  obtain ⟨_, b1, b2⟩ := sa_at h hr
  exact (rank_iff a1 b1).1 (by omega)
theorem lcv_at (sa : List Int) (r : Nat) : lcv s sa (r + 1) = com s.length (ch s) (P sa r) (P sa (r + 1)) := by
  unfold lcv; rw [if_neg (by omega), Nat.add_sub_cancel]
theorem fresh_pos (h : IsSA s sa) {r : Nat} (hr : r < s.length) : P sa r < s.length ∧ lcv s sa r < s.length - P sa r ∧ fresh s sa r + lcv s sa r + P sa r = s.length ∧ 0 < fresh s sa r := by
  have h1 := (sa_at h hr).2.1
  have h2 : lcv s sa r < s.length - P sa r := by
    cases r with
    | zero => unfold lcv; rw [if_pos rfl]; omega
    | succ r =>
      rw [lcv_at]
      have := (slt_com.1 (sa_slt h hr)).1
      omega
  refine ⟨h1, h2, ?_, ?_⟩ <;> (unfold fresh; omega)
theorem base_mono (s sa : List Int) {a b : Nat} (h : a ≤ b) : base s sa a ≤ base s sa b := by
  obtain ⟨d, rfl⟩ := Nat.exists_eq_add_of_le h
  clear h
  induction d with
  | zero => exact Nat.le_refl _
  | succ d ih =>
    have : base s sa (a + (d + 1)) = base s sa (a + d) + fresh s sa (a + d) := rfl
    omega
theorem base_find (s sa : List Int) : ∀ n m, m < base s sa n → ∃ r j, r < n ∧ j < fresh s sa r ∧ m = base s sa r + j := by
  intro n
  induction n with
  | zero => intro m h; exact absurd h (Nat.not_lt_zero _)
  | succ n ih =>
    intro m h
    have e : base s sa (n + 1) = base s sa n + fresh s sa n := rfl
    by_cases hm : m < base s sa n
    · obtain ⟨r, j, h1, h2, h3⟩ := ih m hm
      exact ⟨r, j, by omega, h2, h3⟩
    · exact ⟨n, m - base s sa n, by omega, by omega, by omega⟩
theorem base_one {r r2 j j2 : Nat} (h : base s sa r + j = base s sa r2 + j2) (h1 : j < fresh s sa r) (h2 : j2 < fresh s sa r2) : r = r2 ∧ j = j2 := by
  rcases Nat.lt_trichotomy r r2 with g | g | g
  · have := base_mono s sa (show r + 1 ≤ r2 by omega)
    have e : base s sa (r + 1) = base s sa r + fresh s sa r := rfl
    omega
  · subst g; exact ⟨rfl, by omega⟩
  · have := base_mono s sa (show r2 + 1 ≤ r by omega)
    have e : base s sa (r2 + 1) = base s sa r2 + fresh s sa r2 := rfl
    omega
theorem txt_len (h : IsSA s sa) {r j : Nat} (hr : r < s.length) (hj : j < fresh s sa r) : (txt s sa r j).length = lcv s sa r + 1 + j := by
  have := fresh_pos h hr
  unfold txt
  rw [List.length_take, List.length_drop]
  omega
/-- They rise. -/
theorem rise_in (h : IsSA s sa) {r j : Nat} (hr : r < s.length) (hj : j + 1 < fresh s sa r) : lessL (txt s sa r j) (txt s sa r (j + 1)) = true := by
  have l1 := txt_len h hr (show j < fresh s sa r by omega)
  have l2 := txt_len h hr hj
  refine lessL_of (lcv s sa r + 1 + j) (by omega) (fun q hq => ⟨by omega, ?_⟩) (.inl (by omega))
  unfold txt
  rw [ch_take, ch_take, if_pos hq, if_pos (by omega)]
theorem rise_next (h : IsSA s sa) {r j : Nat} (hr : r + 1 < s.length) (hj : j + 1 = fresh s sa r) : lessL (txt s sa r j) (txt s sa (r + 1) 0) = true := by
  have f1 := fresh_pos h (show r < s.length by omega)
  have f2 := fresh_pos h hr
  have l1 := txt_len h (show r < s.length by omega) (show j < fresh s sa r by omega)
  have l2 := txt_len h hr f2.2.2.2
  have hc := slt_com.1 (sa_slt h hr)
  have hl := lcv_at (s := s) sa r
  have hle := com_le (n := s.length) (c := ch s) (P sa r) (P sa (r + 1))
  refine lessL_of (lcv s sa (r + 1)) (by omega) (fun q hq => ⟨by omega, ?_⟩) ?_
  · have := com_get (n := s.length) (c := ch s) (i := P sa r) (j := P sa (r + 1)) (q := q) (by omega)
    unfold txt
    rw [ch_take, ch_take, if_pos (by omega), if_pos (by omega), ch_drop, ch_drop]
    exact this.2.2
  · by_cases g : (txt s sa r j).length ≤ lcv s sa (r + 1)
    · exact .inl g
    · refine .inr ?_
      unfold txt
      rw [ch_take, ch_take, if_pos (by omega), if_pos (by omega), ch_drop, ch_drop, hl]
      exact hc.2 (by omega)
/-- The last one told, ahead of number m. -/
def Prev (s sa : List Int) (m : Nat) (last : List Int) : Prop := m = 0 ∧ last = [] ∨ ∃ r j, r < s.length ∧ j < fresh s sa r ∧ m = base s sa r + j + 1 ∧ last = txt s sa r j
theorem rise (h : IsSA s sa) {r j : Nat} (hr : r < s.length) (hj : j < fresh s sa r) {last : List Int} (hp : Prev s sa (base s sa r + j) last) : lessL last (txt s sa r j) = true := by
  rcases hp with ⟨_, rfl⟩ | ⟨r', j', h1, h2, h3, rfl⟩
  · have := txt_len h hr hj
    cases he : txt s sa r j with
    | nil => rw [he, List.length_nil] at this; omega
    | cons a l => rfl
  · by_cases g : j' + 1 < fresh s sa r'
    · obtain ⟨rfl, rfl⟩ := base_one (j2 := j' + 1) (r2 := r') (by omega) hj g
      exact rise_in h h1 g
    · have e : base s sa (r' + 1) = base s sa r' + fresh s sa r' := rfl
      by_cases g2 : r' + 1 < s.length
      · obtain ⟨rfl, rfl⟩ := base_one (j2 := 0) (r2 := r' + 1) (by omega) hj (fresh_pos h g2).2.2.2
        exact rise_next h g2 (by omega)
      · have := base_mono s sa (show r + 1 ≤ r' + 1 by omega)
        have e2 : base s sa (r + 1) = base s sa r + fresh s sa r := rfl
        omega
/-- How many. -/
def sumL (s sa : List Int) : Nat → Nat
  | 0 => 0
  | r + 1 => sumL s sa r + lcv s sa r
theorem sumL_mono (s sa : List Int) {a b : Nat} (h : a ≤ b) : sumL s sa a ≤ sumL s sa b := by
  obtain ⟨d, rfl⟩ := Nat.exists_eq_add_of_le h
  clear h
  induction d with
  | zero => exact Nat.le_refl _
  | succ d ih =>
    have : sumL s sa (a + (d + 1)) = sumL s sa (a + d) + lcv s sa (a + d) := rfl
    omega
theorem places (h : IsSA s sa) : ((List.range s.length).map (P sa)).Perm (List.range s.length) := by
  refine (List.perm_ext_iff_of_nodup ?_ List.nodup_range).2 fun x => ?_
  · refine List.pairwise_map.2 (List.Pairwise.imp_of_mem (R := fun a b => a < b) (fun {a b} ha hb hab => ?_) List.pairwise_lt_range)
    have ha := List.mem_range.1 ha
    have hb := List.mem_range.1 hb
    have h1 := (sa_at h ha).2.2
    have h2 := (sa_at h hb).2.2
    intro e
    rw [e] at h1
    omega
  · rw [List.mem_map, List.mem_range]
    constructor
    · rintro ⟨a, ha, rfl⟩
      exact (sa_at h (List.mem_range.1 ha)).2.1
    · intro hx
      exact ⟨rank s.length (ch s) x, List.mem_range.2 (rank_lt hx), P_rank h hx⟩
theorem sum_range (n : Nat) : 2 * (List.range n).sum = n * (n - 1) := by
  induction n with
  | zero => rfl
  | succ n ih =>
    rw [List.range_succ, List.sum_append, Nat.mul_add, ih]
    cases n with
    | zero => rfl
    | succ n => simp only [List.sum_cons, List.sum_nil, Nat.add_sub_cancel, Nat.add_zero, Nat.mul_add, Nat.add_mul, Nat.mul_one, Nat.one_mul]; omega
theorem base_sum (h : IsSA s sa) (m : Nat) (hm : m ≤ s.length) : base s sa m + sumL s sa m + ((List.range m).map (P sa)).sum = m * s.length := by
  induction m with
  | zero => simp [base, sumL]
  | succ m ih =>
    have := ih (by omega)
    have f := fresh_pos h (show m < s.length by omega)
    rw [List.range_succ, List.map_append, List.sum_append, Nat.add_mul]
    simp only [base, sumL, List.map_cons, List.map_nil, List.sum_cons, List.sum_nil]
    omega
theorem count_all (h : IsSA s sa) : 2 * (base s sa s.length + sumL s sa s.length) = s.length * (s.length + 1) := by
  have h1 := base_sum h s.length (Nat.le_refl _)
  have h2 := (places h).sum_nat
  have h3 := sum_range s.length
  rw [h2] at h1
  generalize s.length = n at *
  cases n with
  | zero => simp at h1 ⊢; omega
  | succ n =>
    simp only [Nat.add_sub_cancel, Nat.mul_add, Nat.add_mul, Nat.mul_one, Nat.one_mul] at *
    omega

theorem base_small (hs : s.length ≤ 16777216) (h : IsSA s sa) : base s sa s.length + sumL s sa s.length ≤ 1000000000000000 := by
  have h1 := count_all h
  have h2 : s.length * (s.length + 1) ≤ 16777216 * (16777216 + 1) := Nat.mul_le_mul hs (by omega)
  omega
end
end Go.Proofs.Ytphchkkicpnehaa.SD
