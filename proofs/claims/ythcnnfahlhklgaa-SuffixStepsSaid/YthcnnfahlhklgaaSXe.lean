/- The unlike texts of any bytes, in their order: how many, which, that they rise; and Kth tells them. -/
import Derived.Test.YthcnnfahlhklgaaSXc
import Derived.Test.YthcnnfahlhklgaaSXd
import Derived.Test.YthcnnfahlhklgaaXx25
namespace Go.Proofs.Ythcnnfahlhklgaa.SD
open Go.RowKit Go.Proofs.Ythcnnfahlhklgaa Go.Proofs.Ythcnnfahlhklgaa.X Go.Proofs.Ythcnnfahlhklgaa.SM Go.Proofs.YthcnnfahlhklgaaW.PrintWords Go.Proofs.YthcnnfahlhklgaaW.PrintLast

section
variable {s : List Int} {sa : List Int}
attribute [local irreducible] cn cv fr tov rk3 loc2 ch rank
/-- Texts that stand at a rank first. -/
def fresh (s sa : List Int) (r : Nat) : Nat := s.length - P sa r - lcv s sa r
def base (s sa : List Int) : Nat → Nat
  | 0 => 0
  | r + 1 => base s sa r + fresh s sa r
/-- The text. -/
def txt (s sa : List Int) (r j : Nat) : List Int := (s.drop (P sa r)).take (lcv s sa r + 1 + j)
theorem sa_slt (h : IsSA s sa) {r : Nat} (hr : r + 1 < s.length) : slt s.length (ch s) (P sa r) (P sa (r + 1)) = true := by
  obtain ⟨_, a1, a2⟩ := sa_at h (show r < s.length by omega)
  obtain ⟨_, b1, b2⟩ := sa_at h hr
  exact (rank_iff a1 b1).1 (by omega)
theorem lcv_at (sa : List Int) (r : Nat) : lcv s sa (r + 1) = com s.length (ch s) (P sa r) (P sa (r + 1)) := by
  unfold lcv; rw [if_neg (by omega), Nat.add_sub_cancel]
theorem fresh_pos (h : IsSA s sa) {r : Nat} (hr : r < s.length) : P sa r < s.length ∧ lcv s sa r < s.length - P sa r ∧ fresh s sa r + lcv s sa r + P sa r = s.length ∧ 0 < fresh s sa r := by
  have h1 := (sa_at h hr).2.1
  have h2 : lcv s sa r < s.length - P sa r := by
    cases r with
    | zero => unfold lcv; rw [if_pos rfl]; omega
    | succ r =>
      rw [lcv_at]
      have := (slt_com.1 (sa_slt h hr)).1
      omega
  refine ⟨h1, h2, ?_, ?_⟩ <;> (unfold fresh; omega)
theorem base_mono (s sa : List Int) {a b : Nat} (h : a ≤ b) : base s sa a ≤ base s sa b := by
  obtain ⟨d, rfl⟩ := Nat.exists_eq_add_of_le h
  clear h
  induction d with
  | zero => exact Nat.le_refl _
  | succ d ih =>
    have : base s sa (a + (d + 1)) = base s sa (a + d) + fresh s sa (a + d) := rfl
    omega
theorem base_find (s sa : List Int) : ∀ n m, m < base s sa n → ∃ r j, r < n ∧ j < fresh s sa r ∧ m = base s sa r + j := by
  intro n
  induction n with
  | zero => intro m h; exact absurd h (Nat.not_lt_zero _)
  | succ n ih =>
    intro m h
    have e : base s sa (n + 1) = base s sa n + fresh s sa n := rfl
    by_cases hm : m < base s sa n
    · obtain ⟨r, j, h1, h2, h3⟩ := ih m hm
      exact ⟨r, j, by omega, h2, h3⟩
    · exact ⟨n, m - base s sa n, by omega, by omega, by omega⟩
theorem base_one {r r2 j j2 : Nat} (h : base s sa r + j = base s sa r2 + j2) (h1 : j < fresh s sa r) (h2 : j2 < fresh s sa r2) : r = r2 ∧ j = j2 := by
  rcases Nat.lt_trichotomy r r2 with g | g | g
  · have := base_mono s sa (show r + 1 ≤ r2 by omega)
    have e : base s sa (r + 1) = base s sa r + fresh s sa r := rfl
    omega
  · subst g; exact ⟨rfl, by omega⟩
  · have := base_mono s sa (show r2 + 1 ≤ r by omega)
    have e : base s sa (r2 + 1) = base s sa r2 + fresh s sa r2 := rfl
    omega
theorem txt_len (h : IsSA s sa) {r j : Nat} (hr : r < s.length) (hj : j < fresh s sa r) : (txt s sa r j).length = lcv s sa r + 1 + j := by
  have := fresh_pos h hr
  unfold txt
  rw [List.length_take, List.length_drop]
  omega
/-- They rise. -/
theorem rise_in (h : IsSA s sa) {r j : Nat} (hr : r < s.length) (hj : j + 1 < fresh s sa r) : lessL (txt s sa r j) (txt s sa r (j + 1)) = true := by
  have l1 := txt_len h hr (show j < fresh s sa r by omega)
  have l2 := txt_len h hr hj
  refine lessL_of (lcv s sa r + 1 + j) (by omega) (fun q hq => ⟨by omega, ?_⟩) (.inl (by omega))
  unfold txt
  rw [ch_take, ch_take, if_pos hq, if_pos (by omega)]
theorem rise_next (h : IsSA s sa) {r j : Nat} (hr : r + 1 < s.length) (hj : j + 1 = fresh s sa r) : lessL (txt s sa r j) (txt s sa (r + 1) 0) = true := by
  have f1 := fresh_pos h (show r < s.length by omega)
  have f2 := fresh_pos h hr
  have l1 := txt_len h (show r < s.length by omega) (show j < fresh s sa r by omega)
  have l2 := txt_len h hr f2.2.2.2
  have hc := slt_com.1 (sa_slt h hr)
  have hl := lcv_at (s := s) sa r
  have hle := com_le (n := s.length) (c := ch s) (P sa r) (P sa (r + 1))
  refine lessL_of (lcv s sa (r + 1)) (by omega) (fun q hq => ⟨by omega, ?_⟩) ?_
  · have := com_get (n := s.length) (c := ch s) (i := P sa r) (j := P sa (r + 1)) (q := q) (by omega)
    unfold txt
    rw [ch_take, ch_take, if_pos (by omega), if_pos (by omega), ch_drop, ch_drop]
    exact this.2.2
  · by_cases g : (txt s sa r j).length ≤ lcv s sa (r + 1)
    · exact .inl g
    · refine .inr ?_
      unfold txt
      rw [ch_take, ch_take, if_pos (by omega), if_pos (by omega), ch_drop, ch_drop, hl]
      exact hc.2 (by omega)
/-- The last one told, ahead of number m. -/
def Prev (s sa : List Int) (m : Nat) (last : List Int) : Prop := m = 0 ∧ last = [] ∨ ∃ r j, r < s.length ∧ j < fresh s sa r ∧ m = base s sa r + j + 1 ∧ last = txt s sa r j
theorem rise (h : IsSA s sa) {r j : Nat} (hr : r < s.length) (hj : j < fresh s sa r) {last : List Int} (hp : Prev s sa (base s sa r + j) last) : lessL last (txt s sa r j) = true := by
  rcases hp with ⟨_, rfl⟩ | ⟨r', j', h1, h2, h3, rfl⟩
  · have := txt_len h hr hj
    cases he : txt s sa r j with
    | nil => rw [he, List.length_nil] at this; omega
    | cons a l => rfl
  · by_cases g : j' + 1 < fresh s sa r'
    · obtain ⟨rfl, rfl⟩ := base_one (j2 := j' + 1) (r2 := r') (by omega) hj g
      exact rise_in h h1 g
    · have e : base s sa (r' + 1) = base s sa r' + fresh s sa r' := rfl
      by_cases g2 : r' + 1 < s.length
      · obtain ⟨rfl, rfl⟩ := base_one (j2 := 0) (r2 := r' + 1) (by omega) hj (fresh_pos h g2).2.2.2
        exact rise_next h g2 (by omega)
      · have := base_mono s sa (show r + 1 ≤ r' + 1 by omega)
        have e2 : base s sa (r + 1) = base s sa r + fresh s sa r := rfl
        omega
/-- How many. -/
def sumL (s sa : List Int) : Nat → Nat
  | 0 => 0
  | r + 1 => sumL s sa r + lcv s sa r
theorem sumL_mono (s sa : List Int) {a b : Nat} (h : a ≤ b) : sumL s sa a ≤ sumL s sa b := by
  obtain ⟨d, rfl⟩ := Nat.exists_eq_add_of_le h
  clear h
  induction d with
  | zero => exact Nat.le_refl _
  | succ d ih =>
    have : sumL s sa (a + (d + 1)) = sumL s sa (a + d) + lcv s sa (a + d) := rfl
    omega
theorem places (h : IsSA s sa) : ((List.range s.length).map (P sa)).Perm (List.range s.length) := by
  refine (List.perm_ext_iff_of_nodup ?_ List.nodup_range).2 fun x => ?_
  · refine List.pairwise_map.2 (List.Pairwise.imp_of_mem (R := fun a b => a < b) (fun {a b} ha hb hab => ?_) List.pairwise_lt_range)
    have ha := List.mem_range.1 ha
    have hb := List.mem_range.1 hb
    have h1 := (sa_at h ha).2.2
    have h2 := (sa_at h hb).2.2
    intro e
    rw [e] at h1
    omega
  · rw [List.mem_map, List.mem_range]
    constructor
    · rintro ⟨a, ha, rfl⟩
      exact (sa_at h (List.mem_range.1 ha)).2.1
    · intro hx
      exact ⟨rank s.length (ch s) x, List.mem_range.2 (rank_lt hx), P_rank h hx⟩
theorem sum_range (n : Nat) : 2 * (List.range n).sum = n * (n - 1) := by
  induction n with
  | zero => rfl
  | succ n ih =>
    rw [List.range_succ, List.sum_append, Nat.mul_add, ih]
    cases n with
    | zero => rfl
    | succ n => simp only [List.sum_cons, List.sum_nil, Nat.add_sub_cancel, Nat.add_zero, Nat.mul_add, Nat.add_mul, Nat.mul_one, Nat.one_mul]; omega
theorem base_sum (h : IsSA s sa) (m : Nat) (hm : m ≤ s.length) : base s sa m + sumL s sa m + ((List.range m).map (P sa)).sum = m * s.length := by
  induction m with
  | zero => simp [base, sumL]
  | succ m ih =>
    have := ih (by omega)
    have f := fresh_pos h (show m < s.length by omega)
    rw [List.range_succ, List.map_append, List.sum_append, Nat.add_mul]
    simp only [base, sumL, List.map_cons, List.map_nil, List.sum_cons, List.sum_nil]
    omega
theorem count_all (h : IsSA s sa) : 2 * (base s sa s.length + sumL s sa s.length) = s.length * (s.length + 1) := by
  have h1 := base_sum h s.length (Nat.le_refl _)
  have h2 := (places h).sum_nat
  have h3 := sum_range s.length
  rw [h2] at h1
  generalize s.length = n at *
  cases n with
  | zero => simp at h1 ⊢; omega
  | succ n =>
    simp only [Nat.add_sub_cancel, Nat.mul_add, Nat.add_mul, Nat.mul_one, Nat.one_mul] at *
    omega

variable {x : S82}
theorem cpy_take (m : Nat) (l : List Int) (h : m ≤ l.length) : cpy (List.replicate m 0) l = l.take m := by
  unfold cpy
  rw [List.length_replicate, List.drop_eq_nil_of_le (by rw [List.length_replicate]; omega), List.append_nil]
/-- One turn of Kth. -/
theorem Kth_step (hs : s.length ≤ 16777216) (hx : IsIx s x) (q : Nat) (hq : q < s.length) (v : Nat) (hv : v ≤ 1000000000000000) (k : Nat) : suffix_Index_Kth.l0 (k + 1) [x] (v : Int) x.f2 (s.length : Int) (q : Int) =
    if v < fresh s x.f2 q then some (txt s x.f2 q v, 0) else suffix_Index_Kth.l0 k [x] ((v - fresh s x.f2 q : Nat) : Int) x.f2 (s.length : Int) ((q + 1 : Nat) : Int) := by
  have hl := hx.2.2.2.2.2.1
  have hll := hx.2.2.1.1
  have hf1 := hx.2.1
  obtain ⟨e1, e2, _⟩ := sa_at hx.2.2.1 hq
  have g := hx.2.2.2.2.2.2 q hq
  have f := fresh_pos hx.2.2.1 hq
  rw [suffix_Index_Kth.l0, if_pos (by omega), if_pos (by omega), if_pos (by omega), if_pos (by simp), show rd_T82 [x] 0 = x from rfl, if_pos (by omega), hf1, rd_nat, rd_nat, e1, g,
    wp (x := (s.length : Int) - (P x.f2 q : Int)) (y := ((s.length - P x.f2 q : Nat) : Int)) (by omega) (by omega) (by omega),
    wp (x := ((s.length - P x.f2 q : Nat) : Int) - (lcv s x.f2 q : Int)) (y := (fresh s x.f2 q : Int)) (by omega) (by omega) (by omega),
    wp (x := (lcv s x.f2 q : Int) + 1) (y := ((lcv s x.f2 q + 1 : Nat) : Int)) (by omega) (by omega) (by omega)]
  by_cases h : v < fresh s x.f2 q
  · rw [if_pos h, if_pos (by omega), wp (x := ((lcv s x.f2 q + 1 : Nat) : Int) + (v : Int)) (y := ((lcv s x.f2 q + 1 + v : Nat) : Int)) (by omega) (by omega) (by omega), if_pos (by omega), if_pos (by omega), if_pos (by omega), if_pos (by omega), Int.toNat_natCast, Int.toNat_natCast]
    unfold copy_u8.f
    rw [Option.bind_some, cpy_take _ _ (by rw [List.length_drop]; omega)]
    rfl
  · rw [if_neg h, if_neg (by omega), wp (x := (v : Int) - (fresh s x.f2 q : Int)) (y := ((v - fresh s x.f2 q : Nat) : Int)) (by omega) (by omega) (by omega), wp (x := (q : Int) + 1) (y := ((q + 1 : Nat) : Int)) (by omega) (by omega) (by omega)]
theorem Kth_loop (hs : s.length ≤ 16777216) (hx : IsIx s x) {r j : Nat} (hr : r < s.length) (hj : j < fresh s x.f2 r) (hb : base s x.f2 r + j ≤ 1000000000000000) (d : Nat) : ∀ q, r - q = d → q ≤ r → ∀ k, suffix_Index_Kth.l0 (k + d + 1) [x] ((base s x.f2 r + j - base s x.f2 q : Nat) : Int) x.f2 (s.length : Int) (q : Int) = some (txt s x.f2 r j, 0) := by
  induction d with
  | zero =>
    intro q hd hq k
    have : q = r := by omega
    subst this
    rw [show k + 0 + 1 = k + 1 by omega, show base s x.f2 q + j - base s x.f2 q = j by omega, Kth_step hs hx q hr j (by omega), if_pos hj]
  | succ d ih =>
    intro q hd hq k
    have hm := base_mono s x.f2 (show q + 1 ≤ r by omega)
    have e : base s x.f2 (q + 1) = base s x.f2 q + fresh s x.f2 q := rfl
    rw [show k + (d + 1) + 1 = k + d + 1 + 1 by omega, Kth_step hs hx q (by omega) _ (by omega), if_neg (by omega), show base s x.f2 r + j - base s x.f2 q - fresh s x.f2 q = base s x.f2 r + j - base s x.f2 (q + 1) by omega]
    exact ih (q + 1) (by omega) (by omega) k
theorem Kth_past (hs : s.length ≤ 16777216) (hx : IsIx s x) (hb : base s x.f2 s.length ≤ 1000000000000000) (d : Nat) : ∀ q, s.length - q = d → q ≤ s.length → ∀ k, suffix_Index_Kth.l0 (k + d + 1) [x] ((base s x.f2 s.length - base s x.f2 q : Nat) : Int) x.f2 (s.length : Int) (q : Int) = some ([], 132) := by
  induction d with
  | zero =>
    intro q hd hq k
    rw [show k + 0 + 1 = k + 1 by omega, suffix_Index_Kth.l0, if_neg (by omega)]
  | succ d ih =>
    intro q hd hq k
    have hm := base_mono s x.f2 (show q + 1 ≤ s.length by omega)
    have e : base s x.f2 (q + 1) = base s x.f2 q + fresh s x.f2 q := rfl
    rw [show k + (d + 1) + 1 = k + d + 1 + 1 by omega, Kth_step hs hx q (by omega) _ (by omega), if_neg (by omega), show base s x.f2 s.length - base s x.f2 q - fresh s x.f2 q = base s x.f2 s.length - base s x.f2 (q + 1) by omega]
    exact ih (q + 1) (by omega) (by omega) k
theorem base_small (hs : s.length ≤ 16777216) (h : IsSA s sa) : base s sa s.length + sumL s sa s.length ≤ 1000000000000000 := by
  have h1 := count_all h
  have h2 : s.length * (s.length + 1) ≤ 16777216 * (16777216 + 1) := Nat.mul_le_mul hs (by omega)
  omega
theorem Kth_f (hs : s.length ≤ 16777216) (hx : IsIx s x) {r j : Nat} (hr : r < s.length) (hj : j < fresh s x.f2 r) {k : Nat} (hk : s.length + 1 ≤ k) : suffix_Index_Kth.f k [x] ((base s x.f2 r + j : Nat) : Int) = some (txt s x.f2 r j, 0) := by
  have hm := base_mono s x.f2 (show r + 1 ≤ s.length by omega)
  have e : base s x.f2 (r + 1) = base s x.f2 r + fresh s x.f2 r := rfl
  have hsm := base_small hs hx.2.2.1
  unfold suffix_Index_Kth.f
  rw [is_f hx.1, Option.bind_some, if_pos rfl, if_neg (by omega), if_pos (by simp), show rd_T82 [x] 0 = x from rfl, hx.2.2.1.1]
  have := Kth_loop hs hx hr hj (by omega) r 0 (by omega) (by omega) (k - r - 1)
  rw [show k - r - 1 + r + 1 = k by omega, show base s x.f2 r + j - base s x.f2 0 = base s x.f2 r + j from rfl, show ((0 : Nat) : Int) = 0 from rfl] at this
  exact this
theorem Kth_end (hs : s.length ≤ 16777216) (hx : IsIx s x) {k : Nat} (hk : s.length + 1 ≤ k) : suffix_Index_Kth.f k [x] (base s x.f2 s.length : Int) = some ([], 132) := by
  have hsm := base_small hs hx.2.2.1
  unfold suffix_Index_Kth.f
  rw [is_f hx.1, Option.bind_some, if_pos rfl, if_neg (by omega), if_pos (by simp), show rd_T82 [x] 0 = x from rfl, hx.2.2.1.1]
  have := Kth_past hs hx (by omega) s.length 0 (by omega) (by omega) (k - s.length - 1)
  rw [show k - s.length - 1 + s.length + 1 = k by omega, show base s x.f2 s.length - base s x.f2 0 = base s x.f2 s.length from rfl, show ((0 : Nat) : Int) = 0 from rfl] at this
  exact this
end
end Go.Proofs.Ythcnnfahlhklgaa.SD
