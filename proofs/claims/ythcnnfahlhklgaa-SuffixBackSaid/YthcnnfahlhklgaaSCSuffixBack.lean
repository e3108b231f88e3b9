import Derived.Test.YthcnnfahlhklgaaSB
import Derived.Test.YthcnnfahlhklgaaXK
import Derived.Test.YthcnnfahlhklgaaXx13
import Derived.Test.YthcnnfahlhklgaaXx24
import Derived.Test.YthcnnfahlhklgaaXx23
import Derived.Test.YthcnnfahlhklgaaXx25
import Derived.Test.YthcnnfahlhklgaaXU
import Derived.Test.YthcnnfahlhklgaaXx28
section
/- The printed functions sorted, same, New and the accessors of package suffix, and build: an index of any bytes (at most 2^24) has their order, the ranks, and what neighbours have in common. -/
namespace Go.Proofs.Ythcnnfahlhklgaa.SD
open Go.RowKit Go.Proofs.Ythcnnfahlhklgaa Go.Proofs.Ythcnnfahlhklgaa.X Go.Proofs.Ythcnnfahlhklgaa.SM Go.Proofs.YthcnnfahlhklgaaW.PrintWords Go.Proofs.YthcnnfahlhklgaaW.PrintLast

section
variable {s : List Int}
attribute [local irreducible] cn cv fr tov rk3 loc2 ch rank

theorem byte_wf' {x : Int} (h : (Lit.int .u8 x).wf = true) : 0 ≤ x ∧ x < 256 := by
  simp [Lit.wf, IntKind.min, IntKind.max, IntKind.signed, IntKind.bits] at h
  omega
/-- Bytes. -/
def Byt (s : List Int) : Prop := ∀ q, q < s.length → 0 ≤ ch s q ∧ ch s q < 256
theorem ch_mem' {l : List Int} {q : Nat} (h : q < l.length) : ch l q ∈ l := by
  unfold ch
  rw [List.getD_eq_getElem?_getD, List.getElem?_eq_getElem h]
  exact List.getElem_mem h

/-- Places by rank. -/
def P (sa : List Int) (r : Nat) : Nat := (ch sa r).toNat
theorem sa_at {sa : List Int} (h : IsSA s sa) {r : Nat} (hr : r < s.length) : ch sa r = (P sa r : Int) ∧ P sa r < s.length ∧ rank s.length (ch s) (P sa r) = r := by
  obtain ⟨i, hi, hir⟩ := rank_onto (c := ch s) hr
  have h1 := h.2 i hi
  rw [hir] at h1
  have h2 : P sa r = i := by unfold P; rw [h1]; omega
  rw [h2, h1]
  exact ⟨rfl, hi, hir⟩

theorem sorted_loop (hs : s.length ≤ 16777216) (hb : Byt s) (d : Nat) : ∀ q (o : List Int), s.length - q = d → q ≤ s.length → o.length = s.length → (∀ j, j < q → ch o j = ch s j) → ∀ k, suffix_sorted.l0 (k + d + 1) o s (s.length : Int) (q : Int) = (sais_Array.f (k + d - (s.length - q)) 256 s).bind fun b => some (b.1, b.2) := by
  induction d with
  | zero =>
    intro q o hd hq ho hp k
    have e : o = s := by
      apply List.ext_getElem?
      intro j
      rcases Nat.lt_or_ge j s.length with hj | hj
      · have h1 := hp j (by omega)
        unfold ch at h1
        rw [List.getD_eq_getElem?_getD, List.getD_eq_getElem?_getD, List.getElem?_eq_getElem (by omega), List.getElem?_eq_getElem hj] at h1
        rw [List.getElem?_eq_getElem (by omega), List.getElem?_eq_getElem hj]
        simpa using h1
      · rw [List.getElem?_eq_none (by omega), List.getElem?_eq_none hj]
    rw [show k + 0 + 1 = k + 1 by omega, suffix_sorted.l0, if_neg (by omega), e, show k + 0 - (s.length - q) = k by omega]
  | succ d ih =>
    intro q o hd hq ho hp k
    have hv := hb q (by omega)
    have next := ih (q + 1) (o.set q (ch s q)) (by omega) (by omega) (by rw [List.length_set]; exact ho) (fun j hj => by
      rw [ch_set _ _ _ _ (by omega)]
      by_cases e : q = j
      · rw [if_pos e, ← e]
      · rw [if_neg e]; exact hp j (by omega)) k
    rw [show k + (d + 1) + 1 = k + d + 1 + 1 by omega, suffix_sorted.l0, if_pos (by omega), if_pos (by omega), if_pos (by omega), if_pos (by omega), rd_nat, wp (x := ch s q) rfl (by omega) (by omega), wp (x := (q : Int) + 1) (y := ((q + 1 : Nat) : Int)) (by omega) (by omega) (by omega), Int.toNat_natCast, next, show k + d - (s.length - (q + 1)) = k + (d + 1) - (s.length - q) by omega]
/-- The order of any bytes. -/
theorem sorted_ok (hs : s.length ≤ 16777216) (hb : Byt s) : ∃ K sa, (∀ k, K ≤ k → suffix_sorted.f k s = some (sa, 0)) ∧ IsSA s sa := by
  obtain ⟨K, sa, h1, h2⟩ := Array_ok (k0 := 256) (s := s) ⟨by omega, by omega, hs, hb⟩
  refine ⟨K + s.length + 1, sa, fun k hk => ?_, h2⟩
  unfold suffix_sorted.f
  rw [if_neg (by omega), if_pos (by omega), if_pos (by omega), Int.toNat_natCast]
  have := sorted_loop hs hb s.length 0 (List.replicate s.length 0) (by omega) (by omega) (by simp) (fun j hj => by omega) (k - s.length - 1)
  rw [show k - s.length - 1 + s.length + 1 = k by omega] at this
  rw [show ((0 : Nat) : Int) = 0 from rfl] at this
  rw [this, h1 _ (by omega)]; rfl




end
end Go.Proofs.Ythcnnfahlhklgaa.SD
end

section
/- The document's Array is the suffix array. -/
namespace Go.Proofs.Ythcnnfahlhklgaa.SD
open Go.RowKit Go.Proofs.Ythcnnfahlhklgaa Go.Proofs.Ythcnnfahlhklgaa.X Go.Proofs.Ythcnnfahlhklgaa.SM Go.Proofs.YthcnnfahlhklgaaW.PrintWords Go.Proofs.YthcnnfahlhklgaaW.PrintLast

section
variable {s : List Int}
attribute [local irreducible] cv fr tov rk3 loc2 ch rank
/-- Two lists that tell the same at all places are one. -/
theorem ext_ch {l l' : List Int} (hl : l.length = l'.length) (h : ∀ q, q < l.length → ch l q = ch l' q) : l = l' := by
  apply List.ext_getElem?
  intro q
  rcases Nat.lt_or_ge q l.length with hq | hq
  · have h1 := h q hq
    unfold ch at h1
    rw [List.getD_eq_getElem?_getD, List.getD_eq_getElem?_getD, List.getElem?_eq_getElem hq, List.getElem?_eq_getElem (by omega)] at h1
    rw [List.getElem?_eq_getElem hq, List.getElem?_eq_getElem (by omega)]
    simpa using h1
  · rw [List.getElem?_eq_none (by omega), List.getElem?_eq_none (by omega)]
theorem sa_one {l l' : List Int} (h : IsSA s l) (h' : IsSA s l') : l = l' := by
  refine ext_ch (by rw [h.1, h'.1]) fun q hq => ?_
  rw [h.1] at hq
  obtain ⟨i, hi, he⟩ := rank_onto (c := ch s) hq
  have h1 := h.2 i hi
  have h2 := h'.2 i hi
  rw [he] at h1 h2
  rw [h1, h2]
theorem bl_of_wf (h : ∀ x ∈ s, (Lit.int .u8 x).wf = true) : BL s := fun x hx => byte_wf' (h x hx)
/-- The inner loop counts what is less. -/
theorem refArray_l1 (hs : s.length ≤ 16777216) (hb : BL s) {i : Nat} (hi : i < s.length) (o : List Int) (ho : o.length = s.length) (d : Nat) : ∀ q, s.length - q = d → q ≤ s.length → ∀ k, sapperref13_Array.l1 (k + d + 1) s (i : Int) ((cn q fun j => slt s.length (ch s) j i : Nat) : Int) o (s.length : Int) (i : Int) (s.length : Int) (q : Int) = sapperref13_Array.l0 k s (o.set (rank s.length (ch s) i) (i : Int)) (s.length : Int) ((i + 1 : Nat) : Int) := by
  induction d with
  | zero =>
    intro q hd hq k
    have : q = s.length := by omega
    subst this
    have hr := rank_lt (c := ch s) hi
    have e : (cn s.length fun j => slt s.length (ch s) j i) = rank s.length (ch s) i := by unfold rank; rfl
    rw [show k + 0 + 1 = k + 1 by omega, sapperref13_Array.l1, if_neg (by omega), e, if_pos (by omega), if_pos (by omega), Int.toNat_natCast, wp (x := (i : Int) + 1) (y := ((i + 1 : Nat) : Int)) (by omega) (by omega) (by omega)]
  | succ d ih =>
    intro q hd hq k
    have hle := cn_le (n := q) (fun j => slt s.length (ch s) j i)
    have e : (cn (q + 1) fun j => slt s.length (ch s) j i) = (cn q fun j => slt s.length (ch s) j i) + if slt s.length (ch s) q i = true then 1 else 0 := by
      rw [cn]; try (cases slt s.length (ch s) q i <;> simp)
    rw [show k + (d + 1) + 1 = k + d + 1 + 1 by omega, sapperref13_Array.l1, if_pos (by omega), if_pos (by omega), if_pos (by omega), if_pos (by omega), if_pos (by omega), Int.toNat_natCast, Int.toNat_natCast, less_sl (hb.drop q) (hb.drop i), lessL_slt _ q i rfl, wp (x := (q : Int) + 1) (y := ((q + 1 : Nat) : Int)) (by omega) (by omega) (by omega)]
    have next := ih (q + 1) (by omega) (by omega) k
    rw [e] at next
    by_cases h : slt s.length (ch s) q i = true
    · rw [if_pos h, wp (x := ((cn q fun j => slt s.length (ch s) j i : Nat) : Int) + 1) (y := (((cn q fun j => slt s.length (ch s) j i) + 1 : Nat) : Int)) (by omega) (by omega) (by omega)]
      rw [if_pos h] at next
      exact next
    · rw [if_neg h]
      rw [if_neg h, Nat.add_zero] at next
      exact next
theorem refArray_l0 (hs : s.length ≤ 16777216) (hb : BL s) (d : Nat) : ∀ i (o : List Int), s.length - i = d → i ≤ s.length → o.length = s.length → (∀ j, j < i → ch o (rank s.length (ch s) j) = (j : Int)) → ∃ K o', IsSA s o' ∧ ∀ k, K ≤ k → sapperref13_Array.l0 k s o (s.length : Int) (i : Int) = some o' := by
  induction d with
  | zero =>
    intro i o hd hi ho hp
    have : i = s.length := by omega
    subst this
    refine ⟨1, o, ⟨ho, hp⟩, fun k hk => ?_⟩
    obtain ⟨k, rfl⟩ : ∃ k', k = k' + 1 := ⟨k - 1, by omega⟩
    rw [sapperref13_Array.l0, if_neg (by omega)]
  | succ d ih =>
    intro i o hd hi ho hp
    have hi' : i < s.length := by omega
    have hr := rank_lt (c := ch s) hi'
    obtain ⟨K, o', h1, h2⟩ := ih (i + 1) (o.set (rank s.length (ch s) i) (i : Int)) (by omega) (by omega) (by rw [List.length_set]; exact ho) (fun j hj => by
      rw [ch_set _ _ _ _ (by omega)]
      by_cases e : rank s.length (ch s) i = rank s.length (ch s) j
      · rw [if_pos e, rank_inj hi' (by omega) e]
      · rw [if_neg e]
        refine hp j ?_
        have : j ≠ i := fun e2 => e (by rw [e2])
        omega)
    refine ⟨K + s.length + 2, o', h1, fun k hk => ?_⟩
    obtain ⟨k, rfl⟩ : ∃ k', k = k' + s.length + 1 + 1 := ⟨k - s.length - 2, by omega⟩
    rw [sapperref13_Array.l0, if_pos (by omega)]
    have := refArray_l1 hs hb hi' o ho s.length 0 (by omega) (by omega) k
    rw [show ((cn 0 fun j => slt s.length (ch s) j i : Nat) : Int) = 0 from rfl, show ((0 : Nat) : Int) = 0 from rfl] at this
    rw [this]
    exact h2 k (by omega)
theorem refArray_ok (hs : s.length ≤ 16777216) (hb : BL s) {sa : List Int} (hsa : IsSA s sa) : ∃ K, ∀ k, K ≤ k → sapperref13_Array.f k s = some sa := by
  obtain ⟨K, o', h1, h2⟩ := refArray_l0 hs hb s.length 0 (List.replicate s.length 0) (by omega) (by omega) (by simp) (fun j hj => by omega)
  refine ⟨K, fun k hk => ?_⟩
  unfold sapperref13_Array.f
  have := h2 k hk
  rw [show ((0 : Nat) : Int) = 0 from rfl] at this
  rw [if_pos (by omega), if_pos (by omega), Int.toNat_natCast, this, sa_one h1 hsa]
end
end Go.Proofs.Ythcnnfahlhklgaa.SD
end

section
/- Plain mathematics of turning back: rows of a turn lead from each suffix to the one that is longer by one; what is read so has the rows' order as its suffixes' order. No program is in sight. -/
namespace Go.Proofs.Ythcnnfahlhklgaa.SM
section
theorem cn_countP (n : Nat) (T : Nat → Bool) : cn n T = (List.range n).countP T := by
  induction n with
  | zero => rfl
  | succ n ih =>
    rw [List.range_succ, List.countP_append, ← ih, cn]
    cases hT : T n <;> simp [hT]
/-- A count does not know the numbering. -/
theorem cn_bij {n : Nat} (f : Nat → Nat) (hf : ∀ i, i < n → f i < n) (inj : ∀ i j, i < n → j < n → f i = f j → i = j) (T : Nat → Bool) : cn n (fun i => T (f i)) = cn n T := by
  have hp : ((List.range n).map f).Perm (List.range n) := by
    refine (List.perm_ext_iff_of_nodup ?_ List.nodup_range).2 fun x => ?_
    · refine List.pairwise_map.2 (List.Pairwise.imp_of_mem (R := fun a b => a < b) (fun {a b} ha hb hab => ?_) List.pairwise_lt_range)
      have ha := List.mem_range.1 ha
      have hb := List.mem_range.1 hb
      intro h
      have := inj a b ha hb h
      omega
    · rw [List.mem_map, List.mem_range]
      constructor
      · rintro ⟨a, ha, rfl⟩
        exact hf a (List.mem_range.1 ha)
      · intro hx
        obtain ⟨i, hi, h⟩ := pigeon n f hf inj x hx
        exact ⟨i, List.mem_range.2 hi, h⟩
  rw [cn_countP, cn_countP, ← hp.countP_eq T, List.countP_map]; rfl
variable {n : Nat} {b c : Nat → Int} {e : Nat}
/-- Is the place j ahead of the place k, by bytes and then by places? -/
def ahd (b : Nat → Int) (k j : Nat) : Bool := decide (b j < b k) || (decide (b j = b k) && decide (j < k))
theorem ahd_iff {k j : Nat} : ahd b k j = true ↔ b j < b k ∨ (b j = b k ∧ j < k) := by
  unfold ahd; simp
/-- The row to which the byte at place k leads. -/
def pos (n : Nat) (b : Nat → Int) (k : Nat) : Nat := cn n (ahd b k) + 1
theorem pos_iff {i j : Nat} (hi : i < n) (hj : j < n) : pos n b i < pos n b j ↔ ahd b j i = true := by
  have tr : ∀ {i j k : Nat}, ahd b j i = true → ahd b k j = true → ahd b k i = true := fun h1 h2 => by
    rw [ahd_iff] at *; omega
  have mono : ∀ {i j : Nat}, i < n → ahd b j i = true → pos n b i < pos n b j := fun {i j} hi h => by
    have := cn_lt (n := n) (P := ahd b i) (Q := ahd b j) (fun q _ hq => tr hq h) hi h (by
      cases hz : ahd b i i with
      | false => rfl
      | true => rw [ahd_iff] at hz; omega)
    unfold pos; omega
  refine ⟨fun h => ?_, fun h => mono hi h⟩
  by_cases z : i = j
  · subst z; omega
  · by_cases y : ahd b j i = true
    · exact y
    · have : ahd b i j = true := by rw [ahd_iff] at *; omega
      have := mono hj this
      omega
theorem pos_le (k : Nat) : 1 ≤ pos n b k ∧ pos n b k ≤ n + 1 := ⟨by unfold pos; omega, by unfold pos; have := cn_le (n := n) (ahd b k); omega⟩
theorem pos_in {k : Nat} (hk : k < n) : pos n b k ≤ n := by
  have := cn_lt (n := n) (P := ahd b k) (Q := fun _ => true) (fun _ _ _ => rfl) hk rfl (by
    cases hz : ahd b k k with
    | false => rfl
    | true => rw [ahd_iff] at hz; omega)
  rw [cn_true (fun _ _ => rfl)] at this
  unfold pos; omega
/-- The byte's place of a row. -/
def idx (e r : Nat) : Nat := if r < e then r else r - 1
theorem idx_lt {r : Nat} (hr : r ≤ n) (he : e ≤ n) (h : r ≠ e) : idx e r < n := by unfold idx; split <;> omega
theorem idx_iff {r q : Nat} (hr : r ≠ e) (hq : q ≠ e) : idx e r < idx e q ↔ r < q := by unfold idx; split <;> split <;> omega
/-- The row behind so many steps. -/
def row (n : Nat) (b : Nat → Int) (e : Nat) : Nat → Nat
  | 0 => 0
  | k + 1 => pos n b (idx e (row n b e k))
/-- Turning back goes through: the end's row is met behind the last byte and not before. -/
def Goes (n : Nat) (b : Nat → Int) (e : Nat) : Prop := (∀ k, k < n → row n b e k ≠ e) ∧ row n b e n = e
theorem row_le (he : e ≤ n) (g : Goes n b e) : ∀ k, k ≤ n → row n b e k ≤ n := by
  intro k
  induction k with
  | zero => intro _; exact Nat.zero_le _
  | succ k ih => intro hk; exact pos_in (idx_lt (ih (by omega)) he (g.1 k (by omega)))
/-- The bytes that are read: the last one first. -/
def red (n : Nat) (b : Nat → Int) (e : Nat) (i : Nat) : Int := b (idx e (row n b e (n - 1 - i)))
theorem row_slt (he : e ≤ n) (g : Goes n b e) (hc : ∀ i, i < n → c i = red n b e i) (d : Nat) : ∀ i j, n - i = d → i ≤ n → j ≤ n → (slt n c i j = true ↔ row n b e (n - i) < row n b e (n - j)) := by
  induction d with
  | zero =>
    intro i j hd hi hj
    rw [slt_end (by omega), show n - i = 0 by omega]
    rcases Nat.lt_or_ge j n with z | z
    · obtain ⟨k, hk⟩ : ∃ k, n - j = k + 1 := ⟨n - j - 1, by omega⟩
      have := (pos_le (n := n) (b := b) (idx e (row n b e k))).1
      rw [hk, row, row]; omega
    · rw [show n - j = 0 by omega]; omega
  | succ d ih =>
    intro i j hd hi hj
    rcases Nat.lt_or_ge j n with z | z
    · rw [slt_in (by omega) z, ih (i + 1) (j + 1) (by omega) (by omega) (by omega), hc i (by omega), hc j z]
      obtain ⟨k, hk⟩ : ∃ k, n - i = k + 1 := ⟨n - i - 1, by omega⟩
      obtain ⟨q, hq⟩ : ∃ q, n - j = q + 1 := ⟨n - j - 1, by omega⟩
      have ek := g.1 k (by omega)
      have eq := g.1 q (by omega)
      unfold red
      rw [hk, hq, row, row, pos_iff (idx_lt (row_le he g k (by omega)) he ek) (idx_lt (row_le he g q (by omega)) he eq), ahd_iff, idx_iff ek eq, show n - 1 - i = k by omega, show n - 1 - j = q by omega, show n - (i + 1) = k by omega, show n - (j + 1) = q by omega]
    · rw [show n - j = 0 by omega, row, slt_to_end z]
      refine ⟨fun h => (by cases h), fun h => absurd h (by omega)⟩
/-- A count of values below a bound, of an injective numbering. -/
theorem cn_vals {f : Nat → Nat} (hf : ∀ i, i < n → f i < n) (inj : ∀ i j, i < n → j < n → f i = f j → i = j) {v : Nat} (hv : v ≤ n) : cn n (fun i => decide (f i < v)) = v := by
  rw [cn_bij f hf inj (fun q => decide (q < v))]
  clear hf inj
  induction n with
  | zero => have : v = 0 := by omega
            subst this; rfl
  | succ n ih =>
    rw [cn]
    by_cases z : v = n + 1
    · subst z
      rw [cn_true (fun j hj => by simp; omega), if_pos (by simp)]
    · rw [ih (by omega), if_neg (by simp; omega), Nat.add_zero]
/-- The rows' order is the suffixes'. -/
theorem row_rank (he : e ≤ n) (g : Goes n b e) (hc : ∀ i, i < n → c i = red n b e i) {i : Nat} (hi : i < n) : row n b e (n - i) = rank n c i + 1 := by
  have low : ∀ j, j < n → 1 ≤ row n b e (n - j) := fun j hj => by
    obtain ⟨k, hk⟩ : ∃ k, n - j = k + 1 := ⟨n - j - 1, by omega⟩
    rw [hk, row]; exact (pos_le _).1
  have hf : ∀ j, j < n → row n b e (n - j) - 1 < n := fun j hj => by have := row_le he g (n - j) (by omega); have := low j hj; omega
  have inj : ∀ i j, i < n → j < n → row n b e (n - i) - 1 = row n b e (n - j) - 1 → i = j := fun i j hi hj h => by
    by_cases z : i = j
    · exact z
    · have := low i hi
      have := low j hj
      rcases slt_total (n := n) (c := c) (Nat.le_of_lt hi) (Nat.le_of_lt hj) z with y | y
      · have := (row_slt he g hc _ i j rfl (by omega) (by omega)).1 y; omega
      · have := (row_slt he g hc _ j i rfl (by omega) (by omega)).1 y; omega
  have h1 := cn_vals hf inj (v := row n b e (n - i) - 1) (by have := hf i hi; omega)
  have h2 : rank n c i = cn n (fun j => decide (row n b e (n - j) - 1 < row n b e (n - i) - 1)) := cn_congr fun j hj => by
    have := low i hi
    have := low j hj
    have := row_slt he g hc _ j i rfl (by omega) (by omega)
    rw [Bool.eq_iff_iff, this, decide_eq_true_iff]; omega
  have := low i hi
  omega
/-- The row of a suffix. -/
def rw_ (n : Nat) (c : Nat → Int) (i : Nat) : Nat := if i < n then rank n c i + 1 else 0
/-- Bytes b and a row e are the turn of c: the row of the whole is e, and each other row's byte stands ahead of its suffix. -/
def IsTurn (n : Nat) (c b : Nat → Int) (e : Nat) : Prop := e = rw_ n c 0 ∧ ∀ i, i < n → b (idx e (rw_ n c (i + 1))) = c i
theorem goes_turn (he : e ≤ n) (g : Goes n b e) (hc : ∀ i, i < n → c i = red n b e i) : IsTurn n c b e := by
  have hr : ∀ i, i ≤ n → rw_ n c i = row n b e (n - i) := fun i hi => by
    unfold rw_
    rcases Nat.lt_or_ge i n with z | z
    · rw [if_pos z, row_rank he g hc z]
    · rw [if_neg (by omega), show n - i = 0 by omega]; rfl
  refine ⟨?_, fun i hi => ?_⟩
  · rw [hr 0 (Nat.zero_le _)]; exact g.2.symm
  · rw [hr (i + 1) hi, hc i hi]; unfold red; rw [show n - (i + 1) = n - 1 - i by omega]
theorem rw_le (i : Nat) : rw_ n c i ≤ n := by
  unfold rw_
  split
  · rename_i h; have := rank_lt (c := c) h; omega
  · omega
theorem rw_inj {i j : Nat} (hi : i ≤ n) (hj : j ≤ n) (h : rw_ n c i = rw_ n c j) : i = j := by
  unfold rw_ at h
  split at h <;> split at h
  · rename_i h1 h2
    exact rank_inj (c := c) h1 h2 (by omega)
  · omega
  · omega
  · omega
theorem rw_slt {i j : Nat} (hi : i ≤ n) (hj : j ≤ n) : rw_ n c i < rw_ n c j ↔ slt n c i j = true := by
  unfold rw_
  rcases Nat.lt_or_ge i n with y | y <;> rcases Nat.lt_or_ge j n with z | z
  · have h9 := rank_iff (n := n) (c := c) y z
    rw [if_pos y, if_pos z, ← h9]; omega
  · rw [if_pos y, if_neg (by omega), slt_to_end z]; refine ⟨fun h => absurd h (by omega), fun h => (by cases h)⟩
  · rw [if_neg (by omega), if_pos z, slt_end y]; omega
  · rw [if_neg (by omega), if_neg (by omega), slt_to_end z]; refine ⟨fun h => absurd h (by omega), fun h => (by cases h)⟩
/-- The turn of c leads back to c. -/
theorem turn_row (t : IsTurn n c b e) : ∀ k, k ≤ n → row n b e k = rw_ n c (n - k) := by
  obtain ⟨h0, hb⟩ := t
  have ne : ∀ i, i < n → rw_ n c (i + 1) ≠ e := fun i hi h => by
    rw [h0] at h
    have := rw_inj (by omega) (by omega) h
    omega
  have he : e ≤ n := by rw [h0]; exact rw_le _
  have hi : ∀ i, i < n → idx e (rw_ n c (i + 1)) < n := fun i hi => idx_lt (rw_le _) he (ne i hi)
  intro k
  induction k with
  | zero => intro _; unfold rw_; rw [if_neg (by omega)]; rfl
  | succ k ih =>
    intro hk
    rw [row, ih (by omega), show n - k = n - (k + 1) + 1 by omega]
    generalize hm : n - (k + 1) = m
    have hm1 : m < n := by omega
    have h1 := cn_bij (n := n) (fun i => idx e (rw_ n c (i + 1))) hi (fun i j hi' hj' h => by
      by_cases z : i = j
      · exact z
      · have a1 := idx_iff (ne i hi') (ne j hj')
        have a2 := idx_iff (ne j hj') (ne i hi')
        have := rw_inj (n := n) (c := c) (i := i + 1) (j := j + 1) (by omega) (by omega) (by omega)
        omega) (ahd b (idx e (rw_ n c (m + 1))))
    unfold pos
    rw [← h1]
    have h2 : rank n c m = cn n (fun i => ahd b (idx e (rw_ n c (m + 1))) (idx e (rw_ n c (i + 1)))) := cn_congr fun j hj => by
      rw [Bool.eq_iff_iff, ahd_iff, hb j hj, hb m hm1, idx_iff (ne j hj) (ne m hm1), slt_in hj hm1, rw_slt (by omega) (by omega)]
    rw [← h2]; unfold rw_; rw [if_pos hm1]
theorem turn_goes (t : IsTurn n c b e) : Goes n b e := by
  refine ⟨fun k hk h => ?_, ?_⟩
  · rw [turn_row t k (by omega), t.1] at h
    have := rw_inj (by omega) (by omega) h
    omega
  · rw [turn_row t n (Nat.le_refl _), Nat.sub_self]; exact t.1.symm
theorem turn_red (t : IsTurn n c b e) {i : Nat} (hi : i < n) : red n b e i = c i := by
  unfold red
  rw [turn_row t _ (by omega), show n - (n - 1 - i) = i + 1 by omega]; exact t.2 i hi
theorem turn_onto (t : IsTurn n c b e) {k : Nat} (hk : k < n) : ∃ i, i < n ∧ idx e (rw_ n c (i + 1)) = k := by
  have ne : ∀ i, i < n → rw_ n c (i + 1) ≠ e := fun i hi h => by
    rw [t.1] at h
    have := rw_inj (by omega) (by omega) h
    omega
  have he : e ≤ n := by rw [t.1]; exact rw_le _
  exact pigeon n (fun i => idx e (rw_ n c (i + 1))) (fun i hi => idx_lt (rw_le _) he (ne i hi)) (fun i j hi' hj' h => by
    by_cases z : i = j
    · exact z
    · have a1 := idx_iff (ne i hi') (ne j hj')
      have a2 := idx_iff (ne j hj') (ne i hi')
      have := rw_inj (n := n) (c := c) (i := i + 1) (j := j + 1) (by omega) (by omega) (by omega)
      omega) k hk
/-- There is one turn. -/
theorem turn_one {b' : Nat → Int} {e' : Nat} (t : IsTurn n c b e) (t' : IsTurn n c b' e') : e = e' ∧ ∀ k, k < n → b k = b' k := by
  have h : e = e' := t.1.trans t'.1.symm
  subst h
  refine ⟨rfl, fun k hk => ?_⟩
  obtain ⟨i, hi, rfl⟩ := turn_onto t hk
  rw [t.2 i hi, t'.2 i hi]
end
end Go.Proofs.Ythcnnfahlhklgaa.SM
end

section
/- Turn, the code's and the document's: one and the same; the bytes of the rows in the suffixes' order, without the row of the whole. -/
namespace Go.Proofs.Ythcnnfahlhklgaa.SD
open Go.RowKit Go.Proofs.Ythcnnfahlhklgaa Go.Proofs.Ythcnnfahlhklgaa.X Go.Proofs.Ythcnnfahlhklgaa.SM Go.Proofs.YthcnnfahlhklgaaW.PrintWords Go.Proofs.YthcnnfahlhklgaaW.PrintLast

section
variable {s sa : List Int}
attribute [local irreducible] cn cv fr tov rk3 loc2 ch rank
/-- The place of row q, of so many. -/
def rp (s sa : List Int) (q : Nat) : Nat := if q = 0 then s.length else P sa (q - 1)
theorem rp_ok (h : IsSA s sa) {q : Nat} (hq : q ≤ s.length) : rp s sa q ≤ s.length ∧ rw_ s.length (ch s) (rp s sa q) = q := by
  unfold rp
  by_cases c : q = 0
  · subst c
    rw [if_pos rfl]
    exact ⟨Nat.le_refl _, by unfold rw_; rw [if_neg (by omega)]⟩
  · rw [if_neg c]
    obtain ⟨_, h2, h3⟩ := sa_at h (show q - 1 < s.length by omega)
    refine ⟨by omega, ?_⟩
    unfold rw_
    rw [if_pos h2, h3]; omega
/-- What stands behind so many rows. -/
def tb (s sa : List Int) : Nat → List Int × Nat
  | 0 => ([], 0)
  | m + 1 => if rp s sa m = 0 then ((tb s sa m).1, m) else ((tb s sa m).1 ++ [ch s (rp s sa m - 1)], (tb s sa m).2)
theorem tb_ok (h : IsSA s sa) : ∀ m, m ≤ s.length + 1 → (tb s sa m).1.length = (if rw_ s.length (ch s) 0 < m then m - 1 else m) ∧ (tb s sa m).2 = (if rw_ s.length (ch s) 0 < m then rw_ s.length (ch s) 0 else 0) ∧
    ∀ i, i < s.length → rw_ s.length (ch s) (i + 1) < m → ch (tb s sa m).1 (idx (rw_ s.length (ch s) 0) (rw_ s.length (ch s) (i + 1))) = ch s i := by
  intro m
  induction m with
  | zero => intro _; exact ⟨by rw [if_neg (by omega)]; rfl, by rw [if_neg (by omega)]; rfl, fun i hi hm => absurd hm (by omega)⟩
  | succ m ih =>
    intro hm
    obtain ⟨h1, h2, h3⟩ := ih (by omega)
    obtain ⟨p1, p2⟩ := rp_ok h (show m ≤ s.length by omega)
    obtain ⟨e0, he0⟩ : ∃ e0, rw_ s.length (ch s) 0 = e0 := ⟨_, rfl⟩
    rw [he0] at h1 h2 h3 ⊢
    rw [tb]
    by_cases c : rp s sa m = 0
    · rw [c, he0] at p2
      subst p2
      rw [if_pos c]
      refine ⟨?_, ?_, fun i hi hlt => ?_⟩
      · show (tb s sa e0).1.length = _
        rw [h1, if_neg (by omega), if_pos (by omega)]; omega
      · rw [if_pos (by omega)]
      · by_cases z : rw_ s.length (ch s) (i + 1) = e0
        · have := rw_inj (n := s.length) (c := ch s) (i := i + 1) (j := 0) (by omega) (by omega) (by rw [z, he0])
          omega
        · exact h3 i hi (by omega)
    · have hne : m ≠ e0 := fun z => by
        have := rw_inj (n := s.length) (c := ch s) (i := rp s sa m) (j := 0) p1 (by omega) (by rw [p2, he0]; exact z)
        omega
      rw [if_neg c]
      have hid : idx e0 m = (tb s sa m).1.length := by
        unfold idx; rw [h1]
        by_cases z : e0 < m
        · rw [if_pos z, if_neg (by omega)]
        · rw [if_neg z, if_pos (by omega)]
      refine ⟨?_, ?_, fun i hi hlt => ?_⟩
      · show ((tb s sa m).1 ++ [_]).length = _
        rw [List.length_append, List.length_singleton, h1]
        by_cases z : e0 < m
        · rw [if_pos z, if_pos (by omega)]; omega
        · rw [if_neg z, if_neg (by omega)]
      · show (tb s sa m).2 = _
        rw [h2]
        by_cases z : e0 < m
        · rw [if_pos z, if_pos (by omega)]
        · rw [if_neg z, if_neg (by omega)]
      · show ch ((tb s sa m).1 ++ [_]) _ = _
        by_cases z : rw_ s.length (ch s) (i + 1) = m
        · have := rw_inj (n := s.length) (c := ch s) (i := rp s sa m) (j := i + 1) p1 (by omega) (by rw [p2, z])
          rw [z, hid, ch_app, if_neg (by omega), if_pos rfl, this]; rfl
        · have hz : rw_ s.length (ch s) (i + 1) ≠ e0 := fun y => by
            have := rw_inj (n := s.length) (c := ch s) (i := i + 1) (j := 0) (by omega) (by omega) (by rw [y, he0])
            omega
          have hl := idx_iff (e := e0) (r := rw_ s.length (ch s) (i + 1)) (q := m) hz hne
          rw [ch_app, if_pos (by omega)]
          exact h3 i hi (by omega)
theorem tb_turn (h : IsSA s sa) : (tb s sa (s.length + 1)).1.length = s.length ∧ IsTurn s.length (ch s) (ch (tb s sa (s.length + 1)).1) (tb s sa (s.length + 1)).2 := by
  obtain ⟨h1, h2, h3⟩ := tb_ok h (s.length + 1) (Nat.le_refl _)
  have hl := rw_le (n := s.length) (c := ch s) 0
  rw [if_pos (by omega)] at h1 h2
  refine ⟨by omega, h2, fun i hi => ?_⟩
  rw [h2]
  have := rw_le (n := s.length) (c := ch s) (i + 1)
  exact h3 i hi (by omega)
theorem tb_byt (hb : BL s) (h : IsSA s sa) : ∀ m, m ≤ s.length + 1 → BL (tb s sa m).1 := by
  intro m
  induction m with
  | zero => intro _ x hx; cases hx
  | succ m ih =>
    intro hm
    have p1 := (rp_ok h (show m ≤ s.length by omega)).1
    rw [tb]
    by_cases c : rp s sa m = 0
    · rw [if_pos c]; exact ih (by omega)
    · rw [if_neg c]
      intro x hx
      rcases List.mem_append.1 hx with hx | hx
      · exact ih (by omega) x hx
      · rw [List.mem_singleton.1 hx]
        exact hb _ (ch_mem' (by omega))
theorem refTurn_l0 (hs : s.length ≤ 16777216) (h : IsSA s sa) (d : Nat) : ∀ m, s.length + 1 - m = d → m ≤ s.length + 1 → ∀ k, sapperref13_Turn.l0 (k + d + 1) s (tb s sa m).1 ((tb s sa m).2 : Int) ((s.length : Int) :: sa) ((s.length + 1 : Nat) : Int) (m : Int) = some ((tb s sa (s.length + 1)).1, ((tb s sa (s.length + 1)).2 : Int), 0) := by
  have hl := h.1
  induction d with
  | zero =>
    intro m hd hm k
    have : m = s.length + 1 := by omega
    subst this
    rw [show k + 0 + 1 = k + 1 by omega, sapperref13_Turn.l0, if_neg (by omega)]
  | succ d ih =>
    intro m hd hm k
    have hrd : rd ((s.length : Int) :: sa) (m : Int) = (rp s sa m : Int) := by
      rw [rd_nat]
      unfold rp
      cases m with
      | zero => rw [if_pos rfl]; unfold ch; rfl
      | succ m =>
        rw [if_neg (by omega), Nat.add_sub_cancel, ← (sa_at h (show m < s.length by omega)).1]
        unfold ch; rfl
    obtain ⟨h1, _, _⟩ := tb_ok h m hm
    have p1 := (rp_ok h (show m ≤ s.length by omega)).1
    have next := ih (m + 1) (by omega) (by omega) k
    have hlen : (tb s sa m).1.length ≤ m := by rw [h1]; split <;> omega
    rw [tb] at next
    rw [show k + (d + 1) + 1 = k + d + 1 + 1 by omega, sapperref13_Turn.l0, if_pos (by omega), if_pos (by omega), if_pos (by rw [List.length_cons]; omega), hrd, wp (x := (m : Int) + 1) (y := ((m + 1 : Nat) : Int)) (by omega) (by omega) (by omega)]
    by_cases c : rp s sa m = 0
    · rw [if_pos c] at next
      rw [if_pos (by omega)]; exact next
    · rw [if_neg c] at next
      rw [if_neg (by omega), wp (x := (rp s sa m : Int) - 1) (y := ((rp s sa m - 1 : Nat) : Int)) (by omega) (by omega) (by omega), if_pos (by omega), if_pos (by omega), if_pos (by omega), rd_nat]; exact next
theorem turn_l0 (hs : s.length ≤ 16777216) (h : IsSA s sa) (d : Nat) : ∀ m, s.length - m = d → m ≤ s.length → ∀ k, suffix_Turn.l0 (k + d + 1) s sa (tb s sa (m + 1)).1 ((tb s sa (m + 1)).2 : Int) (s.length : Int) (m : Int) = some ((tb s sa (s.length + 1)).1, ((tb s sa (s.length + 1)).2 : Int), 0) := by
  have hl := h.1
  induction d with
  | zero =>
    intro m hd hm k
    have : m = s.length := by omega
    subst this
    rw [show k + 0 + 1 = k + 1 by omega, suffix_Turn.l0, if_neg (by omega)]
  | succ d ih =>
    intro m hd hm k
    have hrd : rd sa (m : Int) = (rp s sa (m + 1) : Int) := by
      rw [rd_nat]
      unfold rp
      rw [if_neg (by omega), Nat.add_sub_cancel, ← (sa_at h (show m < s.length by omega)).1]
    obtain ⟨h1, _, _⟩ := tb_ok h (m + 1) (by omega)
    have p1 := (rp_ok h (show m + 1 ≤ s.length by omega)).1
    have next := ih (m + 1) (by omega) (by omega) k
    have hlen : (tb s sa (m + 1)).1.length ≤ m + 1 := by rw [h1]; split <;> omega
    rw [tb] at next
    rw [show k + (d + 1) + 1 = k + d + 1 + 1 by omega, suffix_Turn.l0, if_pos (by omega), if_pos (by omega), if_pos (by omega), hrd, wp (x := (m : Int) + 1) (y := ((m + 1 : Nat) : Int)) (by omega) (by omega) (by omega)]
    by_cases c : rp s sa (m + 1) = 0
    · rw [if_pos c] at next
      rw [if_pos (by omega)]; exact next
    · rw [if_neg c] at next
      rw [if_neg (by omega), wp (x := (rp s sa (m + 1) : Int) - 1) (y := ((rp s sa (m + 1) - 1 : Nat) : Int)) (by omega) (by omega) (by omega), if_pos (by omega), if_pos (by omega), if_pos (by omega), rd_nat]; exact next
/-- Both turns. -/
theorem turns_ok (hs : s.length ≤ 16777216) (hb : BL s) : ∃ (K : Nat) (b : List Int) (e : Nat), (∀ k, K ≤ k → suffix_Turn.f k s = some (b, (e : Int), 0) ∧ sapperref13_Turn.f k s = some (b, (e : Int), 0)) ∧ b.length = s.length ∧ BL b ∧ IsTurn s.length (ch s) (ch b) e := by
  obtain ⟨K1, sa, h1, h⟩ := sorted_ok hs (fun q hq => hb _ (ch_mem' hq))
  obtain ⟨K2, h2⟩ := refArray_ok hs hb h
  obtain ⟨t1, t2⟩ := tb_turn h
  have hl := h.1
  refine ⟨K1 + K2 + s.length + 10, _, _, fun k hk => ⟨?_, ?_⟩, t1, tb_byt hb h _ (Nat.le_refl _), t2⟩
  · unfold suffix_Turn.f
    have hg := turn_l0 hs h s.length 0 (by omega) (by omega) (k - s.length - 2)
    rw [show k - s.length - 2 + s.length + 1 = k - 1 by omega, show ((0 : Nat) : Int) = 0 from rfl, Nat.zero_add, tb] at hg
    rw [h1 _ (by omega), Option.bind_some, if_pos rfl, if_pos (by omega), if_pos (by omega), Option.bind_some]
    dsimp only
    have hrp : rp s sa 0 = s.length := by unfold rp; rw [if_pos rfl]
    rw [hrp] at hg
    by_cases c : s.length = 0
    · rw [if_pos c] at hg
      rw [if_neg (by omega), show k = k - 1 + 1 by omega, suffix_Turn.j0, hl]
      exact hg
    · rw [if_neg c] at hg
      rw [if_pos (by omega), wp (x := (s.length : Int) - 1) (y := ((s.length - 1 : Nat) : Int)) (by omega) (by omega) (by omega), if_pos (by omega), if_pos (by omega), if_pos (by simp), rd_nat, show k = k - 1 + 1 by omega, suffix_Turn.j0, hl]
      exact hg
  · unfold sapperref13_Turn.f
    have hg := refTurn_l0 hs h (s.length + 1) 0 (by omega) (by omega) (k - (s.length + 1) - 1)
    rw [show k - (s.length + 1) - 1 + (s.length + 1) + 1 = k by omega, show ((0 : Nat) : Int) = 0 from rfl] at hg
    rw [if_neg (by omega), Option.bind_some, h2 _ (by omega), Option.bind_some, if_pos (by rw [hl]; simp; omega), Option.bind_some]
    rw [show ([(s.length : Int)] ++ sa) = (s.length : Int) :: sa from rfl, List.length_cons, hl]
    exact hg
end
end Go.Proofs.Ythcnnfahlhklgaa.SD
end

section
/- Unturn, the code's and the document's: one and the same. -/
namespace Go.Proofs.Ythcnnfahlhklgaa.SD
open Go.RowKit Go.Proofs.Ythcnnfahlhklgaa Go.Proofs.Ythcnnfahlhklgaa.X Go.Proofs.Ythcnnfahlhklgaa.SM Go.Proofs.YthcnnfahlhklgaaW.PrintWords Go.Proofs.YthcnnfahlhklgaaW.PrintLast

section
variable {b : List Int}
attribute [local irreducible] cv fr tov rk3 loc2 rank
theorem ch_put {l : List Int} {q : Nat} (h : q < l.length) (v : Int) (j : Nat) : ch (l.set q v) j = if q = j then v else ch l j := by
  unfold ch; exact getD_set l q j v 0 h
theorem rd_ch (l : List Int) (q : Nat) : rd l (q : Int) = ch l q := rd_nat l q
theorem byt_at (hy : BL b) {m : Nat} (hm : m < b.length) : ∃ c : Nat, c < 256 ∧ ch b m = (c : Int) := by
  obtain ⟨h1, h2⟩ := hy _ (ch_mem' hm)
  exact ⟨(ch b m).toNat, by omega, by omega⟩
/-- How many bytes are less than q. -/
def LT (b : List Int) (q : Nat) : Nat := cn b.length (fun i => decide (ch b i < (q : Int)))
def EQ (b : List Int) (m q : Nat) : Nat := cn m (fun i => decide (ch b i = (q : Int)))
theorem LT_zero (hy : BL b) : LT b 0 = 0 := cn_false fun j hj => by
  obtain ⟨c, _, h⟩ := byt_at hy hj
  rw [h]; exact decide_eq_false (by omega)
theorem LT_succ (q : Nat) : LT b (q + 1) = LT b q + EQ b b.length q := by
  unfold LT EQ
  rw [← cn_or (fun j _ h => by simp only [decide_eq_true_eq] at h; omega)]
  refine cn_congr fun j _ => ?_
  rw [Bool.eq_iff_iff, Bool.or_eq_true, decide_eq_true_iff, decide_eq_true_iff, decide_eq_true_iff]; omega
theorem LT_le (q : Nat) : LT b q ≤ b.length := cn_le _
theorem EQ_le (m q : Nat) : EQ b m q ≤ m := cn_le _
theorem uA_ok (hn : b.length ≤ 16777216) (hy : BL b) : ∀ m, m ≤ b.length → ∀ q, q < 256 → ch (uA b m) (q + 1) = (EQ b m q : Int) := by
  intro m
  induction m with
  | zero => intro _ q hq; rw [uA]; unfold ch EQ; rw [List.getD_eq_getElem?_getD, List.getElem?_replicate]; split <;> rfl
  | succ m ih =>
    intro hm q hq
    obtain ⟨c, hc, e⟩ := byt_at hy (show m < b.length by omega)
    have hl := uA_len b m
    have h1 := ih (by omega) c hc
    have h2 := ih (by omega) q hq
    have h3 := EQ_le (b := b) m c
    rw [uA, rd_ch, e, Int.toNat_natCast, ch_put (by omega), show (uA b m).getD (c + 1) 0 = ch (uA b m) (c + 1) from rfl, h1, wp (x := (EQ b m c : Int) + 1) (y := ((EQ b m c + 1 : Nat) : Int)) (by omega) (by omega) (by omega), h2]
    unfold EQ
    rw [cn]
    by_cases z : c = q
    · subst z; rw [if_pos rfl, if_pos (by rw [e]; exact decide_eq_true rfl)]
    · rw [if_neg (by omega), if_neg (by rw [e]; simp; omega), Nat.add_zero]
theorem uB_len (F : List Int) (hF : F.length = 257) (m : Nat) : (uB F m).length = 257 := by
  induction m with
  | zero => rw [uB, List.length_set]; exact hF
  | succ m ih => rw [uB, List.length_set]; exact ih
theorem uB_ok (hn : b.length ≤ 16777216) (hy : BL b) : ∀ m, m ≤ 256 → ∀ q, q ≤ 256 → ch (uB (uA b b.length) m) q = if q ≤ m then ((1 + LT b q : Nat) : Int) else ch (uA b b.length) q := by
  have hl := uA_len b b.length
  intro m
  induction m with
  | zero =>
    intro _ q hq
    rw [uB, ch_put (by omega)]
    by_cases z : q = 0
    · subst z; rw [if_pos rfl, if_pos (by omega), LT_zero hy]; rfl
    · rw [if_neg (by omega), if_neg (by omega)]
  | succ m ih =>
    intro hm q hq
    have h1 := ih (by omega) (m + 1) (by omega)
    have h2 := ih (by omega) m (by omega)
    have h3 := ih (by omega) q hq
    have h4 := uA_ok hn hy b.length (Nat.le_refl _) m (by omega)
    have h5 := LT_le (b := b) (m + 1)
    have h6 := LT_succ (b := b) m
    rw [if_neg (by omega), h4] at h1
    rw [if_pos (by omega)] at h2
    have hbl := uB_len _ hl m
    rw [uB, ch_put (by omega), show (uB (uA b b.length) m).getD (m + 1) 0 = ch (uB (uA b b.length) m) (m + 1) from rfl, show (uB (uA b b.length) m).getD m 0 = ch (uB (uA b b.length) m) m from rfl, h1, h2, wp (y := ((1 + LT b (m + 1) : Nat) : Int)) (by omega) (by omega) (by omega), h3]
    by_cases z : q = m + 1
    · subst z; rw [if_pos rfl, if_pos (by omega)]
    · rw [if_neg (by omega)]
      by_cases y : q ≤ m
      · rw [if_pos y, if_pos (by omega)]
      · rw [if_neg y, if_neg (by omega)]
theorem cn_cut {n k : Nat} (P : Nat → Bool) (h : k ≤ n) : cn n (fun j => P j && decide (j < k)) = cn k P := by
  induction n with
  | zero => have : k = 0 := by omega
            subst this; rfl
  | succ n ih =>
    by_cases z : k = n + 1
    · subst z
      exact cn_congr fun j hj => by rw [decide_eq_true (show j < n + 1 by omega), Bool.and_true]
    · rw [cn, ih (by omega), decide_eq_false (show ¬ n < k by omega), Bool.and_false]; rfl
theorem pos_count {i c : Nat} (hi : i < b.length) (e : ch b i = (c : Int)) : pos b.length (ch b) i = 1 + LT b c + EQ b i c := by
  unfold pos
  have h1 : cn b.length (ahd (ch b) i) = LT b c + EQ b i c := by
    unfold LT EQ
    rw [← cn_cut (fun j => decide (ch b j = (c : Int))) (Nat.le_of_lt hi), ← cn_or (fun j _ h => by simp only [Bool.and_eq_true, decide_eq_true_eq] at h; omega)]
    exact cn_congr fun j _ => by unfold ahd; rw [e]
  omega
theorem uC_lenF (F : List Int) (e r : Nat) : (uC b F e r).1.length = F.length := by
  induction r with
  | zero => rfl
  | succ r ih =>
    rw [uC]
    split
    · exact ih
    · show (List.set _ _ _).length = _
      rw [List.length_set]; exact ih
theorem uC_ok (hn : b.length ≤ 16777216) (hy : BL b) {e : Nat} (he : e ≤ b.length) : ∀ r, r ≤ b.length + 1 →
    (∀ q, q < 256 → ch (uC b (uB (uA b b.length) 256) e r).1 q = ((1 + LT b q + EQ b (if e < r then r - 1 else r) q : Nat) : Int)) ∧
    (∀ q, q < r → ch (uC b (uB (uA b b.length) 256) e r).2.1 q = if q = e then -1 else (pos b.length (ch b) (idx e q) : Int)) ∧
    (∀ q, q < r → q ≠ e → ch (uC b (uB (uA b b.length) 256) e r).2.2 q = ch b (idx e q)) := by
  have hF : ∀ q, q < 256 → ch (uB (uA b b.length) 256) q = ((1 + LT b q : Nat) : Int) := fun q hq => by
    have := uB_ok hn hy 256 (Nat.le_refl _) q (by omega)
    rw [if_pos (by omega)] at this; exact this
  have hFl := uB_len _ (uA_len b b.length) 256
  generalize uB (uA b b.length) 256 = F at hF hFl ⊢
  intro r
  induction r with
  | zero =>
    intro _
    refine ⟨fun q hq => ?_, fun q hq => absurd hq (by omega), fun q hq => absurd hq (by omega)⟩
    rw [if_neg (by omega), show EQ b 0 q = 0 from rfl, Nat.add_zero]; exact hF q hq
  | succ r ih =>
    intro hr
    obtain ⟨i1, i2, i3⟩ := ih (by omega)
    obtain ⟨l1, l2⟩ := uC_len b F e r
    have l3 := uC_lenF (b := b) F e r
    rw [hFl] at l3
    by_cases z : r = e
    · subst z
      rw [uC_end b F rfl]
      refine ⟨fun q hq => ?_, fun q hq => ?_, fun q hq hne => ?_⟩
      · have := i1 q hq
        rw [if_neg (by omega)] at this
        rw [if_pos (by omega), Nat.add_sub_cancel]; exact this
      · show ch (List.set _ _ _) q = _
        rw [ch_put (by omega)]
        by_cases y : r = q
        · rw [if_pos y, if_pos y.symm]
        · rw [if_neg y]; exact i2 q (by omega)
      · exact i3 q (by omega) hne
    · obtain ⟨i, hi⟩ : ∃ i, idx e r = i := ⟨_, rfl⟩
      have hil : i < b.length := by rw [← hi]; exact idx_lt (by omega) he z
      have hui : uI e r = i := by
        rw [← hi]; unfold uI idx
        by_cases y : e < r
        · rw [if_pos y, if_neg (by omega)]
        · rw [if_neg y, if_pos (by omega)]
      have hpr : (if e < r then r - 1 else r) = i := by rw [← hui]; rfl
      have hpr2 : (if e < r + 1 then r + 1 - 1 else r + 1) = i + 1 := by
        rw [← hpr]
        by_cases y : e < r
        · rw [if_pos y, if_pos (by omega)]; omega
        · rw [if_neg y, if_neg (by omega)]
      obtain ⟨c, hc, hce⟩ := byt_at hy hil
      have hp := pos_count hil hce
      have h1 := i1 c hc
      rw [hpr] at h1 i1
      have hE := EQ_le (b := b) i c
      have hL := LT_le (b := b) c
      rw [uC_step b F z hui (by rw [rd_ch]; exact hce)]
      have hg : (uC b F e r).1[c]?.getD 0 = ch (uC b F e r).1 c := by unfold ch; rw [List.getD_eq_getElem?_getD]
      rw [hg, h1, hpr2]
      refine ⟨fun q hq => ?_, fun q hq => ?_, fun q hq hne => ?_⟩
      · show ch (List.set _ _ _) q = _
        have h2 := i1 q hq
        rw [ch_put (by omega), wp (x := ((1 + LT b c + EQ b i c : Nat) : Int) + 1) (y := ((1 + LT b c + EQ b i c + 1 : Nat) : Int)) (by omega) (by omega) (by omega)]
        have h3 : EQ b (i + 1) q = EQ b i q + (if ch b i = (q : Int) then 1 else 0) := by
          unfold EQ; rw [cn]
          by_cases y : ch b i = (q : Int)
          · rw [if_pos y, if_pos (decide_eq_true y)]
          · rw [if_neg y, if_neg (by simpa using y)]
        rw [h3, hce]
        by_cases y : c = q
        · subst y; rw [if_pos rfl, if_pos rfl]; omega
        · rw [if_neg y, if_neg (by omega), h2]; rfl
      · show ch (List.set _ _ _) q = _
        rw [ch_put (by omega)]
        by_cases y : r = q
        · subst y
          rw [if_pos rfl, if_neg z, hi, hp]
        · rw [if_neg y]; exact i2 q (by omega)
      · show ch (List.set _ _ _) q = _
        rw [ch_put (by omega)]
        by_cases y : r = q
        · subst y
          rw [if_pos rfl, hi, hce]
        · rw [if_neg y]; exact i3 q (by omega) hne
theorem row_pre {e : Nat} (he : e ≤ b.length) : ∀ k, k ≤ b.length → (∀ q, q < k → row b.length (ch b) e q ≠ e) → row b.length (ch b) e k ≤ b.length := by
  intro k
  induction k with
  | zero => intro _ _; exact Nat.zero_le _
  | succ k ih => intro hk h; exact pos_in (idx_lt (ih (by omega) (fun q hq => h q (by omega))) he (h k (by omega)))
/-- What is read. -/
def redL (b : List Int) (e : Nat) : List Int := (List.range b.length).map (red b.length (ch b) e)
theorem redL_len (e : Nat) : (redL b e).length = b.length := by unfold redL; rw [List.length_map, List.length_range]
theorem redL_ch {e i : Nat} (h : i < b.length) : ch (redL b e) i = red b.length (ch b) e i := by
  unfold redL ch
  rw [List.getD_eq_getElem?_getD, List.getElem?_map, List.getElem?_range h]; rfl
theorem redL_of {e : Nat} {O : List Int} (h : O.length = b.length) (hO : ∀ i, i < b.length → ch O i = red b.length (ch b) e i) : O = redL b e :=
  ext_ch (by rw [h, redL_len]) fun q hq => by rw [hO q (by omega), redL_ch (by omega)]
theorem red_set {e j : Nat} {O : List Int} (hj : j < b.length) (h : O.length = b.length) (hO : ∀ i, j + 1 ≤ i → i < b.length → ch O i = red b.length (ch b) e i) : ∀ i, j ≤ i → i < b.length → ch (O.set j (ch b (idx e (row b.length (ch b) e (b.length - (j + 1)))))) i = red b.length (ch b) e i := by
  intro i h1 h2
  rw [ch_put (by omega)]
  by_cases y : j = i
  · subst y; rw [if_pos rfl]; unfold red; rw [show b.length - 1 - j = b.length - (j + 1) by omega]
  · rw [if_neg y]; exact hO i (by omega) h2
theorem uD_ok {T L : List Int} {e : Nat} (he : e ≤ b.length) (hT : T.length = b.length + 1) (hTv : ∀ q, q ≤ b.length → ch T q = if q = e then -1 else (pos b.length (ch b) (idx e q) : Int)) (hLv : ∀ q, q ≤ b.length → q ≠ e → ch L q = ch b (idx e q)) :
    ∀ j O, j ≤ b.length → O.length = b.length → (∀ q, q < b.length - j → row b.length (ch b) e q ≠ e) → (∀ i, j ≤ i → i < b.length → ch O i = red b.length (ch b) e i) →
    ((∀ q, q < b.length → row b.length (ch b) e q ≠ e) → uD T L j (row b.length (ch b) e (b.length - j) : Int) O = some (some (redL b e, (row b.length (ch b) e b.length : Int)))) ∧
    ((∃ q, q < b.length ∧ row b.length (ch b) e q = e) → uD T L j (row b.length (ch b) e (b.length - j) : Int) O = some none) := by
  intro j
  induction j with
  | zero =>
    intro O _ hO hp hr
    refine ⟨fun _ => ?_, fun ⟨q, h1, h2⟩ => absurd h2 (hp q (by omega))⟩
    rw [uD, redL_of hO (fun i hi => hr i (by omega) hi)]; rfl
  | succ j ih =>
    intro O hj hO hp hr
    obtain ⟨k, hk⟩ : ∃ k, b.length - (j + 1) = k := ⟨_, rfl⟩
    have hle := row_pre he (b.length - (j + 1)) (by omega) hp
    rw [uD, if_pos (by omega), rd_ch, hTv _ hle]
    by_cases z : row b.length (ch b) e (b.length - (j + 1)) = e
    · rw [if_pos z, if_pos (by decide)]
      exact ⟨fun h => absurd z (h _ (by omega)), fun _ => rfl⟩
    · rw [if_neg z, if_neg (by omega), rd_ch, hLv _ hle z]
      have h1 : pos b.length (ch b) (idx e (row b.length (ch b) e (b.length - (j + 1)))) = row b.length (ch b) e (b.length - j) := by rw [show b.length - j = b.length - (j + 1) + 1 by omega, row]
      rw [h1]
      refine ih _ (by omega) (by rw [List.length_set]; exact hO) (fun q hq => ?_) (red_set (by omega) hO hr)
      by_cases y : q = b.length - (j + 1)
      · rw [y]; exact z
      · exact hp q (by omega)
theorem un_guard (hn : b.length ≤ 16777216) (hy : BL b) {e : Nat} (he : e ≤ b.length) : ((∀ q, q < b.length → row b.length (ch b) e q ≠ e) → suffix_Unturn.f b (e : Int) = if (row b.length (ch b) e b.length : Int) = (e : Int) then some (redL b e, 0) else some ([], 131)) ∧ ((∃ q, q < b.length ∧ row b.length (ch b) e q = e) → suffix_Unturn.f b (e : Int) = some ([], 131)) := by
  obtain ⟨_, h2, h3⟩ := uC_ok hn hy he (b.length + 1) (Nat.le_refl _)
  obtain ⟨l1, _⟩ := uC_len b (uB (uA b b.length) 256) e (b.length + 1)
  have hall : b.all (fun x => decide (0 ≤ x) && decide (x < 256)) = true := by
    rw [List.all_eq_true]
    intro x hx
    have := hy x hx
    simp only [Bool.and_eq_true, decide_eq_true_eq]; exact this
  obtain ⟨g1, g2⟩ := uD_ok he l1 (fun q hq => h2 q (by omega)) (fun q hq hne => h3 q (by omega) hne) b.length (List.replicate b.length 0) (Nat.le_refl _) List.length_replicate (fun q hq => by omega) (fun i h4 h5 => by omega)
  rw [Nat.sub_self, row, show ((0 : Nat) : Int) = 0 from rfl] at g1 g2
  have hf : suffix_Unturn.f b (e : Int) = (match uD (uC b (uB (uA b b.length) 256) e (b.length + 1)).2.1 (uC b (uB (uA b b.length) 256) e (b.length + 1)).2.2 b.length 0 (List.replicate b.length 0) with
     | none => none
     | some none => some ([], 131)
     | some (some (O, row)) => if row = (e : Int) then some (O, 0) else some ([], 131)) := by
    unfold suffix_Unturn.f
    rw [if_neg (by omega), if_neg (by omega), if_pos hall, Int.toNat_natCast]
    generalize uC b (uB (uA b b.length) 256) e (b.length + 1) = Z
    rfl
  rw [hf]
  exact ⟨fun h => by rw [g1 h], fun h => by rw [g2 h]⟩
theorem redL_byt (hy : BL b) {e : Nat} (he : e ≤ b.length) (h : ∀ q, q < b.length → row b.length (ch b) e q ≠ e) : BL (redL b e) := by
  intro x hx
  unfold redL at hx
  obtain ⟨i, hi, rfl⟩ := List.mem_map.1 hx
  have hi := List.mem_range.1 hi
  unfold red
  exact hy _ (ch_mem' (idx_lt (row_pre he _ (by omega) (fun q hq => h q (by omega))) he (h _ (by omega))))
end
end Go.Proofs.Ythcnnfahlhklgaa.SD
end

section
/- Unturn undoes Turn; what Unturn takes, Turn makes of its answer; Turn has the same bytes, each as often. -/
namespace Go.Proofs.Ythcnnfahlhklgaa.SD
open Go.RowKit Go.Proofs.Ythcnnfahlhklgaa Go.Proofs.Ythcnnfahlhklgaa.X Go.Proofs.Ythcnnfahlhklgaa.SM Go.Proofs.YthcnnfahlhklgaaW.PrintWords Go.Proofs.YthcnnfahlhklgaaW.PrintLast

section
variable {s b : List Int}
attribute [local irreducible] cv fr tov rk3 loc2 rank
theorem back_ok (hs : s.length ≤ 16777216) (hb : BL s) : ∃ (K : Nat) (x : List Int) (e : Nat), (∀ k, K ≤ k → suffix_Turn.f k s = some (x, (e : Int), 0)) ∧ suffix_Unturn.f x (e : Int) = some (s, 0) ∧ x.length = s.length ∧ BL x ∧ ∀ c, EQ x s.length c = EQ s s.length c := by
  obtain ⟨K, x, e, t1, t2, t3, t4⟩ := turns_ok hs hb
  have he : e ≤ s.length := by rw [t4.1]; exact rw_le _
  have hg := turn_goes t4
  obtain ⟨g1, _⟩ := un_guard (b := x) (by omega) t3 (e := e) (by omega)
  rw [t2] at g1
  have g := g1 hg.1
  rw [if_pos (by rw [hg.2])] at g
  have hr : redL x e = s := ext_ch (by rw [redL_len, t2]) fun q hq => by
    rw [redL_len, t2] at hq
    rw [redL_ch (by omega), t2, turn_red t4 hq]
  rw [hr] at g
  refine ⟨K, x, e, fun k hk => (t1 k hk).1, g, t2, t3, fun c => ?_⟩
  have ne : ∀ i, i < s.length → rw_ s.length (ch s) (i + 1) ≠ e := fun i hi h => by
    rw [t4.1] at h
    have := rw_inj (by omega) (by omega) h
    omega
  unfold EQ
  rw [← cn_bij (n := s.length) (fun i => idx e (rw_ s.length (ch s) (i + 1))) (fun i hi => idx_lt (rw_le _) he (ne i hi)) (fun i j hi' hj' h => by
    by_cases z : i = j
    · exact z
    · have a1 := idx_iff (ne i hi') (ne j hj')
      have a2 := idx_iff (ne j hj') (ne i hi')
      have := rw_inj (n := s.length) (c := ch s) (i := i + 1) (j := j + 1) (by omega) (by omega) (by omega)
      omega) (fun i => decide (ch x i = (c : Int)))]
  exact cn_congr fun i hi => by rw [t4.2 i hi]
/-- What Unturn takes, Turn makes of its answer. -/
theorem forth_ok (hn : b.length ≤ 16777216) (hy : BL b) (a : Int) : ∃ (y : List Int) (g : Int), suffix_Unturn.f b a = some (y, g) ∧ y.length ≤ 16777216 ∧ ((g ≠ 0 ∧ y = []) ∨ (g = 0 ∧ ∃ K, ∀ k, K ≤ k → suffix_Turn.f k y = some (b, a, 0))) := by
  by_cases h0 : a < 0 ∨ a > (b.length : Int)
  · refine ⟨[], 132, ?_, by simp, .inl ⟨by decide, rfl⟩⟩
    unfold suffix_Unturn.f; rw [if_neg (by omega), if_pos h0]
  obtain ⟨e, rfl⟩ := Int.eq_ofNat_of_zero_le (show 0 ≤ a by omega)
  have he : e ≤ b.length := by omega
  obtain ⟨g1, g2⟩ := un_guard hn hy he
  by_cases c : ∀ q, q < b.length → row b.length (ch b) e q ≠ e
  · have g1 := g1 c
    by_cases c2 : row b.length (ch b) e b.length = e
    · rw [if_pos (by omega)] at g1
      have hg : Goes b.length (ch b) e := ⟨c, c2⟩
      have ht := goes_turn (c := ch (redL b e)) he hg (fun i hi => redL_ch hi)
      obtain ⟨K, b', e', t1, t2, _, t4⟩ := turns_ok (s := redL b e) (by rw [redL_len]; exact hn) (redL_byt hy he c)
      rw [redL_len] at t2 t4
      obtain ⟨x1, x2⟩ := turn_one ht t4
      have x3 : b' = b := ext_ch t2 (fun q hq => (x2 q (by omega)).symm)
      subst x1 x3
      exact ⟨_, 0, g1, by rw [redL_len]; exact hn, .inr ⟨rfl, K, fun k hk => (t1 k hk).1⟩⟩
    · rw [if_neg (by omega)] at g1
      exact ⟨[], 131, g1, by simp, .inl ⟨by decide, rfl⟩⟩
  · have c' : ∃ q, q < b.length ∧ row b.length (ch b) e q = e := by
      refine Classical.byContradiction fun h => c fun q hq he => h ⟨q, hq, he⟩
    exact ⟨[], 131, g2 c', by simp, .inl ⟨by decide, rfl⟩⟩
end
end Go.Proofs.Ythcnnfahlhklgaa.SD
end
