/- sais.Induce, of any order of the turns: the row that the order induces. -/
import Derived.Test.YtgnhangjacdfbaaSMg
import Derived.Test.YtgnhangjacdfbaaSMf
import Derived.Test.YtgnhangjacdfbaaXx57
namespace Go.Proofs.Ytgnhangjacdfbaa.SD
open Go.RowKit Go.Proofs.Ytgnhangjacdfbaa Go.Proofs.Ytgnhangjacdfbaa.X Go.Proofs.Ytgnhangjacdfbaa.SM Go.Proofs.YtgnhangjacdfbaaW.PrintWords Go.Proofs.YtgnhangjacdfbaaW.PrintLast

section
variable {s o : List Int} {k0 : Int}

theorem ch_get {o : List Int} {a : Nat} (h : a < o.length) : o[a] = ch o a := by
  unfold ch; rw [List.getD_eq_getElem?_getD, List.getElem?_eq_getElem h]; rfl
theorem mem_tul {x : Int} : x ∈ tul s ↔ ∃ t : Nat, trn s.length (ch s) t = true ∧ x = t := by
  unfold tul
  simp only [List.mem_map, List.mem_filter, List.mem_range]
  constructor
  · rintro ⟨t, ⟨_, h⟩, rfl⟩; exact ⟨t, h, rfl⟩
  · rintro ⟨t, h, rfl⟩; exact ⟨t, ⟨by have := trn_lt h; omega, h⟩, rfl⟩
theorem tul_pw : (tul s).Pairwise (fun a b => a < b) := by
  unfold tul
  rw [List.pairwise_map]
  exact (List.pairwise_lt_range.filter _).imp (fun h => by omega)
theorem sort_perm (h : o.Perm (tul s)) : o.mergeSort (fun x y => decide (x ≤ y)) = tul s := by
  refine List.Perm.eq_of_pairwise (le := fun a b : Int => a ≤ b) (fun a b _ _ h1 h2 => by omega) ?_ (tul_pw.imp (fun h => by omega)) ((List.mergeSort_perm _ _).trans h)
  exact (List.pairwise_mergeSort (le := fun x y : Int => decide (x ≤ y)) (fun a b c h1 h2 => by simp only [decide_eq_true_eq] at *; omega) (fun a b => by simp only [Bool.or_eq_true, decide_eq_true_eq]; omega) o).imp (fun h => by simpa using h)
theorem tul_nodup : (tul s).Nodup := tul_pw.imp (fun h => by omega)
theorem nodup_ch {o : List Int} (h : o.Nodup) {a b : Nat} (ha : a < o.length) (hb : b < o.length) (e : ch o a = ch o b) : a = b := by
  have h2 := List.pairwise_iff_getElem.1 h
  rcases Nat.lt_trichotomy a b with z | z | z
  · have := h2 a b ha hb z; rw [ch_get ha, ch_get hb] at this; exact absurd e this
  · exact z
  · have := h2 b a hb ha z; rw [ch_get ha, ch_get hb] at this; exact absurd e.symm this
/-- Any order of the turns is an order. -/
theorem ord_of_perm (h : o.Perm (tul s)) : Ord s o (fun t => o.idxOf (t : Int)) := by
  have hnd : o.Nodup := h.symm.nodup tul_nodup
  have key : ∀ t : Nat, trn s.length (ch s) t = true → o.idxOf (t : Int) < o.length ∧ ch o (o.idxOf (t : Int)) = t := by
    intro t ht
    have h1 : (t : Int) ∈ o := h.mem_iff.2 (mem_tul.2 ⟨t, ht, rfl⟩)
    have h2 := List.idxOf_lt_length_iff.2 h1
    exact ⟨h2, by rw [← ch_get h2]; exact List.getElem_idxOf h2⟩
  refine ⟨fun a ha => ?_, key⟩
  have h1 : o[a] ∈ tul s := h.mem_iff.1 (List.getElem_mem ha)
  obtain ⟨t, ht, e⟩ := mem_tul.1 h1
  rw [ch_get ha] at e
  have h2 := key t ht
  exact ⟨t, ht, e, nodup_ch hnd h2.1 ha (by rw [h2.2, e])⟩
theorem perm_of_ord {r : Nat → Nat} (h : Ord s o r) : o.Perm (tul s) := by
  refine (List.perm_ext_iff_of_nodup ?_ tul_nodup).2 fun x => ?_
  · refine List.pairwise_iff_getElem.2 fun a b ha hb hab e => ?_
    obtain ⟨t, h1, h2, h3⟩ := h.turn a ha
    obtain ⟨u, g1, g2, g3⟩ := h.turn b hb
    rw [ch_get ha, ch_get hb] at e
    have : t = u := by omega
    subst this; omega
  · rw [mem_tul]
    constructor
    · intro hx
      obtain ⟨a, ha, e⟩ := List.getElem_of_mem hx
      obtain ⟨t, h1, h2, _⟩ := h.turn a ha
      exact ⟨t, h1, by rw [← e, ch_get ha, h2]⟩
    · rintro ⟨t, ht, rfl⟩
      have h1 := h.all t ht
      rw [← h1.2, ← ch_get h1.1]
      exact List.getElem_mem _

theorem equal_loop (l : List Int) (hl : l.length ≤ 9223372036854775000) (d : Nat) : ∀ q, l.length - q = d → q ≤ l.length → ∀ k, slices_Equal_int_int.l0 (k + d + 1) l l (l.length : Int) (q : Int) = some true := by
  induction d with
  | zero =>
    intro q hd hq k
    rw [slices_Equal_int_int.l0, if_neg (by omega)]
  | succ d ih =>
    intro q hd hq k
    rw [show k + (d + 1) + 1 = k + d + 1 + 1 by omega, slices_Equal_int_int.l0, if_pos (by omega), if_pos (by omega), if_pos (by omega), if_pos (by omega), if_pos rfl, wp (x := (q : Int) + 1) (y := ((q + 1 : Nat) : Int)) (by omega) (by omega) (by omega)]
    exact ih (q + 1) (by omega) (by omega) k
theorem equal_ge {l : List Int} (hl : l.length ≤ 9223372036854775000) {k : Nat} (hk : l.length + 1 ≤ k) : slices_Equal_int_int.f k l l = some true := by
  unfold slices_Equal_int_int.f
  rw [if_pos rfl]
  have := equal_loop l hl l.length 0 (by omega) (by omega) (k - l.length - 1)
  rw [show k - l.length - 1 + l.length + 1 = k by omega] at this; exact this

/-- Induce, of a list that may be and an order of its turns. -/
theorem Induce_f {r : Nat → Nat} (hok : Ok k0 s) (ho : Ord s o r) : ∃ K row, (∀ k, K ≤ k → sais_Induce.f k k0 s o = some (row, 0)) ∧ row.length = s.length ∧ ∀ i, i < s.length → ch row (rk3 s.length (ch s) r i) = (i : Int) := by
  have hn := hok.2.2.1
  have hp := perm_of_ord ho
  have htl : (tul s).length ≤ s.length := by rw [tul_length]; exact cn_le _
  have hol : o.length ≤ 16777216 := by rw [hp.length_eq]; omega
  obtain ⟨K, row, h1, h2, h3⟩ := induce_f hok ho hol
  refine ⟨K + 3 * s.length + 10, row, fun k hk => ?_, h2, h3⟩
  have c1 := check_ok hok (k - s.length - 2)
  rw [show k - s.length - 2 + s.length + 2 = k by omega] at c1
  have c2 := lms_f s (by omega) (k - s.length - 1)
  have c3 := types_f s (by omega) (k - s.length - 1)
  rw [show k - s.length - 1 + s.length + 1 = k by omega] at c2 c3
  unfold sais_Induce.f slices_Clone_int_int.f slices_Sort_int_int.f
  rw [c1, Option.bind_some, if_pos rfl, if_pos (by omega), Option.bind_some, if_pos (by omega), Option.bind_some, c2, Option.bind_some, sort_perm hp, equal_ge (by omega) (by omega), Option.bind_some, if_pos rfl, c3, Option.bind_some, h1 k (by omega), Option.bind_some]
end
end Go.Proofs.Ytgnhangjacdfbaa.SD
