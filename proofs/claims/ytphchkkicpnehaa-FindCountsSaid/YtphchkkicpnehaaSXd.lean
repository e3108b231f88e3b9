/- Bytes as strings: equal, less; the suffixes' order is that of the strings. -/
import Derived.Test.YtphchkkicpnehaaSXa
import Derived.Test.YtphchkkicpnehaaSMd
namespace Go.Proofs.Ytphchkkicpnehaa.SD
open Go.RowKit Go.Proofs.Ytphchkkicpnehaa Go.Proofs.Ytphchkkicpnehaa.X Go.Proofs.Ytphchkkicpnehaa.SM Go.Proofs.YtphchkkicpnehaaW.PrintWords Go.Proofs.YtphchkkicpnehaaW.PrintLast

def u8 (x : Int) : UInt8 := UInt8.ofNat x.toNat
theorem sl_eq (l : List Int) : (strOfNums l).toList = l.map u8 := by
  rw [ByteArray.toList_eq]; simp [strOfNums, u8]
theorem u8_toNat {x : Int} (h0 : 0 ≤ x) (h1 : x < 256) : (u8 x).toNat = x.toNat := by
  unfold u8
  rw [UInt8.toNat_ofNat']
  omega
theorem u8_inj {x y : Int} (hx : 0 ≤ x ∧ x < 256) (hy : 0 ≤ y ∧ y < 256) (h : u8 x = u8 y) : x = y := by
  have h1 := u8_toNat hx.1 hx.2
  have h2 := u8_toNat hy.1 hy.2
  rw [h] at h1
  omega
theorem u8_lt {x y : Int} (hx : 0 ≤ x ∧ x < 256) (hy : 0 ≤ y ∧ y < 256) : u8 x < u8 y ↔ x < y := by
  rw [UInt8.lt_iff_toNat_lt, u8_toNat hx.1 hx.2, u8_toNat hy.1 hy.2]
  omega
/-- All are bytes. -/
def BL (l : List Int) : Prop := ∀ x ∈ l, 0 ≤ x ∧ x < 256
theorem BL.tail {a : Int} {l : List Int} (h : BL (a :: l)) : BL l := fun x hx => h x (List.mem_cons_of_mem _ hx)
theorem BL.head {a : Int} {l : List Int} (h : BL (a :: l)) : 0 ≤ a ∧ a < 256 := h a List.mem_cons_self
theorem BL.drop {l : List Int} (h : BL l) (i : Nat) : BL (l.drop i) := fun x hx => h x (List.mem_of_mem_drop hx)
theorem BL.take {l : List Int} (h : BL l) (i : Nat) : BL (l.take i) := fun x hx => h x (List.mem_of_mem_take hx)
def lessL : List Int → List Int → Bool
  | _, [] => false
  | [], _ :: _ => true
  | a :: x, b :: y => decide (a < b) || (decide (a = b) && lessL x y)
theorem less_sl' : ∀ {a b : List Int}, BL a → BL b → Op.bytesLess (a.map u8) (b.map u8) = lessL a b
  | a, [], _, _ => by cases a <;> rfl
  | [], _ :: _, _, _ => rfl
  | x :: a, y :: b, ha, hb => by
    have ih := less_sl' ha.tail hb.tail
    simp only [List.map_cons, Op.bytesLess, lessL, ih]
    have h1 : decide (u8 x < u8 y) = decide (x < y) := decide_eq_decide.mpr (u8_lt ha.head hb.head)
    have h2 : (u8 x == u8 y) = decide (x = y) := by
      by_cases e : x = y
      · subst e; simp
      · have : u8 x ≠ u8 y := fun h => e (u8_inj ha.head hb.head h)
        simp [e, this]
    rw [h1, h2]
theorem less_sl {a b : List Int} (ha : BL a) (hb : BL b) : Op.bytesLess (strOfNums a).toList (strOfNums b).toList = lessL a b := by
  rw [sl_eq, sl_eq]; exact less_sl' ha hb
theorem eq_sl' : ∀ {a b : List Int}, BL a → BL b → (a.map u8 = b.map u8 ↔ a = b)
  | [], [], _, _ => by simp
  | [], _ :: _, _, _ => by simp
  | _ :: _, [], _, _ => by simp
  | x :: a, y :: b, ha, hb => by
    have ih := eq_sl' ha.tail hb.tail
    simp only [List.map_cons, List.cons.injEq, ih]
    exact ⟨fun h => ⟨u8_inj ha.head hb.head h.1, h.2⟩, fun h => ⟨by rw [h.1], h.2⟩⟩
theorem eq_sl {a b : List Int} (ha : BL a) (hb : BL b) : (strOfNums a).toList = (strOfNums b).toList ↔ a = b := by
  rw [sl_eq, sl_eq]; exact eq_sl' ha hb

section
variable {s : List Int}
theorem drop_cons {i : Nat} (h : i < s.length) : s.drop i = ch s i :: s.drop (i + 1) := by
  rw [List.drop_eq_getElem_cons h]
  congr 1
  unfold ch
  rw [List.getD_eq_getElem?_getD, List.getElem?_eq_getElem h]; rfl
theorem lessL_slt (d : Nat) : ∀ i j, s.length - i = d → lessL (s.drop i) (s.drop j) = slt s.length (ch s) i j := by
  induction d with
  | zero =>
    intro i j h
    rw [List.drop_eq_nil_of_le (show s.length ≤ i by omega)]
    by_cases hj : j < s.length
    · rw [drop_cons hj, (slt_end (by omega)).2 hj]; rfl
    · rw [List.drop_eq_nil_of_le (by omega), slt_to_end (by omega)]; rfl
  | succ d ih =>
    intro i j h
    by_cases hj : j < s.length
    · rw [drop_cons (show i < s.length by omega), drop_cons hj]
      simp only [lessL]
      rw [ih (i + 1) (j + 1) (by omega), Bool.eq_iff_iff, slt_in (by omega) hj]
      simp
    · rw [List.drop_eq_nil_of_le (show s.length ≤ j by omega), slt_to_end (by omega)]
      cases s.drop i <;> rfl
/-- Less, by the first place where they part. -/
theorem lessL_of : ∀ (p : Nat) {a b : List Int}, p < b.length → (∀ q, q < p → q < a.length ∧ ch a q = ch b q) → (a.length ≤ p ∨ ch a p < ch b p) → lessL a b = true
  | p, a, [], h, _, _ => by simp at h
  | p, [], y :: b, _, _, _ => rfl
  | 0, x :: a, y :: b, _, _, h => by
    have h1 : ch (x :: a) 0 = x := rfl
    have h2 : ch (y :: b) 0 = y := rfl
    rw [h1, h2] at h
    simp only [List.length_cons] at h
    have : x < y := by omega
    simp [lessL, this]
  | p + 1, x :: a, y :: b, hp, hq, h => by
    have h0 := (hq 0 (by omega)).2
    have h1 : ch (x :: a) 0 = x := rfl
    have h2 : ch (y :: b) 0 = y := rfl
    rw [h1, h2] at h0
    subst h0
    have hs : ∀ (z : Int) (l : List Int) (q : Nat), ch (z :: l) (q + 1) = ch l q := fun z l q => by unfold ch; rfl
    have := lessL_of p (a := a) (b := b) (by simp only [List.length_cons] at hp; omega) (fun q hlt => by
      have h3 := hq (q + 1) (by omega)
      rw [hs, hs] at h3
      simp only [List.length_cons] at h3
      exact ⟨by omega, h3.2⟩) (by
      rw [hs, hs] at h
      simp only [List.length_cons] at h
      omega)
    simp [lessL, this]
theorem ch_take (i q : Nat) : ch (s.take i) q = if q < i then ch s q else 0 := by
  unfold ch
  rw [List.getD_eq_getElem?_getD, List.getElem?_take]
  split
  · rw [List.getD_eq_getElem?_getD]
  · rfl
theorem ch_drop (i q : Nat) : ch (s.drop i) q = ch s (i + q) := by
  unfold ch
  rw [List.getD_eq_getElem?_getD, List.getD_eq_getElem?_getD, List.getElem?_drop]
end
end Go.Proofs.Ytphchkkicpnehaa.SD
