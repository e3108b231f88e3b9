/- The printed functions array and Array of package sais: the answer has all suffixes in their order. -/
import Derived.Test.YtphchkkicpnehaaSMg
namespace Go.Proofs.Ytphchkkicpnehaa.SD
open Go.RowKit Go.Proofs.Ytphchkkicpnehaa Go.Proofs.Ytphchkkicpnehaa.X Go.Proofs.Ytphchkkicpnehaa.SM Go.Proofs.YtphchkkicpnehaaW.PrintWords Go.Proofs.YtphchkkicpnehaaW.PrintLast

theorem slt_congr' {n : Nat} {c c' : Nat → Int} (h : ∀ j, j < n → c j = c' j) (d : Nat) : ∀ i j, n - i = d → slt n c i j = slt n c' i j := by
  induction d with
  | zero => intro i j hd; rw [slt_endb (by omega), slt_endb (by omega)]
  | succ d ih =>
    intro i j hd
    rcases Nat.lt_or_ge j n with hj | hj
    · rw [Bool.eq_iff_iff, slt_in (by omega) hj, slt_in (by omega) hj, h i (by omega), h j hj, ih (i + 1) (j + 1) (by omega)]
    · rw [slt_to_end hj, slt_to_end hj]
theorem slt_congr {n : Nat} {c c' : Nat → Int} (h : ∀ j, j < n → c j = c' j) (i j : Nat) : slt n c i j = slt n c' i j := slt_congr' h _ i j rfl

/-- l has the suffixes of s in their order. -/
def IsSA (s l : List Int) : Prop := l.length = s.length ∧ ∀ i, i < s.length → ch l (rank s.length (ch s) i) = (i : Int)

theorem ch_app (o : List Int) (i : Int) (a : Nat) : ch (o ++ [i]) a = if a < o.length then ch o a else if a = o.length then i else 0 := by
  unfold ch
  rw [List.getD_eq_getElem?_getD, List.getD_eq_getElem?_getD]
  by_cases h : a < o.length
  · rw [if_pos h, List.getElem?_append_left h]
  · rw [if_neg h, List.getElem?_append_right (by omega)]
    by_cases e : a = o.length
    · rw [if_pos e, e, Nat.sub_self]; rfl
    · rw [if_neg e]
      obtain ⟨q, hq⟩ : ∃ q, a - o.length = q + 1 := ⟨a - o.length - 1, by omega⟩
      rw [hq]; rfl

section
variable {k0 : Int} {s : List Int} {r : Nat → Nat}
attribute [local irreducible] cn cv fr tov rk3 loc2 ch

/-- The a-th of a list, as a place. -/
def O (o : List Int) (a : Nat) : Nat := (ch o a).toNat

/-- Names given to the turns that stand below place p of the row. -/
structure Nam (s : List Int) (r : Nat → Nat) (p : Nat) (last count : Int) (o names : List Int) : Prop where
  olen : o.length = cn s.length (fun i => trn s.length (ch s) i && decide (rk3 s.length (ch s) r i < p))
  nlen : names.length = s.length
  turn : ∀ a, a < o.length → trn s.length (ch s) (O o a) = true ∧ ch o a = (O o a : Int) ∧ rk3 s.length (ch s) r (O o a) < p
  all : ∀ t, trn s.length (ch s) t = true → rk3 s.length (ch s) r t < p → ∃ a, a < o.length ∧ O o a = t
  sorted : ∀ a, a + 1 < o.length → lt3 s.length (ch s) r (O o a) (O o (a + 1)) = true
  step : ∀ a, a + 1 < o.length → ch names (O o (a + 1)) = ch names (O o a) + (if eq3 s.length (ch s) (O o a) (O o (a + 1)) then 0 else 1)
  first : 0 < o.length → ch names (O o 0) = 0
  none : o.length = 0 → last = -1 ∧ count = 0
  some : 0 < o.length → last = (O o (o.length - 1) : Int) ∧ count = ch names (O o (o.length - 1)) + 1
  bound : ∀ a, a < o.length → 0 ≤ ch names (O o a) ∧ ch names (O o a) < count
  le : 0 ≤ count ∧ count ≤ o.length

theorem Nam.push (hr : Inj s.length (ch s) r) {p : Nat} {last count : Int} {o names : List Int} (h : Nam s r p last count o names) {i : Nat} (hi : trn s.length (ch s) i = true) (hp : rk3 s.length (ch s) r i = p) {v : Int}
    (hv0 : o.length = 0 → v = 0) (hv1 : 0 < o.length → v = ch names (O o (o.length - 1)) + (if eq3 s.length (ch s) (O o (o.length - 1)) i then 0 else 1)) :
    Nam s r (p + 1) (i : Int) (v + 1) (o ++ [(i : Int)]) (names.set i v) := by
  have hin : i < s.length := by have := trn_lt hi; omega
  have hO : ∀ a, a < o.length → O (o ++ [(i : Int)]) a = O o a := by intro a ha; unfold O; rw [ch_app, if_pos ha]
  have hOl : O (o ++ [(i : Int)]) o.length = i := by unfold O; rw [ch_app, if_neg (by omega), if_pos rfl]; rfl
  have hlen : (o ++ [(i : Int)]).length = o.length + 1 := by simp
  have hne : ∀ a, a < o.length → i ≠ O o a := by
    intro a ha e
    have := (h.turn a ha).2.2
    rw [← e] at this; omega
  have hold : ∀ a, a < o.length → ch (names.set i v) (O o a) = ch names (O o a) := by
    intro a ha; rw [ch_set _ _ _ _ (by rw [h.nlen]; exact hin), if_neg (hne a ha)]
  have hnew : ch (names.set i v) i = v := by rw [ch_set _ _ _ _ (by rw [h.nlen]; exact hin), if_pos rfl]
  have hv : 0 ≤ v ∧ count - 1 ≤ v ∧ v ≤ count := by
    rcases Nat.eq_zero_or_pos o.length with z | z
    · have := h.none z; have := hv0 z; omega
    · have h1 := (h.some z).2
      have h2 := hv1 z
      have h3 := h.bound (o.length - 1) (by omega)
      split at h2 <;> omega
  refine ⟨?_, by rw [List.length_set]; exact h.nlen, ?_, ?_, ?_, ?_, ?_, ?_, ?_, ?_, ?_⟩
  · rw [hlen, h.olen]
    refine (cn_succ hin (by simp [hp]) (fun j hj => ?_)).symm
    rw [Bool.eq_iff_iff]
    simp only [Bool.or_eq_true, Bool.and_eq_true, decide_eq_true_eq, beq_iff_eq]
    constructor
    · rintro ⟨f1, f2⟩
      by_cases e : j = i
      · exact .inr e
      · have : rk3 s.length (ch s) r j ≠ rk3 s.length (ch s) r i := fun z => e (rk3_inj hr hj hin z)
        exact .inl ⟨f1, by omega⟩
    · rintro (⟨f1, f2⟩ | rfl)
      · exact ⟨f1, by omega⟩
      · exact ⟨hi, by omega⟩
  · intro a ha
    rw [hlen] at ha
    by_cases e : a < o.length
    · have := h.turn a e
      rw [hO a e, ch_app, if_pos e]
      exact ⟨this.1, this.2.1, by omega⟩
    · obtain rfl : a = o.length := by omega
      rw [hOl, ch_app, if_neg (by omega), if_pos rfl]
      exact ⟨hi, rfl, by omega⟩
  · intro t ht htp
    by_cases e : t = i
    · exact ⟨o.length, by omega, by rw [hOl, e]⟩
    · have : rk3 s.length (ch s) r t ≠ rk3 s.length (ch s) r i := fun z => e (rk3_inj hr (by have := trn_lt ht; omega) hin z)
      obtain ⟨a, ha, hae⟩ := h.all t ht (by omega)
      exact ⟨a, by omega, by rw [hO a ha]; exact hae⟩
  · intro a ha
    rw [hlen] at ha
    by_cases e : a + 1 < o.length
    · rw [hO a (by omega), hO (a + 1) e]; exact h.sorted a e
    · have e2 : a + 1 = o.length := by omega
      rw [hO a (by omega), e2, hOl]
      have h1 := h.turn a (by omega)
      exact (rk3_iff hr (by have := trn_lt h1.1; omega) hin).1 (by omega)
  · intro a ha
    rw [hlen] at ha
    by_cases e : a + 1 < o.length
    · rw [hO a (by omega), hO (a + 1) e, hold a (by omega), hold (a + 1) e]; exact h.step a e
    · have e2 : a + 1 = o.length := by omega
      rw [hO a (by omega), e2, hOl, hnew, hold a (by omega)]
      have := hv1 (by omega)
      rw [show o.length - 1 = a by omega] at this; exact this
  · intro _
    rcases Nat.eq_zero_or_pos o.length with z | z
    · have e : (0 : Nat) = o.length := z.symm
      have : O (o ++ [(i : Int)]) 0 = i := by rw [e]; exact hOl
      rw [this, hnew]; exact hv0 z
    · rw [hO 0 z, hold 0 z]; exact h.first z
  · intro z; omega
  · intro _
    rw [hlen, show o.length + 1 - 1 = o.length by omega, hOl, hnew]; exact ⟨rfl, rfl⟩
  · intro a ha
    rw [hlen] at ha
    by_cases e : a < o.length
    · rw [hO a e, hold a e]
      have := h.bound a e
      omega
    · obtain rfl : a = o.length := by omega
      rw [hOl, hnew]; omega
  · have := h.le
    rw [hlen]
    rcases Nat.eq_zero_or_pos o.length with z | z
    · have := hv0 z; omega
    · omega

theorem Nam.skip (hr : Inj s.length (ch s) r) {p : Nat} {last count : Int} {o names : List Int} (h : Nam s r p last count o names) {i : Nat} (hin : i < s.length) (hi : trn s.length (ch s) i = false) (hp : rk3 s.length (ch s) r i = p) : Nam s r (p + 1) last count o names := by
  have hiff : ∀ t, trn s.length (ch s) t = true → (rk3 s.length (ch s) r t < p + 1 ↔ rk3 s.length (ch s) r t < p) := by
    intro t ht
    have : rk3 s.length (ch s) r t ≠ rk3 s.length (ch s) r i := fun z => by
      have := rk3_inj hr (by have := trn_lt ht; omega) hin z
      subst this; rw [ht] at hi; cases hi
    omega
  refine ⟨?_, h.nlen, fun a ha => ?_, fun t ht h1 => h.all t ht ((hiff t ht).1 h1), h.sorted, h.step, h.first, h.none, h.some, h.bound, h.le⟩
  · rw [h.olen]
    refine cn_congr fun j hj => ?_
    rw [Bool.eq_iff_iff]
    simp only [Bool.and_eq_true, decide_eq_true_eq]
    exact ⟨fun h => ⟨h.1, (hiff j h.1).2 h.2⟩, fun h => ⟨h.1, (hiff j h.1).1 h.2⟩⟩
  · have := h.turn a ha
    exact ⟨this.1, this.2.1, by omega⟩

theorem array_l0 (hn : s.length ≤ 16777216) (hr : Inj s.length (ch s) r) {row : List Int} (hrow : row.length = s.length) (hput : ∀ i, i < s.length → ch row (rk3 s.length (ch s) r i) = (i : Int)) (d : Nat) :
    ∀ p (last count : Int) (o names : List Int), s.length - p = d → p ≤ s.length → Nam s r p last count o names →
    ∃ last' count' o' names', Nam s r s.length last' count' o' names' ∧ ∀ k, 4 * s.length + 4 ≤ k →
      sais_array.l0 (k + d + 1) k0 s last count o (tul s) (tyl s) row names (s.length : Int) (p : Int) = sais_array.l0 (k + 1) k0 s last' count' o' (tul s) (tyl s) row names' (s.length : Int) (s.length : Int) := by
  induction d with
  | zero =>
    intro p last count o names hd hp h
    obtain rfl : p = s.length := by omega
    exact ⟨last, count, o, names, h, fun k _ => rfl⟩
  | succ d ih =>
    intro p last count o names hd hp h
    have hpn : p < s.length := by omega
    obtain ⟨i, hin, hip⟩ := pigeon s.length (rk3 s.length (ch s) r) (fun _ h => rk3_lt h) (fun _ _ h h' e => rk3_inj hr h h' e) p hpn
    have hrp : ch row p = (i : Int) := by rw [← hip]; exact hput i hin
    have hol : o.length ≤ s.length := by rw [h.olen]; exact cn_le _
    have hcnt := h.le
    have go : ∀ (last1 count1 : Int) (o1 names1 : List Int), Nam s r (p + 1) last1 count1 o1 names1 → (∀ k, 4 * s.length + 4 ≤ k → sais_array.l0 (k + d + 1 + 1) k0 s last count o (tul s) (tyl s) row names (s.length : Int) (p : Int) = sais_array.l0 (k + d + 1) k0 s last1 count1 o1 (tul s) (tyl s) row names1 (s.length : Int) ((p + 1 : Nat) : Int)) →
        ∃ last' count' o' names', Nam s r s.length last' count' o' names' ∧ ∀ k, 4 * s.length + 4 ≤ k →
          sais_array.l0 (k + (d + 1) + 1) k0 s last count o (tul s) (tyl s) row names (s.length : Int) (p : Int) = sais_array.l0 (k + 1) k0 s last' count' o' (tul s) (tyl s) row names' (s.length : Int) (s.length : Int) := by
      intro last1 count1 o1 names1 g1 g2
      obtain ⟨last', count', o', names', g3, g4⟩ := ih (p + 1) last1 count1 o1 names1 (by omega) (by omega) g1
      exact ⟨last', count', o', names', g3, fun k hk => by rw [show k + (d + 1) + 1 = k + d + 1 + 1 by omega, g2 k hk, g4 k hk]⟩
    cases ht : trn s.length (ch s) i with
    | false =>
      refine go last count o names (h.skip hr hin ht hip) fun k hk => ?_
      conv => lhs; rw [sais_array.l0]
      rw [if_pos (by omega), if_pos (by omega), if_pos (by omega), rd_nat, hrp, isTurn_f s (by omega) i hin, Option.bind_some, ht, if_neg (by simp), wp (x := (p : Int) + 1) (y := ((p + 1 : Nat) : Int)) (by omega) (by omega) (by omega)]
    | true =>
      rcases Nat.eq_zero_or_pos o.length with z | z
      · obtain ⟨e1, e2⟩ := h.none z
        have hN := h.push hr ht hip (v := 0) (fun _ => rfl) (fun z2 => by omega)
        refine go _ _ _ _ hN fun k hk => ?_
        conv => lhs; rw [sais_array.l0]
        rw [if_pos (by omega), if_pos (by omega), if_pos (by omega), rd_nat, hrp, isTurn_f s (by omega) i hin, Option.bind_some, ht, if_pos rfl, if_pos e1, if_pos (by omega), if_pos (by rw [h.nlen]; omega), if_pos (by omega), Int.toNat_natCast, wp (x := (p : Int) + 1) (y := ((p + 1 : Nat) : Int)) (by omega) (by omega) (by omega), wp (x := count + 1) (y := 0 + 1) (by omega) (by omega) (by omega), wp (x := (0 : Int) + 1 - 1) (y := 0) (by omega) (by omega) (by omega)]
      · obtain ⟨e1, e2⟩ := h.some z
        have ht2 := h.turn (o.length - 1) (by omega)
        have hl2 := trn_lt ht2.1
        have hb := h.bound (o.length - 1) (by omega)
        cases he : eq3 s.length (ch s) (O o (o.length - 1)) i with
        | true =>
          have hN := h.push hr ht hip (v := count - 1) (fun z2 => by omega) (fun _ => by rw [he, if_pos rfl]; omega)
          refine go _ _ _ _ hN fun k hk => ?_
          have hsame := same_f hn (O o (o.length - 1)) i (by omega) (by omega) (k + d + 1 - 4 * s.length - 4)
          rw [show k + d + 1 - 4 * s.length - 4 + 4 * s.length + 4 = k + d + 1 by omega, ← e1, he] at hsame
          conv => lhs; rw [sais_array.l0]
          rw [if_pos (by omega), if_pos (by omega), if_pos (by omega), rd_nat, hrp, isTurn_f s (by omega) i hin, Option.bind_some, ht, if_pos rfl, if_neg (by omega), hsame, Option.bind_some, if_pos rfl, if_pos (by omega), if_pos (by rw [h.nlen]; omega), if_pos (by omega), Int.toNat_natCast, wp (x := (p : Int) + 1) (y := ((p + 1 : Nat) : Int)) (by omega) (by omega) (by omega), w64 (x := count - 1) (by omega) (by omega), show count - 1 + 1 = count by omega]
        | false =>
          have hN := h.push hr ht hip (v := count) (fun z2 => by omega) (fun _ => by rw [he, if_neg (by simp)]; omega)
          refine go _ _ _ _ hN fun k hk => ?_
          have hsame := same_f hn (O o (o.length - 1)) i (by omega) (by omega) (k + d + 1 - 4 * s.length - 4)
          rw [show k + d + 1 - 4 * s.length - 4 + 4 * s.length + 4 = k + d + 1 by omega, ← e1, he] at hsame
          conv => lhs; rw [sais_array.l0]
          rw [if_pos (by omega), if_pos (by omega), if_pos (by omega), rd_nat, hrp, isTurn_f s (by omega) i hin, Option.bind_some, ht, if_pos rfl, if_neg (by omega), hsame, Option.bind_some, if_neg (by simp), if_pos (by omega), if_pos (by rw [h.nlen]; omega), if_pos (by omega), Int.toNat_natCast, wp (x := (p : Int) + 1) (y := ((p + 1 : Nat) : Int)) (by omega) (by omega) (by omega), w64 (x := count + 1) (by omega) (by omega), wp (x := count + 1 - 1) (y := count) (by omega) (by omega) (by omega)]

theorem array_l1 (hn : s.length ≤ 16777216) {count : Int} {o names : List Int} (hnl : names.length = s.length) (d : Nat) : ∀ a (R : List Int), (tul s).length - a = d → a ≤ (tul s).length → R.length = (tul s).length → (∀ b, b < a → ch R b = ch names (T s b)) →
    ∃ R', R'.length = (tul s).length ∧ (∀ b, b < (tul s).length → ch R' b = ch names (T s b)) ∧ ∀ k,
      sais_array.l1 (k + d + 1) k0 s count o (tul s) (tyl s) names R ((tul s).length : Int) (a : Int) = (sais_array.f k count R').bind fun t => sais_array.l2 k k0 s o (tul s) (tyl s) t (t.length : Int) 0 := by
  have hm : (tul s).length ≤ s.length := by rw [tul_length]; exact cn_le _
  induction d with
  | zero =>
    intro a R hd ha h1 h2
    obtain rfl : a = (tul s).length := by omega
    exact ⟨R, h1, h2, fun k => by rw [sais_array.l1, if_neg (by omega)]⟩
  | succ d ih =>
    intro a R hd ha h1 h2
    have ht := T_spec (s := s) (a := a) (by omega)
    have hl := trn_lt ht.1
    obtain ⟨R', g1, g2, g3⟩ := ih (a + 1) (R.set a (ch names (T s a))) (by omega) (by omega) (by rw [List.length_set]; exact h1) (fun b hb => by
      rw [ch_set _ _ _ _ (by omega)]
      by_cases e : a = b
      · rw [if_pos e, e]
      · rw [if_neg e]; exact h2 b (by omega))
    refine ⟨R', g1, g2, fun k => ?_⟩
    rw [show k + (d + 1) + 1 = k + d + 1 + 1 by omega]
    conv => lhs; rw [sais_array.l1]
    rw [if_pos (by omega), if_pos (by omega), if_pos (by omega), rd_nat, ht.2.1, if_pos (by omega), if_pos (by omega), if_pos (by omega), rd_nat, Int.toNat_natCast, wp (x := (a : Int) + 1) (y := ((a + 1 : Nat) : Int)) (by omega) (by omega) (by omega)]
    exact g3 k

theorem array_l2 (hn : s.length ≤ 16777216) {res : List Int} (hres : res.length = (tul s).length) (hin : ∀ q, q < (tul s).length → 0 ≤ ch res q ∧ ch res q < ((tul s).length : Int)) (d : Nat) : ∀ q (o : List Int), (tul s).length - q = d → q ≤ (tul s).length → o.length = (tul s).length → (∀ b, b < q → ch o b = ch (tul s) (ch res b).toNat) →
    ∃ o', o'.length = (tul s).length ∧ (∀ b, b < (tul s).length → ch o' b = ch (tul s) (ch res b).toNat) ∧ ∀ k,
      sais_array.l2 (k + d + 1) k0 s o (tul s) (tyl s) res ((tul s).length : Int) (q : Int) = (sais_induce.f k k0 s (tyl s) o').bind fun t => some t := by
  have hm : (tul s).length ≤ s.length := by rw [tul_length]; exact cn_le _
  induction d with
  | zero =>
    intro q o hd hq h1 h2
    obtain rfl : q = (tul s).length := by omega
    exact ⟨o, h1, h2, fun k => by rw [sais_array.l2, if_neg (by omega)]⟩
  | succ d ih =>
    intro q o hd hq h1 h2
    have hb := hin q (by omega)
    obtain ⟨g, hg⟩ : ∃ g : Nat, ch res q = g := ⟨(ch res q).toNat, by omega⟩
    obtain ⟨o', g1, g2, g3⟩ := ih (q + 1) (o.set q (ch (tul s) g)) (by omega) (by omega) (by rw [List.length_set]; exact h1) (fun b hb => by
      rw [ch_set _ _ _ _ (by omega)]
      by_cases e : q = b
      · rw [if_pos e, ← e, hg, Int.toNat_natCast]
      · rw [if_neg e]; exact h2 b (by omega))
    refine ⟨o', g1, g2, fun k => ?_⟩
    rw [show k + (d + 1) + 1 = k + d + 1 + 1 by omega]
    conv => lhs; rw [sais_array.l2]
    rw [if_pos (by omega), if_pos (by omega), if_pos (by omega), rd_nat, hg, if_pos (by omega), if_pos (by omega), if_pos (by omega), rd_nat, Int.toNat_natCast, wp (x := (q : Int) + 1) (y := ((q + 1 : Nat) : Int)) (by omega) (by omega) (by omega)]
    exact g3 k

/-- array: all suffixes in their order. -/
theorem array_f (N : Nat) : ∀ (k0 : Int) (s : List Int), s.length ≤ N → Ok k0 s → ∃ K l, (∀ k, K ≤ k → sais_array.f k k0 s = some l) ∧ IsSA s l := by
  induction N with
  | zero =>
    intro k0 s hN hok
    obtain ⟨K, row, h1, h2, h3⟩ := induce_f hok (tul_ord s) (by rw [tul_length]; have := cn_le (n := s.length) (trn s.length (ch s)); have := hok.2.2.1; omega)
    have hl : s.length = 0 := by omega
    have htl : (tul s).length = 0 := by rw [tul_length]; have := cn_le (n := s.length) (trn s.length (ch s)); omega
    have ho0 : tul s = [] := List.eq_nil_of_length_eq_zero htl
    refine ⟨K + s.length + 5, row, fun k hk => ?_, h2, fun i hi => by omega⟩
    obtain ⟨k, rfl⟩ : ∃ m, k = m + 1 := ⟨k - 1, by omega⟩
    have hL := lms_f s (by omega) (k - s.length - 1)
    have hT := types_f s (by omega) (k - s.length - 1)
    rw [show k - s.length - 1 + s.length + 1 = k by omega] at hL hT
    have hI := h1 k (by omega)
    have hI2 := h1 (k - 1) (by omega)
    rw [sais_array.f, hL, Option.bind_some, hT, Option.bind_some, hI, Option.bind_some, if_pos (by omega), if_pos (by omega)]
    obtain ⟨k, rfl⟩ : ∃ m, k = m + 1 := ⟨k - 1, by omega⟩
    rw [sais_array.l0, if_neg (by omega), if_neg (by omega)]
    rw [Nat.add_sub_cancel, ho0] at hI2
    rw [hI2]; rfl
  | succ N ih =>
    intro k0 s hN hok
    have hn := hok.2.2.1
    have hml : (tul s).length ≤ s.length := by rw [tul_length]; exact cn_le _
    obtain ⟨K, row, h1, h2, h3⟩ := induce_f hok (tul_ord s) (by omega)
    have hr := (tul_ord s).inj
    have hrep : (List.replicate s.length (0 : Int)).length = s.length := by simp
    have hN0 : Nam s (fun t => cn t (trn s.length (ch s))) 0 (-1) 0 [] (List.replicate s.length 0) := by
      refine ⟨?_, hrep, fun a ha => ?_, fun t _ h => by omega, fun a ha => ?_, fun a ha => ?_, fun ha => ?_, fun _ => ⟨rfl, rfl⟩, fun ha => ?_, fun a ha => ?_, ⟨Int.le_refl _, Int.le_refl _⟩⟩
      · exact (cn_false fun j _ => by simp).symm
      all_goals (simp at ha)
    obtain ⟨last, count, o, names, n1, n2⟩ := array_l0 (k0 := k0) hn hr h2 h3 s.length 0 (-1) 0 [] (List.replicate s.length 0) (by omega) (by omega) hN0
    have hom : o.length = (tul s).length := by
      rw [n1.olen, tul_length]
      refine cn_congr fun j hj => ?_
      rw [decide_eq_true (rk3_lt hj), Bool.and_true]
    have hNamed : Named s.length (ch s) (fun t => cn t (trn s.length (ch s))) o.length (O o) (fun t => ch names t) := ⟨fun a ha => (n1.turn a ha).1, n1.sorted, n1.step⟩
    have hNames := hNamed.names (fun t ht => n1.all t ht (rk3_lt (by have := trn_lt ht; omega)))
    have hcnt := n1.le
    by_cases hc : count < ((tul s).length : Int)
    · -- two have one name
      have hm0 : 0 < s.length := by omega
      have hmlt := tul_lt hm0
      obtain ⟨R, r1, r2, r3⟩ := array_l1 (k0 := k0) (count := count) (o := o) hn n1.nlen (tul s).length 0 (List.replicate (tul s).length 0) (by omega) (by omega) (by simp) (fun b hb => by omega)
      have hnmT : ∀ b, b < (tul s).length → ∃ a, a < o.length ∧ O o a = T s b := fun b hb => n1.all _ (T_spec hb).1 (rk3_lt (by have := trn_lt (T_spec hb).1; omega))
      have hokR : Ok count R := by
        refine ⟨hcnt.1, by omega, by omega, fun q hq => ?_⟩
        rw [r2 q (by omega)]
        obtain ⟨a, ha, hae⟩ := hnmT q (by omega)
        rw [← hae]; exact n1.bound a ha
      obtain ⟨K2, res, s1, s2, s3⟩ := ih count R (by omega) hokR
      have hred : ∀ a b, a < (tul s).length → b < (tul s).length → slt (tul s).length (ch R) a b = slt s.length (ch s) (T s a) (T s b) := by
        intro a b ha hb
        rw [slt_congr (c' := fun a => ch names (T s a)) r2]
        exact reduced (turns s) hNames ha hb
      rw [r1] at s2 s3
      have hin : ∀ q, q < (tul s).length → 0 ≤ ch res q ∧ ch res q < ((tul s).length : Int) := by
        intro q hq
        obtain ⟨a, ha, hae⟩ := rank_onto (c := ch R) hq
        rw [← hae, s3 a ha]; omega
      obtain ⟨o2, t1, t2, t3⟩ := array_l2 (k0 := k0) hn s2 hin (tul s).length 0 o (by omega) (by omega) hom (fun b hb => by omega)
      have hord : Ord s o2 (fun t => rank (tul s).length (ch R) (cn t (trn s.length (ch s)))) := by
        have key : ∀ a, a < (tul s).length → ch o2 (rank (tul s).length (ch R) a) = (T s a : Int) := by
          intro a ha
          rw [t2 _ (rank_lt ha), s3 a ha, Int.toNat_natCast, (T_spec ha).2.1]
        refine ⟨fun q hq => ?_, fun t ht => ?_⟩
        · rw [t1] at hq
          obtain ⟨a, ha, hae⟩ := rank_onto (c := ch R) hq
          have := T_spec ha
          exact ⟨T s a, this.1, by rw [← hae]; exact key a ha, by simp only [this.2.2]; exact hae⟩
        · have h4 := (tul_ord s).all t ht
          have h5 : T s (cn t (trn s.length (ch s))) = t := by unfold T; rw [h4.2]; rfl
          refine ⟨by rw [t1]; exact rank_lt h4.1, ?_⟩
          have := key _ h4.1
          rw [h5] at this; exact this
      have hown : Own s.length (ch s) (fun t => rank (tul s).length (ch R) (cn t (trn s.length (ch s)))) := by
        intro t u ht hu
        have h4 := (tul_ord s).all t ht
        have h5 : T s (cn t (trn s.length (ch s))) = t := by unfold T; rw [h4.2]; rfl
        have h6 := (tul_ord s).all u hu
        have h7 : T s (cn u (trn s.length (ch s))) = u := by unfold T; rw [h6.2]; rfl
        simp only
        rw [rank_iff h4.1 h6.1, hred _ _ h4.1 h6.1, h5, h7]
      obtain ⟨K3, row3, u1, u2, u3⟩ := induce_f hok hord (by omega)
      refine ⟨K + K2 + K3 + 20 * s.length + 30, row3, fun k hk => ?_, u2, fun i hi => by rw [← rk3_own hown]; exact u3 i hi⟩
      obtain ⟨k, rfl⟩ : ∃ m, k = m + 1 := ⟨k - 1, by omega⟩
      have hL := lms_f s (by omega) (k - s.length - 1)
      have hT := types_f s (by omega) (k - s.length - 1)
      rw [show k - s.length - 1 + s.length + 1 = k by omega] at hL hT
      rw [sais_array.f, hL, Option.bind_some, hT, Option.bind_some, h1 k (by omega), Option.bind_some, if_pos (by omega), if_pos (by omega), h2, Int.toNat_natCast]
      have g0 := n2 (k - s.length - 1) (by omega)
      rw [show k - s.length - 1 + s.length + 1 = k by omega, show ((0 : Nat) : Int) = 0 from rfl] at g0
      rw [g0, sais_array.l0, if_neg (by omega), if_pos hc, if_pos (by omega), if_pos (by omega), Int.toNat_natCast]
      have g1 := r3 (k - s.length - 1 - (tul s).length - 1)
      rw [show k - s.length - 1 - (tul s).length - 1 + (tul s).length + 1 = k - s.length - 1 by omega, show ((0 : Nat) : Int) = 0 from rfl] at g1
      rw [g1, s1 _ (by omega), Option.bind_some, s2]
      have g2 := t3 (k - s.length - 1 - (tul s).length - 1 - (tul s).length - 1)
      rw [show k - s.length - 1 - (tul s).length - 1 - (tul s).length - 1 + (tul s).length + 1 = k - s.length - 1 - (tul s).length - 1 by omega, show ((0 : Nat) : Int) = 0 from rfl] at g2
      rw [g2, u1 _ (by omega)]; rfl
    · -- all have names of their own
      have hcm : count = (tul s).length := by omega
      have up : ∀ a, a < o.length → ch names (O o a) ≤ (a : Int) := by
        intro a
        induction a with
        | zero => intro ha; rw [n1.first ha]; exact Int.le_refl _
        | succ a ih2 =>
          intro ha
          have := ih2 (by omega)
          have h4 := n1.step a ha
          split at h4 <;> omega
      have down : ∀ e, e < o.length → ch names (O o (o.length - 1 - e)) = ((o.length - 1 - e : Nat) : Int) := by
        intro e
        induction e with
        | zero => intro ha; have := (n1.some (by omega)).2; rw [Nat.sub_zero]; omega
        | succ e ih2 =>
          intro ha
          have h4 := ih2 (by omega)
          have h5 := n1.step (o.length - 1 - (e + 1)) (by omega)
          rw [show o.length - 1 - (e + 1) + 1 = o.length - 1 - e by omega] at h5
          have h6 := up (o.length - 1 - (e + 1)) (by omega)
          split at h5 <;> omega
      have hnm : ∀ a, a < o.length → ch names (O o a) = (a : Int) := by
        intro a ha
        have := down (o.length - 1 - a) (by omega)
        rw [show o.length - 1 - (o.length - 1 - a) = a by omega] at this; exact this
      have hord : Ord s o (fun t => (ch names t).toNat) := by
        refine ⟨fun a ha => ⟨O o a, (n1.turn a ha).1, (n1.turn a ha).2.1, by simp only [hnm a ha]; rfl⟩, fun t ht => ?_⟩
        obtain ⟨a, ha, hae⟩ := n1.all t ht (rk3_lt (by have := trn_lt ht; omega))
        have h4 := hnm a ha
        rw [hae] at h4
        rw [h4, Int.toNat_natCast]
        exact ⟨ha, by rw [← hae]; exact (n1.turn a ha).2.1⟩
      have hown : Own s.length (ch s) (fun t => (ch names t).toNat) := by
        intro t u ht hu
        obtain ⟨a, ha, hae⟩ := n1.all t ht (rk3_lt (by have := trn_lt ht; omega))
        obtain ⟨b, hb, hbe⟩ := n1.all u hu (rk3_lt (by have := trn_lt hu; omega))
        have h4 := hnm a ha
        have h5 := hnm b hb
        rw [hae] at h4; rw [hbe] at h5
        simp only
        rw [h4, h5, Int.toNat_natCast, Int.toNat_natCast]
        by_cases e : t = u
        · subst e
          rw [slt_irr]
          have : a = b := by omega
          exact ⟨fun h => by omega, fun h => by cases h⟩
        · have g := hNames t u ht hu e
          have g' := hNames u t hu ht (Ne.symm e)
          simp only [h4, h5] at g g'
          constructor
          · intro h; exact g.1 (by omega)
          · intro h
            rcases Nat.lt_trichotomy a b with z | z | z
            · exact z
            · have : t = u := by rw [← hae, ← hbe, z]
              exact absurd this e
            · have := g'.1 (by omega)
              rw [slt_asymm h] at this; cases this
      obtain ⟨K3, row3, u1, u2, u3⟩ := induce_f hok hord (by omega)
      refine ⟨K + K3 + 20 * s.length + 30, row3, fun k hk => ?_, u2, fun i hi => by rw [← rk3_own hown]; exact u3 i hi⟩
      obtain ⟨k, rfl⟩ : ∃ m, k = m + 1 := ⟨k - 1, by omega⟩
      have hL := lms_f s (by omega) (k - s.length - 1)
      have hT := types_f s (by omega) (k - s.length - 1)
      rw [show k - s.length - 1 + s.length + 1 = k by omega] at hL hT
      rw [sais_array.f, hL, Option.bind_some, hT, Option.bind_some, h1 k (by omega), Option.bind_some, if_pos (by omega), if_pos (by omega), h2, Int.toNat_natCast]
      have g0 := n2 (k - s.length - 1) (by omega)
      rw [show k - s.length - 1 + s.length + 1 = k by omega, show ((0 : Nat) : Int) = 0 from rfl] at g0
      rw [g0, sais_array.l0, if_neg (by omega), if_neg hc, u1 _ (by omega)]; rfl

/-- Array, of a list that may be. -/
theorem Array_ok (hok : Ok k0 s) : ∃ K l, (∀ k, K ≤ k → sais_Array.f k k0 s = some (l, 0)) ∧ IsSA s l := by
  obtain ⟨K, l, h1, h2⟩ := array_f s.length k0 s (Nat.le_refl _) hok
  refine ⟨K + s.length + 2, l, fun k hk => ?_, h2⟩
  unfold sais_Array.f
  have := check_ok hok (k - s.length - 2)
  rw [show k - s.length - 2 + s.length + 2 = k by omega] at this
  rw [this, Option.bind_some, if_pos rfl, h1 k (by omega)]; rfl
end
end Go.Proofs.Ytphchkkicpnehaa.SD
