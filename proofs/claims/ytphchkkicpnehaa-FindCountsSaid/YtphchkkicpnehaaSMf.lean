/- The printed function induce of package sais: whatever order of the turns is given, the row has all in the order that the passes make of it. -/
import Derived.Test.YtphchkkicpnehaaSMe
namespace Go.Proofs.Ytphchkkicpnehaa.SD
open Go.RowKit Go.Proofs.Ytphchkkicpnehaa Go.Proofs.Ytphchkkicpnehaa.X Go.Proofs.Ytphchkkicpnehaa.SM Go.Proofs.YtphchkkicpnehaaW.PrintWords Go.Proofs.YtphchkkicpnehaaW.PrintLast

theorem wp {x y : Int} (h : x = y) (h1 : -9223372036854775808 ≤ y) (h2 : y ≤ 9223372036854775807) : wrap64 x = y := by rw [h]; exact w64 h1 h2
theorem copy_eq (d t : List Int) (h : d.length = t.length) : copy_i64.f d t = some (((Nat.min t.length d.length : Nat) : Int), t) := by
  unfold copy_i64.f; rw [cpy_all d t h]

section
variable {k0 : Int} {s : List Int} {o : List Int} {r : Nat → Nat}
attribute [local irreducible] cn cv fr tov rk3 loc2 ch

theorem induce_l3 (hok : Ok k0 s) (A : Nat) (en at_ : List Int) (he : en.length = A) (ha : at_.length = A) (d : Nat) : ∀ p (row : List Int), s.length - p = d → p ≤ s.length → Row3 s r p row →
    ∃ row', Row3 s r s.length row' ∧ ∀ k, sais_induce.l3 (k + d + 1) s (tyl s) (s.length : Int) row en at_ (s.length : Int) (p : Int) = sais_induce.l4 k s (tyl s) ((s.length : Int) - 1) row' en := by
  have hn := hok.2.2.1
  induction d with
  | zero =>
    intro p row hd hp h1
    obtain rfl : p = s.length := by omega
    refine ⟨row, h1, fun k => ?_⟩
    rw [sais_induce.l3, if_neg (by omega), copy_eq at_ en (by omega), Option.bind_some, w64 (by omega) (by omega)]
  | succ d ih =>
    intro p row hd hp h1
    have go : ∀ row', Row3 s r (p + 1) row' → (∀ k, sais_induce.l3 (k + d + 1 + 1) s (tyl s) (s.length : Int) row en at_ (s.length : Int) (p : Int) = sais_induce.l3 (k + d + 1) s (tyl s) (s.length : Int) row' en at_ (s.length : Int) ((p + 1 : Nat) : Int)) →
        ∃ row'', Row3 s r s.length row'' ∧ ∀ k, sais_induce.l3 (k + (d + 1) + 1) s (tyl s) (s.length : Int) row en at_ (s.length : Int) (p : Int) = sais_induce.l4 k s (tyl s) ((s.length : Int) - 1) row'' en := by
      intro row' g1 g2
      obtain ⟨row'', g3, g4⟩ := ih (p + 1) row' (by omega) (by omega) g1
      exact ⟨row'', g3, fun k => by rw [show k + (d + 1) + 1 = k + d + 1 + 1 by omega, g2 k, g4 k]⟩
    have hpn : p < s.length := by omega
    by_cases a : ch row p = -1
    · refine go row ⟨h1.len, h1.put, fun q hq hne => ?_⟩ fun k => ?_
      · obtain ⟨i, g1, g2, g3, g4, g5⟩ := h1.only q hq hne
        exact ⟨i, g1, g2, g3, g4, fun h => g5 (by rcases Nat.lt_or_ge q p with h2 | h2; exact h2; exact absurd a (by rw [show p = q by omega]; exact hne))⟩
      · rw [sais_induce.l3, if_pos (by omega), if_pos (by omega), if_pos (by rw [h1.len]; omega), rd_nat, if_pos a, wp (y := ((p + 1 : Nat) : Int)) (by omega) (by omega) (by omega)]
    · obtain ⟨i, g1, g2, g3, g4, g5⟩ := h1.only p hpn a
      by_cases b : sm s.length (ch s) i = true
      · refine go (row.set p (-1)) ⟨by rw [List.length_set]; exact h1.len, fun j hj hs => ?_, fun q hq hne => ?_⟩ fun k => ?_
        · rw [ch_set _ _ _ _ (by rw [h1.len]; exact hpn)]
          have h2 := h1.put j hj hs
          by_cases e : p = rk3 s.length (ch s) r j
          · rw [← e] at h2
            have : i = j := by omega
            subst this; rw [b] at hs; cases hs
          · rw [if_neg e]; exact h2
        · rw [ch_set _ _ _ _ (by rw [h1.len]; exact hpn)] at hne ⊢
          by_cases e : p = q
          · rw [if_pos e] at hne; exact absurd rfl hne
          · rw [if_neg e] at hne ⊢
            obtain ⟨j, f1, f2, f3, f4, f5⟩ := h1.only q hq hne
            exact ⟨j, f1, f2, f3, f4, fun h => f5 (by omega)⟩
        · rw [sais_induce.l3, if_pos (by omega), if_pos (by omega), if_pos (by rw [h1.len]; omega), rd_nat, if_neg a, g4, if_pos (by omega), if_pos (by rw [tyl_length]; omega), rdB_nat, tyl_get g1, if_pos b, Int.toNat_natCast, wp (y := ((p + 1 : Nat) : Int)) (by omega) (by omega) (by omega)]
      · have b' : sm s.length (ch s) i = false := by simpa using b
        refine go row ⟨h1.len, h1.put, fun q hq hne => ?_⟩ fun k => ?_
        · by_cases e : q = p
          · subst e; exact ⟨i, g1, g2, g3, g4, fun _ => b'⟩
          · obtain ⟨j, f1, f2, f3, f4, f5⟩ := h1.only q hq hne
            exact ⟨j, f1, f2, f3, f4, fun h => f5 (by omega)⟩
        · rw [sais_induce.l3, if_pos (by omega), if_pos (by omega), if_pos (by rw [h1.len]; omega), rd_nat, if_neg a, g4, if_pos (by omega), if_pos (by rw [tyl_length]; omega), rdB_nat, tyl_get g1, if_neg b, wp (y := ((p + 1 : Nat) : Int)) (by omega) (by omega) (by omega)]

theorem row3_of_2 {row : List Int} (h : Row2 s r s.length row) : Row3 s r 0 row := by
  refine ⟨h.len, fun i hi hs => ?_, fun q hq hne => ?_⟩
  · have h1 := h.put i hi (InA.big hi hs) (fun _ => by
      unfold pl2
      rcases Nat.lt_or_ge (i + 1) s.length with h2 | h2
      · rw [decide_eq_true (loc2_lt h2 (InA.next hi hs)), Bool.or_true]
      · rw [decide_eq_true (by omega), Bool.true_or])
    rw [loc2_big hs] at h1; exact h1
  · obtain ⟨i, g1, g2, _, g4, g5⟩ := h.only q hq hne
    exact ⟨i, g1, g2, g4, g5, fun h => by omega⟩
theorem row4_of_3 {row : List Int} (h : Row3 s r s.length row) : Row4 s r s.length row := by
  refine ⟨h.len, fun i hi hs => ?_, fun q hq hne => ?_⟩
  · refine h.put i hi ?_
    cases h1 : sm s.length (ch s) i with
    | false => rfl
    | true => have := hs h1; have := rk3_lt (c := ch s) (r := r) (sm_lt h1); omega
  · obtain ⟨i, g1, _, g4, g5, g6⟩ := h.only q hq hne
    have hs := g6 hq
    exact ⟨i, g1, (fun h1 => by rw [hs] at h1; cases h1), by rw [← loc2_big hs]; exact g4, g5⟩
theorem at4_of_ends {A : Nat} {en : List Int} (he : en.length = A) (h : ∀ u : Nat, u < A → ch en u = (tov s.length (ch s) u : Int)) : At4 s r A s.length en := by
  refine ⟨he, fun v hv => ?_⟩
  rw [h v hv, cn_false (fun j hj => ?_), Nat.sub_zero]
  cases h1 : sm s.length (ch s) j with
  | false => simp
  | true =>
    have := rk3_lt (c := ch s) (r := r) (sm_lt h1)
    rw [decide_eq_false (by omega : ¬ s.length ≤ rk3 s.length (ch s) r (j + 1)), Bool.and_false]

theorem induce_l2 (hok : Ok k0 s) (A : Nat) (hA : k0 = A) (hr : Inj s.length (ch s) r) (en : List Int) (d : Nat) : ∀ p (row at_ : List Int), s.length - p = d → p ≤ s.length → Row2 s r p row → At2 s r A p at_ →
    ∃ row' at', Row2 s r s.length row' ∧ at'.length = A ∧ ∀ k, sais_induce.l2 (k + d + 1) s (tyl s) (s.length : Int) row en at_ (s.length : Int) (p : Int) = sais_induce.l3 k s (tyl s) (s.length : Int) row' en at' (s.length : Int) 0 := by
  have hn := hok.2.2.1
  induction d with
  | zero =>
    intro p row at_ hd hp h1 h2
    obtain rfl : p = s.length := by omega
    refine ⟨row, at_, h1, h2.1, fun k => ?_⟩
    rw [sais_induce.l2, if_neg (by omega), h1.len]
  | succ d ih =>
    intro p row at_ hd hp h1 h2
    have hpn : p < s.length := by omega
    have go : ∀ (row' at' : List Int), Row2 s r (p + 1) row' → At2 s r A (p + 1) at' → (∀ k, sais_induce.l2 (k + d + 1 + 1) s (tyl s) (s.length : Int) row en at_ (s.length : Int) (p : Int) = sais_induce.l2 (k + d + 1) s (tyl s) (s.length : Int) row' en at' (s.length : Int) ((p + 1 : Nat) : Int)) →
        ∃ row'' at'', Row2 s r s.length row'' ∧ at''.length = A ∧ ∀ k, sais_induce.l2 (k + (d + 1) + 1) s (tyl s) (s.length : Int) row en at_ (s.length : Int) (p : Int) = sais_induce.l3 k s (tyl s) (s.length : Int) row'' en at'' (s.length : Int) 0 := by
      intro row' at' g1 g2 g3
      obtain ⟨row'', at'', g4, g5, g6⟩ := ih (p + 1) row' at' (by omega) (by omega) g1 g2
      exact ⟨row'', at'', g4, g5, fun k => by rw [show k + (d + 1) + 1 = k + d + 1 + 1 by omega, g3 k, g6 k]⟩
    -- nothing new is put in where no big one stands behind
    have same : (∀ j, j + 1 < s.length → sm s.length (ch s) j = false → loc2 s.length (ch s) r (j + 1) ≠ p) → Row2 s r (p + 1) row ∧ At2 s r A (p + 1) at_ := by
      intro hno
      have hiff : ∀ j, j < s.length → sm s.length (ch s) j = false → pl2 s r (p + 1) j = pl2 s r p j := by
        intro j hj hs
        unfold pl2
        by_cases e : j + 1 = s.length
        · rw [decide_eq_true e, Bool.true_or, Bool.true_or]
        · have := hno j (by omega) hs
          rw [decide_eq_false e, Bool.false_or, Bool.false_or, Bool.eq_iff_iff, decide_eq_true_eq, decide_eq_true_eq]; omega
      refine ⟨⟨h1.len, fun i hi hA2 h3 => h1.put i hi hA2 (fun hs => by rw [← hiff i hi hs]; exact h3 hs), fun q hq hne => ?_⟩, h2.1, fun v hv => ?_⟩
      · obtain ⟨i, hi, hA2, h3, h4, h5⟩ := h1.only q hq hne
        exact ⟨i, hi, hA2, fun hs => by rw [hiff i hi hs]; exact h3 hs, h4, h5⟩
      · rw [h2.2 v hv]
        congr 2
        refine cn_congr fun j hj => ?_
        cases hs : sm s.length (ch s) j with
        | true => simp
        | false => rw [hiff j hj hs]
    -- what stands at p
    have at_p : ∀ j, j + 1 < s.length → sm s.length (ch s) j = false → loc2 s.length (ch s) r (j + 1) = p → ch row p = ((j + 1 : Nat) : Int) := by
      intro j hj hs he
      have := h1.put (j + 1) hj (InA.next (by omega) hs) (fun hs2 => by
        unfold pl2
        rcases Nat.lt_or_ge (j + 2) s.length with h3 | h3
        · have := loc2_mono (r := r) h3 (InA.next hj hs2) (InA.next (by omega) hs) (lt2_step hj hs2)
          rw [he] at this
          rw [decide_eq_true this, Bool.or_true]
        · rw [decide_eq_true (by omega : j + 1 + 1 = s.length), Bool.true_or])
      rw [he] at this; exact this
    by_cases a : ch row p ≤ 0
    · obtain ⟨s1, s2⟩ := same (fun j hj hs he => by have := at_p j hj hs he; omega)
      refine go row at_ s1 s2 fun k => ?_
      rw [sais_induce.l2, if_pos (by omega), if_pos (by omega), if_pos (by rw [h1.len]; omega), rd_nat, if_pos a, wp (y := ((p + 1 : Nat) : Int)) (by omega) (by omega) (by omega)]
    · obtain ⟨i, hi, hA2, h3, h4, h5⟩ := h1.only p hpn (by omega)
      obtain ⟨g, rfl⟩ : ∃ g, i = g + 1 := ⟨i - 1, by omega⟩
      have hw2 : ch row p - 1 = (g : Int) := by omega
      have hg : g < s.length := by omega
      by_cases b : sm s.length (ch s) g = true
      · obtain ⟨s1, s2⟩ := same (fun j hj hs he => by
          have := at_p j hj hs he
          have : j = g := by omega
          subst this; rw [b] at hs; cases hs)
        refine go row at_ s1 s2 fun k => ?_
        rw [sais_induce.l2, if_pos (by omega), if_pos (by omega), if_pos (by rw [h1.len]; omega), rd_nat, if_neg a, wp hw2 (by omega) (by omega), if_pos (by omega), if_pos (by rw [tyl_length]; omega), rdB_nat, tyl_get hg, if_pos b, wp (y := ((p + 1 : Nat) : Int)) (by omega) (by omega) (by omega)]
      · have b' : sm s.length (ch s) g = false := by simpa using b
        obtain ⟨v, hv⟩ : ∃ v : Nat, ch s g = v := ⟨(ch s g).toNat, by have := (hok.2.2.2 g hg).1; omega⟩
        have hvA : v < A := by have := (hok.2.2.2 g hg).2; omega
        have e1 := h2.2 v hvA
        have e2 := rk3_big (r := r) hg b'
        rw [hv] at e2
        have e3 : cn s.length (fun j => (decide (ch s j = (v : Int)) && !sm s.length (ch s) j) && pl2 s r p j) = cn s.length (fun j => (decide (ch s j = (v : Int)) && !sm s.length (ch s) j) && lt2 s.length (ch s) r j g) := by
          refine cn_congr fun j hj => ?_
          by_cases f : ch s j = (v : Int) ∧ sm s.length (ch s) j = false
          · rw [f.1, f.2, lt2_bb hj hg (by omega) f.2 b']
            simp only [decide_true, Bool.true_and, Bool.not_false]
            unfold pl2
            rcases Nat.lt_or_ge (j + 1) s.length with h6 | h6
            · rw [decide_eq_false (by omega : ¬ j + 1 = s.length), Bool.false_or, Bool.eq_iff_iff, decide_eq_true_eq, ← h4, loc2_iff hr h6 hi (InA.next hj f.2) hA2]
            · rw [decide_eq_true (by omega : j + 1 = s.length), Bool.true_or, lt2_end h6, decide_eq_true hi]
          · by_cases f1 : ch s j = (v : Int)
            · have f2 : sm s.length (ch s) j = true := by
                cases f3 : sm s.length (ch s) j with
                | true => rfl
                | false => exact absurd ⟨f1, f3⟩ f
              rw [f2]; simp
            · simp [f1]
        rw [e3] at e1
        have e4 := rk3_lt (n := s.length) (c := ch s) (r := r) hg
        have e6 : ch at_ v = (rk3 s.length (ch s) r g : Int) := by omega
        have hlen : (at_.set v ((rk3 s.length (ch s) r g : Int) + 1)).length = A := by rw [List.length_set]; exact h2.1
        have hpg : pl2 s r p g = false := by
          unfold pl2
          rw [decide_eq_false (by omega : ¬ g + 1 = s.length), Bool.false_or, decide_eq_false (by omega)]
        have hiff : ∀ j, j < s.length → sm s.length (ch s) j = false → (pl2 s r (p + 1) j = true ↔ (pl2 s r p j = true ∨ j = g)) := by
          intro j hj hs
          unfold pl2
          simp only [Bool.or_eq_true, decide_eq_true_eq]
          by_cases hj1 : j + 1 = s.length
          · exact ⟨fun _ => .inl (.inl hj1), fun _ => .inl hj1⟩
          · constructor
            · rintro (h | h)
              · exact .inl (.inl h)
              · by_cases e : loc2 s.length (ch s) r (j + 1) = p
                · right
                  have := loc2_inj hr (by omega) hi (InA.next hj hs) hA2 (e.trans h4.symm); omega
                · left; right; omega
            · rintro ((h | h) | rfl)
              · exact .inl h
              · exact .inr (by omega)
              · exact .inr (by omega)
        have hloc : ∀ j, j < s.length → InA s.length (ch s) j → rk3 s.length (ch s) r g = loc2 s.length (ch s) r j → g = j := by
          intro j hj hAj he
          rw [← loc2_big b'] at he
          exact loc2_inj hr hg hj (InA.big hg b') hAj he
        refine go (row.set (rk3 s.length (ch s) r g) (g : Int)) (at_.set v ((rk3 s.length (ch s) r g : Int) + 1)) ⟨by rw [List.length_set]; exact h1.len, fun j hj hAj h6 => ?_, fun q hq hne => ?_⟩ ⟨hlen, fun u hu => ?_⟩ fun k => ?_
        · rw [ch_set _ _ _ _ (by rw [h1.len]; exact e4)]
          by_cases e : rk3 s.length (ch s) r g = loc2 s.length (ch s) r j
          · rw [if_pos e, hloc j hj hAj e]
          · rw [if_neg e]
            refine h1.put j hj hAj (fun hs => ?_)
            rcases (hiff j hj hs).1 (h6 hs) with h7 | h7
            · exact h7
            · subst h7; rw [loc2_big b'] at e; exact absurd rfl e
        · rw [ch_set _ _ _ _ (by rw [h1.len]; exact e4)] at hne ⊢
          by_cases e : rk3 s.length (ch s) r g = q
          · rw [if_pos e]; exact ⟨g, hg, InA.big hg b', fun _ => (hiff g hg b').2 (.inr rfl), by rw [loc2_big b']; exact e, rfl⟩
          · rw [if_neg e] at hne ⊢
            obtain ⟨j, hj, hAj, h6, h7, h8⟩ := h1.only q hq hne
            exact ⟨j, hj, hAj, fun hs => (hiff j hj hs).2 (.inl (h6 hs)), h7, h8⟩
        · rw [ch_set _ _ _ _ (by rw [h2.1]; exact hvA)]
          by_cases e : v = u
          · subst e
            rw [if_pos rfl]
            have e5 : cn s.length (fun j => (decide (ch s j = (v : Int)) && !sm s.length (ch s) j) && pl2 s r (p + 1) j) = cn s.length (fun j => (decide (ch s j = (v : Int)) && !sm s.length (ch s) j) && pl2 s r p j) + 1 := by
              refine cn_succ hg (by rw [hpg, Bool.and_false]) (fun j hj => ?_)
              rw [Bool.eq_iff_iff]
              simp only [Bool.or_eq_true, Bool.and_eq_true, decide_eq_true_eq, beq_iff_eq, Bool.not_eq_true']
              constructor
              · rintro ⟨⟨f1, f2⟩, f3⟩
                rcases (hiff j hj f2).1 f3 with f4 | f4
                · exact .inl ⟨⟨f1, f2⟩, f4⟩
                · exact .inr f4
              · rintro (⟨⟨f1, f2⟩, f3⟩ | rfl)
                · exact ⟨⟨f1, f2⟩, (hiff j hj f2).2 (.inl f3)⟩
                · exact ⟨⟨hv, b'⟩, (hiff j hj b').2 (.inr rfl)⟩
            rw [e5, e3]
            omega
          · rw [if_neg e, h2.2 u hu]
            congr 2
            refine cn_congr fun j hj => ?_
            by_cases f : ch s j = (u : Int) ∧ sm s.length (ch s) j = false
            · have hne : j ≠ g := by rintro rfl; exact e (by omega)
              rw [f.1, f.2]
              simp only [decide_true, Bool.true_and, Bool.not_false]
              rw [Bool.eq_iff_iff, hiff j hj f.2]
              exact ⟨fun h => .inl h, fun h => h.resolve_right hne⟩
            · by_cases f1 : ch s j = (u : Int)
              · have f2 : sm s.length (ch s) j = true := by
                  cases f3 : sm s.length (ch s) j with
                  | true => rfl
                  | false => exact absurd ⟨f1, f3⟩ f
                rw [f2]; simp
              · simp [f1]
        · rw [sais_induce.l2, if_pos (by omega), if_pos (by omega), if_pos (by rw [h1.len]; omega), rd_nat, if_neg a, wp hw2 (by omega) (by omega), if_pos (by omega), if_pos (by rw [tyl_length]; omega), rdB_nat, tyl_get hg, if_neg b, if_pos (by omega), rd_nat, hv, if_pos (by omega), if_pos (by rw [h2.1]; omega), rd_nat, e6, if_pos (by omega), if_pos (by rw [h1.len]; omega), Int.toNat_natCast, Int.toNat_natCast, w64 (x := (rk3 s.length (ch s) r g : Int) + 1) (by omega) (by omega), wp (y := ((p + 1 : Nat) : Int)) (by omega) (by omega) (by omega)]

/-- Behind the first pass the last one is put in at its head. -/
theorem start2 (hok : Ok k0 s) (A : Nat) (hA : k0 = A) (hr : Inj s.length (ch s) r) (hn0 : 0 < s.length) {row hd : List Int} (h1 : Row1 s r 0 row) (hh : hd.length = A) (hv : ∀ u : Nat, u < A → ch hd u = (fr s.length (ch s) u : Int)) (v : Nat) (hvc : ch s (s.length - 1) = v) :
    Row2 s r 0 (row.set (fr s.length (ch s) v) ((s.length - 1 : Nat) : Int)) ∧ At2 s r A 0 (hd.set v ((fr s.length (ch s) v : Int) + 1)) ∧ fr s.length (ch s) v < s.length ∧ v < A := by
  have hb : sm s.length (ch s) (s.length - 1) = false := sm_out (by omega)
  have hl : s.length - 1 < s.length := by omega
  have hvA : v < A := by have := (hok.2.2.2 _ hl).2; omega
  have e0 : rk3 s.length (ch s) r (s.length - 1) = fr s.length (ch s) v := by
    rw [rk3_big hl hb, hvc, cn_false (fun j hj => ?_), Nat.add_zero]
    by_cases f : ch s j = (v : Int) ∧ sm s.length (ch s) j = false
    · rw [lt2_bb hj hl (by omega) f.2 hb, lt2_to_end (by omega), Bool.and_false]
    · by_cases f1 : ch s j = (v : Int)
      · have f2 : sm s.length (ch s) j = true := by
          cases f3 : sm s.length (ch s) j with
          | true => rfl
          | false => exact absurd ⟨f1, f3⟩ f
        rw [f2]; simp
      · simp [f1]
  have e1 : fr s.length (ch s) v < s.length := by rw [← e0]; exact rk3_lt hl
  have hp : ∀ j, pl2 s r 0 j = true ↔ j + 1 = s.length := by intro j; unfold pl2; simp
  have hloc : ∀ j, j < s.length → InA s.length (ch s) j → fr s.length (ch s) v = loc2 s.length (ch s) r j → s.length - 1 = j := by
    intro j hj hAj he
    rw [← e0, ← loc2_big hb] at he
    exact loc2_inj hr hl hj (InA.big hl hb) hAj he
  refine ⟨⟨by rw [List.length_set]; exact h1.len, fun j hj hAj h6 => ?_, fun q hq hne => ?_⟩, ⟨by rw [List.length_set]; exact hh, fun u hu => ?_⟩, e1, hvA⟩
  · rw [ch_set _ _ _ _ (by rw [h1.len]; exact e1)]
    by_cases e : fr s.length (ch s) v = loc2 s.length (ch s) r j
    · rw [if_pos e, hloc j hj hAj e]
    · rw [if_neg e]
      cases hs : sm s.length (ch s) j with
      | true => exact h1.put j (hAj.2 hj hs) (Nat.zero_le _)
      | false =>
        have := (hp j).1 (h6 hs)
        have : j = s.length - 1 := by omega
        subst this
        rw [loc2_big hb, e0] at e; exact absurd rfl e
  · rw [ch_set _ _ _ _ (by rw [h1.len]; exact e1)] at hne ⊢
    by_cases e : fr s.length (ch s) v = q
    · rw [if_pos e]; exact ⟨s.length - 1, hl, InA.big hl hb, fun _ => (hp _).2 (by omega), by rw [loc2_big hb, e0]; exact e, rfl⟩
    · rw [if_neg e] at hne ⊢
      obtain ⟨t, ht, _, h7, h8⟩ := h1.only q hq hne
      exact ⟨t, by have := trn_lt ht; omega, InA.turn ht, (fun hs => by rw [(trn_iff.1 ht).2.1] at hs; cases hs), h7, h8⟩
  · rw [ch_set _ _ _ _ (by rw [hh]; exact hvA)]
    by_cases e : v = u
    · subst e
      rw [if_pos rfl]
      have : cn s.length (fun j => (decide (ch s j = (v : Int)) && !sm s.length (ch s) j) && pl2 s r 0 j) = 1 := by
        rw [← cn_one hl]
        refine cn_congr fun j hj => ?_
        rw [Bool.eq_iff_iff]
        simp only [Bool.and_eq_true, decide_eq_true_eq, beq_iff_eq, Bool.not_eq_true', hp]
        constructor
        · rintro ⟨_, h⟩; omega
        · intro h; subst h; exact ⟨⟨hvc, hb⟩, by omega⟩
      rw [this]; omega
    · rw [if_neg e, hv u hu]
      have : cn s.length (fun j => (decide (ch s j = (u : Int)) && !sm s.length (ch s) j) && pl2 s r 0 j) = 0 := by
        refine cn_false fun j hj => ?_
        cases h : (decide (ch s j = (u : Int)) && !sm s.length (ch s) j) && pl2 s r 0 j with
        | false => rfl
        | true =>
          simp only [Bool.and_eq_true, decide_eq_true_eq, Bool.not_eq_true', hp] at h
          have : j = s.length - 1 := by omega
          subst this; exact absurd (by omega : v = u) e
      rw [this]; omega

theorem induce_l1 (hok : Ok k0 s) (A : Nat) (hA : k0 = A) (ho : Ord s o r) (hm : o.length ≤ 16777216) (hn0 : 0 < s.length) (hd en : List Int) (hh : hd.length = A) (hv : ∀ u : Nat, u < A → ch hd u = (fr s.length (ch s) u : Int)) (x : Nat) : ∀ (row at_ : List Int), x ≤ o.length → Row1 s r x row → At1 s r A x at_ →
    ∃ row' at', Row2 s r 0 row' ∧ At2 s r A 0 at' ∧ ∀ k, sais_induce.l1 (k + x + 1) s (tyl s) o (s.length : Int) ((x : Int) - 1) row hd en at_ = sais_induce.l2 k s (tyl s) (s.length : Int) row' en at' (s.length : Int) 0 := by
  have hn := hok.2.2.1
  have hr := ho.inj
  induction x with
  | zero =>
    intro row at_ hx h1 h2
    have hl : s.length - 1 < s.length := by omega
    obtain ⟨v, hvc⟩ : ∃ v : Nat, ch s (s.length - 1) = v := ⟨(ch s (s.length - 1)).toNat, by have := (hok.2.2.2 _ hl).1; omega⟩
    obtain ⟨g1, g2, g3, g4⟩ := start2 hok A hA hr hn0 h1 hh hv v hvc
    refine ⟨_, _, g1, g2, fun k => ?_⟩
    have e1 := hv v g4
    have e2 : (s.length : Int) - 1 = ((s.length - 1 : Nat) : Int) := by omega
    rw [sais_induce.l1, if_neg (by omega), copy_eq at_ hd (by rw [h2.1, hh]), Option.bind_some, wp e2 (by omega) (by omega), if_pos (by omega), if_pos (by omega), rd_nat, hvc, if_pos (by omega), if_pos (by rw [h2.1]; omega), rd_nat, e1, if_pos (by omega), if_pos (by rw [h1.len]; omega), Int.toNat_natCast, Int.toNat_natCast, w64 (x := (fr s.length (ch s) v : Int) + 1) (by omega) (by omega)]
  | succ p ih =>
    intro row at_ hx h1 h2
    obtain ⟨t, ht, ht2, ht3⟩ := ho.turn p (by omega)
    have htn := trn_lt ht
    have hts := (trn_iff.1 ht).2.1
    obtain ⟨v, hvc⟩ : ∃ v : Nat, ch s t = v := ⟨(ch s t).toNat, by have := (hok.2.2.2 t (by omega)).1; omega⟩
    have hvA : v < A := by have := (hok.2.2.2 t (by omega)).2; omega
    have e1 := h2.2 v hvA
    have e2 := loc2_turn (r := r) ht
    have e3 : tl s.length (ch s) r t = cn s.length (fun u => trn s.length (ch s) u && (decide (ch s u = (v : Int)) && decide (p + 1 ≤ r u))) + 1 := by
      unfold tl
      refine cn_succ (i := t) (by omega) (by simp [ht3]) (fun u hu => ?_)
      rw [Bool.eq_iff_iff]
      simp only [Bool.or_eq_true, Bool.and_eq_true, decide_eq_true_eq, beq_iff_eq]
      constructor
      · rintro ⟨f1, f2, f3⟩
        by_cases e : u = t
        · exact .inr e
        · left
          have : r u ≠ r t := fun h => e (hr u t f1 ht h)
          exact ⟨f1, by omega, by omega⟩
      · rintro (⟨f1, f2, f3⟩ | rfl)
        · exact ⟨f1, by omega, by omega⟩
        · exact ⟨ht, rfl, Nat.le_refl _⟩
    have e4 := loc2_lt (r := r) (show t < s.length by omega) (InA.turn ht)
    have e5 := tl_le (n := s.length) (c := ch s) (r := r) t
    have e6 := to_parts (n := s.length) (c := ch s) (ch s t)
    rw [hvc] at e2 e5 e6
    have e7 : ch at_ v - 1 = (loc2 s.length (ch s) r t : Int) := by omega
    have hiff : ∀ u, trn s.length (ch s) u = true → (p ≤ r u ↔ (p + 1 ≤ r u ∨ u = t)) := by
      intro u hu
      constructor
      · intro h
        by_cases e : u = t
        · exact .inr e
        · have : r u ≠ r t := fun h => e (hr u t hu ht h)
          left; omega
      · rintro (h | rfl)
        · omega
        · omega
    have hloc : ∀ u, trn s.length (ch s) u = true → loc2 s.length (ch s) r t = loc2 s.length (ch s) r u → t = u := by
      intro u hu he
      exact loc2_inj hr (by omega) (by have := trn_lt hu; omega) (InA.turn ht) (InA.turn hu) he
    obtain ⟨row'', at'', g1, g2, g3⟩ := ih (row.set (loc2 s.length (ch s) r t) (t : Int)) (at_.set v (loc2 s.length (ch s) r t : Int)) (by omega)
      ⟨by rw [List.length_set]; exact h1.len, fun u hu h6 => by
        rw [ch_set _ _ _ _ (by rw [h1.len]; exact e4)]
        by_cases e : loc2 s.length (ch s) r t = loc2 s.length (ch s) r u
        · rw [if_pos e, hloc u hu e]
        · rw [if_neg e]
          rcases (hiff u hu).1 h6 with h7 | h7
          · exact h1.put u hu h7
          · subst h7; exact absurd rfl e, fun q hq hne => by
        rw [ch_set _ _ _ _ (by rw [h1.len]; exact e4)] at hne ⊢
        by_cases e : loc2 s.length (ch s) r t = q
        · rw [if_pos e]; exact ⟨t, ht, by omega, e, rfl⟩
        · rw [if_neg e] at hne ⊢
          obtain ⟨u, hu, h6, h7, h8⟩ := h1.only q hq hne
          exact ⟨u, hu, by omega, h7, h8⟩⟩
      ⟨by rw [List.length_set]; exact h2.1, fun u hu => by
        rw [ch_set _ _ _ _ (by rw [h2.1]; exact hvA)]
        by_cases e : v = u
        · subst e
          rw [if_pos rfl]
          have e8 : cn s.length (fun u => trn s.length (ch s) u && (decide (ch s u = (v : Int)) && decide (p ≤ r u))) = tl s.length (ch s) r t := by
            unfold tl; rw [hvc, ht3]
          rw [e8]; omega
        · rw [if_neg e, h2.2 u hu]
          congr 2
          refine cn_congr fun j hj => ?_
          rw [Bool.eq_iff_iff]
          simp only [Bool.and_eq_true, decide_eq_true_eq]
          constructor
          · rintro ⟨f1, f2, f3⟩; exact ⟨f1, f2, by omega⟩
          · rintro ⟨f1, f2, f3⟩
            refine ⟨f1, f2, ?_⟩
            rcases (hiff j f1).1 f3 with h7 | h7
            · exact h7
            · subst h7; exact absurd (by omega : v = u) e⟩
    refine ⟨row'', at'', g1, g2, fun k => ?_⟩
    rw [show ((p + 1 : Nat) : Int) - 1 = (p : Int) by omega, show k + (p + 1) + 1 = k + p + 1 + 1 by omega]
    rw [sais_induce.l1, if_pos (by omega), if_pos (by omega), if_pos (by omega), rd_nat, ht2, if_pos (by omega), if_pos (by omega), rd_nat, hvc, if_pos (by omega), if_pos (by rw [h2.1]; omega), rd_nat, wp e7 (by omega) (by omega), Option.bind_some, Int.toNat_natCast, rd_nat, ch_set _ _ _ _ (by rw [h2.1]; exact hvA), if_pos rfl, if_pos (by omega), if_pos (by rw [h1.len]; omega), Int.toNat_natCast, w64 (x := (p : Int) - 1) (by omega) (by omega)]
    exact g3 k

theorem induce_l0 (hok : Ok k0 s) (t : List Bool) (d : Nat) : ∀ q (row : List Int), s.length - q = d → q ≤ s.length → row.length = s.length → (∀ j, j < q → ch row j = -1) →
    ∃ row', row'.length = s.length ∧ (∀ j, j < s.length → ch row' j = -1) ∧ ∀ k, sais_induce.l0 (k + d + 1) k0 s t o (s.length : Int) row (s.length : Int) (q : Int) = sais_induce.l0 (k + 1) k0 s t o (s.length : Int) row' (s.length : Int) (s.length : Int) := by
  have hn := hok.2.2.1
  induction d with
  | zero =>
    intro q row hd hq h1 h2
    obtain rfl : q = s.length := by omega
    exact ⟨row, h1, h2, fun k => rfl⟩
  | succ d ih =>
    intro q row hd hq h1 h2
    obtain ⟨row', g1, g2, g3⟩ := ih (q + 1) (row.set q (-1)) (by omega) (by omega) (by rw [List.length_set]; exact h1) (fun j hj => by
      rw [ch_set _ _ _ _ (by omega)]
      by_cases e : q = j
      · rw [if_pos e]
      · rw [if_neg e]; exact h2 j (by omega))
    refine ⟨row', g1, g2, fun k => ?_⟩
    rw [show k + (d + 1) + 1 = k + d + 1 + 1 by omega]
    conv => lhs; rw [sais_induce.l0]
    rw [if_pos (by omega), if_pos (by omega), if_pos (by omega), Int.toNat_natCast, wp (y := ((q + 1 : Nat) : Int)) (by omega) (by omega) (by omega)]
    exact g3 k

/-- induce, of any order of the turns. -/
theorem induce_f (hok : Ok k0 s) (ho : Ord s o r) (hm : o.length ≤ 16777216) : ∃ K row, (∀ k, K ≤ k → sais_induce.f k k0 s (tyl s) o = some row) ∧ row.length = s.length ∧ ∀ i, i < s.length → ch row (rk3 s.length (ch s) r i) = (i : Int) := by
  have hn := hok.2.2.1
  have hk2 := hok.2.1
  obtain ⟨A, hA⟩ : ∃ A : Nat, k0 = A := ⟨k0.toNat, by have := hok.1; omega⟩
  have hr := ho.inj
  have hrep : (List.replicate s.length (0 : Int)).length = s.length := by simp
  obtain ⟨row0, a1, a2, a3⟩ := induce_l0 (o := o) hok (tyl s) s.length 0 (List.replicate s.length 0) (by omega) (by omega) hrep (fun j hj => by omega)
  rcases Nat.eq_zero_or_pos s.length with h0 | h0
  · refine ⟨s.length + 2, row0, fun k hk => ?_, a1, fun i hi => by omega⟩
    obtain ⟨k, rfl⟩ : ∃ m, k = m + s.length + 1 := ⟨k - s.length - 1, by omega⟩
    unfold sais_induce.f
    rw [if_pos (by omega), if_pos (by omega), Option.bind_some, Int.toNat_natCast, hrep]
    have := a3 k
    rw [show ((0 : Nat) : Int) = 0 from rfl] at this
    rw [this, sais_induce.l0, if_neg (by omega), if_pos (by omega)]
  · obtain ⟨hd, en, b1, b2, b3, b4, b5⟩ := buckets_f hok A hA
    have hzero : (List.replicate A (0 : Int)).length = A := by simp
    have r1 : Row1 s r o.length row0 := ⟨a1, fun t ht h => by have := (ho.all t ht).1; omega, fun q hq hne => absurd (a2 q hq) hne⟩
    have at1 : At1 s r A o.length en := ⟨b2, fun v hv => by
      rw [b4 v hv, cn_false (fun u hu => ?_), Nat.sub_zero]
      cases h : trn s.length (ch s) u with
      | false => simp
      | true => have := (ho.all u h).1; rw [decide_eq_false (by omega : ¬ o.length ≤ r u)]; simp⟩
    obtain ⟨row1, at2, c1, c2, c3⟩ := induce_l1 hok A hA ho hm h0 hd en b1 b3 o.length row0 en (Nat.le_refl _) r1 at1
    obtain ⟨row2, at3, d1, d2, d3⟩ := induce_l2 hok A hA hr en s.length 0 row1 at2 (by omega) (by omega) c1 c2
    obtain ⟨row3, e1, e2⟩ := induce_l3 hok A en at3 b2 d2 s.length 0 row2 (by omega) (by omega) (row3_of_2 d1)
    obtain ⟨row4, f1, f2⟩ := induce_l4 hok A hA hr s.length row3 en (Nat.le_refl _) (row4_of_3 e1) (at4_of_ends b2 b4)
    refine ⟨5 * s.length + A + o.length + 10, row4, fun k hk => ?_, f1.len, fun i hi => f1.put i hi (fun _ => Nat.zero_le _)⟩
    obtain ⟨k, rfl⟩ : ∃ m, k = m + s.length + 1 := ⟨k - s.length - 1, by omega⟩
    unfold sais_induce.f
    rw [if_pos (by omega), if_pos (by omega), Option.bind_some, Int.toNat_natCast, hrep]
    have g0 := a3 k
    rw [show ((0 : Nat) : Int) = 0 from rfl] at g0
    have g1 := b5 (k - s.length - A - 2)
    rw [show k - s.length - A - 2 + s.length + A + 2 = k by omega] at g1
    have g2 := c3 (k - o.length - 1)
    rw [show k - o.length - 1 + o.length + 1 = k by omega] at g2
    have g3 := d3 (k - o.length - 1 - s.length - 1)
    rw [show k - o.length - 1 - s.length - 1 + s.length + 1 = k - o.length - 1 by omega, show ((0 : Nat) : Int) = 0 from rfl] at g3
    have g4 := e2 (k - o.length - 1 - s.length - 1 - s.length - 1)
    rw [show k - o.length - 1 - s.length - 1 - s.length - 1 + s.length + 1 = k - o.length - 1 - s.length - 1 by omega, show ((0 : Nat) : Int) = 0 from rfl] at g4
    have g5 := f2 (k - o.length - 1 - s.length - 1 - s.length - 1 - s.length - 1)
    rw [show k - o.length - 1 - s.length - 1 - s.length - 1 - s.length - 1 + s.length + 1 = k - o.length - 1 - s.length - 1 - s.length - 1 by omega] at g5
    rw [g0, sais_induce.l0, if_neg (by omega), if_neg (by omega), g1, Option.bind_some, if_pos (by omega), if_pos (by omega)]
    simp only [hA, Int.toNat_natCast]
    rw [copy_eq (List.replicate A 0) en (by rw [hzero, b2]), Option.bind_some, w64 (by omega) (by omega), g2, g3, g4, g5]
end
end Go.Proofs.Ytphchkkicpnehaa.SD
