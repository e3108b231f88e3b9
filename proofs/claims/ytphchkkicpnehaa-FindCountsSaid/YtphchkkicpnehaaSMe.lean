/- The printed functions buckets and induce of package sais against the plain mathematics: what the passes make of any order of the turns. -/
import Derived.Test.YtphchkkicpnehaaSMd
import Derived.Test.YtphchkkicpnehaaXx6
namespace Go.Proofs.Ytphchkkicpnehaa.SD
open Go.RowKit Go.Proofs.Ytphchkkicpnehaa Go.Proofs.Ytphchkkicpnehaa.X Go.Proofs.Ytphchkkicpnehaa.SM Go.Proofs.YtphchkkicpnehaaW.PrintWords Go.Proofs.YtphchkkicpnehaaW.PrintLast

theorem ch_set (l : List Int) (q j : Nat) (v : Int) (h : q < l.length) : ch (l.set q v) j = if q = j then v else ch l j := getD_set l q j v 0 h
theorem ch_rep (m : Nat) (v : Int) (j : Nat) (h : j < m) : ch (List.replicate m v) j = v := by
  unfold ch; rw [List.getD_eq_getElem?_getD, List.getElem?_replicate, if_pos h]; rfl
theorem cpy_all {α : Type} (d s : List α) (h : d.length = s.length) : cpy d s = s := by
  unfold cpy; rw [List.take_of_length_le (by omega), List.drop_eq_nil_of_le (by omega), List.append_nil]

/-- How many numbers are v. -/
def cv (n : Nat) (c : Nat → Int) (v : Int) : Nat := cn n (fun j => decide (c j = v))
theorem cv_succ (q : Nat) (c : Nat → Int) (v : Int) : cv (q + 1) c v = cv q c v + (if decide (c q = v) = true then 1 else 0) := by unfold cv; rw [cn]
theorem to_cv (n : Nat) (c : Nat → Int) (v : Int) : tov n c v = fr n c v + cv n c v := by
  unfold tov fr cv
  rw [← cn_or (fun j _ h => by simp only [decide_eq_true_eq] at h; omega)]
  refine cn_congr fun j _ => ?_
  rw [Bool.eq_iff_iff]; simp; omega
theorem fr_succ (n : Nat) (c : Nat → Int) (v : Int) : fr n c (v + 1) = tov n c v := by
  unfold tov fr
  refine cn_congr fun j _ => ?_
  rw [Bool.eq_iff_iff]; simp; omega
theorem fr_le (n : Nat) (c : Nat → Int) (v : Int) : fr n c v ≤ n := cn_le _

theorem w64s {z q : Nat} (h : z ≤ q) (hq : q ≤ 16777216) : wrap64 ((z : Int) + 1) = ((z + 1 : Nat) : Int) := by rw [w64 (by omega) (by omega)]; omega
theorem cv_le (q : Nat) (c : Nat → Int) (v : Int) : cv q c v ≤ q := cn_le _
theorem cv_zero (c : Nat → Int) (v : Int) : cv 0 c v = 0 := rfl
theorem fr_zero {n : Nat} {c : Nat → Int} (h : ∀ j, j < n → 0 ≤ c j) : fr n c 0 = 0 := by
  unfold fr; exact cn_false fun j hj => by have := h j hj; simp; omega

section
variable {k0 : Int} {s : List Int}
attribute [local irreducible] cn cv fr tov rk3 loc2 ch

theorem buckets_l1 (hok : Ok k0 s) (A : Nat) (hA : k0 = A) (d : Nat) : ∀ v (hd en : List Int), A - v = d → v ≤ A → hd.length = A → en.length = A →
    (∀ u, u < v → ch hd u = (fr s.length (ch s) u : Int)) → (∀ u, u < v → ch en u = (tov s.length (ch s) u : Int)) → (∀ u, v ≤ u → u < A → ch en u = (cv s.length (ch s) u : Int)) →
    ∃ hd' en', hd'.length = A ∧ en'.length = A ∧ (∀ u, u < A → ch hd' u = (fr s.length (ch s) u : Int)) ∧ (∀ u, u < A → ch en' u = (tov s.length (ch s) u : Int)) ∧
      ∀ k, sais_buckets.l1 (k + d + 1) (fr s.length (ch s) v : Int) hd en (A : Int) (v : Int) = some (hd', en') := by
  have hn := hok.2.2.1
  have hA2 := hok.2.1
  induction d with
  | zero =>
    intro v hd en hdv hv h1 h2 h3 h4 h5
    obtain rfl : v = A := by omega
    refine ⟨hd, en, h1, h2, h3, h4, fun k => ?_⟩
    rw [sais_buckets.l1, if_neg (by omega)]
  | succ d ih =>
    intro v hd en hdv hv h1 h2 h3 h4 h5
    have e1 := h5 v (Nat.le_refl _) (by omega)
    have e2 := to_cv s.length (ch s) v
    have e3 := fr_succ s.length (ch s) v
    have e4 := to_le (n := s.length) (c := ch s) v
    have w2 : (-9223372036854775808 : Int) ≤ (fr s.length (ch s) v : Int) + (cv s.length (ch s) v : Int) ∧ (fr s.length (ch s) v : Int) + (cv s.length (ch s) v : Int) ≤ 9223372036854775807 := by omega
    have w3 : (fr s.length (ch s) v : Int) + (cv s.length (ch s) v : Int) = (tov s.length (ch s) v : Int) := by omega
    have w4 : (-9223372036854775808 : Int) ≤ (v : Int) + 1 ∧ (v : Int) + 1 ≤ 9223372036854775807 := by omega
    obtain ⟨hd', en', g1, g2, g3, g4, g5⟩ := ih (v + 1) (hd.set v (fr s.length (ch s) v : Int)) (en.set v (tov s.length (ch s) v : Int)) (by omega) (by omega) (by rw [List.length_set]; exact h1) (by rw [List.length_set]; exact h2)
      (fun u hu => by
        rw [ch_set _ _ _ _ (by omega)]
        by_cases e : v = u
        · rw [if_pos e, e]
        · rw [if_neg e]; exact h3 u (by omega))
      (fun u hu => by
        rw [ch_set _ _ _ _ (by omega)]
        by_cases e : v = u
        · rw [if_pos e, e]
        · rw [if_neg e]; exact h4 u (by omega))
      (fun u hu hu2 => by
        rw [ch_set _ _ _ _ (by omega), if_neg (by omega)]; exact h5 u (by omega) hu2)
    refine ⟨hd', en', g1, g2, g3, g4, fun k => ?_⟩
    rw [show k + (d + 1) + 1 = (k + d + 1) + 1 by omega, sais_buckets.l1]
    rw [if_pos (by omega), if_pos (by omega), if_pos (by omega), if_pos (by omega), rd_nat, e1, w64 w2.1 w2.2, w64 w4.1 w4.2, w3, Int.toNat_natCast]
    have := g5 k
    rw [show ((v + 1 : Nat) : Int) = (v : Int) + 1 by omega, e3] at this
    exact this

theorem buckets_l0 (hok : Ok k0 s) (A : Nat) (hA : k0 = A) (d : Nat) : ∀ q (hd en : List Int), s.length - q = d → q ≤ s.length → hd.length = A → en.length = A →
    (∀ u : Nat, u < A → ch en u = (cv q (ch s) u : Int)) →
    ∃ hd' en', hd'.length = A ∧ en'.length = A ∧ (∀ u, u < A → ch hd' u = (fr s.length (ch s) u : Int)) ∧ (∀ u, u < A → ch en' u = (tov s.length (ch s) u : Int)) ∧
      ∀ k, sais_buckets.l0 (k + d + A + 2) hd en s (s.length : Int) (q : Int) = some (hd', en') := by
  have hn := hok.2.2.1
  have hA2 := hok.2.1
  induction d with
  | zero =>
    intro q hd en hdq hq h1 h2 h3
    obtain rfl : q = s.length := by omega
    have h0 : fr s.length (ch s) 0 = 0 := fr_zero fun j hj => (hok.2.2.2 j hj).1
    obtain ⟨hd', en', g1, g2, g3, g4, g5⟩ := buckets_l1 hok A hA A 0 hd en (by omega) (by omega) h1 h2 (fun u hu => by omega) (fun u hu => by omega) (fun u _ hu => h3 u hu)
    refine ⟨hd', en', g1, g2, g3, g4, fun k => ?_⟩
    rw [show k + 0 + A + 2 = (k + A + 1) + 1 by omega, sais_buckets.l0, if_neg (by omega), h2]
    have := g5 k
    rw [show ((0 : Nat) : Int) = (0 : Int) from rfl, h0] at this
    exact this
  | succ d ih =>
    intro q hd en hdq hq h1 h2 h3
    have hc := hok.2.2.2 q (by omega)
    obtain ⟨v, hv⟩ : ∃ v : Nat, ch s q = v := ⟨(ch s q).toNat, by omega⟩
    obtain ⟨z, hz, hzq⟩ : ∃ z : Nat, cv q (ch s) (v : Int) = z ∧ z ≤ q := ⟨_, rfl, cv_le _ _ _⟩
    have hvA : v < A := by omega
    have e1 : ch en v = (z : Int) := by rw [← hz]; exact h3 v hvA
    have hq2 : q ≤ 16777216 := by omega
    have h4 : ∀ u : Nat, u < A → ch (en.set v ((z + 1 : Nat) : Int)) u = (cv (q + 1) (ch s) u : Int) := by
      intro u hu
      rw [ch_set _ _ _ _ (by rw [h2]; exact hvA)]
      by_cases e : v = u
      · subst e; rw [if_pos rfl, cv_succ, if_pos (decide_eq_true hv), hz]
      · rw [if_neg e, cv_succ, if_neg (fun h => e (by have := of_decide_eq_true h; omega)), Nat.add_zero]; exact h3 u hu
    obtain ⟨hd', en', g1, g2, g3, g4, g5⟩ := ih (q + 1) hd (en.set v ((z + 1 : Nat) : Int)) (by omega) (by omega) h1 (by rw [List.length_set]; exact h2) h4
    refine ⟨hd', en', g1, g2, g3, g4, fun k => ?_⟩
    clear h4 hz h3
    rw [show k + (d + 1) + A + 2 = (k + d + A + 2) + 1 by omega, sais_buckets.l0]
    rw [if_pos (by omega), if_pos (by omega), if_pos (by omega), rd_nat, hv, if_pos (by omega), if_pos (by omega), rd_nat, e1, w64s hzq hq2, w64s (Nat.le_refl q) hq2, Int.toNat_natCast]
    exact g5 k

/-- buckets: of each number how many are less, and how many are at most it. -/
theorem buckets_f (hok : Ok k0 s) (A : Nat) (hA : k0 = A) : ∃ hd en, hd.length = A ∧ en.length = A ∧ (∀ u, u < A → ch hd u = (fr s.length (ch s) u : Int)) ∧ (∀ u, u < A → ch en u = (tov s.length (ch s) u : Int)) ∧
    ∀ k, sais_buckets.f (k + s.length + A + 2) k0 s = some (hd, en) := by
  have hA2 := hok.2.1
  obtain ⟨hd, en, g1, g2, g3, g4, g5⟩ := buckets_l0 hok A hA s.length 0 (List.replicate A 0) (List.replicate A 0) (by omega) (by omega) (by simp) (by simp) (fun u hu => by rw [ch_rep _ _ _ hu, cv_zero]; rfl)
  refine ⟨hd, en, g1, g2, g3, g4, fun k => ?_⟩
  unfold sais_buckets.f
  rw [if_pos (by omega), if_pos (by omega), hA, Int.toNat_natCast]
  exact g5 k

/-! ### inducing -/
/-- o is an order of the turns; r tells where each stands in it. -/
structure Ord (s : List Int) (o : List Int) (r : Nat → Nat) : Prop where
  turn : ∀ a, a < o.length → ∃ t, trn s.length (ch s) t = true ∧ ch o a = (t : Int) ∧ r t = a
  all : ∀ t, trn s.length (ch s) t = true → r t < o.length ∧ ch o (r t) = (t : Int)
theorem Ord.inj {o : List Int} {r : Nat → Nat} (h : Ord s o r) : Inj s.length (ch s) r := by
  intro t u ht hu e
  have h1 := (h.all t ht).2
  have h2 := (h.all u hu).2
  rw [e] at h1; omega
theorem trn_lt {n : Nat} {c : Nat → Int} {t : Nat} (h : trn n c t = true) : t + 1 < n := sm_lt (trn_iff.1 h).2.1

variable {o : List Int} {r : Nat → Nat}

/-- Behind the first pass. -/
structure Row1 (s : List Int) (r : Nat → Nat) (x : Nat) (row : List Int) : Prop where
  len : row.length = s.length
  put : ∀ t, trn s.length (ch s) t = true → x ≤ r t → ch row (loc2 s.length (ch s) r t) = (t : Int)
  only : ∀ q, q < s.length → ch row q ≠ -1 → ∃ t, trn s.length (ch s) t = true ∧ x ≤ r t ∧ loc2 s.length (ch s) r t = q ∧ ch row q = (t : Int)
def At1 (s : List Int) (r : Nat → Nat) (A x : Nat) (at_ : List Int) : Prop := at_.length = A ∧ ∀ v : Nat, v < A → ch at_ v = ((tov s.length (ch s) v - cn s.length (fun u => trn s.length (ch s) u && (decide (ch s u = (v : Int)) && decide (x ≤ r u))) : Nat) : Int)

/-- In the second pass: what has been put in, when all places below p have been looked at. -/
def pl2 (s : List Int) (r : Nat → Nat) (p i : Nat) : Bool := decide (i + 1 = s.length) || decide (loc2 s.length (ch s) r (i + 1) < p)
structure Row2 (s : List Int) (r : Nat → Nat) (p : Nat) (row : List Int) : Prop where
  len : row.length = s.length
  put : ∀ i, i < s.length → InA s.length (ch s) i → (sm s.length (ch s) i = false → pl2 s r p i = true) → ch row (loc2 s.length (ch s) r i) = (i : Int)
  only : ∀ q, q < s.length → ch row q ≠ -1 → ∃ i, i < s.length ∧ InA s.length (ch s) i ∧ (sm s.length (ch s) i = false → pl2 s r p i = true) ∧ loc2 s.length (ch s) r i = q ∧ ch row q = (i : Int)
def At2 (s : List Int) (r : Nat → Nat) (A p : Nat) (at_ : List Int) : Prop := at_.length = A ∧ ∀ v : Nat, v < A → ch at_ v = ((fr s.length (ch s) v + cn s.length (fun j => (decide (ch s j = (v : Int)) && !sm s.length (ch s) j) && pl2 s r p j) : Nat) : Int)

/-- The turns are being taken out again. -/
structure Row3 (s : List Int) (r : Nat → Nat) (p : Nat) (row : List Int) : Prop where
  len : row.length = s.length
  put : ∀ i, i < s.length → sm s.length (ch s) i = false → ch row (rk3 s.length (ch s) r i) = (i : Int)
  only : ∀ q, q < s.length → ch row q ≠ -1 → ∃ i, i < s.length ∧ InA s.length (ch s) i ∧ loc2 s.length (ch s) r i = q ∧ ch row q = (i : Int) ∧ (q < p → sm s.length (ch s) i = false)

/-- In the third pass: all places from x on have been looked at. -/
structure Row4 (s : List Int) (r : Nat → Nat) (x : Nat) (row : List Int) : Prop where
  len : row.length = s.length
  put : ∀ i, i < s.length → (sm s.length (ch s) i = true → x ≤ rk3 s.length (ch s) r (i + 1)) → ch row (rk3 s.length (ch s) r i) = (i : Int)
  only : ∀ q, q < s.length → ch row q ≠ -1 → ∃ i, i < s.length ∧ (sm s.length (ch s) i = true → x ≤ rk3 s.length (ch s) r (i + 1)) ∧ rk3 s.length (ch s) r i = q ∧ ch row q = (i : Int)
def At4 (s : List Int) (r : Nat → Nat) (A x : Nat) (at_ : List Int) : Prop := at_.length = A ∧ ∀ v : Nat, v < A → ch at_ v = ((tov s.length (ch s) v - cn s.length (fun j => (decide (ch s j = (v : Int)) && sm s.length (ch s) j) && decide (x ≤ rk3 s.length (ch s) r (j + 1))) : Nat) : Int)

theorem induce_l4 (hok : Ok k0 s) (A : Nat) (hA : k0 = A) (hr : Inj s.length (ch s) r) (x : Nat) : ∀ (row at_ : List Int), x ≤ s.length → Row4 s r x row → At4 s r A x at_ →
    ∃ row', Row4 s r 0 row' ∧ ∀ k, sais_induce.l4 (k + x + 1) s (tyl s) ((x : Int) - 1) row at_ = some row' := by
  have hn := hok.2.2.1
  induction x with
  | zero =>
    intro row at_ hx h1 h2
    refine ⟨row, h1, fun k => ?_⟩
    rw [sais_induce.l4, if_neg (by omega)]
  | succ p ih =>
    intro row at_ hx h1 h2
    have w : wrap64 (((p : Int)) - 1) = ((p : Int) - 1) := w64 (by omega) (by omega)
    -- nothing new is put in where no small one stands behind
    have same : (∀ j, j < s.length → sm s.length (ch s) j = true → rk3 s.length (ch s) r (j + 1) ≠ p) → Row4 s r p row ∧ At4 s r A p at_ := by
      intro hno
      have hiff : ∀ j, j < s.length → sm s.length (ch s) j = true → (p ≤ rk3 s.length (ch s) r (j + 1) ↔ p + 1 ≤ rk3 s.length (ch s) r (j + 1)) := by
        intro j hj hs; have := hno j hj hs; omega
      refine ⟨⟨h1.len, fun i hi h3 => h1.put i hi (fun hs => (hiff i hi hs).1 (h3 hs)), fun q hq hne => ?_⟩, h2.1, fun v hv => ?_⟩
      · obtain ⟨i, hi, h3, h4, h5⟩ := h1.only q hq hne
        exact ⟨i, hi, fun hs => (hiff i hi hs).2 (h3 hs), h4, h5⟩
      · rw [h2.2 v hv]
        congr 2
        refine cn_congr fun j hj => ?_
        cases hs : sm s.length (ch s) j with
        | false => simp
        | true => rw [Bool.eq_iff_iff]; simp only [Bool.and_eq_true, decide_eq_true_eq]; rw [hiff j hj hs]
    -- what stands at p
    have at_p : ∀ j, j < s.length → sm s.length (ch s) j = true → rk3 s.length (ch s) r (j + 1) = p → ch row p = ((j + 1 : Nat) : Int) := by
      intro j hj hs he
      have hj1 := sm_lt hs
      have := h1.put (j + 1) hj1 (fun hs2 => by
        have := rk3_mono (n := s.length) (c := ch s) (r := r) hj1 (lt3_step hj1 hs2)
        omega)
      rw [he] at this; exact this
    have go : ∀ (row' at' : List Int), Row4 s r p row' → At4 s r A p at' → (∀ k, sais_induce.l4 (k + p + 1 + 1) s (tyl s) (p : Int) row at_ = sais_induce.l4 (k + p + 1) s (tyl s) ((p : Int) - 1) row' at') →
        ∃ row'', Row4 s r 0 row'' ∧ ∀ k, sais_induce.l4 (k + (p + 1) + 1) s (tyl s) (((p + 1 : Nat) : Int) - 1) row at_ = some row'' := by
      intro row' at' g1 g2 g3
      obtain ⟨row'', g4, g5⟩ := ih row' at' (by omega) g1 g2
      refine ⟨row'', g4, fun k => ?_⟩
      rw [show ((p + 1 : Nat) : Int) - 1 = (p : Int) by omega, show k + (p + 1) + 1 = k + p + 1 + 1 by omega, g3 k]
      exact g5 k
    by_cases a : ch row p ≤ 0
    · obtain ⟨s1, s2⟩ := same (fun j hj hs he => by have := at_p j hj hs he; omega)
      refine go row at_ s1 s2 fun k => ?_
      rw [sais_induce.l4, if_pos (by omega), if_pos (by omega), if_pos (by rw [h1.len]; omega), rd_nat, if_pos a, w]
    · obtain ⟨i, hi, h3, h4, h5⟩ := h1.only p (by omega) (by omega)
      obtain ⟨g, rfl⟩ : ∃ g, i = g + 1 := ⟨i - 1, by omega⟩
      have w2 : wrap64 (ch row p - 1) = (g : Int) := by rw [h5, w64 (by omega) (by omega)]; omega
      have hg : g < s.length := by omega
      by_cases b : sm s.length (ch s) g = true
      · obtain ⟨v, hv⟩ : ∃ v : Nat, ch s g = v := ⟨(ch s g).toNat, by have := (hok.2.2.2 g hg).1; omega⟩
        have hvA : v < A := by have := (hok.2.2.2 g hg).2; omega
        have e1 := h2.2 v hvA
        have e2 := rk3_small hr hg b
        rw [hv] at e2
        have e3 : cn s.length (fun j => (decide (ch s j = (v : Int)) && sm s.length (ch s) j) && decide (p + 1 ≤ rk3 s.length (ch s) r (j + 1))) = cn s.length (fun j => (decide (ch s j = (v : Int)) && sm s.length (ch s) j) && lt3 s.length (ch s) r g j) := by
          refine cn_congr fun j hj => ?_
          by_cases f : ch s j = (v : Int) ∧ sm s.length (ch s) j = true
          · have hj1 := sm_lt f.2
            rw [f.1, f.2, lt3_ss hg hj (by omega) b f.2]
            simp only [decide_true, Bool.true_and]
            rw [Bool.eq_iff_iff, decide_eq_true_eq, ← rk3_iff hr hi hj1]; omega
          · by_cases f1 : ch s j = (v : Int)
            · have f2 : sm s.length (ch s) j = false := by
                cases f3 : sm s.length (ch s) j with
                | false => rfl
                | true => exact absurd ⟨f1, f3⟩ f
              rw [f2]; simp
            · simp [f1]
        rw [e3] at e1
        have e4 := rk3_lt (n := s.length) (c := ch s) (r := r) hg
        have w3 : wrap64 (ch at_ v - 1) = (rk3 s.length (ch s) r g : Int) := by rw [w64 (by omega) (by omega)]; omega
        have hlen : (at_.set v (rk3 s.length (ch s) r g : Int)).length = A := by rw [List.length_set]; exact h2.1
        have hiff : ∀ j, j < s.length → sm s.length (ch s) j = true → (p ≤ rk3 s.length (ch s) r (j + 1) ↔ (p + 1 ≤ rk3 s.length (ch s) r (j + 1) ∨ j = g)) := by
          intro j hj hs
          constructor
          · intro h
            by_cases e : rk3 s.length (ch s) r (j + 1) = p
            · right
              have := rk3_inj hr (sm_lt hs) hi (e.trans h4.symm); omega
            · left; omega
          · rintro (h | rfl)
            · omega
            · omega
        refine go (row.set (rk3 s.length (ch s) r g) (g : Int)) (at_.set v (rk3 s.length (ch s) r g : Int)) ⟨by rw [List.length_set]; exact h1.len, fun j hj h6 => ?_, fun q hq hne => ?_⟩ ⟨hlen, fun u hu => ?_⟩ fun k => ?_
        · rw [ch_set _ _ _ _ (by rw [h1.len]; exact e4)]
          by_cases e : j = g
          · subst e; rw [if_pos rfl]
          · rw [if_neg (fun h => e (rk3_inj hr hg hj h).symm)]
            exact h1.put j hj (fun hs => by rcases (hiff j hj hs).1 (h6 hs) with h7 | h7; exact h7; exact absurd h7 e)
        · rw [ch_set _ _ _ _ (by rw [h1.len]; exact e4)] at hne ⊢
          by_cases e : rk3 s.length (ch s) r g = q
          · rw [if_pos e]; exact ⟨g, hg, fun _ => by omega, e, rfl⟩
          · rw [if_neg e] at hne ⊢
            obtain ⟨j, hj, h6, h7, h8⟩ := h1.only q hq hne
            exact ⟨j, hj, fun hs => (hiff j hj hs).2 (.inl (h6 hs)), h7, h8⟩
        · rw [ch_set _ _ _ _ (by rw [h2.1]; exact hvA)]
          by_cases e : v = u
          · subst e
            rw [if_pos rfl]
            have e5 : cn s.length (fun j => (decide (ch s j = (v : Int)) && sm s.length (ch s) j) && decide (p ≤ rk3 s.length (ch s) r (j + 1))) = cn s.length (fun j => (decide (ch s j = (v : Int)) && sm s.length (ch s) j) && decide (p + 1 ≤ rk3 s.length (ch s) r (j + 1))) + 1 := by
              refine cn_succ hg (by simp; intro _ _; omega) (fun j hj => ?_)
              rw [Bool.eq_iff_iff]
              simp only [Bool.or_eq_true, Bool.and_eq_true, decide_eq_true_eq, beq_iff_eq]
              constructor
              · rintro ⟨⟨f1, f2⟩, f3⟩
                rcases (hiff j hj f2).1 f3 with f4 | f4
                · exact .inl ⟨⟨f1, f2⟩, f4⟩
                · exact .inr f4
              · rintro (⟨⟨f1, f2⟩, f3⟩ | rfl)
                · exact ⟨⟨f1, f2⟩, by omega⟩
                · exact ⟨⟨hv, b⟩, by omega⟩
            rw [e5, e3]
            omega
          · rw [if_neg e, h2.2 u hu]
            congr 2
            refine cn_congr fun j hj => ?_
            by_cases f : ch s j = (u : Int) ∧ sm s.length (ch s) j = true
            · rw [Bool.eq_iff_iff]
              simp only [Bool.and_eq_true, decide_eq_true_eq]
              rw [hiff j hj f.2]
              have hne : j ≠ g := by rintro rfl; exact e (by omega)
              exact ⟨fun h => ⟨h.1, .inl h.2⟩, fun h => ⟨h.1, h.2.resolve_right hne⟩⟩
            · by_cases f1 : ch s j = (u : Int)
              · have f2 : sm s.length (ch s) j = false := by
                  cases f3 : sm s.length (ch s) j with
                  | false => rfl
                  | true => exact absurd ⟨f1, f3⟩ f
                rw [f2]; simp
              · simp [f1]
        · rw [sais_induce.l4, if_pos (by omega), if_pos (by omega), if_pos (by rw [h1.len]; omega), rd_nat, if_neg a, w2, w, if_pos (by omega), if_pos (by rw [tyl_length]; omega), rdB_nat, tyl_get hg, if_pos b, if_pos (by omega), rd_nat, hv, if_pos (by omega), if_pos (by rw [h2.1]; omega), rd_nat, w3, Option.bind_some, Int.toNat_natCast, rd_nat, ch_set _ _ _ _ (by rw [h2.1]; exact hvA), if_pos rfl, if_pos (by omega), if_pos (by rw [h1.len]; omega), Int.toNat_natCast]
      · obtain ⟨s1, s2⟩ := same (fun j hj hs he => by
          have := at_p j hj hs he
          have : j = g := by omega
          subst this; exact b hs)
        refine go row at_ s1 s2 fun k => ?_
        rw [sais_induce.l4, if_pos (by omega), if_pos (by omega), if_pos (by rw [h1.len]; omega), rd_nat, if_neg a, w2, if_pos (by omega), if_pos (by rw [tyl_length]; omega), rdB_nat, tyl_get hg, if_neg b, w]
end
end Go.Proofs.Ytphchkkicpnehaa.SD
