/- The law SuffixSteps holds of any bytes: the unlike texts rise, one by one, each stands in the data, and there are as many as counted. No condition. -/
import Derived.Test.YthcnnfahlhklgaaSXe
import Derived.Test.YthcnnfahlhklgaaXx26
namespace Go.Proofs.Ythcnnfahlhklgaa.Pure
open Go.RowKit Go.Proofs.Ythcnnfahlhklgaa Go.Proofs.Ythcnnfahlhklgaa.X Go.Proofs.Ythcnnfahlhklgaa.SD Go.Proofs.Ythcnnfahlhklgaa.SM Go.Proofs.YthcnnfahlhklgaaW.PrintWords Go.Proofs.YthcnnfahlhklgaaW.PrintLast

section
variable {s : List Int} {x : S82}
attribute [local irreducible] cn cv fr tov rk3 loc2 ch rank
theorem byt_bl (h : ∀ x ∈ s, (Lit.int .u8 x).wf = true) : BL s := fun x hx => byte_wf' (h x hx)
/-- The loop that takes the common bytes off. -/
theorem steps_l2 (hs : s.length ≤ 16777216) (hx : IsIx s x) {K1 : Nat} (h1 : ∀ k, K1 ≤ k → sapperlaw13_lives.f k = some true) (d : Nat) : ∀ q, s.length - q = d → q ≤ s.length → ∀ k, K1 ≤ k → sapperlaw13_SuffixSteps.l2 (k + d + 1) (base s x.f2 s.length : Int) ((base s x.f2 s.length + sumL s x.f2 s.length - sumL s x.f2 q : Nat) : Int) x.f4 (s.length : Int) (q : Int) = some true := by
  have hl := hx.2.2.2.2.2.1
  have hsm := base_small hs hx.2.2.1
  induction d with
  | zero =>
    intro q hd hq k hk
    have : q = s.length := by omega
    subst this
    rw [show k + 0 + 1 = k + 1 by omega, sapperlaw13_SuffixSteps.l2, if_neg (by omega), if_pos (by omega), h1 _ hk]; rfl
  | succ d ih =>
    intro q hd hq k hk
    have g := hx.2.2.2.2.2.2 q (by omega)
    have e : sumL s x.f2 (q + 1) = sumL s x.f2 q + lcv s x.f2 q := rfl
    have hm := sumL_mono s x.f2 (show q + 1 ≤ s.length by omega)
    rw [show k + (d + 1) + 1 = k + d + 1 + 1 by omega, sapperlaw13_SuffixSteps.l2, if_pos (by omega), if_pos (by omega), if_pos (by omega), rd_nat, g,
      wp (x := ((base s x.f2 s.length + sumL s x.f2 s.length - sumL s x.f2 q : Nat) : Int) - (lcv s x.f2 q : Int)) (y := ((base s x.f2 s.length + sumL s x.f2 s.length - sumL s x.f2 (q + 1) : Nat) : Int)) (by omega) (by omega) (by omega),
      wp (x := (q : Int) + 1) (y := ((q + 1 : Nat) : Int)) (by omega) (by omega) (by omega)]
    exact ih (q + 1) (by omega) (by omega) k hk
/-- The loop that looks for a text. -/
theorem steps_l1 (hs : s.length ≤ 16777216) (hb : BL s) {last : ByteArray} {t : List Int} {i m : Nat} (hi : i < s.length) (ht : i + t.length ≤ s.length) (he : t = (s.drop i).take t.length) {lastL : List Int} (hla : last.toList = (strOfNums lastL).toList) (hbl : BL lastL) (hlt : lessL lastL t = true) (hm : m ≤ s.length * s.length) (d : Nat) : ∀ q (b : Bool), s.length - q = d → q ≤ s.length → (b = true ∨ q ≤ i) → ∀ k, sapperlaw13_SuffixSteps.l1 (k + d + 1) s [x] last (m : Int) 0 b t (s.length : Int) (q : Int) = sapperlaw13_SuffixSteps.l0 k s [x] (strOfNums t) ((m + 1 : Nat) : Int) := by
  have hbt : BL t := by rw [he]; exact (hb.drop i).take _
  have hmm : s.length * s.length ≤ 16777216 * 16777216 := Nat.mul_le_mul hs hs
  have hmi : ((s.length : Int) * (s.length : Int)) = ((s.length * s.length : Nat) : Int) := by simp
  induction d with
  | zero =>
    intro q b hd hq hbq k
    have hbT : b = true := by
      rcases hbq with h | h
      · exact h
      · omega
    rw [show k + 0 + 1 = k + 1 by omega, sapperlaw13_SuffixSteps.l1, if_neg (by omega), if_pos rfl, hla, less_sl hbl hbt, if_pos hlt, if_pos hbT, hmi, wp (x := ((s.length * s.length : Nat) : Int)) rfl (by omega) (by omega), if_neg (by omega), wp (x := (m : Int) + 1) (y := ((m + 1 : Nat) : Int)) (by omega) (by omega) (by omega)]
  | succ d ih =>
    intro q b hd hq hbq k
    rw [show k + (d + 1) + 1 = k + d + 1 + 1 by omega, sapperlaw13_SuffixSteps.l1, if_pos (by omega), wp (x := (q : Int) + 1) (y := ((q + 1 : Nat) : Int)) (by omega) (by omega) (by omega)]
    by_cases hbT : b = true
    · rw [if_pos hbT]
      exact ih (q + 1) true (by omega) (by omega) (.inl rfl) k
    · have hqi : q ≤ i := by
        rcases hbq with h | h
        · exact absurd h hbT
        · exact h
      rw [if_neg hbT, wp (x := (q : Int) + (t.length : Int)) (y := ((q + t.length : Nat) : Int)) (by omega) (by omega) (by omega), if_pos (by omega), if_pos (by omega), if_pos (by omega), Int.toNat_natCast, Int.toNat_natCast]
      refine ih (q + 1) _ (by omega) (by omega) ?_ k
      by_cases e : q = i
      · subst e
        refine .inl ?_
        rw [beq_iff_eq, List.drop_take, show q + t.length - q = t.length by omega, ← he]
      · exact .inr (by omega)
theorem txt_same {sa : List Int} (h : IsSA s sa) {r j : Nat} (hr : r < s.length) (hj : j < fresh s sa r) : P sa r < s.length ∧ P sa r + (txt s sa r j).length ≤ s.length ∧ txt s sa r j = (s.drop (P sa r)).take (txt s sa r j).length := by
  have f := fresh_pos h hr
  have l := txt_len h hr hj
  refine ⟨f.1, by omega, ?_⟩
  rw [l]; rfl
/-- All of them. -/
theorem steps_l0 (hs : s.length ≤ 16777216) (hb : BL s) (hx : IsIx s x) {K1 : Nat} (h1 : ∀ k, K1 ≤ k → sapperlaw13_lives.f k = some true) (d : Nat) : ∀ m lastL (last : ByteArray), base s x.f2 s.length - m = d → m ≤ base s x.f2 s.length → last.toList = (strOfNums lastL).toList → BL lastL → Prev s x.f2 m lastL →
    ∃ K, ∀ k, K ≤ k → sapperlaw13_SuffixSteps.l0 k s [x] last (m : Int) = some true := by
  have hl := hx.2.2.2.2.2.1
  have hsm := base_small hs hx.2.2.1
  have hca := count_all hx.2.2.1
  have hmm : s.length * (s.length + 1) ≤ 16777216 * (16777216 + 1) := Nat.mul_le_mul hs (by omega)
  induction d with
  | zero =>
    intro m lastL last hd hm hla hbl hp
    have : m = base s x.f2 s.length := by omega
    subst this
    refine ⟨K1 + s.length + 10, fun k hk => ?_⟩
    obtain ⟨k, rfl⟩ : ∃ k', k = k' + s.length + 1 + 1 := ⟨k - s.length - 2, by omega⟩
    have e1 : ((s.length : Int) * ((s.length + 1 : Nat) : Int)) = ((s.length * (s.length + 1) : Nat) : Int) := by simp
    rw [sapperlaw13_SuffixSteps.l0, Kth_end hs hx (by omega), Option.bind_some, if_pos rfl, Lcp_f hs hx, Option.bind_some, wp (x := (s.length : Int) + 1) (y := ((s.length + 1 : Nat) : Int)) (by omega) (by omega) (by omega), e1, wp (x := ((s.length * (s.length + 1) : Nat) : Int)) rfl (by omega) (by omega), Int.tdiv_eq_ediv_of_nonneg (by omega),
      wp (x := ((s.length * (s.length + 1) : Nat) : Int) / 2) (y := ((base s x.f2 s.length + sumL s x.f2 s.length : Nat) : Int)) (by omega) (by omega) (by omega), hl]
    exact steps_l2 hs hx h1 s.length 0 (by omega) (by omega) k (by omega)
  | succ d ih =>
    intro m lastL last hd hm hla hbl hp
    obtain ⟨r, j, hr, hj, rfl⟩ := base_find s x.f2 s.length m (by omega)
    obtain ⟨t1, t2, t3⟩ := txt_same hx.2.2.1 hr hj
    have hbt : BL (txt s x.f2 r j) := by rw [t3]; exact (hb.drop _).take _
    have hrise := rise hx.2.2.1 hr hj hp
    have hm2 : base s x.f2 r + j ≤ s.length * s.length := by
      have e : s.length * (s.length + 1) = s.length * s.length + s.length := Nat.mul_succ _ _
      have e2 : s.length * 1 ≤ s.length * s.length := Nat.mul_le_mul (Nat.le_refl _) (by omega)
      omega
    obtain ⟨K, hK⟩ := ih (base s x.f2 r + j + 1) (txt s x.f2 r j) (strOfNums (txt s x.f2 r j)) (by omega) (by omega) rfl hbt (.inr ⟨r, j, hr, hj, rfl, rfl⟩)
    refine ⟨K + s.length + 10, fun k hk => ?_⟩
    obtain ⟨k, rfl⟩ : ∃ k', k = k' + s.length + 1 + 1 := ⟨k - s.length - 2, by omega⟩
    rw [sapperlaw13_SuffixSteps.l0, Kth_f hs hx hr hj (by omega), Option.bind_some, if_neg (by simp)]
    have := steps_l1 (x := x) (last := last) hs hb t1 t2 t3 hla hbl hrise hm2 s.length 0 false (by omega) (by omega) (.inr (by omega)) k
    rw [show ((0 : Nat) : Int) = 0 from rfl] at this
    rw [this]
    exact hK k (by omega)
end
theorem SuffixSteps : sapperlaw13_SuffixSteps.Pure := by
  intro s _ _ hw
  obtain ⟨K1, h1⟩ := lives_f
  by_cases hs : s.length ≤ 16777216
  case neg =>
    refine ⟨1, ?_⟩
    unfold sapperlaw13_SuffixSteps.f
    rw [New_many (by omega), Option.bind_some, if_pos (by omega), if_pos (by simp)]; rfl
  obtain ⟨K2, x, h2, hx⟩ := New_ok hs (byt_wf hw)
  obtain ⟨K3, h3⟩ := steps_l0 hs (byt_bl hw) hx h1 _ 0 [] (⟨#[]⟩ : ByteArray) rfl (Nat.zero_le _) (by rw [sl_eq, ByteArray.toList_eq]; rfl) (fun x hx => absurd hx List.not_mem_nil) (.inl ⟨rfl, rfl⟩)
  refine ⟨K1 + K2 + K3 + 1 , ?_⟩
  unfold sapperlaw13_SuffixSteps.f
  rw [h2 _ (by omega), Option.bind_some, if_neg (by omega), if_pos rfl]
  dsimp only
  rw [sapperlaw13_SuffixSteps.j0, if_neg (by simp)]
  exact h3 _ (by omega)
end Go.Proofs.Ythcnnfahlhklgaa.Pure
