/- The law SuffixBack holds of any two byte lists and any number: Unturn undoes Turn, which has the same bytes, each as often; what Unturn takes, Turn makes of its answer. No condition. -/
import Derived.Test.YthcnnfahlhklgaaSCSuffixBack
import Derived.Test.YthcnnfahlhklgaaXBk
namespace Go.Proofs.Ythcnnfahlhklgaa.Pure
open Go.RowKit Go.Proofs.Ythcnnfahlhklgaa Go.Proofs.Ythcnnfahlhklgaa.X Go.Proofs.Ythcnnfahlhklgaa.SD Go.Proofs.Ythcnnfahlhklgaa.SM Go.Proofs.YthcnnfahlhklgaaW.PrintWords Go.Proofs.YthcnnfahlhklgaaW.PrintLast

section
variable {s x : List Int}
attribute [local irreducible] cv fr tov rk3 loc2 rank
theorem lives_f : ∃ K, ∀ k, K ≤ k → sapperlaw13_lives.f k = some true := by
  have h : sapperlaw13_lives.f 400 = some true := by decide +kernel
  exact ⟨400, fun k hk => at_rounds (g := fun k => sapperlaw13_lives.f k) (fun k => sapperlaw13_lives.mono k) hk h⟩
theorem EQ_one (l : List Int) {m c : Nat} (h : ch l m = (c : Int)) (q : Nat) : EQ l (m + 1) q = EQ l m q + (if c = q then 1 else 0) := by
  unfold EQ; rw [cn, h]
  by_cases y : c = q
  · rw [if_pos y, if_pos (decide_eq_true (by rw [y]))]
  · rw [if_neg y, if_neg (by simp; omega)]
theorem cA_ok (hs : s.length ≤ 16777216) (hb : BL s) (hx : BL x) (hl : x.length = s.length) : ∀ m, m ≤ s.length → ∀ q, q < 256 → ch (cA s x m) q = (EQ s m q : Int) - (EQ x m q : Int) := by
  intro m
  induction m with
  | zero => intro _ q hq; rw [cA]; unfold ch EQ; rw [List.getD_eq_getElem?_getD, List.getElem?_replicate]; split <;> rfl
  | succ m ih =>
    intro hm q hq
    obtain ⟨c, hc, ec⟩ := byt_at hb (show m < s.length by omega)
    obtain ⟨d, hd, ed⟩ := byt_at hx (show m < x.length by omega)
    have hcl := cA_len s x m
    have ih := ih (by omega)
    have h1 := ih c hc
    have h2 := ih d hd
    have h3 := ih q hq
    have b1 := EQ_le (b := s) m c
    have b2 := EQ_le (b := x) m c
    have b3 := EQ_le (b := s) m d
    have b4 := EQ_le (b := x) m d
    have e1 := EQ_one s ec q
    have e2 := EQ_one x ed q
    have g1 : (cA s x m)[c]?.getD 0 = ch (cA s x m) c := by unfold ch; rw [List.getD_eq_getElem?_getD]
    rw [cA_step s x (m := m) (c := c) (d := d) (by rw [rd_ch]; exact ec) (by rw [rd_ch]; exact ed), g1, h1, wp (x := (EQ s m c : Int) - (EQ x m c : Int) + 1) (y := (EQ s m c : Int) - (EQ x m c : Int) + 1) rfl (by omega) (by omega)]
    have g2 : ((cA s x m).set c ((EQ s m c : Int) - (EQ x m c : Int) + 1))[d]?.getD 0 = ch ((cA s x m).set c ((EQ s m c : Int) - (EQ x m c : Int) + 1)) d := by unfold ch; rw [List.getD_eq_getElem?_getD]
    rw [g2, ch_put (by rw [List.length_set]; omega), ch_put (by omega), ch_put (by omega), h2, h3, e1, e2]
    by_cases y1 : c = d
    · subst y1
      rw [if_pos rfl, wp (y := (EQ s m c : Int) - (EQ x m c : Int)) (by omega) (by omega) (by omega)]
      by_cases y2 : c = q
      · subst y2; rw [if_pos rfl]; omega
      · rw [if_neg y2, if_neg y2]; omega
    · rw [if_neg y1, wp (y := (EQ s m d : Int) - (EQ x m d : Int) - 1) (by omega) (by omega) (by omega)]
      by_cases y2 : d = q
      · subst y2; rw [if_pos rfl, if_neg y1, if_pos rfl]; omega
      · rw [if_neg y2]
        by_cases y3 : c = q
        · subst y3; rw [if_pos rfl, if_pos rfl, if_neg y2]; omega
        · rw [if_neg y3, if_neg y3, if_neg y2]; omega
end
theorem back_facts (s b : List Int) (a : Int) (hb : BL s) (hbb : BL b) : ∃ k, sapperlaw13_lives.f k = some true ∧ (s.length ≤ 16777216 → b.length ≤ 16777216 → ∃ (x y : List Int) (e g : Int), suffix_Turn.f k s = some (x, e, 0) ∧ suffix_Unturn.f x e = some (s, 0) ∧ x.length = s.length ∧
      (∀ q : Nat, q < s.length → ∃ c d : Nat, c < 256 ∧ d < 256 ∧ rd s q = (c : Int) ∧ rd x q = (d : Int)) ∧ cA s x s.length = List.replicate 256 0 ∧ suffix_Unturn.f b a = some (y, g) ∧ ((g ≠ 0 ∧ y = []) ∨ (g = 0 ∧ suffix_Turn.f k y = some (b, a, 0)))) := by
  obtain ⟨K1, h1⟩ := lives_f
  by_cases hs : s.length ≤ 16777216
  case neg => exact ⟨K1, h1 _ (Nat.le_refl _), fun h => absurd h hs⟩
  by_cases hn : b.length ≤ 16777216
  case neg => exact ⟨K1, h1 _ (Nat.le_refl _), fun _ h => absurd h hn⟩
  obtain ⟨K2, x, e, t1, t2, t3, t4, t5⟩ := back_ok hs hb
  obtain ⟨y, g, u1, u2, u3⟩ := forth_ok hn hbb a
  have hbytes : ∀ q : Nat, q < s.length → ∃ c d : Nat, c < 256 ∧ d < 256 ∧ rd s q = (c : Int) ∧ rd x q = (d : Int) := fun q hq => by
    obtain ⟨c, hc, ec⟩ := byt_at hb hq
    obtain ⟨d, hd, ed⟩ := byt_at t4 (show q < x.length by omega)
    exact ⟨c, d, hc, hd, by rw [rd_ch]; exact ec, by rw [rd_ch]; exact ed⟩
  have hcA : cA s x s.length = List.replicate 256 0 := by
    refine ext_ch (by rw [cA_len, List.length_replicate]) fun q hq => ?_
    rw [cA_len] at hq
    rw [cA_ok hs hb t4 t3 s.length (Nat.le_refl _) q hq, t5 q]
    unfold ch
    rw [List.getD_eq_getElem?_getD, List.getElem?_replicate, if_pos hq]
    show (EQ s s.length q : Int) - (EQ s s.length q : Int) = 0
    omega
  rcases u3 with ⟨g1, g2⟩ | ⟨g1, K3, g2⟩
  · exact ⟨K1 + K2, h1 _ (by omega), fun _ _ => ⟨x, y, e, g, t1 _ (by omega), t2, t3, hbytes, hcA, u1, .inl ⟨g1, g2⟩⟩⟩
  · exact ⟨K1 + K2 + K3, h1 _ (by omega), fun _ _ => ⟨x, y, e, g, t1 _ (by omega), t2, t3, hbytes, hcA, u1, .inr ⟨g1, g2 _ (by omega)⟩⟩⟩
theorem back_row (a0 : Option Addr) (len0 cap0 : Nat) (z0 : List Int) (a1 : Option Addr) (len1 cap1 : Nat) (z1 : List Int) (a2 : Int) (w : World) (w0 : (a0 = none ∧ len0 = 0 ∧ cap0 = 0 ∧ z0 = []) ∨ ∃ x, a0 = some x ∧ len0 ≤ cap0 ∧ cap0 ≤ maxLen ∧ z0.length = cap0 ∧ (∀ i, i < z0.length → w.cell? (x.add i) = some (.int .u8 (z0.getD i 0))) ∧ ∀ n ∈ z0, (Lit.int .u8 n).wf = true) (w1 : (a1 = none ∧ len1 = 0 ∧ cap1 = 0 ∧ z1 = []) ∨ ∃ x, a1 = some x ∧ len1 ≤ cap1 ∧ cap1 ≤ maxLen ∧ z1.length = cap1 ∧ (∀ i, i < z1.length → w.cell? (x.add i) = some (.int .u8 (z1.getD i 0))) ∧ ∀ n ∈ z1, (Lit.int .u8 n).wf = true) :
    Calls Try.prog 10 #[.slice a0 len0 cap0, .slice a1 len1 cap1, .int .i64 a2] w fun e w' => e = .returned (.bool true) ∧ Below w.heap.size w w' := by
  obtain ⟨l0, rfl, hr0, hm0, hw0, hc0⟩ := ReadsInt.ofRowC w0
  obtain ⟨l1, rfl, hr1, hm1, hw1, hc1⟩ := ReadsInt.ofRowC w1
  obtain ⟨k, h1, h2⟩ := back_facts l0 l1 a2 (bl_of_wf hw0) (bl_of_wf hw1)
  exact back_walk k _ _ l0 _ _ l1 a2 w (Kd.C_of_reads (d := (0 : Int)) (h1 := fun _ => rfl) hr0) hc0 (Kd.C_of_reads (d := (0 : Int)) (h1 := fun _ => rfl) hr1) hc1 h1 h2
end Go.Proofs.Ythcnnfahlhklgaa.Pure
