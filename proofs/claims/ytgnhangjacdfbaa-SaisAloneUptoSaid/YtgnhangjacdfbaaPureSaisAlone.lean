/- The law SaisAlone, of any bytes and gaps that together hold at most 2^20 values (of more than 2^45 bytes the law's own make ends the call: the law is false there by size): the order hangs on which numbers are less than which alone. -/
import Derived.Test.YtgnhangjacdfbaaSLb
import Derived.Test.YtgnhangjacdfbaaXx27
namespace Go.Proofs.Ytgnhangjacdfbaa.Pure
open Go.RowKit Go.Proofs.Ytgnhangjacdfbaa Go.Proofs.Ytgnhangjacdfbaa.X Go.Proofs.Ytgnhangjacdfbaa.SD Go.Proofs.Ytgnhangjacdfbaa.SM Go.Proofs.YtgnhangjacdfbaaW.PrintWords Go.Proofs.YtgnhangjacdfbaaW.PrintLast

theorem slt_alike' {n : Nat} {c c' : Nat → Int} (h : ∀ i j, i < n → j < n → ((c i < c j ↔ c' i < c' j) ∧ (c i = c j ↔ c' i = c' j))) (d : Nat) : ∀ i j, n - i = d → slt n c i j = slt n c' i j := by
  induction d with
  | zero => intro i j hd; rw [slt_endb (by omega), slt_endb (by omega)]
  | succ d ih =>
    intro i j hd
    rcases Nat.lt_or_ge j n with hj | hj
    · have h1 := h i j (by omega) hj
      rw [Bool.eq_iff_iff, slt_in (by omega) hj, slt_in (by omega) hj, h1.1, h1.2, ih (i + 1) (j + 1) (by omega)]
    · rw [slt_to_end hj, slt_to_end hj]
theorem alone_rise {m : Nat} {to_ : Nat → Int} (h : ∀ u, u + 1 < m → to_ u < to_ (u + 1)) : ∀ u v, u < v → v < m → to_ u < to_ v := by
  intro u v huv hv
  induction v with
  | zero => omega
  | succ v ih =>
    by_cases e : u = v
    · subst e; exact h u hv
    · have := ih (by omega) (by omega)
      have := h v hv
      omega

section
variable {s : List Int}
attribute [local irreducible] cn cv fr tov rk3 loc2 ch

theorem u64_wf {x : Int} (h : (Lit.int .u64 x).wf = true) : 0 ≤ x := by
  simp [Lit.wf, IntKind.min, IntKind.max, IntKind.signed, IntKind.bits] at h
  omega

theorem alone_l0 (g : List Int) (hg : ∀ q, q < g.length → 0 ≤ ch g q) (m : Nat) (hm : m ≤ 256) (hs : s.length ≤ 16777216) (d : Nat) : ∀ v (N : Int) (t : List Int), m - v = d → v ≤ m → t.length = m → 0 ≤ N → N ≤ 1001 * v → (∀ u, u < v → 0 < ch t u ∧ ch t u ≤ N) → (∀ u, u + 1 < v → ch t u < ch t (u + 1)) →
    ∃ (N' : Int) (t' : List Int), t'.length = m ∧ 0 ≤ N' ∧ N' ≤ 1001 * m ∧ (∀ u, u < m → 0 < ch t' u ∧ ch t' u ≤ N') ∧ (∀ u, u + 1 < m → ch t' u < ch t' (u + 1)) ∧
      ∀ k, sapperlaw12_SaisAlone.l0 (k + d + 1) g (m : Int) s N (v : Int) t = sapperlaw12_SaisAlone.l1 k (m : Int) s N' 0 t' (List.replicate s.length 0) := by
  induction d with
  | zero =>
    intro v N t hd hv h1 h2 h3 h4 h5
    obtain rfl : v = m := by omega
    refine ⟨N, t, h1, h2, h3, h4, h5, fun k => ?_⟩
    rw [sapperlaw12_SaisAlone.l0, if_neg (by omega), if_pos (by omega), if_pos (by omega), Int.toNat_natCast]
  | succ d ih =>
    intro v N t hd hv h1 h2 h3 h4 h5
    have go : ∀ x : Int, N < x → x ≤ N + 1001 → ∃ (N' : Int) (t' : List Int), t'.length = m ∧ 0 ≤ N' ∧ N' ≤ 1001 * m ∧ (∀ u, u < m → 0 < ch t' u ∧ ch t' u ≤ N') ∧ (∀ u, u + 1 < m → ch t' u < ch t' (u + 1)) ∧
        ∀ k, sapperlaw12_SaisAlone.l0 (k + d + 1) g (m : Int) s x ((v + 1 : Nat) : Int) (t.set v x) = sapperlaw12_SaisAlone.l1 k (m : Int) s N' 0 t' (List.replicate s.length 0) := by
      intro x hx hx2
      refine ih (v + 1) x (t.set v x) (by omega) (by omega) (by rw [List.length_set]; exact h1) (by omega) (by omega) (fun u hu => ?_) (fun u hu => ?_)
      · rw [ch_set _ _ _ _ (by omega)]
        by_cases e : v = u
        · rw [if_pos e]; omega
        · rw [if_neg e]; have := h4 u (by omega); omega
      · rw [ch_set _ _ _ _ (by omega), ch_set _ _ _ _ (by omega), if_neg (by omega)]
        by_cases e : v = u + 1
        · rw [if_pos e]; have := h4 u (by omega); omega
        · rw [if_neg e]; exact h5 u (by omega)
    by_cases a : v < g.length
    · have hgv := hg v a
      obtain ⟨z, hz, hz0, hz1⟩ : ∃ z : Int, Int.tmod (ch g v) 1000 = z ∧ 0 ≤ z ∧ z < 1000 := ⟨_, rfl, by rw [Int.tmod_eq_emod_of_nonneg hgv]; omega, by rw [Int.tmod_eq_emod_of_nonneg hgv]; omega⟩
      obtain ⟨N', t', g1, g2, g3, g4, g5, g6⟩ := go (N + 1 + z) (by omega) (by omega)
      refine ⟨N', t', g1, g2, g3, g4, g5, fun k => ?_⟩
      rw [show k + (d + 1) + 1 = k + d + 1 + 1 by omega, sapperlaw12_SaisAlone.l0, if_pos (by omega), if_pos (by omega), if_pos (by omega), if_pos (by omega), rd_nat, hz, w64 (x := z) (by omega) (by omega), w64 (x := N + 1) (by omega) (by omega), w64 (x := N + 1 + z) (by omega) (by omega), wp (x := (v : Int) + 1) (y := ((v + 1 : Nat) : Int)) (by omega) (by omega) (by omega), Int.toNat_natCast]
      exact g6 k
    · obtain ⟨N', t', g1, g2, g3, g4, g5, g6⟩ := go (N + 1) (by omega) (by omega)
      refine ⟨N', t', g1, g2, g3, g4, g5, fun k => ?_⟩
      rw [show k + (d + 1) + 1 = k + d + 1 + 1 by omega, sapperlaw12_SaisAlone.l0, if_pos (by omega), if_neg (by omega), if_pos (by omega), if_pos (by omega), w64 (x := N + 1) (by omega) (by omega), wp (x := (v : Int) + 1) (y := ((v + 1 : Nat) : Int)) (by omega) (by omega) (by omega), Int.toNat_natCast]
      exact g6 k

theorem alone_l1 (m : Nat) (N : Int) (hs : s.length ≤ 16777216) (hb : ∀ q, q < s.length → 0 ≤ ch s q ∧ ch s q < (m : Int)) (to_ : List Int) (ht : to_.length = m) (d : Nat) : ∀ q (t : List Int), s.length - q = d → q ≤ s.length → t.length = s.length → (∀ j, j < q → ch t j = ch to_ (ch s j).toNat) →
    ∃ t', t'.length = s.length ∧ (∀ j, j < s.length → ch t' j = ch to_ (ch s j).toNat) ∧ ∀ k, sapperlaw12_SaisAlone.l1 (k + d + 1) (m : Int) s N (q : Int) to_ t = sapperlaw12_SaisAlone.l1 (k + 1) (m : Int) s N (s.length : Int) to_ t' := by
  induction d with
  | zero =>
    intro q t hd hq h1 h2
    obtain rfl : q = s.length := by omega
    exact ⟨t, h1, h2, fun k => rfl⟩
  | succ d ih =>
    intro q t hd hq h1 h2
    have hbq := hb q (by omega)
    obtain ⟨v, hv⟩ : ∃ v : Nat, ch s q = v := ⟨(ch s q).toNat, by omega⟩
    obtain ⟨t', g1, g2, g3⟩ := ih (q + 1) (t.set q (ch to_ v)) (by omega) (by omega) (by rw [List.length_set]; exact h1) (fun j hj => by
      rw [ch_set _ _ _ _ (by omega)]
      by_cases e : q = j
      · rw [if_pos e, ← e, hv, Int.toNat_natCast]
      · rw [if_neg e]; exact h2 j (by omega))
    refine ⟨t', g1, g2, fun k => ?_⟩
    rw [show k + (d + 1) + 1 = k + d + 1 + 1 by omega]
    conv => lhs; rw [sapperlaw12_SaisAlone.l1]
    rw [if_pos (by omega), if_pos (by omega), rd_nat, hv, if_pos (by omega), if_pos (by omega), if_pos (by omega), rd_nat, Int.toNat_natCast, wp (x := (q : Int) + 1) (y := ((q + 1 : Nat) : Int)) (by omega) (by omega) (by omega)]
    exact g3 k
end

theorem SaisAloneUpto (l0 : List Int) (l1 : List Int) (_ : l0.length ≤ maxLen) (_ : l0.length * 1 ≤ 140737488351232) (hw : ∀ x ∈ l0, (Lit.int .u8 x).wf = true) (_ : l1.length ≤ maxLen) (_ : l1.length * 8 ≤ 140737488351232) (hw1 : ∀ x ∈ l1, (Lit.int .u64 x).wf = true) (hl : l0.length ≤ 1048576) (_ : l1.length ≤ 1048576) :
    ∃ k, sapperlaw12_SaisAlone.f k l0 l1 = some true := by
  obtain ⟨K0, h0, h1, h2, h3⟩ := words_f l0 (by omega) (bytes_wf hw)
  obtain ⟨K1, h4⟩ := awake_f
  obtain ⟨m, hm⟩ : ∃ m : Nat, K0 = m := ⟨K0.toNat, by omega⟩
  subst hm
  obtain ⟨K2, x, g1, g2⟩ := Array_ok (k0 := (m : Int)) (s := l0) ⟨h1, by omega, by omega, h3⟩
  obtain ⟨N, to_, p1, p2, p3, p4, p5, p6⟩ := alone_l0 (s := l0) l1 (fun q hq => u64_wf (hw1 _ (ch_mem hq))) m (by omega) (by omega) m 0 0 (List.replicate m 0) (by omega) (by omega) (by simp) (by omega) (by omega) (fun u hu => by omega) (fun u hu => by omega)
  obtain ⟨t, q1, q2, q3⟩ := alone_l1 (s := l0) m N (by omega) h3 to_ p1 l0.length 0 (List.replicate l0.length 0) (by omega) (by omega) (by simp) (fun j hj => by omega)
  have hto : ∀ j, j < l0.length → (ch l0 j).toNat < m := by intro j hj; have := h3 j hj; omega
  obtain ⟨K3, y, r1, r2⟩ := Array_ok (k0 := N + 1) (s := t) ⟨by omega, by omega, by omega, fun q hq => by
    rw [q2 q (by omega)]
    have := p4 _ (hto q (by omega)); omega⟩
  have hxy : x = y := by
    refine isSA_unique g2 ⟨by rw [r2.1, q1], fun i hi => ?_⟩
    have hr := r2.2 i (by omega)
    rw [q1] at hr
    have : rank l0.length (ch l0) i = rank l0.length (ch t) i := by
      refine cn_congr fun j hj => ?_
      refine slt_alike' (fun a b ha hb => ?_) _ j i rfl
      have e1 := h3 a ha
      have e2 := h3 b hb
      rw [q2 a ha, q2 b hb]
      have rise := alone_rise (m := m) (to_ := ch to_) p5
      rcases Int.lt_trichotomy (ch l0 a) (ch l0 b) with z | z | z
      · have := rise (ch l0 a).toNat (ch l0 b).toNat (by omega) (by omega); omega
      · rw [z]; omega
      · have := rise (ch l0 b).toNat (ch l0 a).toNat (by omega) (by omega); omega
    rw [this]; exact hr
  refine ⟨K1 + K2 + K3 + 20 * l0.length + m + 200, ?_⟩
  unfold sapperlaw12_SaisAlone.f
  rw [h0 _ (by omega), Option.bind_some, h4 _ (by omega), Option.bind_some, if_pos rfl]
  dsimp only
  rw [show K1 + K2 + K3 + 20 * l0.length + m + 200 = K1 + K2 + K3 + 20 * l0.length + 198 + m + 1 + 1 by omega, sapperlaw12_SaisAlone.j0, if_neg (by simp <;> omega), if_pos (by omega), if_pos (by omega), Int.toNat_natCast]
  have e1 := p6 (K1 + K2 + K3 + 20 * l0.length + 198)
  rw [show ((0 : Nat) : Int) = 0 from rfl] at e1
  rw [e1, show K1 + K2 + K3 + 20 * l0.length + 198 = K1 + K2 + K3 + 19 * l0.length + 197 + l0.length + 1 by omega]
  have e2 := q3 (K1 + K2 + K3 + 19 * l0.length + 197)
  rw [show ((0 : Nat) : Int) = 0 from rfl] at e2
  rw [e2, sapperlaw12_SaisAlone.l1, if_neg (by omega), g1 _ (by omega), Option.bind_some, w64 (x := N + 1) (by omega) (by omega), r1 _ (by omega), Option.bind_some, if_pos rfl, if_pos rfl]
  dsimp only
  rw [← hxy, same12_ge (by rw [g2.1]; omega) (by rw [g2.1]; omega), Option.bind_some, if_pos rfl, g2.1]
  simp
end Go.Proofs.Ytgnhangjacdfbaa.Pure
