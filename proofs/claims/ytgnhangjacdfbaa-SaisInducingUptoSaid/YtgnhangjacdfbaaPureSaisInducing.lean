/- The law SaisInducing, of any bytes of which there are at most 2^20 (of more than 2^45 the law's own make ends the call: the law is false there by size): the turns in their suffixes' order induce the whole order. -/
import Derived.Test.YtgnhangjacdfbaaSI
import Derived.Test.YtgnhangjacdfbaaSLw
import Derived.Test.YtgnhangjacdfbaaXx59
namespace Go.Proofs.Ytgnhangjacdfbaa.Pure
open Go.RowKit Go.Proofs.Ytgnhangjacdfbaa Go.Proofs.Ytgnhangjacdfbaa.X Go.Proofs.Ytgnhangjacdfbaa.SD Go.Proofs.Ytgnhangjacdfbaa.SM Go.Proofs.YtgnhangjacdfbaaW.PrintWords Go.Proofs.YtgnhangjacdfbaaW.PrintLast

section
variable {s l : List Int}
attribute [local irreducible] cn cv fr tov rk3 loc2 ch

/-- Is a place a turn? -/
def P (s : List Int) (x : Int) : Bool := trn s.length (ch s) x.toNat

theorem sa_at (h : IsSA s l) {q : Nat} (hq : q < s.length) : ∃ i : Nat, i < s.length ∧ rank s.length (ch s) i = q ∧ ch l q = i := by
  obtain ⟨i, hi, he⟩ := rank_onto (c := ch s) hq
  exact ⟨i, hi, he, by rw [← he]; exact h.2 i hi⟩
theorem sa_pw (h : IsSA s l) : l.Pairwise (fun x y => slt s.length (ch s) x.toNat y.toNat = true) := by
  refine List.pairwise_iff_getElem.2 fun a b ha hb hab => ?_
  obtain ⟨i, hi, h1, h2⟩ := sa_at h (q := a) (by rw [← h.1]; exact ha)
  obtain ⟨j, hj, h3, h4⟩ := sa_at h (q := b) (by rw [← h.1]; exact hb)
  rw [ch_get ha, ch_get hb, h2, h4, Int.toNat_natCast, Int.toNat_natCast]
  exact (rank_iff hi hj).1 (by omega)
theorem sa_perm (h : IsSA s l) : l.Perm ((List.range s.length).map (fun i : Nat => (i : Int))) := by
  refine (List.perm_ext_iff_of_nodup ?_ ?_).2 fun x => ?_
  · refine (sa_pw h).imp fun hxy e => ?_
    rw [e, slt_irr] at hxy; cases hxy
  · refine List.pairwise_map.2 (List.nodup_range.imp fun h e => h (by omega))
  · simp only [List.mem_map, List.mem_range]
    constructor
    · intro hx
      obtain ⟨a, ha, e⟩ := List.getElem_of_mem hx
      obtain ⟨i, hi, _, h2⟩ := sa_at h (q := a) (by rw [← h.1]; exact ha)
      exact ⟨i, hi, by rw [← e, ch_get ha, h2]⟩
    · rintro ⟨i, hi, rfl⟩
      have hr := rank_lt (c := ch s) hi
      have h1 := h.2 i hi
      rw [← h1, ← ch_get (by rw [h.1]; exact hr)]
      exact List.getElem_mem _
theorem turns_perm (h : IsSA s l) : (l.filter (P s)).Perm (tul s) := by
  have h1 := (sa_perm h).filter (P s)
  rw [List.filter_map] at h1
  have : (P s ∘ fun i : Nat => (i : Int)) = trn s.length (ch s) := by funext i; simp [P]
  rw [this] at h1; exact h1
theorem turns_own (h : IsSA s l) : Own s.length (ch s) (fun t => (l.filter (P s)).idxOf (t : Int)) := by
  have ho := ord_of_perm (turns_perm h)
  have hp := List.pairwise_iff_getElem.1 ((sa_pw h).filter (P s))
  have key : ∀ t u : Nat, trn s.length (ch s) t = true → trn s.length (ch s) u = true → (l.filter (P s)).idxOf (t : Int) < (l.filter (P s)).idxOf (u : Int) → slt s.length (ch s) t u = true := by
    intro t u ht hu hlt
    have h1 := ho.all t ht
    have h2 := ho.all u hu
    have := hp _ _ h1.1 h2.1 hlt
    rw [ch_get h1.1, ch_get h2.1, h1.2, h2.2, Int.toNat_natCast, Int.toNat_natCast] at this
    exact this
  intro t u ht hu
  refine ⟨key t u ht hu, fun hs => ?_⟩
  rcases Nat.lt_trichotomy ((l.filter (P s)).idxOf (t : Int)) ((l.filter (P s)).idxOf (u : Int)) with z | z | z
  · exact z
  · have : t = u := ho.inj t u ht hu z
    subst this; rw [slt_irr] at hs; cases hs
  · have := key u t hu ht z
    rw [slt_asymm hs] at this; cases this

theorem inducing_l0 (hn : s.length ≤ 16777216) (h : IsSA s l) (K0 : Int) (d : Nat) : ∀ q, s.length - q = d → q ≤ s.length → ∀ k,
    sapperlaw12_SaisInducing.l0 (k + d + 1) K0 s l (tyl s) (tul s) ((l.take q).filter (P s)) (q : Int) = sapperlaw12_SaisInducing.l0 (k + 1) K0 s l (tyl s) (tul s) (l.filter (P s)) (s.length : Int) := by
  have hl := h.1
  induction d with
  | zero =>
    intro q hd hq k
    obtain rfl : q = s.length := by omega
    rw [← hl, List.take_length]
  | succ d ih =>
    intro q hd hq k
    have hqn : q < s.length := by omega
    obtain ⟨i, hi, hr, hc⟩ := sa_at h hqn
    have htk : (l.take (q + 1)).filter (P s) = (l.take q).filter (P s) ++ (if trn s.length (ch s) i = true then [(i : Int)] else []) := by
      rw [← List.take_append_getElem (by omega), List.filter_append, ch_get (by omega), hc]
      congr 1
      by_cases ht : trn s.length (ch s) i = true
      · rw [if_pos ht]; simp [P, ht]
      · rw [if_neg ht]; simp [P, ht]
    have hlen : ((l.take q).filter (P s)).length ≤ 16777216 := Nat.le_trans (List.length_filter_le _ _) (by rw [List.length_take]; omega)
    have hty := tyl_length s
    have hstep := ih (q + 1) (by omega) (by omega) k
    rw [htk] at hstep
    rw [show k + (d + 1) + 1 = k + d + 1 + 1 by omega, sapperlaw12_SaisInducing.l0, if_pos (by omega), if_pos (by omega), rd_nat, hc, wp (x := (q : Int) + 1) (y := ((q + 1 : Nat) : Int)) (by omega) (by omega) (by omega)]
    by_cases ht : trn s.length (ch s) i = true
    · rw [if_pos ht] at hstep
      obtain ⟨t1, t2, t3⟩ := trn_iff.1 ht
      rw [if_pos (by omega), if_pos (by omega), if_pos (by omega), if_pos (by omega), rdB_nat, tyl_get hi, if_pos t2, wp (x := (i : Int) - 1) (y := ((i - 1 : Nat) : Int)) (by omega) (by omega) (by omega), if_pos (by omega), if_pos (by omega), rdB_nat, tyl_get (by omega), if_neg (by rw [t3]; simp), if_pos (by omega)]
      exact hstep
    · rw [if_neg ht, List.append_nil] at hstep
      by_cases t1 : 0 < i
      · rw [if_pos (by omega), if_pos (by omega), if_pos (by omega), if_pos (by omega), rdB_nat, tyl_get hi]
        by_cases t2 : sm s.length (ch s) i = true
        · rw [if_pos t2, wp (x := (i : Int) - 1) (y := ((i - 1 : Nat) : Int)) (by omega) (by omega) (by omega), if_pos (by omega), if_pos (by omega), rdB_nat, tyl_get (by omega)]
          by_cases t3 : sm s.length (ch s) (i - 1) = true
          · rw [if_pos t3]; exact hstep
          · exact absurd (trn_iff.2 ⟨t1, t2, by simpa using t3⟩) ht
        · rw [if_neg t2]; exact hstep
      · rw [if_neg (by omega)]; exact hstep

theorem SaisInducingUpto (l0 : List Int) (_ : l0.length ≤ maxLen) (_ : l0.length * 1 ≤ 140737488351232) (hw : ∀ x ∈ l0, (Lit.int .u8 x).wf = true) (hl : l0.length ≤ 1048576) : ∃ k, sapperlaw12_SaisInducing.f k l0 = some true := by
  obtain ⟨K0, h0, h1, h2, h3⟩ := words_f l0 (by omega) (bytes_wf hw)
  obtain ⟨K1, h4⟩ := awake_f
  have hok : Ok K0 l0 := ⟨h1, by omega, by omega, h3⟩
  obtain ⟨K2, x, g1, g2⟩ := Array_ok hok
  obtain ⟨K3, row, p1, p2, p3⟩ := Induce_f hok (ord_of_perm (turns_perm g2))
  have hx : row = x := isSA_unique ⟨p2, fun i hi => by rw [← rk3_own (turns_own g2)]; exact p3 i hi⟩ g2
  subst hx
  refine ⟨K1 + K2 + K3 + 20 * l0.length + 200, ?_⟩
  unfold sapperlaw12_SaisInducing.f
  rw [h0 _ (by omega), Option.bind_some, h4 _ (by omega), Option.bind_some, if_pos rfl]
  have c2 := lms_f l0 (by omega) (K1 + K2 + K3 + 19 * l0.length + 198)
  have c3 := types_f l0 (by omega) (K1 + K2 + K3 + 19 * l0.length + 198)
  rw [show K1 + K2 + K3 + 19 * l0.length + 198 + l0.length + 1 = K1 + K2 + K3 + 20 * l0.length + 199 by omega] at c2 c3
  rw [show K1 + K2 + K3 + 20 * l0.length + 200 = K1 + K2 + K3 + 20 * l0.length + 199 + 1 by omega, sapperlaw12_SaisInducing.j0, if_neg (by simp <;> omega), g1 _ (by omega), Option.bind_some, c3, Option.bind_some, c2, Option.bind_some, if_pos rfl, if_pos (by rw [tyl_length])]
  rw [show K1 + K2 + K3 + 20 * l0.length + 199 = K1 + K2 + K3 + 20 * l0.length + 198 + 1 by omega, sapperlaw12_SaisInducing.j1, if_neg (by simp [p2])]
  have e := inducing_l0 (l := row) (by omega) g2 K0 l0.length 0 (by omega) (by omega) (K1 + K2 + K3 + 19 * l0.length + 197)
  rw [show K1 + K2 + K3 + 19 * l0.length + 197 + l0.length + 1 = K1 + K2 + K3 + 20 * l0.length + 198 by omega, List.take_zero, List.filter_nil, show ((0 : Nat) : Int) = 0 from rfl] at e
  rw [e, sapperlaw12_SaisInducing.l0, if_neg (by omega), p1 _ (by omega), Option.bind_some, if_pos rfl, if_pos (by rw [(turns_perm g2).length_eq]), same12_ge (l := row) (by omega) (by omega)]
  rfl
end
end Go.Proofs.Ytgnhangjacdfbaa.Pure
