/- The law SaisPieces, of any bytes and keys of which there are at most 2^20 each (of more than 2^45 bytes the law's own make ends the call: the law is false there by size): any order of the turns induces a row in which the turns stand by their pieces. -/
import Derived.Test.YtgnhangjacdfbaaSI
import Derived.Test.YtgnhangjacdfbaaSLw
import Derived.Test.YtgnhangjacdfbaaXx61
namespace Go.Proofs.Ytgnhangjacdfbaa.Pure
open Go.RowKit Go.Proofs.Ytgnhangjacdfbaa Go.Proofs.Ytgnhangjacdfbaa.X Go.Proofs.Ytgnhangjacdfbaa.SD Go.Proofs.Ytgnhangjacdfbaa.SM Go.Proofs.YtgnhangjacdfbaaW.PrintWords Go.Proofs.YtgnhangjacdfbaaW.PrintLast

section
variable {s : List Int}
attribute [local irreducible] cn cv fr tov rk3 loc2 ch

theorem u64_wf' {x : Int} (h : (Lit.int .u64 x).wf = true) : 0 ≤ x := by
  simp [Lit.wf, IntKind.min, IntKind.max, IntKind.signed, IntKind.bits] at h
  omega

/-- What pieceLess tells, of two places whose pieces are alike so far. -/
theorem piece_loop (hn : s.length ≤ 16777216) (r : Nat → Nat) (i j : Nat) (d : Nat) : ∀ m, s.length - (i + m) = d → i + m ≤ s.length → j + m ≤ s.length →
    ∃ x y, (∀ k, sapperlaw12_pieceLess.l0 (k + 2 * d + 2) s (tyl s) (i : Int) (j : Int) (m : Int) = some (x, y)) ∧
      (x = true → (m = 0 ∨ sm s.length (ch s) (i + m - 1) = true) → lt3 s.length (ch s) r (i + m) (j + m) = true) ∧
      (x = true → 0 < m → sm s.length (ch s) (i + m - 1) = false → lt2 s.length (ch s) r (i + m) (j + m) = true) := by
  have hty := tyl_length s
  induction d with
  | zero =>
    intro m hd hi hj
    have ha : i + m = s.length := by omega
    refine ⟨decide (j + m < s.length), decide (((i + m : Nat) : Int) = ((j + m : Nat) : Int)), fun k => ?_, fun h _ => ?_, fun h _ _ => ?_⟩
    · rw [show k + 2 * 0 + 2 = k + 1 + 1 by omega, sapperlaw12_pieceLess.l0, wp (x := (i : Int) + (m : Int)) (y := ((i + m : Nat) : Int)) (by omega) (by omega) (by omega), wp (x := (j : Int) + (m : Int)) (y := ((j + m : Nat) : Int)) (by omega) (by omega) (by omega), if_pos (by omega), sapperlaw12_pieceLess.j1, if_pos rfl, if_pos (by omega)]
      congr 2
      · rw [decide_eq_decide]; omega
    · rw [lt3_end (by omega)]; exact h
    · rw [lt2_end (by omega)]; exact h
  | succ d ih =>
    intro m hd hi hj
    have hai : i + m < s.length := by omega
    obtain ⟨x, y, g1, g2, g3⟩ : ∃ x y, (∀ k, sapperlaw12_pieceLess.j1 (k + 2 * d + 3) s (tyl s) (i : Int) (j : Int) (m : Int) ((i + m : Nat) : Int) ((j + m : Nat) : Int) (((j + m : Nat) : Int) == (s.length : Int)) = some (x, y)) ∧
      (x = true → (m = 0 ∨ sm s.length (ch s) (i + m - 1) = true) → lt3 s.length (ch s) r (i + m) (j + m) = true) ∧
      (x = true → 0 < m → sm s.length (ch s) (i + m - 1) = false → lt2 s.length (ch s) r (i + m) (j + m) = true) := by
      by_cases hb : j + m = s.length
      · refine ⟨false, (((i + m : Nat) : Int) == ((j + m : Nat) : Int)), fun k => ?_, (fun h => by cases h), (fun h => by cases h)⟩
        rw [show k + 2 * d + 3 = k + 2 * d + 2 + 1 by omega, sapperlaw12_pieceLess.j1, if_pos (by simp <;> omega), if_neg (by omega)]
      · have hbj : j + m < s.length := by omega
        have open_ : ∀ k, sapperlaw12_pieceLess.j1 (k + 2 * d + 3) s (tyl s) (i : Int) (j : Int) (m : Int) ((i + m : Nat) : Int) ((j + m : Nat) : Int) (((j + m : Nat) : Int) == (s.length : Int)) =
            (if ch s (i + m) = ch s (j + m) then (if (sm s.length (ch s) (i + m) != sm s.length (ch s) (j + m)) = true then some (!(sm s.length (ch s) (i + m)), false) else
              (if (m : Int) > 0 then (if sm s.length (ch s) (i + m) = true then (if sm s.length (ch s) (i + m - 1) = true then sapperlaw12_pieceLess.l0 (k + 2 * d + 2) s (tyl s) (i : Int) (j : Int) ((m + 1 : Nat) : Int) else some (false, true)) else sapperlaw12_pieceLess.l0 (k + 2 * d + 2) s (tyl s) (i : Int) (j : Int) ((m + 1 : Nat) : Int)) else sapperlaw12_pieceLess.l0 (k + 2 * d + 2) s (tyl s) (i : Int) (j : Int) ((m + 1 : Nat) : Int)))
              else some (decide (ch s (i + m) < ch s (j + m)), false)) := by
          intro k
          rw [show k + 2 * d + 3 = k + 2 * d + 2 + 1 by omega, sapperlaw12_pieceLess.j1, if_neg (by simp <;> omega), if_pos (by omega), if_pos (by omega), if_pos (by omega), if_pos (by omega), rd_nat, rd_nat, rdB_nat, rdB_nat, tyl_get hai, tyl_get hbj, wp (x := (m : Int) + 1) (y := ((m + 1 : Nat) : Int)) (by omega) (by omega) (by omega)]
          by_cases h0 : (m : Int) > 0
          · rw [wp (x := ((i + m : Nat) : Int) - 1) (y := ((i + m - 1 : Nat) : Int)) (by omega) (by omega) (by omega), rdB_nat, tyl_get (by omega)]
            rw [if_pos (show ((i + m : Nat) : Int) < ((tyl s).length : Int) by omega), if_pos (show ((j + m : Nat) : Int) < ((tyl s).length : Int) by omega), if_pos (show (0 : Int) ≤ ((i + m - 1 : Nat) : Int) by omega), if_pos (show ((i + m - 1 : Nat) : Int) < ((tyl s).length : Int) by omega)]
          · rw [if_pos (show ((i + m : Nat) : Int) < ((tyl s).length : Int) by omega), if_pos (show ((j + m : Nat) : Int) < ((tyl s).length : Int) by omega), if_neg h0, if_neg h0]
        obtain ⟨x, y, e1, e2, e3⟩ := ih (m + 1) (by omega) (by omega) (by omega)
        rw [show i + (m + 1) = i + m + 1 by omega, show j + (m + 1) = j + m + 1 by omega, show i + m + 1 - 1 = i + m by omega] at e2 e3
        by_cases hc : ch s (i + m) = ch s (j + m)
        · cases hs : sm s.length (ch s) (i + m) <;> cases ht : sm s.length (ch s) (j + m)
          · refine ⟨x, y, fun k => ?_, fun h h2 => ?_, fun h h2 h3 => ?_⟩
            · rw [open_, if_pos hc, hs, ht, if_neg (by simp), if_neg (show ¬ (false = true) by simp), e1, ite_self]
            · rw [lt3_bb hai hbj hc hs ht]; exact e3 h (by omega) hs
            · rw [lt2_bb hai hbj hc hs ht]; exact e3 h (by omega) hs
          · refine ⟨true, false, fun k => ?_, fun h h2 => lt3_bs hai hbj hc hs ht, fun h h2 h3 => lt2_bs hai hbj hc hs ht⟩
            rw [open_, if_pos hc, hs, ht, if_pos (by simp)]; rfl
          · refine ⟨false, false, fun k => ?_, (fun h => by cases h), (fun h => by cases h)⟩
            rw [open_, if_pos hc, hs, ht, if_pos (by simp)]; rfl
          · by_cases h0 : m = 0
            · refine ⟨x, y, fun k => ?_, fun h h2 => ?_, fun h h2 h3 => by omega⟩
              · rw [open_, if_pos hc, hs, ht, if_neg (by simp), if_neg (by omega), e1]
              · rw [lt3_ss hai hbj hc hs ht]; exact e2 h (.inr hs)
            · cases hp : sm s.length (ch s) (i + m - 1)
              · refine ⟨false, true, fun k => ?_, (fun h => by cases h), (fun h => by cases h)⟩
                rw [open_, if_pos hc, hs, ht, if_neg (by simp), if_pos (by omega), if_pos rfl, hp, if_neg (by simp)]
              · refine ⟨x, y, fun k => ?_, fun h h2 => ?_, fun h h2 h3 => by cases h3⟩
                · rw [open_, if_pos hc, hs, ht, if_neg (by simp), if_pos (by omega), if_pos rfl, hp, if_pos rfl, e1]
                · rw [lt3_ss hai hbj hc hs ht]; exact e2 h (.inr hs)
        · refine ⟨decide (ch s (i + m) < ch s (j + m)), false, fun k => ?_, fun h h2 => ?_, fun h h2 h3 => ?_⟩
          · rw [open_, if_neg hc]
          · rw [lt3_ne hai hbj hc]; exact h
          · rw [lt2_ne hai hbj hc]; exact h
    refine ⟨x, y, fun k => ?_, g2, g3⟩
    rw [show k + 2 * (d + 1) + 2 = k + 2 * d + 3 + 1 by omega, sapperlaw12_pieceLess.l0, wp (x := (i : Int) + (m : Int)) (y := ((i + m : Nat) : Int)) (by omega) (by omega) (by omega), wp (x := (j : Int) + (m : Int)) (y := ((j + m : Nat) : Int)) (by omega) (by omega) (by omega), if_neg (by omega)]
    exact g1 k

theorem piece_f (hn : s.length ≤ 16777216) (r : Nat → Nat) {i j : Nat} (hi : i ≤ s.length) (hj : j ≤ s.length) :
    ∃ x y, (∀ k, 2 * s.length + 2 ≤ k → sapperlaw12_pieceLess.f k s (tyl s) (i : Int) (j : Int) = some (x, y)) ∧ (x = true → lt3 s.length (ch s) r i j = true) := by
  obtain ⟨x, y, h1, h2, _⟩ := piece_loop hn r i j (s.length - i) 0 (by omega) (by omega) (by omega)
  refine ⟨x, y, fun k hk => ?_, fun h => h2 h (.inl rfl)⟩
  unfold sapperlaw12_pieceLess.f
  have := h1 (k - 2 * (s.length - i) - 2)
  rw [show k - 2 * (s.length - i) - 2 + 2 * (s.length - i) + 2 = k by omega, show ((0 : Nat) : Int) = 0 from rfl] at this
  exact this

/-- No turn yet, or one that stands ahead. -/
def Lst (s : List Int) (r : Nat → Nat) (q : Nat) (last : Int) : Prop := last = -1 ∨ ∃ u : Nat, last = u ∧ u < s.length ∧ rk3 s.length (ch s) r u < q
/-- The turns stand in the row by their pieces. -/
theorem pieces_l1 (hn : s.length ≤ 16777216) {r : Nat → Nat} (hr : Inj s.length (ch s) r) {row : List Int} (hrow : row.length = s.length) (hput : ∀ i, i < s.length → ch row (rk3 s.length (ch s) r i) = (i : Int)) (d : Nat) :
    ∀ q (last : Int), s.length - q = d → q ≤ s.length → Lst s r q last → ∀ k, 2 * s.length + 2 ≤ k →
      sapperlaw12_SaisPieces.l1 (k + 3 * d + 1) s (tyl s) row last (q : Int) = some true := by
  have hty := tyl_length s
  induction d with
  | zero =>
    intro q last hd hq hl k hk
    rw [sapperlaw12_SaisPieces.l1, if_neg (by omega)]
  | succ d ih =>
    intro q last hd hq hl k hk
    have hqn : q < s.length := by omega
    obtain ⟨i, hi, hip⟩ := pigeon s.length (rk3 s.length (ch s) r) (fun _ h => rk3_lt h) (fun _ _ h h' e => rk3_inj hr h h' e) q hqn
    have hrp : ch row q = (i : Int) := by rw [← hip]; exact hput i hi
    have go1 : sapperlaw12_SaisPieces.j6 (k + 3 * d + 2) s (tyl s) row last (q : Int) (i : Int) true = some true := by
      rw [show k + 3 * d + 2 = k + 3 * d + 1 + 1 by omega, sapperlaw12_SaisPieces.j6, if_pos rfl, wp (x := (q : Int) + 1) (y := ((q + 1 : Nat) : Int)) (by omega) (by omega) (by omega)]
      exact ih (q + 1) last (by omega) (by omega) (Or.imp id (fun ⟨u, h1, h2, h3⟩ => ⟨u, h1, h2, Nat.lt_succ_of_lt h3⟩) hl) k hk
    have go2 : sapperlaw12_SaisPieces.j6 (k + 3 * d + 2) s (tyl s) row last (q : Int) (i : Int) false = some true := by
      have nx := ih (q + 1) (i : Int) (by omega) (by omega) (.inr ⟨i, rfl, hi, by omega⟩) k hk
      rw [show k + 3 * d + 2 = k + 3 * d + 1 + 1 by omega, sapperlaw12_SaisPieces.j6, if_neg (by simp), wp (x := (q : Int) + 1) (y := ((q + 1 : Nat) : Int)) (by omega) (by omega) (by omega)]
      rcases hl with rfl | ⟨u, rfl, hu, hlt⟩
      · rw [if_neg (by omega)]; exact nx
      · obtain ⟨x, y, h1, h2⟩ := piece_f hn r (Nat.le_of_lt hi) (Nat.le_of_lt hu)
        have hx : x = false := by
          cases x
          · rfl
          · have := rk3_mono hi (h2 rfl); omega
        rw [if_pos (by omega), h1 _ (by omega), Option.bind_some, hx, if_neg (by simp)]; exact nx
    rw [show k + 3 * (d + 1) + 1 = k + 3 * d + 3 + 1 by omega, sapperlaw12_SaisPieces.l1, if_pos (by omega), if_pos (by omega), rd_nat, hrp, if_neg (by omega)]
    rw [show k + 3 * d + 3 = k + 3 * d + 2 + 1 by omega, sapperlaw12_SaisPieces.j5, if_neg (by simp <;> omega)]
    by_cases h0 : i = 0
    · rw [if_pos (by omega)]; exact go1
    · rw [if_neg (by omega), if_pos (by omega), if_pos (by omega), rdB_nat, tyl_get hi]
      by_cases h1 : sm s.length (ch s) i = true
      · rw [if_pos h1, wp (x := (i : Int) - 1) (y := ((i - 1 : Nat) : Int)) (by omega) (by omega) (by omega), if_pos (by omega), if_pos (by omega), rdB_nat, tyl_get (by omega)]
        cases sm s.length (ch s) (i - 1)
        · exact go2
        · exact go1
      · rw [if_neg h1]; exact go1

/-- The keys bring the turns into some order. -/
theorem pieces_l0 (keys : List Int) (hkl : keys.length ≤ 1048576) (hkw : ∀ q, q < keys.length → 0 ≤ ch keys q) (K0 : Int) (hm : (tul s).length ≤ 16777216) (d : Nat) : ∀ q (o : List Int), keys.length - q = d → q ≤ keys.length → o.Perm (tul s) →
    ∃ o' e, o'.Perm (tul s) ∧ e ≤ d ∧ ∀ k, sapperlaw12_SaisPieces.l0 (k + d + 1) keys K0 s (q : Int) (tyl s) o = sapperlaw12_SaisPieces.j2 (k + e) K0 s (tyl s) o' := by
  induction d with
  | zero =>
    intro q o hd hq hp
    refine ⟨o, 0, hp, Nat.le_refl _, fun k => ?_⟩
    rw [sapperlaw12_SaisPieces.l0, if_neg (by omega)]; rfl
  | succ d ih =>
    intro q o hd hq hp
    have hol : o.length ≤ 16777216 := by rw [hp.length_eq]; exact hm
    by_cases h0 : o.length = 0
    · refine ⟨o, d + 1, hp, Nat.le_refl _, fun k => ?_⟩
      rw [sapperlaw12_SaisPieces.l0, if_pos (by omega), if_neg (by omega)]
    · have hpos : 0 < o.length := by omega
      have hk0 := hkw q (by omega)
      obtain ⟨key, hkey⟩ : ∃ key : Nat, ch keys q = key := ⟨(ch keys q).toNat, by omega⟩
      have hA := Nat.mod_lt q hpos
      have hB := Nat.mod_lt key hpos
      obtain ⟨A, eA⟩ : ∃ A, q % o.length = A := ⟨_, rfl⟩
      obtain ⟨B, eB⟩ : ∃ B, key % o.length = B := ⟨_, rfl⟩
      have tA : Int.tmod (q : Int) (o.length : Int) = (A : Int) := by rw [← eA, Int.ofNat_tmod]
      have tB : Int.tmod (key : Int) (o.length : Int) = (B : Int) := by rw [← eB, Int.ofNat_tmod]
      rw [eA] at hA; rw [eB] at hB
      have hp2 : ((o.set A (ch o B)).set B (ch o A)).Perm (tul s) := by
        have := List.set_set_perm hA hB
        rw [ch_get hA, ch_get hB] at this
        exact this.trans hp
      obtain ⟨o', e, g1, g2, g3⟩ := ih (q + 1) _ (by omega) (by omega) hp2
      refine ⟨o', e, g1, by omega, fun k => ?_⟩
      rw [show k + (d + 1) + 1 = k + d + 1 + 1 by omega, sapperlaw12_SaisPieces.l0, if_pos (by omega), if_pos (by omega), if_neg (by omega), if_pos (by omega), IntWalk.u64_in _ ⟨by omega, by omega⟩, if_neg (by omega), rd_nat keys, hkey, tB, tA, w64 (x := (B : Int)) (by omega) (by omega), if_pos (by omega), if_pos (by omega), if_pos (by omega), if_pos (by omega), rd_nat, rd_nat, Int.toNat_natCast, Int.toNat_natCast, wp (x := (q : Int) + 1) (y := ((q + 1 : Nat) : Int)) (by omega) (by omega) (by omega)]
      exact g3 k

theorem SaisPiecesUpto (l0 : List Int) (l1 : List Int) (_ : l0.length ≤ maxLen) (_ : l0.length * 1 ≤ 140737488351232) (hw : ∀ x ∈ l0, (Lit.int .u8 x).wf = true) (_ : l1.length ≤ maxLen) (_ : l1.length * 8 ≤ 140737488351232) (hw1 : ∀ x ∈ l1, (Lit.int .u64 x).wf = true) (hl : l0.length ≤ 1048576) (hl1 : l1.length ≤ 1048576) :
    ∃ k, sapperlaw12_SaisPieces.f k l0 l1 = some true := by
  obtain ⟨K0, h0, h1, h2, h3⟩ := words_f l0 (by omega) (bytes_wf hw)
  obtain ⟨K1, h4⟩ := awake_f
  have hok : Ok K0 l0 := ⟨h1, by omega, by omega, h3⟩
  have htl : (tul l0).length ≤ l0.length := by rw [tul_length]; exact cn_le _
  obtain ⟨o, e, hp, he, g3⟩ := pieces_l0 (s := l0) l1 hl1 (fun q hq => u64_wf' (hw1 _ (ch_mem hq))) K0 (by omega) l1.length 0 (tul l0) (by omega) (by omega) (List.Perm.refl _)
  have ho := ord_of_perm hp
  obtain ⟨K3, row, p1, p2, p3⟩ := Induce_f hok ho
  refine ⟨K1 + K3 + 20 * l0.length + l1.length + 200, ?_⟩
  unfold sapperlaw12_SaisPieces.f
  rw [h0 _ (by omega), Option.bind_some, h4 _ (by omega), Option.bind_some, if_pos rfl]
  have c2 := lms_f l0 (by omega) (K1 + K3 + 19 * l0.length + l1.length + 198)
  have c3 := types_f l0 (by omega) (K1 + K3 + 19 * l0.length + l1.length + 198)
  rw [show K1 + K3 + 19 * l0.length + l1.length + 198 + l0.length + 1 = K1 + K3 + 20 * l0.length + l1.length + 199 by omega] at c2 c3
  rw [show K1 + K3 + 20 * l0.length + l1.length + 200 = K1 + K3 + 20 * l0.length + l1.length + 199 + 1 by omega, sapperlaw12_SaisPieces.j0, if_neg (by simp <;> omega), c3, Option.bind_some, c2, Option.bind_some, if_pos (by rw [tyl_length])]
  have e1 := g3 (K1 + K3 + 20 * l0.length + 198)
  rw [show K1 + K3 + 20 * l0.length + 198 + l1.length + 1 = K1 + K3 + 20 * l0.length + l1.length + 199 by omega, show ((0 : Nat) : Int) = 0 from rfl] at e1
  rw [e1, show K1 + K3 + 20 * l0.length + 198 + e = K1 + K3 + 20 * l0.length + 197 + e + 1 by omega, sapperlaw12_SaisPieces.j2, p1 _ (by omega), Option.bind_some, if_pos rfl]
  rw [show K1 + K3 + 20 * l0.length + 197 + e = K1 + K3 + 20 * l0.length + 196 + e + 1 by omega, sapperlaw12_SaisPieces.j3, if_neg (by simp [p2])]
  have e2 := pieces_l1 (s := l0) (by omega) ho.inj p2 p3 l0.length 0 (-1) (by omega) (by omega) (.inl rfl) (K1 + K3 + 17 * l0.length + 195 + e) (by omega)
  rw [show K1 + K3 + 17 * l0.length + 195 + e + 3 * l0.length + 1 = K1 + K3 + 20 * l0.length + 196 + e by omega, show ((0 : Nat) : Int) = 0 from rfl] at e2
  exact e2
end
end Go.Proofs.Ytgnhangjacdfbaa.Pure
