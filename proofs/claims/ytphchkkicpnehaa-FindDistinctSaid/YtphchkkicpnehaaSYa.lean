/- Seat of chapter 14: awake, index, made, Len, At, Distinct. -/
import Derived.Test.YtphchkkicpnehaaSXc0
import Derived.Test.YtphchkkicpnehaaSXe0
import Derived.Test.YtphchkkicpnehaaXA
import Derived.Test.YtphchkkicpnehaaXx44
import Derived.Test.YtphchkkicpnehaaXx14
namespace Go.Proofs.Ytphchkkicpnehaa.SD
open Go.RowKit Go.Proofs.Ytphchkkicpnehaa Go.Proofs.Ytphchkkicpnehaa.X Go.Proofs.Ytphchkkicpnehaa.SM Go.Proofs.YtphchkkicpnehaaW.PrintWords Go.Proofs.YtphchkkicpnehaaW.PrintLast

theorem awake_f : ∃ K, ∀ k, K ≤ k → sapperlaw14_awake.f k = some true := by
  have h : sapperlaw14_awake.f 400 = some true := by decide +kernel
  exact ⟨400, fun k hk => at_rounds (g := fun k => sapperlaw14_awake.f k) (fun k => sapperlaw14_awake.mono k) hk h⟩
section
variable {s : List Int} {x : S61}
attribute [local irreducible] cn cv fr tov rk3 loc2 ch rank
theorem bl_of_wf (h : ∀ x ∈ s, (Lit.int .u8 x).wf = true) : BL s := fun x hx => byte_wf' (h x hx)
theorem index_ok (hs : s.length ≤ 16777216) (hb : Byt s) : ∃ K x, (∀ k, K ≤ k → sapperlaw14_index.f k s = some ([x], true)) ∧ IsIx s x := by
  obtain ⟨K, x, h, hx⟩ := New_ok hs hb
  refine ⟨K, x, fun k hk => ?_, hx⟩
  unfold sapperlaw14_index.f
  rw [h k hk, Option.bind_some, if_neg (by omega), if_pos rfl]; rfl
theorem index_many (hs : 16777216 < s.length) (k : Nat) : sapperlaw14_index.f k s = some ([], true) := by
  unfold sapperlaw14_index.f
  rw [New_many hs, Option.bind_some, if_pos (by omega)]; rfl
theorem At_in (hx : IsIx s x) {r : Nat} (hr : r < s.length) {k : Nat} (hk : 2 ≤ k) : suffix_Index_At.f k [x] (r : Int) = some ((P x.f2 r : Int), 0) := by
  unfold suffix_Index_At.f
  have h := place1_f hx (r : Int) (k - 2)
  have hl := hx.2.2.1.1
  rw [show k - 2 + 2 = k by omega] at h
  rw [h, if_pos (by omega), Option.bind_some, if_pos rfl, if_pos (by simp), if_pos (by omega), show rd_T61 [x] 0 = x from rfl, if_pos (by omega), rd_nat, (sa_at hx.2.2.1 hr).1]
theorem made_f (hx : IsIx s x) {k : Nat} (hk : 2 ≤ k) : find_made.f k [x] = some true := by
  unfold find_made.f suffix_Index_At.f
  have h := place1_f hx (-1) (k - 2)
  rw [show k - 2 + 2 = k by omega] at h
  rw [h, if_neg (by omega), Option.bind_some, if_neg (by decide)]; rfl
theorem Len_f (hx : IsIx s x) : suffix_Index_Len.f [x] = some (s.length : Int) := by
  unfold suffix_Index_Len.f
  rw [is_f hx.1, Option.bind_some, if_pos rfl, if_pos (by simp), show rd_T61 [x] 0 = x from rfl, hx.2.1]
/-- n (n + 1) / 2, as the code reckons it. -/
theorem all_texts (hs : s.length ≤ 16777216) {sa : List Int} (h : IsSA s sa) : wrap64 (Int.tdiv (wrap64 ((s.length : Int) * (wrap64 ((s.length : Int) + 1)))) 2) = ((base s sa s.length + sumL s sa s.length : Nat) : Int) := by
  have hca := count_all h
  have hmm : s.length * (s.length + 1) ≤ 16777216 * (16777216 + 1) := Nat.mul_le_mul hs (by omega)
  have e1 : ((s.length : Int) * ((s.length + 1 : Nat) : Int)) = ((s.length * (s.length + 1) : Nat) : Int) := by simp
  rw [wp (x := (s.length : Int) + 1) (y := ((s.length + 1 : Nat) : Int)) (by omega) (by omega) (by omega), e1, wp (x := ((s.length * (s.length + 1) : Nat) : Int)) rfl (by omega) (by omega), Int.tdiv_eq_ediv_of_nonneg (by omega),
    wp (x := ((s.length * (s.length + 1) : Nat) : Int) / 2) (y := ((base s sa s.length + sumL s sa s.length : Nat) : Int)) (by omega) (by omega) (by omega)]
theorem Distinct_l0 (hs : s.length ≤ 16777216) (hx : IsIx s x) (d : Nat) : ∀ q, s.length - q = d → q ≤ s.length → ∀ k, find_Distinct.l0 (k + d + 1) ((base s x.f2 s.length + sumL s x.f2 s.length - sumL s x.f2 q : Nat) : Int) x.f4 (s.length : Int) (q : Int) = some ((base s x.f2 s.length : Int), 0) := by
  have hl := hx.2.2.2.2.2.1
  have hsm := base_small hs hx.2.2.1
  induction d with
  | zero =>
    intro q hd hq k
    have : q = s.length := by omega
    subst this
    rw [show k + 0 + 1 = k + 1 by omega, find_Distinct.l0, if_neg (by omega), Nat.add_sub_cancel]
  | succ d ih =>
    intro q hd hq k
    have g := hx.2.2.2.2.2.2 q (by omega)
    have e : sumL s x.f2 (q + 1) = sumL s x.f2 q + lcv s x.f2 q := rfl
    have hm := sumL_mono s x.f2 (show q + 1 ≤ s.length by omega)
    rw [show k + (d + 1) + 1 = k + d + 1 + 1 by omega, find_Distinct.l0, if_pos (by omega), if_pos (by omega), if_pos (by omega), rd_nat, g,
      wp (x := ((base s x.f2 s.length + sumL s x.f2 s.length - sumL s x.f2 q : Nat) : Int) - (lcv s x.f2 q : Int)) (y := ((base s x.f2 s.length + sumL s x.f2 s.length - sumL s x.f2 (q + 1) : Nat) : Int)) (by omega) (by omega) (by omega),
      wp (x := (q : Int) + 1) (y := ((q + 1 : Nat) : Int)) (by omega) (by omega) (by omega)]
    exact ih (q + 1) (by omega) (by omega) k
theorem Distinct_f (hs : s.length ≤ 16777216) (hx : IsIx s x) {k : Nat} (hk : s.length + 2 ≤ k) : find_Distinct.f k [x] = some ((base s x.f2 s.length : Int), 0) := by
  unfold find_Distinct.f
  have := Distinct_l0 hs hx s.length 0 (by omega) (by omega) (k - s.length - 1)
  rw [show k - s.length - 1 + s.length + 1 = k by omega, show ((0 : Nat) : Int) = 0 from rfl] at this
  rw [made_f hx (by omega), Option.bind_some, if_pos rfl, Len_f hx, Option.bind_some, Lcp_f hs hx, Option.bind_some, all_texts hs hx.2.2.1, hx.2.2.2.2.2.1]
  exact this
end
end Go.Proofs.Ytphchkkicpnehaa.SD
