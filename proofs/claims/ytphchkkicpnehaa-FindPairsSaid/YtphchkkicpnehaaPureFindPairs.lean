/- The law FindPairs holds of any bytes and any text: the matches cover each pair of like bytes just once. No condition. -/
import Derived.Test.YtphchkkicpnehaaSCFindPairs
import Derived.Test.YtphchkkicpnehaaXx49
namespace Go.Proofs.Ytphchkkicpnehaa.Pure
open Go.RowKit Go.Proofs.Ytphchkkicpnehaa Go.Proofs.Ytphchkkicpnehaa.X Go.Proofs.Ytphchkkicpnehaa.SD Go.Proofs.Ytphchkkicpnehaa.SM Go.Proofs.YtphchkkicpnehaaW.PrintWords Go.Proofs.YtphchkkicpnehaaW.PrintLast

theorem rdP {a : List S51} {i : Nat} {v : S51} (h : a[i]? = some v) : rd_T51 a (i : Int) = v := by
  unfold rd_T51
  rw [Int.toNat_natCast, List.getD_eq_getElem?_getD, h]; rfl
section
variable {s p : List Int} (hs : s.length ≤ 1000) (hp : p.length ≤ 1000)
include hs hp
theorem prod_le : s.length * p.length ≤ 1000000 := Nat.mul_le_mul hs hp
theorem pairs_l1 {i j c : Nat} (hi : i < s.length) (hj : j < p.length) (hc : c = cc s p i j) (hg : ahd s p i j = false) {T : List (Nat × Nat × Nat)} (hT : ∀ a b, cov T a b = true → ¬ (i ≤ a ∧ a < i + c ∧ b + i = a + j))
    (A : List S51) (tl q : Int) {R : Bool} (next : ∃ K, ∀ k, K ≤ k → sapperlaw14_FindPairs.l0 k s p A ((bm s.length p.length (cov (T ++ [(i, j, c)]))).count true : Int) (bm s.length p.length (cov (T ++ [(i, j, c)]))) tl (wrap64 (q + 1)) = some R) (d : Nat) :
    ∀ n, c - n = d → n ≤ c → ∃ K, ∀ k, K ≤ k → sapperlaw14_FindPairs.l1 k s p A (bm s.length p.length (cov (T ++ [(i, j, n)]))) ((bm s.length p.length (cov (T ++ [(i, j, n)]))).count true : Int) (n : Int) tl q (i : Int) (j : Int) (c : Int) = some R := by
  have hf := cc_fit s p i j
  rw [← hc] at hf
  have hpr := prod_le hs hp
  induction d with
  | zero =>
    intro n hd hn
    obtain ⟨K, h⟩ := next
    have e : n = c := by omega
    subst e
    have he := cc_end s p i j
    rw [← hc] at he
    unfold ahd at hg
    rw [decide_eq_false_iff_not] at hg
    refine ⟨K + 1, fun k hk => ?_⟩
    obtain ⟨k, rfl⟩ : ∃ k', k = k' + 1 := ⟨k - 1, by omega⟩
    have h := h k (by omega)
    generalize ((bm s.length p.length (cov (T ++ [(i, j, n)]))).count true : Int) = cn at *
    generalize bm s.length p.length (cov (T ++ [(i, j, n)])) = B at *
    have rest : (if (wrap64 ((i : Int) + (n : Int))) < (s.length : Int) then (if (wrap64 ((j : Int) + (n : Int))) < (p.length : Int) then (if 0 ≤ (wrap64 ((i : Int) + (n : Int))) then (if 0 ≤ (wrap64 ((j : Int) + (n : Int))) then (if (rd s (wrap64 ((i : Int) + (n : Int)))) = (rd p (wrap64 ((j : Int) + (n : Int)))) then (some false) else (sapperlaw14_FindPairs.l0 k s p A cn B tl (wrap64 (q + 1)))) else (none)) else (none)) else (sapperlaw14_FindPairs.l0 k s p A cn B tl (wrap64 (q + 1)))) else (sapperlaw14_FindPairs.l0 k s p A cn B tl (wrap64 (q + 1)))) = some R := by
      rw [wp (x := (i : Int) + (n : Int)) (y := ((i + n : Nat) : Int)) (by omega) (by omega) (by omega), wp (x := (j : Int) + (n : Int)) (y := ((j + n : Nat) : Int)) (by omega) (by omega) (by omega)]
      by_cases c1 : i + n < s.length
      · by_cases c2 : j + n < p.length
        · rw [if_pos (by omega), if_pos (by omega), if_pos (by omega), if_pos (by omega), rd_nat, rd_nat, if_neg (fun z => he ⟨c1, c2, z⟩)]
          exact h
        · rw [if_pos (by omega), if_neg (by omega)]
          exact h
      · rw [if_neg (by omega)]
        exact h
    rw [sapperlaw14_FindPairs.l1, if_neg (by omega)]
    by_cases c1 : 0 < i
    · by_cases c2 : 0 < j
      · rw [if_pos (by omega), if_pos (by omega), wp (x := (i : Int) - 1) (y := ((i - 1 : Nat) : Int)) (by omega) (by omega) (by omega), wp (x := (j : Int) - 1) (y := ((j - 1 : Nat) : Int)) (by omega) (by omega) (by omega), if_pos (by omega), if_pos (by omega), if_pos (by omega), if_pos (by omega), rd_nat, rd_nat, if_neg (fun z => hg ⟨c1, c2, z⟩)]
        exact rest
      · rw [if_pos (by omega), if_neg (by omega)]
        exact rest
    · rw [if_neg (by omega)]
      exact rest
  | succ d ih =>
    intro n hd hn
    obtain ⟨K, h⟩ := ih (n + 1) (by omega) (by omega)
    have hk := cc_like (s := s) (p := p) (i := i) (j := j) (k := n) (by omega)
    have hcv : cov (T ++ [(i, j, n)]) (i + n) (j + n) = false := by
      cases hcc : cov (T ++ [(i, j, n)]) (i + n) (j + n) with
      | false => rfl
      | true =>
        exfalso
        obtain ⟨r, hr, h1⟩ := cov_iff.1 hcc
        rcases List.mem_append.1 hr with hr | hr
        · exact hT (i + n) (j + n) (cov_iff.2 ⟨r, hr, h1⟩) ⟨by omega, by omega, by omega⟩
        · have := List.mem_singleton.1 hr
          subst this
          have := h1.2.1
          have : i + n < i + n := this
          omega
    have hget := bm_get hk.1 hk.2.1 (cov (T ++ [(i, j, n)]))
    rw [hcv] at hget
    have hset := bm_set hk.1 hk.2.1 (fun a b => cov_next T i j n a b)
    have hcnt := cnt_set hget
    rw [hset] at hcnt
    have hix := ix_lt hk.1 hk.2.1
    have hlen := bm_len s.length p.length (cov (T ++ [(i, j, n)]))
    have hcl : (bm s.length p.length (cov (T ++ [(i, j, n + 1)]))).count true ≤ s.length * p.length := by
      have := List.count_le_length (a := true) (l := bm s.length p.length (cov (T ++ [(i, j, n + 1)])))
      rw [bm_len] at this
      exact this
    rw [hcnt] at hcl h
    generalize (bm s.length p.length (cov (T ++ [(i, j, n)]))).count true = cn at *
    rw [← hset] at h
    generalize bm s.length p.length (cov (T ++ [(i, j, n)])) = B at *
    have hm : ((j + n : Nat) : Int) * (s.length : Int) = (((j + n) * s.length : Nat) : Int) := by rw [Int.natCast_mul]
    generalize hM : (j + n) * s.length = M at *
    refine ⟨K + 1, fun k hk' => ?_⟩
    obtain ⟨k, rfl⟩ : ∃ k', k = k' + 1 := ⟨k - 1, by omega⟩
    have h := h k (by omega)
    rw [sapperlaw14_FindPairs.l1, if_pos (by omega), wp (x := (i : Int) + (n : Int)) (y := ((i + n : Nat) : Int)) (by omega) (by omega) (by omega), wp (x := (j : Int) + (n : Int)) (y := ((j + n : Nat) : Int)) (by omega) (by omega) (by omega), hm, wp (x := (M : Int)) (y := (M : Int)) (by omega) (by omega) (by omega), wp (x := (M : Int) + ((i + n : Nat) : Int)) (y := ((M + (i + n) : Nat) : Int)) (by omega) (by omega) (by omega), if_pos (by omega), if_pos (by omega), if_pos (by omega), if_pos (by omega), rd_nat, rd_nat, if_pos hk.2.2, if_pos (by omega), if_pos (by omega)]
    have hrd : rdOf false B ((M + (i + n) : Nat) : Int) = false := by
      unfold rdOf
      rw [Int.toNat_natCast, List.getD_eq_getElem?_getD, hget]; rfl
    rw [hrd, if_neg (by decide), Int.toNat_natCast, wp (x := (cn : Int) + 1) (y := ((cn + 1 : Nat) : Int)) (by omega) (by omega) (by omega), wp (x := (n : Int) + 1) (y := ((n + 1 : Nat) : Int)) (by omega) (by omega) (by omega)]
    exact h
/-- Is it a like pair? -/
def lk (s p : List Int) (a b : Nat) : Nat := if ch s a = ch p b then 1 else 0
omit hs hp in
theorem lk_le (s p : List Int) (a b : Nat) : lk s p a b ≤ 1 := by unfold lk; split <;> omega
omit hs hp in
theorem row_le (s p : List Int) (m a : Nat) : smm m (fun b => lk s p a b) ≤ m := by
  have := smm_le (n := m) (C := 1) (f := fun b => lk s p a b) (fun b => lk_le s p a b)
  omega
theorem pairs_l3 (n : Int) {i : Nat} (hi : i < s.length) {R : Bool} (next : ∃ K, ∀ k, K ≤ k → sapperlaw14_FindPairs.l2 k s p n ((smm (i + 1) (fun a => smm p.length (fun b => lk s p a b)) : Nat) : Int) ((i + 1 : Nat) : Int) = some R) (d : Nat) :
    ∀ j, p.length - j = d → j ≤ p.length → ∃ K, ∀ k, K ≤ k → sapperlaw14_FindPairs.l3 k s p n ((smm i (fun a => smm p.length (fun b => lk s p a b)) + smm j (fun b => lk s p i b) : Nat) : Int) (i : Int) (j : Int) = some R := by
  have hb : smm i (fun a => smm p.length (fun b => lk s p a b)) ≤ 1000000 := by
    have h1 := smm_le (n := i) (C := p.length) (f := fun a => smm p.length (fun b => lk s p a b)) (fun a => row_le s p p.length a)
    have h2 : i * p.length ≤ 1000 * 1000 := Nat.mul_le_mul (by omega) hp
    omega
  induction d with
  | zero =>
    intro j hd hj
    obtain ⟨K, h⟩ := next
    have e : j = p.length := by omega
    subst e
    refine ⟨K + 1, fun k hk => ?_⟩
    obtain ⟨k, rfl⟩ : ∃ k', k = k' + 1 := ⟨k - 1, by omega⟩
    rw [sapperlaw14_FindPairs.l3, if_neg (by omega), wp (x := (i : Int) + 1) (y := ((i + 1 : Nat) : Int)) (by omega) (by omega) (by omega)]
    exact h k (by omega)
  | succ d ih =>
    intro j hd hj
    obtain ⟨K, h⟩ := ih (j + 1) (by omega) (by omega)
    have hr := row_le s p j i
    refine ⟨K + 1, fun k hk => ?_⟩
    obtain ⟨k, rfl⟩ : ∃ k', k = k' + 1 := ⟨k - 1, by omega⟩
    have h := h k (by omega)
    have e : smm (j + 1) (fun b => lk s p i b) = smm j (fun b => lk s p i b) + lk s p i j := rfl
    rw [e] at h
    rw [sapperlaw14_FindPairs.l3, if_pos (by omega), if_pos (by omega), if_pos (by omega), if_pos (by omega), rd_nat, rd_nat, wp (x := (j : Int) + 1) (y := ((j + 1 : Nat) : Int)) (by omega) (by omega) (by omega)]
    generalize smm i (fun a => smm p.length (fun b => lk s p a b)) = X at *
    generalize smm j (fun b => lk s p i b) = Y at *
    unfold lk at h
    by_cases c : ch s i = ch p j
    · rw [if_pos c] at h
      rw [if_pos c, wp (x := ((X + Y : Nat) : Int) + 1) (y := ((X + (Y + 1) : Nat) : Int)) (by omega) (by omega) (by omega)]
      exact h
    · rw [if_neg c] at h
      rw [if_neg c]
      exact h
theorem pairs_l2 (n : Nat) (hn : n = smm s.length (fun a => smm p.length (fun b => lk s p a b))) (d : Nat) :
    ∀ i, s.length - i = d → i ≤ s.length → ∃ K, ∀ k, K ≤ k → sapperlaw14_FindPairs.l2 k s p (n : Int) ((smm i (fun a => smm p.length (fun b => lk s p a b)) : Nat) : Int) (i : Int) = some true := by
  induction d with
  | zero =>
    intro i hd hi
    have e : i = s.length := by omega
    subst e
    refine ⟨1, fun k hk => ?_⟩
    obtain ⟨k, rfl⟩ : ∃ k', k = k' + 1 := ⟨k - 1, by omega⟩
    rw [sapperlaw14_FindPairs.l2, if_neg (by omega), ← hn, beq_self_eq_true]
  | succ d ih =>
    intro i hd hi
    obtain ⟨K, h⟩ := pairs_l3 hs hp (n : Int) (show i < s.length by omega) (ih (i + 1) (by omega) (by omega)) p.length 0 (by omega) (by omega)
    refine ⟨K + 1, fun k hk => ?_⟩
    obtain ⟨k, rfl⟩ : ∃ k', k = k' + 1 := ⟨k - 1, by omega⟩
    rw [sapperlaw14_FindPairs.l2, if_pos (by omega)]
    exact h k (by omega)
theorem pairs_l0 (rest : List (Nat × Nat × Nat)) : ∀ T, allM s p 1 p.length = T ++ rest → ∃ K, ∀ k, K ≤ k → sapperlaw14_FindPairs.l0 k s p ((allM s p 1 p.length).map mkM) ((bm s.length p.length (cov T)).count true : Int) (bm s.length p.length (cov T)) (((allM s p 1 p.length).map mkM).length : Int) (T.length : Int) = some true := by
  have hpr := prod_le hs hp
  have hal := all_len (s := s) (p := p) 1 p.length
  rw [Nat.mul_comm] at hal
  induction rest with
  | nil =>
    intro T hA
    rw [List.append_nil] at hA
    have hcnt : (bm s.length p.length (cov T)).count true = smm s.length (fun a => smm p.length (fun b => lk s p a b)) := by
      rw [bm_cnt, ← hA, ← smm_swap s.length p.length (fun a b => lk s p a b)]
      refine smm_ext fun b hb => smm_ext fun a ha => ?_
      rw [cov_all b ha hb]
      unfold lk
      by_cases c : ch s a = ch p b
      · rw [decide_eq_true c, if_pos rfl, if_pos c]
      · rw [decide_eq_false c, if_neg (by decide), if_neg c]
    obtain ⟨K, h⟩ := pairs_l2 hs hp _ hcnt s.length 0 (by omega) (by omega)
    refine ⟨K + 1, fun k hk => ?_⟩
    obtain ⟨k, rfl⟩ : ∃ k', k = k' + 1 := ⟨k - 1, by omega⟩
    rw [sapperlaw14_FindPairs.l0, if_neg (by rw [List.length_map, hA]; omega)]
    exact h k (by omega)
  | cons m rest ih =>
    intro T hA
    obtain ⟨i, j, c⟩ := m
    obtain ⟨K, h⟩ := ih (T ++ [(i, j, c)]) (by rw [hA, List.append_assoc]; rfl)
    have hm : (i, j, c) ∈ allM s p 1 p.length := by rw [hA]; exact List.mem_append_right _ (List.mem_cons_self ..)
    have hm' := mem_all.1 hm
    have h1 : j < p.length := hm'.1
    have h2 : i < s.length := hm'.2.1
    have h3 : good s p 1 j i = true := hm'.2.2.1
    have h4 : c = cc s p i j := hm'.2.2.2
    unfold good at h3
    rw [Bool.and_eq_true, decide_eq_true_eq, ← h4] at h3
    have hg : ahd s p i j = false := by
      cases e : ahd s p i j with
      | false => rfl
      | true => rw [e] at h3; exact absurd h3.1 (by decide)
    have hf := cc_fit s p i j
    rw [← h4] at hf
    have hT : ∀ a b, cov T a b = true → ¬ (i ≤ a ∧ a < i + c ∧ b + i = a + j) := fun a b hcv hc => by
      obtain ⟨r, hr, h5⟩ := cov_iff.1 hcv
      have hr' : r ∈ allM s p 1 p.length := by rw [hA]; exact List.mem_append_left _ hr
      have hst := one_start hr' hm h5 hc
      have hap := all_apart (s := s) (p := p) 1 p.length
      rw [hA, List.pairwise_append] at hap
      exact hap.2.2 r hr (i, j, c) (List.mem_cons_self ..) hst
    have hTl : T.length + 1 ≤ (allM s p 1 p.length).length := by rw [hA, List.length_append, List.length_cons]; omega
    rw [List.length_append, List.length_singleton] at h
    obtain ⟨K', h'⟩ := pairs_l1 hs hp h2 h1 h4 hg hT ((allM s p 1 p.length).map mkM) (((allM s p 1 p.length).map mkM).length : Int) (T.length : Int) ⟨K, fun k hk => by
      rw [wp (x := (T.length : Int) + 1) (y := ((T.length + 1 : Nat) : Int)) (by omega) (by omega) (by omega)]
      exact h k hk⟩ c 0 (by omega) (by omega)
    rw [cov_zero, show ((0 : Nat) : Int) = 0 from rfl] at h'
    have e1 : rd_T51 ((allM s p 1 p.length).map mkM) (T.length : Int) = mkM (i, j, c) := rdP (by
      rw [List.getElem?_map, hA, List.getElem?_append_right (Nat.le_refl _), Nat.sub_self]; rfl)
    have f0 : (rd_T51 ((allM s p 1 p.length).map mkM) (T.length : Int)).f0 = (i : Int) := by rw [e1]; rfl
    have f1 : (rd_T51 ((allM s p 1 p.length).map mkM) (T.length : Int)).f1 = (j : Int) := by rw [e1]; rfl
    have f2 : (rd_T51 ((allM s p 1 p.length).map mkM) (T.length : Int)).f2 = (c : Int) := by rw [e1]; rfl
    refine ⟨K' + 2, fun k hk => ?_⟩
    obtain ⟨k, rfl⟩ : ∃ k', k = k' + 2 := ⟨k - 2, by omega⟩
    have h' := h' k (by omega)
    have hlm : ((allM s p 1 p.length).map mkM).length = (allM s p 1 p.length).length := List.length_map _
    rw [show k + 2 = k + 1 + 1 by omega, sapperlaw14_FindPairs.l0, if_pos (by omega), if_pos (by omega), if_pos (by omega), f0, f1, f2, if_neg (by omega), if_neg (by omega), if_neg (by omega), wp (x := (i : Int) + (c : Int)) (y := ((i + c : Nat) : Int)) (by omega) (by omega) (by omega), wp (x := (j : Int) + (c : Int)) (y := ((j + c : Nat) : Int)) (by omega) (by omega) (by omega), if_neg (by omega), decide_eq_false (by omega : ¬ ((j + c : Nat) : Int) > (p.length : Int)), sapperlaw14_FindPairs.j5, if_neg (by decide)]
    exact h'
theorem pairs_j3 : ∃ K, ∀ k, K ≤ k → sapperlaw14_FindPairs.j3 k s p ((allM s p 1 p.length).map mkM) false = some true := by
  have hpr := prod_le hs hp
  obtain ⟨K, h⟩ := pairs_l0 hs hp (allM s p 1 p.length) [] rfl
  have e : bm s.length p.length (cov []) = List.replicate (s.length * p.length) false := by
    show (List.range (s.length * p.length)).map (fun _ => false) = _
    rw [List.map_const', List.length_range]
  have e0 : (List.replicate (s.length * p.length) false).count true = 0 := by
    rw [List.count_replicate]; rfl
  rw [e, e0] at h
  have hm : (s.length : Int) * (p.length : Int) = ((s.length * p.length : Nat) : Int) := by rw [Int.natCast_mul]
  refine ⟨K + 1, fun k hk => ?_⟩
  obtain ⟨k, rfl⟩ : ∃ k', k = k' + 1 := ⟨k - 1, by omega⟩
  have h := h k (by omega)
  rw [sapperlaw14_FindPairs.j3, if_neg (by decide), hm, wp (x := ((s.length * p.length : Nat) : Int)) (y := ((s.length * p.length : Nat) : Int)) (by omega) (by omega) (by omega), if_pos (by omega), Int.toNat_natCast, if_pos (by omega)]
  exact h
theorem pairs_j2 : ∃ K, ∀ k, K ≤ k → sapperlaw14_FindPairs.j2 k s p ((allM s p 1 p.length).map mkM) (((allM s s 1 s.length).take 1).map mkM) false = some true := by
  obtain ⟨K, h⟩ := pairs_j3 hs hp
  refine ⟨K + 1, fun k hk => ?_⟩
  obtain ⟨k, rfl⟩ : ∃ k', k = k' + 1 := ⟨k - 1, by omega⟩
  have h := h k (by omega)
  rw [sapperlaw14_FindPairs.j2, if_neg (by decide)]
  by_cases c : s.length = 0
  · have e : allM s s 1 s.length = [] := by rw [c]; rfl
    rw [e, List.take_nil, if_pos (by omega), if_pos (show ((((([] : List (Nat × Nat × Nat)).map mkM).length : Nat)) : Int) = 0 from rfl), if_neg (by omega)]
    exact h
  · have e := own_one (s := s) (by omega)
    have e1 : rd_T51 ([mkM (0, 0, s.length)]) 0 = mkM (0, 0, s.length) := rfl
    have hb : (!((mkM (0, 0, s.length)).f0 == 0) || (!((mkM (0, 0, s.length)).f1 == 0) || (!((mkM (0, 0, s.length)).f2 == (s.length : Int))))) = false := by
      rw [show (mkM (0, 0, s.length)).f0 = 0 from rfl, show (mkM (0, 0, s.length)).f1 = 0 from rfl, show (mkM (0, 0, s.length)).f2 = (s.length : Int) from rfl, beq_self_eq_true, beq_self_eq_true]; rfl
    rw [e, List.map_singleton, if_neg (by omega), if_pos (by omega), if_pos (show ((([mkM (0, 0, s.length)]).length : Nat) : Int) = 1 from rfl), if_pos (show (0 : Int) < (((([mkM (0, 0, s.length)]).length : Nat)) : Int) from (by decide : (0 : Int) < 1)), e1, hb]
    exact h
end
theorem FindPairs : sapperlaw14_FindPairs.Pure := by
  intro s p _ _ hw _ _ _
  obtain ⟨K1, h1⟩ := awake_f
  by_cases hs : s.length ≤ 1000
  case neg =>
    refine ⟨K1 + 1, ?_⟩
    unfold sapperlaw14_FindPairs.f
    rw [if_pos (by omega), sapperlaw14_FindPairs.j0, if_pos rfl, h1 _ (by omega)]; rfl
  by_cases hp : p.length ≤ 1000
  case neg =>
    refine ⟨K1 + 1, ?_⟩
    unfold sapperlaw14_FindPairs.f
    rw [if_neg (by omega), decide_eq_true (by omega : (p.length : Int) > 1000), sapperlaw14_FindPairs.j0, if_pos rfl, h1 _ (by omega)]; rfl
  have hs' : s.length ≤ 16777216 := by omega
  obtain ⟨K2, x, h2, hx⟩ := index_ok hs' (byt_wf hw)
  obtain ⟨K3, h3⟩ := Matches_ok hs' hx (p := p) (by omega) (L := 1) (M := 16777216) (by omega) (by omega) (by omega)
  obtain ⟨K4, h4⟩ := Matches_ok hs' hx (p := s) (by omega) (L := 1) (M := 1) (by omega) (by omega) (by omega)
  obtain ⟨K5, h5⟩ := pairs_j2 hs hp
  have htk : (allM s p 1 p.length).take 16777216 = allM s p 1 p.length := List.take_of_length_le (by
    have h1 := all_len (s := s) (p := p) 1 p.length
    have h2 := prod_le hs hp
    rw [Nat.mul_comm] at h1
    omega)
  rw [htk] at h3
  rw [show ((1 : Nat) : Int) = 1 from rfl, show ((16777216 : Nat) : Int) = 16777216 from rfl] at h3
  rw [show ((1 : Nat) : Int) = 1 from rfl] at h4
  refine ⟨K1 + K2 + K3 + K4 + K5 + 2, ?_⟩
  unfold sapperlaw14_FindPairs.f
  rw [if_neg (by omega), decide_eq_false (by omega : ¬ (p.length : Int) > 1000), show K1 + K2 + K3 + K4 + K5 + 2 = K1 + K2 + K3 + K4 + K5 + 1 + 1 by omega, sapperlaw14_FindPairs.j0, if_neg (by decide), h2 _ (by omega), Option.bind_some]
  dsimp only
  rw [if_pos rfl, show ((([x] : List _).length : Int) == 0) = false from rfl, sapperlaw14_FindPairs.j1, if_neg (by decide), h3 _ (by omega), Option.bind_some, h4 _ (by omega), Option.bind_some]
  dsimp only
  rw [if_pos rfl, if_pos rfl, h1 _ (by omega), Option.bind_some]
  exact h5 _ (by omega)
end Go.Proofs.Ytphchkkicpnehaa.Pure
