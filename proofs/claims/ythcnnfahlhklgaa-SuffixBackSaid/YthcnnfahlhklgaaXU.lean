/- By hand: suffix.Unturn: an array of 257 counts, three rows; the rows are followed from the end's on. -/
import Derived.Test.YthcnnfahlhklgaaXx0
namespace Go.Proofs.Ythcnnfahlhklgaa.X
open Go.RowKit Go.Proofs.YthcnnfahlhklgaaW.PrintWords Go.Proofs.YthcnnfahlhklgaaW.PrintLast Go.Proofs.YthcnnfahlhklgaaW.PrintMore
attribute [local go_sem] max2_int min2_int max_two min_two
set_option linter.unusedVariables false
set_option linter.unusedSimpArgs false

/-- How often each byte stands: the count of c at c + 1. -/
def uA (b : List Int) : Nat → List Int
  | 0 => List.replicate 257 0
  | m + 1 => (uA b m).set ((rd b m).toNat + 1) (wrap64 ((uA b m).getD ((rd b m).toNat + 1) 0 + 1))
/-- The first rows. -/
def uB (F : List Int) : Nat → List Int
  | 0 => F.set 0 1
  | m + 1 => (uB F m).set (m + 1) (wrap64 ((uB F m).getD (m + 1) 0 + (uB F m).getD m 0))
/-- The place of a row's byte. -/
def uI (e r : Nat) : Nat := if e < r then r - 1 else r
/-- Rows: what leads where, and each one's last byte. -/
def uC (b F : List Int) (e : Nat) : Nat → List Int × List Int × List Int
  | 0 => (F, List.replicate (b.length + 1) 0, List.replicate (b.length + 1) 0)
  | r + 1 => if r = e then ((uC b F e r).1, (uC b F e r).2.1.set r (-1), (uC b F e r).2.2)
    else ((uC b F e r).1.set (rd b (uI e r)).toNat (wrap64 ((uC b F e r).1.getD (rd b (uI e r)).toNat 0 + 1)), (uC b F e r).2.1.set r ((uC b F e r).1.getD (rd b (uI e r)).toNat 0), (uC b F e r).2.2.set r (rd b (uI e r)))
/-- From row to row. -/
def uD (T L : List Int) : Nat → Int → List Int → Option (Option (List Int × Int))
  | 0, row, O => some (some (O, row))
  | i + 1, row, O => if 0 ≤ row ∧ row < (T.length : Int) then (if rd T row < 0 then some none else uD T L i (rd T row) (O.set i (rd L row))) else none
def suffix_Unturn.f (l0 : List Int) (a1 : Int) : Option (List Int × Int) :=
  if l0.length > 16777216 then some ([], 130) else if a1 < 0 ∨ a1 > (l0.length : Int) then some ([], 132)
  else if l0.all (fun x => decide (0 ≤ x) && decide (x < 256)) = true then
    (let Z := uC l0 (uB (uA l0 l0.length) 256) a1.toNat (l0.length + 1)
     match uD Z.2.1 Z.2.2 l0.length 0 (List.replicate l0.length 0) with
     | none => none
     | some none => some ([], 131)
     | some (some (O, row)) => if row = a1 then some (O, 0) else some ([], 131))
  else none

/-- The array of counts, in a block of its own. -/
structure UF (w0 w : World) (g : Nat) (F : List Int) : Prop where
  hb : Below w0.heap.size w0 w
  ge : w0.heap.size ≤ g
  len : F.length = 257
  blk : w.heap[g]? = some (.cells (F.map (Value.int .i64)).toArray 92 (0, 0))
section
variable {w0 w : World} {g : Nat} {F : List Int}
theorem UF.get (h : UF w0 w g F) {q : Nat} (hq : q < 257) : w.cell? ⟨g, q, none⟩ = some (.int .i64 (F.getD q 0)) := by
  have := h.len
  rw [blk_cell h.blk q, List.getElem?_toArray, List.getElem?_map, List.getElem?_eq_getElem (by omega), List.getD_eq_getElem?_getD, List.getElem?_eq_getElem (by omega)]; rfl
theorem UF.to {F' : List Int} (h : UF w0 w g F) (e : F = F') : UF w0 w g F' := e ▸ h
theorem UF.drew (h : UF w0 w g F) : UF w0 w.drew g F := ⟨below_drew1 h.hb, h.ge, h.len, h.blk⟩
theorem UF.put (h : UF w0 w g F) (q : Nat) (x : Int) : UF w0 (w.setCell ⟨g, q, none⟩ (.int .i64 x)) g (F.set q x) :=
  ⟨below_set h.hb h.ge, h.ge, by rw [List.length_set]; exact h.len, blk_put h.blk q _ (by rw [List.setIfInBounds_toArray, List.map_set])⟩
end
theorem un_w {x : Int} (h1 : -9223372036854775808 ≤ x) (h2 : x ≤ 9223372036854775807) : wrap64 x = x := by unfold wrap64; omega
/-- The array and two rows, apart from each other. -/
structure UR (w0 w : World) (g : Nat) (F : List Int) (gT cT gL cL N : Nat) (T L : List Int) : Prop where
  uf : UF w0 w g F
  rT : (Kd.int .i64).R 3 w w0.heap.size (fun k => some k = some gT) (.slice (some ⟨gT, 0, none⟩) N cT) T
  rL : (Kd.int .u8).R 5 w w0.heap.size (fun k => some k = some gL) (.slice (some ⟨gL, 0, none⟩) N cL) L
  lT : T.length = N
  lL : L.length = N
  ne : gT ≠ gL
section
variable {w0 w : World} {g : Nat} {F : List Int} {gT cT gL cL N : Nat} {T L : List Int}
theorem UR.to {F' T' L' : List Int} (h : UR w0 w g F gT cT gL cL N T L) (e1 : F = F') (e2 : T = T') (e3 : L = L') : UR w0 w g F' gT cT gL cL N T' L' := by subst e1 e2 e3; exact h
theorem UR.putF (h : UR w0 w g F gT cT gL cL N T L) (q : Nat) (x : Int) : UR w0 (w.setCell ⟨g, q, none⟩ (.int .i64 x)) g (F.set q x) gT cT gL cL N T L :=
  ⟨h.uf.put q x, Kd.R_set h.rT h.uf.blk (by decide) q _, Kd.R_set h.rL h.uf.blk (by decide) q _, h.lT, h.lL, h.ne⟩
theorem UR.putT (h : UR w0 w g F gT cT gL cL N T L) (q : Nat) (x : Int) : UR w0 (w.setCell ⟨gT, q, none⟩ (.int .i64 x)) g F gT cT gL cL N (T.set q x) L := by
  have hp := Kd.R_putg h.rT (q : Int) x
  rw [Int.toNat_natCast] at hp
  exact ⟨⟨below_set h.uf.hb (Kd.R_base h.rT gT rfl), h.uf.ge, h.uf.len, blk_grown h.uf.blk hp.2 (Kd.R_ne h.rT h.uf.blk (by decide))⟩, hp.1, Kd.R_grown h.rL hp.2 (fun k hk e => h.ne (by injection e with e1; injection hk with e2; omega)), by rw [List.length_set]; exact h.lT, h.lL, h.ne⟩
theorem UR.putL (h : UR w0 w g F gT cT gL cL N T L) (q : Nat) (x : Int) : UR w0 (w.setCell ⟨gL, q, none⟩ (.int .u8 x)) g F gT cT gL cL N T (L.set q x) := by
  have hp := Kd.R_putg h.rL (q : Int) x
  rw [Int.toNat_natCast] at hp
  exact ⟨⟨below_set h.uf.hb (Kd.R_base h.rL gL rfl), h.uf.ge, h.uf.len, blk_grown h.uf.blk hp.2 (Kd.R_ne h.rL h.uf.blk (by decide))⟩, Kd.R_grown h.rT hp.2 (fun k hk e => h.ne (by injection e with e1; injection hk with e2; omega)), hp.1, h.lT, by rw [List.length_set]; exact h.lL, h.ne⟩
theorem UR.cellT (h : UR w0 w g F gT cT gL cL N T L) {q : Nat} (hq : q < N) : w.cell? ⟨gT, q, none⟩ = some (.int .i64 (T.getD q 0)) ∧ w.frozen? ⟨gT, q, none⟩ = false := by
  have := Kd.R_celln 0 h.rT (q : Int) (by omega) (by omega)
  rw [Int.toNat_natCast] at this
  refine ⟨this.1.trans ?_, this.2⟩
  unfold rdOf; rw [Int.toNat_natCast]
theorem UR.cellL (h : UR w0 w g F gT cT gL cL N T L) {q : Nat} (hq : q < N) : w.cell? ⟨gL, q, none⟩ = some (.int .u8 (L.getD q 0)) ∧ w.frozen? ⟨gL, q, none⟩ = false := by
  have := Kd.R_celln 0 h.rL (q : Int) (by omega) (by omega)
  rw [Int.toNat_natCast] at this
  refine ⟨this.1.trans ?_, this.2⟩
  unfold rdOf; rw [Int.toNat_natCast]
end
theorem uC_len (b F : List Int) (e m : Nat) : (uC b F e m).2.1.length = b.length + 1 ∧ (uC b F e m).2.2.length = b.length + 1 := by
  induction m with
  | zero => exact ⟨List.length_replicate, List.length_replicate⟩
  | succ m ih =>
    rw [uC]
    split
    · exact ⟨by rw [List.length_set]; exact ih.1, ih.2⟩
    · exact ⟨by rw [List.length_set]; exact ih.1, by rw [List.length_set]; exact ih.2⟩
/-- Two rows that are read, and one that is written. -/
structure UO (w0 w : World) (gT cT gL cL N : Nat) (vO : Value) (T L O : List Int) : Prop where
  hb : Below w0.heap.size w0 w
  rT : (Kd.int .i64).R 3 w w0.heap.size (fun k => some k = some gT) (.slice (some ⟨gT, 0, none⟩) N cT) T
  rL : (Kd.int .u8).R 5 w w0.heap.size (fun k => some k = some gL) (.slice (some ⟨gL, 0, none⟩) N cL) L
  rO : (Kd.int .u8).R 5 w w0.heap.size (fun k => some k = vO.ownBlock) vO O
  lT : T.length = N
  lL : L.length = N
  neT : some gT ≠ vO.ownBlock
  neL : some gL ≠ vO.ownBlock
section
variable {w0 w : World} {gT cT gL cL N : Nat} {vO : Value} {T L O : List Int}
theorem UO.putO {gO m c : Nat} (h : UO w0 w gT cT gL cL N vO T L O) (hv : vO = .slice (some ⟨gO, 0, none⟩) m c) (q : Nat) (x : Int) : UO w0 (w.setCell ⟨gO, q, none⟩ (.int .u8 x)) gT cT gL cL N vO T L (O.set q x) := by
  have hob : vO.ownBlock = some gO := by rw [hv]; rfl
  have hr := h.rO
  have hp : (Kd.int .u8).R 5 (w.setCell ⟨gO, q, none⟩ (.int .u8 x)) w0.heap.size (fun k => some k = vO.ownBlock) vO (O.set q x) ∧ w.grownBy (w.setCell ⟨gO, q, none⟩ (.int .u8 x)) (some gO) := by
    rw [hv] at hr ⊢
    have := Kd.R_putg hr (q : Int) x
    rw [Int.toNat_natCast] at this
    exact this
  exact ⟨below_set h.hb (Kd.R_base hr gO hob), Kd.R_grown h.rT hp.2 (fun k hk e => h.neT (by rw [hob, ← e]; exact hk.symm)), Kd.R_grown h.rL hp.2 (fun k hk e => h.neL (by rw [hob, ← e]; exact hk.symm)), hp.1, h.lT, h.lL, h.neT, h.neL⟩
theorem UO.cellT (h : UO w0 w gT cT gL cL N vO T L O) {q : Nat} (hq : q < N) : w.cell? ⟨gT, q, none⟩ = some (.int .i64 (T.getD q 0)) := by
  have := Kd.R_celln 0 h.rT (q : Int) (by omega) (by omega)
  rw [Int.toNat_natCast] at this
  refine this.1.trans ?_
  unfold rdOf; rw [Int.toNat_natCast]
theorem UO.cellL (h : UO w0 w gT cT gL cL N vO T L O) {q : Nat} (hq : q < N) : w.cell? ⟨gL, q, none⟩ = some (.int .u8 (L.getD q 0)) := by
  have := Kd.R_celln 0 h.rL (q : Int) (by omega) (by omega)
  rw [Int.toNat_natCast] at this
  refine this.1.trans ?_
  unfold rdOf; rw [Int.toNat_natCast]
end
theorem uD_in {T L : List Int} {j : Nat} {row : Int} {O : List Int} {z : Option (List Int × Int)} (h : uD T L (j + 1) row O = some z) : ∃ q : Nat, row = (q : Int) ∧ q < T.length ∧ ((T[q]?.getD 0 < 0 ∧ z = none) ∨ (¬ T[q]?.getD 0 < 0 ∧ uD T L j (T[q]?.getD 0) (O.set j (L[q]?.getD 0)) = some z)) := by
  rw [uD] at h
  split at h
  case isFalse => cases h
  rename_i hr
  obtain ⟨q, rfl⟩ := Int.eq_ofNat_of_zero_le hr.1
  refine ⟨q, rfl, by omega, ?_⟩
  have e1 : rd T (q : Int) = T[q]?.getD 0 := by unfold rd; rw [Int.toNat_natCast, List.getD_eq_getElem?_getD]
  have e2 : rd L (q : Int) = L[q]?.getD 0 := by unfold rd; rw [Int.toNat_natCast, List.getD_eq_getElem?_getD]
  rw [e1, e2] at h
  by_cases c : T[q]?.getD 0 < 0
  · rw [if_pos c] at h
    exact .inl ⟨c, (Option.some.inj h).symm⟩
  · rw [if_neg c] at h
    exact .inr ⟨c, h⟩
theorem uC_end (b F : List Int) {e r : Nat} (h : r = e) : uC b F e (r + 1) = ((uC b F e r).1, (uC b F e r).2.1.set r (-1), (uC b F e r).2.2) := by rw [uC, if_pos h]
theorem uC_step (b F : List Int) {e r i c : Nat} (h : r ≠ e) (hi : uI e r = i) (hc : rd b i = (c : Int)) : uC b F e (r + 1) = ((uC b F e r).1.set c (wrap64 ((uC b F e r).1[c]?.getD 0 + 1)), (uC b F e r).2.1.set r ((uC b F e r).1[c]?.getD 0), (uC b F e r).2.2.set r (c : Int)) := by
  rw [uC, if_neg h, hi, hc, Int.toNat_natCast, List.getD_eq_getElem?_getD]
theorem un_zero : Try.zeroCells92 = ((List.replicate 257 (0 : Int)).map (Value.int .i64)).toArray := by kernel_rfl
theorem uA_len (b : List Int) (m : Nat) : (uA b m).length = 257 := by
  induction m with
  | zero => exact List.length_replicate
  | succ m ih => rw [uA, List.length_set]; exact ih

set_option maxHeartbeats 16000000 in
set_option maxRecDepth 100000 in
theorem suffix_Unturn.calls (A0 : Option Addr) (c0 : Nat) (l0 : List Int) (a1 : Int) (r1 : List Int) (r2 : Int) (w : World) (hr0 : Kd.C (Kd.int .u8) w A0 l0.length l0) (hc0 : l0.length ≤ c0) (h : suffix_Unturn.f l0 a1 = some (r1, r2)) :
    Calls Try.prog 37 #[.slice A0 l0.length c0, .int .i64 a1] w fun e w' => ∃ v0_ : Value, e = .returned (.tuple #[v0_, .int .i64 r2]) ∧ Kd.R (Kd.int .u8) 5 w' w.heap.size (fun _ => True) v0_ r1 ∧ Below w.heap.size w w' := by
  have HR0 := Aside0.mk hr0
  have HC0 := Aside0.mk hc0
  have HB := Aside0.mk (Below.refl w.heap.size w)
  clear hr0 hc0
  unfold suffix_Unturn.f at h
  by_cases g1 : l0.length > 16777216
  · rw [if_pos g1] at h
    have g1b : decide (16777216 < (l0.length : Int)) = true := decide_eq_true (by omega)
    simp only [Option.some.injEq, Prod.mk.injEq] at h
    obtain ⟨rfl, rfl⟩ := h
    clear g1
    go_enter Try.func37, Try.ntmps37
    go_wp2
    go_ret2
    exact ⟨_, rfl, Kd.R_nil _ _ _ _ _, HB.out⟩
  rw [if_neg g1] at h
  have g1b : decide (16777216 < (l0.length : Int)) = false := decide_eq_false (by omega)
  by_cases g2 : a1 < 0
  · rw [if_pos (.inl g2)] at h
    simp only [Option.some.injEq, Prod.mk.injEq] at h
    obtain ⟨rfl, rfl⟩ := h
    have g2b : decide (a1 < 0) = true := decide_eq_true g2
    clear g1
    go_enter Try.func37, Try.ntmps37
    go_wp2
    go_ret2
    exact ⟨_, rfl, Kd.R_nil _ _ _ _ _, HB.out⟩
  have g2b : decide (a1 < 0) = false := decide_eq_false g2
  by_cases g3 : a1 > (l0.length : Int)
  · rw [if_pos (.inr g3)] at h
    simp only [Option.some.injEq, Prod.mk.injEq] at h
    obtain ⟨rfl, rfl⟩ := h
    have g3b : decide ((l0.length : Int) < a1) = true := decide_eq_true g3
    clear g1
    go_enter Try.func37, Try.ntmps37
    go_wp2
    go_ret2
    exact ⟨_, rfl, Kd.R_nil _ _ _ _ _, HB.out⟩
  have g3b : decide ((l0.length : Int) < a1) = false := decide_eq_false g3
  rw [if_neg (by omega)] at h
  by_cases g4 : l0.all (fun x => decide (0 ≤ x) && decide (x < 256)) = true
  case neg => rw [if_neg g4] at h; cases h
  rw [if_pos g4] at h
  have hby : ∀ q : Nat, q < l0.length → 0 ≤ rd l0 q ∧ rd l0 q < 256 := fun q hq => by
    rw [List.all_eq_true] at g4
    have := g4 (l0[q]) (List.getElem_mem hq)
    simp only [Bool.and_eq_true, decide_eq_true_eq] at this
    unfold rd
    rw [Int.toNat_natCast, List.getD_eq_getElem?_getD, List.getElem?_eq_getElem hq]
    exact this
  obtain ⟨e, rfl⟩ := Int.eq_ofNat_of_zero_le (show 0 ≤ a1 by omega)
  obtain ⟨n, hn⟩ : ∃ n : Nat, n = l0.length := ⟨_, rfl⟩
  dsimp only at h
  rw [Int.toNat_natCast] at h
  have H := Aside0.mk h
  have HY := Aside0.mk hby
  have g3c : decide (l0.length < e) = false := decide_eq_false (by omega)
  have HL := Aside0.mk (show l0.length ≤ 16777216 ∧ e ≤ l0.length by omega)
  clear h hby g4 g1 g2 g3
  go_enter Try.func37, Try.ntmps37
  go_wp2_with (fail)
  have HU := Aside0.mk (show UF w (w.alloc (.cells Try.zeroCells92 92)) w.heap.size (uA l0 0) from ⟨below_alloc HB.out _, Nat.le_refl _, uA_len _ _, by rw [un_zero]; exact blk_new _ _⟩)
  generalize w.alloc (.cells Try.zeroCells92 92) = w1 at *
  obtain ⟨g, hg⟩ : ∃ g, g = w.heap.size := ⟨_, rfl⟩
  rw [← hg] at HU
  have e7 : (Value.pointer (some ⟨w.heap.size, 0, none⟩)) = .pointer (some ⟨g, 0, none⟩) := by rw [hg]
  rw [e7]
  clear e7 hg
  clear HB
  go_loopg [35] (l0.length + 1) (fun kq v35 w' => ∃ m : Nat, v35 = .int .i64 (m : Int) ∧ Aside0 (m + kq = l0.length + 1 ∧ m ≤ l0.length) ∧ Aside0 (UF w w' g (uA l0 m)))
  case atStart => exact ⟨0, rfl, ⟨by omega⟩, HU⟩
  case round =>
    clear HU
    obtain ⟨m, rfl, HK, HU⟩ := hrel
    cases gk with
    | zero => exact absurd HK.out (by omega)
    | succ k1 =>
      have hL := HL.out
      by_cases c1 : m < l0.length
      · have c1b : decide ((m : Int) < (l0.length : Int)) = true := decide_eq_true (by omega)
        have c1c : ((m : Int) < (l0.length : Int)) = True := eq_true (by omega)
        have c2b : (0 ≤ (m : Int)) = True := eq_true (by omega)
        obtain ⟨ad, e1, hx⟩ := Kd.at_int HR0.out (m : Int) (by omega) (by omega)
        subst e1
        replace hx := (HU.out.hb.cell (World.block_lt_of_cell? w _ hx)).trans hx
        obtain ⟨y1, y2⟩ := HY.out m c1
        obtain ⟨c, hc⟩ := Int.eq_ofNat_of_zero_le y1
        rw [hc, Int.toNat_natCast] at hx
        rw [hc] at y2
        have HN := Aside0.mk (show uA l0 (m + 1) = (uA l0 m).set (c + 1) (wrap64 ((uA l0 m)[c + 1]?.getD 0 + 1)) by rw [uA, hc, List.getD_eq_getElem?_getD]; rfl)
        have k1_ := HU.out.get (q := c + 1) (by omega)
        have k2_ := blk_frozen HU.out.blk (c + 1)
        go_wp2_with (fail)
        go_roundg k1
        case measure => have := HK.out; omega
        case rel => exact ⟨m + 1, by simp, ⟨by have := HK.out; omega⟩, ⟨(HU.out.put (c + 1) _).to HN.out.symm⟩⟩
      · have hm : m = l0.length := by have := HK.out; omega
        subst hm
        have c1b : decide ((l0.length : Int) < (l0.length : Int)) = false := decide_eq_false (by omega)
        have k1_ := HU.out.get (q := 0) (by omega)
        have k2_ := blk_frozen HU.out.blk 0
        go_wp2_with (fail)
        have HU2 := Aside0.mk (HU.out.put 0 1 : UF w _ g (uB (uA l0 l0.length) 0))
        clear HU k1_ k2_
        generalize wr.setCell ⟨g, 0, none⟩ (.int .i64 1) = w2 at *
        go_loopg [10] 257 (fun kq v10 w' => ∃ m : Nat, v10 = .int .i64 ((m : Int) + 1) ∧ Aside0 (m + kq = 257 ∧ m ≤ 256) ∧ Aside0 (UF w w' g (uB (uA l0 l0.length) m)))
        case atStart => exact ⟨0, rfl, ⟨by omega⟩, HU2⟩
        case round =>
          clear HU2 HK
          obtain ⟨m, rfl, HK, HU⟩ := hrel
          cases gk with
          | zero => exact absurd HK.out (by omega)
          | succ k2 =>
            by_cases c3 : m < 256
            · have c3b : decide ((m : Int) + 1 ≤ 256) = true := decide_eq_true (by omega)
              have c3c : decide ((m : Int) < 256) = true := decide_eq_true (by omega)
              have d1 : (0 ≤ (m : Int) + 1) = True := eq_true (by omega)
              have d2 : ((m : Int) + 1 < 257) = True := eq_true (by omega)
              have d3 : (0 ≤ (m : Int)) = True := eq_true (by omega)
              have d4 : ((m : Int) < 257) = True := eq_true (by omega)
              have d5 : wrap64 (m : Int) = (m : Int) := un_w (by omega) (by omega)
              have k1_ := HU.out.get (q := m + 1) (by omega)
              have k2_ := blk_frozen HU.out.blk (m + 1)
              have k3_ := HU.out.get (q := m) (by omega)
              have HN := Aside0.mk (show uB (uA l0 l0.length) (m + 1) = (uB (uA l0 l0.length) m).set (m + 1) (wrap64 ((uB (uA l0 l0.length) m)[m + 1]?.getD 0 + (uB (uA l0 l0.length) m)[m]?.getD 0)) by rw [uB, List.getD_eq_getElem?_getD, List.getD_eq_getElem?_getD])
              go_wp2_with (fail)
              refine start_ (n := 10) (S := fun w' => w'.cell? ⟨g, m + 1, none⟩ = some (.int .i64 ((uB (uA l0 l0.length) m).getD (m + 1) 0)) ∧ w'.cell? ⟨g, m, none⟩ = some (.int .i64 ((uB (uA l0 l0.length) m).getD m 0))) (ds := [9]) #[false, false, false, false, false, false, false, false, false, false] (by kernel_rfl) rfl rfl ⟨k1_, k3_⟩ (fun hHeld => ?_)
              refine pure_ (i := 0) (N := some 52) (v := ?_) (a' := ?_) #[true, false, false, false, false, false, false, false, false, false] rfl rfl (by kernel_rfl) (fun _ _ _ h => h) (Or.inl ⟨by rfl, ?_⟩) ?_ ?_
              rotate_left
              · intro w'
                go_simp
                with_reducible rfl
              rotate_left
              · simp only [Act.put, List.setIfInBounds_toArray, List.set_cons_zero, List.set_cons_succ, i64_w, i32_w]
                rfl
              refine pure_ (i := 1) (N := some 53) (v := ?_) (a' := ?_) #[true, true, false, false, false, false, false, false, false, false] rfl rfl (by kernel_rfl) (fun _ _ _ h => h) (Or.inl ⟨by rfl, ?_⟩) ?_ ?_
              rotate_left
              · intro w'
                go_simp
                with_reducible rfl
              rotate_left
              · simp only [Act.put, List.setIfInBounds_toArray, List.set_cons_zero, List.set_cons_succ, i64_w, i32_w]
                rfl
              refine take_ (i := 2) (N := some 54) (v := ?_) (a' := ?_) #[true, true, true, false, false, false, false, false, false, false] rfl rfl (by kernel_rfl) (fun _ _ _ h => h) (Or.inl ⟨by rfl, ?_⟩) hHeld ?_ ?_
              rotate_left
              · rintro w' ⟨s1_, s2_⟩
                go_simp
                with_reducible rfl
              rotate_left
              · simp only [Act.put, List.setIfInBounds_toArray, List.set_cons_zero, List.set_cons_succ, i64_w, i32_w]
                rfl
              refine pure_ (i := 3) (N := some 55) (v := ?_) (a' := ?_) #[true, true, true, true, false, false, false, false, false, false] rfl rfl (by kernel_rfl) (fun _ _ _ h => h) (Or.inl ⟨by rfl, ?_⟩) ?_ ?_
              rotate_left
              · intro w'
                go_simp
                with_reducible rfl
              rotate_left
              · simp only [Act.put, List.setIfInBounds_toArray, List.set_cons_zero, List.set_cons_succ, i64_w, i32_w]
                rfl
              refine pure_ (i := 4) (N := some 56) (v := ?_) (a' := ?_) #[true, true, true, true, true, false, false, false, false, false] rfl rfl (by kernel_rfl) (fun _ _ _ h => h) (Or.inl ⟨by rfl, ?_⟩) ?_ ?_
              rotate_left
              · intro w'
                go_simp
                with_reducible rfl
              rotate_left
              · simp only [Act.put, List.setIfInBounds_toArray, List.set_cons_zero, List.set_cons_succ, i64_w, i32_w]
                rfl
              refine pure_ (i := 5) (N := some 57) (v := ?_) (a' := ?_) #[true, true, true, true, true, true, false, false, false, false] rfl rfl (by kernel_rfl) (fun _ _ _ h => h) (Or.inl ⟨by rfl, ?_⟩) ?_ ?_
              rotate_left
              · intro w'
                go_simp
                with_reducible rfl
              rotate_left
              · simp only [Act.put, List.setIfInBounds_toArray, List.set_cons_zero, List.set_cons_succ, i64_w, i32_w]
                rfl
              refine take_ (i := 6) (N := some 58) (v := ?_) (a' := ?_) #[true, true, true, true, true, true, true, false, false, false] rfl rfl (by kernel_rfl) (fun _ _ _ h => h) (Or.inl ⟨by rfl, ?_⟩) hHeld ?_ ?_
              rotate_left
              · rintro w' ⟨s1_, s2_⟩
                go_simp
                with_reducible rfl
              rotate_left
              · simp only [Act.put, List.setIfInBounds_toArray, List.set_cons_zero, List.set_cons_succ, i64_w, i32_w]
                rfl
              refine pure_ (i := 7) (N := some 59) (v := ?_) (a' := ?_) #[true, true, true, true, true, true, true, true, false, false] rfl rfl (by kernel_rfl) (fun _ _ _ h => h) (Or.inl ⟨by rfl, ?_⟩) ?_ ?_
              rotate_left
              · intro w'
                go_simp
                with_reducible rfl
              rotate_left
              · simp only [Act.put, List.setIfInBounds_toArray, List.set_cons_zero, List.set_cons_succ, i64_w, i32_w]
                rfl
              refine pure_ (i := 8) (N := some 60) (v := ?_) (a' := ?_) #[true, true, true, true, true, true, true, true, true, false] rfl rfl (by kernel_rfl) (fun _ _ _ h => h) (Or.inl ⟨by rfl, ?_⟩) ?_ ?_
              rotate_left
              · intro w'
                go_simp
                with_reducible rfl
              rotate_left
              · simp only [Act.put, List.setIfInBounds_toArray, List.set_cons_zero, List.set_cons_succ, i64_w, i32_w]
                rfl
              refine last_ (i := 9) (N := none) #[true, true, true, true, true, true, true, true, true, true] rfl rfl (by kernel_rfl) (by decide) (fun K hK => ?_)
              refine skip_ (w1 := ?_) (by rfl) rfl ?_ ?_
              rotate_left
              · go_simp
                rfl
              refine hK.out _ _ ?_
              clear hK K
              refine done_ (by kernel_rfl) ?_
              go_wp2_with (fail)
              go_roundg k2
              case measure => have := HK.out; omega
              case rel => exact ⟨m + 1, by simp, ⟨by have := HK.out; omega⟩, ⟨(HU.out.drew.put (m + 1) _).to HN.out.symm⟩⟩
            · have hm : m = 256 := by have := HK.out; omega
              subst hm
              generalize uB (uA l0 l0.length) 256 = F0 at HU H
              go_wp2_with (first | ((with_reducible refine gate_dst (N := 63) rfl ?_); refine Kd.R_make (Kd.int .i64) w.heap.size 3 rfl (N := 63) rfl 34 _ _ rfl ((l0.length : Int) + 1) rfl rfl Try.underlying34 (.int .i64 0) 8 info3 rfl (by decide) (by omega) 0 (ok := fun _ => True) (okp := fun _ => True) rfl (fun _ hk => hk) trivial (by omega) (by have := HL.out; omega) HU.out.hb HU.out.hb.size ?_; intro vT w3 hoT hb hg hnew; rw [show ((l0.length : Int) + 1).toNat = l0.length + 1 by omega] at hoT; have n0_ := Aside0.mk (show UF w w3 g F0 from ⟨hb, HU.out.ge, HU.out.len, blk_grown HU.out.blk hg (by simp)⟩); clear HU; have HU := n0_; obtain ⟨gT, cT, eT, _, hgT, _⟩ := Kd.R_form hoT (by simp); rw [List.length_replicate] at eT; subst eT; have HT := Aside0.mk (Kd.R_tight rfl hoT); have HGT := Aside0.mk hgT; clear n0_ hb hg hnew hoT hgT) | ((with_reducible refine gate_dst (N := 66) rfl ?_); refine Kd.R_make (Kd.int .u8) w.heap.size 5 rfl (N := 66) rfl 23 _ _ rfl ((l0.length : Int) + 1) rfl rfl Try.underlying23 (.int .u8 0) 1 info5 rfl (by decide) (by omega) 0 (ok := fun _ => True) (okp := fun _ => True) rfl (fun _ hk => hk) trivial (by omega) (by have := HL.out; omega) HU.out.hb HU.out.hb.size ?_; intro vL w4 hoL hb hg hnew; rw [show ((l0.length : Int) + 1).toNat = l0.length + 1 by omega] at hoL; obtain ⟨gL, cL, eL, _, hgL, _⟩ := Kd.R_form hoL (by simp); rw [List.length_replicate] at eL; subst eL; obtain ⟨b_, hb1_, hb2_⟩ := hnew; have hbg_ : gL = b_ := (by injection hb1_); have n0_ := Aside0.mk (show UR w w4 g F0 gT cT gL cL (l0.length + 1) (List.replicate (l0.length + 1) 0) (List.replicate (l0.length + 1) 0) from ⟨⟨hb, HU.out.ge, HU.out.len, blk_grown HU.out.blk hg (by simp)⟩, Kd.R_grown HT.out hg (fun _ _ => by simp), Kd.R_tight rfl hoL, List.length_replicate, List.length_replicate, by have := HGT.out; omega⟩); clear HU HT HGT; have HU := n0_; clear n0_ hb hg hoL hgL hb1_ hb2_ hbg_))
              go_loopg [69] (l0.length + 2) (fun kq v69 w' => ∃ r : Nat, v69 = .int .i64 (r : Int) ∧ Aside0 (r + kq = l0.length + 2 ∧ r ≤ l0.length + 1) ∧ Aside0 (UR w w' g (uC l0 F0 e r).1 gT cT gL cL (l0.length + 1) (uC l0 F0 e r).2.1 (uC l0 F0 e r).2.2))
              case atStart => exact ⟨0, rfl, ⟨by omega⟩, HU⟩
              case round =>
                clear HU HK
                obtain ⟨r, rfl, HK, HU⟩ := hrel
                cases gk with
                | zero => exact absurd HK.out (by omega)
                | succ k3 =>
                  have hL := HL.out
                  have dr1 : (0 ≤ (r : Int)) = True := eq_true (by omega)
                  by_cases c5 : r < l0.length + 1
                  · have c5b : decide ((r : Int) < (l0.length : Int) + 1) = true := decide_eq_true (by omega)
                    have dr2 : ((r : Int) < (l0.length : Int) + 1) = True := eq_true (by omega)
                    obtain ⟨lT, lL⟩ := uC_len l0 F0 e r
                    by_cases c6 : r = e
                    · subst c6
                      have HN := Aside0.mk (uC_end l0 F0 (e := r) (r := r) rfl)
                      obtain ⟨k1_, k2_⟩ := HU.out.cellT (q := r) c5
                      go_wp2_with (fail)
                      go_roundg k3
                      case measure => have := HK.out; omega
                      case rel => exact ⟨r + 1, by simp, ⟨by have := HK.out; omega⟩, by rw [HN.out]; exact ⟨HU.out.putT r (-1)⟩⟩
                    · have c6b : ((r : Int) == (e : Int)) = false := beq_eq_false_iff_ne.mpr (by omega)
                      obtain ⟨i, hi⟩ : ∃ i, uI e r = i := ⟨_, rfl⟩
                      have hil : i < l0.length := by unfold uI at hi; split at hi <;> omega
                      obtain ⟨ad, e1, hx0⟩ := Kd.at_int HR0.out (i : Int) (by omega) (by omega)
                      subst e1
                      obtain ⟨y1, y2⟩ := HY.out i hil
                      obtain ⟨c, hc⟩ := Int.eq_ofNat_of_zero_le y1
                      rw [hc, Int.toNat_natCast] at hx0
                      rw [hc] at y2
                      have HN := Aside0.mk (uC_step l0 F0 c6 hi hc)
                      have HX := Aside0.mk hx0
                      clear hx0
                      have dc1 : (0 ≤ (c : Int)) = True := eq_true (by omega)
                      have dc2 : ((c : Int) < 257) = True := eq_true (by omega)
                      have di1 : (0 ≤ (i : Int)) = True := eq_true (by omega)
                      have di2 : ((i : Int) < (l0.length : Int)) = True := eq_true (by omega)
                      have hx := (HU.out.uf.hb.cell (World.block_lt_of_cell? w _ HX.out)).trans HX.out
                      obtain ⟨k1_, k2_⟩ := HU.out.cellL (q := r) c5
                      by_cases c7 : e < r
                      · have c7b : decide ((e : Int) < (r : Int)) = true := decide_eq_true (by omega)
                        have c7c : decide (e < r) = true := decide_eq_true c7
                        have hir : ((r : Int) - 1) = (i : Int) := by unfold uI at hi; rw [if_pos c7] at hi; omega
                        have hiw : wrap64 ((r : Int) - 1) = (i : Int) := by rw [hir]; exact un_w (by omega) (by omega)
                        clear hi
                        go_wp2_with (first | ((with_reducible refine gate_store (t := 5) (p := 92) rfl ?_); refine store_event (t := 5) (p := 92) (v := ?vo_) (w1 := (wr.setCell ⟨gL, r, none⟩ (.int .u8 (c : Int)))) ?hg ?ho ?hn ?hr ?_; (case ho => rfl); (case hg => rfl); (case hn => rfl); (case hr => first | (go_simp; done) | (go_simp; rfl)); intro w9 hw; have n0_ := Aside0.mk (by rw [hw]; exact HU.out.putL r (c : Int) : UR w w9 g _ gT cT gL cL (l0.length + 1) _ _); clear HU hw k1_ k2_ hx; have HU := n0_; clear n0_; have hx := (HU.out.uf.hb.cell (World.block_lt_of_cell? w _ HX.out)).trans HX.out; obtain ⟨k1_, k2_⟩ := HU.out.cellT (q := r) c5; have k3_ := HU.out.uf.get (q := c) (by omega)) | ((with_reducible refine gate_store (t := 3) (p := 101) rfl ?_); refine store_event (t := 3) (p := 101) (v := ?vob_) (w1 := (w9.setCell ⟨gT, r, none⟩ (.int .i64 ((uC l0 F0 e r).1[c]?.getD 0)))) ?hg ?ho ?hn ?hr ?_; (case ho => rfl); (case hg => rfl); (case hn => rfl); (case hr => first | (go_simp; done) | (go_simp; rfl)); intro w10 hw; have n0_ := Aside0.mk (by rw [hw]; exact HU.out.putT r ((uC l0 F0 e r).1[c]?.getD 0) : UR w w10 g _ gT cT gL cL (l0.length + 1) _ _); clear HU hw k1_ k2_ k3_ hx; have HU := n0_; clear n0_; have hx := (HU.out.uf.hb.cell (World.block_lt_of_cell? w _ HX.out)).trans HX.out; have k3_ := HU.out.uf.get (q := c) (by omega); have k4_ := blk_frozen HU.out.uf.blk c))
                        go_roundg k3
                        case measure => have := HK.out; omega
                        case rel => exact ⟨r + 1, by simp, ⟨by have := HK.out; omega⟩, by rw [HN.out]; exact ⟨HU.out.putF c _⟩⟩
                      · have c7b : decide ((e : Int) < (r : Int)) = false := decide_eq_false (by omega)
                        have c7c : decide (e < r) = false := decide_eq_false c7
                        have hir : r = i := by unfold uI at hi; rw [if_neg c7] at hi; exact hi
                        subst hir
                        clear hi
                        go_wp2_with (first | ((with_reducible refine gate_store (t := 5) (p := 92) rfl ?_); refine store_event (t := 5) (p := 92) (v := ?vo_) (w1 := (wr.setCell ⟨gL, r, none⟩ (.int .u8 (c : Int)))) ?hg ?ho ?hn ?hr ?_; (case ho => rfl); (case hg => rfl); (case hn => rfl); (case hr => first | (go_simp; done) | (go_simp; rfl)); intro w9 hw; have n0_ := Aside0.mk (by rw [hw]; exact HU.out.putL r (c : Int) : UR w w9 g _ gT cT gL cL (l0.length + 1) _ _); clear HU hw k1_ k2_ hx; have HU := n0_; clear n0_; have hx := (HU.out.uf.hb.cell (World.block_lt_of_cell? w _ HX.out)).trans HX.out; obtain ⟨k1_, k2_⟩ := HU.out.cellT (q := r) c5; have k3_ := HU.out.uf.get (q := c) (by omega)) | ((with_reducible refine gate_store (t := 3) (p := 101) rfl ?_); refine store_event (t := 3) (p := 101) (v := ?vob_) (w1 := (w9.setCell ⟨gT, r, none⟩ (.int .i64 ((uC l0 F0 e r).1[c]?.getD 0)))) ?hg ?ho ?hn ?hr ?_; (case ho => rfl); (case hg => rfl); (case hn => rfl); (case hr => first | (go_simp; done) | (go_simp; rfl)); intro w10 hw; have n0_ := Aside0.mk (by rw [hw]; exact HU.out.putT r ((uC l0 F0 e r).1[c]?.getD 0) : UR w w10 g _ gT cT gL cL (l0.length + 1) _ _); clear HU hw k1_ k2_ k3_ hx; have HU := n0_; clear n0_; have hx := (HU.out.uf.hb.cell (World.block_lt_of_cell? w _ HX.out)).trans HX.out; have k3_ := HU.out.uf.get (q := c) (by omega); have k4_ := blk_frozen HU.out.uf.blk c))
                        go_roundg k3
                        case measure => have := HK.out; omega
                        case rel => exact ⟨r + 1, by simp, ⟨by have := HK.out; omega⟩, by rw [HN.out]; exact ⟨HU.out.putF c _⟩⟩
                  · have hr : r = l0.length + 1 := by have := HK.out; omega
                    subst hr
                    have c5b : decide (((l0.length + 1 : Nat) : Int) < (l0.length : Int) + 1) = false := decide_eq_false (by omega)
                    obtain ⟨T, hT⟩ : ∃ T, T = (uC l0 F0 e (l0.length + 1)).2.1 := ⟨_, rfl⟩
                    obtain ⟨L, hLL⟩ : ∃ L, L = (uC l0 F0 e (l0.length + 1)).2.2 := ⟨_, rfl⟩
                    rw [← hT, ← hLL] at HU H
                    clear hT hLL
                    obtain ⟨z, hz⟩ : ∃ z, uD T L l0.length 0 (List.replicate l0.length 0) = some z := by
                      have h_ := H.out
                      cases hd : uD T L l0.length 0 (List.replicate l0.length 0) with
                      | none => rw [hd] at h_; cases h_
                      | some z => exact ⟨z, rfl⟩
                    have h_ := H.out
                    rw [hz] at h_
                    clear H
                    have H := Aside0.mk h_
                    have HD := Aside0.mk hz
                    clear h_ hz
                    go_wp2_with (first | ((with_reducible refine gate_dst (N := 112) rfl ?_); refine Kd.R_make (Kd.int .u8) w.heap.size 5 rfl (N := 112) rfl 23 _ _ rfl (l0.length : Int) rfl rfl Try.underlying23 (.int .u8 0) 1 info5 rfl (by decide) (by omega) 0 (ok := fun _ => True) (okp := fun _ => True) rfl (fun _ hk => hk) trivial (by omega) (by have := HL.out; omega) HU.out.uf.hb HU.out.uf.hb.size ?_; intro vO w5 hoO hb hg hnew; rw [Int.toNat_natCast] at hoO; obtain ⟨b_, hb1_, hb2_⟩ := hnew; have n0_ := Aside0.mk (show UO w w5 gT cT gL cL (l0.length + 1) vO T L (List.replicate l0.length 0) from ⟨hb, Kd.R_grown HU.out.rT hg (fun _ _ => by simp), Kd.R_grown HU.out.rL hg (fun _ _ => by simp), Kd.R_tight rfl hoO, HU.out.lT, HU.out.lL, (fun e_ => by rw [hb1_] at e_; injection e_ with e_; have := Kd.R_lt HU.out.rT gT rfl; omega), (fun e_ => by rw [hb1_] at e_; injection e_ with e_; have := Kd.R_lt HU.out.rL gL rfl; omega)⟩); clear HU; have HU := n0_; clear n0_ hb hg hoO hb1_ hb2_))
                    go_loopg [16, 17] (l0.length + 1) (fun kq v16 v17 w' => ∃ (j : Nat) (row : Int) (O : List Int), v16 = .int .i64 row ∧ v17 = .int .i64 ((j : Int) - 1) ∧ Aside0 (j + 1 = kq ∧ j ≤ l0.length) ∧ Aside0 (uD T L j row O = some z) ∧ Aside0 (O.length = l0.length) ∧ Aside0 (UO w w' gT cT gL cL (l0.length + 1) vO T L O))
                    case atStart => exact ⟨l0.length, 0, _, rfl, by first | rfl | simp, ⟨by omega⟩, HD, ⟨List.length_replicate⟩, HU⟩
                    case round =>
                      clear HU HD HK
                      obtain ⟨j, row, O, rfl, rfl, HK, HD, HO, HU⟩ := hrel
                      have hjl := HK.out.2
                      cases gk with
                      | zero => exact absurd HK.out (by omega)
                      | succ k4 =>
                        cases j with
                        | zero =>
                          have hD := HD.out
                          rw [uD] at hD
                          obtain rfl := Option.some.inj hD
                          have h_ := H.out
                          dsimp only at h_
                          by_cases c8 : row = (e : Int)
                          · rw [if_pos c8] at h_
                            simp only [Option.some.injEq, Prod.mk.injEq] at h_
                            obtain ⟨rfl, rfl⟩ := h_
                            have c8b : (row != (e : Int)) = false := bne_eq_false_iff_eq.mpr c8
                            have c8c : (row == (e : Int)) = true := beq_iff_eq.mpr c8
                            go_wp2
                            go_ret2
                            exact ⟨_, rfl, Kd.R_mono HU.out.rO (fun _ _ => trivial), HU.out.hb⟩
                          · rw [if_neg c8] at h_
                            simp only [Option.some.injEq, Prod.mk.injEq] at h_
                            obtain ⟨rfl, rfl⟩ := h_
                            have c8b : (row != (e : Int)) = true := bne_iff_ne.mpr c8
                            have c8c : (row == (e : Int)) = false := beq_eq_false_iff_ne.mpr c8
                            go_wp2
                            go_ret2
                            exact ⟨_, rfl, Kd.R_nil _ _ _ _ _, HU.out.hb⟩
                        | succ j =>
                          obtain ⟨q, rfl, hq, hcase⟩ := uD_in HD.out
                          have hqN := hq
                          rw [HU.out.lT] at hqN
                          have e17 : ((j + 1 : Nat) : Int) - 1 = (j : Int) := by omega
                          rw [e17]
                          have d1 : (0 ≤ (q : Int)) = True := eq_true (by omega)
                          have d2 : ((q : Int) < (l0.length : Int) + 1) = True := eq_true (by omega)
                          have d3 : (0 ≤ (j : Int)) = True := eq_true (by omega)
                          have d3b : decide (0 ≤ (j : Int)) = true := decide_eq_true (by omega)
                          have d4 : ((j : Int) < (l0.length : Int)) = True := eq_true (by omega)
                          have d5 : wrap64 ((j : Int) - 1) = (j : Int) - 1 := un_w (by omega) (by omega)
                          have k1_ := HU.out.cellT hqN
                          have k2_ := HU.out.cellL hqN
                          obtain ⟨tv, htv⟩ : ∃ tv, T[q]?.getD 0 = tv := ⟨_, rfl⟩
                          obtain ⟨lv, hlv⟩ : ∃ lv, L[q]?.getD 0 = lv := ⟨_, rfl⟩
                          rw [List.getD_eq_getElem?_getD, htv] at k1_
                          rw [List.getD_eq_getElem?_getD, hlv] at k2_
                          rw [htv, hlv] at hcase
                          have HTV := Aside0.mk htv
                          clear htv hlv
                          rcases hcase with ⟨c9, rfl⟩ | ⟨c9, hD⟩
                          · have c9b : decide (tv < 0) = true := decide_eq_true c9
                            have h_ := H.out
                            simp only [Option.some.injEq, Prod.mk.injEq] at h_
                            obtain ⟨rfl, rfl⟩ := h_
                            go_wp2
                            go_ret2
                            exact ⟨_, rfl, Kd.R_nil _ _ _ _ _, HU.out.hb⟩
                          · have c9b : decide (tv < 0) = false := decide_eq_false c9
                            have hO := HO.out
                            obtain ⟨gO, cO, eO, _, _, _⟩ := Kd.R_form HU.out.rO (by omega)
                            rw [hO] at eO
                            have hR := HU.out.rO
                            rw [eO] at hR
                            obtain ⟨k3_, k4_⟩ := Kd.R_celln 0 hR (j : Int) (by omega) (by omega)
                            rw [Int.toNat_natCast] at k3_ k4_
                            have HU2 := Aside0.mk (HU.out.putO eO j lv)
                            have HO2 := Aside0.mk (show (O.set j lv).length = l0.length by rw [List.length_set]; exact hO)
                            have HD2 := Aside0.mk hD
                            clear hR hD HD HU
                            subst eO
                            go_wp2_with (first | ((with_reducible refine gate_store (t := 5) (p := 130) rfl ?_); refine store_event (t := 5) (p := 130) (v := ?voc_) (w1 := (wr.setCell ⟨gO, j, none⟩ (.int .u8 lv))) ?hg ?ho ?hn ?hr ?_; (case ho => rfl); (case hg => rfl); (case hn => rfl); (case hr => first | (go_simp; done) | (go_simp; rfl)); intro w9 hw; have n0_ := Aside0.mk (by rw [hw]; exact HU2.out : UO w w9 gT cT gL cL (l0.length + 1) _ T L _); clear HU2 hw k1_ k2_ k3_ k4_; have HU2 := n0_; clear n0_; have k1_ := HU2.out.cellT hqN; rw [List.getD_eq_getElem?_getD, HTV.out] at k1_))
                            go_roundg k4
                            case measure => have := HK.out; omega
                            case rel => exact ⟨j, _, _, rfl, by first | rfl | simp, ⟨by have := HK.out; omega⟩, HD2, HO2, HU2⟩
end Go.Proofs.Ythcnnfahlhklgaa.X
