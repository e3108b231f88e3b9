/- By hand: the document's purse in memory (a row of holders and a peak), and what it tells: find, Held, Most, Names. -/
import Derived.Test.YtbdlkpmaalhnnaaXPi
import Derived.Test.YtbdlkpmaalhnnaaSPd
namespace Go.Proofs.Ytbdlkpmaalhnnaa.X
open Go.RowKit Go.Proofs.YtbdlkpmaalhnnaaW.PrintWords Go.Proofs.YtbdlkpmaalhnnaaW.PrintLast Go.Proofs.YtbdlkpmaalhnnaaW.PrintMore
open Go.Maps Go.MuLone Go.ChangeMaps Go.WideShapes
open Go.Proofs.Ytbdlkpmaalhnnaa.SP (HD EH)
set_option linter.unusedVariables false
set_option linter.unusedSimpArgs false

def hc (h : HD) : List Value := [.string h.nm, .int .i64 h.mo, .int .i64 h.nw]
def hcs (L : List HD) : List Value := L.flatMap hc
theorem hcs_nil : hcs [] = [] := rfl
theorem hcs_cons (x : HD) (L : List HD) : hcs (x :: L) = hc x ++ hcs L := by unfold hcs; rw [List.flatMap_cons]
theorem hcs_append (L M : List HD) : hcs (L ++ M) = hcs L ++ hcs M := by unfold hcs; rw [List.flatMap_append]
theorem hcs_length : ∀ L : List HD, (hcs L).length = L.length * 3
  | [] => rfl
  | x :: L => by rw [hcs_cons, List.length_append, hcs_length L, List.length_cons]; simp [hc]; omega
theorem hcs_get {j : Nat} (hj : j < 3) : ∀ {L : List HD} {k : Nat}, k < L.length → (hcs L)[k * 3 + j]? = (hc (L.getD k default))[j]?
  | [], k, hk => absurd hk (by simp)
  | x :: L, 0, _ => by rw [hcs_cons, List.getElem?_append_left (by simp [hc]; omega)]; simp
  | x :: L, k + 1, hk => by
    rw [hcs_cons, List.getElem?_append_right (by simp [hc]; omega)]
    rw [show (k + 1) * 3 + j - (hc x).length = k * 3 + j by simp [hc]; omega, hcs_get hj (by simpa using hk)]
    rfl
theorem hcs_take (L : List HD) : ∀ k, hcs (L.take k) = (hcs L).take (k * 3) := by
  induction L with
  | nil => intro k; simp [hcs_nil]
  | cons x L ih =>
    intro k
    cases k with
    | zero => simp [hcs_nil]
    | succ k =>
      have e : (hc x).take ((k + 1) * 3) = hc x := List.take_of_length_le (by show 3 ≤ _; omega)
      rw [List.take_succ_cons, hcs_cons, hcs_cons, ih, List.take_append, show (k + 1) * 3 - (hc x).length = k * 3 from (by show (k + 1) * 3 - 3 = k * 3; omega), e]
theorem hcs_drop (L : List HD) : ∀ k, hcs (L.drop k) = (hcs L).drop (k * 3) := by
  induction L with
  | nil => intro k; simp [hcs_nil]
  | cons x L ih =>
    intro k
    cases k with
    | zero => simp
    | succ k =>
      have e : (hc x).drop ((k + 1) * 3) = [] := List.drop_of_length_le (by show 3 ≤ _; omega)
      rw [List.drop_succ_cons, hcs_cons, ih, List.drop_append, show (k + 1) * 3 - (hc x).length = k * 3 from (by show (k + 1) * 3 - 3 = k * 3; omega), e, List.nil_append]
theorem nm_eq (a b : ByteArray) : (a.toList == b.toList) = decide (a = b) := by
  rw [ByteArray.toList_eq, ByteArray.toList_eq]
  by_cases h : a = b
  · subst h; simp
  · have : a.data.toList ≠ b.data.toList := fun e => h (SP.ba_ext e)
    rw [decide_eq_false h]
    exact beq_eq_false_iff_ne.mpr this
theorem cell_new2 (w : World) (o : Obj) (u : Value) (t : TypeId) : ((w.alloc o).alloc (.cells #[u] t)).cell? ⟨w.heap.size + 1, 0, none⟩ = some u := by
  have h := blk_new (w.alloc o) (.cells #[u] t)
  rw [show (w.alloc o).heap.size = w.heap.size + 1 by simp] at h
  simp only [World.cell?, h]
  rfl
/-- The document's purse in memory. -/
structure XS (w : World) (B g : Nat) (v : Value) (L : List HD) (pk : Int) : Prop where
  blk : w.heap[g]? = some (.cells #[v, .int .i64 pk] 38)
  row : w.ownsRow B 100 3 v L.length (hcs L)
/-- Nothing but block g and the row r (and what is new) has turned. -/
structure Tw (g : Nat) (r : Option Nat) (w w' : World) : Prop where
  os : w'.os = w.os
  tape : w'.tape = w.tape
  output : w'.output = w.output
  size : w.heap.size ≤ w'.heap.size
  block : ∀ i, i < w.heap.size → i ≠ g → some i ≠ r → w'.heap[i]? = w.heap[i]?
theorem Tw.of_below {g : Nat} {r : Option Nat} {w w' : World} (h : Below w.heap.size w w') : Tw g r w w' := ⟨h.os, h.tape, h.output, h.size, fun i hi _ _ => h.block i hi⟩
theorem Tw.trans {g : Nat} {r : Option Nat} {a b c : World} (h : Tw g r a b) (k : Tw g r b c) : Tw g r a c := ⟨k.os.trans h.os, k.tape.trans h.tape, k.output.trans h.output, Nat.le_trans h.size k.size, fun i hi h1 h2 => (k.block i (Nat.lt_of_lt_of_le hi h.size) h1 h2).trans (h.block i hi h1 h2)⟩
theorem Tw.below {g B : Nat} {r : Option Nat} {w w' : World} (h : Tw g r w w') (hg : B ≤ g) (hr : ∀ k, r = some k → B ≤ k) (hs : B ≤ w.heap.size) : Below B w w' := ⟨h.os, h.tape, h.output, h.size, fun i hi => h.block i (by omega) (by omega) (fun e => by have := hr i e.symm; omega)⟩
section
variable {w w' : World} {B g : Nat} {v : Value} {L : List HD} {pk : Int}
theorem XS.lt (h : XS w B g v L pk) : g < w.heap.size := blk_lt h.blk
theorem XS.below (h : XS w B g v L pk) (hB : Below w.heap.size w w') : XS w' B g v L pk := ⟨blk_below h.blk hB, pw_own_below h.row hB⟩
theorem XS.ne (h : XS w B g v L pk) : some g ≠ v.ownBlock := own_ne h.row h.blk (by decide)
theorem XS.cell (h : XS w B g v L pk) : w.cell? ⟨g, 0, none⟩ = some v ∧ w.cell? ⟨g, 1, none⟩ = some (.int .i64 pk) := ⟨by simp [World.cell?, h.blk], by simp [World.cell?, h.blk]⟩
theorem XS.frozen (h : XS w B g v L pk) (i : Nat) : w.frozen? ⟨g, i, none⟩ = false := by simp [World.frozen?, h.blk]
theorem XS.slice (h : XS w B g v L pk) : ∃ A c, v = .slice A L.length c := own_slice h.row
/-- One holder's cells. -/
theorem XS.at_ (h : XS w B g v L pk) {i : Int} (h0 : 0 ≤ i) (h1 : i < L.length) : ∃ ad c, v = .slice (some ad) L.length c ∧ w.cell? (ad.add (i.toNat * 3)) = some (.string (L.getD i.toNat default).nm) ∧ w.cell? ⟨(ad.add (i.toNat * 3)).block, (ad.add (i.toNat * 3)).off + 1, none⟩ = some (.int .i64 (L.getD i.toNat default).mo) ∧ w.cell? ⟨(ad.add (i.toNat * 3)).block, (ad.add (i.toNat * 3)).off + 2, none⟩ = some (.int .i64 (L.getD i.toNat default).nw) := by
  have hk : i.toNat < L.length := by omega
  rcases h.row.2 with ⟨rfl, hn⟩ | ⟨gr, cap, cur, rfl, hbase, hb, hh⟩
  · have := h.row.1
    rw [hcs_length] at this
    omega
  · have hc := h.row.cells (g := gr) rfl
    refine ⟨⟨gr, 0, none⟩, cap, rfl, ?_, ?_, ?_⟩
    · exact hc (i.toNat * 3) _ (by have := hcs_get (j := 0) (by omega) hk; rw [Nat.add_zero] at this; rw [this]; rfl)
    · rw [← add_field _ _ 1 (by omega)]
      exact hc (i.toNat * 3 + 1) _ (by rw [hcs_get (j := 1) (by omega) hk]; rfl)
    · rw [← add_field _ _ 2 (by omega)]
      exact hc (i.toNat * 3 + 2) _ (by rw [hcs_get (j := 2) (by omega) hk]; rfl)
end
theorem next_round {i : Int} {n : Nat} (h0 : 0 ≤ i) (h1 : i < (n : Int)) (hn : n ≤ 1024) : wrap64 (i + 1) = i + 1 := by unfold wrap64; omega
set_option maxHeartbeats 2000000 in
set_option maxRecDepth 100000 in
theorem find_ok {w : World} {B g : Nat} {v : Value} {L : List HD} {pk : Int} {s : ByteArray} (h : XS w B g v L pk) (hm : L.length ≤ 1024) : Calls Try.prog 48 #[.pointer (some ⟨g, 0, none⟩), .string s] w fun e w' => (∃ r : Int, e = .returned (.int .i64 r) ∧ ((r = -1 ∧ ∀ x ∈ L, x.nm ≠ s) ∨ (0 ≤ r ∧ r < (L.length : Int) ∧ (L.getD r.toNat default).nm = s))) ∧ Below w.heap.size w w' := by
  obtain ⟨x0, x1⟩ := h.cell
  obtain ⟨A, c, rfl⟩ := h.slice
  have HX := Aside0.mk h
  have HM := Aside0.mk hm
  clear h hm
  go_enter Try.func48, Try.ntmps48
  go_wp2_with (fail)
  clear x0 x1
  go_loopw [12] (fun v12 wr => ∃ i : Int, v12 = .int .i64 i ∧ 0 ≤ i ∧ i ≤ (L.length : Int) ∧ Aside0 (∀ j, j < i.toNat → (L.getD j default).nm ≠ s) ∧ Aside0 (Below w.heap.size w wr)) (fun v12 _ => L.length - (intOf v12).toNat)
  case atStart => exact ⟨0, rfl, by omega, by omega, ⟨fun j hj => absurd hj (by simp)⟩, ⟨Below.refl _ _⟩⟩
  case round =>
    obtain ⟨i, rfl, hi0, hi1, HN, HB⟩ := hrel
    by_cases ci : i < (L.length : Int)
    case neg =>
      have cib : decide (i < (L.length : Int)) = false := decide_eq_false ci
      have hno : ∀ x ∈ L, x.nm ≠ s := fun x hx => by
        obtain ⟨j, hj, e⟩ := List.mem_iff_getElem.1 hx
        have := HN.out j (by omega)
        rw [show L.getD j default = L[j] by simp [List.getD, hj], e] at this
        exact this
      have HNO := Aside0.mk hno
      clear ci hi0 hi1 hno
      go_wp2
      go_ret
      exact ⟨⟨_, rfl, .inl ⟨rfl, HNO.out⟩⟩, HB.out⟩
    case pos =>
      have cib : decide (i < (L.length : Int)) = true := decide_eq_true ci
      obtain ⟨ad, c2, e, y0, y1, y2⟩ := (HX.out.below HB.out).at_ hi0 ci
      injection e with e _ _
      subst e
      obtain ⟨x, hx⟩ : ∃ x, x = L.getD i.toNat default := ⟨_, rfl⟩
      rw [← hx] at y0 y1 y2
      by_cases ce : x.nm = s
      · have ceb : (x.nm.toList == s.toList) = true := by rw [nm_eq]; exact decide_eq_true ce
        have HB2 := Aside0.mk (below_alloc HB.out (.cells #[.string x.nm, .int .i64 x.mo, .int .i64 x.nw] 100))
        have HE : Aside0 (0 ≤ i ∧ i < (L.length : Int) ∧ (L.getD i.toNat default).nm = s) := ⟨⟨hi0, ci, by rw [← hx]; exact ce⟩⟩
        clear hx ce
        go_wp2
        go_ret
        exact ⟨⟨_, rfl, .inr HE.out⟩, HB2.out⟩
      · have ceb : (x.nm.toList == s.toList) = false := by rw [nm_eq]; exact decide_eq_false ce
        have HB2 := Aside0.mk (below_alloc HB.out (.cells #[.string x.nm, .int .i64 x.mo, .int .i64 x.nw] 100))
        have HN2 : Aside0 (∀ j, j < (i + 1).toNat → (L.getD j default).nm ≠ s) := ⟨fun j hj => by
          by_cases c : j < i.toNat
          · exact HN.out j c
          · rw [show j = i.toNat by omega, ← hx]; exact ce⟩
        clear hx ce
        go_wp2_with (fail)
        have e1 := next_round hi0 ci HM.out
        rw [e1]
        exact ⟨⟨i + 1, rfl, by omega, by omega, HN2, HB2⟩, by simp [intOf]; omega⟩
theorem sumOf_append (f : Int → Int → Int) : ∀ (E F : List (Lit × DataW Unit)), sumOf f (E ++ F) = sumOf f E + sumOf f F
  | [], F => by simp [sumOf]
  | x :: E, F => by rw [List.cons_append, sumOf, sumOf, sumOf_append f E F]; omega
theorem sum_take (f : Int → Int → Int) {L : List HD} {i : Int} (h0 : 0 ≤ i) (h1 : i < (L.length : Int)) : sumOf f (EH (L.take (i + 1).toNat)) = sumOf f (EH (L.take i.toNat)) + f (L.getD i.toNat default).mo (L.getD i.toNat default).nw := by
  have hk : i.toNat < L.length := by omega
  rw [show (i + 1).toNat = i.toNat + 1 by omega, List.take_succ_eq_append_getElem hk, show EH (L.take i.toNat ++ [L[i.toNat]]) = EH (L.take i.toNat) ++ EH [L[i.toNat]] from List.map_append, sumOf_append]
  rw [show L.getD i.toNat default = L[i.toNat] by simp [List.getD, hk]]
  simp [sumOf, el, SP.ent1, SP.hd]
set_option maxHeartbeats 2000000 in
set_option maxRecDepth 100000 in
theorem dHeld_ok {w : World} {B g : Nat} {v : Value} {L : List HD} {pk : Int} (h : XS w B g v L pk) (hm : L.length ≤ 1024) : Calls Try.prog 19 #[.pointer (some ⟨g, 0, none⟩)] w fun e w' => e = .returned (.int .i64 (wrap64 (sumD (fun _ b => b) (.map (EH L))))) ∧ Below w.heap.size w w' := by
  obtain ⟨x0, x1⟩ := h.cell
  obtain ⟨A, c, rfl⟩ := h.slice
  have HX := Aside0.mk h
  have HM := Aside0.mk hm
  clear h hm
  go_enter Try.func19, Try.ntmps19
  go_wp2_with (fail)
  clear x0 x1
  go_loopw [3, 11] (fun v3 v11 wr => ∃ i z : Int, v11 = .int .i64 i ∧ v3 = .int .i64 z ∧ 0 ≤ i ∧ i ≤ (L.length : Int) ∧ Aside0 (z = wrap64 (sumOf (fun _ b => b) (EH (L.take i.toNat)))) ∧ Aside0 (Below w.heap.size w wr)) (fun _ v11 _ => L.length - (intOf v11).toNat)
  case atStart => exact ⟨0, 0, rfl, rfl, by omega, by omega, ⟨by simp [sumOf, wrap64]⟩, ⟨Below.refl _ _⟩⟩
  case round =>
    obtain ⟨i, z, rfl, rfl, hi0, hi1, HZ, HB⟩ := hrel
    by_cases ci : i < (L.length : Int)
    case neg =>
      have cib : decide (i < (L.length : Int)) = false := decide_eq_false ci
      have hz := HZ.out
      rw [show i.toNat = L.length by omega, List.take_length] at hz
      have HZ2 := Aside0.mk hz
      clear ci hi0 hi1 hz
      go_wp2
      go_ret
      exact ⟨by rw [HZ2.out]; rfl, HB.out⟩
    case pos =>
      have cib : decide (i < (L.length : Int)) = true := decide_eq_true ci
      obtain ⟨ad, c2, e, y0, y1, y2⟩ := (HX.out.below HB.out).at_ hi0 ci
      injection e with e _ _
      subst e
      have hs := sum_take (fun _ b => b) hi0 ci
      obtain ⟨x, hx⟩ : ∃ x, x = L.getD i.toNat default := ⟨_, rfl⟩
      rw [← hx] at y0 y1 y2 hs
      have HS := Aside0.mk hs
      have HB2 := Aside0.mk (below_alloc HB.out (.cells #[.string x.nm, .int .i64 x.mo, .int .i64 x.nw] 100))
      clear hx hs
      go_wp2_with (fail)
      have e1 := next_round hi0 ci HM.out
      rw [e1]
      exact ⟨⟨i + 1, _, rfl, rfl, by omega, by omega, ⟨by rw [HS.out, HZ.out, wrap_add]⟩, HB2⟩, by simp [intOf]; omega⟩
set_option maxHeartbeats 2000000 in
set_option maxRecDepth 100000 in
theorem dMost_ok {w : World} {B g : Nat} {v : Value} {L : List HD} {pk : Int} (h : XS w B g v L pk) (hm : L.length ≤ 1024) : Calls Try.prog 34 #[.pointer (some ⟨g, 0, none⟩)] w fun e w' => e = .returned (.int .i64 (wrap64 (sumD (fun a _ => a) (.map (EH L))))) ∧ Below w.heap.size w w' := by
  obtain ⟨x0, x1⟩ := h.cell
  obtain ⟨A, c, rfl⟩ := h.slice
  have HX := Aside0.mk h
  have HM := Aside0.mk hm
  clear h hm
  go_enter Try.func34, Try.ntmps34
  go_wp2_with (fail)
  clear x0 x1
  go_loopw [3, 11] (fun v3 v11 wr => ∃ i z : Int, v11 = .int .i64 i ∧ v3 = .int .i64 z ∧ 0 ≤ i ∧ i ≤ (L.length : Int) ∧ Aside0 (z = wrap64 (sumOf (fun a _ => a) (EH (L.take i.toNat)))) ∧ Aside0 (Below w.heap.size w wr)) (fun _ v11 _ => L.length - (intOf v11).toNat)
  case atStart => exact ⟨0, 0, rfl, rfl, by omega, by omega, ⟨by simp [sumOf, wrap64]⟩, ⟨Below.refl _ _⟩⟩
  case round =>
    obtain ⟨i, z, rfl, rfl, hi0, hi1, HZ, HB⟩ := hrel
    by_cases ci : i < (L.length : Int)
    case neg =>
      have cib : decide (i < (L.length : Int)) = false := decide_eq_false ci
      have hz := HZ.out
      rw [show i.toNat = L.length by omega, List.take_length] at hz
      have HZ2 := Aside0.mk hz
      clear ci hi0 hi1 hz
      go_wp2
      go_ret
      exact ⟨by rw [HZ2.out]; rfl, HB.out⟩
    case pos =>
      have cib : decide (i < (L.length : Int)) = true := decide_eq_true ci
      obtain ⟨ad, c2, e, y0, y1, y2⟩ := (HX.out.below HB.out).at_ hi0 ci
      injection e with e _ _
      subst e
      have hs := sum_take (fun a _ => a) hi0 ci
      obtain ⟨x, hx⟩ : ∃ x, x = L.getD i.toNat default := ⟨_, rfl⟩
      rw [← hx] at y0 y1 y2 hs
      have HS := Aside0.mk hs
      have HB2 := Aside0.mk (below_alloc HB.out (.cells #[.string x.nm, .int .i64 x.mo, .int .i64 x.nw] 100))
      clear hx hs
      go_wp2_with (fail)
      have e1 := next_round hi0 ci HM.out
      rw [e1]
      exact ⟨⟨i + 1, _, rfl, rfl, by omega, by omega, ⟨by rw [HS.out, HZ.out, wrap_add]⟩, HB2⟩, by simp [intOf]; omega⟩
set_option maxHeartbeats 2000000 in
set_option maxRecDepth 100000 in
theorem dNames_ok {w : World} {B g : Nat} {v : Value} {L : List HD} {pk : Int} (h : XS w B g v L pk) (hm : L.length ≤ 1024) : Calls Try.prog 35 #[.pointer (some ⟨g, 0, none⟩)] w fun e w' => ∃ v', e = .returned v' ∧ w'.ownsRow w.heap.size 9 1 v' L.length (encs Value.string (L.map HD.nm)) ∧ Below w.heap.size w w' := by
  obtain ⟨x0, x1⟩ := h.cell
  obtain ⟨A, c, rfl⟩ := h.slice
  obtain ⟨i0, hi, hz0, hz1, hz2⟩ := info_parts pinfo9
  have HX := Aside0.mk h
  have HM := Aside0.mk hm
  clear h hm
  go_enter Try.func35, Try.ntmps35
  go_wp2_with (fail)
  clear x0 x1
  go_loopw [3, 11] (fun v3 v11 wr => ∃ i : Int, v11 = .int .i64 i ∧ 0 ≤ i ∧ i ≤ (L.length : Int) ∧ Aside0 (wr.ownsRow w.heap.size 9 1 v3 i.toNat (encs Value.string ((L.take i.toNat).map HD.nm))) ∧ Aside0 (Below w.heap.size w wr)) (fun _ v11 _ => L.length - (intOf v11).toNat)
  case atStart => exact ⟨0, rfl, by omega, by omega, ⟨own_nil _ _ _ _⟩, ⟨Below.refl _ _⟩⟩
  case round =>
    obtain ⟨i, rfl, hi0, hi1, HR, HB⟩ := hrel
    by_cases ci : i < (L.length : Int)
    case neg =>
      have cib : decide (i < (L.length : Int)) = false := decide_eq_false ci
      have hr := HR.out
      rw [show i.toNat = L.length by omega, List.take_length] at hr
      have HR2 := Aside0.mk hr
      clear ci hi0 hi1 hr
      go_wp2
      go_ret
      exact ⟨_, rfl, HR2.out, HB.out⟩
    case pos =>
      have cib : decide (i < (L.length : Int)) = true := decide_eq_true ci
      obtain ⟨ad, c2, e, y0, y1, y2⟩ := (HX.out.below HB.out).at_ hi0 ci
      injection e with e _ _
      subst e
      obtain ⟨x, hx⟩ : ∃ x, x = L.getD i.toNat default := ⟨_, rfl⟩
      rw [← hx] at y0 y1 y2
      have HXX := Aside0.mk hx
      have HB2 := Aside0.mk (below_alloc HB.out (.cells #[.string x.nm, .int .i64 x.mo, .int .i64 x.nw] 100))
      have HS := Aside0.mk HB.out.size
      clear hx
      go_wp2_with (first
        | (at_builtin; refine wpList_append_own _ rfl _ _ 44 rfl w.heap.size 9 i0 (.string ⟨#[]⟩) 1 16 Try.underlying44 hi hz0 hz1 hz2 rfl (by decide) _ _ _ rfl ((HR.out.alloc _).alloc _) ⟨wr.heap.size + 1, 0, none⟩ 1 1 [.string x.nm] rfl (by rfl) (by intro j u hj; match j with
            | 0 => simp at hj; subst hj; exact cell_new2 _ _ _ _) (by simp [Value.oneCell']) (by have := HM.out; unfold maxLen; omega) (by have := HM.out; omega) (by have := HS.out; simp; omega) ?_; intro v' w3 hown' hg3 hnil3; go_frame)
        | go_in)
      have e1 := next_round hi0 ci HM.out
      have HO := Aside0.mk hown'
      have HB3 := Aside0.mk ((below_alloc HB2.out (.cells #[.string x.nm] 9)).grown hg3 (by have := HS.out; simp; omega) (own_base HR.out))
      clear hown' hg3 hnil3
      go_wp2_with (fail)
      rw [e1]
      refine ⟨⟨i + 1, rfl, by omega, by omega, ⟨?_⟩, HB3⟩, by simp [intOf]; omega⟩
      have hk : i.toNat < L.length := by omega
      rw [show (i + 1).toNat = i.toNat + 1 by omega, List.take_succ_eq_append_getElem hk, List.map_append, encs_append, show L[i.toNat] = x by rw [HXX.out]; simp [List.getD, hk]]
      exact HO.out
end Go.Proofs.Ytbdlkpmaalhnnaa.X
