/- By hand: the law's does: one call of both purses, and what they tell. -/
import Derived.Test.YtbdlkpmaalhnnaaXQc
import Derived.Test.YtbdlkpmaalhnnaaXPg
import Derived.BigQuiet
namespace Go.Proofs.Ytbdlkpmaalhnnaa.X
open Go.RowKit Go.Proofs.YtbdlkpmaalhnnaaW.PrintWords Go.Proofs.YtbdlkpmaalhnnaaW.PrintLast Go.Proofs.YtbdlkpmaalhnnaaW.PrintMore
open Go.Maps Go.MuLone Go.ChangeMaps Go.WideShapes
open Go.Proofs.Ytbdlkpmaalhnnaa.SP (HD EH Inv)
set_option linter.unusedVariables false
set_option linter.unusedSimpArgs false

theorem cells3 {w : World} {g : Nat} {t : TypeId} {x y z : Value} (h : w.heap[g]? = some (.cells #[x, y, z] t (0, 0))) : w.cell? ⟨g, 0, none⟩ = some x ∧ w.cell? ⟨g, 1, none⟩ = some y ∧ w.cell? ⟨g, 2, none⟩ = some z := by
  refine ⟨by simp [World.cell?, h], by simp [World.cell?, h], by simp [World.cell?, h]⟩
theorem enc_names (L : List HD) : (L.map (fun x => x.nm.data.toList)).map Go.Proofs.encStr = encs Value.string (L.map HD.nm) := by
  rw [encs, List.map_map, List.map_map]
  refine List.map_congr_left fun x _ => ?_
  show Value.string ⟨x.nm.data.toList.toArray⟩ = Value.string x.nm
  rw [Array.toArray_toList]
theorem pNames_ok {w : World} {g bm : Nat} {L : List HD} {pk pk' : Int} (h : PS w g bm (.map (EH L)) pk) (hI : Inv L pk') : Calls Try.prog 24 #[.pointer (some ⟨g, 0, none⟩)] w fun e w' => ∃ (A : Option Addr) (c : Nat), e = .returned (.slice A L.length c) ∧ w'.ownsRow w.heap.size 9 1 (.slice A L.length c) L.length (encs Value.string (L.map HD.nm)) ∧ Below w.heap.size w w' := by
  refine (Names_ok h (by rw [SP.EH_size]; exact hI.few)).mono ?_
  rintro e w' ⟨v, ss, rfl, hp, hr, hB⟩
  have hl : ss.length = L.length := by
    have := hp.length_eq
    rw [this]
    show ((EH L).map _).length = _
    rw [List.length_map, List.length_map]
  rw [SP.names_sorted hI.rise hp, enc_names, hl] at hr
  obtain ⟨A, c, rfl⟩ := own_slice hr
  exact ⟨A, c, rfl, hr, hB⟩
/-- Nothing but these blocks (and what is new) has turned. -/
structure Fo (gp bp gx : Nat) (r : Option Nat) (w w' : World) : Prop where
  os : w'.os = w.os
  tape : w'.tape = w.tape
  output : w'.output = w.output
  size : w.heap.size ≤ w'.heap.size
  block : ∀ i, i < w.heap.size → i ≠ gp → i ≠ bp → i ≠ gx → some i ≠ r → w'.heap[i]? = w.heap[i]?
theorem Fo.of_below {gp bp gx : Nat} {r : Option Nat} {w w' : World} (h : Below w.heap.size w w') : Fo gp bp gx r w w' := ⟨h.os, h.tape, h.output, h.size, fun i hi _ _ _ _ => h.block i hi⟩
theorem Fo.of_two {gp bp gx : Nat} {r : Option Nat} {w w' : World} (h : Two gp bp w w') : Fo gp bp gx r w w' := ⟨h.os, h.tape, h.output, h.size, fun i hi h1 h2 _ _ => h.block i hi h1 h2⟩
theorem Fo.of_tw {gp bp gx : Nat} {r : Option Nat} {w w' : World} (h : Tw gx r w w') : Fo gp bp gx r w w' := ⟨h.os, h.tape, h.output, h.size, fun i hi _ _ h1 h2 => h.block i hi h1 h2⟩
theorem Tw.any {g : Nat} {r : Option Nat} {w w' : World} (h : Tw g none w w') : Tw g r w w' := ⟨h.os, h.tape, h.output, h.size, fun i hi h1 _ => h.block i hi h1 (by simp)⟩
theorem Fo.trans {gp bp gx : Nat} {r : Option Nat} {a b c : World} (h : Fo gp bp gx r a b) (k : Fo gp bp gx r b c) : Fo gp bp gx r a c := ⟨k.os.trans h.os, k.tape.trans h.tape, k.output.trans h.output, Nat.le_trans h.size k.size, fun i hi h1 h2 h3 h4 => (k.block i (Nat.lt_of_lt_of_le hi h.size) h1 h2 h3 h4).trans (h.block i hi h1 h2 h3 h4)⟩
theorem Fo.below {gp bp gx B : Nat} {r : Option Nat} {w w' : World} (h : Fo gp bp gx r w w') (h1 : B ≤ gp) (h2 : B ≤ bp) (h3 : B ≤ gx) (hr : ∀ k, r = some k → B ≤ k) (hs : B ≤ w.heap.size) : Below B w w' := ⟨h.os, h.tape, h.output, h.size, fun i hi => h.block i (by omega) (by omega) (by omega) (by omega) (fun e => by have := hr i e.symm; omega)⟩
theorem XS.two {w w' : World} {B g gp bp : Nat} {v : Value} {L : List HD} {pk pk' : Int} {D : DataW Unit} (h : XS w B g v L pk) (hp : PS w gp bp D pk') (hT : Two gp bp w w') : XS w' B g v L pk := by
  have h1 : g ≠ gp := fun e => by have := h.blk; rw [e, hp.blk] at this; simp at this
  have h2 : g ≠ bp := fun e => by
    obtain ⟨es, clock, hb, _⟩ := hp.own
    have := h.blk
    rw [e, hb] at this
    cases this
  have h3 : v.ownBlock ≠ some gp := fun e => own_ne h.row hp.blk (by decide) e.symm
  have h4 : v.ownBlock ≠ some bp := fun e => by
    obtain ⟨es, clock, hb, _⟩ := hp.own
    rcases h.row.2 with ⟨rfl, _⟩ | ⟨gr, cap, cur, rfl, _, hg, _⟩
    · simp [Value.ownBlock] at e
    · simp [Value.ownBlock] at e
      subst e
      rw [hg] at hb
      cases hb
  exact ⟨(hT.block g h.lt h1 h2).trans h.blk, KeepBut.own (g := gp) (row := some bp) ⟨hT.size, fun i hi a b => hT.block i hi a (fun e => b (by rw [e]))⟩ h.row h3 (.inr h4)⟩
theorem PS.tw {w w' : World} {B g gp bp : Nat} {v : Value} {L : List HD} {pk pk' : Int} {D : DataW Unit} (h : XS w B g v L pk) (hp : PS w gp bp D pk') (hT : Tw g v.ownBlock w w') : PS w' gp bp D pk' := by
  have h1 : g ≠ gp := fun e => by have := h.blk; rw [e, hp.blk] at this; simp at this
  obtain ⟨es, clock, hb, rr⟩ := hp.own
  have h2 : g ≠ bp := fun e => by
    have := h.blk
    rw [e, hb] at this
    cases this
  have h3 : some gp ≠ v.ownBlock := own_ne h.row hp.blk (by decide)
  have h4 : some bp ≠ v.ownBlock := fun e => by
    rcases h.row.2 with ⟨rfl, _⟩ | ⟨gr, cap, cur, rfl, _, hg, _⟩
    · simp [Value.ownBlock] at e
    · simp [Value.ownBlock] at e
      subst e
      rw [hg] at hb
      cases hb
  exact ⟨(hT.block gp hp.lt h1.symm h3).trans hp.blk, es, clock, (hT.block bp (blk_lt hb) h2.symm h4).trans hb, rr⟩
theorem own_some {W : World} {base n c : Nat} {e : TypeId} {A : Option Addr} {xs : List Value} (h : W.ownsRow base e 1 (.slice A n c) n xs) (hn : 0 < n) : ∃ g, A = some ⟨g, 0, none⟩ := by
  rcases h.2 with ⟨h', h0⟩ | ⟨g, cap, cur, h', _⟩
  · injection h' with _ h' _
    omega
  · injection h' with h' _ _
    exact ⟨g, h'⟩
def turned : ByteArray := ⟨#[116, 117, 114, 110, 101, 100]⟩
def more : ByteArray := ⟨#[109, 111, 114, 101]⟩
theorem turn_set (N : List ByteArray) {i : Nat} (hi : i < N.length) : (List.replicate i turned ++ N.drop i).set i turned = List.replicate (i + 1) turned ++ N.drop (i + 1) := by
  rw [List.set_append_right _ _ (by simp), List.length_replicate, Nat.sub_self, List.drop_eq_getElem_cons hi, List.set_cons_zero, List.replicate_succ', List.append_assoc]
  rfl
theorem turn_at (N : List ByteArray) {i : Nat} (hi : i < N.length) : rdOf (⟨#[]⟩ : ByteArray) (List.replicate i turned ++ N.drop i) (i : Int) = rdOf (⟨#[]⟩ : ByteArray) N (i : Int) := by
  simp only [rdOf, List.getD, Int.toNat_natCast]
  rw [List.getElem?_append_right (by simp), List.length_replicate, Nat.sub_self, List.getElem?_drop]
  rfl
theorem two_cells (W : World) (u v : Value) (t : TypeId) : ∀ (j : Nat) (x : Value), [u, v][j]? = some x → (W.alloc (.cells #[u, v] t)).cell? ((⟨W.heap.size, 0, none⟩ : Addr).add j) = some x := by
  intro j x hj
  rw [Go.Proofs.YtbdlkpmaalhnnaaW.PrintWords.add_plain]
  have h := blk_cell (blk_new W (.cells #[u, v] t)) j
  rw [h]
  simpa using hj
set_option maxHeartbeats 8000000 in
set_option maxRecDepth 100000 in
theorem does_ok {w : World} {gp bp gx B : Nat} {vx : Value} {L : List HD} {pk m : Int} {hb_ : Bool} {s : ByteArray} (hp : PS w gp bp (.map (EH L)) pk) (hx : XS w B gx vx L pk) (hI : Inv L pk) (hB : B ≤ w.heap.size) (hs : s.size ≤ maxLen) : Calls Try.prog 17 #[.pointer (some ⟨gp, 0, none⟩), .pointer (some ⟨gx, 0, none⟩), .agg #[.bool hb_, .string s, .int .i64 m]] w fun e w' => e = .returned (.bool true) ∧ (∃ vx' L' pk', PS w' gp bp (.map (EH L')) pk' ∧ XS w' B gx vx' L' pk' ∧ Inv L' pk' ∧ (vx' = vx ∨ ∀ k, vx'.ownBlock = some k → w.heap.size ≤ k)) ∧ Fo gp bp gx vx.ownBlock w w' := by
  have HP := Aside0.mk (hp.below (below_alloc (Below.refl w.heap.size w) (.cells #[.bool hb_, .string s, .int .i64 m] 40)))
  have HX := Aside0.mk (hx.below (below_alloc (Below.refl w.heap.size w) (.cells #[.bool hb_, .string s, .int .i64 m] 40)))
  have HI := Aside0.mk hI
  have HBB := Aside0.mk hB
  have HSZ := Aside0.mk hs
  have HO := Aside0.mk (blk_new w (.cells #[.bool hb_, .string s, .int .i64 m] 40))
  have HF := Aside0.mk (Fo.of_below (gp := gp) (bp := bp) (gx := gx) (r := vx.ownBlock) (below_alloc (Below.refl w.heap.size w) (.cells #[.bool hb_, .string s, .int .i64 m] 40)))
  have HNE := Aside0.mk (show w.heap.size ≠ gp ∧ w.heap.size ≠ bp from ⟨by have := hp.lt; omega, by have := hp.own.lt; omega⟩)
  have HSI : Aside0 (Maps.size (.map (EH L)) < maxLen) := ⟨by rw [SP.EH_size]; have := hI.few; unfold maxLen; omega⟩
  clear hp hx hI hB hs
  cases hb_ with
  | true =>
    go_enter Try.func17, Try.ntmps17
    go_wp2_with (fail)
    obtain ⟨y0, y1, y2⟩ := cells3 HO.out
    generalize hW : (w.alloc (.cells #[.bool true, .string s, .int .i64 m] 40)) = W2 at HP HX HO HF y0 y1 y2 ⊢
    have HWS : Aside0 (w.heap.size ≤ W2.heap.size) := ⟨by rw [← hW]; simp⟩
    clear hW
    go_region_held3 (fun w' => w'.cell? ⟨w.heap.size, 1, none⟩ = some (.string s) ∧ w'.cell? ⟨w.heap.size, 2, none⟩ = some (.int .i64 m))
      (first | exact ⟨t1, t2⟩ | exact ⟨z1, z2⟩ | exact ⟨y1, y2⟩)
      (first
        | (go_at_call 21; refine (Hold_ok (HP.out.below (below_drew (Below.refl _ _))) HSZ.out HSI.out).mono ?_; rintro e w3 ⟨rfl, hp3, ht3⟩; have HX3 := Aside0.mk ((HX.out.below (below_drew (Below.refl _ _))).two (HP.out.below (below_drew (Below.refl _ _))) ht3); have HP3 := Aside0.mk hp3; have HF3 := Aside0.mk ((HF.out.trans (Fo.of_below (below_drew (Below.refl _ _)))).trans (Fo.of_two ht3)); have HO3 := Aside0.mk ((ht3.block _ (blk_lt (blk_drew HO.out)) HNE.out.1 HNE.out.2).trans (blk_drew HO.out)); have HS3 : Aside0 (w.heap.size ≤ w3.heap.size) := ⟨Nat.le_trans HWS.out ht3.size⟩; clear hp3 ht3; obtain ⟨z0, z1, z2⟩ := cells3 HO3.out)
        | (go_at_call 32; refine (dHold_ok HX3.out HI.out.rise HI.out.few).mono ?_; rintro e w4 ⟨rfl, ⟨L', pk', he4, hx4, hl4⟩, ht4⟩; have HE4 := Aside0.mk he4; have HX4 := Aside0.mk hx4; have HP4 := Aside0.mk (PS.tw HX3.out HP3.out ht4); have HF4 := Aside0.mk (HF3.out.trans (Fo.of_tw ht4)); have HO4 := Aside0.mk ((ht4.block _ (blk_lt HO3.out) (fun e => by have h := HX3.out.blk; rw [← e, HO3.out] at h; simp at h) (own_ne HX3.out.row HO3.out (by decide))).trans HO3.out); have HV4 : Aside0 (vx = vx ∨ ∀ k, vx.ownBlock = some k → w.heap.size ≤ k) := ⟨.inl rfl⟩; clear he4 hx4 hl4 ht4; obtain ⟨t0, t1, t2⟩ := cells3 HO4.out))
    clear z0 z1 z2 t0 t1 t2 y0 y1 y2
    have hI4 := SP.hold_inv HI.out s m HE4.out
    have hP4 := HP4.out
    rw [show (holdC (.map (EH L)) s m pk).2.1 = .map (EH L') by rw [HE4.out], show (holdC (.map (EH L)) s m pk).2.2 = pk' by rw [HE4.out]] at hP4
    generalize (holdC (.map (EH L)) s m pk).1 = zc
    obtain ⟨vx4, hvx4⟩ : ∃ v, v = vx := ⟨_, rfl⟩
    have HV4 : Aside0 (vx4 = vx ∨ ∀ k, vx4.ownBlock = some k → w.heap.size ≤ k) := ⟨.inl hvx4⟩
    have HX4 : Aside0 (XS w4 B gx vx4 L' pk') := ⟨by rw [hvx4]; exact HX4.out⟩
    clear hvx4 HE4 HX3 HP3 HF3 HO3 HO4 HS3
    have HI4 := Aside0.mk hI4
    have HP4 := Aside0.mk hP4
    have HL4 := Aside0.mk hI4.few
    clear hI4 hP4 HP HX HI HO HNE HSI HF
    have hn : w.heap.size ≤ w4.heap.size := HF4.out.size
    have HN4 := Aside0.mk hn
    clear hn
    go_wp2_with (fail)
    have p4 := HX4.out.cell.2
    go_region_held3 (fun w' => w'.cell? ⟨gx, 1, none⟩ = some (.int .i64 pk'))
      (first | exact z1 | exact p4)
      (first
        | (go_at_call 18; refine (Held_ok (HP4.out.below (below_drew (Below.refl _ _)))).mono ?_; rintro e w5 ⟨rfl, hB⟩; have HB5 := Aside0.mk (below_step (below_drew (Below.refl w4.heap.size w4)) hB); clear hB; have z1 := (HX4.out.below HB5.out).cell.2)
        | (go_at_call 19; refine (dHeld_ok (HX4.out.below HB5.out) HL4.out).mono ?_; rintro e w6 ⟨rfl, hB⟩; have HB6 := Aside0.mk (below_step HB5.out hB); clear hB z1; have z1 := (HX4.out.below HB6.out).cell.2)
        | (go_at_call 22; refine (Peak_ok (HP4.out.below HB6.out)).mono ?_; rintro e w7 ⟨rfl, hB⟩; have HB7 := Aside0.mk (below_step HB6.out hB); clear hB z1; have z1 := (HX4.out.below HB7.out).cell.2)
        | (go_at_call 23; refine (Most_ok (HP4.out.below HB7.out)).mono ?_; rintro e w8 ⟨rfl, hB⟩; have HB8 := Aside0.mk (below_step HB7.out hB); clear hB z1; have z1 := (HX4.out.below HB8.out).cell.2)
        | (go_at_call 34; refine (dMost_ok (HX4.out.below HB8.out) HL4.out).mono ?_; rintro e w9 ⟨rfl, hB⟩; have HB9 := Aside0.mk (below_step HB8.out hB); clear hB z1; have z1 := (HX4.out.below HB9.out).cell.2))
    clear z1 p4
    go_wp2_with (fail)
    refine (pNames_ok (HP4.out.below HB9.out) HI4.out).mono ?_
    rintro e wa ⟨Aa, ca, rfl, hra, hBa⟩
    have HBa := Aside0.mk (below_step HB9.out hBa)
    have HRa := Aside0.mk hra
    clear hra hBa
    go_wp2_with (fail)
    refine (pNames_ok (HP4.out.below HBa.out) HI4.out).mono ?_
    rintro e wb ⟨Ab, cb, rfl, hrb, hBb⟩
    have HBb := Aside0.mk (below_step HBa.out hBb)
    have HRab := Aside0.mk (pw_own_below HRa.out hBb)
    have HRb := Aside0.mk hrb
    have NEba := Aside0.mk (ne_below hrb HRa.out)
    clear hrb hBb
    go_wp2_with (fail)
    refine (dNames_ok (HX4.out.below HBb.out) HL4.out).mono ?_
    rintro e wc ⟨vc, rfl, hrc, hBc⟩
    obtain ⟨Ac, cc, rfl⟩ := own_slice hrc
    have HBc := Aside0.mk (below_step HBb.out hBc)
    have NEca := Aside0.mk (ne_below hrc HRab.out)
    have NEcb := Aside0.mk (ne_below hrc HRb.out)
    have HRA := Aside0.mk (own_weaken (pw_own_below HRab.out hBc) HB9.out.size)
    have HRB := Aside0.mk (own_weaken (pw_own_below HRb.out hBc) HBa.out.size)
    have HRC := Aside0.mk (own_weaken hrc HBb.out.size)
    clear hrc hBc HRa HRab HRb
    obtain ⟨N, hN⟩ : ∃ N, N = L'.map HD.nm := ⟨_, rfl⟩
    have HNL : Aside0 (N.length = L'.length) := ⟨by rw [hN, List.length_map]⟩
    rw [← hN] at HRA HRB HRC
    clear hN
    go_wp2_with (fail)
    go_loopw [83] (fun v83 wr => ∃ i : Int, v83 = .int .i64 i ∧ 0 ≤ i ∧ i ≤ (L'.length : Int) ∧ Aside0 (wr.ownsRow w4.heap.size 9 1 (.slice Aa L'.length ca) L'.length (encs Value.string (List.replicate i.toNat turned ++ N.drop i.toNat))) ∧ Aside0 (wr.ownsRow w4.heap.size 9 1 (.slice Ab L'.length cb) L'.length (encs Value.string N)) ∧ Aside0 (wr.ownsRow w4.heap.size 9 1 (.slice Ac L'.length cc) L'.length (encs Value.string N)) ∧ Aside0 (Below w4.heap.size w4 wr)) (fun v83 _ => L'.length - (intOf v83).toNat)
    case atStart => exact ⟨0, rfl, by omega, by omega, ⟨by simpa using HRA.out⟩, HRB, HRC, HBc⟩
    case round =>
      clear HRA HRB HRC HBc
      obtain ⟨i, rfl, hi0, hi1, HRA, HRB, HRC, HBc⟩ := hrel
      by_cases ci : i < (L'.length : Int)
      case pos =>
        have cib : decide (i < (L'.length : Int)) = true := decide_eq_true ci
        obtain ⟨ga, rfl⟩ := own_some HRA.out (by omega)
        obtain ⟨gc, rfl⟩ := own_some HRC.out (by omega)
        obtain ⟨a1, a2⟩ := own_at_of (d := (⟨#[]⟩ : ByteArray)) HRA.out i hi0 ci
        obtain ⟨c1, _⟩ := own_at_of (d := (⟨#[]⟩ : ByteArray)) HRC.out i hi0 ci
        have hin : i = ((i.toNat : Nat) : Int) := by omega
        have hk : i.toNat < N.length := by rw [HNL.out]; omega
        have ht := turn_at N hk
        rw [← hin] at ht
        rw [ht] at a1
        have hnc : some ga ≠ (Value.slice (some ⟨gc, 0, none⟩) L'.length cc).ownBlock := fun e => NEca.out gc rfl (by injection e with e; simp [Value.ownBlock, e])
        have hnb : some ga ≠ (Value.slice Ab L'.length cb).ownBlock := fun e => NEba.out ga e.symm rfl
        have HA2 : Aside0 ((wr.setCell ⟨ga, i.toNat, none⟩ (.string ⟨#[116, 117, 114, 110, 101, 100]⟩)).ownsRow w4.heap.size 9 1 (.slice (some ⟨ga, 0, none⟩) L'.length ca) L'.length (encs Value.string (List.replicate (i + 1).toNat turned ++ N.drop (i + 1).toNat))) := ⟨by
          have h := (own_store_of HRA.out i turned).1
          rw [turn_set N hk] at h
          rw [show (i + 1).toNat = i.toNat + 1 by omega]
          exact h⟩
        have HB2 : Aside0 ((wr.setCell ⟨ga, i.toNat, none⟩ (.string ⟨#[116, 117, 114, 110, 101, 100]⟩)).ownsRow w4.heap.size 9 1 (.slice Ab L'.length cb) L'.length (encs Value.string N)) := ⟨own_setCell HRB.out hnb _⟩
        have HC2 : Aside0 ((wr.setCell ⟨ga, i.toNat, none⟩ (.string ⟨#[116, 117, 114, 110, 101, 100]⟩)).ownsRow w4.heap.size 9 1 (.slice (some ⟨gc, 0, none⟩) L'.length cc) L'.length (encs Value.string N)) := ⟨own_setCell HRC.out hnc _⟩
        have HBc2 : Aside0 (Below w4.heap.size w4 (wr.setCell ⟨ga, i.toNat, none⟩ (.string ⟨#[116, 117, 114, 110, 101, 100]⟩))) := ⟨HBc.out.grown (own_store_of HRA.out i turned).2 HBc.out.size (fun k hk => by injection hk with hk; rw [← hk]; exact own_base HRA.out ga rfl)⟩
        generalize rdOf (⟨#[]⟩ : ByteArray) N i = sx at a1 c1
        clear ht hk hin hnb hnc
        go_wp2_with (fail)
        have e1 := next_round hi0 ci HL4.out
        rw [e1]
        exact ⟨⟨i + 1, rfl, by omega, by omega, HA2, HB2, HC2, HBc2⟩, by simp [intOf]; omega⟩
      case neg =>
        have cib : decide (i < (L'.length : Int)) = false := decide_eq_false ci
        have HRA2 : Aside0 (wr.ownsRow w4.heap.size 9 1 (.slice Aa L'.length ca) L'.length (encs Value.string (List.replicate L'.length turned))) := ⟨by
          have h := HRA.out
          rw [show i.toNat = L'.length by omega, List.drop_of_length_le (by rw [HNL.out]; omega), List.append_nil] at h
          exact h⟩
        obtain ⟨i0, hi, hz0, hz1, hz2⟩ := info_parts pinfo9
        clear ci hi0 hi1 HRA
        go_wp2_with (first
          | (at_builtin; refine wpList_append_own _ rfl _ _ 44 rfl w4.heap.size 9 i0 (.string ⟨#[]⟩) 1 16 Try.underlying44 hi hz0 hz1 hz2 rfl (by decide) _ _ _ rfl (HRA2.out.alloc _) ⟨wr.heap.size, 0, none⟩ 2 2 [.string more, .string more] rfl rfl (two_cells _ _ _ _) (by simp [Value.oneCell']) (by have := HL4.out; unfold maxLen; omega) (by have := HL4.out; omega) (by have := HBc.out.size; simp; omega) ?_; intro v' w12 hown' hg3 hnil3; obtain ⟨A12, c12, rfl⟩ := own_slice hown'; have HR12 := Aside0.mk hown'; have HB12 := Aside0.mk ((below_step HBc.out (below_alloc (Below.refl wr.heap.size wr) (.cells #[.string more, .string more] 9))).grown hg3 (by have := HBc.out.size; simp; omega) (own_base HRA2.out)); have HRB12 := Aside0.mk (own_other (HRB.out.alloc (.cells #[.string more, .string more] 9)) hg3 (ne_other (ne_symm NEba.out))); have HRC12 := Aside0.mk (own_other (HRC.out.alloc (.cells #[.string more, .string more] 9)) hg3 (ne_other (ne_symm NEca.out))); clear hown' hg3 hnil3; go_frame)
          | go_in)
        clear cib
        go_loopw [103] (fun v103 wr => ∃ i : Int, v103 = .int .i64 i ∧ 0 ≤ i ∧ i ≤ (L'.length : Int) ∧ Aside0 (Below w12.heap.size w12 wr)) (fun v103 _ => L'.length - (intOf v103).toNat)
        case atStart => exact ⟨0, rfl, by omega, by omega, ⟨Below.refl _ _⟩⟩
        case round =>
          obtain ⟨i, rfl, hi0, hi1, HW⟩ := hrel
          by_cases ci : i < (L'.length : Int)
          case pos =>
            have cib : decide (i < (L'.length : Int)) = true := decide_eq_true ci
            obtain ⟨gb, rfl⟩ := own_some HRB12.out (by omega)
            obtain ⟨gc, rfl⟩ := own_some HRC12.out (by omega)
            obtain ⟨b1, _⟩ := own_at_of (d := (⟨#[]⟩ : ByteArray)) (pw_own_below HRB12.out HW.out) i hi0 ci
            obtain ⟨c1, _⟩ := own_at_of (d := (⟨#[]⟩ : ByteArray)) (pw_own_below HRC12.out HW.out) i hi0 ci
            generalize rdOf (⟨#[]⟩ : ByteArray) N i = sx at b1 c1
            go_wp2_with (fail)
            have e1 := next_round hi0 ci HL4.out
            rw [e1]
            exact ⟨⟨i + 1, rfl, by omega, by omega, HW⟩, by simp [intOf]; omega⟩
          case neg =>
            have cib : decide (i < (L'.length : Int)) = false := decide_eq_false ci
            have ew : wrap64 ((L'.length : Int) + 2) = (L'.length : Int) + 2 := by have := HL4.out; unfold wrap64; omega
            clear ci hi0 hi1
            go_wp2
            go_ret
            have hb := HB12.out.trans (below_then (Below.refl _ _) HB12.out.size HW.out)
            refine ⟨?_, ⟨vx4, L', pk', HP4.out.below hb, HX4.out.below hb, HI4.out, HV4.out⟩, HF4.out.trans (Fo.of_below hb)⟩
            simp
  | false =>
    go_enter Try.func17, Try.ntmps17
    go_wp2_with (fail)
    obtain ⟨y0, y1, y2⟩ := cells3 HO.out
    generalize hW : (w.alloc (.cells #[.bool false, .string s, .int .i64 m] 40)) = W2 at HP HX HO HF y0 y1 y2 ⊢
    have HWS : Aside0 (w.heap.size ≤ W2.heap.size) := ⟨by rw [← hW]; simp⟩
    clear hW
    go_region_held3 (fun w' => w'.cell? ⟨w.heap.size, 1, none⟩ = some (.string s) ∧ w'.cell? ⟨w.heap.size, 2, none⟩ = some (.int .i64 m))
      (first | exact ⟨t1, t2⟩ | exact ⟨z1, z2⟩ | exact ⟨y1, y2⟩)
      (first
        | (go_at_call 20; refine (Open_ok (HP.out.below (below_drew (Below.refl _ _))) HSZ.out).mono ?_; rintro e w3 ⟨rfl, hp3, ht3⟩; have HX3 := Aside0.mk ((HX.out.below (below_drew (Below.refl _ _))).two (HP.out.below (below_drew (Below.refl _ _))) ht3); have HP3 := Aside0.mk hp3; have HF3 := Aside0.mk ((HF.out.trans (Fo.of_below (below_drew (Below.refl _ _)))).trans (Fo.of_two ht3)); have HO3 := Aside0.mk ((ht3.block _ (blk_lt (blk_drew HO.out)) HNE.out.1 HNE.out.2).trans (blk_drew HO.out)); have HS3 : Aside0 (w.heap.size ≤ w3.heap.size) := ⟨Nat.le_trans HWS.out ht3.size⟩; clear hp3 ht3; obtain ⟨z0, z1, z2⟩ := cells3 HO3.out)
        | (go_at_call 33; refine (dOpen_ok HX3.out HI.out.rise HI.out.few (Nat.le_trans HBB.out HS3.out)).mono ?_; rintro e w4 ⟨rfl, ⟨vx4, L', he4, hx4, hv4⟩, ht4⟩; have HE4 := Aside0.mk he4; have HX4 := Aside0.mk hx4; have HP4 := Aside0.mk (PS.tw HX3.out HP3.out ht4.any); have HF4 := Aside0.mk (HF3.out.trans (Fo.of_tw ht4.any)); have HO4 := Aside0.mk ((ht4.block _ (blk_lt HO3.out) (fun e => by have h := HX3.out.blk; rw [← e, HO3.out] at h; simp at h) (by simp)).trans HO3.out); have HV4 : Aside0 (vx4 = vx ∨ ∀ k, vx4.ownBlock = some k → w.heap.size ≤ k) := ⟨hv4.imp id (fun h k hk => Nat.le_trans HS3.out (h k hk))⟩; clear he4 hx4 hv4 ht4; obtain ⟨t0, t1, t2⟩ := cells3 HO4.out))
    clear z0 z1 z2 t0 t1 t2 y0 y1 y2
    have hI4 := SP.open_ok HI.out s m HE4.out
    have hP4 := HP4.out
    rw [HE4.out] at hP4
    generalize (openF (.map (EH L)) s m).1 = zc
    obtain ⟨pk', hpk⟩ : ∃ z, z = pk := ⟨_, rfl⟩
    rw [← hpk] at hI4 hP4
    have HX4 : Aside0 (XS w4 B gx vx4 L' pk') := ⟨by rw [hpk]; exact HX4.out⟩
    clear hpk HE4 HX3 HP3 HF3 HO3 HO4 HS3
    have HI4 := Aside0.mk hI4
    have HP4 := Aside0.mk hP4
    have HL4 := Aside0.mk hI4.few
    clear hI4 hP4 HP HX HI HO HNE HSI HF
    have hn : w.heap.size ≤ w4.heap.size := HF4.out.size
    have HN4 := Aside0.mk hn
    clear hn
    go_wp2_with (fail)
    have p4 := HX4.out.cell.2
    go_region_held3 (fun w' => w'.cell? ⟨gx, 1, none⟩ = some (.int .i64 pk'))
      (first | exact z1 | exact p4)
      (first
        | (go_at_call 18; refine (Held_ok (HP4.out.below (below_drew (Below.refl _ _)))).mono ?_; rintro e w5 ⟨rfl, hB⟩; have HB5 := Aside0.mk (below_step (below_drew (Below.refl w4.heap.size w4)) hB); clear hB; have z1 := (HX4.out.below HB5.out).cell.2)
        | (go_at_call 19; refine (dHeld_ok (HX4.out.below HB5.out) HL4.out).mono ?_; rintro e w6 ⟨rfl, hB⟩; have HB6 := Aside0.mk (below_step HB5.out hB); clear hB z1; have z1 := (HX4.out.below HB6.out).cell.2)
        | (go_at_call 22; refine (Peak_ok (HP4.out.below HB6.out)).mono ?_; rintro e w7 ⟨rfl, hB⟩; have HB7 := Aside0.mk (below_step HB6.out hB); clear hB z1; have z1 := (HX4.out.below HB7.out).cell.2)
        | (go_at_call 23; refine (Most_ok (HP4.out.below HB7.out)).mono ?_; rintro e w8 ⟨rfl, hB⟩; have HB8 := Aside0.mk (below_step HB7.out hB); clear hB z1; have z1 := (HX4.out.below HB8.out).cell.2)
        | (go_at_call 34; refine (dMost_ok (HX4.out.below HB8.out) HL4.out).mono ?_; rintro e w9 ⟨rfl, hB⟩; have HB9 := Aside0.mk (below_step HB8.out hB); clear hB z1; have z1 := (HX4.out.below HB9.out).cell.2))
    clear z1 p4
    go_wp2_with (fail)
    refine (pNames_ok (HP4.out.below HB9.out) HI4.out).mono ?_
    rintro e wa ⟨Aa, ca, rfl, hra, hBa⟩
    have HBa := Aside0.mk (below_step HB9.out hBa)
    have HRa := Aside0.mk hra
    clear hra hBa
    go_wp2_with (fail)
    refine (pNames_ok (HP4.out.below HBa.out) HI4.out).mono ?_
    rintro e wb ⟨Ab, cb, rfl, hrb, hBb⟩
    have HBb := Aside0.mk (below_step HBa.out hBb)
    have HRab := Aside0.mk (pw_own_below HRa.out hBb)
    have HRb := Aside0.mk hrb
    have NEba := Aside0.mk (ne_below hrb HRa.out)
    clear hrb hBb
    go_wp2_with (fail)
    refine (dNames_ok (HX4.out.below HBb.out) HL4.out).mono ?_
    rintro e wc ⟨vc, rfl, hrc, hBc⟩
    obtain ⟨Ac, cc, rfl⟩ := own_slice hrc
    have HBc := Aside0.mk (below_step HBb.out hBc)
    have NEca := Aside0.mk (ne_below hrc HRab.out)
    have NEcb := Aside0.mk (ne_below hrc HRb.out)
    have HRA := Aside0.mk (own_weaken (pw_own_below HRab.out hBc) HB9.out.size)
    have HRB := Aside0.mk (own_weaken (pw_own_below HRb.out hBc) HBa.out.size)
    have HRC := Aside0.mk (own_weaken hrc HBb.out.size)
    clear hrc hBc HRa HRab HRb
    obtain ⟨N, hN⟩ : ∃ N, N = L'.map HD.nm := ⟨_, rfl⟩
    have HNL : Aside0 (N.length = L'.length) := ⟨by rw [hN, List.length_map]⟩
    rw [← hN] at HRA HRB HRC
    clear hN
    go_wp2_with (fail)
    go_loopw [83] (fun v83 wr => ∃ i : Int, v83 = .int .i64 i ∧ 0 ≤ i ∧ i ≤ (L'.length : Int) ∧ Aside0 (wr.ownsRow w4.heap.size 9 1 (.slice Aa L'.length ca) L'.length (encs Value.string (List.replicate i.toNat turned ++ N.drop i.toNat))) ∧ Aside0 (wr.ownsRow w4.heap.size 9 1 (.slice Ab L'.length cb) L'.length (encs Value.string N)) ∧ Aside0 (wr.ownsRow w4.heap.size 9 1 (.slice Ac L'.length cc) L'.length (encs Value.string N)) ∧ Aside0 (Below w4.heap.size w4 wr)) (fun v83 _ => L'.length - (intOf v83).toNat)
    case atStart => exact ⟨0, rfl, by omega, by omega, ⟨by simpa using HRA.out⟩, HRB, HRC, HBc⟩
    case round =>
      clear HRA HRB HRC HBc
      obtain ⟨i, rfl, hi0, hi1, HRA, HRB, HRC, HBc⟩ := hrel
      by_cases ci : i < (L'.length : Int)
      case pos =>
        have cib : decide (i < (L'.length : Int)) = true := decide_eq_true ci
        obtain ⟨ga, rfl⟩ := own_some HRA.out (by omega)
        obtain ⟨gc, rfl⟩ := own_some HRC.out (by omega)
        obtain ⟨a1, a2⟩ := own_at_of (d := (⟨#[]⟩ : ByteArray)) HRA.out i hi0 ci
        obtain ⟨c1, _⟩ := own_at_of (d := (⟨#[]⟩ : ByteArray)) HRC.out i hi0 ci
        have hin : i = ((i.toNat : Nat) : Int) := by omega
        have hk : i.toNat < N.length := by rw [HNL.out]; omega
        have ht := turn_at N hk
        rw [← hin] at ht
        rw [ht] at a1
        have hnc : some ga ≠ (Value.slice (some ⟨gc, 0, none⟩) L'.length cc).ownBlock := fun e => NEca.out gc rfl (by injection e with e; simp [Value.ownBlock, e])
        have hnb : some ga ≠ (Value.slice Ab L'.length cb).ownBlock := fun e => NEba.out ga e.symm rfl
        have HA2 : Aside0 ((wr.setCell ⟨ga, i.toNat, none⟩ (.string ⟨#[116, 117, 114, 110, 101, 100]⟩)).ownsRow w4.heap.size 9 1 (.slice (some ⟨ga, 0, none⟩) L'.length ca) L'.length (encs Value.string (List.replicate (i + 1).toNat turned ++ N.drop (i + 1).toNat))) := ⟨by
          have h := (own_store_of HRA.out i turned).1
          rw [turn_set N hk] at h
          rw [show (i + 1).toNat = i.toNat + 1 by omega]
          exact h⟩
        have HB2 : Aside0 ((wr.setCell ⟨ga, i.toNat, none⟩ (.string ⟨#[116, 117, 114, 110, 101, 100]⟩)).ownsRow w4.heap.size 9 1 (.slice Ab L'.length cb) L'.length (encs Value.string N)) := ⟨own_setCell HRB.out hnb _⟩
        have HC2 : Aside0 ((wr.setCell ⟨ga, i.toNat, none⟩ (.string ⟨#[116, 117, 114, 110, 101, 100]⟩)).ownsRow w4.heap.size 9 1 (.slice (some ⟨gc, 0, none⟩) L'.length cc) L'.length (encs Value.string N)) := ⟨own_setCell HRC.out hnc _⟩
        have HBc2 : Aside0 (Below w4.heap.size w4 (wr.setCell ⟨ga, i.toNat, none⟩ (.string ⟨#[116, 117, 114, 110, 101, 100]⟩))) := ⟨HBc.out.grown (own_store_of HRA.out i turned).2 HBc.out.size (fun k hk => by injection hk with hk; rw [← hk]; exact own_base HRA.out ga rfl)⟩
        generalize rdOf (⟨#[]⟩ : ByteArray) N i = sx at a1 c1
        clear ht hk hin hnb hnc
        go_wp2_with (fail)
        have e1 := next_round hi0 ci HL4.out
        rw [e1]
        exact ⟨⟨i + 1, rfl, by omega, by omega, HA2, HB2, HC2, HBc2⟩, by simp [intOf]; omega⟩
      case neg =>
        have cib : decide (i < (L'.length : Int)) = false := decide_eq_false ci
        have HRA2 : Aside0 (wr.ownsRow w4.heap.size 9 1 (.slice Aa L'.length ca) L'.length (encs Value.string (List.replicate L'.length turned))) := ⟨by
          have h := HRA.out
          rw [show i.toNat = L'.length by omega, List.drop_of_length_le (by rw [HNL.out]; omega), List.append_nil] at h
          exact h⟩
        obtain ⟨i0, hi, hz0, hz1, hz2⟩ := info_parts pinfo9
        clear ci hi0 hi1 HRA
        go_wp2_with (first
          | (at_builtin; refine wpList_append_own _ rfl _ _ 44 rfl w4.heap.size 9 i0 (.string ⟨#[]⟩) 1 16 Try.underlying44 hi hz0 hz1 hz2 rfl (by decide) _ _ _ rfl (HRA2.out.alloc _) ⟨wr.heap.size, 0, none⟩ 2 2 [.string more, .string more] rfl rfl (two_cells _ _ _ _) (by simp [Value.oneCell']) (by have := HL4.out; unfold maxLen; omega) (by have := HL4.out; omega) (by have := HBc.out.size; simp; omega) ?_; intro v' w12 hown' hg3 hnil3; obtain ⟨A12, c12, rfl⟩ := own_slice hown'; have HR12 := Aside0.mk hown'; have HB12 := Aside0.mk ((below_step HBc.out (below_alloc (Below.refl wr.heap.size wr) (.cells #[.string more, .string more] 9))).grown hg3 (by have := HBc.out.size; simp; omega) (own_base HRA2.out)); have HRB12 := Aside0.mk (own_other (HRB.out.alloc (.cells #[.string more, .string more] 9)) hg3 (ne_other (ne_symm NEba.out))); have HRC12 := Aside0.mk (own_other (HRC.out.alloc (.cells #[.string more, .string more] 9)) hg3 (ne_other (ne_symm NEca.out))); clear hown' hg3 hnil3; go_frame)
          | go_in)
        clear cib
        go_loopw [103] (fun v103 wr => ∃ i : Int, v103 = .int .i64 i ∧ 0 ≤ i ∧ i ≤ (L'.length : Int) ∧ Aside0 (Below w12.heap.size w12 wr)) (fun v103 _ => L'.length - (intOf v103).toNat)
        case atStart => exact ⟨0, rfl, by omega, by omega, ⟨Below.refl _ _⟩⟩
        case round =>
          obtain ⟨i, rfl, hi0, hi1, HW⟩ := hrel
          by_cases ci : i < (L'.length : Int)
          case pos =>
            have cib : decide (i < (L'.length : Int)) = true := decide_eq_true ci
            obtain ⟨gb, rfl⟩ := own_some HRB12.out (by omega)
            obtain ⟨gc, rfl⟩ := own_some HRC12.out (by omega)
            obtain ⟨b1, _⟩ := own_at_of (d := (⟨#[]⟩ : ByteArray)) (pw_own_below HRB12.out HW.out) i hi0 ci
            obtain ⟨c1, _⟩ := own_at_of (d := (⟨#[]⟩ : ByteArray)) (pw_own_below HRC12.out HW.out) i hi0 ci
            generalize rdOf (⟨#[]⟩ : ByteArray) N i = sx at b1 c1
            go_wp2_with (fail)
            have e1 := next_round hi0 ci HL4.out
            rw [e1]
            exact ⟨⟨i + 1, rfl, by omega, by omega, HW⟩, by simp [intOf]; omega⟩
          case neg =>
            have cib : decide (i < (L'.length : Int)) = false := decide_eq_false ci
            have ew : wrap64 ((L'.length : Int) + 2) = (L'.length : Int) + 2 := by have := HL4.out; unfold wrap64; omega
            clear ci hi0 hi1
            go_wp2
            go_ret
            have hb := HB12.out.trans (below_then (Below.refl _ _) HB12.out.size HW.out)
            refine ⟨?_, ⟨vx4, L', pk', HP4.out.below hb, HX4.out.below hb, HI4.out, HV4.out⟩, HF4.out.trans (Fo.of_below hb)⟩
            simp
end Go.Proofs.Ytbdlkpmaalhnnaa.X
