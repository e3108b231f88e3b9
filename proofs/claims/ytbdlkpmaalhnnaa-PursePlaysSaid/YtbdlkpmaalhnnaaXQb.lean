/- By hand: the document's purse: Hold and Open. -/
import Derived.Test.YtbdlkpmaalhnnaaXQa
import Derived.Deep.RegionHeld3
namespace Go.Proofs.Ytbdlkpmaalhnnaa.X
open Go.RowKit Go.Proofs.YtbdlkpmaalhnnaaW.PrintWords Go.Proofs.YtbdlkpmaalhnnaaW.PrintLast Go.Proofs.YtbdlkpmaalhnnaaW.PrintMore
open Go.Maps Go.MuLone Go.ChangeMaps Go.WideShapes
open Go.Proofs.Ytbdlkpmaalhnnaa.SP (HD EH)
set_option linter.unusedVariables false
set_option linter.unusedSimpArgs false

theorem hcs_set (n : Int) : ∀ {L : List HD} {k : Nat}, k < L.length → (hcs L).set (k * 3 + 2) (.int .i64 n) = hcs (L.take k ++ [⟨(L.getD k default).nm, (L.getD k default).mo, n⟩] ++ L.drop (k + 1))
  | [], k, hk => absurd hk (by simp)
  | x :: L, 0, _ => by
    rw [hcs_cons, List.set_append_left _ _ (by show 0 * 3 + 2 < 3; omega)]
    show (hc x).set 2 _ ++ hcs L = hcs (⟨x.nm, x.mo, n⟩ :: L)
    rw [hcs_cons]; rfl
  | x :: L, k + 1, hk => by
    rw [hcs_cons, List.set_append_right _ _ (by show 3 ≤ _; omega), show (k + 1) * 3 + 2 - (hc x).length = k * 3 + 2 from (by show (k + 1) * 3 + 2 - 3 = _; omega), hcs_set n (by simpa using hk)]
    show hc x ++ _ = hcs (x :: (L.take k ++ [⟨(L.getD k default).nm, (L.getD k default).mo, n⟩] ++ L.drop (k + 1)))
    rw [hcs_cons]
/-- A holder's last number is stored. -/
theorem XS.store {w : World} {B g c : Nat} {ad : Addr} {L : List HD} {pk : Int} (h : XS w B g (.slice (some ad) L.length c) L pk) {i : Int} (h0 : 0 ≤ i) (h1 : i < L.length) (n : Int) :
    XS (w.setCell ⟨(ad.add (i.toNat * 3)).block, (ad.add (i.toNat * 3)).off + 2, none⟩ (.int .i64 n)) B g (.slice (some ad) L.length c) (L.take i.toNat ++ [⟨(L.getD i.toNat default).nm, (L.getD i.toNat default).mo, n⟩] ++ L.drop (i.toNat + 1)) pk ∧ Tw g (Value.ownBlock (.slice (some ad) L.length c)) w (w.setCell ⟨(ad.add (i.toNat * 3)).block, (ad.add (i.toNat * 3)).off + 2, none⟩ (.int .i64 n)) ∧ w.frozen? ⟨(ad.add (i.toNat * 3)).block, (ad.add (i.toNat * 3)).off + 2, none⟩ = false := by
  have hk : i.toNat < L.length := by omega
  have hne := h.ne
  rcases h.row.2 with ⟨e, hn⟩ | ⟨gr, cap, cur, e, hbase, hb, q1, q2, q3, q4⟩
  · cases e
  injection e with e e1 e2
  injection e with e
  subst e
  subst e2
  have ea : (⟨gr, 0, none⟩ : Addr).add (i.toNat * 3) = ⟨gr, i.toNat * 3, none⟩ := add_plain gr _
  rw [ea]
  have hng : g ≠ gr := fun e => hne (by simp [Value.ownBlock, e])
  refine ⟨⟨?_, ?_⟩, ⟨rfl, rfl, rfl, by simp [World.setCell], fun j hj h1 h2 => Below.heap_setCell _ _ _ _ (fun e => h2 (by simp [Value.ownBlock, e]))⟩, by simp [World.frozen?, hb]⟩
  · rw [Below.heap_setCell _ _ _ _ hng]; exact h.blk
  · have hl : (L.take i.toNat ++ [(⟨(L.getD i.toNat default).nm, (L.getD i.toNat default).mo, n⟩ : HD)] ++ L.drop (i.toNat + 1)).length = L.length := by simp; omega
    rw [hl]
    refine ⟨by rw [hcs_length, hl], .inr ⟨gr, c, _, rfl, hbase, blk_set hb _ _, q1, q2, by simp [q3], ?_⟩⟩
    rw [← hcs_set n hk, ← q4]
    simp only [Array.toList_setIfInBounds]
    rw [List.take_set]
theorem XS.peak {w : World} {B g : Nat} {v : Value} {L : List HD} {pk : Int} (h : XS w B g v L pk) (z : Int) (r : Option Nat) : XS (w.setCell ⟨g, 1, none⟩ (.int .i64 z)) B g v L z ∧ Tw g r w (w.setCell ⟨g, 1, none⟩ (.int .i64 z)) :=
  ⟨⟨blk_set h.blk 1 _, own_setCell h.row h.ne _⟩, ⟨rfl, rfl, rfl, by simp [World.setCell], fun j hj h1 _ => Below.heap_setCell _ _ _ _ h1⟩⟩
set_option maxHeartbeats 4000000 in
set_option maxRecDepth 100000 in
theorem dHold_ok {w : World} {B g : Nat} {v : Value} {L : List HD} {pk n : Int} {s : ByteArray} (h : XS w B g v L pk) (hr : SP.Rise (EH L)) (hm : L.length ≤ 1024) : Calls Try.prog 32 #[.pointer (some ⟨g, 0, none⟩), .string s, .int .i64 n] w fun e w' => e = .returned (.int .i64 (holdC (.map (EH L)) s n pk).1) ∧ (∃ L' pk', (holdC (.map (EH L)) s n pk).2 = (.map (EH L'), pk') ∧ XS w' B g v L' pk' ∧ L'.length = L.length) ∧ Tw g v.ownBlock w w' := by
  have HX := Aside0.mk h
  have HR := Aside0.mk hr
  have HM := Aside0.mk hm
  clear h hr hm
  go_enter Try.func32, Try.ntmps32
  go_wp2_with (fail)
  refine (find_ok HX.out HM.out).mono ?_
  rintro e w1 ⟨⟨r, rfl, hrr⟩, hB⟩
  have HB := Aside0.mk hB
  have HX1 := Aside0.mk (HX.out.below hB)
  clear hB
  rcases hrr with ⟨rfl, hno⟩ | ⟨hr0, hr1, hrs⟩
  · have e := SP.hold_no n pk hno
    have HE := Aside0.mk e
    clear e hno
    go_wp2
    go_ret
    rw [HE.out]
    exact ⟨rfl, ⟨L, pk, rfl, HX1.out, rfl⟩, Tw.of_below HB.out⟩
  have hk : r.toNat < L.length := by omega
  obtain ⟨x0, x1⟩ := HX1.out.cell
  obtain ⟨ad, c, rfl, y0, y1, y2⟩ := HX1.out.at_ hr0 hr1
  have hrb : decide (r < 0) = false := decide_eq_false (by omega)
  have HS := Aside0.mk hrs
  by_cases c1 : n < 0
  · have c1b : decide (n < 0) = true := decide_eq_true c1
    have e := SP.hold_bad HR.out hk pk (.inl c1)
    rw [hrs] at e
    have HE := Aside0.mk e
    clear c1 e hk hrs
    go_wp2
    go_ret
    rw [HE.out]
    exact ⟨rfl, ⟨L, pk, rfl, HX1.out, rfl⟩, Tw.of_below HB.out⟩
  have c1b : decide (n < 0) = false := decide_eq_false c1
  by_cases c2 : n > (L.getD r.toNat default).mo
  · have c2b : decide ((L.getD r.toNat default).mo < n) = true := decide_eq_true c2
    have e := SP.hold_bad HR.out hk pk (.inr c2)
    rw [hrs] at e
    have HE := Aside0.mk e
    generalize (L.getD r.toNat default).mo = zm at y1 c2b
    clear c1 c2 e hk hrs y0 y2
    go_wp2
    go_ret
    rw [HE.out]
    exact ⟨rfl, ⟨L, pk, rfl, HX1.out, rfl⟩, Tw.of_below HB.out⟩
  have c2b : decide ((L.getD r.toNat default).mo < n) = false := decide_eq_false c2
  have e := SP.hold_good HR.out hk pk c1 c2
  rw [hrs] at e
  have HE := Aside0.mk e
  obtain ⟨hs1, hs2, hs3⟩ := HX1.out.store hr0 hr1 n
  rw [hrs] at hs1
  have hl : (L.take r.toNat ++ [(⟨s, (L.getD r.toNat default).mo, n⟩ : HD)] ++ L.drop (r.toNat + 1)).length = L.length := by simp; omega
  have HL := Aside0.mk hl
  clear e hl
  generalize (L.take r.toNat ++ [(⟨s, (L.getD r.toNat default).mo, n⟩ : HD)] ++ L.drop (r.toNat + 1)) = L' at HE hs1 HL
  have HX2 := Aside0.mk hs1
  have HT2 := Aside0.mk ((Tw.of_below (g := g) (r := Value.ownBlock (.slice (some ad) L.length c)) HB.out).trans hs2)
  generalize (L.getD r.toNat default).mo = zm at y1 c2b
  clear c1 c2 hk hrs y0 hs1 hs2
  go_wp2_with (fail)
  generalize w1.setCell ⟨(ad.add (r.toNat * 3)).block, (ad.add (r.toNat * 3)).off + 2, none⟩ (.int .i64 n) = W2 at HX2 HT2 ⊢
  clear x0 x1 y1 hs3
  have HM2 : Aside0 (L'.length ≤ 1024) := ⟨by rw [HL.out]; exact HM.out⟩
  have z1 := HX2.out.cell.2
  have HZ := Aside0.mk z1
  go_region_held3 (fun w' => w'.cell? ⟨g, 1, none⟩ = some (.int .i64 pk)) (first | exact z2 | exact z1)
    (first | (go_at_call 19; refine (dHeld_ok (HX2.out.below (below_drew (Below.refl _ _))) HM2.out).mono ?_; rintro e w3 ⟨rfl, hB3⟩; have HB3 := Aside0.mk hB3; clear hB3; have z2 : w3.cell? ⟨g, 1, none⟩ = some (.int .i64 pk) := pw_cell_below HB3.out HZ.out))
  clear z1 z2
  have HX3 := Aside0.mk ((HX2.out.below (below_drew (Below.refl _ _))).below HB3.out)
  have HT3 := Aside0.mk (HT2.out.trans ((Tw.of_below (g := g) (r := Value.ownBlock (.slice (some ad) L.length c)) (below_drew (Below.refl W2.heap.size W2))).trans (Tw.of_below HB3.out)))
  generalize hZ : wrap64 (sumD (fun _ b => b) (.map (EH L'))) = z at HE ⊢
  have HZE := Aside0.mk hZ
  clear hZ
  by_cases cz : pk < z
  · have czb : decide (pk < z) = true := decide_eq_true cz
    have hmx : max pk z = z := by omega
    have HMX := Aside0.mk hmx
    clear cz hmx
    rw [czb]
    go_wp2_with (fail)
    refine (dHeld_ok HX3.out HM2.out).mono ?_
    rintro e w4 ⟨rfl, hB4⟩
    rw [HZE.out]
    have HX4 := Aside0.mk (HX3.out.below hB4)
    have HT4 := Aside0.mk (HT3.out.trans (Tw.of_below hB4))
    clear hB4
    have f4 := HX4.out.frozen 1
    have z4 := HX4.out.cell.2
    go_wp2
    go_ret
    rw [HE.out, HMX.out]
    exact ⟨rfl, ⟨L', z, rfl, (HX4.out.peak z none).1, HL.out⟩, HT4.out.trans (HX4.out.peak z _).2⟩
  · have czb : decide (pk < z) = false := decide_eq_false cz
    have hmx : max pk z = pk := by omega
    have HMX := Aside0.mk hmx
    clear cz hmx
    rw [czb]
    go_wp2
    go_ret
    rw [HE.out, HMX.out]
    exact ⟨rfl, ⟨L', pk, rfl, HX3.out, HL.out⟩, HT3.out⟩
end Go.Proofs.Ytbdlkpmaalhnnaa.X
