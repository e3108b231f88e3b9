/- By hand: PurseTrue's walk. -/
import Derived.Test.YtbdlkpmaalhnnaaXPi
import Derived.Sort.KeysCollected
import Derived.Deep.RegionHeld3
import Derived.Deep.RegionLaw
import Derived.BigQuiet
import Derived.Laws.Cover1
namespace Go.Proofs.Ytbdlkpmaalhnnaa.X
open Go.RowKit Go.Proofs.YtbdlkpmaalhnnaaW.PrintWords Go.Proofs.YtbdlkpmaalhnnaaW.PrintLast Go.Proofs.YtbdlkpmaalhnnaaW.PrintMore
open Go.Maps Go.MuLone Go.ChangeMaps Go.WideShapes
open Go.Proofs.Ytbdlkpmaalhnnaa.SP (LOk EL EL_ok EL_rise EL_rev EL_size open_goes open_told hold_ok)
set_option linter.unusedVariables false
set_option linter.unusedSimpArgs false

theorem op_cells {w : World} {a : Option Addr} {l : List Op} (h : OpsAt w a l) {i : Int} (h0 : 0 ≤ i) (h1 : i < l.length) : ∃ ad hb s m, a = some ad ∧ w.cell? (ad.add (i.toNat * 3)) = some (.bool hb) ∧ w.cell? ⟨(ad.add (i.toNat * 3)).block, (ad.add (i.toNat * 3)).off + 1, none⟩ = some (.string s) ∧ w.cell? ⟨(ad.add (i.toNat * 3)).block, (ad.add (i.toNat * 3)).off + 2, none⟩ = some (.int .i64 m) ∧ s.size ≤ maxLen := by
  obtain ⟨ad, e, c0, c1, c2, hs⟩ := h i.toNat (by omega)
  exact ⟨ad, _, _, _, e, c0, by rw [← add_field _ _ 1 (by omega)]; exact c1, by rw [← add_field _ _ 2 (by omega)]; exact c2, hs⟩
theorem w64 {x : Int} (h1 : -9223372036854775808 ≤ x) (h2 : x ≤ 9223372036854775807) : wrap64 x = x := by unfold wrap64; omega
/-- A cell of a row of the call's own. -/
theorem own_cell {α : Type} {enc : α → Value} {d : α} {w : World} {base n c : Nat} {e : TypeId} {A : Option Addr} {xs : List α} (h : w.ownsRow base e 1 (.slice A n c) xs.length (encs enc xs)) (hn : n = xs.length) {i : Int} (h0 : 0 ≤ i) (h1 : i < xs.length) : ∃ ad, A = some ad ∧ w.cell? (ad.add i.toNat) = some (enc (xs.getD i.toNat d)) := by
  subst hn
  obtain ⟨A', c', e1, hr⟩ := own_reads_of (d := d) h
  injection e1 with e1 _ _
  subst e1
  obtain ⟨ad, e2, hc⟩ := hr.at_ i h0 h1
  exact ⟨ad, e2, hc⟩
theorem LOk.dropRev {ps : List (ByteArray × Int)} (h : LOk ps) (k : Nat) : LOk (ps.drop k).reverse := by
  refine ⟨List.pairwise_reverse.2 ((h.one.imp (fun h => h.symm)).sublist (List.drop_sublist k ps)), fun x hx => h.val x (List.mem_of_mem_drop (List.mem_reverse.1 hx)), ?_⟩
  have := h.few
  rw [List.length_reverse, List.length_drop]; omega
theorem drop_rev {α : Type} {ps : List α} {k : Nat} {x : α} (d : α) (hk : k < ps.length) (hx : ps.getD k d = x) : (ps.drop k).reverse = (ps.drop (k + 1)).reverse ++ [x] := by
  rw [List.drop_eq_getElem_cons hk, List.reverse_cons]
  simp [List.getD, hk] at hx
  rw [hx]
theorem getD_fst {ps : List (ByteArray × Int)} {k : Nat} (hk : k < ps.length) : (ps.map Prod.fst).getD k ⟨#[]⟩ = (ps.getD k (⟨#[]⟩, 0)).1 ∧ (ps.map Prod.snd).getD k 0 = (ps.getD k (⟨#[]⟩, 0)).2 := by
  simp [List.getD, hk]
theorem bLess : ∀ (x y : List UInt8), Op.bytesLess x y = decide (x < y)
  | [], [] => by simp [Op.bytesLess]
  | _ :: _, [] => by simp [Op.bytesLess]
  | [], _ :: _ => by simp [Op.bytesLess]
  | a :: x, b :: y => by
    rw [Op.bytesLess, bLess x y]
    simp only [List.cons_lt_cons_iff]
    by_cases h1 : a < b <;> by_cases h2 : a = b <;> by_cases h3 : x < y <;> simp [h1, h2, h3]
theorem keys_nodup {E : List (Lit × DataW Unit)} (h : SP.Ok E) : (strKeys (.map E)).Nodup := by
  show (E.map fun p => strOf p.1).Nodup
  refine List.pairwise_map.2 (h.one.imp_of_mem fun {p q} hp hq hne e => hne ?_)
  obtain ⟨a, ha⟩ := h.key p hp
  obtain ⟨b, hb⟩ := h.key q hq
  rw [ha, hb] at e ⊢
  exact congrArg _ e
/-- Sorted names rise. -/
theorem sorted_lt {ss : List (List UInt8)} (hn : ss.Nodup) {i : Nat} (h0 : 0 < i) (h1 : i < ss.length) : (ss.mergeSort leB).getD (i - 1) [] < (ss.mergeSort leB).getD i [] := by
  have tr : ∀ a b c : List UInt8, leB a b = true → leB b c = true → leB a c = true := fun a b c h1 h2 => by simp only [leB, decide_eq_true_eq] at *; exact List.le_trans h1 h2
  have tt : ∀ a b : List UInt8, (leB a b || leB b a) = true := fun a b => by simp only [leB, Bool.or_eq_true, decide_eq_true_eq]; exact List.le_total a b
  have hp := List.pairwise_mergeSort tr tt ss
  have hl : (ss.mergeSort leB).length = ss.length := List.length_mergeSort ss
  have hnd : (ss.mergeSort leB).Nodup := (List.mergeSort_perm ss leB).nodup_iff.2 hn
  have hi1 : i - 1 < (ss.mergeSort leB).length := by omega
  have hi2 : i < (ss.mergeSort leB).length := by omega
  have h := List.pairwise_iff_getElem.1 hp (i - 1) i hi1 hi2 (by omega)
  have hne := List.pairwise_iff_getElem.1 hnd (i - 1) i hi1 hi2 (by omega)
  simp only [leB, decide_eq_true_eq] at h
  simp only [List.getD, List.getElem?_eq_getElem hi1, List.getElem?_eq_getElem hi2, Option.getD_some]
  refine Classical.byContradiction fun c => hne (List.le_antisymm h c)
theorem str_up {x y : List UInt8} (h : y < x) : Op.bytesLess (ByteArray.mk x.toArray).toList (ByteArray.mk y.toArray).toList = false ∧ ((ByteArray.mk x.toArray).toList == (ByteArray.mk y.toArray).toList) = false := by
  rw [ByteArray.toList_mk, ByteArray.toList_mk, bLess]
  refine ⟨decide_eq_false (List.lt_asymm h), ?_⟩
  rw [beq_eq_false_iff_ne]
  intro e
  rw [e] at h
  exact List.lt_irrefl _ h
theorem round_next {i : Int} {n : Nat} (h0 : 0 ≤ i) (h1 : i < (n : Int)) (hn : n ≤ maxLen) : wrap64 (i + 1) = i + 1 := by
  unfold maxLen at hn; unfold wrap64; omega
theorem blk_cells3 {w : World} {g : Nat} {t : TypeId} {x y z : Value} (h : w.heap[g]? = some (.cells #[x, y, z] t (0, 0))) : w.cell? ⟨g, 0, none⟩ = some x ∧ w.cell? ⟨g, 1, none⟩ = some y ∧ w.cell? ⟨g, 2, none⟩ = some z := by
  refine ⟨by simp [World.cell?, h], by simp [World.cell?, h], by simp [World.cell?, h]⟩
set_option maxHeartbeats 4000000 in
set_option maxRecDepth 100000 in
theorem true_walk {w : World} {a : Option Addr} {cap : Nat} {l : List Op} (hl : OpsAt w a l) (hm : l.length ≤ maxLen) (aw : ∀ w : World, Calls Try.prog 9 #[] w fun e w' => e = .returned (.bool true) ∧ Below w.heap.size w w')
    (nm : ∀ {w : World} {g bm : Nat} {D : DataW Unit} {pk : Int}, PS w g bm D pk → Maps.size D ≤ 1024 → Calls Try.prog 24 #[.pointer (some ⟨g, 0, none⟩)] w fun e w' => ∃ (v : Value) (ss : List (List UInt8)), e = .returned v ∧ ss.Perm (strKeys D) ∧ w'.ownsRow w.heap.size 9 1 v ss.length ((ss.mergeSort leB).map Go.Proofs.encStr) ∧ Below w.heap.size w w') :
    Calls Try.prog 7 #[.slice a l.length cap] w fun e w' => e = .returned (.bool true) ∧ Below w.heap.size w w' := by
  have HL := Aside0.mk hl
  have HM := Aside0.mk hm
  have NM := Aside0.mk @nm
  have AW := Aside0.mk aw
  clear hl hm nm aw
  go_enter Try.func7, Try.ntmps7
  go_wp2_with (fail)
  refine New_ok.mono ?_
  rintro e w1 ⟨rfl, hp, hB⟩
  have HP := Aside0.mk hp
  have HB := Aside0.mk hB
  obtain ⟨gp, hgp⟩ : ∃ g, g = w.heap.size + 1 := ⟨_, rfl⟩
  obtain ⟨bp, hbp⟩ : ∃ g, g = w.heap.size := ⟨_, rfl⟩
  rw [← hgp, ← hbp] at hp
  rw [← hgp]
  have HP := Aside0.mk hp
  have HGP := Aside0.mk hgp
  have HBP := Aside0.mk hbp
  clear hp hB hgp hbp
  go_wp2_with (fail)
  refine New_ok.mono ?_
  rintro e w2 ⟨rfl, hq, hB⟩
  obtain ⟨gq, hgq⟩ : ∃ g, g = w1.heap.size + 1 := ⟨_, rfl⟩
  obtain ⟨bq, hbq⟩ : ∃ g, g = w1.heap.size := ⟨_, rfl⟩
  rw [← hgq, ← hbq] at hq
  rw [← hgq]
  have HT : Aside0 (T1 w w2 gp bp gq bq (.map (EL [])) 0 (.map []) 0 (.slice none 0 0) (.slice none 0 0) [] []) := by
    have e1 := HP.out.lt
    have e2 := HP.out.own.lt
    have e3 := HGP.out
    have e4 := HBP.out
    refine ⟨⟨HP.out.below hB, hq, own_nil _ _ _ _, own_nil _ _ _ _, below_step HB.out hB, ⟨?_, ?_, ?_, ?_⟩, ?_, ?_, ?_, ?_⟩⟩ <;> omega
  have HS := Aside0.mk (show (0 : Int) ≤ (l.length : Int) by omega)
  clear hq hB hgq hbq HGP HBP HP HB
  go_wp2_with (fail)
  go_loopw [5, 6, 26] (fun v5 v6 v26 wr => ∃ (i : Int) (ps : List (ByteArray × Int)), v26 = .int .i64 i ∧ 0 ≤ i ∧ i ≤ (l.length : Int) ∧ Aside0 (LOk ps) ∧ Aside0 (∀ x ∈ ps, x.1.size ≤ maxLen) ∧ Aside0 (T1 w wr gp bp gq bq (.map (EL ps)) 0 (.map []) 0 v5 v6 (ps.map Prod.fst) (ps.map Prod.snd))) (fun _ _ v26 _ => l.length - (intOf v26).toNat)
  case atStart => exact ⟨0, [], rfl, by omega, by omega, ⟨⟨List.Pairwise.nil, by simp, by simp⟩⟩, ⟨by simp⟩, HT⟩
  case round =>
    clear HT
    obtain ⟨i, ps, rfl, hi0, hi1, HK, HZ, HT⟩ := hrel
    by_cases ci : i < (l.length : Int)
    case neg =>
      have cib : decide (i < (l.length : Int)) = false := decide_eq_false ci
      obtain ⟨A5, c5, rfl⟩ : ∃ A c, u5 = .slice A ps.length c := by simpa using own_slice HT.out.n
      obtain ⟨A6, c6, rfl⟩ : ∃ A c, u6 = .slice A ps.length c := by simpa using own_slice HT.out.m
      have LL := Aside0.mk HK.out.few
      clear ci hi0 hi1
      go_wp2_with (fail)
      clear cib
      go_loopw [9] (fun v9 wq => ∃ (i : Int), v9 = .int .i64 i ∧ -1 ≤ i ∧ i < (ps.length : Int) ∧ Aside0 (T1 w wq gp bp gq bq (.map (EL ps)) 0 (.map (EL (ps.drop (i + 1).toNat).reverse)) 0 (.slice A5 ps.length c5) (.slice A6 ps.length c6) (ps.map Prod.fst) (ps.map Prod.snd))) (fun v9 _ => (intOf v9 + 1).toNat)
      case atStart =>
        refine ⟨(ps.length : Int) - 1, by have := LL.out; rw [w64 (by omega) (by omega)], by omega, by omega, ⟨?_⟩⟩
        rw [show ((ps.length : Int) - 1 + 1).toNat = ps.length by omega, List.drop_length]
        simpa [show EL [] = [] from rfl] using HT.out
      case round =>
        clear HT
        obtain ⟨i, rfl, hi0, hi1, HT⟩ := hrel
        by_cases ci : 0 ≤ i
        case neg =>
          have cib : decide (0 ≤ i) = false := decide_eq_false ci
          have HT0 : Aside0 (T1 w wr gp bp gq bq (.map (EL ps)) 0 (.map (EL ps)) 0 (.slice A5 ps.length c5) (.slice A6 ps.length c6) (ps.map Prod.fst) (ps.map Prod.snd)) := by
            have := HT.out
            rw [show (i + 1).toNat = 0 by omega, List.drop_zero, EL_rev HK.out] at this
            exact ⟨this⟩
          clear ci HT hi0 hi1
          go_wp2_with (fail)
          clear cib
          go_loopw [10, 73] (fun v10 v73 wq => ∃ (i pk : Int) (E : List (Lit × DataW Unit)), v10 = .int .i64 pk ∧ v73 = .int .i64 i ∧ 0 ≤ i ∧ i ≤ (l.length : Int) ∧ Aside0 (SP.Ok E ∧ SP.Rise E ∧ E.length = ps.length ∧ SP.held E ≤ pk ∧ pk ≤ SP.most E) ∧ Aside0 (T1 w wq gp bp gq bq (.map E) pk (.map E) pk (.slice A5 ps.length c5) (.slice A6 ps.length c6) (ps.map Prod.fst) (ps.map Prod.snd))) (fun _ v73 _ => l.length - (intOf v73).toNat)
          case atStart =>
            obtain ⟨e1, e2⟩ := EL_ok HK.out
            have e3 := e1.sums
            exact ⟨0, 0, _, rfl, rfl, by omega, by omega, ⟨e1, EL_rise ps HK.out, (SP.EL_perm ps).length_eq.trans (List.length_map _), by omega, by omega⟩, HT0⟩
          case round =>
            clear HT0
            obtain ⟨i, pk, E, rfl, rfl, hi0, hi1, HE, HT⟩ := hrel
            by_cases ci : i < (l.length : Int)
            case neg =>
              have cib : decide (i < (l.length : Int)) = false := decide_eq_false ci
              clear ci hi0 hi1
              go_wp2_with (fail)
              clear cib
              have hs : Maps.size (.map E) ≤ 1024 := by rw [Maps.size_eq]; exact HE.out.1.few
              refine (NM.out HT.out.p hs).mono ?_
              rintro e w4 ⟨va, sa, rfl, ha, hra, hB4⟩
              have HT4 := Aside0.mk (HT.out.below hB4)
              have HSA := Aside0.mk ha
              have HRA := Aside0.mk hra
              clear ha hra hB4
              go_wp2_with (fail)
              refine (NM.out HT4.out.q hs).mono ?_
              rintro e w5 ⟨vb, sb, rfl, hb_, hrb, hB5⟩
              have HT5 := Aside0.mk (HT4.out.below hB5)
              have hrb' : w5.ownsRow w4.heap.size 9 1 vb sb.length ((sa.mergeSort leB).map Go.Proofs.encStr) := by rw [mergeSort_of_perm (HSA.out.trans hb_.symm)]; exact hrb
              have hlen : sb.length = sa.length := (HSA.out.trans hb_.symm).length_eq.symm
              rw [hlen] at hrb'
              have hra' := pw_own_below HRA.out hB5
              have hl : (sa.mergeSort leB).length = sa.length := List.length_mergeSort sa
              have hlp : sa.length = ps.length := HSA.out.length_eq.trans ((show (strKeys (.map E)).length = E.length from List.length_map _).trans HE.out.2.2.1)
              rw [hlp] at hra' hrb' hl
              obtain ⟨A13, c13, rfl⟩ := own_slice hra'
              obtain ⟨A14, c14, rfl⟩ := own_slice hrb'
              have hnd : sa.Nodup := HSA.out.nodup_iff.2 (keys_nodup HE.out.1)
              have HL4 := Aside0.mk hl
              have HLP := Aside0.mk hlp
              have HND := Aside0.mk hnd
              have HRA := Aside0.mk hra'
              have HRB := Aside0.mk hrb'
              clear hs hb_ hrb hrb' hra' hB5 hlen hl hlp hnd HT HT4
              go_wp2_with (fail)
              go_loopw [136] (fun v136 wq => ∃ (i : Int), v136 = .int .i64 i ∧ 0 ≤ i ∧ i ≤ (ps.length : Int) ∧ Aside0 (Below w5.heap.size w5 wq)) (fun v136 _ => ps.length - (intOf v136).toNat)
              case atStart => exact ⟨0, rfl, by omega, by omega, ⟨Below.refl _ _⟩⟩
              case round =>
                obtain ⟨i, rfl, hi0, hi1, HB⟩ := hrel
                by_cases ci : i < (ps.length : Int)
                case neg =>
                  have cib : decide (i < (ps.length : Int)) = false := decide_eq_false ci
                  clear ci hi0 hi1
                  go_wp2_with (fail)
                  refine (AW.out _).mono ?_
                  rintro e w6 ⟨rfl, hB6⟩
                  have HB6 := Aside0.mk (below_step (HT5.out.b.trans (below_then (Below.refl _ _) HT5.out.b.size HB.out)) hB6)
                  clear hB6
                  go_wp2
                  go_ret
                  exact ⟨rfl, HB6.out⟩
                case pos =>
                  have cib : decide (i < (ps.length : Int)) = true := decide_eq_true ci
                  have cic : decide ((ps.length : Int) ≤ i) = false := decide_eq_false (by omega)
                  have hra := pw_own_below HRA.out HB.out
                  have hrb := pw_own_below HRB.out HB.out
                  have hk : i.toNat < ps.length := by omega
                  obtain ⟨ad, e1, c1⟩ := own_cell (enc := Go.Proofs.encStr) (d := ([] : List UInt8)) (xs := sa.mergeSort leB) (by rw [HL4.out]; exact hra) HL4.out.symm hi0 (by rw [HL4.out]; exact ci)
                  obtain ⟨ad', e2, c2⟩ := own_cell (enc := Go.Proofs.encStr) (d := ([] : List UInt8)) (xs := sa.mergeSort leB) (by rw [HL4.out]; exact hrb) HL4.out.symm hi0 (by rw [HL4.out]; exact ci)
                  by_cases c0 : 0 < i
                  · have c0b : decide (0 < i) = true := decide_eq_true c0
                    obtain ⟨j, hj⟩ : ∃ j, j = i - 1 := ⟨_, rfl⟩
                    have ew : wrap64 j = j := w64 (by omega) (by have := LL.out; omega)
                    have ew2 : IntKind.i64.wrap j = j := by rw [i64_w]; exact ew
                    have hj0 : 0 ≤ j := by omega
                    have hj1 : j < (ps.length : Int) := by omega
                    obtain ⟨ad2, e3, c3⟩ := own_cell (enc := Go.Proofs.encStr) (d := ([] : List UInt8)) (xs := sa.mergeSort leB) (by rw [HL4.out]; exact hra) HL4.out.symm hj0 (by rw [HL4.out]; exact hj1)
                    obtain ⟨f1, f2⟩ := str_up (sorted_lt HND.out (i := i.toNat) (by omega) (by rw [HLP.out]; omega))
                    rw [show i.toNat - 1 = j.toNat by omega] at f1 f2
                    replace hj := hj.symm
                    subst e1
                    subst e2
                    injection e3 with e3
                    subst e3
                    have c1' : wr.cell? (ad.add i.toNat) = some (.string (ByteArray.mk ((sa.mergeSort leB).getD i.toNat []).toArray)) := c1
                    have c2' : wr.cell? (ad'.add i.toNat) = some (.string (ByteArray.mk ((sa.mergeSort leB).getD i.toNat []).toArray)) := c2
                    have c3' : wr.cell? (ad.add j.toNat) = some (.string (ByteArray.mk ((sa.mergeSort leB).getD j.toNat []).toArray)) := c3
                    clear c1 c2 c3 hra hrb hk
                    generalize (ByteArray.mk ((sa.mergeSort leB).getD i.toNat []).toArray) = sx at c1' c2' f1 f2
                    generalize (ByteArray.mk ((sa.mergeSort leB).getD j.toNat []).toArray) = sy at c3' f1 f2
                    go_wp2_with (fail)
                    go_quiet (fail)
                    go_wp2_with (fail)
                    have e1 := round_next hi0 ci (by have := LL.out; unfold maxLen; omega)
                    (try rw [e1])
                    refine ⟨⟨i + 1, rfl, by omega, by omega, ⟨pw_below_drewN HB.out nq⟩⟩, by simp [intOf]; omega⟩
                  · have c0b : decide (0 < i) = false := decide_eq_false c0
                    subst e1
                    subst e2
                    have c1' : wr.cell? (ad.add i.toNat) = some (.string (ByteArray.mk ((sa.mergeSort leB).getD i.toNat []).toArray)) := c1
                    have c2' : wr.cell? (ad'.add i.toNat) = some (.string (ByteArray.mk ((sa.mergeSort leB).getD i.toNat []).toArray)) := c2
                    clear c1 c2 hra hrb hk
                    generalize (ByteArray.mk ((sa.mergeSort leB).getD i.toNat []).toArray) = sx at c1' c2'
                    go_wp2_with (fail)
                    go_quiet (fail)
                    go_wp2_with (fail)
                    have e1 := round_next hi0 ci (by have := LL.out; unfold maxLen; omega)
                    (try rw [e1])
                    refine ⟨⟨i + 1, rfl, by omega, by omega, ⟨pw_below_drewN HB.out nq⟩⟩, by simp [intOf]; omega⟩
            case pos =>
              have cib : decide (i < (l.length : Int)) = true := decide_eq_true ci
              obtain ⟨ad, hb, s, m, had, x0, x1, x2, hsz⟩ := op_cells (HL.out.below HT.out.b) hi0 ci
              subst had
              have HSZ := Aside0.mk hsz
              clear hsz
              cases hb with
              | false =>
                have HT2 := Aside0.mk (HT.out.alloc (.cells #[.bool false, .string s, .int .i64 m] 40))
                go_wp2_with (fail)
                have e1 := round_next hi0 ci HM.out
                rw [e1]
                refine ⟨⟨i + 1, pk, E, rfl, rfl, by omega, by omega, HE, HT2⟩, by simp [intOf]; omega⟩
              | true =>
                have HT2 := Aside0.mk (HT.out.alloc (.cells #[.bool true, .string s, .int .i64 m] 40))
                have HB2 := Aside0.mk (blk_new wr (.cells #[.bool true, .string s, .int .i64 m] 40))
                have NP := Aside0.mk (show wr.heap.size ≠ gp ∧ wr.heap.size ≠ bp ∧ wr.heap.size ≠ gq ∧ wr.heap.size ≠ bq from ⟨by have := HT.out.p.lt; omega, by have := HT.out.p.own.lt; omega, by have := HT.out.q.lt; omega, by have := HT.out.q.own.lt; omega⟩)
                obtain ⟨E', pk', z, hz, hE1, hE2, hE3, hE4, hE5, hE6⟩ := hold_ok HE.out.1 s m pk HE.out.2.2.2.1 HE.out.2.2.2.2
                have hE0 := hE1.sums
                have HZC := Aside0.mk hz
                have HE' : Aside0 (SP.Ok E' ∧ SP.Rise E' ∧ E'.length = ps.length ∧ SP.held E' ≤ pk' ∧ pk' ≤ SP.most E') := ⟨⟨hE1, hE2.2 HE.out.2.1, hE2.1.trans HE.out.2.2.1, hE5, hE6⟩⟩
                have HWH := Aside0.mk (show wrap64 (sumD (fun _ b => b) (.map E')) = SP.held E' from SP.w_of (by exact hE0.1) (by have := hE0.2; exact Int.le_trans this.1 this.2))
                have HWM := Aside0.mk (show wrap64 (sumD (fun a _ => a) (.map E')) = SP.most E' from SP.w_of (Int.le_trans hE0.1 hE0.2.1) hE0.2.2)
                have HPK : Aside0 ((if SP.held E' > pk then SP.held E' else pk) = pk') := ⟨by
                  have h1 := HE.out.2.2.2.1
                  rcases hE4 with ⟨_, rfl, rfl⟩ | ⟨_, rfl⟩
                  · rw [if_neg (by omega)]
                  · by_cases c : SP.held E' > pk
                    · rw [if_pos c]; omega
                    · rw [if_neg c]; omega⟩
                have HN0 := Aside0.mk (show ¬ SP.held E' < 0 by omega)
                clear hE0 hE1 hE2 hE3 hE4 hE5 hE6 hz
                have hsize : Maps.size (.map E) < maxLen := by rw [Maps.size_eq]; have := HE.out.1.few; unfold maxLen; omega
                have HSI := Aside0.mk hsize
                clear hsize
                go_wp2_with (fail)
                have hb3 := blk_drew HB2.out
                obtain ⟨y0, y1, y2⟩ := blk_cells3 HB2.out
                clear hb3 x0 x1 x2
                generalize (wr.alloc (.cells #[.bool true, .string s, .int .i64 m] 40)) = W2 at HT2 HB2 y0 y1 y2 ⊢
                go_region_held3 (fun w' => w'.cell? ⟨wr.heap.size, 1, none⟩ = some (.string s) ∧ w'.cell? ⟨wr.heap.size, 2, none⟩ = some (.int .i64 m))
                  (first | exact ⟨z1, z2⟩ | exact ⟨y1, y2⟩)
                  (first
                    | ((fail_if_success have _h := HT3); go_at_call 21; refine (Hold_ok HT2.out.drew.p HSZ.out HSI.out).mono ?_; rintro e w3 ⟨rfl, hp3, ht3⟩; rw [HZC.out] at hp3 ⊢; have HT3 := Aside0.mk (HT2.out.drew.twoP ht3 hp3); have HB3 := Aside0.mk ((ht3.block _ (blk_lt (blk_drew HB2.out)) NP.out.1 NP.out.2.1).trans (blk_drew HB2.out)); clear hp3 ht3; obtain ⟨z0, z1, z2⟩ := blk_cells3 HB3.out)
                    | ((fail_if_success have _h := HT4); go_at_call 21; refine (Hold_ok HT3.out.q HSZ.out HSI.out).mono ?_; rintro e w4 ⟨rfl, hp4, ht4⟩; rw [HZC.out] at hp4 ⊢; have HT4 := Aside0.mk (HT3.out.twoQ ht4 hp4); have HB4 := Aside0.mk ((ht4.block _ (blk_lt HB3.out) NP.out.2.2.1 NP.out.2.2.2).trans HB3.out); clear hp4 ht4 z0 z1 z2; obtain ⟨z0, z1, z2⟩ := blk_cells3 HB4.out)
                    | ((fail_if_success have _h := HT5); go_at_call 18; refine (Held_ok HT4.out.p).mono ?_; rintro e w5 ⟨rfl, hB5⟩; rw [HWH.out]; have HT5 := Aside0.mk (HT4.out.below hB5); have HB5 := Aside0.mk (blk_below HB4.out hB5); clear hB5 z0 z1 z2; obtain ⟨z0, z1, z2⟩ := blk_cells3 HB5.out)
                    | (go_at_call 18; refine (Held_ok HT5.out.q).mono ?_; rintro e w6 ⟨rfl, hB6⟩; rw [HWH.out]; have HT6 := Aside0.mk (HT5.out.below hB6); have HB6 := Aside0.mk (blk_below HB5.out hB6); clear hB6 z0 z1 z2; obtain ⟨z0, z1, z2⟩ := blk_cells3 HB6.out))
                clear z0 z1 z2 y0 y1 y2
                have hn0 : decide (SP.held E' < 0) = false := decide_eq_false (by have := HN0.out; omega)
                have hpm : decide (SP.most E' < pk') = false := decide_eq_false (by have := HE'.out.2.2.2.2; omega)
                go_wp2_with (fail)
                refine (Held_ok HT6.out.p).mono ?_
                rintro e w7 ⟨rfl, hB7⟩
                rw [HWH.out]
                have HT7 := Aside0.mk (HT6.out.below hB7)
                clear hB7
                by_cases cp : pk < SP.held E'
                · have cpb : decide (pk < SP.held E') = true := decide_eq_true cp
                  have hq : SP.held E' = pk' := by have := HPK.out; rw [if_pos cp] at this; exact this
                  go_wp2_with (fail)
                  refine (Held_ok HT7.out.p).mono ?_
                  rintro e w7b ⟨rfl, hB7⟩
                  rw [HWH.out]
                  have HT7b := Aside0.mk (HT7.out.below hB7)
                  clear hB7
                  have HQ := Aside0.mk hq
                  have hpe : (pk' != SP.held E') = false := by rw [hq]; simp
                  clear hq
                  clear cp cpb
                  go_wp2_with (fail)
                  refine (Held_ok HT7b.out.p).mono ?_
                  rintro e w8 ⟨rfl, hB8⟩
                  rw [HWH.out]
                  have HT8 := Aside0.mk (HT7b.out.below hB8)
                  clear hB8 HT7b
                  go_wp2_with (fail)
                  refine (Peak_ok HT8.out.p).mono ?_
                  rintro e w9 ⟨rfl, hB9⟩
                  have HT9 := Aside0.mk (HT8.out.below hB9)
                  clear hB9 HT8
                  go_wp2_with (fail)
                  refine (Peak_ok HT9.out.p).mono ?_
                  rintro e w10 ⟨rfl, hB10⟩
                  have HT10 := Aside0.mk (HT9.out.below hB10)
                  clear hB10 HT9
                  go_wp2_with (fail)
                  refine (Most_ok HT10.out.p).mono ?_
                  rintro e w11 ⟨rfl, hB11⟩
                  rw [HWM.out]
                  have HT11 := Aside0.mk (HT10.out.below hB11)
                  clear hB11 HT10
                  go_wp2_with (fail)
                  refine (Most_ok HT11.out.p).mono ?_
                  rintro e w12 ⟨rfl, hB12⟩
                  rw [HWM.out]
                  have HT12 := Aside0.mk (HT11.out.below hB12)
                  clear hB12 HT11
                  go_wp2_with (fail)
                  refine (Most_ok HT12.out.q).mono ?_
                  rintro e w13 ⟨rfl, hB13⟩
                  rw [HWM.out]
                  have HT13 := Aside0.mk (HT12.out.below hB13)
                  clear hB13 HT12
                  go_wp2_with (fail)
                  have e1 := round_next hi0 ci HM.out
                  rw [e1]
                  refine ⟨⟨i + 1, pk', E', by rw [HQ.out], rfl, by omega, by omega, HE', HT13⟩, by simp [intOf]; omega⟩
                · have cpb : decide (pk < SP.held E') = false := decide_eq_false cp
                  have hq : pk = pk' := by have := HPK.out; rw [if_neg cp] at this; exact this
                  have HQ := Aside0.mk hq
                  have hpe : (pk' != pk) = false := by rw [hq]; simp
                  clear hq
                  clear cp
                  go_wp2_with (fail)
                  refine (Held_ok HT7.out.p).mono ?_
                  rintro e w8 ⟨rfl, hB8⟩
                  rw [HWH.out]
                  have HT8 := Aside0.mk (HT7.out.below hB8)
                  clear hB8 HT7
                  go_wp2_with (fail)
                  refine (Peak_ok HT8.out.p).mono ?_
                  rintro e w9 ⟨rfl, hB9⟩
                  have HT9 := Aside0.mk (HT8.out.below hB9)
                  clear hB9 HT8
                  go_wp2_with (fail)
                  refine (Peak_ok HT9.out.p).mono ?_
                  rintro e w10 ⟨rfl, hB10⟩
                  have HT10 := Aside0.mk (HT9.out.below hB10)
                  clear hB10 HT9
                  go_wp2_with (fail)
                  refine (Most_ok HT10.out.p).mono ?_
                  rintro e w11 ⟨rfl, hB11⟩
                  rw [HWM.out]
                  have HT11 := Aside0.mk (HT10.out.below hB11)
                  clear hB11 HT10
                  go_wp2_with (fail)
                  refine (Most_ok HT11.out.p).mono ?_
                  rintro e w12 ⟨rfl, hB12⟩
                  rw [HWM.out]
                  have HT12 := Aside0.mk (HT11.out.below hB12)
                  clear hB12 HT11
                  go_wp2_with (fail)
                  refine (Most_ok HT12.out.q).mono ?_
                  rintro e w13 ⟨rfl, hB13⟩
                  rw [HWM.out]
                  have HT13 := Aside0.mk (HT12.out.below hB13)
                  clear hB13 HT12
                  go_wp2_with (fail)
                  have e1 := round_next hi0 ci HM.out
                  rw [e1]
                  refine ⟨⟨i + 1, pk', E', by rw [HQ.out], rfl, by omega, by omega, HE', HT13⟩, by simp [intOf]; omega⟩
        case pos =>
          have cib : decide (0 ≤ i) = true := decide_eq_true ci
          obtain ⟨x, hx⟩ : ∃ x, x = ps.getD i.toNat (⟨#[]⟩, 0) := ⟨_, rfl⟩
          have hk : i.toNat < ps.length := by omega
          obtain ⟨g1, g2⟩ := getD_fst hk
          rw [← hx] at g1 g2
          obtain ⟨ad5, rfl, c5_⟩ := own_cell (d := (⟨#[]⟩ : ByteArray)) HT.out.n (by simp) ci (by simpa using hi1)
          obtain ⟨ad6, rfl, c6_⟩ := own_cell (d := (0 : Int)) HT.out.m (by simp) ci (by simpa using hi1)
          rw [g1] at c5_
          rw [g2] at c6_
          have hsz : x.1.size ≤ maxLen := HZ.out x (by rw [hx]; simp [List.getD, hk])
          have hO : openF (.map (EL (ps.drop (i + 1).toNat).reverse)) x.1 x.2 = (0, .map (EL (ps.drop i.toNat).reverse)) := by
            have h1 := LOk.dropRev HK.out i.toNat
            have e1 := drop_rev (⟨#[]⟩, 0) hk hx.symm
            rw [show (i + 1).toNat = i.toNat + 1 by omega, e1]
            rw [e1] at h1
            exact open_goes h1
          have HSZ := Aside0.mk hsz
          have HO := Aside0.mk hO
          have HX := Aside0.mk hx
          have G1 := Aside0.mk g1
          have G2 := Aside0.mk g2
          clear hx hk g1 g2 hsz hO
          go_wp2_with (fail)
          go_region_held3 (fun w' => w'.cell? (ad5.add i.toNat) = some (.string x.1) ∧ w'.cell? (ad6.add i.toNat) = some (.int .i64 x.2))
            (first | exact ⟨z1, z2⟩ | exact ⟨c5_, c6_⟩)
            (first
              | (go_at_call 20; refine (Open_ok HT.out.drew.q HSZ.out).mono ?_; rintro e w3 ⟨rfl, hp3, ht3⟩; rw [HO.out] at hp3 ⊢; have HT3 := Aside0.mk (HT.out.drew.twoQ ht3 hp3); clear hp3 ht3; obtain ⟨_, e1_, z1⟩ := own_cell (d := (⟨#[]⟩ : ByteArray)) HT3.out.n (by simp) ci (by simpa using hi1); injection e1_ with e1_; subst e1_; rw [G1.out] at z1; obtain ⟨_, e2_, z2⟩ := own_cell (d := (0 : Int)) HT3.out.m (by simp) ci (by simpa using hi1); injection e2_ with e2_; subst e2_; rw [G2.out] at z2))
          all_goals
            clear z1 z2
            go_wp2_with (fail)
            have := LL.out
            rw [w64 (by omega) (by omega)]
            refine ⟨⟨i - 1, rfl, by omega, by omega, ?_⟩, by simp [intOf]; omega⟩
            rw [show i - 1 + 1 = i by omega]
            exact HT3
    case pos =>
      have cib : decide (i < (l.length : Int)) = true := decide_eq_true ci
      obtain ⟨ad, hb, s, m, had, x0, x1, x2, hsz⟩ := op_cells (HL.out.below HT.out.b) hi0 ci
      subst had
      have HSZ := Aside0.mk hsz
      clear hsz
      cases hb with
      | true =>
        have HT2 := Aside0.mk (HT.out.below (below_alloc (Below.refl wr.heap.size wr) (.cells #[.bool true, .string s, .int .i64 m] 40)))
        go_wp2_with (fail)
        have e1 := round_next hi0 ci HM.out
        rw [e1]
        refine ⟨⟨i + 1, ps, rfl, by omega, by omega, HK, HZ, HT2⟩, by simp [intOf]; omega⟩
      | false =>
        have HT2 := Aside0.mk (HT.out.below (below_alloc (Below.refl wr.heap.size wr) (.cells #[.bool false, .string s, .int .i64 m] 40)))
        have HB2 := Aside0.mk (blk_new wr (.cells #[.bool false, .string s, .int .i64 m] 40))
        go_wp2_with (fail)
        refine (Open_ok HT2.out.p HSZ.out).mono ?_
        rintro e w3 ⟨rfl, hp3, ht3⟩
        have hb3 : w3.heap[wr.heap.size]? = some (.cells #[.bool false, .string s, .int .i64 m] 40) := by
          have e1 := HT.out.p.lt
          have e2 := HT.out.p.own.lt
          rw [ht3.block _ (by simp) (by omega) (by omega)]; exact HB2.out
        obtain ⟨y0, y1, y2⟩ := blk_cells3 hb3
        have HT3 := Aside0.mk (HT2.out.twoP ht3 hp3)
        have HB3 := Aside0.mk hb3
        clear hp3 ht3 hb3 HT2 HB2 x0 x1 x2
        rcases open_told (s := s) (m := m) HK.out with ⟨e0, hK⟩ | ⟨e0, eD⟩
        · have HK2 := Aside0.mk hK
          have LL := Aside0.mk HK.out.few
          have e2 : (openF (.map (EL ps)) s m).2 = .map (EL (ps ++ [(s, m)])) := by rw [open_goes hK]
          rw [e2] at HT3
          rw [e0]
          clear e0 e2 hK
          go_wp2_with (fail)
          have NE5 := Aside0.mk (own_ne HT3.out.n HB3.out (by decide))
          have NE6 := Aside0.mk (own_ne HT3.out.m HB3.out (by decide))
          go_region_held3 (fun w' => w'.cell? ⟨wr.heap.size, 1, none⟩ = some (.string s) ∧ w'.cell? ⟨wr.heap.size, 2, none⟩ = some (.int .i64 m))
            (first | exact ⟨t1, t2⟩ | exact ⟨z1, z2⟩ | exact ⟨y1, y2⟩ | (refine ⟨pw_cell_below ?_ z1, pw_cell_below ?_ z2⟩ <;> (repeat (first | exact Below.refl _ _ | apply below_drew | apply below_alloc))) | (refine ⟨pw_cell_below ?_ y1, pw_cell_below ?_ y2⟩ <;> (repeat (first | exact Below.refl _ _ | apply below_drew | apply below_alloc))))
            (first
              | (refine stepN (sv := s) (by rfl) _ _ rfl rfl rfl HT3.out (by simpa using LL.out) (by repeat (first | exact Below.refl _ _ | apply below_drew | apply below_alloc)) (by first | exact cell_one_new _ _ _ | (simp [go_sem])) ?_; intro v8 w8 hT8 hk8 hz8; have z1 := hz8 _ 1 _ NE5.out (pw_cell_below (by repeat (first | exact Below.refl _ _ | apply below_drew | apply below_alloc)) y1); have z2 := hz8 _ 2 _ NE5.out (pw_cell_below (by repeat (first | exact Below.refl _ _ | apply below_drew | apply below_alloc)) y2); have HT8 := Aside0.mk hT8; have HK8 := Aside0.mk hk8; clear hT8 hk8 hz8)
              | (refine stepM (mv := m) (by rfl) _ _ rfl rfl rfl HT8.out (by simpa using LL.out) (by repeat (first | exact Below.refl _ _ | apply below_drew | apply below_alloc)) (by first | exact cell_one_new _ _ _ | (refine HK8.out _ _ (by simp) (by first | exact cell_one_new _ _ _ | (simp [go_sem]))) | (simp [go_sem])) ?_; intro v9 w9 hT9 hz9; have t1 := hz9 _ 1 _ NE6.out (pw_cell_below (by repeat (first | exact Below.refl _ _ | apply below_drew | apply below_alloc)) z1); have t2 := hz9 _ 2 _ NE6.out (pw_cell_below (by repeat (first | exact Below.refl _ _ | apply below_drew | apply below_alloc)) z2); have HT9 := Aside0.mk hT9; clear hT9 hz9))
          all_goals
            clear z1 z2 t1 t2 y0 y1 y2
            go_wp2_with (fail)
            have e1 := round_next hi0 ci HM.out
            rw [e1]
            refine ⟨⟨i + 1, ps ++ [(s, m)], rfl, by omega, by omega, HK2, ⟨fun x hx => ?_⟩, ⟨by simpa using HT9.out⟩⟩, by simp [intOf]; omega⟩
            rcases List.mem_append.1 hx with hx | hx
            · exact HZ.out x hx
            · rw [List.mem_singleton.1 hx]; exact HSZ.out
        · rw [eD] at HT3
          have e0b : ((openF (.map (EL ps)) s m).1 == 0) = false := by simp [e0]
          clear eD e0
          generalize (openF (.map (EL ps)) s m).1 = z at e0b ⊢
          go_wp2_with (fail)
          have e1 := round_next hi0 ci HM.out
          rw [e1]
          refine ⟨⟨i + 1, ps, rfl, by omega, by omega, HK, HZ, HT3⟩, by simp [intOf]; omega⟩
end Go.Proofs.Ytbdlkpmaalhnnaa.X
