/- By hand: the document's purse: Open. -/
import Derived.Test.YtbdlkpmaalhnnaaXQb
import Derived.Laws.Cover1
namespace Go.Proofs.Ytbdlkpmaalhnnaa.X
open Go.RowKit Go.Proofs.YtbdlkpmaalhnnaaW.PrintWords Go.Proofs.YtbdlkpmaalhnnaaW.PrintLast Go.Proofs.YtbdlkpmaalhnnaaW.PrintMore
open Go.Maps Go.MuLone Go.ChangeMaps Go.WideShapes
open Go.Proofs.Ytbdlkpmaalhnnaa.SP (HD EH)
set_option linter.unusedVariables false
set_option linter.unusedSimpArgs false

/-- What a slice of cells reads. -/
def RC (W : World) (A : Option Addr) (m : Nat) (news : List Value) : Prop := (A = none → m = 0) ∧ ∀ ad, A = some ad → ∀ j u, news[j]? = some u → W.cell? (ad.add j) = some u
theorem RC.below {W W' : World} {A : Option Addr} {m : Nat} {news : List Value} (h : RC W A m news) (hB : Below W.heap.size W W') : RC W' A m news := ⟨h.1, fun ad e j u hu => pw_cell_below hB (h.2 ad e j u hu)⟩
theorem XS.reads {w : World} {B g c n : Nat} {A : Option Addr} {L : List HD} {pk : Int} (h : XS w B g (.slice A n c) L pk) : RC w A n (hcs L) := by
  rcases h.row.2 with ⟨e, hn⟩ | ⟨gr, cap, cur, e, hbase, hb, q1, q2, q3, q4⟩
  · injection e with e e1 e2
    subst e
    subst e1
    exact ⟨fun _ => rfl, fun ad e => by cases e⟩
  · have hc := h.row.cells (g := gr) (by rw [e]; rfl)
    injection e with e e1 e2
    subst e
    exact ⟨(fun e => by cases e), (fun ad e => by cases e; exact hc)⟩
theorem RC.take {W : World} {A : Option Addr} {m k : Nat} {news : List Value} (h : RC W A m news) (hk : k ≤ m) : RC W A k (news.take (k * 3)) := ⟨fun e => by have := h.1 e; omega, fun ad e j u hu => h.2 ad e j u (by
  rcases Nat.lt_or_ge j (k * 3) with hj | hj
  · rwa [List.getElem?_take_of_lt hj] at hu
  · rw [List.getElem?_eq_none (by rw [List.length_take]; omega)] at hu; cases hu)⟩
theorem hcs_one : ∀ {L : List HD} {u : Value}, u ∈ hcs L → u.oneCell' = true
  | [], u, h => by cases h
  | x :: L, u, h => by
    rw [hcs_cons] at h
    rcases List.mem_append.1 h with h | h
    · simp [hc] at h
      rcases h with rfl | rfl | rfl <;> rfl
    · exact hcs_one h
theorem cut_lo (A : Option Addr) {n c : Nat} {i : Int} (hn : n ≤ c) (h0 : 0 ≤ i) (h1 : i ≤ n) : ∃ A' : Option Addr, (∀ W : World, (Instr.slice 36 (.slice A n c) (some (.int .i64 i)) none none).run Try.prog W = .ok (.slice A' (n - i.toNat) (c - i.toNat)) W) ∧ ∀ (W : World) (xs : List Value), xs.length = n * 3 → RC W A n xs → RC W A' (n - i.toNat) (xs.drop (i.toNat * 3)) := by
  have hel : Try.prog.elem 36 = 100 := by simp [Program.elem, Try.underlying36]
  have hu : Try.prog.underlying 36 = some (.slice (Try.prog.elem 36)) := by rw [hel]; exact Try.underlying36
  refine ⟨if c = i.toNat then A else A.map (·.add (i.toNat * 3)), fun W => ?_, fun W xs hl h => ⟨fun e => ?_, fun ad e j u hu => ?_⟩⟩
  · obtain ⟨ti, hti, hsz⟩ : ∃ ti, Try.prog.info? 100 = some ti ∧ ti.size = 3 := by
      have h : (Try.prog.info? 100).map (fun i => i.size) = some 3 := by kernel_rfl
      obtain ⟨ti, h1, h2⟩ := Option.map_eq_some_iff.1 h
      exact ⟨ti, h1, h2⟩
    rw [run_slice_l W 36 A n c hu .i64 i h0 h1, hel]
    simp [sizeOf, typeInfo, hti, hsz, sliced, Result.andThen]
  · by_cases c1 : c = i.toNat
    · omega
    · rw [if_neg c1] at e
      cases A with
      | none => have := h.1 rfl; omega
      | some a => cases e
  · rw [List.getElem?_drop] at hu
    by_cases c1 : c = i.toNat
    · rw [List.getElem?_eq_none (by rw [hl]; have : n = i.toNat := by omega
                                    subst this; omega)] at hu
      cases hu
    · rw [if_neg c1] at e
      cases A with
      | none => cases e
      | some a =>
        have e : some (a.add (i.toNat * 3)) = some ad := e
        have e := Option.some.inj e
        subst e
        have := h.2 a rfl _ _ hu
        exact (congrArg W.cell? (Go.Deep.add_add a (i.toNat * 3) j)).trans this
theorem cut_hi (A : Option Addr) {n c : Nat} {i : Int} (hn : n ≤ c) (h0 : 0 ≤ i) (h1 : i ≤ n) : ∀ W : World, (Instr.slice 36 (.slice A n c) none (some (.int .i64 i)) none).run Try.prog W = .ok (.slice A i.toNat c) W := by
  intro W
  have hel : Try.prog.elem 36 = 100 := by simp [Program.elem, Try.underlying36]
  have hu : Try.prog.underlying 36 = some (.slice (Try.prog.elem 36)) := by rw [hel]; exact Try.underlying36
  rw [run_slice_h W 36 A n c hu .i64 i h0 (by omega), hel]
  simp [Result.andThen, sliced]
  intro _
  cases A with
  | none => rfl
  | some a => simp [Addr.add]
/-- append of a slice of holders onto a row of the call's own. -/
theorem append_cells {ops : Array Oper} {rest : List Oper} {o : Oper} {a : Act} {Q : Exit → Act → World → Prop} {W : World} (base : Nat) (hgd : o.guard = none) (s x : Operand)
    (ho : o.op = .call { callee := .builtin .append, args := #[s, x], argTypes := #[36, 36] })
    (v : Value) (L M : List HD) (A : Option Addr) (m c : Nat) (hs : a.eval s = v) (hx : a.eval x = .slice A m c) (hm : M.length = m)
    (HO : W.ownsRow base 100 3 v L.length (hcs L)) (HR : RC W A m (hcs M)) (hbase : base ≤ W.heap.size) (hl : L.length + m ≤ 2048)
    (h : ∀ v1 w1, w1.ownsRow base 100 3 v1 (L ++ M).length (hcs (L ++ M)) → W.grownBy w1 v.ownBlock → wpList Try.prog ops Q rest (a.put o.dst v1) w1) :
    wpList Try.prog ops Q (o :: rest) a W := by
  have ht := Try.underlying36
  have hinfo : (Try.prog.info? 100).map (fun i => (i.zero, i.size, i.bytes)) = some (some (.agg #[.string ⟨#[]⟩, .int .i64 0, .int .i64 0]), 3, 32) := by kernel_rfl
  obtain ⟨i0, hi, hzz⟩ := Option.map_eq_some_iff.1 hinfo
  simp only [Prod.mk.injEq] at hzz
  obtain ⟨hz0, hz1, hz2⟩ := hzz
  have hrun : ∃ v1 w1, (Builtin.append_ #[36, 36] o.type #[v, .slice A m c]).run Try.prog W = .ok v1 w1 ∧ w1.ownsRow base 100 3 v1 (L ++ M).length (hcs (L ++ M)) ∧ W.grownBy w1 v.ownBlock := by
    rcases A with _ | ad
    · have h0 := HR.1 rfl
      subst h0
      obtain rfl : M = [] := List.eq_nil_of_length_eq_zero hm
      refine ⟨v, W, ?_, by simpa using HO, World.grownBy.refl W _⟩
      rcases HO.2 with ⟨rfl, hn⟩ | ⟨g, cap, cur, rfl, _, _, hnc, _⟩
      · simp [Builtin.append_, run_underlying ht, sizeOf, typeInfo, hi, Builtin.lenOf, Builtin.firstCells]
      · simp [Builtin.append_, run_underlying ht, sizeOf, typeInfo, hi, Builtin.lenOf, Builtin.firstCells, hnc, storeCells]
    · obtain ⟨v1, w1, hr, h2, h3, _, _⟩ := run_append_own_at (P := Try.prog) W base 36 o.type 100 i0 _ 3 32 ht hi hz0 hz1 hz2 rfl (by omega) v L.length (hcs L) HO ad m c (hcs M) (by rw [hcs_length, hm]) (HR.2 ad rfl)
        (fun u hu => hcs_one hu) (by simp only [maxLen]; omega) (by omega) hbase
      exact ⟨v1, w1, hr, by simpa [hcs_append, hm] using h2, h3⟩
  obtain ⟨v1, w1, hr, hown, hg⟩ := hrun
  refine wpList_plain hgd fun K hK => ?_
  unfold Oper.wp execOp
  simp only [ho, resolve, invoke, builtin, Sem.run_bind, Sem.run_pure, Result.andThen_ok, List.map_toArray, List.map_cons, List.map_nil, hs, hx, hr]
  exact hK _ _ (h v1 w1 hown hg)
/-- The empty row that []T{} makes. -/
theorem own_empty (W : World) (base : Nat) (hb : base ≤ W.heap.size) : (W.alloc (.cells #[] 100)).ownsRow base 100 3 (.slice (some ⟨W.heap.size, 0, none⟩) 0 0) ([] : List HD).length (hcs []) :=
  ⟨rfl, .inr ⟨W.heap.size, 0, #[], rfl, hb, heap_alloc_new W _, Nat.le_refl _, Nat.zero_le _, rfl, rfl⟩⟩
theorem rc_one (W : World) (s : ByteArray) (m : Int) : RC (W.alloc (.cells #[.string s, .int .i64 m, .int .i64 0] 100)) (some ⟨W.heap.size, 0, none⟩) 1 (hcs [⟨s, m, 0⟩]) := by
  refine ⟨(fun e => by cases e), fun ad e j u hu => ?_⟩
  cases e
  rw [Go.Proofs.YtbdlkpmaalhnnaaW.PrintWords.add_plain]
  have h := blk_cell (blk_new W (.cells #[.string s, .int .i64 m, .int .i64 0] 100)) j
  rw [h]
  have e : hcs [⟨s, m, 0⟩] = [.string s, .int .i64 m, .int .i64 0] := rfl
  rw [e] at hu
  simpa using hu
set_option maxHeartbeats 4000000 in
set_option maxRecDepth 100000 in
theorem dOpen_ok {w : World} {B g : Nat} {v : Value} {L : List HD} {pk m : Int} {s : ByteArray} (h : XS w B g v L pk) (hr : SP.Rise (EH L)) (hm : L.length ≤ 1024) (hB : B ≤ w.heap.size) : Calls Try.prog 33 #[.pointer (some ⟨g, 0, none⟩), .string s, .int .i64 m] w fun e w' => e = .returned (.int .i64 (openF (.map (EH L)) s m).1) ∧ (∃ v' L', (openF (.map (EH L)) s m).2 = .map (EH L') ∧ XS w' B g v' L' pk ∧ (v' = v ∨ ∀ k, v'.ownBlock = some k → w.heap.size ≤ k)) ∧ Tw g none w w' := by
  obtain ⟨x0, x1⟩ := h.cell
  obtain ⟨A, c, rfl⟩ := h.slice
  have HX := Aside0.mk h
  have HR := Aside0.mk hr
  have HM := Aside0.mk hm
  have HBB := Aside0.mk hB
  have HLC := Aside0.mk (own_le h.row)
  clear h hr hm hB
  by_cases c1 : m < 0
  · have c1b : decide (m < 0) = true := decide_eq_true c1
    have e : openF (.map (EH L)) s m = (1, .map (EH L)) := by unfold openF; rw [if_pos c1]
    have HE := Aside0.mk e
    clear c1 e
    go_enter Try.func33, Try.ntmps33
    go_wp2
    go_ret
    rw [HE.out]
    exact ⟨rfl, ⟨_, L, rfl, HX.out, .inl rfl⟩, Tw.of_below (Below.refl _ _)⟩
  have c1b : decide (m < 0) = false := decide_eq_false c1
  by_cases c2 : m > 1099511627776
  · have c2b : decide (1099511627776 < m) = true := decide_eq_true c2
    have e : openF (.map (EH L)) s m = (1, .map (EH L)) := by unfold openF; rw [if_neg c1, if_pos c2]
    have HE := Aside0.mk e
    clear c1 c2 e
    go_enter Try.func33, Try.ntmps33
    go_wp2
    go_ret
    rw [HE.out]
    exact ⟨rfl, ⟨_, L, rfl, HX.out, .inl rfl⟩, Tw.of_below (Below.refl _ _)⟩
  have c2b : decide (1099511627776 < m) = false := decide_eq_false c2
  by_cases c3 : L.length ≥ 1024
  · have c3b : decide (1024 ≤ L.length) = true := decide_eq_true c3
    have c3c : decide ((1024 : Int) ≤ (L.length : Int)) = true := decide_eq_true (by omega)
    have e : openF (.map (EH L)) s m = (1, .map (EH L)) := by unfold openF; rw [if_neg c1, if_neg c2, SP.EH_size, if_pos (by omega)]
    have HE := Aside0.mk e
    clear c1 c2 c3 e
    go_enter Try.func33, Try.ntmps33
    go_wp2
    go_ret
    rw [HE.out]
    exact ⟨rfl, ⟨_, L, rfl, HX.out, .inl rfl⟩, Tw.of_below (Below.refl _ _)⟩
  have c3b : decide (1024 ≤ L.length) = false := decide_eq_false c3
  have c3c : decide ((1024 : Int) ≤ (L.length : Int)) = false := decide_eq_false (by omega)
  have C1 := Aside0.mk c1
  have C2 := Aside0.mk c2
  have C3 := Aside0.mk c3
  have e3 : openF (.map (EH L)) s m = if Maps.has (.map (EH L)) (.string s.data.toList) = true then (230, .map (EH L)) else (0, (DataW.map (EH L)).put (.string s.data.toList) (.agg [.lit (.int .i64 m), .lit (.int .i64 0)])) := by unfold openF; rw [if_neg c1, if_neg c2, SP.EH_size, if_neg (by omega)]
  have HE3 := Aside0.mk e3
  clear c1 c2 c3 e3
  go_enter Try.func33, Try.ntmps33
  go_wp2_with (fail)
  refine (find_ok HX.out HM.out).mono ?_
  rintro e w1 ⟨⟨r, rfl, hrr⟩, hB⟩
  have HB := Aside0.mk hB
  have HX1 := Aside0.mk (HX.out.below hB)
  clear hB x0 x1
  rcases hrr with ⟨rfl, hno⟩ | ⟨hr0, hr1, hrs⟩
  case inr =>
    have hh : Maps.has (.map (EH L)) (.string s.data.toList) = true := by rw [← hrs]; exact SP.has_at (by omega)
    have HE : Aside0 (openF (.map (EH L)) s m = (230, .map (EH L))) := ⟨by rw [HE3.out, if_pos hh]⟩
    have hrb : decide (0 ≤ r) = true := decide_eq_true hr0
    clear hh hr0 hr1 hrs
    go_wp2
    go_ret
    rw [HE.out]
    exact ⟨rfl, ⟨_, L, rfl, HX1.out, .inl rfl⟩, Tw.of_below HB.out⟩
  have HNO := Aside0.mk hno
  clear hno
  go_wp2_with (fail)
  clear c1b c2b c3b c3c
  go_loopw [7] (fun v7 wr => ∃ i : Int, v7 = .int .i64 i ∧ 0 ≤ i ∧ i ≤ (L.length : Int) ∧ Aside0 (∀ j, j < i.toNat → bytesBefore (L.getD j default).nm.data.toList s.data.toList = true) ∧ Aside0 (Below w1.heap.size w1 wr)) (fun v7 _ => L.length - (intOf v7).toNat)
  case atStart => exact ⟨0, rfl, by omega, by omega, ⟨fun j hj => absurd hj (by simp)⟩, ⟨Below.refl _ _⟩⟩
  case round =>
    obtain ⟨i, rfl, hi0, hi1, HLT, HW⟩ := hrel
    by_cases ci : i < (L.length : Int)
    case neg =>
      have cib : decide (i < (L.length : Int)) = false := decide_eq_false ci
      have HGE : Aside0 (i.toNat < L.length → bytesBefore (L.getD i.toNat default).nm.data.toList s.data.toList = false) := ⟨fun h => by omega⟩
      clear ci
      have HXr := Aside0.mk (HX1.out.below HW.out)
      have x0 := HXr.out.cell.1
      have x0b := (HXr.out.below (below_alloc (Below.refl _ _) (.cells #[] 100))).cell.1
      have hcH := cut_hi A HLC.out hi0 hi1
      obtain ⟨A', hcL, hrL⟩ := cut_lo A HLC.out hi0 hi1
      have HK := Aside0.mk (show i.toNat ≤ L.length by omega)
      have HRL := Aside0.mk hrL
      have HOK := Aside0.mk (SP.open_at (s := s) (m := m) (k := i.toNat) (show ¬ m < 0 by have := C1.out; omega) (show ¬ m > 1099511627776 by have := C2.out; omega) (by have := C3.out; omega) HNO.out HLT.out HK.out HGE.out)
      have HRD := Aside0.mk HXr.out.reads
      clear hrL HLT HGE
      have f0 : ∀ w4 : World, Below wr.heap.size wr w4 → w4.frozen? ⟨g, 0, none⟩ = false := fun w4 hb => (HXr.out.below hb).frozen 0
      have F0 := Aside0.mk f0
      clear f0
      go_wp2_with (first
        | (at_builtin; refine append_cells wr.heap.size rfl _ _ rfl v3 ([] ++ L.take i.toNat ++ [⟨s, m, 0⟩]) (L.drop i.toNat) A' (L.length - i.toNat) (c - i.toNat) rfl rfl (by rw [List.length_drop]) HO3.out (by rw [hcs_drop]; exact (HRL.out wr _ (by rw [hcs_length]) HRD.out).below HW3.out) HS3.out (by have := HK.out; have := HM.out; simp; omega) ?_; intro v4 w4 ho4 hg4; generalize hX : ([] ++ L.take i.toNat ++ [(⟨s, m, 0⟩ : HD)] ++ L.drop i.toNat) = X at ho4; have HXX := Aside0.mk hX; clear hX; obtain ⟨A4, c4, rfl⟩ := own_slice ho4; have HW4 := Aside0.mk (HW3.out.grown hg4 HS3.out (own_base HO3.out)); have f4 := F0.out w4 HW4.out; clear x0; have x0 := (HXr.out.below HW4.out).cell.1; have HO4 := Aside0.mk ho4; clear hg4 ho4)
        | (at_builtin; refine append_cells wr.heap.size rfl _ _ rfl v2 ([] ++ L.take i.toNat) [⟨s, m, 0⟩] (some ⟨w2.heap.size, 0, none⟩) 1 1 rfl rfl rfl (World.ownsRow.alloc HO2.out _) (rc_one w2 s m) (by have := HS2.out; simp; omega) (by have := HK.out; have := HM.out; simp; omega) ?_; intro v3 w3 ho3 hg3; have HW3 := Aside0.mk ((below_step HW2.out (below_alloc (Below.refl w2.heap.size w2) (.cells #[.string s, .int .i64 m, .int .i64 0] 100))).grown hg3 (by have := HS2.out; simp; omega) (own_base HO2.out)); have HO3 := Aside0.mk ho3; have HS3 := Aside0.mk HW3.out.size; clear hg3 ho3 x0; have x0 := (HXr.out.below HW3.out).cell.1)
        | (at_builtin; (fail_if_success have _h := HO2); refine append_cells wr.heap.size rfl _ _ rfl (.slice (some ⟨wr.heap.size, 0, none⟩) 0 0) ([] : List HD) (L.take i.toNat) A i.toNat c rfl rfl (by rw [List.length_take]; have := HK.out; omega) (own_empty wr _ (Nat.le_refl _)) (by rw [hcs_take]; exact (HRD.out.take HK.out).below (below_alloc (Below.refl _ _) _)) (by simp) (by have := HK.out; have := HM.out; simp; omega) ?_; intro v2 w2 ho2 hg2; have HW2 := Aside0.mk ((below_alloc (Below.refl wr.heap.size wr) (.cells #[] 100)).grown hg2 (by simp) (fun k hk => by simp [Value.ownBlock] at hk; omega)); have HO2 := Aside0.mk ho2; have HS2 := Aside0.mk HW2.out.size; clear hg2 ho2 x0 x0b; have x0 := (HXr.out.below HW2.out).cell.1)
        | go_in)
      go_ret
      rw [HOK.out, show L.take i.toNat ++ [(⟨s, m, 0⟩ : HD)] ++ L.drop i.toNat = X by rw [← HXX.out]; simp]
      have hW4 := HW4.out
      have ho4 := HO4.out
      have hx4 := HXr.out.below hW4
      refine ⟨rfl, ⟨_, _, rfl, ⟨blk_set hx4.blk 0 _, own_setCell (own_weaken ho4 (by have h1 := HBB.out; have h2 := HB.out.size; have h3 := HW.out.size; omega)) (fun e => ?_) _⟩, .inr (fun k hk => by have := own_base ho4 k hk; have h2 := HB.out.size; have h3 := HW.out.size; omega)⟩, ?_⟩
      · have := own_base ho4 g e.symm
        have := HXr.out.lt
        omega
      · refine ((Tw.of_below (g := g) (r := none) HB.out).trans (Tw.of_below HW.out)).trans ((Tw.of_below hW4).trans ⟨rfl, rfl, rfl, by simp [World.setCell], fun j hj h1 _ => Below.heap_setCell _ _ _ _ h1⟩)
    case pos =>
      have cib : decide (i < (L.length : Int)) = true := decide_eq_true ci
      obtain ⟨ad, c2, e, y0, y1, y2⟩ := (HX1.out.below HW.out).at_ hi0 ci
      injection e with e _ ec
      subst e
      subst ec
      by_cases cl : Op.bytesLess (L.getD i.toNat default).nm.toList s.toList = true
      · have cl2 := cl
        rw [SP.less_nm] at cl2
        have HLT2 : Aside0 (∀ j, j < (i + 1).toNat → bytesBefore (L.getD j default).nm.data.toList s.data.toList = true) := ⟨fun j hj => by
          by_cases cj : j < i.toNat
          · exact HLT.out j cj
          · rw [show j = i.toNat by omega]; exact cl2⟩
        have x0 := (HX1.out.below HW.out).cell.1
        generalize (L.getD i.toNat default).nm = nm at y0 cl
        clear cl2 y1 y2
        go_wp2_with (fail)
        have e1 := next_round hi0 ci HM.out
        rw [e1]
        exact ⟨⟨i + 1, rfl, by omega, by omega, HLT2, HW⟩, by simp [intOf]; omega⟩
      · have clb : Op.bytesLess (L.getD i.toNat default).nm.toList s.toList = false := Bool.eq_false_iff.mpr cl
        have HGE : Aside0 (i.toNat < L.length → bytesBefore (L.getD i.toNat default).nm.data.toList s.data.toList = false) := ⟨fun _ => by rw [← SP.less_nm]; exact clb⟩
        generalize (L.getD i.toNat default).nm = nm at y0 clb
        clear cl y1 y2
        have HXr := Aside0.mk (HX1.out.below HW.out)
        have x0 := HXr.out.cell.1
        have x0b := (HXr.out.below (below_alloc (Below.refl _ _) (.cells #[] 100))).cell.1
        have hcH := cut_hi (some ad) HLC.out hi0 hi1
        obtain ⟨A', hcL, hrL⟩ := cut_lo (some ad) HLC.out hi0 hi1
        have HK := Aside0.mk (show i.toNat ≤ L.length by omega)
        have HRL := Aside0.mk hrL
        have HOK := Aside0.mk (SP.open_at (s := s) (m := m) (k := i.toNat) (show ¬ m < 0 by have := C1.out; omega) (show ¬ m > 1099511627776 by have := C2.out; omega) (by have := C3.out; omega) HNO.out HLT.out HK.out HGE.out)
        have HRD := Aside0.mk HXr.out.reads
        clear hrL HLT HGE
        have f0 : ∀ w4 : World, Below wr.heap.size wr w4 → w4.frozen? ⟨g, 0, none⟩ = false := fun w4 hb => (HXr.out.below hb).frozen 0
        have F0 := Aside0.mk f0
        clear f0
        go_wp2_with (first
          | (at_builtin; refine append_cells wr.heap.size rfl _ _ rfl v3 ([] ++ L.take i.toNat ++ [⟨s, m, 0⟩]) (L.drop i.toNat) A' (L.length - i.toNat) (c - i.toNat) rfl rfl (by rw [List.length_drop]) HO3.out (by rw [hcs_drop]; exact (HRL.out wr _ (by rw [hcs_length]) HRD.out).below HW3.out) HS3.out (by have := HK.out; have := HM.out; simp; omega) ?_; intro v4 w4 ho4 hg4; generalize hX : ([] ++ L.take i.toNat ++ [(⟨s, m, 0⟩ : HD)] ++ L.drop i.toNat) = X at ho4; have HXX := Aside0.mk hX; clear hX; obtain ⟨A4, c4, rfl⟩ := own_slice ho4; have HW4 := Aside0.mk (HW3.out.grown hg4 HS3.out (own_base HO3.out)); have f4 := F0.out w4 HW4.out; clear x0; have x0 := (HXr.out.below HW4.out).cell.1; have HO4 := Aside0.mk ho4; clear hg4 ho4)
          | (at_builtin; refine append_cells wr.heap.size rfl _ _ rfl v2 ([] ++ L.take i.toNat) [⟨s, m, 0⟩] (some ⟨w2.heap.size, 0, none⟩) 1 1 rfl rfl rfl (World.ownsRow.alloc HO2.out _) (rc_one w2 s m) (by have := HS2.out; simp; omega) (by have := HK.out; have := HM.out; simp; omega) ?_; intro v3 w3 ho3 hg3; have HW3 := Aside0.mk ((below_step HW2.out (below_alloc (Below.refl w2.heap.size w2) (.cells #[.string s, .int .i64 m, .int .i64 0] 100))).grown hg3 (by have := HS2.out; simp; omega) (own_base HO2.out)); have HO3 := Aside0.mk ho3; have HS3 := Aside0.mk HW3.out.size; clear hg3 ho3 x0; have x0 := (HXr.out.below HW3.out).cell.1)
          | (at_builtin; (fail_if_success have _h := HO2); refine append_cells wr.heap.size rfl _ _ rfl (.slice (some ⟨wr.heap.size, 0, none⟩) 0 0) ([] : List HD) (L.take i.toNat) (some ad) i.toNat c rfl rfl (by rw [List.length_take]; have := HK.out; omega) (own_empty wr _ (Nat.le_refl _)) (by rw [hcs_take]; exact (HRD.out.take HK.out).below (below_alloc (Below.refl _ _) _)) (by simp) (by have := HK.out; have := HM.out; simp; omega) ?_; intro v2 w2 ho2 hg2; have HW2 := Aside0.mk ((below_alloc (Below.refl wr.heap.size wr) (.cells #[] 100)).grown hg2 (by simp) (fun k hk => by simp [Value.ownBlock] at hk; omega)); have HO2 := Aside0.mk ho2; have HS2 := Aside0.mk HW2.out.size; clear hg2 ho2 x0 x0b; have x0 := (HXr.out.below HW2.out).cell.1)
          | go_in)
        go_ret
        rw [HOK.out, show L.take i.toNat ++ [(⟨s, m, 0⟩ : HD)] ++ L.drop i.toNat = X by rw [← HXX.out]; simp]
        have hW4 := HW4.out
        have ho4 := HO4.out
        have hx4 := HXr.out.below hW4
        refine ⟨rfl, ⟨_, _, rfl, ⟨blk_set hx4.blk 0 _, own_setCell (own_weaken ho4 (by have h1 := HBB.out; have h2 := HB.out.size; have h3 := HW.out.size; omega)) (fun e => ?_) _⟩, .inr (fun k hk => by have := own_base ho4 k hk; have h2 := HB.out.size; have h3 := HW.out.size; omega)⟩, ?_⟩
        · have := own_base ho4 g e.symm
          have := HXr.out.lt
          omega
        · refine ((Tw.of_below (g := g) (r := none) HB.out).trans (Tw.of_below HW.out)).trans ((Tw.of_below hW4).trans ⟨rfl, rfl, rfl, by simp [World.setCell], fun j hj h1 _ => Below.heap_setCell _ _ _ _ h1⟩)
end Go.Proofs.Ytbdlkpmaalhnnaa.X
