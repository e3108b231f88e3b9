/- By hand: package purse: a purse in memory (its lock free, its map, its peak), and what its methods do with it. -/
import Derived.Test.YtbdlkpmaalhnnaaXPm
namespace Go.Proofs.Ytbdlkpmaalhnnaa.X
open Go.RowKit Go.Proofs.YtbdlkpmaalhnnaaW.PrintWords Go.Proofs.YtbdlkpmaalhnnaaW.PrintLast Go.Proofs.YtbdlkpmaalhnnaaW.PrintMore
open Go.Maps Go.MuLone Go.ChangeMaps Go.WideShapes
open Go.WideElems (Fit rd rg pl)
set_option linter.unusedVariables false
set_option linter.unusedSimpArgs false

/-- How a holder reads. -/
def holdR : Value → Option (DataW Unit × List MemPlace)
  | .agg ⟨[.int .i64 a, .int .i64 b]⟩ => some (.agg [.lit (.int .i64 a), .lit (.int .i64 b)], [])
  | _ => none
theorem holdR_mk (a b : Int) : holdR (.agg #[.int .i64 a, .int .i64 b]) = some (.agg [.lit (.int .i64 a), .lit (.int .i64 b)], []) := rfl
theorem holdR_inv {v : Value} {z : DataW Unit × List MemPlace} (h : holdR v = some z) : ∃ a b, v = .agg #[.int .i64 a, .int .i64 b] ∧ z = (.agg [.lit (.int .i64 a), .lit (.int .i64 b)], []) := by
  unfold holdR at h
  split at h
  · exact ⟨_, _, rfl, (Option.some.inj h).symm⟩
  · cases h
theorem law9 : Keyed Try.prog 9 := string_keyed Try.underlying9
theorem zero97 (w : World) : (zeroValue 97).run Try.prog w = .ok (.agg #[.int .i64 0, .int .i64 0]) w := by kernel_rfl
/-- What a holder may hold, and holds. -/
def el (f : Int → Int → Int) : DataW Unit → Int
  | .agg [.lit (.int .i64 a), .lit (.int .i64 b)] => f a b
  | _ => 0
def sumOf (f : Int → Int → Int) : List (Lit × DataW Unit) → Int
  | [] => 0
  | p :: l => el f p.2 + sumOf f l
def sumD (f : Int → Int → Int) : DataW Unit → Int
  | .map es => sumOf f es
  | _ => 0
/-- A purse: its block, and the map's. -/
structure PS (w : World) (g bm : Nat) (D : DataW Unit) (pk : Int) : Prop where
  blk : w.heap[g]? = some (.cells #[.int .i32 0, .int .u32 0, .map (some bm), .int .i64 pk] 57)
  own : w.ownsMap Try.prog 9 holdR bm (Maps.size D) D
theorem own_tight {w : World} {P : Program} {k b n : Nat} {R : Value → Option (DataW Unit × List MemPlace)} {D : DataW Unit} (h : w.ownsMap P k R b n D) : w.ownsMap P k R b (Maps.size D) D := by
  obtain ⟨es, clock, hb, F, hs, rfl⟩ := h
  refine ⟨es, clock, hb, F, ?_, rfl⟩
  show es.size ≤ ((es.toList.map (rg P k R)).foldr DataW.insert []).length
  rw [length_sorted]; simp
theorem PS.lt {w : World} {g bm : Nat} {D : DataW Unit} {pk : Int} (h : PS w g bm D pk) : g < w.heap.size := by
  rcases Nat.lt_or_ge g w.heap.size with c | c
  · exact c
  · have := h.blk
    rw [Array.getElem?_eq_none c] at this
    cases this
theorem PS.ne {w : World} {g bm : Nat} {D : DataW Unit} {pk : Int} (h : PS w g bm D pk) : bm ≠ g := by
  intro e
  obtain ⟨es, clock, hb, _⟩ := h.own
  rw [e, h.blk] at hb
  cases hb
theorem PS.below {w w' : World} {g bm : Nat} {D : DataW Unit} {pk : Int} (h : PS w g bm D pk) (hB : Below w.heap.size w w') : PS w' g bm D pk := by
  refine ⟨by rw [hB.block g h.lt]; exact h.blk, ?_⟩
  obtain ⟨es, clock, hb, r⟩ := h.own
  exact ⟨es, clock, by rw [hB.block bm h.own.lt]; exact hb, r⟩
theorem PS.cell {w : World} {g bm : Nat} {D : DataW Unit} {pk : Int} (h : PS w g bm D pk) : w.cell? ⟨g, 0, none⟩ = some (.int .i32 0) ∧ w.cell? ⟨g, 2, none⟩ = some (.map (some bm)) ∧ w.cell? ⟨g, 3, none⟩ = some (.int .i64 pk) ∧ (∀ i, w.frozen? ⟨g, i, none⟩ = false) := by
  have hb := h.blk
  refine ⟨by simp [World.cell?, hb], by simp [World.cell?, hb], by simp [World.cell?, hb], fun i => by simp [World.frozen?, hb]⟩
/-- Nothing but blocks g and bm (and what is new) has turned. -/
structure Two (g bm : Nat) (w w' : World) : Prop where
  os : w'.os = w.os
  tape : w'.tape = w.tape
  output : w'.output = w.output
  size : w.heap.size ≤ w'.heap.size
  block : ∀ i, i < w.heap.size → i ≠ g → i ≠ bm → w'.heap[i]? = w.heap[i]?
theorem Two.below {g bm B : Nat} {w w' : World} (h : Two g bm w w') (hg : B ≤ g) (hb : B ≤ bm) (hs : B ≤ w.heap.size) : Below B w w' := ⟨h.os, h.tape, h.output, h.size, fun i hi => h.block i (by omega) (by omega) (by omega)⟩
theorem Two.of_below {g bm : Nat} {w w' : World} (h : Below w.heap.size w w') : Two g bm w w' := ⟨h.os, h.tape, h.output, h.size, fun i hi _ _ => h.block i hi⟩
theorem Two.trans {g bm : Nat} {a b c : World} (h : Two g bm a b) (k : Two g bm b c) : Two g bm a c := ⟨k.os.trans h.os, k.tape.trans h.tape, k.output.trans h.output, Nat.le_trans h.size k.size, fun i hi h1 h2 => (k.block i (Nat.lt_of_lt_of_le hi h.size) h1 h2).trans (h.block i hi h1 h2)⟩
theorem lock_back {w w2 : World} {g bm : Nat} {D : DataW Unit} {pk : Int} (h : PS w g bm D pk) (hB : Below (w.setCell ⟨g, 0, none⟩ (.int .i32 1)).heap.size (w.setCell ⟨g, 0, none⟩ (.int .i32 1)) w2) : Below w.heap.size w (w2.setCell ⟨g, 0, none⟩ (.int .i32 0)) := by
  have hs : (w.setCell ⟨g, 0, none⟩ (.int .i32 1)).heap.size = w.heap.size := by simp [World.setCell]
  have hb1 : (w.setCell ⟨g, 0, none⟩ (.int .i32 1)).heap[g]? = some (.cells #[.int .i32 1, .int .u32 0, .map (some bm), .int .i64 pk] 57) := blk_put h.blk 0 _ rfl
  have hb2 : w2.heap[g]? = some (.cells #[.int .i32 1, .int .u32 0, .map (some bm), .int .i64 pk] 57) := by rw [hB.block g (by rw [hs]; exact h.lt)]; exact hb1
  have hb3 : (w2.setCell ⟨g, 0, none⟩ (.int .i32 0)).heap[g]? = some (.cells #[.int .i32 0, .int .u32 0, .map (some bm), .int .i64 pk] 57) := blk_put hb2 0 _ rfl
  refine ⟨hB.os, hB.tape, hB.output, ?_, fun i hi => ?_⟩
  · have := hB.size
    rw [hs] at this
    have e : (w2.setCell ⟨g, 0, none⟩ (.int .i32 0)).heap.size = w2.heap.size := by simp [World.setCell]
    rw [e]; exact this
  · by_cases e : i = g
    · subst e
      rw [hb3, h.blk]
    · rw [Below.heap_setCell _ _ _ _ e, hB.block i (by rw [hs]; exact hi), Below.heap_setCell _ _ _ _ e]
theorem New_ok {w : World} : Calls Try.prog 16 #[] w fun e w' => e = .returned (.pointer (some ⟨w.heap.size + 1, 0, none⟩)) ∧ PS w' (w.heap.size + 1) w.heap.size (.map []) 0 ∧ Below w.heap.size w w' := by
  have hmm := @run_makeMap Try.prog
  have hP : PS ((w.alloc (.map #[] 0)).alloc (.cells #[.int .i32 0, .int .u32 0, .map (some w.heap.size), .int .i64 0] 57)) (w.heap.size + 1) w.heap.size (.map []) 0 := ⟨by have := blk_new (w.alloc (.map #[] 0)) (.cells #[.int .i32 0, .int .u32 0, .map (some w.heap.size), .int .i64 0] 57); rw [show (w.alloc (.map #[] 0)).heap.size = w.heap.size + 1 from Array.size_push _] at this; exact this, (World.ownsMap_made w _ _ _).alloc _⟩
  have HP := Aside0.mk hP
  clear hP
  go_enter Try.func16, Try.ntmps16
  go_wp2
  go_ret
  exact ⟨rfl, HP.out, below_alloc (below_alloc (Below.refl _ _) _) _⟩
theorem is_ok {w : World} {g bm : Nat} {D : DataW Unit} {pk : Int} (h : PS w g bm D pk) : Calls Try.prog 38 #[.pointer (some ⟨g, 0, none⟩)] w fun e w' => e = .returned (.bool true) ∧ w' = w := by
  have qn : ∀ (w : World) (r : Option Nat), (binOp .neq 55 (.map r) (.map none)).run Try.prog w = .ok (.bool (!r.isNone)) w := fun w r => run_neq_map_nil w _ _ _ r Try.underlying55
  obtain ⟨_, hc, _, _⟩ := h.cell
  go_enter Try.func38, Try.ntmps38
  go_wp2
  go_ret
  exact ⟨rfl, rfl⟩
theorem Peak_ok {w : World} {g bm : Nat} {D : DataW Unit} {pk : Int} (h : PS w g bm D pk) : Calls Try.prog 22 #[.pointer (some ⟨g, 0, none⟩)] w fun e w' => e = .returned (.int .i64 pk) ∧ Below w.heap.size w w' := by
  obtain ⟨h0, h2, h3, hf⟩ := h.cell
  go_enter_defers Try.func22, Try.ntmps22
  go_wp2_with (fail)
  refine (is_ok h).mono ?_
  rintro e w' ⟨rfl, rfl⟩
  go_wp2_with (go_at_call 39; refine (lock_free muLib ⟨g, 0, none⟩ _ h0 (hf 0)).mono ?_; rintro e w' ⟨rfl, rfl⟩)
  refine leaves_cons (f := 40) (args := #[.pointer (some ⟨g, 0, none⟩)]) (by simp) (by simp [go_sem]) ?_
  refine (unlock_deferred muLib ⟨g, 0, none⟩ .returning _ ?_ ?_).mono ?_
  · exact World.cell?_setCell_same _ ⟨g, 0, none⟩ (.int .i32 1) h0
  · simp [hf]
  rintro e u' w'' ⟨rfl, rfl, rfl⟩
  exact ⟨_, results_tmp rfl _ _ _, rfl, lock_back h (Below.refl _ _)⟩
/-- The sum of those entries that are no longer to come. -/
def sumN (f : Int → Int → Int) (left : Lit → Bool) : List (Lit × DataW Unit) → Int
  | [] => 0
  | p :: l => (if left p.1 = true then 0 else el f p.2) + sumN f left l
def sumDN (f : Int → Int → Int) (left : Lit → Bool) : DataW Unit → Int
  | .map es => sumN f left es
  | _ => 0
theorem sumN_all (f : Int → Int → Int) {left : Lit → Bool} : ∀ es : List (Lit × DataW Unit), (∀ p ∈ es, left p.1 = true) → sumN f left es = 0
  | [], _ => rfl
  | p :: l, h => by
    unfold sumN
    rw [if_pos (h p (by simp)), sumN_all f l (fun q hq => h q (by simp [hq]))]; rfl
theorem sumN_none (f : Int → Int → Int) {left : Lit → Bool} : ∀ es : List (Lit × DataW Unit), (∀ p ∈ es, left p.1 = false) → sumN f left es = sumOf f es
  | [], _ => rfl
  | p :: l, h => by
    unfold sumN sumOf
    rw [if_neg (by rw [h p (by simp)]; decide), sumN_none f l (fun q hq => h q (by simp [hq]))]
theorem sumN_off (f : Int → Int → Int) {left : Lit → Bool} {kl : Lit} : ∀ es : List (Lit × DataW Unit), (∀ p ∈ es, p.1.sameKey kl = false) → sumN f (fun z => left z && !z.sameKey kl) es = sumN f left es
  | [], _ => rfl
  | p :: l, h => by
    unfold sumN
    rw [sumN_off f l (fun q hq => h q (by simp [hq])), h p (by simp)]
    simp
theorem sumN_step (f : Int → Int → Int) {left : Lit → Bool} {kl : Lit} (hkl : WideAt.IsKeyLit kl) (hl : left kl = true) : ∀ es : List (Lit × DataW Unit), es.Pairwise (fun p q => p.1 ≠ q.1) → (∃ p ∈ es, p.1 = kl) → ∀ d, (∀ p ∈ es, p.1 = kl → p.2 = d) → sumN f (fun z => left z && !z.sameKey kl) es = sumN f left es + el f d
  | [], _, ⟨p, hp, _⟩, _, _ => by simp at hp
  | p :: l, hw, ⟨q, hq, hqk⟩, d, hd => by
    obtain ⟨h1, h2⟩ := List.pairwise_cons.1 hw
    by_cases c : p.1 = kl
    · have e1 : p.1.sameKey kl = true := by rw [c]; exact WideAt.sameKey_self hkl
      have e2 : left p.1 = true := by rw [c]; exact hl
      have e3 := sumN_off f (left := left) (kl := kl) l (fun r hr => Maps.sameKey_ne (fun e => h1 r hr (by rw [c, e])))
      unfold sumN
      rw [e3, e1, e2, hd p (by simp) c]
      simp
      omega
    · have e1 : p.1.sameKey kl = false := Maps.sameKey_ne c
      have hq' : ∃ p ∈ l, p.1 = kl := by
        rcases List.mem_cons.1 hq with e | e
        · exact absurd (e ▸ hqk) c
        · exact ⟨q, e, hqk⟩
      have := sumN_step f hkl hl l h2 hq' d (fun r hr => hd r (by simp [hr]))
      unfold sumN
      rw [this, e1]
      simp
      omega
theorem uniq_key : ∀ {es : List (Lit × DataW Unit)}, es.Pairwise (fun p q => p.1 ≠ q.1) → ∀ {p q : Lit × DataW Unit}, p ∈ es → q ∈ es → p.1 = q.1 → p = q
  | [], _, _, _, hp, _, _ => by simp at hp
  | a :: r, hw, p, q, hp, hq, h => by
    obtain ⟨h1, h2⟩ := List.pairwise_cons.1 hw
    rcases List.mem_cons.1 hp with ep | hp'
    · rcases List.mem_cons.1 hq with eq | hq'
      · rw [ep, eq]
      · exact absurd (ep ▸ h) (h1 q hq')
    · rcases List.mem_cons.1 hq with eq | hq'
      · exact absurd (eq ▸ h).symm (h1 p hp')
      · exact uniq_key h2 hp' hq' h
theorem at_mem {es : List (Lit × DataW Unit)} {kl : Lit} {y : DataW Unit} (hat : ∀ zd, (DataW.map es).atKey kl zd = y) : ∃ p ∈ es, p.1 = kl ∧ p.2 = y := by
  cases hf : es.find? (fun p => p.1.sameKey kl) with
  | none =>
    have e : ∀ zd : DataW Unit, (DataW.map es).atKey kl zd = zd := fun zd => by
      unfold DataW.atKey
      dsimp only
      rw [hf]
    have h1 := (e .nil).symm.trans (hat .nil)
    have h2 := (e (.map [])).symm.trans (hat (.map []))
    rw [← h1] at h2
    cases h2
  | some p =>
    have e : (DataW.map es).atKey kl .nil = p.2 := by
      unfold DataW.atKey
      dsimp only
      rw [hf]
    have h1 := List.find?_some hf
    exact ⟨p, List.mem_of_find?_eq_some hf, WideAt.sameKey_eq h1, e.symm.trans (hat .nil)⟩
theorem key_string {key : Value} {kl : Lit} (h : keyOf Try.prog 9 key = some kl) : ∃ x, key = .string x := by
  cases key <;> simp [keyOf, Try.underlying9, mapKey] at h
  exact ⟨_, rfl⟩
theorem grown_of {w w' : World} (h : Below w.heap.size w w') : w.grownBy w' none := ⟨h.os, h.tape, h.output, h.size, fun i hi _ => h.block i hi⟩
theorem below_of {w w' : World} (h : w.grownBy w' none) : Below w.heap.size w w' := ⟨h.os, h.tape, h.output, h.size, fun i hi => h.block i hi (by simp)⟩
theorem wrap_add (a b : Int) : wrap64 (wrap64 a + b) = wrap64 (a + b) := by
  unfold wrap64
  omega
set_option maxHeartbeats 2000000 in
set_option maxRecDepth 100000 in
theorem sum_ok {w : World} {g bm fn : Nat} {D : DataW Unit} {pk s0 : Int} {f : Int → Int → Int} (hfn : fn = 37 ∨ fn = 42 ∨ fn = 43) (hc : ∀ (w : World) (a b : Int), Calls Try.prog fn #[.agg #[.int .i64 a, .int .i64 b]] w fun e w' => e = .returned (.int .i64 (f a b)) ∧ Below w.heap.size w w') (hb : w.heap[g]? = some (.cells #[.int .i32 s0, .int .u32 0, .map (some bm), .int .i64 pk] 57)) (hown : w.ownsMap Try.prog 9 holdR bm (Maps.size D) D) : Calls Try.prog 41 #[.pointer (some ⟨g, 0, none⟩), .func (.func fn) #[] #[]] w fun e w' => e = .returned (.int .i64 (wrap64 (sumD f D))) ∧ Below w.heap.size w w' := by
  have h2 : w.cell? ⟨g, 2, none⟩ = some (.map (some bm)) := by simp [World.cell?, hb]
  obtain ⟨es, rfl, hap, hkeys⟩ := hown.entries law9
  have HF := Aside0.mk hfn
  have HC := Aside0.mk hc
  have HA := Aside0.mk hap
  have HK := Aside0.mk hkeys
  have HO := Aside0.mk hown
  clear hc hap hkeys hb hfn
  go_enter Try.func41, Try.ntmps41
  go_wp2_with (first | (at_range; refine wpList_range_own _ rfl _ 55 rfl 9 97 law9 Try.underlying55 _ bm _ _ rfl HO.out ?_; intro w0 hrg0 hg0 hs0) | go_in)
  go_frame
  clear HO h2
  have HR := Aside0.mk hrg0
  have HG := Aside0.mk hg0
  clear hrg0 hg0 hs0
  go_loopw [5] (fun v5 wr => ∃ (left : Lit → Bool) (cnt : Nat), v5 = .int .i64 (wrap64 (sumN f left es)) ∧ Aside0 (wr.ranges Try.prog 9 holdR bm w.heap.size (Maps.size (.map es : DataW Unit)) (.map es) left cnt) ∧ Aside0 (w.grownBy wr none)) (fun _ wr => wr.rangeLeft bm w.heap.size)
  case atStart =>
    refine ⟨_, _, ?_, HR, HG⟩
    rw [sumN_all f es (fun p hp => List.any_eq_true.mpr ⟨p, hp, WideAt.sameKey_self (HK.out p hp)⟩), show wrap64 0 = 0 by unfold wrap64; omega]
  case round =>
    clear HR HG
    obtain ⟨left, cnt, rfl, hrg, hgw⟩ := hrel
    go_wp2_with (first
      | (at_next; refine wpList_next_ranges _ rfl _ rfl 9 law9 holdR (α := ByteArray) (β := Int × Int) Value.string (fun c => .agg #[.int .i64 c.1, .int .i64 c.2]) (fun _ _ h => key_string h) (fun _ _ h => by obtain ⟨a, b, e, _⟩ := holdR_inv h; exact ⟨(a, b), e⟩) bm w.heap.size _ _ left cnt rfl hrg.out ?_ ?_)
      | go_in)
    · intro _ hl0
      go_wp2
      go_ret
      refine ⟨?_, below_of hgw.out⟩
      rw [sumN_none f es (fun p _ => hl0 p.1)]; rfl
    · intro x ca cb kl y1 y2 w1 cnt1 hkey hlk hv hat hrg1 hlt hg1 hs1 hen
      have HR1 := Aside0.mk hrg1
      have HG1 := Aside0.mk hg1
      have HV := Aside0.mk hv
      have HAT := Aside0.mk hat
      have HKY := Aside0.mk hkey
      have HLK := Aside0.mk hlk
      have HLT := Aside0.mk hlt
      have HSZ := Aside0.mk hs1
      clear hrg1 hg1 hv hat hkey hlk hlt hs1
      obtain ⟨hfn⟩ := HF
      rcases hfn with rfl | rfl | rfl
      all_goals
        go_wp2_with (fail)
        refine (HC.out _ ca cb).mono ?_
        rintro e w2 ⟨rfl, hB⟩
        have hg2 := (World.grownBy_alloc w1 (.cells #[.int .i64 ca, .int .i64 cb] 97) none)
        have HR2 := Aside0.mk ((HR1.out.alloc (.cells #[.int .i64 ca, .int .i64 cb] 97)).kept (grown_of hB) (by simp) (by simp))
        have HG2 := Aside0.mk (((hgw.out.andThen HG1.out (fun j hj => by cases hj; exact Or.inl (Nat.le_refl _))).andThen hg2 (fun j hj => by cases hj)).andThen (grown_of hB) (fun j hj => by cases hj))
        clear hB hg2 HR1 HG1
        go_wp2
        go_roundw
        case rel =>
          refine ⟨_, cnt1, ?_, HR2, HG2⟩
          obtain ⟨p, hp, rfl, hy⟩ := at_mem HAT.out
          have hy1 : y1 = .agg [.lit (.int .i64 ca), .lit (.int .i64 cb)] := (congrArg Prod.fst (Option.some.inj (HV.out.symm.trans (holdR_mk ca cb))))
          rw [wrap_add, sumN_step f (HK.out p hp) HLK.out es HA.out ⟨p, hp, rfl⟩ y1 (fun q hq e => by rw [uniq_key HA.out hq hp e]; exact hy), hy1]
          rfl
        case measure => rw [HR2.out.left_eq, hrg.out.left_eq]; exact HLT.out
theorem heldF_ok (w : World) (a b : Int) : Calls Try.prog 37 #[.agg #[.int .i64 a, .int .i64 b]] w fun e w' => e = .returned (.int .i64 b) ∧ Below w.heap.size w w' := by
  go_enter Try.func37, Try.ntmps37
  go_wp2
  go_ret
  exact ⟨rfl, below_alloc (Below.refl _ _) _⟩
theorem holdF_ok (w : World) (a b : Int) : Calls Try.prog 42 #[.agg #[.int .i64 a, .int .i64 b]] w fun e w' => e = .returned (.int .i64 b) ∧ Below w.heap.size w w' := by
  go_enter Try.func42, Try.ntmps42
  go_wp2
  go_ret
  exact ⟨rfl, below_alloc (Below.refl _ _) _⟩
theorem mostF_ok (w : World) (a b : Int) : Calls Try.prog 43 #[.agg #[.int .i64 a, .int .i64 b]] w fun e w' => e = .returned (.int .i64 a) ∧ Below w.heap.size w w' := by
  go_enter Try.func43, Try.ntmps43
  go_wp2
  go_ret
  exact ⟨rfl, below_alloc (Below.refl _ _) _⟩
theorem own_locked {w : World} {g bm : Nat} {D : DataW Unit} {pk : Int} (h : PS w g bm D pk) (v : Value) : (w.setCell ⟨g, 0, none⟩ v).ownsMap Try.prog 9 holdR bm (Maps.size D) D := h.own.setCell h.ne v
theorem ask_ok {w : World} {g bm fn : Nat} {D : DataW Unit} {pk : Int} {f : Int → Int → Int} (h : PS w g bm D pk) (hfn : fn = 37 ∨ fn = 42 ∨ fn = 43) (hc : ∀ (w : World) (a b : Int), Calls Try.prog fn #[.agg #[.int .i64 a, .int .i64 b]] w fun e w' => e = .returned (.int .i64 (f a b)) ∧ Below w.heap.size w w') :
    Calls Try.prog 36 #[.pointer (some ⟨g, 0, none⟩), .func (.func fn) #[] #[]] w fun e w' => e = .returned (.int .i64 (wrap64 (sumD f D))) ∧ Below w.heap.size w w' := by
  obtain ⟨h0, h2, h3, hf⟩ := h.cell
  have HF := Aside0.mk hfn
  have HC := Aside0.mk hc
  clear hfn hc
  go_enter_defers Try.func36, Try.ntmps36
  go_wp2_with (fail)
  refine (is_ok h).mono ?_
  rintro e w' ⟨rfl, rfl⟩
  go_wp2_with (go_at_call 39; refine (lock_free muLib ⟨g, 0, none⟩ _ h0 (hf 0)).mono ?_; rintro e w' ⟨rfl, rfl⟩)
  refine (sum_ok HF.out HC.out (blk_put h.blk 0 (.int .i32 1) rfl) (own_locked h _)).mono ?_
  rintro e w2 ⟨rfl, hB⟩
  have HB := Aside0.mk hB
  clear hB
  go_wp2
  refine leaves_cons (f := 40) (args := #[.pointer (some ⟨g, 0, none⟩)]) (by simp) (by simp [go_sem]) ?_
  have hb2 := blk_below (blk_put h.blk 0 (.int .i32 1) rfl) HB.out
  refine (unlock_deferred muLib ⟨g, 0, none⟩ .returning _ (by simp [World.cell?, hb2]) (by simp [World.frozen?, hb2])).mono ?_
  rintro e u' w'' ⟨rfl, rfl, rfl⟩
  exact ⟨_, results_tmp rfl _ _ _, rfl, lock_back h HB.out⟩
theorem Held_ok {w : World} {g bm : Nat} {D : DataW Unit} {pk : Int} (h : PS w g bm D pk) : Calls Try.prog 18 #[.pointer (some ⟨g, 0, none⟩)] w fun e w' => e = .returned (.int .i64 (wrap64 (sumD (fun _ b => b) D))) ∧ Below w.heap.size w w' := by
  go_enter Try.func18, Try.ntmps18
  go_wp2_with (fail)
  refine (ask_ok (f := fun _ b => b) h (.inl rfl) heldF_ok).mono ?_
  rintro e w' ⟨rfl, hB⟩
  go_wp2
  go_ret
  exact ⟨rfl, hB⟩
theorem Most_ok {w : World} {g bm : Nat} {D : DataW Unit} {pk : Int} (h : PS w g bm D pk) : Calls Try.prog 23 #[.pointer (some ⟨g, 0, none⟩)] w fun e w' => e = .returned (.int .i64 (wrap64 (sumD (fun a _ => a) D))) ∧ Below w.heap.size w w' := by
  go_enter Try.func23, Try.ntmps23
  go_wp2_with (fail)
  refine (ask_ok (f := fun a _ => a) h (.inr (.inr rfl)) mostF_ok).mono ?_
  rintro e w' ⟨rfl, hB⟩
  go_wp2
  go_ret
  exact ⟨rfl, hB⟩
end Go.Proofs.Ytbdlkpmaalhnnaa.X
