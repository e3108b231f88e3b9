import Derived.Test.YtobknpeglagaaaaProg
import Derived.Laws.CopyOwn
import Derived.Test.YtobknpeglagaaaaZMoreInvWordsWGuard0
import Derived.WalkSpells
import Derived.Laws.Pointers
import Derived.Laws.Strings
import Derived.KernelRfl
import Derived.RowKit3
import Derived.WalkKit
import Derived.Below
import Derived.Deep.Draws
import Derived.Deep.AppendLies
import Derived.Maps.AppendAt
import Derived.OwnWalk
import Derived.Laws.BytesArg
import Derived.Laws.MakeOwn
import Derived.Laws.OwnMore
import Derived.Deep.OwnRows
import Derived.Tactics
import Derived.Lib.ConvBytes
import Derived.Laws.Slices
import Derived.Deep.LoopGhost
import Derived.Deep.QuietTactic
import Derived.BigQuiet
import Derived.WideLaws
import Derived.Deep.DeepCutAuto
import Derived.Deep.CutBlock
import Derived.Deep.RegionHeld3
import Derived.Laws.Rows
import Derived.Lib.AppendStr
import Derived.ArgAppend
import Derived.Laws.IdiomCopy
import Derived.OrdersHeld
import Derived.Laws.BitsLemmas
import Derived.RowKit
import Derived.Lib.SlBytesConst
section
namespace Go.Proofs.Ytobknpeglagaaaa
open Go.RowKit Go.Proofs.YtobknpeglagaaaaW.PrintWords Go.Proofs.YtobknpeglagaaaaW.PrintLast Go.Proofs.YtobknpeglagaaaaW.PrintMore
def copyR (P : Program) (dT sT ty : TypeId) (args : Array Value) (w : World) (R : Ending → World → Prop) : Prop :=
  ∃ v w', (Builtin.copy_ #[dT, sT] ty args).run P w = .ok v w' ∧ R (.returned v) w'

theorem copyR.mono {P : Program} {dT sT ty : TypeId} {args : Array Value} {w : World} {R R' : Ending → World → Prop}
    (h : copyR P dT sT ty args w R) (hr : ∀ e w', R e w' → R' e w') : copyR P dT sT ty args w R' := by
  obtain ⟨v, w', h1, h2⟩ := h
  exact ⟨v, w', h1, hr _ _ h2⟩

theorem goesCopy {P : Program} {ops : Array Oper} {rest : List Oper} {oi : Oper} {a : Act} {Q : Exit → Act → World → Prop} {w : World} (N : Option Tmp)
    (hd : oi.dst = N) (hg : oi.guard = none) {d s : Operand} {dT sT : TypeId}
    (hop : oi.op = .call { callee := .builtin .copy, args := #[d, s], argTypes := #[dT, sT] }) (args : Array Value) (hargs : #[a.eval d, a.eval s] = args)
    (h : copyR P dT sT oi.type args w fun e w' => ∃ v, e = .returned v ∧ wpList P ops Q rest (a.put N v) w') : wpList P ops Q (oi :: rest) a w := by
  obtain ⟨v, w', hrun, v', he, hk⟩ := h
  cases he
  refine wpList_plain hg fun K hK => ?_
  unfold Oper.wp
  subst hd hargs
  simp [execOp, hop, resolve, invoke, builtin, hrun, Result.andThen]
  exact hK _ _ hk

def cpy {α : Type} (d s : List α) : List α := s.take d.length ++ d.drop s.length

theorem cpy_length {α : Type} (d s : List α) : (cpy d s).length = d.length := by
  unfold cpy; rw [List.length_append, List.length_take, List.length_drop]; omega

theorem copyS {P : Program} {α : Type} {enc : α → Value} {h1 : ∀ x, (enc x).oneCell' = true} (dT sT ty e : TypeId) (hu : P.underlying dT = some (.slice e)) (hs : (P.info? e).map (·.size) = some 1)
    (P0_ : Nat → Prop) (u : Value) (l0 : List α) (A1 : Option Addr) (c1 : Nat) (l1 : List α) (w0 w : World) (hB : Below w0.heap.size w0 w)
    (ho0 : (Kd.scalar enc h1).R e w w0.heap.size P0_ u l0) (hr1 : (Kd.scalar enc h1).C w A1 l1.length l1) :
    copyR P dT sT ty #[u, .slice A1 l1.length c1] w fun e' w' => e' = .returned (.int .i64 (Nat.min l1.length l0.length : Nat)) ∧
      (Kd.scalar enc h1).R e w' w0.heap.size (fun k_ => P0_ k_ ∨ w.heap.size ≤ k_) u (cpy l0 l1) ∧ Below w0.heap.size w0 w' ∧ Kept w w' (fun k_ => P0_ k_) := by
  have ho := Kd.own_of_R ho0
  obtain ⟨hlen, hcase⟩ := ho
  rcases hcase with ⟨rfl, h0⟩ | ⟨g, cap, cur, rfl, hg, hh, hnc, hcm, hcs, htk⟩
  · have hl0 : l0 = [] := List.eq_nil_of_length_eq_zero h0
    subst hl0
    refine ⟨_, _, run_copy_none w dT sT ty e none A1 0 0 l1.length c1 hu hs (by simp), ?_⟩
    refine ⟨by simp [goInt], ?_, hB, Kept.refl w _⟩
    have : cpy ([] : List α) l1 = [] := by simp [cpy]
    rw [this]
    exact Kd.R_mono ho0 (fun _ hk => .inl hk)
  · by_cases hz : Nat.min l1.length l0.length = 0
    · refine ⟨_, _, run_copy_none w dT sT ty e _ A1 l0.length cap l1.length c1 hu hs hz, ?_⟩
      refine ⟨by rw [hz]; rfl, ?_, hB, Kept.refl w _⟩
      have : cpy l0 l1 = l0 := by
        unfold cpy
        have hz' : l1.length = 0 ∨ l0.length = 0 := by
          simp only [Nat.min_def] at hz; split at hz <;> omega
        rcases hz' with h | h
        · have := List.eq_nil_of_length_eq_zero h; subst this; simp
        · have := List.eq_nil_of_length_eq_zero h; subst this; simp
      rw [this]
      exact Kd.R_mono ho0 (fun _ hk => .inl hk)
    · have hmin : Nat.min l1.length l0.length = (l1.take l0.length).length := by rw [List.length_take, Nat.min_comm]
      have hpos : 0 < l1.length := by
        rcases Nat.eq_zero_or_pos l1.length with h | h
        · exact absurd (by simp [h]) hz
        · exact h
      obtain ⟨ad, rfl, hcell⟩ := hr1.2.2 hpos
      have hsrc : ∀ j v, (encs enc (l1.take l0.length))[j]? = some v → w.cell? (ad.add j) = some v := by
        intro j v hj
        unfold encs at hj
        rw [List.getElem?_map] at hj
        cases hq : (l1.take l0.length)[j]? with
        | none => rw [hq] at hj; simp at hj
        | some p =>
          rw [hq] at hj
          simp only [Option.map_some, Option.some.injEq] at hj
          have hq1 : l1[j]? = some p := by
            rw [List.getElem?_take] at hq
            split at hq
            · exact hq
            · cases hq
          obtain ⟨c, hc1, hK, hcc⟩ := hcell j p hq1
          have hK' : c = [enc p] := hK
          subst hK'
          have := hcc 0 (enc p) rfl
          simpa [Kd.scalar, hj] using this
      have hfit : 0 + (encs enc (l1.take l0.length)).length ≤ cur.size := by
        unfold encs
        rw [List.length_map, List.length_take, hcs]
        omega
      have hone : ∀ v ∈ encs enc (l1.take l0.length), v.oneCell' = true := by
        intro v hv
        unfold encs at hv
        obtain ⟨x, _, rfl⟩ := List.mem_map.1 hv
        exact h1 x
      have hn : (encs enc (l1.take l0.length)).length = Nat.min l1.length l0.length := by unfold encs; rw [List.length_map, hmin]
      have hrun := run_copy_row (P := P) w dT sT ty e g 0 l0.length cap ad l1.length c1 cur e (encs enc (l1.take l0.length)) hu hs hh hn hsrc hfit hone
      refine ⟨_, _, hrun, ?_⟩
      have hset := setRow_heap w g cur ((cur.toList.take 0 ++ encs enc (l1.take l0.length) ++ cur.toList.drop (0 + (encs enc (l1.take l0.length)).length)).toArray) e (0, 0) hh
      have hP : P0_ g := ho0.1 g (by simp [Value.ownBlock])
      refine ⟨by rw [hn]; rfl, ?_, ?_, ?_⟩
      · refine Kd.R_of_own ?_ (fun k hk => .inl (ho0.1 k hk))
        rw [cpy_length]
        refine ⟨by simp [encs, cpy_length], .inr ⟨g, cap, _, rfl, hg, hset, hnc, hcm, ?_, ?_⟩⟩
        · have e1 : (encs enc (l1.take l0.length)).length = min l0.length l1.length := by unfold encs; simp
          simp only [List.take_zero, List.nil_append, Nat.zero_add, List.size_toArray, List.length_append, List.length_drop, Array.length_toList, Nat.mul_one, e1]
          rw [hcs]; omega
        · simp only [List.take_zero, List.nil_append, Nat.zero_add, Nat.mul_one]
          have e1 : (encs enc (l1.take l0.length)).length = min l0.length l1.length := by unfold encs; simp
          have e2 : encs enc (cpy l0 l1) = encs enc (l1.take l0.length) ++ (encs enc l0).drop l1.length := by
            unfold encs cpy; rw [List.map_append, List.map_drop]
          rw [e2, List.take_append, e1]
          congr 1
          · rw [List.take_of_length_le (by rw [e1]; omega)]
          · by_cases h : l0.length ≤ l1.length
            · rw [Nat.min_eq_left h, Nat.sub_self, List.take_zero, List.drop_eq_nil_of_le]
              unfold encs; rw [List.length_map]; exact h
            · have h' : l1.length ≤ l0.length := by omega
              rw [Nat.min_eq_right h', ← htk, Nat.mul_one, List.drop_take]
      · exact hB.trans (below_setRow (Below.refl _ _) (hg) _)
      · refine ⟨by simp, fun i hi hs_ => ?_⟩
        exact setRow_other w g i _ (fun e => hs_ (by rw [e]; exact hP))

def copy_i64.f (l0 l1 : List Int) : Option (Int × List Int) := some ((Nat.min l1.length l0.length : Nat), cpy l0 l1)
theorem copy_i64.calls {ty : TypeId} (P0_ : Nat → Prop) (u9000_ : Value) (l0 : List Int) (A1 : Option Addr) (c1 : Nat) (l1 : List Int) (r1 : Int) (r2 : List Int) (w0 w : World) (hB : Below w0.heap.size w0 w)
    (ho0 : Kd.R (Kd.int .i64) 3 w w0.heap.size P0_ u9000_ l0) (hr1 : ∀ W_, Kept w W_ (fun k_ => P0_ k_) → Kd.C (Kd.int .i64) W_ A1 l1.length l1) (_hc1 : l1.length ≤ c1) (h : copy_i64.f l0 l1 = some (r1, r2)) :
    copyR Try.prog 46 46 ty #[u9000_, .slice A1 l1.length c1] w fun e w' => e = .returned (.int .i64 r1) ∧ Kd.R (Kd.int .i64) 3 w' w0.heap.size (fun k_ => (P0_ k_ ∨ w.heap.size ≤ k_)) u9000_ r2 ∧ Below w0.heap.size w0 w' ∧ Kept w w' (fun k_ => P0_ k_) := by
  simp only [copy_i64.f, Option.some.injEq, Prod.mk.injEq] at h
  obtain ⟨rfl, rfl⟩ := h
  exact copyS 46 46 ty 3 Try.underlying46 (by kernel_rfl) P0_ u9000_ l0 A1 c1 l1 w0 w hB ho0 (hr1 w (Kept.refl w _))
def copy_u8.f (l0 l1 : List Int) : Option (Int × List Int) := some ((Nat.min l1.length l0.length : Nat), cpy l0 l1)
theorem copy_u8.calls {ty : TypeId} (P0_ : Nat → Prop) (u9000_ : Value) (l0 : List Int) (A1 : Option Addr) (c1 : Nat) (l1 : List Int) (r1 : Int) (r2 : List Int) (w0 w : World) (hB : Below w0.heap.size w0 w)
    (ho0 : Kd.R (Kd.int .u8) 5 w w0.heap.size P0_ u9000_ l0) (hr1 : ∀ W_, Kept w W_ (fun k_ => P0_ k_) → Kd.C (Kd.int .u8) W_ A1 l1.length l1) (_hc1 : l1.length ≤ c1) (h : copy_u8.f l0 l1 = some (r1, r2)) :
    copyR Try.prog 23 23 ty #[u9000_, .slice A1 l1.length c1] w fun e w' => e = .returned (.int .i64 r1) ∧ Kd.R (Kd.int .u8) 5 w' w0.heap.size (fun k_ => (P0_ k_ ∨ w.heap.size ≤ k_)) u9000_ r2 ∧ Below w0.heap.size w0 w' ∧ Kept w w' (fun k_ => P0_ k_) := by
  simp only [copy_u8.f, Option.some.injEq, Prod.mk.injEq] at h
  obtain ⟨rfl, rfl⟩ := h
  exact copyS 23 23 ty 5 Try.underlying23 (by kernel_rfl) P0_ u9000_ l0 A1 c1 l1 w0 w hB ho0 (hr1 w (Kept.refl w _))
def cutOf : Value → Nat → Value
  | .slice A _ c, m => .slice A m c
  | v, _ => v
def ptrOf : Value → Value
  | .slice A n _ => if n = 0 then .pointer none else .pointer (some (A.getD ⟨0, 0, none⟩))
  | v => v
theorem ptrOf_zero (A : Option Addr) (c : Nat) : ptrOf (.slice A 0 c) = .pointer none := rfl
theorem ptrOf_nil : ptrOf (.slice none 0 0) = .pointer none := rfl
theorem ptrOf_pos (ad : Addr) (n c : Nat) (h : (0 : Int) < (n : Int)) : ptrOf (.slice (some ad) n c) = .pointer (some ad) := by
  show (if n = 0 then _ else _) = _
  rw [if_neg (by omega)]; rfl
theorem ptrOf_under : Try.prog.underlying 24 = some (.pointer (Try.prog.pointee 24)) := by kernel_rfl
theorem ptrOf_eql (w : World) (A : Option Addr) (n c : Nat) : (binOp .eql 24 (ptrOf (.slice A n c)) (.pointer none)).run Try.prog w = .ok (.bool ((n : Int) == 0)) w := by
  cases n with
  | zero => exact run_eql_pointer_nil w _ none ptrOf_under
  | succ n =>
    have : (((n + 1 : Nat) : Int) == 0) = false := by rw [beq_eq_false_iff_ne]; omega
    rw [this]
    exact run_eql_pointer_nil w _ (some (A.getD ⟨0, 0, none⟩)) ptrOf_under
theorem ptrOf_neq (w : World) (A : Option Addr) (n c : Nat) : (binOp .neq 24 (ptrOf (.slice A n c)) (.pointer none)).run Try.prog w = .ok (.bool ((n : Int) != 0)) w := by
  cases n with
  | zero => exact run_neq_pointer_nil w _ none ptrOf_under
  | succ n =>
    have : (((n + 1 : Nat) : Int) != 0) = true := by rw [bne_iff_ne]; omega
    rw [this]
    exact run_neq_pointer_nil w _ (some (A.getD ⟨0, 0, none⟩)) ptrOf_under
theorem ptrOf_eqg (t : TypeId) (x y : Operand) (v : Value) : eqGuard .eql t x y v (.pointer none) = pure () := by
  cases v <;> simp [eqGuard] <;> rfl
theorem ptrOf_neg (t : TypeId) (x y : Operand) (v : Value) : eqGuard .neq t x y v (.pointer none) = pure () := by
  cases v <;> simp [eqGuard] <;> rfl
theorem C_string1 {P : Program} {w : World} {src dst e : TypeId} {A : Option Addr} {n c : Nat} {xs : List Int} (hs : P.underlying src = some (.slice e)) (he : P.underlying e = some (.int .u8)) (hd : P.underlying dst = some .string)
    (h : (Kd.int .u8).C w A n xs) : ∀ L : Nat, L = n → ∀ m : Nat, (convert src dst (.slice A L c)).run P (w.drewN m) = .ok (.string (strOfNums xs)) (w.drewN m) := by
  rintro L rfl m
  exact Kd.C_string hs he hd (Kd.C_drewN h m)
theorem C_string2 {P : Program} {w : World} {src dst e : TypeId} {A : Option Addr} {n c : Nat} {xs : List Int} (hs : P.underlying src = some (.slice e)) (he : P.underlying e = some (.int .u8)) (hd : P.underlying dst = some .string)
    (h : (Kd.int .u8).C w A n xs) : ∀ L : Nat, L = n → ∀ m m2 : Nat, (convert src dst (.slice A L c)).run P ((w.drewN m).drewN m2) = .ok (.string (strOfNums xs)) ((w.drewN m).drewN m2) := by
  rintro L rfl m m2
  exact Kd.C_string hs he hd (Kd.C_drewN (Kd.C_drewN h m) m2)
theorem C_string0 {P : Program} {w : World} {src dst e : TypeId} {A : Option Addr} {n c : Nat} {xs : List Int} (hs : P.underlying src = some (.slice e)) (he : P.underlying e = some (.int .u8)) (hd : P.underlying dst = some .string)
    (h : (Kd.int .u8).C w A n xs) : ∀ L : Nat, L = n → (convert src dst (.slice A L c)).run P w = .ok (.string (strOfNums xs)) w := by
  rintro L rfl
  exact Kd.C_string hs he hd h
theorem R_string0 {P : Program} {w : World} {src dst e : TypeId} {A : Option Addr} {n c e' base : Nat} {ok : Nat → Prop} {xs : List Int} (hs : P.underlying src = some (.slice e)) (he : P.underlying e = some (.int .u8)) (hd : P.underlying dst = some .string)
    (h : (Kd.int .u8).R e' w base ok (.slice A n c) xs) : ∀ L : Nat, L = n → (convert src dst (.slice A L c)).run P w = .ok (.string (strOfNums xs)) w := by
  obtain ⟨hn, _, hc⟩ := Kd.R_reads' h
  subst hn
  exact C_string0 hs he hd hc
theorem R_string1 {P : Program} {w : World} {src dst e : TypeId} {A : Option Addr} {n c e' base : Nat} {ok : Nat → Prop} {xs : List Int} (hs : P.underlying src = some (.slice e)) (he : P.underlying e = some (.int .u8)) (hd : P.underlying dst = some .string)
    (h : (Kd.int .u8).R e' w base ok (.slice A n c) xs) : ∀ L : Nat, L = n → ∀ m : Nat, (convert src dst (.slice A L c)).run P (w.drewN m) = .ok (.string (strOfNums xs)) (w.drewN m) := by
  obtain ⟨hn, _, hc⟩ := Kd.R_reads' h
  subst hn
  exact C_string1 hs he hd hc
theorem R_string2 {P : Program} {w : World} {src dst e : TypeId} {A : Option Addr} {n c e' base : Nat} {ok : Nat → Prop} {xs : List Int} (hs : P.underlying src = some (.slice e)) (he : P.underlying e = some (.int .u8)) (hd : P.underlying dst = some .string)
    (h : (Kd.int .u8).R e' w base ok (.slice A n c) xs) : ∀ L : Nat, L = n → ∀ m m2 : Nat, (convert src dst (.slice A L c)).run P ((w.drewN m).drewN m2) = .ok (.string (strOfNums xs)) ((w.drewN m).drewN m2) := by
  obtain ⟨hn, _, hc⟩ := Kd.R_reads' h
  subst hn
  exact C_string2 hs he hd hc
theorem less_or_same : ∀ a b : List UInt8, (Op.bytesLess a b || a == b) = !Op.bytesLess b a
  | [], [] => rfl
  | [], _ :: _ => rfl
  | _ :: _, [] => rfl
  | x :: a, y :: b => by
    have ih := less_or_same a b
    simp only [Op.bytesLess]
    rcases UInt8.lt_or_lt_of_ne (a := x) (b := y) |> fun h => (Classical.em (x = y)).imp id h with h | h | h
    · subst h
      simp only [UInt8.lt_irrefl, decide_false, Bool.false_or, beq_self_eq_true, Bool.true_and]
      rw [← ih]
      simp
    · have h1 : ¬ y < x := fun h2 => absurd (UInt8.lt_trans h h2) (UInt8.lt_irrefl _)
      have h2 : x ≠ y := fun e => by subst e; exact UInt8.lt_irrefl _ h
      have h3 : y ≠ x := fun e => h2 e.symm
      simp [h, h1, h3]
    · have h1 : ¬ x < y := fun h2 => absurd (UInt8.lt_trans h h2) (UInt8.lt_irrefl _)
      have h2 : x ≠ y := fun e => by subst e; exact UInt8.lt_irrefl _ h
      simp [h, h1, h2]
theorem str_leq (t : TypeId) (a b : ByteArray) : binOp .leq t (.string a) (.string b) = pure (.bool (!(Op.bytesLess b.toList a.toList))) := by
  rw [← less_or_same]; simp [binOp, Op.stringOp]
theorem str_geq (t : TypeId) (a b : ByteArray) : binOp .geq t (.string a) (.string b) = pure (.bool (!(Op.bytesLess a.toList b.toList))) := by
  simp [binOp, Op.stringOp]
theorem str_gtr (t : TypeId) (a b : ByteArray) : binOp .gtr t (.string a) (.string b) = pure (.bool (Op.bytesLess b.toList a.toList)) := by
  have h := less_or_same a.toList b.toList
  have : (binOp .gtr t (.string a) (.string b)) = pure (.bool !(Op.bytesLess a.toList b.toList || a.toList == b.toList)) := by simp [binOp, Op.stringOp]
  rw [this, h]; simp
end Go.Proofs.Ytobknpeglagaaaa
end
section
namespace Go.Proofs.Ytobknpeglagaaaa.X
open Go.RowKit Go.Proofs.YtobknpeglagaaaaW.PrintWords Go.Proofs.YtobknpeglagaaaaW.PrintLast Go.Proofs.YtobknpeglagaaaaW.PrintMore
attribute [local go_sem] ptrOf_eql ptrOf_neq ptrOf_eqg ptrOf_neg str_leq str_geq str_gtr max2_int min2_int max_two min_two max_three min_three max_four min_four   -- for this text's walks alone
set_option linter.unusedVariables false
set_option linter.unusedSimpArgs false
def errW : Option Int → Value
 | none => .nilIface
 | some c => .iface 0 (.int .i64 c)
theorem errW_none : errW none = .nilIface := rfl
theorem errW_some (c : Int) : errW (some c) = .iface 0 (.int .i64 c) := rfl

theorem info3 : (Try.prog.info? 3).map (fun i => (i.zero, i.size, i.bytes)) = some (some (.int .i64 0), 1, 8) := by kernel_rfl
theorem info4 : (Try.prog.info? 4).map (fun i => (i.zero, i.size, i.bytes)) = some (some (.bool false), 1, 1) := by kernel_rfl
theorem info5 : (Try.prog.info? 5).map (fun i => (i.zero, i.size, i.bytes)) = some (some (.int .u8 0), 1, 1) := by kernel_rfl
theorem info38 : (Try.prog.info? 38).map (fun i => (i.zero, i.size, i.bytes)) = some (some (.agg #[(.int .i64 0), (.int .i64 0), (.int .i64 0)]), 3, 24) := by kernel_rfl
theorem info39 : (Try.prog.info? 39).map (fun i => (i.zero, i.size, i.bytes)) = some (some (.agg #[(.int .i64 0), (.int .i64 0), (.int .i64 0)]), 3, 24) := by kernel_rfl
def rd_L3 (xs : List (List Int)) (i : Int) : (List Int) := xs.getD i.toNat ([] : List Int)
theorem at_L3 {w : World} {A : Option Addr} {n : Nat} {xs : List (List Int)} (h : Kd.C (Kd.slice 5 (Kd.int .u8)) w A n xs) (i : Int) (h0 : 0 ≤ i) (h1 : i < n) : ∃ ad A0 c0, A = some ad ∧ w.cell? (ad.add i.toNat) = some (.slice A0 (rd_L3 xs i).length c0) ∧ (rd_L3 xs i).length ≤ c0 ∧ (Kd.int .u8).C w A0 (rd_L3 xs i).length (rd_L3 xs i) := by
 obtain ⟨ad, c, e, _, hK, hc0⟩ := Kd.C_get h ([] : List Int) i h0 h1
 have hc : ∀ j u, c[j]? = some u → w.cell? (ad.add (i.toNat * 1 + j)) = some u := hc0
 obtain ⟨A0, c0, rfl, l0, g0⟩ := hK
 exact ⟨ad, A0, c0, e, by have hq := hc 0 _ rfl; rwa [Nat.mul_one, Nat.add_zero] at hq, l0, g0⟩

def rd_L4 (xs : List (List Int)) (i : Int) : (List Int) := xs.getD i.toNat ([] : List Int)
theorem at_L4 {w : World} {A : Option Addr} {n : Nat} {xs : List (List Int)} (h : Kd.C (Kd.slice 3 (Kd.int .i64)) w A n xs) (i : Int) (h0 : 0 ≤ i) (h1 : i < n) : ∃ ad A0 c0, A = some ad ∧ w.cell? (ad.add i.toNat) = some (.slice A0 (rd_L4 xs i).length c0) ∧ (rd_L4 xs i).length ≤ c0 ∧ (Kd.int .i64).C w A0 (rd_L4 xs i).length (rd_L4 xs i) := by
 obtain ⟨ad, c, e, _, hK, hc0⟩ := Kd.C_get h ([] : List Int) i h0 h1
 have hc : ∀ j u, c[j]? = some u → w.cell? (ad.add (i.toNat * 1 + j)) = some u := hc0
 obtain ⟨A0, c0, rfl, l0, g0⟩ := hK
 exact ⟨ad, A0, c0, e, by have hq := hc 0 _ rfl; rwa [Nat.mul_one, Nat.add_zero] at hq, l0, g0⟩

structure S48 where
 f0 : Bool
 f1 : (List Int)
 f2 : (List Int)
 f3 : (List Int)
 f4 : (List Int)
def z48 : S48 := ⟨false, ([] : List Int), ([] : List Int), ([] : List Int), ([] : List Int)⟩
def k48 : Kd S48 := Kd.iso (Kd.pair Kd.bool (Kd.pair (Kd.slice 5 (Kd.int .u8)) (Kd.pair (Kd.slice 3 (Kd.int .i64)) (Kd.pair (Kd.slice 3 (Kd.int .i64)) (Kd.slice 3 (Kd.int .i64)))))) (fun x : S48 => (x.f0, x.f1, x.f2, x.f3, x.f4))
theorem k48_heap : Kd.Heap k48 := Kd.heap_iso _ (Kd.heap_pair Kd.heap_bool (Kd.heap_pair (Kd.heap_slice 5 (Kd.heap_int .u8)) (Kd.heap_pair (Kd.heap_slice 3 (Kd.heap_int .i64)) (Kd.heap_pair (Kd.heap_slice 3 (Kd.heap_int .i64)) (Kd.heap_slice 3 (Kd.heap_int .i64))))))
theorem k48_open {w : World} {x : S48} {cs : List Value} (h : k48.K w x cs) : ∃ A1 c1 A2 c2 A3 c3 A4 c4, cs = [.bool x.f0, .slice A1 x.f1.length c1, .slice A2 x.f2.length c2, .slice A3 x.f3.length c3, .slice A4 x.f4.length c4] ∧ x.f1.length ≤ c1 ∧ (Kd.int .u8).C w A1 x.f1.length x.f1 ∧ x.f2.length ≤ c2 ∧ (Kd.int .i64).C w A2 x.f2.length x.f2 ∧ x.f3.length ≤ c3 ∧ (Kd.int .i64).C w A3 x.f3.length x.f3 ∧ x.f4.length ≤ c4 ∧ (Kd.int .i64).C w A4 x.f4.length x.f4 := by
 obtain ⟨_, _, rfl, rfl, ⟨_, _, rfl, ⟨A1, c1, rfl, l1, g1⟩, ⟨_, _, rfl, ⟨A2, c2, rfl, l2, g2⟩, ⟨_, _, rfl, ⟨A3, c3, rfl, l3, g3⟩, ⟨A4, c4, rfl, l4, g4⟩⟩⟩⟩⟩ := h
 exact ⟨A1, c1, A2, c2, A3, c3, A4, c4, rfl, l1, g1, l2, g2, l3, g3, l4, g4⟩
theorem k48_openM {w : World} {base : Nat} {ok : Nat → Prop} {x : S48} {cs : List Value} (h : k48.M w base ok x cs) : ∃ v1 v2 v3 v4, cs = [.bool x.f0, v1, v2, v3, v4] ∧ (Kd.int .u8).R 5 w base ok v1 x.f1 ∧ (Kd.int .i64).R 3 w base ok v2 x.f2 ∧ (Kd.int .i64).R 3 w base ok v3 x.f3 ∧ (Kd.int .i64).R 3 w base ok v4 x.f4 := by
 obtain ⟨_, _, rfl, rfl, ⟨_, _, rfl, ⟨v1, rfl, g1⟩, ⟨_, _, rfl, ⟨v2, rfl, g2⟩, ⟨_, _, rfl, ⟨v3, rfl, g3⟩, ⟨v4, rfl, g4⟩⟩⟩⟩⟩ := h
 exact ⟨v1, v2, v3, v4, rfl, g1, g2, g3, g4⟩
theorem k48_mk (w : World) (x : S48) {A1 : Option Addr} {c1 : Nat} (l1 : x.f1.length ≤ c1) (g1 : (Kd.int .u8).C w A1 x.f1.length x.f1) {A2 : Option Addr} {c2 : Nat} (l2 : x.f2.length ≤ c2) (g2 : (Kd.int .i64).C w A2 x.f2.length x.f2) {A3 : Option Addr} {c3 : Nat} (l3 : x.f3.length ≤ c3) (g3 : (Kd.int .i64).C w A3 x.f3.length x.f3) {A4 : Option Addr} {c4 : Nat} (l4 : x.f4.length ≤ c4) (g4 : (Kd.int .i64).C w A4 x.f4.length x.f4) : k48.K w x [.bool x.f0, .slice A1 x.f1.length c1, .slice A2 x.f2.length c2, .slice A3 x.f3.length c3, .slice A4 x.f4.length c4] := ⟨[.bool x.f0], [.slice A1 x.f1.length c1, .slice A2 x.f2.length c2, .slice A3 x.f3.length c3, .slice A4 x.f4.length c4], rfl, rfl, ⟨[.slice A1 x.f1.length c1], [.slice A2 x.f2.length c2, .slice A3 x.f3.length c3, .slice A4 x.f4.length c4], rfl, ⟨A1, c1, rfl, l1, g1⟩, ⟨[.slice A2 x.f2.length c2], [.slice A3 x.f3.length c3, .slice A4 x.f4.length c4], rfl, ⟨A2, c2, rfl, l2, g2⟩, ⟨[.slice A3 x.f3.length c3], [.slice A4 x.f4.length c4], rfl, ⟨A3, c3, rfl, l3, g3⟩, ⟨A4, c4, rfl, l4, g4⟩⟩⟩⟩⟩
theorem k48_mkM (w : World) (base : Nat) (ok : Nat → Prop) (x : S48) {v1 : Value} (g1 : (Kd.int .u8).R 5 w base ok v1 x.f1) {v2 : Value} (g2 : (Kd.int .i64).R 3 w base ok v2 x.f2) {v3 : Value} (g3 : (Kd.int .i64).R 3 w base ok v3 x.f3) {v4 : Value} (g4 : (Kd.int .i64).R 3 w base ok v4 x.f4) : k48.M w base ok x [.bool x.f0, v1, v2, v3, v4] := ⟨[.bool x.f0], [v1, v2, v3, v4], rfl, rfl, ⟨[v1], [v2, v3, v4], rfl, ⟨v1, rfl, g1⟩, ⟨[v2], [v3, v4], rfl, ⟨v2, rfl, g2⟩, ⟨[v3], [v4], rfl, ⟨v3, rfl, g3⟩, ⟨v4, rfl, g4⟩⟩⟩⟩⟩
def rd_T48 (xs : List S48) (i : Int) : S48 := xs.getD i.toNat z48
theorem at_T48 {w : World} {A : Option Addr} {n : Nat} {xs : List S48} (h : Kd.C k48 w A n xs) (i : Int) (h0 : 0 ≤ i) (h1 : i < n) : ∃ ad A1 c1 A2 c2 A3 c3 A4 c4, A = some ad ∧ w.cell? (ad.add (i.toNat * 5)) = some (.bool (rd_T48 xs i).f0) ∧ w.cell? ⟨(ad.add (i.toNat * 5)).block, (ad.add (i.toNat * 5)).off + 1, none⟩ = some (.slice A1 (rd_T48 xs i).f1.length c1) ∧ w.cell? ⟨(ad.add (i.toNat * 5)).block, (ad.add (i.toNat * 5)).off + 2, none⟩ = some (.slice A2 (rd_T48 xs i).f2.length c2) ∧ w.cell? ⟨(ad.add (i.toNat * 5)).block, (ad.add (i.toNat * 5)).off + 3, none⟩ = some (.slice A3 (rd_T48 xs i).f3.length c3) ∧ w.cell? ⟨(ad.add (i.toNat * 5)).block, (ad.add (i.toNat * 5)).off + 4, none⟩ = some (.slice A4 (rd_T48 xs i).f4.length c4) ∧ (rd_T48 xs i).f1.length ≤ c1 ∧ (Kd.int .u8).C w A1 (rd_T48 xs i).f1.length (rd_T48 xs i).f1 ∧ (rd_T48 xs i).f2.length ≤ c2 ∧ (Kd.int .i64).C w A2 (rd_T48 xs i).f2.length (rd_T48 xs i).f2 ∧ (rd_T48 xs i).f3.length ≤ c3 ∧ (Kd.int .i64).C w A3 (rd_T48 xs i).f3.length (rd_T48 xs i).f3 ∧ (rd_T48 xs i).f4.length ≤ c4 ∧ (Kd.int .i64).C w A4 (rd_T48 xs i).f4.length (rd_T48 xs i).f4 := by
 obtain ⟨ad, c, e, _, hK, hc0⟩ := Kd.C_get h z48 i h0 h1
 have hc : ∀ j u, c[j]? = some u → w.cell? (ad.add (i.toNat * 5 + j)) = some u := hc0
 obtain ⟨A1, c1, A2, c2, A3, c3, A4, c4, rfl, l1, g1, l2, g2, l3, g3, l4, g4⟩ := k48_open hK
 exact ⟨ad, A1, c1, A2, c2, A3, c3, A4, c4, e, hc 0 _ rfl, by rw [← add_field _ _ 1 (by omega)]; exact hc 1 _ rfl, by rw [← add_field _ _ 2 (by omega)]; exact hc 2 _ rfl, by rw [← add_field _ _ 3 (by omega)]; exact hc 3 _ rfl, by rw [← add_field _ _ 4 (by omega)]; exact hc 4 _ rfl, l1, g1, l2, g2, l3, g3, l4, g4⟩

structure S39 where
 f0 : Int
 f1 : Int
 f2 : Int
def z39 : S39 := ⟨(0 : Int), (0 : Int), (0 : Int)⟩
def k39 : Kd S39 := Kd.iso (Kd.pair (Kd.int .i64) (Kd.pair (Kd.int .i64) (Kd.int .i64))) (fun x : S39 => (x.f0, x.f1, x.f2))
theorem k39_heap : Kd.Heap k39 := Kd.heap_iso _ (Kd.heap_pair (Kd.heap_int .i64) (Kd.heap_pair (Kd.heap_int .i64) (Kd.heap_int .i64)))
theorem k39_open {w : World} {x : S39} {cs : List Value} (h : k39.K w x cs) : cs = [.int .i64 x.f0, .int .i64 x.f1, .int .i64 x.f2] := by
 obtain ⟨_, _, rfl, rfl, ⟨_, _, rfl, rfl, rfl⟩⟩ := h
 exact rfl
theorem k39_openM {w : World} {base : Nat} {ok : Nat → Prop} {x : S39} {cs : List Value} (h : k39.M w base ok x cs) : cs = [.int .i64 x.f0, .int .i64 x.f1, .int .i64 x.f2] := by
 obtain ⟨_, _, rfl, rfl, ⟨_, _, rfl, rfl, rfl⟩⟩ := h
 exact rfl
theorem k39_mk (w : World) (x : S39)  : k39.K w x [.int .i64 x.f0, .int .i64 x.f1, .int .i64 x.f2] := ⟨[.int .i64 x.f0], [.int .i64 x.f1, .int .i64 x.f2], rfl, rfl, ⟨[.int .i64 x.f1], [.int .i64 x.f2], rfl, rfl, rfl⟩⟩
theorem k39_mkM (w : World) (base : Nat) (ok : Nat → Prop) (x : S39)  : k39.M w base ok x [.int .i64 x.f0, .int .i64 x.f1, .int .i64 x.f2] := ⟨[.int .i64 x.f0], [.int .i64 x.f1, .int .i64 x.f2], rfl, rfl, ⟨[.int .i64 x.f1], [.int .i64 x.f2], rfl, rfl, rfl⟩⟩
def rd_T39 (xs : List S39) (i : Int) : S39 := xs.getD i.toNat z39
theorem at_T39 {w : World} {A : Option Addr} {n : Nat} {xs : List S39} (h : Kd.C k39 w A n xs) (i : Int) (h0 : 0 ≤ i) (h1 : i < n) : ∃ ad , A = some ad ∧ w.cell? (ad.add (i.toNat * 3)) = some (.int .i64 (rd_T39 xs i).f0) ∧ w.cell? ⟨(ad.add (i.toNat * 3)).block, (ad.add (i.toNat * 3)).off + 1, none⟩ = some (.int .i64 (rd_T39 xs i).f1) ∧ w.cell? ⟨(ad.add (i.toNat * 3)).block, (ad.add (i.toNat * 3)).off + 2, none⟩ = some (.int .i64 (rd_T39 xs i).f2) := by
 obtain ⟨ad, c, e, _, hK, hc0⟩ := Kd.C_get h z39 i h0 h1
 have hc : ∀ j u, c[j]? = some u → w.cell? (ad.add (i.toNat * 3 + j)) = some u := hc0
 obtain rfl := k39_open hK
 exact ⟨ad, e, hc 0 _ rfl, by rw [← add_field _ _ 1 (by omega)]; exact hc 1 _ rfl, by rw [← add_field _ _ 2 (by omega)]; exact hc 2 _ rfl⟩

structure S38 where
 f0 : Int
 f1 : Int
 f2 : Int
def z38 : S38 := ⟨(0 : Int), (0 : Int), (0 : Int)⟩
def k38 : Kd S38 := Kd.iso (Kd.pair (Kd.int .i64) (Kd.pair (Kd.int .i64) (Kd.int .i64))) (fun x : S38 => (x.f0, x.f1, x.f2))
theorem k38_heap : Kd.Heap k38 := Kd.heap_iso _ (Kd.heap_pair (Kd.heap_int .i64) (Kd.heap_pair (Kd.heap_int .i64) (Kd.heap_int .i64)))
theorem k38_open {w : World} {x : S38} {cs : List Value} (h : k38.K w x cs) : cs = [.int .i64 x.f0, .int .i64 x.f1, .int .i64 x.f2] := by
 obtain ⟨_, _, rfl, rfl, ⟨_, _, rfl, rfl, rfl⟩⟩ := h
 exact rfl
theorem k38_openM {w : World} {base : Nat} {ok : Nat → Prop} {x : S38} {cs : List Value} (h : k38.M w base ok x cs) : cs = [.int .i64 x.f0, .int .i64 x.f1, .int .i64 x.f2] := by
 obtain ⟨_, _, rfl, rfl, ⟨_, _, rfl, rfl, rfl⟩⟩ := h
 exact rfl
theorem k38_mk (w : World) (x : S38)  : k38.K w x [.int .i64 x.f0, .int .i64 x.f1, .int .i64 x.f2] := ⟨[.int .i64 x.f0], [.int .i64 x.f1, .int .i64 x.f2], rfl, rfl, ⟨[.int .i64 x.f1], [.int .i64 x.f2], rfl, rfl, rfl⟩⟩
theorem k38_mkM (w : World) (base : Nat) (ok : Nat → Prop) (x : S38)  : k38.M w base ok x [.int .i64 x.f0, .int .i64 x.f1, .int .i64 x.f2] := ⟨[.int .i64 x.f0], [.int .i64 x.f1, .int .i64 x.f2], rfl, rfl, ⟨[.int .i64 x.f1], [.int .i64 x.f2], rfl, rfl, rfl⟩⟩
def rd_T38 (xs : List S38) (i : Int) : S38 := xs.getD i.toNat z38
theorem at_T38 {w : World} {A : Option Addr} {n : Nat} {xs : List S38} (h : Kd.C k38 w A n xs) (i : Int) (h0 : 0 ≤ i) (h1 : i < n) : ∃ ad , A = some ad ∧ w.cell? (ad.add (i.toNat * 3)) = some (.int .i64 (rd_T38 xs i).f0) ∧ w.cell? ⟨(ad.add (i.toNat * 3)).block, (ad.add (i.toNat * 3)).off + 1, none⟩ = some (.int .i64 (rd_T38 xs i).f1) ∧ w.cell? ⟨(ad.add (i.toNat * 3)).block, (ad.add (i.toNat * 3)).off + 2, none⟩ = some (.int .i64 (rd_T38 xs i).f2) := by
 obtain ⟨ad, c, e, _, hK, hc0⟩ := Kd.C_get h z38 i h0 h1
 have hc : ∀ j u, c[j]? = some u → w.cell? (ad.add (i.toNat * 3 + j)) = some u := hc0
 obtain rfl := k38_open hK
 exact ⟨ad, e, hc 0 _ rfl, by rw [← add_field _ _ 1 (by omega)]; exact hc 1 _ rfl, by rw [← add_field _ _ 2 (by omega)]; exact hc 2 _ rfl⟩
end Go.Proofs.Ytobknpeglagaaaa.X
end
section
namespace Go.Proofs.Ytobknpeglagaaaa.X
open Go.RowKit Go.Proofs.YtobknpeglagaaaaW.PrintWords Go.Proofs.YtobknpeglagaaaaW.PrintLast Go.Proofs.YtobknpeglagaaaaW.PrintMore
def bA (n v : Nat) : Array Bool := ((List.range n).map v.testBit).toArray
theorem gg_types {α β : Type} {d : Kd α} {d' : Kd β} {e e' : TypeId} {w : World} {base base' : Nat} {ok ok' : Nat → Prop} {v : Value} {xs : List α} {ys : List β} {g n c : Nat} (h : d.R e w base ok v xs) (h' : d'.R e' w base' ok' (.slice (some ⟨g, 0, none⟩) n c) ys) (ht : ∀ q, q ∈ e :: d.E → q ≠ e') : d.R e w base (fun k => ok k ∧ k ≠ g) v xs := by
  obtain ⟨cells, hc⟩ := Kd.R_typed h' g (by simp [Value.ownBlock])
  exact Kd.R_types h hc ht
/-! Short names, for printed texts that would be longer than a claim may be (wip/monoshort.py). -/
abbrev Qa := @Kd.R_alloc
abbrev Qb := @Kd.R_drewN
abbrev Qc := @Kd.R_drew
abbrev Qd := @Kd.C_alloc
abbrev Qe := @Kd.C_drewN
abbrev Qf := @Kd.C_drew
abbrev Qg := @below_alloc
abbrev Qh := @pw_below_drewN
abbrev Qi := @below_drew1
theorem Qt {p : Prop} [Decidable p] (h : decide p = true := by first | (with_reducible assumption) | assumption) : p := of_decide_eq_true h
theorem Qs : (∀ (a : Act) (v : Value) (d : Tmp), a.put (some d) v = { tmps := a.tmps.setIfInBounds d v, defers := a.defers }) ∧ (∀ (a : Act) (v : Value), a.put none v = a) ∧ (∀ (l : List Value) (i : Nat) (x : Value), l.toArray.setIfInBounds i x = (l.set i x).toArray) ∧ (∀ (x a : Value) (xs : List Value), (x :: xs).set 0 a = a :: xs) ∧ (∀ (x a : Value) (xs : List Value) (i : Nat), (x :: xs).set (i + 1) a = x :: xs.set i a) ∧ (∀ n : Int, IntKind.i64.wrap n = wrap64 n) ∧ (∀ n : Int, IntKind.i32.wrap n = wrap32 n) :=
  ⟨fun _ _ _ => rfl, fun _ _ => rfl, fun _ _ _ => List.setIfInBounds_toArray .., fun _ _ _ => rfl, fun _ _ _ _ => rfl, i64_w, i32_w⟩
section
variable {P : Program} {ops : Array Oper} {Q : Exit → Act → World → Prop} {md : Region.Mode} {S : World → Prop} {ds : List Nat} {T : Bool × List (List Nat × List Nat)} {oi : Oper} {fuel : Nat} {l : Array Bool} {a : Act} {w : World}
theorem pureQ (i N n b : Nat) (hT : rtab md ops = T) (v : Value) (hy : ∀ w, (execOp a.eval oi).run P w = .ok (.value v) w) (a' : Act) (ha : a.put (some N) v = a') (h : wpAnyLast P md ops Q S ds fuel (bA n b) a' w)
    (hi : ops[i]? = some oi := by rfl) (hN : oi.dst = some N := by rfl) (hc : anyT T l.toList (bA n b).toList i = true := by kernel_rfl) (hw : Region.wanted oi (yielded ops a.tmps) = true := by rfl) (hQ : ∀ c a w, Q (.panic c) (a.put oi.dst v) w → Q (.panic c) a w := by exact fun _ _ _ h => h) : wpAnyLast P md ops Q S ds (fuel + 1) l a w :=
  pure_ (bA n b) hi hN (any_of hT hc) hQ (Or.inl ⟨hw, hy⟩) ha h
theorem pureU (i N n b : Nat) (hT : rtab md ops = T) (a' : Act) (ha : a.put (some N) undef = a') (h : wpAnyLast P md ops Q S ds fuel (bA n b) a' w)
    (hi : ops[i]? = some oi := by rfl) (hN : oi.dst = some N := by rfl) (hc : anyT T l.toList (bA n b).toList i = true := by kernel_rfl) (hw : Region.wanted oi (yielded ops a.tmps) = false := by rfl) (hQ : ∀ c a w, Q (.panic c) (a.put oi.dst undef) w → Q (.panic c) a w := by exact fun _ _ _ h => h) : wpAnyLast P md ops Q S ds (fuel + 1) l a w :=
  pure_ (bA n b) hi hN (any_of hT hc) hQ (Or.inr ⟨hw, rfl⟩) ha h
theorem takeQ {B : List Nat} (i N n b : Nat) (hT : rtab md ops = T) (hB : waitsOk T.2 B = true) (hS : S w) (v : Value) (hy : ∀ w, S w → (execOp a.eval oi).run P w = .ok (.value v) w) (a' : Act) (ha : a.put (some N) v = a') (h : wpAnyLast P md ops Q S ds fuel (bA n b) a' w)
    (hi : ops[i]? = some oi := by rfl) (hN : oi.dst = some N := by rfl) (hc : takeW T B ds l.toList (bA n b).toList i = true := by kernel_rfl) (hw : Region.wanted oi (yielded ops a.tmps) = true := by rfl) (hQ : ∀ c a w, Q (.panic c) (a.put oi.dst v) w → Q (.panic c) a w := by exact fun _ _ _ h => h) : wpAnyLast P md ops Q S ds (fuel + 1) l a w :=
  take_ (bA n b) hi hN (take_ofW hT hB hc) hQ (Or.inl ⟨hw, hy⟩) hS ha h
end
end Go.Proofs.Ytobknpeglagaaaa.X
end
section
namespace Go.Proofs.Ytobknpeglagaaaa.X
open Go.RowKit Go.Proofs.YtobknpeglagaaaaW.PrintWords Go.Proofs.YtobknpeglagaaaaW.PrintLast Go.Proofs.YtobknpeglagaaaaW.PrintMore
attribute [local go_sem] ptrOf_eql ptrOf_neq ptrOf_eqg ptrOf_neg str_leq str_geq str_gtr max2_int min2_int max_two min_two max_three min_three max_four min_four   -- for this text's walks alone
set_option linter.unusedVariables false
set_option linter.unusedSimpArgs false
theorem eqA39 (d : Nat) (w : World) (x0 y0 : Int) (x1 y1 : Int) (x2 y2 : Int) :
  (Op.equalIn (d + 2) 39 (.agg #[.int .i64 x0, .int .i64 x1, .int .i64 x2]) (.agg #[.int .i64 y0, .int .i64 y1, .int .i64 y2])).run Try.prog w = .ok (x0 == y0 && (x1 == y1 && (x2 == y2))) w := by
 refine eqA_of Try.underlying39 (by kernel_rfl) ?_
 refine eqf_cons (by rfl) (by go_simp; rfl) (by go_simp; rfl) (by go_simp) ?_
 refine eqf_cons (by rfl) (by go_simp; rfl) (by go_simp; rfl) (by go_simp) ?_
 exact eqf_last (by rfl) (by go_simp; rfl) (by go_simp; rfl) (by go_simp)
mutual
def sais_check.j0 : Nat → Int → List Int → Bool → Option (Int)
 | 0, _, _, _ => none
 | k + 1, x0, x1, x12 => if x12 = true then (some 1) else (if (x1.length : Int) > 16777216 then (some 120) else (sais_check.l0 k x0 x1 (x1.length : Int) 0))
def sais_check.l0 : Nat → Int → List Int → Int → Int → Option (Int)
 | 0, _, _, _, _ => none
 | k + 1, x0, x16, x17, x18 => if x18 < x17 then (if 0 ≤ x18 then (if x18 < (x16.length : Int) then (if (rd x16 x18) < 0 then (some 121) else (if (rd x16 x18) ≥ x0 then (some 121) else (sais_check.l0 k x0 x16 x17 (wrap64 (x18 + 1))))) else (none)) else (none)) else (some 0)
end
def sais_check.f (k : Nat) (a0 : Int) (l1 : List Int) : Option (Int) := if a0 < 0 then (sais_check.j0 k a0 l1 true) else (sais_check.j0 k a0 l1 (decide (a0 > 33554432)))
theorem sais_check.mono_l : ∀ k, (∀ y0 y1 y2, LeO (sais_check.j0 k y0 y1 y2) (sais_check.j0 (k + 1) y0 y1 y2)) ∧ (∀ y0 y1 y2 y3, LeO (sais_check.l0 k y0 y1 y2 y3) (sais_check.l0 (k + 1) y0 y1 y2 y3))
 | 0 => ⟨fun _ _ _ r h => by simp [sais_check.j0] at h, fun _ _ _ _ r h => by simp [sais_check.l0] at h⟩
 | k + 1 => by
  obtain ⟨ih0, ih1⟩ := sais_check.mono_l k
  refine ⟨?_, ?_⟩
  intro y0 y1 y2; unfold sais_check.j0; rotate_left
  intro y0 y1 y2 y3; unfold sais_check.l0; rotate_left
  all_goals
   repeat' first
   | (with_reducible exact ih0 _ _ _)
   | (with_reducible exact ih1 _ _ _ _)
   | (with_reducible exact LeO.refl _)
   | (with_reducible exact LeO.none _)
   | (with_reducible refine LeO.ite ?_ ?_)
   | (with_reducible refine LeO.bind ?_ (fun _ => ?_))
   | exact ih0 _ _ _
   | exact ih1 _ _ _ _
   | exact LeO.none _
   | refine LeO.ite ?_ ?_
   | refine LeO.bind ?_ (fun _ => ?_)
theorem sais_check.mono : ∀ a0 a1 k, LeO (sais_check.f k a0 a1) (sais_check.f (k + 1) a0 a1) := by
 intro a0 a1 k
 obtain ⟨ih0, ih1⟩ := sais_check.mono_l k
 unfold sais_check.f
 repeat' first
   | (with_reducible exact ih0 _ _ _)
   | (with_reducible exact ih1 _ _ _ _)
   | (with_reducible exact LeO.refl _)
   | (with_reducible exact LeO.none _)
   | (with_reducible refine LeO.ite ?_ ?_)
   | (with_reducible refine LeO.bind ?_ (fun _ => ?_))
   | exact ih0 _ _ _
   | exact ih1 _ _ _ _
   | exact LeO.none _
   | refine LeO.ite ?_ ?_
   | refine LeO.bind ?_ (fun _ => ?_)
set_option maxHeartbeats 8000000 in
set_option maxRecDepth 100000 in
theorem sais_check.calls (k : Nat) (a0 : Int) (A1 : Option Addr) (c1 : Nat) (l1 : List Int) (r : Int) (w : World) (hr1 : Kd.C (Kd.int .i64) w A1 l1.length l1) (hc1 : l1.length ≤ c1) (h : sais_check.f k a0 l1 = some r) :
  Calls Try.prog 52 #[.int .i64 a0, .slice A1 l1.length c1] w fun e w' => e = .returned (.int .i64 r) ∧ Drawn0 w w' := by
 have HR1 := Aside0.mk hr1; have HC1 := Aside0.mk hc1; clear hr1 hc1; have H : (if a0 < 0 then (sais_check.j0 k a0 l1 true) else (sais_check.j0 k a0 l1 (decide (a0 > 33554432)))) = some r := h; clear h; have HC3 := Aside0.mk H; clear H
 go_enter Try.func52, Try.ntmps52
 go_upto_region 1 with (fail)
 go_cut [12] (fun v12 wc => ∃ (kq : Nat) (x12_2 : Bool), v12 = .bool x12_2 ∧ Aside0 (sais_check.j0 kq a0 l1 x12_2 = some r) ∧ Aside0 (kq ≤ k) ∧ Drawn0 w wc)
 case first =>
  have H := HC3.out; clear HC3
  by_cases c4 : a0 < 0
  ·rw [if_pos c4] at H
   have c4b0 : decide (a0 < 0) = true := decide_eq_true c4; clear c4
   (first | rw [c4b0] | rw [c4b1] | (simp only [i64_w, i32_w]; rw [c4b0]) | skip)
   have H' := Aside0.mk H; clear H
   go_wp2
   go_meet
   case rel => exact ⟨_, (true), (rfl), H', ⟨by first | omega | exact Nat.le_refl _⟩, by repeat (first | exact Drawn0.refl _ | apply Drawn0.step)⟩
  ·rw [if_neg c4] at H
   have c4b0 : decide (a0 < 0) = false := decide_eq_false c4; clear c4
   (first | rw [c4b0] | rw [c4b1] | (simp only [i64_w, i32_w]; rw [c4b0]) | skip)
   have H' := Aside0.mk H; clear H
   go_wp2
   go_meet
   case rel => exact ⟨_, (decide (a0 > 33554432)), (rfl), H', ⟨by first | omega | exact Nat.le_refl _⟩, by repeat (first | exact Drawn0.refl _ | apply Drawn0.step)⟩
 case rest =>
  clear HC3; obtain ⟨kq, x12_2, rfl, HA, HJ2, ⟨mc2, rfl⟩⟩ := hcut
  cases kq with
  | zero => exact absurd HA.out (by simp [sais_check.j0])
  | succ kj2 =>
   have H := HA.out; clear HA; simp only [sais_check.j0] at H
   by_cases c5 : x12_2 = true
   ·subst c5
    have H1 : (some 1) = some r := by rw [if_pos rfl] at H; exact H
    clear H; have H := H1; clear H1; obtain rfl := Option.some.inj H
    go_wp2
    go_ret
    exact ⟨rfl, by repeat (first | exact Drawn0.refl _ | apply Drawn0.step)⟩
   ·replace c5 := Bool.eq_false_iff.mpr c5
    subst c5
    have H1 : (if (l1.length : Int) > 16777216 then (some 120) else (sais_check.l0 kj2 a0 l1 (l1.length : Int) 0)) = some r := by rw [if_neg (show ¬ (false = true) by decide)] at H; exact H
    clear H; have H := H1; clear H1
    by_cases c6 : (l1.length : Int) > 16777216
    ·rw [if_pos c6] at H
     have c6b0 : decide (16777216 < (l1.length : Int)) = true := decide_eq_true c6; have c6b1 : decide (16777216 < l1.length) = true := decide_eq_true (by omega); clear c6; obtain rfl := Option.some.inj H
     go_wp2
     go_ret
     exact ⟨rfl, by repeat (first | exact Drawn0.refl _ | apply Drawn0.step)⟩
    ·rw [if_neg c6] at H
     have c6b0 : decide (16777216 < (l1.length : Int)) = false := decide_eq_false c6; have c6b1 : decide (16777216 < l1.length) = false := decide_eq_false (by omega); clear c6; have H' := Aside0.mk H; clear H
     go_wp2
     go_loopg [18] kj2 (fun kq v18 w' => ∃ (x18_2 : Int), v18 = .int .i64 x18_2 ∧ Aside0 (sais_check.l0 kq a0 l1 (l1.length : Int) x18_2 = some r) ∧ Aside0 (kq ≤ kj2) ∧ Drawn0 w w')
     case atStart => exact ⟨(0), (rfl), H', ⟨Nat.le_refl _⟩, by repeat (first | exact Drawn0.refl _ | apply Drawn0.step)⟩
     case round =>
      clear H'; obtain ⟨x18_2, rfl, HA, HK2, ⟨m2, rfl⟩⟩ := hrel
      cases gk with
      | zero => exact absurd HA.out (by simp [sais_check.l0])
      | succ k2 =>
       have H := HA.out; clear HA; simp only [sais_check.l0] at H
       by_cases c7 : x18_2 < (l1.length : Int)
       ·rw [if_pos c7] at H
        have c7b0 : decide (x18_2 < (l1.length : Int)) = true := decide_eq_true c7; clear c7
        by_cases c8 : 0 ≤ x18_2
        ·rw [if_pos c8] at H
         have c8b0 : decide (0 ≤ x18_2) = true := decide_eq_true c8; clear c8
         by_cases c9 : x18_2 < (l1.length : Int)
         ·rw [if_pos c9] at H
          have c9b0 : decide (x18_2 < (l1.length : Int)) = true := decide_eq_true c9; clear c9
          by_cases c10 : (rd l1 x18_2) < 0
          ·rw [if_pos c10] at H
           have c10b0 : decide ((rd l1 x18_2) < 0) = true := decide_eq_true c10; clear c10; obtain rfl := Option.some.inj H; have p101 : 0 ≤ (x18_2 : Int) := Qt; have q101 : x18_2 < (l1.length : Int) := Qt; obtain ⟨ad101, e101, hx101_0⟩ := Kd.at_int HR1.out x18_2 p101 q101; cases e101; replace p101 := eq_true p101; replace q101 := eq_true q101
           go_wp2
           go_ret
           exact ⟨rfl, by repeat (first | exact Drawn0.refl _ | apply Drawn0.step)⟩
          ·rw [if_neg c10] at H
           have c10b0 : decide ((rd l1 x18_2) < 0) = false := decide_eq_false c10; clear c10
           by_cases c11 : (rd l1 x18_2) ≥ a0
           ·rw [if_pos c11] at H
            have c11b0 : decide (a0 ≤ (rd l1 x18_2)) = true := decide_eq_true c11; clear c11; obtain rfl := Option.some.inj H; have p101 : 0 ≤ (x18_2 : Int) := Qt; have q101 : x18_2 < (l1.length : Int) := Qt; obtain ⟨ad101, e101, hx101_0⟩ := Kd.at_int HR1.out x18_2 p101 q101; cases e101; replace p101 := eq_true p101; replace q101 := eq_true q101
            go_wp2
            go_ret
            exact ⟨rfl, by repeat (first | exact Drawn0.refl _ | apply Drawn0.step)⟩
           ·rw [if_neg c11] at H
            have c11b0 : decide (a0 ≤ (rd l1 x18_2)) = false := decide_eq_false c11; clear c11; have H' := Aside0.mk H; clear H; have p101 : 0 ≤ (x18_2 : Int) := Qt; have q101 : x18_2 < (l1.length : Int) := Qt; obtain ⟨ad101, e101, hx101_0⟩ := Kd.at_int HR1.out x18_2 p101 q101; cases e101; replace p101 := eq_true p101; replace q101 := eq_true q101
            go_wp2
            go_roundg k2
            case measure => have := HJ2.out; have := HK2.out; omega
            case rel => exact ⟨(wrap64 (x18_2 + 1)), (rfl), H', ⟨by have := HJ2.out; have := HK2.out; omega⟩, by repeat (first | exact Drawn0.refl _ | apply Drawn0.step)⟩
         (· (rw [if_neg c9] at H; exact absurd H (by simp)))
        (· (rw [if_neg c8] at H; exact absurd H (by simp)))
       ·rw [if_neg c7] at H
        have c7b0 : decide (x18_2 < (l1.length : Int)) = false := decide_eq_false c7; clear c7; obtain rfl := Option.some.inj H
        go_wp2
        go_ret
        exact ⟨rfl, by repeat (first | exact Drawn0.refl _ | apply Drawn0.step)⟩
def sais_Types.l0 : Nat → List Int → Int → List Bool → Option (List Bool)
 | 0, _, _, _ => none
 | k + 1, x0, x5, x9 => if x5 ≥ 0 then (if 0 ≤ x5 then (if x5 < (x0.length : Int) then (if 0 ≤ (wrap64 (x5 + 1)) then (if (wrap64 (x5 + 1)) < (x0.length : Int) then (if (rd x0 x5) < (rd x0 (wrap64 (x5 + 1))) then (if x5 < (x9.length : Int) then (sais_Types.l0 k x0 (wrap64 (x5 - 1)) (x9.set (x5 : Int).toNat true)) else (none)) else (if (rd x0 x5) = (rd x0 (wrap64 (x5 + 1))) then (if (wrap64 (x5 + 1)) < (x9.length : Int) then (if x5 < (x9.length : Int) then (sais_Types.l0 k x0 (wrap64 (x5 - 1)) (x9.set (x5 : Int).toNat (rdOf false x9 (wrap64 (x5 + 1))))) else (none)) else (none)) else (if x5 < (x9.length : Int) then (sais_Types.l0 k x0 (wrap64 (x5 - 1)) (x9.set (x5 : Int).toNat false)) else (none)))) else (none)) else (none)) else (none)) else (none)) else (some x9)
def sais_Types.f (k : Nat) (l0 : List Int) : Option (List Bool) := if 0 ≤ (l0.length : Int) then (if ((l0.length : Int) : Int).toNat ≤ 281474976710656 then (sais_Types.l0 k l0 (wrap64 ((l0.length : Int) - 2)) (List.replicate ((l0.length : Int) : Int).toNat false)) else (none)) else (none)
theorem sais_Types.mono_l : ∀ k, (∀ y0 y1 y2, LeO (sais_Types.l0 k y0 y1 y2) (sais_Types.l0 (k + 1) y0 y1 y2))
 | 0 => fun _ _ _ r h => by simp [sais_Types.l0] at h
 | k + 1 => by
  have ih0 := sais_Types.mono_l k
  ·intro y0 y1 y2
   unfold sais_Types.l0
   repeat' first
   | (with_reducible exact ih0 _ _ _)
   | (with_reducible exact LeO.refl _)
   | (with_reducible exact LeO.none _)
   | (with_reducible refine LeO.ite ?_ ?_)
   | (with_reducible refine LeO.bind ?_ (fun _ => ?_))
   | exact ih0 _ _ _
   | exact LeO.none _
   | refine LeO.ite ?_ ?_
   | refine LeO.bind ?_ (fun _ => ?_)
theorem sais_Types.mono : ∀ a0 k, LeO (sais_Types.f k a0) (sais_Types.f (k + 1) a0) := by
 intro a0 k
 have ih0 := sais_Types.mono_l k
 unfold sais_Types.f
 repeat' first
   | (with_reducible exact ih0 _ _ _)
   | (with_reducible exact LeO.refl _)
   | (with_reducible exact LeO.none _)
   | (with_reducible refine LeO.ite ?_ ?_)
   | (with_reducible refine LeO.bind ?_ (fun _ => ?_))
   | exact ih0 _ _ _
   | exact LeO.none _
   | refine LeO.ite ?_ ?_
   | refine LeO.bind ?_ (fun _ => ?_)
def sais_Types.T6 : Bool × List (List Nat × List Nat) := (true, [([], []), ([], []), ([], []), ([], []), ([2, 3], [2, 3]), ([4], [4]), ([], []), ([], []), ([7], [7]), ([6, 8], [6, 8]), ([9], [9]), ([5, 10], [5, 10]), ([11], [11]), ([12], [12]), ([12], [12]), ([13, 14, 12], [12, 13, 14]), ([15, 12], [12, 15]), ([12], [12]), ([12], [12]), ([18, 12], [12, 18]), ([17, 19, 12], [12, 17, 19]), ([20, 12], [12, 20]), ([16, 21, 12], [12, 16, 21]), ([22, 12, 12], [12, 22]), ([23], [23]), ([23], [23]), ([25, 23], [23, 25]), ([24, 26, 23], [23, 24, 26]), ([27, 23], [23, 27]), ([23, 28, 12], [12, 23, 28]), ([12, 29], [12, 29]), ([0, 1, 0, 1, 2, 3, 4, 5, 6, 7, 8, 9, 10, 11, 12, 13, 14, 15, 16, 17, 18, 19, 20, 21, 22, 23, 24, 25, 26, 27, 28, 29, 30], [0, 1]), ([31, 30, 23, 0, 1, 2, 3, 4, 5, 6, 7, 8, 9, 10, 11, 12, 13, 14, 15, 16, 17, 18, 19, 20, 21, 22, 23, 24, 25, 26, 27, 28, 29, 30], [30, 31])])
def sais_Types.B6 : List Nat := [0, 0, 0, 0, 12, 28, 0, 0, 128, 448, 960, 2044, 4092, 8188, 8188, 32764, 65532, 8188, 8188, 270332, 925692, 1974268, 4194300, 8388604, 16777212, 16777212, 50331644, 134217724, 268435452, 536870908, 1073741820, 2147483647, 4294967295]
theorem sais_Types.tab6 : rtab .any (opsOf Try.f58 6) = sais_Types.T6 := by kernel_rfl
theorem sais_Types.bits6 : waitsOk sais_Types.T6.2 sais_Types.B6 = true := by kernel_rfl
set_option maxHeartbeats 8000000 in
set_option maxRecDepth 100000 in
theorem sais_Types.calls (k : Nat) (A0 : Option Addr) (c0 : Nat) (l0 : List Int) (r : List Bool) (w : World) (hr0 : Kd.C (Kd.int .i64) w A0 l0.length l0) (hc0 : l0.length ≤ c0) (h : sais_Types.f k l0 = some r) :
  Calls Try.prog 58 #[.slice A0 l0.length c0] w fun e w' => ∃ v0_ : Value, e = .returned (v0_) ∧ Kd.R Kd.bool 4 w' w.heap.size (fun _ => True) v0_ r ∧ Below w.heap.size w w' := by
 have HR0 := Aside0.mk hr0; have HC0 := Aside0.mk hc0; clear hr0 hc0; have HB := Aside0.mk (Below.refl w.heap.size w); have H : (if 0 ≤ (l0.length : Int) then (if ((l0.length : Int) : Int).toNat ≤ 281474976710656 then (sais_Types.l0 k l0 (wrap64 ((l0.length : Int) - 2)) (List.replicate ((l0.length : Int) : Int).toNat false)) else (none)) else (none)) = some r := h; clear h
 by_cases c2 : 0 ≤ (l0.length : Int)
 ·rw [if_pos c2] at H
  have c2b0 := eq_true c2; have c2b1 : decide (0 ≤ (l0.length : Int)) = true := decide_eq_true c2; clear c2
  by_cases c3 : ((l0.length : Int) : Int).toNat ≤ 281474976710656
  ·rw [if_pos c3] at H
   have c3b0 := eq_true c3; have c3b1 : decide (((l0.length : Int) : Int).toNat ≤ 281474976710656) = true := decide_eq_true c3; clear c3; obtain ⟨y102, hy102⟩ : ∃ y_ : List Bool, y_ = (List.replicate ((l0.length : Int) : Int).toNat false) := ⟨_, rfl⟩
   replace H : (sais_Types.l0 k l0 (wrap64 ((l0.length : Int) - 2)) y102) = some r := by first | (rw [hy102]; with_reducible exact H) | (have H2_ := (Option.bind_some _ _).symm.trans H; rw [hy102]; with_reducible exact H2_) | (have H2_ := (Option.bind_some _ _).symm.trans H; with_reducible exact H2_) | with_reducible exact H | (rw [hy102]; exact H) | exact H
   have Ny102 := Aside0.mk hy102; clear hy102; have H' := Aside0.mk H; clear H
   go_enter Try.func58, Try.ntmps58
   go_wp2_with (first | (refine gate_dst (N := 9) rfl ?_; refine Kd.R_make Kd.bool _ 4 rfl (N := 9) rfl 83 _ _ rfl (l0.length : Int) rfl rfl Try.underlying83 (.bool false) 1 info4 rfl (by decide) (by omega) false (ok := fun _ => True) (okp := fun _ => True) rfl (fun _ hk => hk) trivial (Qt) (Nat.le_trans (Nat.mul_le_mul_right _ (Qt : (l0.length : Int).toNat ≤ 281474976710656)) (by omega)) (Below.refl _ _) (Nat.le_refl _) ?_; intro v103 w4 ho5 hb hg_ hnew_; clear hg_ hnew_; (first | rw [← Ny102.out] at ho5 | (simp only [Int.reduceToNat] at ho5; rw [← Ny102.out] at ho5)); have n0_ := Aside0.mk (Kd.R_lower ho5 (below_size HB.out)); have n1_ := Aside0.mk (below_step HB.out hb); clear HB; have HO104 := n0_; have HB := n1_; clear n0_ n1_; clear hb ho5))
   go_loopg [5] k (fun kq v5 w' => ∃ (x5_1 : Int) (x9_1 : List Bool), v5 = .int .i64 x5_1 ∧ Aside0 (sais_Types.l0 kq l0 x5_1 x9_1 = some r) ∧ Aside0 (kq ≤ k) ∧ Aside0 (Kd.R Kd.bool 4 w' w.heap.size (fun _ => True) v103 x9_1) ∧ Aside0 (Below w.heap.size w w'))
   case atStart => exact ⟨(wrap64 ((l0.length : Int) - 2)), (y102), (rfl), H', ⟨Nat.le_refl _⟩, ⟨by (with_reducible repeat first|apply Qa|apply Qb|apply Qc); exact HO104.out⟩, ⟨HB.out⟩⟩
   case round =>
    clear H'; obtain ⟨x5_1, x9_1, rfl, HA, HK1, HO_9, HB⟩ := hrel
    cases gk with
    | zero => exact absurd HA.out (by simp [sais_Types.l0])
    | succ k1 =>
     have H := HA.out; clear HA; simp only [sais_Types.l0] at H
     by_cases c6 : x5_1 ≥ 0
     ·rw [if_pos c6] at H
      have c6b0 : decide (0 ≤ x5_1) = true := decide_eq_true c6; clear c6
      by_cases c7 : 0 ≤ x5_1
      ·rw [if_pos c7] at H
       have c7b0 : decide (0 ≤ x5_1) = true := decide_eq_true c7; clear c7
       by_cases c8 : x5_1 < (l0.length : Int)
       ·rw [if_pos c8] at H
        have c8b0 : decide (x5_1 < (l0.length : Int)) = true := decide_eq_true c8; clear c8; obtain ⟨ji9, hji9⟩ : ∃ j_ : Int, (wrap64 (x5_1 + 1)) = j_ := ⟨_, rfl⟩
        replace H : (if 0 ≤ (ji9) then (if (ji9) < (l0.length : Int) then (if (rd l0 x5_1) < (rd l0 (ji9)) then (if x5_1 < (x9_1.length : Int) then (sais_Types.l0 k1 l0 (wrap64 (x5_1 - 1)) (x9_1.set (x5_1 : Int).toNat true)) else (none)) else (if (rd l0 x5_1) = (rd l0 (ji9)) then (if (ji9) < (x9_1.length : Int) then (if x5_1 < (x9_1.length : Int) then (sais_Types.l0 k1 l0 (wrap64 (x5_1 - 1)) (x9_1.set (x5_1 : Int).toNat (rdOf false x9_1 (ji9)))) else (none)) else (none)) else (if x5_1 < (x9_1.length : Int) then (sais_Types.l0 k1 l0 (wrap64 (x5_1 - 1)) (x9_1.set (x5_1 : Int).toNat false)) else (none)))) else (none)) else (none)) = some r := by first | (rw [hji9] at H; exact H) | (simp only [hji9] at H ⊢; exact H)
        have hji9w : (IntKind.i64.wrap (x5_1 + 1)) = ji9 := (i64_w _).trans hji9
        by_cases c10 : 0 ≤ (ji9)
        ·rw [if_pos c10] at H
         have c10b0 : decide (0 ≤ (ji9)) = true := decide_eq_true c10; clear c10
         by_cases c11 : (ji9) < (l0.length : Int)
         ·rw [if_pos c11] at H
          have c11b0 : decide ((ji9) < (l0.length : Int)) = true := decide_eq_true c11; clear c11
          by_cases c12 : (rd l0 x5_1) < (rd l0 (ji9))
          ·rw [if_pos c12] at H
           have c12b0 : decide ((rd l0 x5_1) < (rd l0 (ji9))) = true := decide_eq_true c12; clear c12
           by_cases c13 : x5_1 < (x9_1.length : Int)
           ·rw [if_pos c13] at H
            have c13b0 : decide (x5_1 < (x9_1.length : Int)) = true := decide_eq_true c13; clear c13; obtain ⟨y107, hy107⟩ : ∃ y_ : List Bool, y_ = (x9_1.set (x5_1 : Int).toNat true) := ⟨_, rfl⟩
            replace H : (sais_Types.l0 k1 l0 (wrap64 (x5_1 - 1)) y107) = some r := by first | (rw [hy107]; with_reducible exact H) | (have H2_ := (Option.bind_some _ _).symm.trans H; rw [hy107]; with_reducible exact H2_) | (have H2_ := (Option.bind_some _ _).symm.trans H; with_reducible exact H2_) | with_reducible exact H | (rw [hy107]; exact H) | exact H
            have Ny107 := Aside0.mk hy107; clear hy107; have H' := Aside0.mk H; clear H; (try go_wp2); have n0_ := Aside0.mk (Kd.R_drew HO_9.out); have n1_ := Aside0.mk (below_drew1 HB.out); clear HO_9; clear HB; have HO_9 := n0_; have HB := n1_; clear n0_ n1_; have p105 : 0 ≤ (x5_1 : Int) := Qt; have q105 : x5_1 < (l0.length : Int) := Qt; obtain ⟨ad105, e105, hx105_0⟩ := Kd.at_int HR0.out x5_1 p105 q105; have hw105_0 := hx105_0; cases e105; replace hx105_0 := (HB.out.cell (World.block_lt_of_cell? w _ hx105_0)).trans hx105_0; replace p105 := eq_true p105; replace q105 := eq_true q105; have p106 : 0 ≤ ((ji9) : Int) := Qt; have q106 : (ji9) < (l0.length : Int) := Qt; obtain ⟨ad106, e106, hx106_0⟩ := Kd.at_int HR0.out (ji9) p106 q106; have hw106_0 := hx106_0; obtain rfl : ad105 = ad106 := (by injection e106); replace hx106_0 := (HB.out.cell (World.block_lt_of_cell? w _ hx106_0)).trans hx106_0; replace p106 := eq_true p106; replace q106 := eq_true q106; have p14 : 0 ≤ (x5_1 : Int) := Qt; have q14 : (x5_1 : Int) < ((x9_1.length : Int) : Int) := Qt; obtain ⟨go14, co14, eo14, gb14, gl14, cl14, HG14⟩ := Kd.R_form HO_9.out (by omega)
            (first | cases eo14 | (injection eo14 with ea_ en_ ec_; (first | subst ea_ | (injection ea_ with ea_; subst ea_)); subst ec_; clear en_))
            have GB14 := Aside0.mk gb14; have GG14 := Aside0.mk HG14; clear gb14 gl14 HG14; obtain ⟨hx14_0, hf14_0⟩ := Kd.R_celln false HO_9.out (x5_1 : Int) p14 q14; replace p14 := eq_true p14; replace q14 := eq_true q14; have HP16 := Kd.R_putn HO_9.out (x5_1 : Int) true; rw [← Ny107.out] at HP16; have HQ16 := Aside0.mk HP16; clear HP16; refine start_ (n := 33) (S := fun w' => w'.cell? (ad105.add (x5_1).toNat) = some (.int .i64 (rd l0 x5_1)) ∧ w'.cell? (ad105.add ((ji9)).toNat) = some (.int .i64 (rd l0 (ji9)))) (ds := [32]) (bA 33 0) (by kernel_rfl) rfl rfl ⟨((HB.out.cell (World.block_lt_of_cell? w _ hw105_0)).trans hw105_0), ((HB.out.cell (World.block_lt_of_cell? w _ hw106_0)).trans hw106_0)⟩ (fun hHeld => ?_); refine with_tabW sais_Types.tab6 sais_Types.bits6 (fun HT_ HW_ => ?_); generalize wr.drew = w15 at HO_9 HB GG14 HQ16 hf14_0 hx105_0 hx106_0 hx14_0 hHeld ⊢; refine pureQ 0 16 33 1 HT_.out ?_ ?_ ?_ ?_ ?_; rotate_left; (· (intro w'; go_simp; (with_reducible rfl))); rotate_left; (· (simp only [Qs]; rfl)); refine pureQ 1 17 33 3 HT_.out ?_ ?_ ?_ ?_ ?_; rotate_left; (· (intro w'; go_simp; (with_reducible rfl))); rotate_left; (· (simp only [Qs]; rfl)); refine pureQ 2 18 33 7 HT_.out ?_ ?_ ?_ ?_ ?_; rotate_left; (· (intro w'; go_simp; (with_reducible rfl))); rotate_left; (· (simp only [Qs]; rfl)); refine pureQ 3 19 33 15 HT_.out ?_ ?_ ?_ ?_ ?_; rotate_left; (· (intro w'; go_simp; (with_reducible rfl))); rotate_left; (· (simp only [Qs]; rfl)); refine pureQ 4 20 33 31 HT_.out ?_ ?_ ?_ ?_ ?_; rotate_left; (· (intro w'; go_simp; (with_reducible rfl))); rotate_left; (· (simp only [Qs]; rfl)); refine pureQ 6 22 33 95 HT_.out ?_ ?_ ?_ ?_ ?_; rotate_left; (· (intro w'; go_simp; (with_reducible rfl))); rotate_left; (· (simp only [Qs]; rfl)); refine pureQ 7 23 33 223 HT_.out ?_ ?_ ?_ ?_ ?_; rotate_left; (· (intro w'; go_simp; (with_reducible rfl))); rotate_left; (· (simp only [Qs]; rfl)); refine pureQ 8 24 33 479 HT_.out ?_ ?_ ?_ ?_ ?_; rotate_left; (· (intro w'; go_simp; (with_reducible rfl))); rotate_left; (· (simp only [Qs]; rfl)); refine pureQ 9 25 33 991 HT_.out ?_ ?_ ?_ ?_ ?_; rotate_left; (· (intro w'; go_simp; (with_reducible rfl))); rotate_left; (· (simp only [Qs]; rfl)); refine takeQ 5 21 33 1023 HT_.out HW_.out hHeld ?_ ?_ ?_ ?_ ?_; rotate_left; (· (rintro w' ⟨s0, s1⟩; go_simp; (with_reducible rfl))); rotate_left; (· (simp only [Qs]; rfl)); refine takeQ 10 26 33 2047 HT_.out HW_.out hHeld ?_ ?_ ?_ ?_ ?_; rotate_left; (· (rintro w' ⟨s0, s1⟩; go_simp; (with_reducible rfl))); rotate_left; (· (simp only [Qs]; rfl)); refine pureQ 11 27 33 4095 HT_.out ?_ ?_ ?_ ?_ ?_; rotate_left; (· (intro w'; go_simp; (with_reducible rfl))); rotate_left; (· (simp only [Qs]; rfl)); refine pureQ 12 28 33 8191 HT_.out ?_ ?_ ?_ ?_ ?_; rotate_left; (· (intro w'; go_simp; (with_reducible rfl))); rotate_left; (· (simp only [Qs]; rfl)); refine pureU 13 29 33 16383 HT_.out ?_ ?_ ?_; rotate_left; (· (simp only [Qs]; rfl)); refine pureU 14 30 33 32767 HT_.out ?_ ?_ ?_; rotate_left; (· (simp only [Qs]; rfl)); refine pureU 15 31 33 65535 HT_.out ?_ ?_ ?_; rotate_left; (· (simp only [Qs]; rfl)); refine pureU 16 32 33 131071 HT_.out ?_ ?_ ?_; rotate_left; (· (simp only [Qs]; rfl)); refine pureU 17 33 33 262143 HT_.out ?_ ?_ ?_; rotate_left; (· (simp only [Qs]; rfl)); refine pureU 18 34 33 524287 HT_.out ?_ ?_ ?_; rotate_left; (· (simp only [Qs]; rfl)); refine pureU 19 35 33 1048575 HT_.out ?_ ?_ ?_; rotate_left; (· (simp only [Qs]; rfl)); refine pureU 20 36 33 2097151 HT_.out ?_ ?_ ?_; rotate_left; (· (simp only [Qs]; rfl)); refine pureU 21 37 33 4194303 HT_.out ?_ ?_ ?_; rotate_left; (· (simp only [Qs]; rfl)); refine pureU 22 38 33 8388607 HT_.out ?_ ?_ ?_; rotate_left; (· (simp only [Qs]; rfl)); refine pureU 23 39 33 16777215 HT_.out ?_ ?_ ?_; rotate_left; (· (simp only [Qs]; rfl)); refine pureU 24 40 33 33554431 HT_.out ?_ ?_ ?_; rotate_left; (· (simp only [Qs]; rfl))
            refine pureU 25 41 33 67108863 HT_.out ?_ ?_ ?_; rotate_left; (· (simp only [Qs]; rfl)); refine pureU 26 42 33 134217727 HT_.out ?_ ?_ ?_; rotate_left; (· (simp only [Qs]; rfl)); refine pureU 27 43 33 268435455 HT_.out ?_ ?_ ?_; rotate_left; (· (simp only [Qs]; rfl)); refine pureU 28 44 33 536870911 HT_.out ?_ ?_ ?_; rotate_left; (· (simp only [Qs]; rfl)); refine pureU 29 45 33 1073741823 HT_.out ?_ ?_ ?_; rotate_left; (· (simp only [Qs]; rfl)); refine pureQ 30 46 33 2147483647 HT_.out ?_ ?_ ?_ ?_ ?_; rotate_left; (· (intro w'; go_simp; (with_reducible rfl))); rotate_left; (· (simp only [Qs]; rfl)); refine pureQ 31 47 33 4294967295 HT_.out ?_ ?_ ?_ ?_ ?_; rotate_left; (· (intro w'; go_simp; (with_reducible rfl))); rotate_left; (· (simp only [Qs]; rfl)); refine last_ (i := 32) (N := none) (bA 33 8589934591) rfl rfl (one_of HT_.out (by kernel_rfl)) (by decide) (fun K hK => ?_); refine skip_ (w1 := ?_) (rfl) rfl ?_ ?_; rotate_left; (· (go_simp; rfl)); refine hK.out _ _ ?_; clear hK K; refine done_ (done_of HT_.out (by kernel_rfl)) ?_; (try go_wp2)
            go_roundg k1
            case measure => have := HK1.out; omega
            case rel => exact ⟨(wrap64 (x5_1 - 1)), (y107), (by first | rfl | (simp; done) | (simp [*]; done)), H', ⟨by have := HK1.out; omega⟩, ⟨by (with_reducible repeat first|apply Qa|apply Qb|apply Qc); exact HQ16.out⟩, ⟨by repeat (first | (with_reducible first | exact HB.out | apply below_alloc | apply pw_below_drewN | apply below_drew1 | refine below_set ?_ GB14.out) | exact HB.out)⟩⟩
           (· (rw [if_neg c13] at H; exact absurd H (by simp)))
          ·rw [if_neg c12] at H
           have c12b0 : decide ((rd l0 x5_1) < (rd l0 (ji9))) = false := decide_eq_false c12; clear c12
           by_cases c17 : (rd l0 x5_1) = (rd l0 (ji9))
           ·rw [if_pos c17] at H
            have c17b0 : ((rd l0 x5_1) == (rd l0 (ji9))) = true := beq_iff_eq.mpr c17; have c17b1 : ((rd l0 x5_1) != (rd l0 (ji9))) = false := bne_eq_false_iff_eq.mpr c17; clear c17
            by_cases c18 : (ji9) < (x9_1.length : Int)
            ·rw [if_pos c18] at H
             have c18b0 : decide ((ji9) < (x9_1.length : Int)) = true := decide_eq_true c18; clear c18
             by_cases c19 : x5_1 < (x9_1.length : Int)
             ·rw [if_pos c19] at H
              have c19b0 : decide (x5_1 < (x9_1.length : Int)) = true := decide_eq_true c19; clear c19; obtain ⟨y111, hy111⟩ : ∃ y_ : List Bool, y_ = (x9_1.set (x5_1 : Int).toNat (rdOf false x9_1 (ji9))) := ⟨_, rfl⟩
              replace H : (sais_Types.l0 k1 l0 (wrap64 (x5_1 - 1)) y111) = some r := by first | (rw [hy111]; with_reducible exact H) | (have H2_ := (Option.bind_some _ _).symm.trans H; rw [hy111]; with_reducible exact H2_) | (have H2_ := (Option.bind_some _ _).symm.trans H; with_reducible exact H2_) | with_reducible exact H | (rw [hy111]; exact H) | exact H
              have Ny111 := Aside0.mk hy111; clear hy111; have H' := Aside0.mk H; clear H; (try go_wp2); have n0_ := Aside0.mk (Kd.R_drew HO_9.out); have n1_ := Aside0.mk (below_drew1 HB.out); clear HO_9; clear HB; have HO_9 := n0_; have HB := n1_; clear n0_ n1_; have p105 : 0 ≤ (x5_1 : Int) := Qt; have q105 : x5_1 < (l0.length : Int) := Qt; obtain ⟨ad105, e105, hx105_0⟩ := Kd.at_int HR0.out x5_1 p105 q105; have hw105_0 := hx105_0; cases e105; replace hx105_0 := (HB.out.cell (World.block_lt_of_cell? w _ hx105_0)).trans hx105_0; replace p105 := eq_true p105; replace q105 := eq_true q105; have p106 : 0 ≤ ((ji9) : Int) := Qt; have q106 : (ji9) < (l0.length : Int) := Qt; obtain ⟨ad106, e106, hx106_0⟩ := Kd.at_int HR0.out (ji9) p106 q106; have hw106_0 := hx106_0; obtain rfl : ad105 = ad106 := (by injection e106); replace hx106_0 := (HB.out.cell (World.block_lt_of_cell? w _ hx106_0)).trans hx106_0; replace p106 := eq_true p106; replace q106 := eq_true q106; have p108 : 0 ≤ (x5_1 : Int) := Qt; have q108 : x5_1 < (l0.length : Int) := Qt; obtain ⟨ad108, e108, hx108_0⟩ := Kd.at_int HR0.out x5_1 p108 q108; have hw108_0 := hx108_0; obtain rfl : ad105 = ad108 := (by injection e108); replace hx108_0 := (HB.out.cell (World.block_lt_of_cell? w _ hx108_0)).trans hx108_0; replace p108 := eq_true p108; replace q108 := eq_true q108; have p109 : 0 ≤ ((ji9) : Int) := Qt; have q109 : (ji9) < (l0.length : Int) := Qt; obtain ⟨ad109, e109, hx109_0⟩ := Kd.at_int HR0.out (ji9) p109 q109; have hw109_0 := hx109_0; obtain rfl : ad105 = ad109 := (by injection e109); replace hx109_0 := (HB.out.cell (World.block_lt_of_cell? w _ hx109_0)).trans hx109_0; replace p109 := eq_true p109; replace q109 := eq_true q109; obtain ⟨Ao22, co22, eo22⟩ := Kd.R_slice HO_9.out
              (first | subst eo22 | (injection eo22 with f1_ f2_ f3_; have f4_ := f1_.symm; have f5_ := f3_.symm; clear f1_ f2_ f3_; subst f4_; subst f5_))
              have p110 : 0 ≤ ((ji9) : Int) := Qt; have q110 : (ji9) < (x9_1.length : Int) := Qt; obtain ⟨ad110, e110, hx110_0⟩ := Kd.at_bool (Kd.R_reads' HO_9.out).2.2 (ji9) p110 q110; cases e110; replace p110 := eq_true p110; replace q110 := eq_true q110; have p20 : 0 ≤ (x5_1 : Int) := Qt; have q20 : (x5_1 : Int) < ((x9_1.length : Int) : Int) := Qt; obtain ⟨go20, co20, eo20, gb20, gl20, cl20, HG20⟩ := Kd.R_form HO_9.out (by omega)
              (first | cases eo20 | (injection eo20 with ea_ en_ ec_; (first | subst ea_ | (injection ea_ with ea_; subst ea_)); subst ec_; clear en_))
              have GB20 := Aside0.mk gb20; have GG20 := Aside0.mk HG20; clear gb20 gl20 HG20
              (first | simp only [add_plain] at hx110_0 | skip)
              obtain ⟨hx20_0, hf20_0⟩ := Kd.R_celln false HO_9.out (x5_1 : Int) p20 q20; replace p20 := eq_true p20; replace q20 := eq_true q20; have HP23 := Kd.R_putn HO_9.out (x5_1 : Int) (rdOf false x9_1 (ji9)); rw [← Ny111.out] at HP23; have HQ23 := Aside0.mk HP23; clear HP23; refine start_ (n := 33) (S := fun w' => w'.cell? (ad105.add (x5_1).toNat) = some (.int .i64 (rd l0 x5_1)) ∧ w'.cell? (ad105.add ((ji9)).toNat) = some (.int .i64 (rd l0 (ji9))) ∧ w'.cell? (ad105.add (x5_1).toNat) = some (.int .i64 (rd l0 x5_1)) ∧ w'.cell? (ad105.add ((ji9)).toNat) = some (.int .i64 (rd l0 (ji9))) ∧ w'.cell? ⟨go20, ((ji9)).toNat, none⟩ = some (.bool (rdOf false x9_1 (ji9)))) (ds := [32]) (bA 33 0) (by kernel_rfl) rfl rfl ⟨((HB.out.cell (World.block_lt_of_cell? w _ hw105_0)).trans hw105_0), ((HB.out.cell (World.block_lt_of_cell? w _ hw106_0)).trans hw106_0), ((HB.out.cell (World.block_lt_of_cell? w _ hw108_0)).trans hw108_0), ((HB.out.cell (World.block_lt_of_cell? w _ hw109_0)).trans hw109_0), hx110_0⟩ (fun hHeld => ?_); refine with_tabW sais_Types.tab6 sais_Types.bits6 (fun HT_ HW_ => ?_); generalize wr.drew = w21 at HO_9 HB GG20 HQ23 hf20_0 hx105_0 hx106_0 hx108_0 hx109_0 hx110_0 hx20_0 hHeld ⊢; refine pureQ 0 16 33 1 HT_.out ?_ ?_ ?_ ?_ ?_; rotate_left; (· (intro w'; go_simp; (with_reducible rfl))); rotate_left; (· (simp only [Qs]; rfl)); refine pureQ 1 17 33 3 HT_.out ?_ ?_ ?_ ?_ ?_; rotate_left; (· (intro w'; go_simp; (with_reducible rfl))); rotate_left; (· (simp only [Qs]; rfl)); refine pureQ 2 18 33 7 HT_.out ?_ ?_ ?_ ?_ ?_; rotate_left; (· (intro w'; go_simp; (with_reducible rfl))); rotate_left; (· (simp only [Qs]; rfl)); refine pureQ 3 19 33 15 HT_.out ?_ ?_ ?_ ?_ ?_; rotate_left; (· (intro w'; go_simp; (with_reducible rfl))); rotate_left; (· (simp only [Qs]; rfl)); refine pureQ 4 20 33 31 HT_.out ?_ ?_ ?_ ?_ ?_; rotate_left; (· (intro w'; go_simp; (with_reducible rfl))); rotate_left; (· (simp only [Qs]; rfl)); refine pureQ 6 22 33 95 HT_.out ?_ ?_ ?_ ?_ ?_; rotate_left; (· (intro w'; go_simp; (with_reducible rfl))); rotate_left; (· (simp only [Qs]; rfl)); refine pureQ 7 23 33 223 HT_.out ?_ ?_ ?_ ?_ ?_; rotate_left; (· (intro w'; go_simp; (with_reducible rfl))); rotate_left; (· (simp only [Qs]; rfl)); refine pureQ 8 24 33 479 HT_.out ?_ ?_ ?_ ?_ ?_; rotate_left; (· (intro w'; go_simp; (with_reducible rfl))); rotate_left; (· (simp only [Qs]; rfl)); refine pureQ 9 25 33 991 HT_.out ?_ ?_ ?_ ?_ ?_; rotate_left; (· (intro w'; go_simp; (with_reducible rfl))); rotate_left; (· (simp only [Qs]; rfl)); refine takeQ 5 21 33 1023 HT_.out HW_.out hHeld ?_ ?_ ?_ ?_ ?_; rotate_left; (· (rintro w' ⟨s0, s1, s2, s3, s4⟩; go_simp; (with_reducible rfl))); rotate_left; (· (simp only [Qs]; rfl)); refine takeQ 10 26 33 2047 HT_.out HW_.out hHeld ?_ ?_ ?_ ?_ ?_; rotate_left; (· (rintro w' ⟨s0, s1, s2, s3, s4⟩; go_simp; (with_reducible rfl))); rotate_left; (· (simp only [Qs]; rfl)); refine pureQ 11 27 33 4095 HT_.out ?_ ?_ ?_ ?_ ?_; rotate_left; (· (intro w'; go_simp; (with_reducible rfl))); rotate_left; (· (simp only [Qs]; rfl)); refine pureQ 12 28 33 8191 HT_.out ?_ ?_ ?_ ?_ ?_; rotate_left; (· (intro w'; go_simp; (with_reducible rfl))); rotate_left; (· (simp only [Qs]; rfl)); refine pureQ 13 29 33 16383 HT_.out ?_ ?_ ?_ ?_ ?_; rotate_left; (· (intro w'; go_simp; (with_reducible rfl))); rotate_left; (· (simp only [Qs]; rfl)); refine pureQ 14 30 33 32767 HT_.out ?_ ?_ ?_ ?_ ?_; rotate_left; (· (intro w'; go_simp; (with_reducible rfl))); rotate_left; (· (simp only [Qs]; rfl)); refine pureQ 15 31 33 65535 HT_.out ?_ ?_ ?_ ?_ ?_; rotate_left; (· (intro w'; go_simp; (with_reducible rfl))); rotate_left; (· (simp only [Qs]; rfl)); refine pureQ 17 33 33 196607 HT_.out ?_ ?_ ?_ ?_ ?_; rotate_left; (· (intro w'; go_simp; (with_reducible rfl))); rotate_left; (· (simp only [Qs]; rfl)); refine pureQ 18 34 33 458751 HT_.out ?_ ?_ ?_ ?_ ?_; rotate_left; (· (intro w'; go_simp; (with_reducible rfl))); rotate_left; (· (simp only [Qs]; rfl)); refine pureQ 19 35 33 983039 HT_.out ?_ ?_ ?_ ?_ ?_; rotate_left; (· (intro w'; go_simp; (with_reducible rfl))); rotate_left; (· (simp only [Qs]; rfl)); refine pureQ 20 36 33 2031615 HT_.out ?_ ?_ ?_ ?_ ?_; rotate_left; (· (intro w'; go_simp; (with_reducible rfl))); rotate_left; (· (simp only [Qs]; rfl)); refine takeQ 16 32 33 2097151 HT_.out HW_.out hHeld ?_ ?_ ?_ ?_ ?_; rotate_left; (· (rintro w' ⟨s0, s1, s2, s3, s4⟩; go_simp; (with_reducible rfl))); rotate_left; (· (simp only [Qs]; rfl)); refine takeQ 21 37 33 4194303 HT_.out HW_.out hHeld ?_ ?_ ?_ ?_ ?_; rotate_left; (· (rintro w' ⟨s0, s1, s2, s3, s4⟩; go_simp; (with_reducible rfl))); rotate_left
              (· (simp only [Qs]; rfl)); refine pureQ 22 38 33 8388607 HT_.out ?_ ?_ ?_ ?_ ?_; rotate_left; (· (intro w'; go_simp; (with_reducible rfl))); rotate_left; (· (simp only [Qs]; rfl)); refine pureQ 23 39 33 16777215 HT_.out ?_ ?_ ?_ ?_ ?_; rotate_left; (· (intro w'; go_simp; (with_reducible rfl))); rotate_left; (· (simp only [Qs]; rfl)); refine pureQ 24 40 33 33554431 HT_.out ?_ ?_ ?_ ?_ ?_; rotate_left; (· (intro w'; go_simp; (with_reducible rfl))); rotate_left; (· (simp only [Qs]; rfl)); refine pureQ 25 41 33 67108863 HT_.out ?_ ?_ ?_ ?_ ?_; rotate_left; (· (intro w'; go_simp; (with_reducible rfl))); rotate_left; (· (simp only [Qs]; rfl)); refine pureQ 26 42 33 134217727 HT_.out ?_ ?_ ?_ ?_ ?_; rotate_left; (· (intro w'; go_simp; (with_reducible rfl))); rotate_left; (· (simp only [Qs]; rfl)); refine pureQ 27 43 33 268435455 HT_.out ?_ ?_ ?_ ?_ ?_; rotate_left; (· (intro w'; go_simp; (with_reducible rfl))); rotate_left; (· (simp only [Qs]; rfl)); refine takeQ 28 44 33 536870911 HT_.out HW_.out hHeld ?_ ?_ ?_ ?_ ?_; rotate_left; (· (rintro w' ⟨s0, s1, s2, s3, s4⟩; go_simp; (with_reducible rfl))); rotate_left; (· (simp only [Qs]; rfl)); refine pureQ 29 45 33 1073741823 HT_.out ?_ ?_ ?_ ?_ ?_; rotate_left; (· (intro w'; go_simp; (with_reducible rfl))); rotate_left; (· (simp only [Qs]; rfl)); refine pureQ 30 46 33 2147483647 HT_.out ?_ ?_ ?_ ?_ ?_; rotate_left; (· (intro w'; go_simp; (with_reducible rfl))); rotate_left; (· (simp only [Qs]; rfl)); refine pureQ 31 47 33 4294967295 HT_.out ?_ ?_ ?_ ?_ ?_; rotate_left; (· (intro w'; go_simp; (with_reducible rfl))); rotate_left; (· (simp only [Qs]; rfl)); refine last_ (i := 32) (N := none) (bA 33 8589934591) rfl rfl (one_of HT_.out (by kernel_rfl)) (by decide) (fun K hK => ?_); refine skip_ (w1 := ?_) (rfl) rfl ?_ ?_; rotate_left; (· (go_simp; rfl)); refine hK.out _ _ ?_; clear hK K; refine done_ (done_of HT_.out (by kernel_rfl)) ?_; (try go_wp2)
              go_roundg k1
              case measure => have := HK1.out; omega
              case rel => exact ⟨(wrap64 (x5_1 - 1)), (y111), (by first | rfl | (simp; done) | (simp [*]; done)), H', ⟨by have := HK1.out; omega⟩, ⟨by (with_reducible repeat first|apply Qa|apply Qb|apply Qc); exact HQ23.out⟩, ⟨by repeat (first | (with_reducible first | exact HB.out | apply below_alloc | apply pw_below_drewN | apply below_drew1 | refine below_set ?_ GB20.out) | exact HB.out)⟩⟩
             (· (rw [if_neg c19] at H; exact absurd H (by simp)))
            (· (rw [if_neg c18] at H; exact absurd H (by simp)))
           ·rw [if_neg c17] at H
            have c17b0 : ((rd l0 x5_1) == (rd l0 (ji9))) = false := beq_eq_false_iff_ne.mpr c17; have c17b1 : ((rd l0 x5_1) != (rd l0 (ji9))) = true := bne_iff_ne.mpr c17
            by_cases c24 : x5_1 < (x9_1.length : Int)
            ·rw [if_pos c24] at H
             have c24b0 : decide (x5_1 < (x9_1.length : Int)) = true := decide_eq_true c24; clear c24; obtain ⟨y112, hy112⟩ : ∃ y_ : List Bool, y_ = (x9_1.set (x5_1 : Int).toNat false) := ⟨_, rfl⟩
             replace H : (sais_Types.l0 k1 l0 (wrap64 (x5_1 - 1)) y112) = some r := by first | (rw [hy112]; with_reducible exact H) | (have H2_ := (Option.bind_some _ _).symm.trans H; rw [hy112]; with_reducible exact H2_) | (have H2_ := (Option.bind_some _ _).symm.trans H; with_reducible exact H2_) | with_reducible exact H | (rw [hy112]; exact H) | exact H
             have Ny112 := Aside0.mk hy112; clear hy112; have H' := Aside0.mk H; clear H; (try go_wp2); have n0_ := Aside0.mk (Kd.R_drew HO_9.out); have n1_ := Aside0.mk (below_drew1 HB.out); clear HO_9; clear HB; have HO_9 := n0_; have HB := n1_; clear n0_ n1_; have p105 : 0 ≤ (x5_1 : Int) := Qt; have q105 : x5_1 < (l0.length : Int) := Qt; obtain ⟨ad105, e105, hx105_0⟩ := Kd.at_int HR0.out x5_1 p105 q105; have hw105_0 := hx105_0; cases e105; replace hx105_0 := (HB.out.cell (World.block_lt_of_cell? w _ hx105_0)).trans hx105_0; replace p105 := eq_true p105; replace q105 := eq_true q105; have p106 : 0 ≤ ((ji9) : Int) := Qt; have q106 : (ji9) < (l0.length : Int) := Qt; obtain ⟨ad106, e106, hx106_0⟩ := Kd.at_int HR0.out (ji9) p106 q106; have hw106_0 := hx106_0; obtain rfl : ad105 = ad106 := (by injection e106); replace hx106_0 := (HB.out.cell (World.block_lt_of_cell? w _ hx106_0)).trans hx106_0; replace p106 := eq_true p106; replace q106 := eq_true q106; have p108 : 0 ≤ (x5_1 : Int) := Qt; have q108 : x5_1 < (l0.length : Int) := Qt; obtain ⟨ad108, e108, hx108_0⟩ := Kd.at_int HR0.out x5_1 p108 q108; have hw108_0 := hx108_0; obtain rfl : ad105 = ad108 := (by injection e108); replace hx108_0 := (HB.out.cell (World.block_lt_of_cell? w _ hx108_0)).trans hx108_0; replace p108 := eq_true p108; replace q108 := eq_true q108; have p109 : 0 ≤ ((ji9) : Int) := Qt; have q109 : (ji9) < (l0.length : Int) := Qt; obtain ⟨ad109, e109, hx109_0⟩ := Kd.at_int HR0.out (ji9) p109 q109; have hw109_0 := hx109_0; obtain rfl : ad105 = ad109 := (by injection e109); replace hx109_0 := (HB.out.cell (World.block_lt_of_cell? w _ hx109_0)).trans hx109_0; replace p109 := eq_true p109; replace q109 := eq_true q109; have p25 : 0 ≤ (x5_1 : Int) := Qt; have q25 : (x5_1 : Int) < ((x9_1.length : Int) : Int) := Qt; obtain ⟨go25, co25, eo25, gb25, gl25, cl25, HG25⟩ := Kd.R_form HO_9.out (by omega)
             (first | cases eo25 | (injection eo25 with ea_ en_ ec_; (first | subst ea_ | (injection ea_ with ea_; subst ea_)); subst ec_; clear en_))
             have GB25 := Aside0.mk gb25; have GG25 := Aside0.mk HG25; clear gb25 gl25 HG25; obtain ⟨hx25_0, hf25_0⟩ := Kd.R_celln false HO_9.out (x5_1 : Int) p25 q25; replace p25 := eq_true p25; replace q25 := eq_true q25; have HP27 := Kd.R_putn HO_9.out (x5_1 : Int) false; rw [← Ny112.out] at HP27; have HQ27 := Aside0.mk HP27; clear HP27; refine start_ (n := 33) (S := fun w' => w'.cell? (ad105.add (x5_1).toNat) = some (.int .i64 (rd l0 x5_1)) ∧ w'.cell? (ad105.add ((ji9)).toNat) = some (.int .i64 (rd l0 (ji9))) ∧ w'.cell? (ad105.add (x5_1).toNat) = some (.int .i64 (rd l0 x5_1)) ∧ w'.cell? (ad105.add ((ji9)).toNat) = some (.int .i64 (rd l0 (ji9)))) (ds := [32]) (bA 33 0) (by kernel_rfl) rfl rfl ⟨((HB.out.cell (World.block_lt_of_cell? w _ hw105_0)).trans hw105_0), ((HB.out.cell (World.block_lt_of_cell? w _ hw106_0)).trans hw106_0), ((HB.out.cell (World.block_lt_of_cell? w _ hw108_0)).trans hw108_0), ((HB.out.cell (World.block_lt_of_cell? w _ hw109_0)).trans hw109_0)⟩ (fun hHeld => ?_); refine with_tabW sais_Types.tab6 sais_Types.bits6 (fun HT_ HW_ => ?_); generalize wr.drew = w26 at HO_9 HB GG25 HQ27 hf25_0 hx105_0 hx106_0 hx108_0 hx109_0 hx25_0 hHeld ⊢; refine pureQ 0 16 33 1 HT_.out ?_ ?_ ?_ ?_ ?_; rotate_left; (· (intro w'; go_simp; (with_reducible rfl))); rotate_left; (· (simp only [Qs]; rfl)); refine pureQ 1 17 33 3 HT_.out ?_ ?_ ?_ ?_ ?_; rotate_left; (· (intro w'; go_simp; (with_reducible rfl))); rotate_left; (· (simp only [Qs]; rfl)); refine pureQ 2 18 33 7 HT_.out ?_ ?_ ?_ ?_ ?_; rotate_left; (· (intro w'; go_simp; (with_reducible rfl))); rotate_left; (· (simp only [Qs]; rfl)); refine pureQ 3 19 33 15 HT_.out ?_ ?_ ?_ ?_ ?_; rotate_left; (· (intro w'; go_simp; (with_reducible rfl))); rotate_left; (· (simp only [Qs]; rfl)); refine pureQ 4 20 33 31 HT_.out ?_ ?_ ?_ ?_ ?_; rotate_left; (· (intro w'; go_simp; (with_reducible rfl))); rotate_left; (· (simp only [Qs]; rfl)); refine pureQ 6 22 33 95 HT_.out ?_ ?_ ?_ ?_ ?_; rotate_left; (· (intro w'; go_simp; (with_reducible rfl))); rotate_left; (· (simp only [Qs]; rfl)); refine pureQ 7 23 33 223 HT_.out ?_ ?_ ?_ ?_ ?_; rotate_left; (· (intro w'; go_simp; (with_reducible rfl))); rotate_left; (· (simp only [Qs]; rfl)); refine pureQ 8 24 33 479 HT_.out ?_ ?_ ?_ ?_ ?_; rotate_left; (· (intro w'; go_simp; (with_reducible rfl))); rotate_left; (· (simp only [Qs]; rfl)); refine pureQ 9 25 33 991 HT_.out ?_ ?_ ?_ ?_ ?_; rotate_left; (· (intro w'; go_simp; (with_reducible rfl))); rotate_left; (· (simp only [Qs]; rfl)); refine takeQ 5 21 33 1023 HT_.out HW_.out hHeld ?_ ?_ ?_ ?_ ?_; rotate_left; (· (rintro w' ⟨s0, s1, s2, s3⟩; go_simp; (with_reducible rfl))); rotate_left; (· (simp only [Qs]; rfl)); refine takeQ 10 26 33 2047 HT_.out HW_.out hHeld ?_ ?_ ?_ ?_ ?_; rotate_left; (· (rintro w' ⟨s0, s1, s2, s3⟩; go_simp; (with_reducible rfl))); rotate_left; (· (simp only [Qs]; rfl)); refine pureQ 11 27 33 4095 HT_.out ?_ ?_ ?_ ?_ ?_; rotate_left; (· (intro w'; go_simp; (with_reducible rfl))); rotate_left; (· (simp only [Qs]; rfl)); refine pureQ 12 28 33 8191 HT_.out ?_ ?_ ?_ ?_ ?_; rotate_left; (· (intro w'; go_simp; (with_reducible rfl))); rotate_left; (· (simp only [Qs]; rfl)); refine pureQ 13 29 33 16383 HT_.out ?_ ?_ ?_ ?_ ?_; rotate_left; (· (intro w'; go_simp; (with_reducible rfl))); rotate_left; (· (simp only [Qs]; rfl)); refine pureQ 14 30 33 32767 HT_.out ?_ ?_ ?_ ?_ ?_; rotate_left; (· (intro w'; go_simp; (with_reducible rfl))); rotate_left; (· (simp only [Qs]; rfl)); refine pureQ 15 31 33 65535 HT_.out ?_ ?_ ?_ ?_ ?_; rotate_left; (· (intro w'; go_simp; (with_reducible rfl))); rotate_left; (· (simp only [Qs]; rfl)); refine pureQ 17 33 33 196607 HT_.out ?_ ?_ ?_ ?_ ?_; rotate_left; (· (intro w'; go_simp; (with_reducible rfl))); rotate_left; (· (simp only [Qs]; rfl)); refine pureQ 18 34 33 458751 HT_.out ?_ ?_ ?_ ?_ ?_; rotate_left; (· (intro w'; go_simp; (with_reducible rfl))); rotate_left; (· (simp only [Qs]; rfl)); refine pureQ 19 35 33 983039 HT_.out ?_ ?_ ?_ ?_ ?_; rotate_left; (· (intro w'; go_simp; (with_reducible rfl))); rotate_left; (· (simp only [Qs]; rfl)); refine pureQ 20 36 33 2031615 HT_.out ?_ ?_ ?_ ?_ ?_; rotate_left; (· (intro w'; go_simp; (with_reducible rfl))); rotate_left; (· (simp only [Qs]; rfl)); refine takeQ 16 32 33 2097151 HT_.out HW_.out hHeld ?_ ?_ ?_ ?_ ?_; rotate_left; (· (rintro w' ⟨s0, s1, s2, s3⟩; go_simp; (with_reducible rfl))); rotate_left; (· (simp only [Qs]; rfl)); refine takeQ 21 37 33 4194303 HT_.out HW_.out hHeld ?_ ?_ ?_ ?_ ?_; rotate_left; (· (rintro w' ⟨s0, s1, s2, s3⟩; go_simp; (with_reducible rfl))); rotate_left; (· (simp only [Qs]; rfl))
             refine pureQ 22 38 33 8388607 HT_.out ?_ ?_ ?_ ?_ ?_; rotate_left; (· (intro w'; go_simp; (with_reducible rfl))); rotate_left; (· (simp only [Qs]; rfl)); refine pureQ 23 39 33 16777215 HT_.out ?_ ?_ ?_ ?_ ?_; rotate_left; (· (intro w'; go_simp; (with_reducible rfl))); rotate_left; (· (simp only [Qs]; rfl)); refine pureU 24 40 33 33554431 HT_.out ?_ ?_ ?_; rotate_left; (· (simp only [Qs]; rfl)); refine pureU 25 41 33 67108863 HT_.out ?_ ?_ ?_; rotate_left; (· (simp only [Qs]; rfl)); refine pureU 26 42 33 134217727 HT_.out ?_ ?_ ?_; rotate_left; (· (simp only [Qs]; rfl)); refine pureU 27 43 33 268435455 HT_.out ?_ ?_ ?_; rotate_left; (· (simp only [Qs]; rfl)); refine pureU 28 44 33 536870911 HT_.out ?_ ?_ ?_; rotate_left; (· (simp only [Qs]; rfl)); refine pureQ 29 45 33 1073741823 HT_.out ?_ ?_ ?_ ?_ ?_; rotate_left; (· (intro w'; go_simp; (with_reducible rfl))); rotate_left; (· (simp only [Qs]; rfl)); refine pureQ 30 46 33 2147483647 HT_.out ?_ ?_ ?_ ?_ ?_; rotate_left; (· (intro w'; go_simp; (with_reducible rfl))); rotate_left; (· (simp only [Qs]; rfl)); refine pureQ 31 47 33 4294967295 HT_.out ?_ ?_ ?_ ?_ ?_; rotate_left; (· (intro w'; go_simp; (with_reducible rfl))); rotate_left; (· (simp only [Qs]; rfl)); refine last_ (i := 32) (N := none) (bA 33 8589934591) rfl rfl (one_of HT_.out (by kernel_rfl)) (by decide) (fun K hK => ?_); refine skip_ (w1 := ?_) (rfl) rfl ?_ ?_; rotate_left; (· (go_simp; rfl)); refine hK.out _ _ ?_; clear hK K; refine done_ (done_of HT_.out (by kernel_rfl)) ?_; (try go_wp2)
             go_roundg k1
             case measure => have := HK1.out; omega
             case rel => exact ⟨(wrap64 (x5_1 - 1)), (y112), (by first | rfl | (simp; done) | (simp [*]; done)), H', ⟨by have := HK1.out; omega⟩, ⟨by (with_reducible repeat first|apply Qa|apply Qb|apply Qc); exact HQ27.out⟩, ⟨by repeat (first | (with_reducible first | exact HB.out | apply below_alloc | apply pw_below_drewN | apply below_drew1 | refine below_set ?_ GB25.out) | exact HB.out)⟩⟩
            (· (rw [if_neg c24] at H; exact absurd H (by simp)))
         (· (rw [if_neg c11] at H; exact absurd H (by simp)))
        (· (rw [if_neg c10] at H; exact absurd H (by simp)))
       (· (rw [if_neg c8] at H; exact absurd H (by simp)))
      (· (rw [if_neg c7] at H; exact absurd H (by simp)))
     ·rw [if_neg c6] at H
      have c6b0 : decide (0 ≤ x5_1) = false := decide_eq_false c6; clear c6; obtain rfl := Option.some.inj H
      go_wp2
      go_ret
      exact ⟨_, rfl, by (with_reducible repeat first|apply Qa|apply Qb|apply Qc); exact HO_9.out, HB.out⟩
  (· (rw [if_neg c3] at H; exact absurd H (by simp)))
 (· (rw [if_neg c2] at H; exact absurd H (by simp)))
def sais_isTurn.f (l0 : List Bool) (a1 : Int) : Option (Bool) := if a1 > 0 then (if 0 ≤ a1 then (if a1 < (l0.length : Int) then (if rdOf false l0 a1 = true then (if 0 ≤ (wrap64 (a1 - 1)) then (if (wrap64 (a1 - 1)) < (l0.length : Int) then (some (!(rdOf false l0 (wrap64 (a1 - 1))))) else (none)) else (none)) else (some false)) else (none)) else (none)) else (some false)
set_option maxHeartbeats 8000000 in
set_option maxRecDepth 100000 in
theorem sais_isTurn.calls (A0 : Option Addr) (c0 : Nat) (l0 : List Bool) (a1 : Int) (r : Bool) (w : World) (hr0 : Kd.C Kd.bool w A0 l0.length l0) (hc0 : l0.length ≤ c0) (h : sais_isTurn.f l0 a1 = some r) :
  Calls Try.prog 60 #[.slice A0 l0.length c0, .int .i64 a1] w fun e w' => e = .returned (.bool r) ∧ Drawn0 w w' := by
 have HR0 := Aside0.mk hr0; have HC0 := Aside0.mk hc0; clear hr0 hc0; have H : (if a1 > 0 then (if 0 ≤ a1 then (if a1 < (l0.length : Int) then (if rdOf false l0 a1 = true then (if 0 ≤ (wrap64 (a1 - 1)) then (if (wrap64 (a1 - 1)) < (l0.length : Int) then (some (!(rdOf false l0 (wrap64 (a1 - 1))))) else (none)) else (none)) else (some false)) else (none)) else (none)) else (some false)) = some r := h; clear h
 by_cases c3 : a1 > 0
 ·rw [if_pos c3] at H
  have c3b0 : decide (0 < a1) = true := decide_eq_true c3; clear c3
  by_cases c4 : 0 ≤ a1
  ·rw [if_pos c4] at H
   have c4b0 : decide (0 ≤ a1) = true := decide_eq_true c4; clear c4
   by_cases c5 : a1 < (l0.length : Int)
   ·rw [if_pos c5] at H
    have c5b0 : decide (a1 < (l0.length : Int)) = true := decide_eq_true c5; clear c5; obtain ⟨bq6, hbq6⟩ : ∃ b_ : Bool, b_ = (rdOf false l0 a1) := ⟨_, rfl⟩
    replace H : (if bq6 = true then (if 0 ≤ (wrap64 (a1 - 1)) then (if (wrap64 (a1 - 1)) < (l0.length : Int) then (some (!(rdOf false l0 (wrap64 (a1 - 1))))) else (none)) else (none)) else (some false)) = some r := by rw [← hbq6] at H; exact H
    have Nbq6 := Aside0.mk hbq6; clear hbq6
    by_cases c7 : bq6 = true
    ·subst c7
     have H1 : (if 0 ≤ (wrap64 (a1 - 1)) then (if (wrap64 (a1 - 1)) < (l0.length : Int) then (some (!(rdOf false l0 (wrap64 (a1 - 1))))) else (none)) else (none)) = some r := by rw [if_pos rfl] at H; exact H
     clear H; have H := H1; clear H1; obtain ⟨ji8, hji8⟩ : ∃ j_ : Int, (wrap64 (a1 - 1)) = j_ := ⟨_, rfl⟩
     replace H : (if 0 ≤ (ji8) then (if (ji8) < (l0.length : Int) then (some (!(rdOf false l0 (ji8)))) else (none)) else (none)) = some r := by first | (rw [hji8] at H; exact H) | (simp only [hji8] at H ⊢; exact H)
     have hji8w : (IntKind.i64.wrap (a1 - 1)) = ji8 := (i64_w _).trans hji8
     by_cases c9 : 0 ≤ (ji8)
     ·rw [if_pos c9] at H
      have c9b0 : decide (0 ≤ (ji8)) = true := decide_eq_true c9; clear c9
      by_cases c10 : (ji8) < (l0.length : Int)
      ·rw [if_pos c10] at H
       have c10b0 : decide ((ji8) < (l0.length : Int)) = true := decide_eq_true c10; clear c10; obtain rfl := Option.some.inj H; have p113 : 0 ≤ (a1 : Int) := of_decide_eq_true (by first | (with_reducible assumption) | assumption); have q113 : a1 < (l0.length : Int) := of_decide_eq_true (by first | (with_reducible assumption) | assumption); obtain ⟨ad113, e113, hx113_0⟩ := Kd.at_bool HR0.out a1 p113 q113; (try rw [← Nbq6.out] at hx113_0); cases e113; replace p113 := eq_true p113; replace q113 := eq_true q113; have p114 : 0 ≤ ((ji8) : Int) := of_decide_eq_true (by first | (with_reducible assumption) | assumption); have q114 : (ji8) < (l0.length : Int) := of_decide_eq_true (by first | (with_reducible assumption) | assumption); obtain ⟨ad114, e114, hx114_0⟩ := Kd.at_bool HR0.out (ji8) p114 q114; (try rw [← Nbq6.out] at hx114_0); obtain rfl : ad113 = ad114 := (by injection e114); replace p114 := eq_true p114; replace q114 := eq_true q114
       go_enter Try.func60, Try.ntmps60
       go_wp2
       go_ret
       exact ⟨by first | rfl | (simp; done) | (simp only [← hji8] <;> (first | rfl | simp)) | (simp [*]; done), by repeat (first | exact Drawn0.refl _ | apply Drawn0.step)⟩
      (· (rw [if_neg c10] at H; exact absurd H (by simp)))
     (· (rw [if_neg c9] at H; exact absurd H (by simp)))
    ·replace c7 := Bool.eq_false_iff.mpr c7
     subst c7
     have H1 : (some false) = some r := by rw [if_neg (show ¬ (false = true) by decide)] at H; exact H
     clear H; have H := H1; clear H1; obtain rfl := Option.some.inj H; have p113 : 0 ≤ (a1 : Int) := of_decide_eq_true (by first | (with_reducible assumption) | assumption); have q113 : a1 < (l0.length : Int) := of_decide_eq_true (by first | (with_reducible assumption) | assumption); obtain ⟨ad113, e113, hx113_0⟩ := Kd.at_bool HR0.out a1 p113 q113; (try rw [← Nbq6.out] at hx113_0); cases e113; replace p113 := eq_true p113; replace q113 := eq_true q113
     go_enter Try.func60, Try.ntmps60
     go_wp2
     go_ret
     exact ⟨by first | rfl | (simp; done) | (simp [*]; done), by repeat (first | exact Drawn0.refl _ | apply Drawn0.step)⟩
   (· (rw [if_neg c5] at H; exact absurd H (by simp)))
  (· (rw [if_neg c4] at H; exact absurd H (by simp)))
 ·rw [if_neg c3] at H
  have c3b0 : decide (0 < a1) = false := decide_eq_false c3; clear c3; obtain rfl := Option.some.inj H
  go_enter Try.func60, Try.ntmps60
  go_wp2
  go_ret
  exact ⟨by first | rfl | (simp; done) | (simp [*]; done), by repeat (first | exact Drawn0.refl _ | apply Drawn0.step)⟩
def sais_Lms.l0 : Nat → List Int → List Bool → Int → Int → Option (List Int)
 | 0, _, _, _, _ => none
 | k + 1, x4, x7, x9, x10 => if x10 < x9 then ((sais_isTurn.f x7 x10).bind fun t118 => (if t118 = true then (if x4.length < 17592186044416 then (sais_Lms.l0 k (x4 ++ [x10]) x7 x9 (wrap64 (x10 + 1))) else (none)) else (sais_Lms.l0 k x4 x7 x9 (wrap64 (x10 + 1))))) else (some x4)
def sais_Lms.f (k : Nat) (l0 : List Int) : Option (List Int) := (sais_Types.f k l0).bind fun t115 => (sais_Lms.l0 k ([] : List Int) t115 (t115.length : Int) 0)
theorem sais_Lms.mono_l : ∀ k, (∀ y0 y1 y2 y3, LeO (sais_Lms.l0 k y0 y1 y2 y3) (sais_Lms.l0 (k + 1) y0 y1 y2 y3))
 | 0 => fun _ _ _ _ r h => by simp [sais_Lms.l0] at h
 | k + 1 => by
  have ih0 := sais_Lms.mono_l k
  ·intro y0 y1 y2 y3
   unfold sais_Lms.l0
   repeat' first
   | (with_reducible exact ih0 _ _ _ _)
   | (with_reducible exact sais_Types.mono _ _)
   | (with_reducible exact LeO.refl _)
   | (with_reducible exact LeO.none _)
   | (with_reducible refine LeO.ite ?_ ?_)
   | (with_reducible refine LeO.bind ?_ (fun _ => ?_))
   | exact ih0 _ _ _ _
   | exact sais_Types.mono _ _
   | exact LeO.none _
   | refine LeO.ite ?_ ?_
   | refine LeO.bind ?_ (fun _ => ?_)
theorem sais_Lms.mono : ∀ a0 k, LeO (sais_Lms.f k a0) (sais_Lms.f (k + 1) a0) := by
 intro a0 k
 have ih0 := sais_Lms.mono_l k
 unfold sais_Lms.f
 repeat' first
   | (with_reducible exact ih0 _ _ _ _)
   | (with_reducible exact sais_Types.mono _ _)
   | (with_reducible exact LeO.refl _)
   | (with_reducible exact LeO.none _)
   | (with_reducible refine LeO.ite ?_ ?_)
   | (with_reducible refine LeO.bind ?_ (fun _ => ?_))
   | exact ih0 _ _ _ _
   | exact sais_Types.mono _ _
   | exact LeO.none _
   | refine LeO.ite ?_ ?_
   | refine LeO.bind ?_ (fun _ => ?_)
set_option maxHeartbeats 8000000 in
set_option maxRecDepth 100000 in
theorem sais_Lms.calls (k : Nat) (A0 : Option Addr) (c0 : Nat) (l0 : List Int) (r : List Int) (w : World) (hr0 : Kd.C (Kd.int .i64) w A0 l0.length l0) (hc0 : l0.length ≤ c0) (h : sais_Lms.f k l0 = some r) :
  Calls Try.prog 57 #[.slice A0 l0.length c0] w fun e w' => ∃ v0_ : Value, e = .returned (v0_) ∧ Kd.R (Kd.int .i64) 3 w' w.heap.size (fun _ => True) v0_ r ∧ Below w.heap.size w w' := by
 have HR0 := Aside0.mk hr0; have HC0 := Aside0.mk hc0; clear hr0 hc0; have HB := Aside0.mk (Below.refl w.heap.size w); have H : ((sais_Types.f k l0).bind fun t115 => (sais_Lms.l0 k ([] : List Int) t115 (t115.length : Int) 0)) = some r := h; clear h; replace H := Option.bind_eq_some_iff.mp H; obtain ⟨t115, A20, H⟩ := H; replace H : (sais_Lms.l0 k ([] : List Int) t115 (t115.length : Int) 0) = some r := H; have A2 := Aside0.mk A20; clear A20; have H' := Aside0.mk H; clear H
 go_enter Try.func57, Try.ntmps57
 go_wp2_with (first | ((with_reducible refine gate_callee (f := 58) rfl ?_); refine goesL_ (some 7) rfl rfl Try.func58 (by kernel_rfl) rfl #[.slice A0 l0.length c0] rfl (by (try simp only [List.map_toArray, List.map_cons, List.map_nil]); first | done | rfl | (simp only [List.length_drop, List.length_take]; rfl)) ?_; (with_reducible refine (sais_Types.calls k _ _ l0 t115 _ ?side1 ?side2 A2.out).mono ?_); (case side1 => repeat (first | exact HR0.out | (with_reducible first|refine Qd ?_ _|refine Qe ?_ _|refine Qf ?_))); (case side2 => exact HC0.out); rintro e w3 ⟨v116, rfl, ho0, hb⟩; refine ⟨_, rfl, ?_⟩; have n0_ := Aside0.mk (Kd.R_lower ho0 (below_size (by repeat first|(with_reducible first|exact HB.out|apply Qg|apply Qh|apply Qi)|exact HB.out))); have n1_ := Aside0.mk (below_step (by repeat first|(with_reducible first|exact HB.out|apply Qg|apply Qh|apply Qi)|exact HB.out) hb); clear HB; have HO117 := n0_; have HB := n1_; clear n0_ n1_; (try clear hb); (try clear hb2); (try clear hk); (try clear hi); (try clear ho0); obtain ⟨Ao4, co4, eo4⟩ := Kd.R_slice HO117.out; subst eo4))
 go_loopg [4, 10] k (fun kq v4 v10 w' => ∃ (x4_1 : List Int) (x10_1 : Int), v10 = .int .i64 x10_1 ∧ Aside0 (sais_Lms.l0 kq x4_1 t115 (t115.length : Int) x10_1 = some r) ∧ Aside0 (kq ≤ k) ∧ Aside0 (Kd.R (Kd.int .i64) 3 w' w.heap.size (fun _ => True) v4 x4_1) ∧ Aside0 (Kd.R Kd.bool 4 w' w.heap.size (fun _ => True) (.slice Ao4 t115.length co4) t115) ∧ Aside0 (Below w.heap.size w w'))
 case atStart => exact ⟨(([] : List Int)), (0), (by first | rfl | (simp; done) | (simp [*]; done)), H', ⟨Nat.le_refl _⟩, ⟨by first | exact Kd.R_nil _ _ _ _ _ | exact Kd.N_nil _ _ _ _ _ | exact Kd.V_nil _ _ _ _ _ | exact Kd.Q_nil _ _ _ _ _ | exact Kd.S_nil _ _ _ _ _⟩, ⟨by (with_reducible repeat first|apply Qa|apply Qb|apply Qc); exact HO117.out⟩, ⟨by repeat first|(with_reducible first|exact HB.out|apply Qg|apply Qh|apply Qi)|exact HB.out⟩⟩
 case round =>
  clear H'; (try clear p2); obtain ⟨x4_1, x10_1, rfl, HA, HK1, HO_4, HO_7, HB⟩ := hrel
  cases gk with
  | zero => exact absurd HA.out (by simp [sais_Lms.l0])
  | succ k1 =>
   have H := HA.out; clear HA; simp only [sais_Lms.l0] at H
   by_cases c5 : x10_1 < (t115.length : Int)
   ·rw [if_pos c5] at H
    have c5b0 : decide (x10_1 < (t115.length : Int)) = true := decide_eq_true c5; clear c5; replace H := Option.bind_eq_some_iff.mp H; obtain ⟨t118, A60, H⟩ := H; replace H : (if t118 = true then (if x4_1.length < 17592186044416 then (sais_Lms.l0 k1 (x4_1 ++ [x10_1]) t115 (t115.length : Int) (wrap64 (x10_1 + 1))) else (none)) else (sais_Lms.l0 k1 x4_1 t115 (t115.length : Int) (wrap64 (x10_1 + 1)))) = some r := H; have A6 := Aside0.mk A60; clear A60
    by_cases c7 : t118 = true
    ·subst c7
     have H1 : (if x4_1.length < 17592186044416 then (sais_Lms.l0 k1 (x4_1 ++ [x10_1]) t115 (t115.length : Int) (wrap64 (x10_1 + 1))) else (none)) = some r := by rw [if_pos rfl] at H; exact H
     clear H; have H := H1; clear H1
     by_cases c8 : x4_1.length < 17592186044416
     ·rw [if_pos c8] at H
      have LMc8 := Aside0.mk c8; clear c8; obtain ⟨y119, hy119⟩ : ∃ y_ : List Int, y_ = (x4_1 ++ [x10_1]) := ⟨_, rfl⟩
      replace H : (sais_Lms.l0 k1 y119 t115 (t115.length : Int) (wrap64 (x10_1 + 1))) = some r := by first | (rw [hy119]; with_reducible exact H) | (have H2_ := (Option.bind_some _ _).symm.trans H; rw [hy119]; with_reducible exact H2_) | (have H2_ := (Option.bind_some _ _).symm.trans H; with_reducible exact H2_) | with_reducible exact H | (rw [hy119]; exact H) | exact H
      have Ny119 := Aside0.mk hy119; clear hy119; have H' := Aside0.mk H; clear H
      go_wp2_with (first | ((with_reducible refine gate_callee (f := 60) rfl ?_); refine goesL_ (some 15) rfl rfl Try.func60 (by kernel_rfl) rfl #[.slice Ao4 t115.length co4, .int .i64 x10_1] rfl (by (try simp only [List.map_toArray, List.map_cons, List.map_nil]); first | done | rfl | (simp only [List.length_drop, List.length_take]; rfl)) ?_; (with_reducible refine (sais_isTurn.calls _ _ t115 x10_1 true _ ?side1 ?side2 A6.out).mono ?_); (case side1 => repeat (first | exact (Kd.R_reads' HO_7.out).2.2 | (with_reducible first|refine Qd ?_ _|refine Qe ?_ _|refine Qf ?_))); (case side2 => exact (Kd.R_reads' HO_7.out).2.1); rintro e w' ⟨rfl, ⟨nd, rfl⟩⟩; refine ⟨_, rfl, ?_⟩) | ((with_reducible refine gate_builtin (b := .append) (xs := #[.tmp 16, .tmp 18]) rfl ?_); at_builtin; refine Kd.R_append (Kd.int .i64) (w0 := w) w.heap.size rfl (.tmp 16) (.tmp 18) 46 3 (.int .i64 0) 8 rfl Try.underlying46 info3 rfl (by decide) (by omega) u4 x4_1 x10_1 [.int .i64 x10_1] (fun _ => True) (fun _ => False) rfl rfl ?aP (fun _ hk => hk.elim) ?aF ?aO ?aB ?aS ?aL ?_; (case aP => exact rfl); (case aB => exact (by repeat first|(with_reducible first|exact HB.out|apply Qg|apply Qh|apply Qi)|exact HB.out)); (case aF => exact (fun _ _ => trivial)); (case aO => exact (by (with_reducible repeat first|apply Qa|apply Qb|apply Qc); exact HO_4.out)); (case aS => exact (below_size (by repeat first|(with_reducible first|exact HB.out|apply Qg|apply Qh|apply Qi)|exact HB.out))); (case aL => have := LMc8.out; omega); intro v120 w9 ho hb hg hat; rw [← Ny119.out] at ho; have n0_ := Aside0.mk (Kd.R_over' (by (with_reducible repeat first|apply Qa|apply Qb|apply Qc); exact HO_7.out) (Kd.R_typed (by (with_reducible repeat first|apply Qa|apply Qb|apply Qc); exact HO_4.out)) (by decide) hg); have n1_ := Aside0.mk (hb); have n2_ := Aside0.mk (ho); clear HO_7; clear HB; clear HO_4; have HO_7 := n0_; have HB := n1_; have HO121 := n2_; clear n0_ n1_ n2_; clear ho hb hg hat))
      go_roundg k1
      case measure => have := HK1.out; omega
      case rel => exact ⟨(y119), (wrap64 (x10_1 + 1)), (by first | rfl | (simp; done) | (simp [*]; done)), H', ⟨by have := HK1.out; omega⟩, ⟨by (with_reducible repeat first|apply Qa|apply Qb|apply Qc); exact HO121.out⟩, ⟨by (with_reducible repeat first|apply Qa|apply Qb|apply Qc); exact HO_7.out⟩, ⟨by repeat first|(with_reducible first|exact HB.out|apply Qg|apply Qh|apply Qi)|exact HB.out⟩⟩
     (· (rw [if_neg c8] at H; exact absurd H (by simp)))
    ·replace c7 := Bool.eq_false_iff.mpr c7
     subst c7
     have H1 : (sais_Lms.l0 k1 x4_1 t115 (t115.length : Int) (wrap64 (x10_1 + 1))) = some r := by rw [if_neg (show ¬ (false = true) by decide)] at H; exact H
     clear H; have H := H1; clear H1; have H' := Aside0.mk H; clear H
     go_wp2_with (first | ((with_reducible refine gate_callee (f := 60) rfl ?_); refine goesL_ (some 15) rfl rfl Try.func60 (by kernel_rfl) rfl #[.slice Ao4 t115.length co4, .int .i64 x10_1] rfl (by (try simp only [List.map_toArray, List.map_cons, List.map_nil]); first | done | rfl | (simp only [List.length_drop, List.length_take]; rfl)) ?_; (with_reducible refine (sais_isTurn.calls _ _ t115 x10_1 false _ ?side1 ?side2 A6.out).mono ?_); (case side1 => repeat (first | exact (Kd.R_reads' HO_7.out).2.2 | (with_reducible first|refine Qd ?_ _|refine Qe ?_ _|refine Qf ?_))); (case side2 => exact (Kd.R_reads' HO_7.out).2.1); rintro e w' ⟨rfl, ⟨nd, rfl⟩⟩; refine ⟨_, rfl, ?_⟩))
     go_roundg k1
     case measure => have := HK1.out; omega
     case rel => exact ⟨(x4_1), (wrap64 (x10_1 + 1)), (by first | rfl | (simp; done) | (simp [*]; done)), H', ⟨by have := HK1.out; omega⟩, ⟨by (with_reducible repeat first|apply Qa|apply Qb|apply Qc); exact HO_4.out⟩, ⟨by (with_reducible repeat first|apply Qa|apply Qb|apply Qc); exact HO_7.out⟩, ⟨by repeat first|(with_reducible first|exact HB.out|apply Qg|apply Qh|apply Qi)|exact HB.out⟩⟩
   ·rw [if_neg c5] at H
    have c5b0 : decide (x10_1 < (t115.length : Int)) = false := decide_eq_false c5; clear c5; obtain rfl := Option.some.inj H
    go_wp2
    go_ret
    exact ⟨_, rfl, by (with_reducible repeat first|apply Qa|apply Qb|apply Qc); exact HO_4.out, HB.out⟩
mutual
def sais_buckets.l0 : Nat → List Int → List Int → List Int → Int → Int → Option (List Int × List Int)
 | 0, _, _, _, _, _ => none
 | k + 1, x14, x16, x17, x18, x19 => if x19 < x18 then (if 0 ≤ x19 then (if x19 < (x17.length : Int) then (if 0 ≤ (rd x17 x19) then (if (rd x17 x19) < (x16.length : Int) then (sais_buckets.l0 k x14 (x16.set ((rd x17 x19) : Int).toNat (wrap64 ((rd x16 (rd x17 x19)) + 1))) x17 x18 (wrap64 (x19 + 1))) else (none)) else (none)) else (none)) else (none)) else (sais_buckets.l1 k 0 x14 x16 (x16.length : Int) 0)
def sais_buckets.l1 : Nat → Int → List Int → List Int → Int → Int → Option (List Int × List Int)
 | 0, _, _, _, _, _ => none
 | k + 1, x10, x14, x16, x31, x32 => if x32 < x31 then (if 0 ≤ x32 then (if x32 < (x16.length : Int) then (if x32 < (x14.length : Int) then (sais_buckets.l1 k (wrap64 (x10 + (rd x16 x32))) (x14.set (x32 : Int).toNat x10) (x16.set (x32 : Int).toNat (wrap64 (x10 + (rd x16 x32)))) x31 (wrap64 (x32 + 1))) else (none)) else (none)) else (none)) else (some (x14, x16))
end
def sais_buckets.f (k : Nat) (a0 : Int) (l1 : List Int) : Option (List Int × List Int) := if 0 ≤ a0 then (if (a0 : Int).toNat ≤ 35184372088832 then (sais_buckets.l0 k (List.replicate (a0 : Int).toNat 0) (List.replicate (a0 : Int).toNat 0) l1 (l1.length : Int) 0) else (none)) else (none)
theorem sais_buckets.mono_l : ∀ k, (∀ y0 y1 y2 y3 y4, LeO (sais_buckets.l0 k y0 y1 y2 y3 y4) (sais_buckets.l0 (k + 1) y0 y1 y2 y3 y4)) ∧ (∀ y0 y1 y2 y3 y4, LeO (sais_buckets.l1 k y0 y1 y2 y3 y4) (sais_buckets.l1 (k + 1) y0 y1 y2 y3 y4))
 | 0 => ⟨fun _ _ _ _ _ r h => by simp [sais_buckets.l0] at h, fun _ _ _ _ _ r h => by simp [sais_buckets.l1] at h⟩
 | k + 1 => by
  obtain ⟨ih0, ih1⟩ := sais_buckets.mono_l k
  refine ⟨?_, ?_⟩
  intro y0 y1 y2 y3 y4; unfold sais_buckets.l0; rotate_left
  intro y0 y1 y2 y3 y4; unfold sais_buckets.l1; rotate_left
  all_goals
   repeat' first
   | (with_reducible exact ih0 _ _ _ _ _)
   | (with_reducible exact ih1 _ _ _ _ _)
   | (with_reducible exact LeO.refl _)
   | (with_reducible exact LeO.none _)
   | (with_reducible refine LeO.ite ?_ ?_)
   | (with_reducible refine LeO.bind ?_ (fun _ => ?_))
   | exact ih0 _ _ _ _ _
   | exact ih1 _ _ _ _ _
   | exact LeO.none _
   | refine LeO.ite ?_ ?_
   | refine LeO.bind ?_ (fun _ => ?_)
theorem sais_buckets.mono : ∀ a0 a1 k, LeO (sais_buckets.f k a0 a1) (sais_buckets.f (k + 1) a0 a1) := by
 intro a0 a1 k
 obtain ⟨ih0, ih1⟩ := sais_buckets.mono_l k
 unfold sais_buckets.f
 repeat' first
   | (with_reducible exact ih0 _ _ _ _ _)
   | (with_reducible exact ih1 _ _ _ _ _)
   | (with_reducible exact LeO.refl _)
   | (with_reducible exact LeO.none _)
   | (with_reducible refine LeO.ite ?_ ?_)
   | (with_reducible refine LeO.bind ?_ (fun _ => ?_))
   | exact ih0 _ _ _ _ _
   | exact ih1 _ _ _ _ _
   | exact LeO.none _
   | refine LeO.ite ?_ ?_
   | refine LeO.bind ?_ (fun _ => ?_)
set_option maxHeartbeats 8000000 in
set_option maxRecDepth 100000 in
theorem sais_buckets.calls (k : Nat) (a0 : Int) (A1 : Option Addr) (c1 : Nat) (l1 : List Int) (r1 : List Int) (r2 : List Int) (w : World) (hr1 : Kd.C (Kd.int .i64) w A1 l1.length l1) (hc1 : l1.length ≤ c1) (h : sais_buckets.f k a0 l1 = some (r1, r2)) :
  Calls Try.prog 63 #[.int .i64 a0, .slice A1 l1.length c1] w fun e w' => ∃ v0_ v1_ : Value, e = .returned (.tuple #[v0_, v1_]) ∧ Kd.R (Kd.int .i64) 3 w' w.heap.size (fun k_ => some k_ ≠ (v1_ : Value).ownBlock) v0_ r1 ∧ Kd.R (Kd.int .i64) 3 w' w.heap.size (fun k_ => some k_ ≠ (v0_ : Value).ownBlock) v1_ r2 ∧ Below w.heap.size w w' := by
 have HR1 := Aside0.mk hr1; have HC1 := Aside0.mk hc1; clear hr1 hc1; have HB := Aside0.mk (Below.refl w.heap.size w); have H : (if 0 ≤ a0 then (if (a0 : Int).toNat ≤ 35184372088832 then (sais_buckets.l0 k (List.replicate (a0 : Int).toNat 0) (List.replicate (a0 : Int).toNat 0) l1 (l1.length : Int) 0) else (none)) else (none)) = some (r1, r2) := h; clear h
 by_cases c3 : 0 ≤ a0
 ·rw [if_pos c3] at H
  have c3b0 := eq_true c3; have c3b1 : decide (0 ≤ a0) = true := decide_eq_true c3; clear c3
  by_cases c4 : (a0 : Int).toNat ≤ 35184372088832
  ·rw [if_pos c4] at H
   have c4b0 := eq_true c4; have c4b1 : decide ((a0 : Int).toNat ≤ 35184372088832) = true := decide_eq_true c4; clear c4; obtain ⟨y122, hy122⟩ : ∃ y_ : List Int, y_ = (List.replicate (a0 : Int).toNat 0) := ⟨_, rfl⟩
   replace H : (sais_buckets.l0 k y122 (List.replicate (a0 : Int).toNat 0) l1 (l1.length : Int) 0) = some (r1, r2) := by first | (rw [hy122]; with_reducible exact H) | (have H2_ := (Option.bind_some _ _).symm.trans H; rw [hy122]; with_reducible exact H2_) | (have H2_ := (Option.bind_some _ _).symm.trans H; with_reducible exact H2_) | with_reducible exact H | (rw [hy122]; exact H) | exact H
   have Ny122 := Aside0.mk hy122; clear hy122; obtain ⟨y125, hy125⟩ : ∃ y_ : List Int, y_ = (List.replicate (a0 : Int).toNat 0) := ⟨_, rfl⟩
   replace H : (sais_buckets.l0 k y122 y125 l1 (l1.length : Int) 0) = some (r1, r2) := by first | (rw [hy125]; with_reducible exact H) | (have H2_ := (Option.bind_some _ _).symm.trans H; rw [hy125]; with_reducible exact H2_) | (have H2_ := (Option.bind_some _ _).symm.trans H; with_reducible exact H2_) | with_reducible exact H | (rw [hy125]; exact H) | exact H
   have Ny125 := Aside0.mk hy125; clear hy125; have H' := Aside0.mk H; clear H
   go_enter Try.func63, Try.ntmps63
   (try go_wp2); have n0_ := Aside0.mk (below_drew1 HB.out); clear HB; have HB := n0_; clear n0_; refine start_ (n := 6) (S := fun w' => True) (ds := []) #[false, false, false, false, false, false] (by kernel_rfl) rfl rfl trivial (fun hHeld => ?_); generalize w.drew = w5 at HB hHeld ⊢; refine pure_ (i := 0) (N := some 13) (v := ?_) (a' := ?_) #[true, false, false, false, false, false] rfl rfl (by kernel_rfl) (fun _ _ _ h => h) (Or.inl ⟨rfl, ?_⟩) ?_ ?_; rotate_left; (· (intro w'; go_simp; (with_reducible rfl))); rotate_left; (· (simp only [Qs]; rfl)); refine pure_ (i := 2) (N := some 15) (v := ?_) (a' := ?_) #[true, false, true, false, false, false] rfl rfl (by kernel_rfl) (fun _ _ _ h => h) (Or.inl ⟨rfl, ?_⟩) ?_ ?_; rotate_left; (· (intro w'; go_simp; (with_reducible rfl))); rotate_left; (· (simp only [Qs]; rfl)); refine join_ (σ := Value × Value) 1 #[true, true, true, true, true, false] (fun s_ => [(14, s_.1), (16, s_.2), (6, s_.1)]) (fun s_ w' => (Kd.R (Kd.int .i64) 3 w' w.heap.size (fun k_ => some k_ ≠ (s_.2 : Value).ownBlock) s_.1 y122) ∧ (Kd.R (Kd.int .i64) 3 w' w.heap.size (fun k_ => some k_ ≠ (s_.1 : Value).ownBlock) s_.2 y125) ∧ (Below w.heap.size w w')) ?_ ?_; rotate_left
   ·intro hCont
    refine two_ (i := 1) (j := 3) (Ni := some 14) (Nj := some 16) #[true, true, true, false, false, false] #[true, false, true, true, false, false] rfl rfl rfl rfl (by kernel_rfl) (by decide) (by decide) (fun K hK => ?_) (fun K hK => ?_)
    ·skip
     refine Kd.R_make_step (Kd.int .i64) _ 3 (rfl) (N := 14) rfl 46 _ _ rfl a0 rfl rfl Try.underlying46 (.int .i64 0) 8 info3 rfl (by decide) (by omega) 0 (ok := fun _ => True) (okp := fun _ => True) rfl (fun _ hk => hk) trivial (Qt) (Nat.le_trans (Nat.mul_le_mul_right _ (Qt : a0.toNat ≤ 35184372088832)) (by omega)) (Below.refl _ _) (Nat.le_refl _) ?_; intro v123 w6 ho7 hb hg_ hnew_; clear hg_ hnew_
     (first | rw [← Ny122.out] at ho7 | (simp only [Int.reduceToNat] at ho7; rw [← Ny122.out] at ho7))
     have n0_ := Aside0.mk (Kd.R_lower ho7 (below_size HB.out)); have n1_ := Aside0.mk (below_step HB.out hb); clear HB; have HO124 := n0_; have HB := n1_; clear n0_ n1_; clear hb ho7; refine hK.out _ _ trivial (fun hHeld => ?_); clear hK K; refine norm_ (a' := ?_) ?_ ?_; rotate_left; (· (show Act.put _ (some 14) _ = _; simp only [Qs]; rfl)); refine pure_ (i := 4) (N := some 6) (v := ?_) (a' := ?_) #[true, true, true, false, true, false] rfl rfl (by kernel_rfl) (fun _ _ _ h => h) (Or.inl ⟨rfl, ?_⟩) ?_ ?_; rotate_left; (· (intro w'; go_simp; (with_reducible rfl))); rotate_left; (· (simp only [Qs]; rfl)); refine one_ (i := 3) (N := some 16) #[true, true, true, true, true, false] rfl rfl (by kernel_rfl) (by decide) (fun K hK => ?_); refine Kd.R_make_step (Kd.int .i64) _ 3 (rfl) (N := 16) rfl 46 _ _ rfl a0 rfl rfl Try.underlying46 (.int .i64 0) 8 info3 rfl (by decide) (by omega) 0 (ok := fun _ => True) (okp := fun _ => True) rfl (fun _ hk => hk) trivial (Qt) (Nat.le_trans (Nat.mul_le_mul_right _ (Qt : a0.toNat ≤ 35184372088832)) (by omega)) (Below.refl _ _) (Nat.le_refl _) ?_; intro v126 w8 ho9 hb hg_ hnew_; clear hg_ hnew_
     (first | rw [← Ny125.out] at ho9 | (simp only [Int.reduceToNat] at ho9; rw [← Ny125.out] at ho9))
     have n0_ := Aside0.mk (Kd.R_elder' HO124.out (Kd.R_base ho9) hb); have n1_ := Aside0.mk (Kd.R_lower (Kd.R_new' ho9 (Kd.R_lt HO124.out)) (below_size HB.out)); have n2_ := Aside0.mk (below_step HB.out hb); clear HO124; clear HB; have HO124 := n0_; have HO127 := n1_; have HB := n2_; clear n0_ n1_ n2_; clear hb ho9; refine hK.out _ _ trivial (fun hHeld => ?_); clear hK K; refine norm_ (a' := ?_) ?_ ?_; rotate_left; (· (show Act.put _ (some 16) _ = _; simp only [Qs]; rfl)); exact norm_ (by simp only [putAll, Act.put, List.setIfInBounds_toArray, List.set_cons_zero, List.set_cons_succ]) (hCont (v123, v126) _ ⟨(by (with_reducible repeat first|apply Qa|apply Qb|apply Qc); exact Kd.R_mono HO124.out (fun _ hk => hk.2)), (by (with_reducible repeat first|apply Qa|apply Qb|apply Qc); exact Kd.R_mono HO127.out (fun _ hk => hk.2)), HB.out⟩)
    ·skip
     refine Kd.R_make_step (Kd.int .i64) _ 3 (rfl) (N := 16) rfl 46 _ _ rfl a0 rfl rfl Try.underlying46 (.int .i64 0) 8 info3 rfl (by decide) (by omega) 0 (ok := fun _ => True) (okp := fun _ => True) rfl (fun _ hk => hk) trivial (Qt) (Nat.le_trans (Nat.mul_le_mul_right _ (Qt : a0.toNat ≤ 35184372088832)) (by omega)) (Below.refl _ _) (Nat.le_refl _) ?_; intro v126 w6 ho7 hb hg_ hnew_; clear hg_ hnew_
     (first | rw [← Ny125.out] at ho7 | (simp only [Int.reduceToNat] at ho7; rw [← Ny125.out] at ho7))
     have n0_ := Aside0.mk (Kd.R_lower ho7 (below_size HB.out)); have n1_ := Aside0.mk (below_step HB.out hb); clear HB; have HO127 := n0_; have HB := n1_; clear n0_ n1_; clear hb ho7; refine hK.out _ _ trivial (fun hHeld => ?_); clear hK K; refine norm_ (a' := ?_) ?_ ?_; rotate_left; (· (show Act.put _ (some 16) _ = _; simp only [Qs]; rfl)); refine one_ (i := 1) (N := some 14) #[true, true, true, true, false, false] rfl rfl (by kernel_rfl) (by decide) (fun K hK => ?_); refine Kd.R_make_step (Kd.int .i64) _ 3 (rfl) (N := 14) rfl 46 _ _ rfl a0 rfl rfl Try.underlying46 (.int .i64 0) 8 info3 rfl (by decide) (by omega) 0 (ok := fun _ => True) (okp := fun _ => True) rfl (fun _ hk => hk) trivial (Qt) (Nat.le_trans (Nat.mul_le_mul_right _ (Qt : a0.toNat ≤ 35184372088832)) (by omega)) (Below.refl _ _) (Nat.le_refl _) ?_; intro v123 w8 ho9 hb hg_ hnew_; clear hg_ hnew_
     (first | rw [← Ny122.out] at ho9 | (simp only [Int.reduceToNat] at ho9; rw [← Ny122.out] at ho9))
     have n0_ := Aside0.mk (Kd.R_elder' HO127.out (Kd.R_base ho9) hb); have n1_ := Aside0.mk (Kd.R_lower (Kd.R_new' ho9 (Kd.R_lt HO127.out)) (below_size HB.out)); have n2_ := Aside0.mk (below_step HB.out hb); clear HO127; clear HB; have HO127 := n0_; have HO124 := n1_; have HB := n2_; clear n0_ n1_ n2_; clear hb ho9; refine hK.out _ _ trivial (fun hHeld => ?_); clear hK K; refine norm_ (a' := ?_) ?_ ?_; rotate_left; (· (show Act.put _ (some 14) _ = _; simp only [Qs]; rfl)); refine pure_ (i := 4) (N := some 6) (v := ?_) (a' := ?_) #[true, true, true, true, true, false] rfl rfl (by kernel_rfl) (fun _ _ _ h => h) (Or.inl ⟨rfl, ?_⟩) ?_ ?_; rotate_left; (· (intro w'; go_simp; (with_reducible rfl))); rotate_left; (· (simp only [Qs]; rfl)); exact norm_ (by simp only [putAll, Act.put, List.setIfInBounds_toArray, List.set_cons_zero, List.set_cons_succ]) (hCont (v123, v126) _ ⟨(by (with_reducible repeat first|apply Qa|apply Qb|apply Qc); exact Kd.R_mono HO124.out (fun _ hk => hk.2)), (by (with_reducible repeat first|apply Qa|apply Qb|apply Qc); exact Kd.R_mono HO127.out (fun _ hk => hk.2)), HB.out⟩)
   rintro ⟨v123, v126⟩ w10 ⟨h0_, h1_, h2_⟩; have n0_ : Aside0 (Kd.R (Kd.int .i64) 3 w10 w.heap.size (fun k_ => some k_ ≠ (v126 : Value).ownBlock) v123 y122) := ⟨h0_⟩; have n1_ : Aside0 (Kd.R (Kd.int .i64) 3 w10 w.heap.size (fun k_ => some k_ ≠ (v123 : Value).ownBlock) v126 y125) := ⟨h1_⟩; have n2_ : Aside0 (Below w.heap.size w w10) := ⟨h2_⟩; clear HB; clear h0_ h1_ h2_; have HO124 := n0_; have HO127 := n1_; have HB := n2_; clear n0_ n1_ n2_; have hHeld := trivial; refine norm_ (a' := ?_) ?_ ?_; rotate_left; (· (simp only [putAll, Act.put, List.setIfInBounds_toArray, List.set_cons_zero, List.set_cons_succ]; rfl)); refine pure_ (i := 5) (N := some 7) (v := ?_) (a' := ?_) #[true, true, true, true, true, true] rfl rfl (by kernel_rfl) (fun _ _ _ h => h) (Or.inl ⟨rfl, ?_⟩) ?_ ?_; rotate_left; (· (intro w'; go_simp; (with_reducible rfl))); rotate_left; (· (simp only [Qs]; rfl)); refine done_ (by kernel_rfl) ?_; (try go_wp2)
   go_loopg [19] k (fun kq v19 w' => ∃ (x16_1 : List Int) (x19_1 : Int), v19 = .int .i64 x19_1 ∧ Aside0 (sais_buckets.l0 kq y122 x16_1 l1 (l1.length : Int) x19_1 = some (r1, r2)) ∧ Aside0 (kq ≤ k) ∧ Aside0 (Kd.R (Kd.int .i64) 3 w' w.heap.size (fun k_ => some k_ ≠ (v126 : Value).ownBlock) v123 y122) ∧ Aside0 (Kd.R (Kd.int .i64) 3 w' w.heap.size (fun k_ => some k_ ≠ (v123 : Value).ownBlock) v126 x16_1) ∧ Aside0 (Below w.heap.size w w'))
   case atStart => exact ⟨(y125), (0), (rfl), H', ⟨Nat.le_refl _⟩, ⟨by (with_reducible repeat first|apply Qa|apply Qb|apply Qc); exact HO124.out⟩, ⟨by (with_reducible repeat first|apply Qa|apply Qb|apply Qc); exact HO127.out⟩, ⟨HB.out⟩⟩
   case round =>
    clear H'; obtain ⟨x16_1, x19_1, rfl, HA, HK1, HO_14, HO_16, HB⟩ := hrel
    cases gk with
    | zero => exact absurd HA.out (by simp [sais_buckets.l0])
    | succ k1 =>
     have H := HA.out; clear HA; simp only [sais_buckets.l0] at H
     by_cases c11 : x19_1 < (l1.length : Int)
     ·rw [if_pos c11] at H
      have c11b0 : decide (x19_1 < (l1.length : Int)) = true := decide_eq_true c11; clear c11
      by_cases c12 : 0 ≤ x19_1
      ·rw [if_pos c12] at H
       have c12b0 : decide (0 ≤ x19_1) = true := decide_eq_true c12; clear c12
       by_cases c13 : x19_1 < (l1.length : Int)
       ·rw [if_pos c13] at H
        have c13b0 : decide (x19_1 < (l1.length : Int)) = true := decide_eq_true c13; clear c13
        by_cases c14 : 0 ≤ (rd l1 x19_1)
        ·rw [if_pos c14] at H
         have c14b0 : decide (0 ≤ (rd l1 x19_1)) = true := decide_eq_true c14; clear c14
         by_cases c15 : (rd l1 x19_1) < (x16_1.length : Int)
         ·rw [if_pos c15] at H
          have c15b0 : decide ((rd l1 x19_1) < (x16_1.length : Int)) = true := decide_eq_true c15; clear c15; obtain ⟨y130, hy130⟩ : ∃ y_ : List Int, y_ = (x16_1.set ((rd l1 x19_1) : Int).toNat (wrap64 ((rd x16_1 (rd l1 x19_1)) + 1))) := ⟨_, rfl⟩
          replace H : (sais_buckets.l0 k1 y122 y130 l1 (l1.length : Int) (wrap64 (x19_1 + 1))) = some (r1, r2) := by first | (rw [hy130]; with_reducible exact H) | (have H2_ := (Option.bind_some _ _).symm.trans H; rw [hy130]; with_reducible exact H2_) | (have H2_ := (Option.bind_some _ _).symm.trans H; with_reducible exact H2_) | with_reducible exact H | (rw [hy130]; exact H) | exact H
          have Ny130 := Aside0.mk hy130; clear hy130; have H' := Aside0.mk H; clear H; have p128 : 0 ≤ (x19_1 : Int) := Qt; have q128 : x19_1 < (l1.length : Int) := Qt; obtain ⟨ad128, e128, hx128_0⟩ := Kd.at_int HR1.out x19_1 p128 q128; cases e128; replace hx128_0 := (HB.out.cell (World.block_lt_of_cell? w _ hx128_0)).trans hx128_0; replace p128 := eq_true p128; replace q128 := eq_true q128; obtain ⟨Ao17, co17, eo17⟩ := Kd.R_slice HO_16.out; subst eo17; have p129 : 0 ≤ ((rd l1 x19_1) : Int) := Qt; have q129 : (rd l1 x19_1) < (x16_1.length : Int) := Qt; obtain ⟨ad129, e129, hx129_0⟩ := Kd.at_int (Kd.R_reads' HO_16.out).2.2 (rd l1 x19_1) p129 q129; cases e129; replace p129 := eq_true p129; replace q129 := eq_true q129; have p16 : 0 ≤ ((rd l1 x19_1) : Int) := Qt; have q16 : ((rd l1 x19_1) : Int) < ((x16_1.length : Int) : Int) := Qt; obtain ⟨go16, co16, eo16, gb16, gl16, cl16, HG16⟩ := Kd.R_form HO_16.out (by first | omega | (have e_ := (Kd.R_reads' HO_16.out).1; omega))
          (first | cases eo16 | (injection eo16 with ea_ en_ ec_; (first | subst ea_ | (injection ea_ with ea_; subst ea_)); subst ec_; clear en_))
          have GB16 := Aside0.mk gb16; have GG16 := Aside0.mk HG16; clear gb16 gl16 HG16
          (first | simp only [add_plain] at hx129_0 | skip)
          obtain ⟨hx16_0, hf16_0⟩ := Kd.R_celln 0 HO_16.out ((rd l1 x19_1) : Int) p16 q16; replace p16 := eq_true p16; replace q16 := eq_true q16; have HP18 := Kd.R_putg HO_16.out ((rd l1 x19_1) : Int) (wrap64 ((rd x16_1 (rd l1 x19_1)) + 1))
          go_wp2_with (first | ((with_reducible refine gate_store (t := 3) (p := 28) rfl ?_); refine store_event (t := 3) (p := 28) (v := ?vo_w19) (w1 := (wr.setCell ⟨go16, ((rd l1 x19_1) : Int).toNat, none⟩ (.int .i64 (wrap64 ((rd x16_1 (rd l1 x19_1)) + 1))))) ?hg ?ho ?hn ?hr ?_; (case ho => rfl); (case hg => rfl); (case hn => rfl); (case hr => first | (go_simp; done) | (go_simp; rfl)); intro w19 hw; have hg : wr.grownBy w19 (some go16) := (by rw [hw]; exact HP18.2); have hp_ : Kd.R (Kd.int .i64) 3 w19 w.heap.size (fun k_ => some k_ ≠ (v123 : Value).ownBlock) (.slice (some ⟨go16, 0, none⟩) x16_1.length co17) y130 := (by rw [hw, Ny130.out]; exact HP18.1); clear HP18; have n0_ := Aside0.mk (Kd.R_after (v := (.slice (some ⟨go16, 0, none⟩) x16_1.length co17)) (v1 := (.slice (some ⟨go16, 0, none⟩) x16_1.length co17)) (ok := (fun _ => True)) (by (with_reducible repeat first|apply Qa|apply Qb|apply Qc); exact Kd.R_mono HO_14.out (fun _ hk => ⟨trivial, hk⟩)) hg (.inl rfl)); have n1_ := Aside0.mk (hp_); have n2_ := Aside0.mk ((by rw [hw]; exact below_set (HB.out) GB16.out : Below w.heap.size w w19)); clear HO_14; clear HO_16; clear HB; have HO_14 := n0_; have HO_16 := n1_; have HB := n2_; clear n0_ n1_ n2_; clear hg hw hp_))
          go_roundg k1
          case measure => have := HK1.out; omega
          case rel => exact ⟨(y130), (wrap64 (x19_1 + 1)), (rfl), H', ⟨by have := HK1.out; omega⟩, ⟨by (with_reducible repeat first|apply Qa|apply Qb|apply Qc); exact Kd.R_mono HO_14.out (fun _ hk => hk.2)⟩, ⟨by (with_reducible repeat first|apply Qa|apply Qb|apply Qc); exact HO_16.out⟩, ⟨HB.out⟩⟩
         (· (rw [if_neg c15] at H; exact absurd H (by simp)))
        (· (rw [if_neg c14] at H; exact absurd H (by simp)))
       (· (rw [if_neg c13] at H; exact absurd H (by simp)))
      (· (rw [if_neg c12] at H; exact absurd H (by simp)))
     ·rw [if_neg c11] at H
      have c11b0 : decide (x19_1 < (l1.length : Int)) = false := decide_eq_false c11; clear c11; have H' := Aside0.mk H; clear H; obtain ⟨Ao20, co20, eo20⟩ := Kd.R_slice HO_16.out; subst eo20
      go_wp2
      go_loopg [10, 32] k1 (fun kq v10 v32 w' => ∃ (x10_2 : Int) (x14_2 : List Int) (x16_2 : List Int) (x32_2 : Int), v10 = .int .i64 x10_2 ∧ v32 = .int .i64 x32_2 ∧ Aside0 (sais_buckets.l1 kq x10_2 x14_2 x16_2 (x16_1.length : Int) x32_2 = some (r1, r2)) ∧ Aside0 (kq ≤ k1) ∧ Aside0 (Kd.R (Kd.int .i64) 3 w' w.heap.size (fun k_ => some k_ ≠ ((.slice Ao20 x16_1.length co20) : Value).ownBlock) v123 x14_2) ∧ Aside0 (Kd.R (Kd.int .i64) 3 w' w.heap.size (fun k_ => some k_ ≠ (v123 : Value).ownBlock) (.slice Ao20 x16_1.length co20) x16_2) ∧ Aside0 (Below w.heap.size w w'))
      case atStart => exact ⟨(0), (y122), (x16_1), (0), (rfl), (rfl), H', ⟨Nat.le_refl _⟩, ⟨by (with_reducible repeat first|apply Qa|apply Qb|apply Qc); exact HO_14.out⟩, ⟨by (with_reducible repeat first|apply Qa|apply Qb|apply Qc); exact HO_16.out⟩, ⟨HB.out⟩⟩
      case round =>
       clear H'; obtain ⟨x10_2, x14_2, x16_2, x32_2, rfl, rfl, HA, HK2, HO_14, HO_16, HB⟩ := hrel; have hl16_2 := (Kd.R_reads' HO_16.out).1; rw [hl16_2] at HO_16; (try simp only [hl16_2]); (try simp only [hl16_2] at HO_14)
       cases gk with
       | zero => exact absurd HA.out (by simp [sais_buckets.l1])
       | succ k2 =>
        have H := HA.out; clear HA; simp only [sais_buckets.l1] at H
        by_cases c21 : x32_2 < (x16_1.length : Int)
        ·rw [if_pos c21] at H
         have c21b0 : decide (x32_2 < (x16_1.length : Int)) = true := decide_eq_true c21; (try (have c21z0 := c21b0; simp only [hl16_2] at c21z0)); clear c21
         by_cases c22 : 0 ≤ x32_2
         ·rw [if_pos c22] at H
          have c22b0 : decide (0 ≤ x32_2) = true := decide_eq_true c22; clear c22
          by_cases c23 : x32_2 < (x16_2.length : Int)
          ·rw [if_pos c23] at H
           have c23b0 : decide (x32_2 < (x16_2.length : Int)) = true := decide_eq_true c23; (try (have c23z0 := c23b0; simp only [hl16_2] at c23z0)); clear c23
           by_cases c24 : x32_2 < (x14_2.length : Int)
           ·rw [if_pos c24] at H
            have c24b0 : decide (x32_2 < (x14_2.length : Int)) = true := decide_eq_true c24; (try (have c24z0 := c24b0; simp only [hl16_2] at c24z0)); clear c24; obtain ⟨y132, hy132⟩ : ∃ y_ : List Int, y_ = (x14_2.set (x32_2 : Int).toNat x10_2) := ⟨_, rfl⟩
            replace H : (sais_buckets.l1 k2 (wrap64 (x10_2 + (rd x16_2 x32_2))) y132 (x16_2.set (x32_2 : Int).toNat (wrap64 (x10_2 + (rd x16_2 x32_2)))) (x16_1.length : Int) (wrap64 (x32_2 + 1))) = some (r1, r2) := by first | (rw [hy132]; with_reducible exact H) | (have H2_ := (Option.bind_some _ _).symm.trans H; rw [hy132]; with_reducible exact H2_) | (have H2_ := (Option.bind_some _ _).symm.trans H; with_reducible exact H2_) | with_reducible exact H | (rw [hy132]; exact H) | exact H
            have Ny132 := Aside0.mk hy132; clear hy132; obtain ⟨y133, hy133⟩ : ∃ y_ : List Int, y_ = (x16_2.set (x32_2 : Int).toNat (wrap64 (x10_2 + (rd x16_2 x32_2)))) := ⟨_, rfl⟩
            replace H : (sais_buckets.l1 k2 (wrap64 (x10_2 + (rd x16_2 x32_2))) y132 y133 (x16_1.length : Int) (wrap64 (x32_2 + 1))) = some (r1, r2) := by first | (rw [hy133]; with_reducible exact H) | (have H2_ := (Option.bind_some _ _).symm.trans H; rw [hy133]; with_reducible exact H2_) | (have H2_ := (Option.bind_some _ _).symm.trans H; with_reducible exact H2_) | with_reducible exact H | (rw [hy133]; exact H) | exact H
            have Ny133 := Aside0.mk hy133; clear hy133; have H' := Aside0.mk H; clear H; have p131 : 0 ≤ (x32_2 : Int) := Qt; have q131 : x32_2 < (x16_2.length : Int) := Qt; obtain ⟨ad131, e131, hx131_0⟩ := Kd.at_int (Kd.R_reads' HO_16.out).2.2 x32_2 p131 q131; cases e131; replace p131 := eq_true p131; replace q131 := eq_true q131; have p25 : 0 ≤ (x32_2 : Int) := Qt; have q25 : (x32_2 : Int) < ((x14_2.length : Int) : Int) := Qt; obtain ⟨go25, co25, eo25, gb25, gl25, cl25, HG25⟩ := Kd.R_form HO_14.out (by first | omega | (have e_ := (Kd.R_reads' HO_14.out).1; omega))
            (first | cases eo25 | (injection eo25 with ea_ en_ ec_; (first | subst ea_ | (injection ea_ with ea_; subst ea_)); subst ec_; clear en_))
            have GB25 := Aside0.mk gb25; have GG25 := Aside0.mk HG25; clear gb25 gl25 HG25; obtain ⟨hx25_0, hf25_0⟩ := Kd.R_celln 0 HO_14.out (x32_2 : Int) p25 q25; replace p25 := eq_true p25; replace q25 := eq_true q25; have HP27 := Kd.R_putg HO_14.out (x32_2 : Int) x10_2
            go_wp2_with (first | ((with_reducible refine gate_store (t := 3) (p := 40) rfl ?_); refine store_event (t := 3) (p := 40) (v := ?vo_w28) (w1 := (wr.setCell ⟨go25, (x32_2 : Int).toNat, none⟩ (.int .i64 x10_2))) ?hg ?ho ?hn ?hr ?_; (case ho => rfl); (case hg => rfl); (case hn => rfl); (case hr => first | (go_simp; done) | (go_simp; rfl)); intro w28 hw; have hg : wr.grownBy w28 (some go25) := (by rw [hw]; exact HP27.2); have hp_ : Kd.R (Kd.int .i64) 3 w28 w.heap.size (fun k_ => some k_ ≠ (.slice (some ad131) x16_2.length co20 : Value).ownBlock) (.slice (some ⟨go25, 0, none⟩) x14_2.length co25) y132 := (by rw [hw, Ny132.out]; exact HP27.1); clear HP27; have n0_ := Aside0.mk (hp_); have n1_ := Aside0.mk (Kd.R_after (v := (.slice (some ⟨go25, 0, none⟩) x14_2.length co25)) (v1 := (.slice (some ⟨go25, 0, none⟩) x14_2.length co25)) (ok := (fun _ => True)) (by (with_reducible repeat first|apply Qa|apply Qb|apply Qc); exact Kd.R_mono HO_16.out (fun _ hk => ⟨trivial, hk⟩)) hg (.inl rfl)); have n2_ := Aside0.mk ((by rw [hw]; exact below_set (HB.out) GB25.out : Below w.heap.size w w28)); clear HO_14; clear HO_16; clear HB; have HO_14 := n0_; have HO_16 := n1_; have HB := n2_; clear n0_ n1_ n2_; clear hg hw hp_; have p26 : 0 ≤ (x32_2 : Int) := Qt; have q26 : (x32_2 : Int) < ((x16_2.length : Int) : Int) := Qt; obtain ⟨go26, co26, eo26, gb26, gl26, cl26, HG26⟩ := Kd.R_form HO_16.out (by first | omega | (have e_ := (Kd.R_reads' HO_16.out).1; omega)); (first | cases eo26 | (injection eo26 with ea_ en_ ec_; (first | subst ea_ | (injection ea_ with ea_; subst ea_)); subst ec_; clear en_)); have GB26 := Aside0.mk gb26; have GG26 := Aside0.mk HG26; clear gb26 gl26 HG26; (first | simp only [add_plain] at hx131_0 | skip); obtain ⟨hx26_0, hf26_0⟩ := Kd.R_celln 0 HO_16.out (x32_2 : Int) p26 q26; replace p26 := eq_true p26; replace q26 := eq_true q26; have n_ := Aside0.mk (Kd.R_mono (ok' := (fun k_ => some k_ ≠ (.slice (some ⟨go25, 0, none⟩) x14_2.length co25 : Value).ownBlock)) HO_16.out (fun k_ hk => hk.2)); clear HO_16; have HO_16 := n_; clear n_; obtain ⟨hy29_, hz29_⟩ := Kd.R_celln 0 HO_16.out (x32_2 : Int) (Qt) (Qt); have HP29 := Kd.R_putg HO_16.out (x32_2 : Int) (wrap64 (x10_2 + (rd x16_2 x32_2)))) | ((with_reducible refine gate_store (t := 3) (p := 47) rfl ?_); refine store_event (t := 3) (p := 47) (v := ?vo_w30) (w1 := (w28.setCell ⟨go26, (x32_2 : Int).toNat, none⟩ (.int .i64 (wrap64 (x10_2 + (rd x16_2 x32_2)))))) ?hg ?ho ?hn ?hr ?_; (case ho => rfl); (case hg => rfl); (case hn => rfl); (case hr => first | (go_simp; done) | (go_simp; rfl)); intro w30 hw; have hg : w28.grownBy w30 (some go26) := (by rw [hw]; exact HP29.2); have hp_ : Kd.R (Kd.int .i64) 3 w30 w.heap.size (fun k_ => some k_ ≠ (.slice (some ⟨go25, 0, none⟩) x14_2.length co25 : Value).ownBlock) (.slice (some ⟨go26, 0, none⟩) x16_2.length co20) y133 := (by rw [hw, Ny133.out]; exact HP29.1); clear HP29; have n0_ := Aside0.mk (Kd.R_after (v := (.slice (some ⟨go26, 0, none⟩) x16_2.length co20)) (v1 := (.slice (some ⟨go26, 0, none⟩) x16_2.length co20)) (ok := (fun _ => True)) (by (with_reducible repeat first|apply Qa|apply Qb|apply Qc); exact Kd.R_mono HO_14.out (fun _ hk => ⟨trivial, hk⟩)) hg (.inl rfl)); have n1_ := Aside0.mk (hp_); have n2_ := Aside0.mk ((by rw [hw]; exact below_set (HB.out) GB26.out : Below w.heap.size w w30)); clear HO_14; clear HO_16; clear HB; have HO_14 := n0_; have HO_16 := n1_; have HB := n2_; clear n0_ n1_ n2_; clear hg hw hp_))
            (try simp only [← hl16_2])
            go_roundg k2
            case measure => have := HK1.out; have := HK2.out; omega
            case rel => exact ⟨(wrap64 (x10_2 + (rd x16_2 x32_2))), (y132), (y133), (wrap64 (x32_2 + 1)), (rfl), (rfl), H', ⟨by have := HK1.out; have := HK2.out; omega⟩, ⟨by (try simp only [hl16_2]); (with_reducible repeat first|apply Qa|apply Qb|apply Qc); exact Kd.R_mono HO_14.out (fun _ hk => hk.2)⟩, ⟨by (try simp only [hl16_2]); (with_reducible repeat first|apply Qa|apply Qb|apply Qc); exact HO_16.out⟩, ⟨HB.out⟩⟩
           (· (rw [if_neg c24] at H; exact absurd H (by simp)))
          (· (rw [if_neg c23] at H; exact absurd H (by simp)))
         (· (rw [if_neg c22] at H; exact absurd H (by simp)))
        ·rw [if_neg c21] at H
         have c21b0 : decide (x32_2 < (x16_1.length : Int)) = false := decide_eq_false c21; (try (have c21z0 := c21b0; simp only [hl16_2] at c21z0)); clear c21; simp only [Option.some.injEq, Prod.mk.injEq] at H; obtain ⟨rfl, rfl⟩ := H
         go_wp2
         go_ret2
         exact ⟨_, _, rfl, by (with_reducible repeat first|apply Qa|apply Qb|apply Qc); exact HO_14.out, by (with_reducible repeat first|apply Qa|apply Qb|apply Qc); exact HO_16.out, HB.out⟩
  (· (rw [if_neg c4] at H; exact absurd H (by simp)))
 (· (rw [if_neg c3] at H; exact absurd H (by simp)))
mutual
def sais_same.l0 : Nat → List Int → List Bool → Int → Int → Int → Int → Option (Bool)
 | 0, _, _, _, _, _, _ => none
 | k + 1, x0, x1, x2, x3, x9, x10 => if (wrap64 (x2 + x10)) ≥ x9 then (sais_same.j1 k x0 x1 x2 x3 x9 x10 (wrap64 (x2 + x10)) (wrap64 (x3 + x10)) true) else (sais_same.j1 k x0 x1 x2 x3 x9 x10 (wrap64 (x2 + x10)) (wrap64 (x3 + x10)) (decide ((wrap64 (x3 + x10)) ≥ x9)))
def sais_same.j1 : Nat → List Int → List Bool → Int → Int → Int → Int → Int → Int → Bool → Option (Bool)
 | 0, _, _, _, _, _, _, _, _, _ => none
 | k + 1, x0, x1, x2, x3, x9, x10, x11, x12, x30 => if x30 = true then (some false) else (if 0 ≤ x11 then (if x11 < (x0.length : Int) then (if 0 ≤ x12 then (if x12 < (x0.length : Int) then (if (rd x0 x11) = (rd x0 x12) then (if x11 < (x1.length : Int) then (if x12 < (x1.length : Int) then (sais_same.j2 k x0 x1 x2 x3 x9 x10 x11 x12 ((rdOf false x1 x11) != (rdOf false x1 x12))) else (none)) else (none)) else (sais_same.j2 k x0 x1 x2 x3 x9 x10 x11 x12 true)) else (none)) else (none)) else (none)) else (none))
def sais_same.j2 : Nat → List Int → List Bool → Int → Int → Int → Int → Int → Int → Bool → Option (Bool)
 | 0, _, _, _, _, _, _, _, _, _ => none
 | k + 1, x0, x1, x2, x3, x9, x10, x11, x12, x50 => if x50 = true then (some false) else (if x10 > 0 then ((sais_isTurn.f x1 x11).bind fun t189 => (if t189 = true then (sais_same.j3 k x0 x1 x2 x3 x9 x10 x11 x12 true) else ((sais_isTurn.f x1 x12).bind fun t190 => (sais_same.j3 k x0 x1 x2 x3 x9 x10 x11 x12 t190)))) else (sais_same.j3 k x0 x1 x2 x3 x9 x10 x11 x12 false))
def sais_same.j3 : Nat → List Int → List Bool → Int → Int → Int → Int → Int → Int → Bool → Option (Bool)
 | 0, _, _, _, _, _, _, _, _, _ => none
 | k + 1, x0, x1, x2, x3, x9, x10, x11, x12, x62 => if x62 = true then ((sais_isTurn.f x1 x11).bind fun t191 => (if t191 = true then ((sais_isTurn.f x1 x12).bind fun t192 => (some t192)) else (some false))) else (sais_same.l0 k x0 x1 x2 x3 x9 (wrap64 (x10 + 1)))
end
def sais_same.f (k : Nat) (l0 : List Int) (l1 : List Bool) (a2 : Int) (a3 : Int) : Option (Bool) := sais_same.l0 k l0 l1 a2 a3 (l0.length : Int) 0
theorem sais_same.mono_l : ∀ k, (∀ y0 y1 y2 y3 y4 y5, LeO (sais_same.l0 k y0 y1 y2 y3 y4 y5) (sais_same.l0 (k + 1) y0 y1 y2 y3 y4 y5)) ∧ (∀ y0 y1 y2 y3 y4 y5 y6 y7 y8, LeO (sais_same.j1 k y0 y1 y2 y3 y4 y5 y6 y7 y8) (sais_same.j1 (k + 1) y0 y1 y2 y3 y4 y5 y6 y7 y8)) ∧ (∀ y0 y1 y2 y3 y4 y5 y6 y7 y8, LeO (sais_same.j2 k y0 y1 y2 y3 y4 y5 y6 y7 y8) (sais_same.j2 (k + 1) y0 y1 y2 y3 y4 y5 y6 y7 y8)) ∧ (∀ y0 y1 y2 y3 y4 y5 y6 y7 y8, LeO (sais_same.j3 k y0 y1 y2 y3 y4 y5 y6 y7 y8) (sais_same.j3 (k + 1) y0 y1 y2 y3 y4 y5 y6 y7 y8))
 | 0 => ⟨fun _ _ _ _ _ _ r h => by simp [sais_same.l0] at h, fun _ _ _ _ _ _ _ _ _ r h => by simp [sais_same.j1] at h, fun _ _ _ _ _ _ _ _ _ r h => by simp [sais_same.j2] at h, fun _ _ _ _ _ _ _ _ _ r h => by simp [sais_same.j3] at h⟩
 | k + 1 => by
  obtain ⟨ih0, ih1, ih2, ih3⟩ := sais_same.mono_l k
  refine ⟨?_, ?_, ?_, ?_⟩
  intro y0 y1 y2 y3 y4 y5; unfold sais_same.l0; rotate_left
  intro y0 y1 y2 y3 y4 y5 y6 y7 y8; unfold sais_same.j1; rotate_left
  intro y0 y1 y2 y3 y4 y5 y6 y7 y8; unfold sais_same.j2; rotate_left
  intro y0 y1 y2 y3 y4 y5 y6 y7 y8; unfold sais_same.j3; rotate_left
  all_goals
   repeat' first
   | (with_reducible exact ih0 _ _ _ _ _ _)
   | (with_reducible exact ih1 _ _ _ _ _ _ _ _ _)
   | (with_reducible exact ih2 _ _ _ _ _ _ _ _ _)
   | (with_reducible exact ih3 _ _ _ _ _ _ _ _ _)
   | (with_reducible exact LeO.refl _)
   | (with_reducible exact LeO.none _)
   | (with_reducible refine LeO.ite ?_ ?_)
   | (with_reducible refine LeO.bind ?_ (fun _ => ?_))
   | exact ih0 _ _ _ _ _ _
   | exact ih1 _ _ _ _ _ _ _ _ _
   | exact ih2 _ _ _ _ _ _ _ _ _
   | exact ih3 _ _ _ _ _ _ _ _ _
   | exact LeO.none _
   | refine LeO.ite ?_ ?_
   | refine LeO.bind ?_ (fun _ => ?_)
theorem sais_same.mono : ∀ a0 a1 a2 a3 k, LeO (sais_same.f k a0 a1 a2 a3) (sais_same.f (k + 1) a0 a1 a2 a3) := by
 intro a0 a1 a2 a3 k
 obtain ⟨ih0, ih1, ih2, ih3⟩ := sais_same.mono_l k
 unfold sais_same.f
 repeat' first
   | (with_reducible exact ih0 _ _ _ _ _ _)
   | (with_reducible exact ih1 _ _ _ _ _ _ _ _ _)
   | (with_reducible exact ih2 _ _ _ _ _ _ _ _ _)
   | (with_reducible exact ih3 _ _ _ _ _ _ _ _ _)
   | (with_reducible exact LeO.refl _)
   | (with_reducible exact LeO.none _)
   | (with_reducible refine LeO.ite ?_ ?_)
   | (with_reducible refine LeO.bind ?_ (fun _ => ?_))
   | exact ih0 _ _ _ _ _ _
   | exact ih1 _ _ _ _ _ _ _ _ _
   | exact ih2 _ _ _ _ _ _ _ _ _
   | exact ih3 _ _ _ _ _ _ _ _ _
   | exact LeO.none _
   | refine LeO.ite ?_ ?_
   | refine LeO.bind ?_ (fun _ => ?_)
set_option maxHeartbeats 8000000 in
set_option maxRecDepth 100000 in
theorem sais_same.calls (k : Nat) (A0 : Option Addr) (c0 : Nat) (l0 : List Int) (A1 : Option Addr) (c1 : Nat) (l1 : List Bool) (a2 : Int) (a3 : Int) (r : Bool) (w : World) (hr0 : Kd.C (Kd.int .i64) w A0 l0.length l0) (hc0 : l0.length ≤ c0) (hr1 : Kd.C Kd.bool w A1 l1.length l1) (hc1 : l1.length ≤ c1) (h : sais_same.f k l0 l1 a2 a3 = some r) :
  Calls Try.prog 61 #[.slice A0 l0.length c0, .slice A1 l1.length c1, .int .i64 a2, .int .i64 a3] w fun e w' => e = .returned (.bool r) ∧ Drawn0 w w' := by
 have HR0 := Aside0.mk hr0; have HC0 := Aside0.mk hc0; clear hr0 hc0; have HR1 := Aside0.mk hr1; have HC1 := Aside0.mk hc1; clear hr1 hc1; have H : (sais_same.l0 k l0 l1 a2 a3 (l0.length : Int) 0) = some r := h; clear h; have H' := Aside0.mk H; clear H
 go_enter Try.func61, Try.ntmps61
 go_wp2
 (repeat (go_quiet (fail); try go_wp2))
 go_loopg [10] k (fun kq v10 w' => ∃ (x10_1 : Int), v10 = .int .i64 x10_1 ∧ Aside0 (sais_same.l0 kq l0 l1 a2 a3 (l0.length : Int) x10_1 = some r) ∧ Aside0 (kq ≤ k) ∧ Drawn0 w w')
 case atStart => exact ⟨(0), (rfl), H', ⟨Nat.le_refl _⟩, by repeat (first | exact Drawn0.refl _ | apply Drawn0.step)⟩
 case round =>
  clear H'; obtain ⟨x10_1, rfl, HA, HK1, ⟨m1, rfl⟩⟩ := hrel
  cases gk with
  | zero => exact absurd HA.out (by simp [sais_same.l0])
  | succ k1 =>
   have H := HA.out; clear HA; simp only [sais_same.l0] at H; have HC5 := Aside0.mk H; clear H
   go_upto_region 5 with (fail)
   (repeat (go_quiet (fail); go_upto_region 5 with (fail)))
   go_cut [30] (fun v30 wc => ∃ (kq : Nat) (x30_4 : Bool), v30 = .bool x30_4 ∧ Aside0 (sais_same.j1 kq l0 l1 a2 a3 (l0.length : Int) x10_1 (wrap64 (a2 + x10_1)) (wrap64 (a3 + x10_1)) x30_4 = some r) ∧ Aside0 (kq ≤ k1) ∧ Drawn0 w wc)
   case first =>
    have H := HC5.out; clear HC5
    by_cases c6 : (wrap64 (a2 + x10_1)) ≥ (l0.length : Int)
    ·rw [if_pos c6] at H
     have c6b0 : decide ((l0.length : Int) ≤ (wrap64 (a2 + x10_1))) = true := decide_eq_true c6; clear c6
     (first | rw [c6b0] | rw [c6b1] | (simp only [i64_w, i32_w]; rw [c6b0]) | skip)
     have H' := Aside0.mk H; clear H
     go_wp2
     (repeat (go_quiet (fail); try go_wp2))
     go_meet
     case rel => exact ⟨_, (true), (rfl), H', ⟨by have := HK1.out; first | omega | exact Nat.le_refl _⟩, by repeat (first | exact Drawn0.refl _ | apply Drawn0.step)⟩
    ·rw [if_neg c6] at H
     have c6b0 : decide ((l0.length : Int) ≤ (wrap64 (a2 + x10_1))) = false := decide_eq_false c6; clear c6
     (first | rw [c6b0] | rw [c6b1] | (simp only [i64_w, i32_w]; rw [c6b0]) | skip)
     have H' := Aside0.mk H; clear H
     go_wp2
     (repeat (go_quiet (fail); try go_wp2))
     go_meet
     case rel => exact ⟨_, (decide ((wrap64 (a3 + x10_1)) ≥ (l0.length : Int))), (rfl), H', ⟨by have := HK1.out; first | omega | exact Nat.le_refl _⟩, by repeat (first | exact Drawn0.refl _ | apply Drawn0.step)⟩
   case rest =>
    clear HC5; obtain ⟨kq, x30_4, rfl, HA, HJ4, ⟨mc4, rfl⟩⟩ := hcut
    cases kq with
    | zero => exact absurd HA.out (by simp [sais_same.j1])
    | succ kj4 =>
     have H := HA.out; clear HA; simp only [sais_same.j1] at H
     by_cases c7 : x30_4 = true
     ·subst c7
      have H1 : (some false) = some r := by rw [if_pos rfl] at H; exact H
      clear H; have H := H1; clear H1; obtain rfl := Option.some.inj H
      go_wp2
      (repeat (go_quiet (fail); try go_wp2))
      go_ret
      exact ⟨rfl, by repeat (first | exact Drawn0.refl _ | apply Drawn0.step)⟩
     ·replace c7 := Bool.eq_false_iff.mpr c7
      subst c7
      have H1 : (if 0 ≤ (wrap64 (a2 + x10_1)) then (if (wrap64 (a2 + x10_1)) < (l0.length : Int) then (if 0 ≤ (wrap64 (a3 + x10_1)) then (if (wrap64 (a3 + x10_1)) < (l0.length : Int) then (if (rd l0 (wrap64 (a2 + x10_1))) = (rd l0 (wrap64 (a3 + x10_1))) then (if (wrap64 (a2 + x10_1)) < (l1.length : Int) then (if (wrap64 (a3 + x10_1)) < (l1.length : Int) then (sais_same.j2 kj4 l0 l1 a2 a3 (l0.length : Int) x10_1 (wrap64 (a2 + x10_1)) (wrap64 (a3 + x10_1)) ((rdOf false l1 (wrap64 (a2 + x10_1))) != (rdOf false l1 (wrap64 (a3 + x10_1))))) else (none)) else (none)) else (sais_same.j2 kj4 l0 l1 a2 a3 (l0.length : Int) x10_1 (wrap64 (a2 + x10_1)) (wrap64 (a3 + x10_1)) true)) else (none)) else (none)) else (none)) else (none)) = some r := by rw [if_neg (show ¬ (false = true) by decide)] at H; exact H
      clear H; have H := H1; clear H1; have HC8 := Aside0.mk H; clear H
      go_upto_region 7 with (fail)
      (repeat (go_quiet (fail); go_upto_region 7 with (fail)))
      go_cut [50] (fun v50 wc => ∃ (kq : Nat) (x50_7 : Bool), v50 = .bool x50_7 ∧ Aside0 (sais_same.j2 kq l0 l1 a2 a3 (l0.length : Int) x10_1 (wrap64 (a2 + x10_1)) (wrap64 (a3 + x10_1)) x50_7 = some r) ∧ Aside0 (kq ≤ kj4) ∧ Drawn0 w wc)
      case first =>
       have H := HC8.out; clear HC8; obtain ⟨ji9, hji9⟩ : ∃ j_ : Int, (wrap64 (a2 + x10_1)) = j_ := ⟨_, rfl⟩
       replace H : (if 0 ≤ (ji9) then (if (ji9) < (l0.length : Int) then (if 0 ≤ (wrap64 (a3 + x10_1)) then (if (wrap64 (a3 + x10_1)) < (l0.length : Int) then (if (rd l0 (ji9)) = (rd l0 (wrap64 (a3 + x10_1))) then (if (ji9) < (l1.length : Int) then (if (wrap64 (a3 + x10_1)) < (l1.length : Int) then (sais_same.j2 kj4 l0 l1 a2 a3 (l0.length : Int) x10_1 (ji9) (wrap64 (a3 + x10_1)) ((rdOf false l1 (ji9)) != (rdOf false l1 (wrap64 (a3 + x10_1))))) else (none)) else (none)) else (sais_same.j2 kj4 l0 l1 a2 a3 (l0.length : Int) x10_1 (ji9) (wrap64 (a3 + x10_1)) true)) else (none)) else (none)) else (none)) else (none)) = some r := by first | (rw [hji9] at H; exact H) | (simp only [hji9] at H ⊢; exact H)
       have hji9w : (IntKind.i64.wrap (a2 + x10_1)) = ji9 := (i64_w _).trans hji9
       by_cases c10 : 0 ≤ (ji9)
       ·rw [if_pos c10] at H
        have c10b0 : decide (0 ≤ (ji9)) = true := decide_eq_true c10; clear c10
        (first | rw [c10b0] | rw [c10b1] | (simp only [i64_w, i32_w]; rw [c10b0]) | skip)
        by_cases c11 : (ji9) < (l0.length : Int)
        ·rw [if_pos c11] at H
         have c11b0 : decide ((ji9) < (l0.length : Int)) = true := decide_eq_true c11; clear c11; obtain ⟨ji12, hji12⟩ : ∃ j_ : Int, (wrap64 (a3 + x10_1)) = j_ := ⟨_, rfl⟩
         replace H : (if 0 ≤ (ji12) then (if (ji12) < (l0.length : Int) then (if (rd l0 (ji9)) = (rd l0 (ji12)) then (if (ji9) < (l1.length : Int) then (if (ji12) < (l1.length : Int) then (sais_same.j2 kj4 l0 l1 a2 a3 (l0.length : Int) x10_1 (ji9) (ji12) ((rdOf false l1 (ji9)) != (rdOf false l1 (ji12)))) else (none)) else (none)) else (sais_same.j2 kj4 l0 l1 a2 a3 (l0.length : Int) x10_1 (ji9) (ji12) true)) else (none)) else (none)) = some r := by first | (rw [hji12] at H; exact H) | (simp only [hji12] at H ⊢; exact H)
         have hji12w : (IntKind.i64.wrap (a3 + x10_1)) = ji12 := (i64_w _).trans hji12
         by_cases c13 : 0 ≤ (ji12)
         ·rw [if_pos c13] at H
          have c13b0 : decide (0 ≤ (ji12)) = true := decide_eq_true c13; clear c13
          by_cases c14 : (ji12) < (l0.length : Int)
          ·rw [if_pos c14] at H
           have c14b0 : decide ((ji12) < (l0.length : Int)) = true := decide_eq_true c14; clear c14
           by_cases c15 : (rd l0 (ji9)) = (rd l0 (ji12))
           ·rw [if_pos c15] at H
            have c15b0 : ((rd l0 (ji9)) == (rd l0 (ji12))) = true := beq_iff_eq.mpr c15; have c15b1 : ((rd l0 (ji9)) != (rd l0 (ji12))) = false := bne_eq_false_iff_eq.mpr c15; clear c15
            by_cases c16 : (ji9) < (l1.length : Int)
            ·rw [if_pos c16] at H
             have c16b0 : decide ((ji9) < (l1.length : Int)) = true := decide_eq_true c16; clear c16
             by_cases c17 : (ji12) < (l1.length : Int)
             ·rw [if_pos c17] at H
              have c17b0 : decide ((ji12) < (l1.length : Int)) = true := decide_eq_true c17; clear c17; have H' := Aside0.mk H; clear H; have p185 : 0 ≤ ((ji9) : Int) := Qt; have q185 : (ji9) < (l0.length : Int) := Qt; obtain ⟨ad185, e185, hx185_0⟩ := Kd.at_int HR0.out (ji9) p185 q185; cases e185; replace p185 := eq_true p185; replace q185 := eq_true q185; have p186 : 0 ≤ ((ji12) : Int) := Qt; have q186 : (ji12) < (l0.length : Int) := Qt; obtain ⟨ad186, e186, hx186_0⟩ := Kd.at_int HR0.out (ji12) p186 q186; obtain rfl : ad185 = ad186 := (by injection e186); replace p186 := eq_true p186; replace q186 := eq_true q186; have p187 : 0 ≤ ((ji9) : Int) := Qt; have q187 : (ji9) < (l1.length : Int) := Qt; obtain ⟨ad187, e187, hx187_0⟩ := Kd.at_bool HR1.out (ji9) p187 q187; cases e187; replace p187 := eq_true p187; replace q187 := eq_true q187; have p188 : 0 ≤ ((ji12) : Int) := Qt; have q188 : (ji12) < (l1.length : Int) := Qt; obtain ⟨ad188, e188, hx188_0⟩ := Kd.at_bool HR1.out (ji12) p188 q188; obtain rfl : ad187 = ad188 := (by injection e188); replace p188 := eq_true p188; replace q188 := eq_true q188
              go_wp2
              (repeat (go_quiet (fail); try go_wp2)); (try simp only [← hji9, ← hji12])
              go_meet
              case rel => exact ⟨_, (((rdOf false l1 (ji9)) != (rdOf false l1 (ji12)))), (by first | rfl | (simp; done) | (simp only [← hji9, ← hji12] <;> (first | rfl | simp)) | (simp [*]; done)), (by first | exact H' | (simp only [hji9, hji12]; exact H')), ⟨by have := HK1.out; have := HJ4.out; first | omega | exact Nat.le_refl _⟩, by repeat (first | exact Drawn0.refl _ | apply Drawn0.step)⟩
             (· (rw [if_neg c17] at H; exact absurd H (by simp)))
            (· (rw [if_neg c16] at H; exact absurd H (by simp)))
           ·rw [if_neg c15] at H
            have c15b0 : ((rd l0 (ji9)) == (rd l0 (ji12))) = false := beq_eq_false_iff_ne.mpr c15; have c15b1 : ((rd l0 (ji9)) != (rd l0 (ji12))) = true := bne_iff_ne.mpr c15; have H' := Aside0.mk H; clear H; have p185 : 0 ≤ ((ji9) : Int) := Qt; have q185 : (ji9) < (l0.length : Int) := Qt; obtain ⟨ad185, e185, hx185_0⟩ := Kd.at_int HR0.out (ji9) p185 q185; cases e185; replace p185 := eq_true p185; replace q185 := eq_true q185; have p186 : 0 ≤ ((ji12) : Int) := Qt; have q186 : (ji12) < (l0.length : Int) := Qt; obtain ⟨ad186, e186, hx186_0⟩ := Kd.at_int HR0.out (ji12) p186 q186; obtain rfl : ad185 = ad186 := (by injection e186); replace p186 := eq_true p186; replace q186 := eq_true q186
            go_wp2
            (repeat (go_quiet (fail); try go_wp2)); (try simp only [← hji9, ← hji12])
            go_meet
            case rel => exact ⟨_, (true), (rfl), (by first | exact H' | (simp only [hji9, hji12]; exact H')), ⟨by have := HK1.out; have := HJ4.out; first | omega | exact Nat.le_refl _⟩, by repeat (first | exact Drawn0.refl _ | apply Drawn0.step)⟩
          (· (rw [if_neg c14] at H; exact absurd H (by simp)))
         (· (rw [if_neg c13] at H; exact absurd H (by simp)))
        (· (rw [if_neg c11] at H; exact absurd H (by simp)))
       (· (rw [if_neg c10] at H; exact absurd H (by simp)))
      case rest =>
       clear HC8; obtain ⟨kq, x50_7, rfl, HA, HJ7, ⟨mc7, rfl⟩⟩ := hcut
       cases kq with
       | zero => exact absurd HA.out (by simp [sais_same.j2])
       | succ kj7 =>
        have H := HA.out; clear HA; simp only [sais_same.j2] at H
        by_cases c18 : x50_7 = true
        ·subst c18
         have H1 : (some false) = some r := by rw [if_pos rfl] at H; exact H
         clear H; have H := H1; clear H1; obtain rfl := Option.some.inj H
         go_wp2
         (repeat (go_quiet (fail); try go_wp2))
         go_ret
         exact ⟨rfl, by repeat (first | exact Drawn0.refl _ | apply Drawn0.step)⟩
        ·replace c18 := Bool.eq_false_iff.mpr c18
         subst c18
         have H1 : (if x10_1 > 0 then ((sais_isTurn.f l1 (wrap64 (a2 + x10_1))).bind fun t189 => (if t189 = true then (sais_same.j3 kj7 l0 l1 a2 a3 (l0.length : Int) x10_1 (wrap64 (a2 + x10_1)) (wrap64 (a3 + x10_1)) true) else ((sais_isTurn.f l1 (wrap64 (a3 + x10_1))).bind fun t190 => (sais_same.j3 kj7 l0 l1 a2 a3 (l0.length : Int) x10_1 (wrap64 (a2 + x10_1)) (wrap64 (a3 + x10_1)) t190)))) else (sais_same.j3 kj7 l0 l1 a2 a3 (l0.length : Int) x10_1 (wrap64 (a2 + x10_1)) (wrap64 (a3 + x10_1)) false)) = some r := by rw [if_neg (show ¬ (false = true) by decide)] at H; exact H
         clear H; have H := H1; clear H1; have HC19 := Aside0.mk H; clear H
         go_upto_region 9 with (fail)
         (repeat (go_quiet (fail); go_upto_region 9 with (fail)))
         go_cut [62] (fun v62 wc => ∃ (kq : Nat) (x62_18 : Bool), v62 = .bool x62_18 ∧ Aside0 (sais_same.j3 kq l0 l1 a2 a3 (l0.length : Int) x10_1 (wrap64 (a2 + x10_1)) (wrap64 (a3 + x10_1)) x62_18 = some r) ∧ Aside0 (kq ≤ kj7) ∧ Drawn0 w wc)
         case first =>
          have H := HC19.out; clear HC19
          by_cases c20 : x10_1 > 0
          ·rw [if_pos c20] at H
           have c20b0 : decide (0 < x10_1) = true := decide_eq_true c20; clear c20
           (first | rw [c20b0] | rw [c20b1] | (simp only [i64_w, i32_w]; rw [c20b0]) | skip)
           replace H := Option.bind_eq_some_iff.mp H; obtain ⟨t189, A210, H⟩ := H; replace H : (if t189 = true then (sais_same.j3 kj7 l0 l1 a2 a3 (l0.length : Int) x10_1 (wrap64 (a2 + x10_1)) (wrap64 (a3 + x10_1)) true) else ((sais_isTurn.f l1 (wrap64 (a3 + x10_1))).bind fun t190 => (sais_same.j3 kj7 l0 l1 a2 a3 (l0.length : Int) x10_1 (wrap64 (a2 + x10_1)) (wrap64 (a3 + x10_1)) t190))) = some r := H; have A21 := Aside0.mk A210; clear A210
           by_cases c22 : t189 = true
           ·subst c22
            have H1 : (sais_same.j3 kj7 l0 l1 a2 a3 (l0.length : Int) x10_1 (wrap64 (a2 + x10_1)) (wrap64 (a3 + x10_1)) true) = some r := by rw [if_pos rfl] at H; exact H
            clear H; have H := H1; clear H1; have H' := Aside0.mk H; clear H
            go_wp2_with (first | (go_at_call 60; (with_reducible refine (sais_isTurn.calls _ _ l1 (wrap64 (a2 + x10_1)) true _ ?side1 ?side2 A21.out).mono ?_); (case side1 => exact HR1.out); (case side2 => exact HC1.out); rintro e w' ⟨rfl, ⟨nd, rfl⟩⟩; (try first | exact ⟨rfl, _, World.drewN_drewN _ _ _⟩ | exact ⟨rfl, _, Eq.trans (World.drewN_drewN _ _ _) (congrArg (World.drewN _) (Nat.add_assoc _ _ _))⟩)))
            (repeat (go_quiet (fail); try go_wp2_with (fail)))
            go_meet
            case rel => exact ⟨_, (true), (rfl), H', ⟨by have := HK1.out; have := HJ4.out; have := HJ7.out; first | omega | exact Nat.le_refl _⟩, by repeat (first | exact Drawn0.refl _ | apply Drawn0.step)⟩
           ·replace c22 := Bool.eq_false_iff.mpr c22
            subst c22
            have H1 : ((sais_isTurn.f l1 (wrap64 (a3 + x10_1))).bind fun t190 => (sais_same.j3 kj7 l0 l1 a2 a3 (l0.length : Int) x10_1 (wrap64 (a2 + x10_1)) (wrap64 (a3 + x10_1)) t190)) = some r := by rw [if_neg (show ¬ (false = true) by decide)] at H; exact H
            clear H; have H := H1; clear H1; replace H := Option.bind_eq_some_iff.mp H; obtain ⟨t190, A230, H⟩ := H; replace H : (sais_same.j3 kj7 l0 l1 a2 a3 (l0.length : Int) x10_1 (wrap64 (a2 + x10_1)) (wrap64 (a3 + x10_1)) t190) = some r := H; have A23 := Aside0.mk A230; clear A230; have H' := Aside0.mk H; clear H
            go_wp2_with (first | (go_at_call 60; (with_reducible refine (sais_isTurn.calls _ _ l1 (wrap64 (a2 + x10_1)) false _ ?side1 ?side2 A21.out).mono ?_); (case side1 => exact HR1.out); (case side2 => exact HC1.out); rintro e w' ⟨rfl, ⟨nd, rfl⟩⟩; (try first | exact ⟨rfl, _, World.drewN_drewN _ _ _⟩ | exact ⟨rfl, _, Eq.trans (World.drewN_drewN _ _ _) (congrArg (World.drewN _) (Nat.add_assoc _ _ _))⟩)) | (go_at_call 60; (with_reducible refine (sais_isTurn.calls _ _ l1 (wrap64 (a3 + x10_1)) t190 _ ?side1 ?side2 A23.out).mono ?_); (case side1 => exact HR1.out); (case side2 => exact HC1.out); rintro e w' ⟨rfl, ⟨nd, rfl⟩⟩; (try first | exact ⟨rfl, _, World.drewN_drewN _ _ _⟩ | exact ⟨rfl, _, Eq.trans (World.drewN_drewN _ _ _) (congrArg (World.drewN _) (Nat.add_assoc _ _ _))⟩)))
            (repeat (go_quiet (fail); try go_wp2_with (fail)))
            go_meet
            case rel => exact ⟨_, (t190), (rfl), H', ⟨by have := HK1.out; have := HJ4.out; have := HJ7.out; first | omega | exact Nat.le_refl _⟩, by repeat (first | exact Drawn0.refl _ | apply Drawn0.step)⟩
          ·rw [if_neg c20] at H
           have c20b0 : decide (0 < x10_1) = false := decide_eq_false c20; clear c20
           (first | rw [c20b0] | rw [c20b1] | (simp only [i64_w, i32_w]; rw [c20b0]) | skip)
           have H' := Aside0.mk H; clear H
           go_wp2
           (repeat (go_quiet (fail); try go_wp2))
           go_meet
           case rel => exact ⟨_, (false), (rfl), H', ⟨by have := HK1.out; have := HJ4.out; have := HJ7.out; first | omega | exact Nat.le_refl _⟩, by repeat (first | exact Drawn0.refl _ | apply Drawn0.step)⟩
         case rest =>
          clear HC19; obtain ⟨kq, x62_18, rfl, HA, HJ18, ⟨mc18, rfl⟩⟩ := hcut
          cases kq with
          | zero => exact absurd HA.out (by simp [sais_same.j3])
          | succ kj18 =>
           have H := HA.out; clear HA; simp only [sais_same.j3] at H
           by_cases c24 : x62_18 = true
           ·subst c24
            have H1 : ((sais_isTurn.f l1 (wrap64 (a2 + x10_1))).bind fun t191 => (if t191 = true then ((sais_isTurn.f l1 (wrap64 (a3 + x10_1))).bind fun t192 => (some t192)) else (some false))) = some r := by rw [if_pos rfl] at H; exact H
            clear H; have H := H1; clear H1; replace H := Option.bind_eq_some_iff.mp H; obtain ⟨t191, A250, H⟩ := H; replace H : (if t191 = true then ((sais_isTurn.f l1 (wrap64 (a3 + x10_1))).bind fun t192 => (some t192)) else (some false)) = some r := H; have A25 := Aside0.mk A250; clear A250
            by_cases c26 : t191 = true
            ·subst c26
             have H1 : ((sais_isTurn.f l1 (wrap64 (a3 + x10_1))).bind fun t192 => (some t192)) = some r := by rw [if_pos rfl] at H; exact H
             clear H; have H := H1; clear H1; replace H := Option.bind_eq_some_iff.mp H; obtain ⟨t192, A270, H⟩ := H; replace H : (some t192) = some r := H; have A27 := Aside0.mk A270; clear A270; obtain rfl := Option.some.inj H
             go_wp2_with (first | (go_at_call 60; (with_reducible refine (sais_isTurn.calls _ _ l1 (wrap64 (a2 + x10_1)) true _ ?side1 ?side2 A25.out).mono ?_); (case side1 => exact HR1.out); (case side2 => exact HC1.out); rintro e w' ⟨rfl, ⟨nd, rfl⟩⟩; (try first | exact ⟨rfl, _, World.drewN_drewN _ _ _⟩ | exact ⟨rfl, _, Eq.trans (World.drewN_drewN _ _ _) (congrArg (World.drewN _) (Nat.add_assoc _ _ _))⟩)) | (go_at_call 60; (with_reducible refine (sais_isTurn.calls _ _ l1 (wrap64 (a3 + x10_1)) t192 _ ?side1 ?side2 A27.out).mono ?_); (case side1 => exact HR1.out); (case side2 => exact HC1.out); rintro e w' ⟨rfl, ⟨nd, rfl⟩⟩; (try first | exact ⟨rfl, _, World.drewN_drewN _ _ _⟩ | exact ⟨rfl, _, Eq.trans (World.drewN_drewN _ _ _) (congrArg (World.drewN _) (Nat.add_assoc _ _ _))⟩)))
             (repeat (go_quiet (fail); try go_wp2_with (fail)))
             go_ret
             exact ⟨rfl, by repeat (first | exact Drawn0.refl _ | apply Drawn0.step)⟩
            ·replace c26 := Bool.eq_false_iff.mpr c26
             subst c26
             have H1 : (some false) = some r := by rw [if_neg (show ¬ (false = true) by decide)] at H; exact H
             clear H; have H := H1; clear H1; obtain rfl := Option.some.inj H
             go_wp2_with (first | (go_at_call 60; (with_reducible refine (sais_isTurn.calls _ _ l1 (wrap64 (a2 + x10_1)) false _ ?side1 ?side2 A25.out).mono ?_); (case side1 => exact HR1.out); (case side2 => exact HC1.out); rintro e w' ⟨rfl, ⟨nd, rfl⟩⟩; (try first | exact ⟨rfl, _, World.drewN_drewN _ _ _⟩ | exact ⟨rfl, _, Eq.trans (World.drewN_drewN _ _ _) (congrArg (World.drewN _) (Nat.add_assoc _ _ _))⟩)))
             (repeat (go_quiet (fail); try go_wp2_with (fail)))
             go_ret
             exact ⟨rfl, by repeat (first | exact Drawn0.refl _ | apply Drawn0.step)⟩
           ·replace c24 := Bool.eq_false_iff.mpr c24
            subst c24
            have H1 : (sais_same.l0 kj18 l0 l1 a2 a3 (l0.length : Int) (wrap64 (x10_1 + 1))) = some r := by rw [if_neg (show ¬ (false = true) by decide)] at H; exact H
            clear H; have H := H1; clear H1; have H' := Aside0.mk H; clear H
            go_wp2
            (repeat (go_quiet (fail); try go_wp2))
            go_roundg kj18
            case measure => have := HK1.out; have := HJ4.out; have := HJ7.out; have := HJ18.out; omega
            case rel => exact ⟨(wrap64 (x10_1 + 1)), (rfl), H', ⟨by have := HK1.out; have := HJ4.out; have := HJ7.out; have := HJ18.out; omega⟩, by repeat (first | exact Drawn0.refl _ | apply Drawn0.step)⟩
end Go.Proofs.Ytobknpeglagaaaa.X
end
section
namespace Go.Proofs.Ytobknpeglagaaaa.X
open Go.RowKit Go.Proofs.YtobknpeglagaaaaW.PrintWords Go.Proofs.YtobknpeglagaaaaW.PrintLast Go.Proofs.YtobknpeglagaaaaW.PrintMore
section
variable {α β : Type} {d1 : Kd α} {d2 : Kd β} {e1 e2 b1 b2 : Nat} {w : World} {ok1 ok2 : Nat → Prop} {v1 v2 : Value} {xs : List α} {ys : List β}
theorem ne_type (h1 : d1.R e1 w b1 ok1 v1 xs) (h2 : d2.R e2 w b2 ok2 v2 ys) (hne : e1 ≠ e2) : ∀ k, some k = v1.ownBlock → some k ≠ v2.ownBlock := by
  intro k hk hk2
  obtain ⟨i1, o1⟩ := Kd.R_own h1
  obtain ⟨i2, o2⟩ := Kd.R_own h2
  obtain ⟨c1, hc1⟩ := own_typed o1 k hk.symm
  obtain ⟨c2, hc2⟩ := own_typed o2 k hk2.symm
  rw [hc1] at hc2
  injection hc2 with hc2
  injection hc2 with _ hc2
  exact hne hc2
end

def St (w w' : World) (g : Nat) (vD vA vR vL : Value) (d a rk l : List Int) : Prop :=
  Below w.heap.size w w' ∧ w.heap.size ≤ g ∧ w'.heap[g]? = some (.cells #[.bool true, vD, vA, vR, vL] 48 (0, 0)) ∧
  (Kd.int .u8).R 5 w' w.heap.size (fun k => some k = vD.ownBlock) vD d ∧ (Kd.int .i64).R 3 w' w.heap.size (fun k => some k = vA.ownBlock) vA a ∧
  (Kd.int .i64).R 3 w' w.heap.size (fun k => some k = vR.ownBlock) vR rk ∧ (Kd.int .i64).R 3 w' w.heap.size (fun k => some k = vL.ownBlock) vL l ∧
  vA.ownBlock ≠ vR.ownBlock ∧ vA.ownBlock ≠ vL.ownBlock ∧ vR.ownBlock ≠ vL.ownBlock

section
variable {w w1 w2 : World} {g : Nat} {vD vA vR vL : Value} {d a rk l r : List Int}
theorem St.hb (h : St w w1 g vD vA vR vL d a rk l) : Below w.heap.size w w1 := h.1
theorem St.D (h : St w w1 g vD vA vR vL d a rk l) : (Kd.int .u8).R 5 w1 w.heap.size (fun k => some k = vD.ownBlock) vD d := h.2.2.2.1
theorem St.A (h : St w w1 g vD vA vR vL d a rk l) : (Kd.int .i64).R 3 w1 w.heap.size (fun k => some k = vA.ownBlock) vA a := h.2.2.2.2.1
theorem St.R (h : St w w1 g vD vA vR vL d a rk l) : (Kd.int .i64).R 3 w1 w.heap.size (fun k => some k = vR.ownBlock) vR rk := h.2.2.2.2.2.1
theorem St.L (h : St w w1 g vD vA vR vL d a rk l) : (Kd.int .i64).R 3 w1 w.heap.size (fun k => some k = vL.ownBlock) vL l := h.2.2.2.2.2.2.1
theorem St.drewN (h : St w w1 g vD vA vR vL d a rk l) (n : Nat) : St w (w1.drewN n) g vD vA vR vL d a rk l := ⟨pw_below_drewN h.1 n, h.2⟩
theorem St.cells (h : St w w1 g vD vA vR vL d a rk l) : w1.cell? ⟨g, 1, none⟩ = some vD ∧ w1.cell? ⟨g, 2, none⟩ = some vA ∧ w1.cell? ⟨g, 3, none⟩ = some vR ∧ w1.cell? ⟨g, 4, none⟩ = some vL :=
  ⟨(blk_cell h.2.2.1 1).trans rfl, (blk_cell h.2.2.1 2).trans rfl, (blk_cell h.2.2.1 3).trans rfl, (blk_cell h.2.2.1 4).trans rfl⟩
theorem St.turnD (h : St w w1 g vD vA vR vL d a rk l) (hb : Below w.heap.size w w2) (hk : Kept w1 w2 (fun k => some k = vD.ownBlock)) (hr : (Kd.int .u8).R 5 w2 w.heap.size (fun k => some k = vD.ownBlock) vD r) : St w w2 g vD vA vR vL r a rk l := by
  obtain ⟨_, h2, h3, h4, h5, h6, h7, h8, h9, h10⟩ := h
  exact ⟨hb, h2, blk_kept h3 hk (Kd.R_ne h4 h3 (by decide)), hr, Kd.R_kept h5 hk (fun k e => ne_type h5 h4 (by decide) k e), Kd.R_kept h6 hk (fun k e => ne_type h6 h4 (by decide) k e), Kd.R_kept h7 hk (fun k e => ne_type h7 h4 (by decide) k e), h8, h9, h10⟩
theorem St.turnA (h : St w w1 g vD vA vR vL d a rk l) (hb : Below w.heap.size w w2) (hk : Kept w1 w2 (fun k => some k = vA.ownBlock)) (hr : (Kd.int .i64).R 3 w2 w.heap.size (fun k => some k = vA.ownBlock) vA r) : St w w2 g vD vA vR vL d r rk l := by
  obtain ⟨_, h2, h3, h4, h5, h6, h7, h8, h9, h10⟩ := h
  exact ⟨hb, h2, blk_kept h3 hk (Kd.R_ne h5 h3 (by decide)), Kd.R_kept h4 hk (fun k e => ne_type h4 h5 (by decide) k e), hr, Kd.R_kept h6 hk (fun k e e2 => h8 (e2.symm.trans e)), Kd.R_kept h7 hk (fun k e e2 => h9 (e2.symm.trans e)), h8, h9, h10⟩
theorem St.turnR (h : St w w1 g vD vA vR vL d a rk l) (hb : Below w.heap.size w w2) (hk : Kept w1 w2 (fun k => some k = vR.ownBlock)) (hr : (Kd.int .i64).R 3 w2 w.heap.size (fun k => some k = vR.ownBlock) vR r) : St w w2 g vD vA vR vL d a r l := by
  obtain ⟨_, h2, h3, h4, h5, h6, h7, h8, h9, h10⟩ := h
  exact ⟨hb, h2, blk_kept h3 hk (Kd.R_ne h6 h3 (by decide)), Kd.R_kept h4 hk (fun k e => ne_type h4 h6 (by decide) k e), Kd.R_kept h5 hk (fun k e e2 => h8 (e.symm.trans e2)), hr, Kd.R_kept h7 hk (fun k e e2 => h10 (e2.symm.trans e)), h8, h9, h10⟩
theorem St.turnL (h : St w w1 g vD vA vR vL d a rk l) (hb : Below w.heap.size w w2) (hk : Kept w1 w2 (fun k => some k = vL.ownBlock)) (hr : (Kd.int .i64).R 3 w2 w.heap.size (fun k => some k = vL.ownBlock) vL r) : St w w2 g vD vA vR vL d a rk r := by
  obtain ⟨_, h2, h3, h4, h5, h6, h7, h8, h9, h10⟩ := h
  exact ⟨hb, h2, blk_kept h3 hk (Kd.R_ne h7 h3 (by decide)), Kd.R_kept h4 hk (fun k e => ne_type h4 h7 (by decide) k e), Kd.R_kept h5 hk (fun k e e2 => h9 (e.symm.trans e2)), Kd.R_kept h6 hk (fun k e e2 => h10 (e.symm.trans e2)), hr, h8, h9, h10⟩
theorem St.putR {gr m c : Nat} (h : St w w1 g vD vA (.slice (some ⟨gr, 0, none⟩) m c) vL d a rk l) (i x : Int) : St w (w1.setCell ⟨gr, i.toNat, none⟩ (.int .i64 x)) g vD vA (.slice (some ⟨gr, 0, none⟩) m c) vL d a (rk.set i.toNat x) l := by
  have hp := Kd.R_putg h.R i x
  have hge : w.heap.size ≤ gr := Kd.R_base h.R gr rfl
  refine h.turnR (below_set h.hb hge) ?_ hp.1
  exact Kept.of_grown hp.2 (Kept.refl _ _) (fun k hk => .inl (by rw [← hk]; rfl))
theorem St.putL {gl m c : Nat} (h : St w w1 g vD vA vR (.slice (some ⟨gl, 0, none⟩) m c) d a rk l) (i x : Int) : St w (w1.setCell ⟨gl, i.toNat, none⟩ (.int .i64 x)) g vD vA vR (.slice (some ⟨gl, 0, none⟩) m c) d a rk (l.set i.toNat x) := by
  have hp := Kd.R_putg h.L i x
  have hge : w.heap.size ≤ gl := Kd.R_base h.L gl rfl
  refine h.turnL (below_set h.hb hge) ?_ hp.1
  exact Kept.of_grown hp.2 (Kept.refl _ _) (fun k hk => .inl (by rw [← hk]; rfl))
theorem St.toR (h : St w w1 g vD vA vR vL d a rk l) : k48.R 48 w1 w.heap.size (fun _ => True) (.slice (some ⟨g, 0, none⟩) 1 1) [⟨true, d, a, rk, l⟩] := by
  obtain ⟨h1, h2, h3, h4, h5, h6, h7, h8, h9, h10⟩ := h
  have hok : ∀ {e : Nat} {dd : Kd Int} {v : Value} {xs : List Int}, dd.R e w1 w.heap.size (fun k => some k = v.ownBlock) v xs → e ≠ 48 → dd.R e w1 w.heap.size (fun k => True ∧ some k ≠ (Value.slice (some ⟨g, 0, none⟩) 1 1).ownBlock) v xs := by
    intro e dd v xs hr hne
    exact Kd.R_mono hr (fun k hk => ⟨trivial, fun hk2 => by
      have : some g = v.ownBlock := by rw [← hk, hk2]; rfl
      exact Kd.R_ne hr h3 hne this⟩)
  refine ⟨fun _ _ => trivial, [.bool true, vD, vA, vR, vL], ?_, ?_⟩
  · exact ⟨rfl, .inr ⟨g, 1, _, rfl, h2, h3, Nat.le_refl _, by unfold maxLen; omega, rfl, rfl⟩⟩
  · exact Reps.c5 (k48_mkM w1 w.heap.size _ ⟨true, d, a, rk, l⟩ (hok h4 (by decide)) (hok h5 (by decide)) (hok h6 (by decide)) (hok h7 (by decide))) (Reps.none _ _)
theorem St.toC (h : St w w1 g vD vA vR vL d a rk l) : k48.C w1 (some ⟨g, 0, none⟩) 1 [⟨true, d, a, rk, l⟩] := by
  have := (Kd.R_reads' h.toR).2.2
  exact this
theorem S_of_one {α : Type} {dd : Kd α} {e base : Nat} {ok : Nat → Prop} {v : Value} {x : α} (h : dd.R e w base ok v [x]) : Kd.S dd e w base ok v [x] := by
  obtain ⟨h0, inner, ho, hr⟩ := h
  refine ⟨fun _ => 0, h0, inner, ho, ?_⟩
  refine ⟨hr.1, fun j p hj => ?_⟩
  have hj0 : j = 0 := by
    have := (List.getElem?_eq_some_iff.1 hj).1
    simpa using this
  subst hj0
  have hp : p = (x, 0) := by simpa using hj.symm
  subst hp
  have := hr.2 0 x rfl
  exact dd.M_mono (fun k hk => ⟨hk, rfl⟩) this
theorem St.toS (h : St w w1 g vD vA vR vL d a rk l) : Kd.S k48 48 w1 w.heap.size (fun _ => True) (.slice (some ⟨g, 0, none⟩) 1 1) [⟨true, d, a, rk, l⟩] := S_of_one h.toR
end
end Go.Proofs.Ytobknpeglagaaaa.X
end
section
namespace Go.Proofs.Ytobknpeglagaaaa.X
open Go.RowKit Go.Proofs.YtobknpeglagaaaaW.PrintWords Go.Proofs.YtobknpeglagaaaaW.PrintLast Go.Proofs.YtobknpeglagaaaaW.PrintMore
attribute [local go_sem] ptrOf_eql ptrOf_neq ptrOf_eqg ptrOf_neg str_leq str_geq str_gtr max2_int min2_int max_two min_two max_three min_three max_four min_four   -- for this text's walks alone
set_option linter.unusedVariables false
set_option linter.unusedSimpArgs false
def suffix_Index_same.l0 : Nat → List (S48) → Int → Int → Int → Option (Int)
 | 0, _, _, _, _ => none
 | k + 1, x0, x1, x2, x7 => if 0 < (x0.length : Int) then (if (wrap64 (x1 + x7)) < (((rd_T48 x0 0).f1).length : Int) then (if (wrap64 (x2 + x7)) < (((rd_T48 x0 0).f1).length : Int) then (if 0 ≤ (wrap64 (x1 + x7)) then (if 0 ≤ (wrap64 (x2 + x7)) then (if (rd ((rd_T48 x0 0).f1) (wrap64 (x1 + x7))) = (rd ((rd_T48 x0 0).f1) (wrap64 (x2 + x7))) then (suffix_Index_same.l0 k x0 x1 x2 (wrap64 (x7 + 1))) else (some x7)) else (none)) else (none)) else (some x7)) else (some x7)) else (none)
def suffix_Index_same.f (k : Nat) (l0 : List (S48)) (a1 : Int) (a2 : Int) : Option (Int) := suffix_Index_same.l0 k l0 a1 a2 0
theorem suffix_Index_same.mono_l : ∀ k, (∀ y0 y1 y2 y3, LeO (suffix_Index_same.l0 k y0 y1 y2 y3) (suffix_Index_same.l0 (k + 1) y0 y1 y2 y3))
 | 0 => fun _ _ _ _ r h => by simp [suffix_Index_same.l0] at h
 | k + 1 => by
  have ih0 := suffix_Index_same.mono_l k
  ·intro y0 y1 y2 y3
   unfold suffix_Index_same.l0
   repeat' first
   | (with_reducible exact ih0 _ _ _ _)
   | (with_reducible exact LeO.refl _)
   | (with_reducible exact LeO.none _)
   | (with_reducible refine LeO.ite ?_ ?_)
   | (with_reducible refine LeO.bind ?_ (fun _ => ?_))
   | exact ih0 _ _ _ _
   | exact LeO.none _
   | refine LeO.ite ?_ ?_
   | refine LeO.bind ?_ (fun _ => ?_)
theorem suffix_Index_same.mono : ∀ a0 a1 a2 k, LeO (suffix_Index_same.f k a0 a1 a2) (suffix_Index_same.f (k + 1) a0 a1 a2) := by
 intro a0 a1 a2 k
 have ih0 := suffix_Index_same.mono_l k
 unfold suffix_Index_same.f
 repeat' first
   | (with_reducible exact ih0 _ _ _ _)
   | (with_reducible exact LeO.refl _)
   | (with_reducible exact LeO.none _)
   | (with_reducible refine LeO.ite ?_ ?_)
   | (with_reducible refine LeO.bind ?_ (fun _ => ?_))
   | exact ih0 _ _ _ _
   | exact LeO.none _
   | refine LeO.ite ?_ ?_
   | refine LeO.bind ?_ (fun _ => ?_)
set_option maxHeartbeats 8000000 in
set_option maxRecDepth 100000 in
theorem suffix_Index_same.calls (k : Nat) (A0 : Option Addr) (c0 : Nat) (l0 : List (S48)) (a1 : Int) (a2 : Int) (r : Int) (w : World) (hr0 : Kd.C k48 w A0 l0.length l0) (hc0 : l0.length ≤ c0) (h : suffix_Index_same.f k l0 a1 a2 = some r) :
  Calls Try.prog 45 #[ptrOf (.slice A0 l0.length c0), .int .i64 a1, .int .i64 a2] w fun e w' => e = .returned (.int .i64 r) ∧ Drawn0 w w' := by
 have HR0 := Aside0.mk hr0; have HC0 := Aside0.mk hc0; clear hr0 hc0; have H : (suffix_Index_same.l0 k l0 a1 a2 0) = some r := h; clear h; have H' := Aside0.mk H; clear H
 go_enter Try.func45, Try.ntmps45
 go_wp2
 (repeat (go_quiet (fail); try go_wp2))
 go_loopg [7] k (fun kq v7 w' => ∃ (x7_1 : Int), v7 = .int .i64 x7_1 ∧ Aside0 (suffix_Index_same.l0 kq l0 a1 a2 x7_1 = some r) ∧ Aside0 (kq ≤ k) ∧ Drawn0 w w')
 case atStart => exact ⟨(0), (rfl), H', ⟨Nat.le_refl _⟩, by repeat (first | exact Drawn0.refl _ | apply Drawn0.step)⟩
 case round =>
  clear H'; obtain ⟨x7_1, rfl, HA, HK1, ⟨m1, rfl⟩⟩ := hrel
  cases gk with
  | zero => exact absurd HA.out (by simp [suffix_Index_same.l0])
  | succ k1 =>
   have H := HA.out; clear HA; simp only [suffix_Index_same.l0] at H
   by_cases c4 : 0 < (l0.length : Int)
   ·rw [if_pos c4] at H
    have c4b0 : decide (0 < (l0.length : Int)) = true := decide_eq_true c4; have c4b1 : decide (0 < l0.length) = true := decide_eq_true (by omega); clear c4
    by_cases c5 : (wrap64 (a1 + x7_1)) < (((rd_T48 l0 0).f1).length : Int)
    ·rw [if_pos c5] at H
     have c5b0 : decide ((wrap64 (a1 + x7_1)) < (((rd_T48 l0 0).f1).length : Int)) = true := decide_eq_true c5; clear c5
     by_cases c6 : (wrap64 (a2 + x7_1)) < (((rd_T48 l0 0).f1).length : Int)
     ·rw [if_pos c6] at H
      have c6b0 : decide ((wrap64 (a2 + x7_1)) < (((rd_T48 l0 0).f1).length : Int)) = true := decide_eq_true c6; clear c6; obtain ⟨ji7, hji7⟩ : ∃ j_ : Int, (wrap64 (a1 + x7_1)) = j_ := ⟨_, rfl⟩
      replace H : (if 0 ≤ (ji7) then (if 0 ≤ (wrap64 (a2 + x7_1)) then (if (rd ((rd_T48 l0 0).f1) (ji7)) = (rd ((rd_T48 l0 0).f1) (wrap64 (a2 + x7_1))) then (suffix_Index_same.l0 k1 l0 a1 a2 (wrap64 (x7_1 + 1))) else (some x7_1)) else (none)) else (none)) = some r := by first | (rw [hji7] at H; exact H) | (simp only [hji7] at H ⊢; exact H)
      (try rw [hji7] at c5b0); have hji7w : (IntKind.i64.wrap (a1 + x7_1)) = ji7 := (i64_w _).trans hji7
      by_cases c8 : 0 ≤ (ji7)
      ·rw [if_pos c8] at H
       have c8b0 : decide (0 ≤ (ji7)) = true := decide_eq_true c8; clear c8; obtain ⟨ji9, hji9⟩ : ∃ j_ : Int, (wrap64 (a2 + x7_1)) = j_ := ⟨_, rfl⟩
       replace H : (if 0 ≤ (ji9) then (if (rd ((rd_T48 l0 0).f1) (ji7)) = (rd ((rd_T48 l0 0).f1) (ji9)) then (suffix_Index_same.l0 k1 l0 a1 a2 (wrap64 (x7_1 + 1))) else (some x7_1)) else (none)) = some r := by first | (rw [hji9] at H; exact H) | (simp only [hji9] at H ⊢; exact H)
       (try rw [hji9] at c6b0); have hji9w : (IntKind.i64.wrap (a2 + x7_1)) = ji9 := (i64_w _).trans hji9
       by_cases c10 : 0 ≤ (ji9)
       ·rw [if_pos c10] at H
        have c10b0 : decide (0 ≤ (ji9)) = true := decide_eq_true c10; clear c10
        by_cases c11 : (rd ((rd_T48 l0 0).f1) (ji7)) = (rd ((rd_T48 l0 0).f1) (ji9))
        ·rw [if_pos c11] at H
         have c11b0 : ((rd ((rd_T48 l0 0).f1) (ji7)) == (rd ((rd_T48 l0 0).f1) (ji9))) = true := beq_iff_eq.mpr c11; have c11b1 : ((rd ((rd_T48 l0 0).f1) (ji7)) != (rd ((rd_T48 l0 0).f1) (ji9))) = false := bne_eq_false_iff_eq.mpr c11; clear c11; have H' := Aside0.mk H; clear H; have p251 : 0 ≤ (0 : Int) := (by omega); have q251 : 0 < (l0.length : Int) := Qt; obtain ⟨ad251, A251_1, c251_1, A251_2, c251_2, A251_3, c251_3, A251_4, c251_4, e251, hx251_0, hx251_1, hx251_2, hx251_3, hx251_4, hl251_1, hi251_1, hl251_2, hi251_2, hl251_3, hi251_3, hl251_4, hi251_4⟩ := at_T48 HR0.out 0 p251 q251; cases e251; have qi251 : (0 < l0.length) = True := eq_true (by omega); (try rw [show ((0 : Int)).toNat = 0 from rfl] at hx251_0); (try rw [show 0 * 5 = 0 from rfl] at hx251_0); (try rw [Addr.add_zero'] at hx251_0); (try rw [show ((0 : Int)).toNat = 0 from rfl] at hx251_1); (try rw [show 0 * 5 = 0 from rfl] at hx251_1); (try rw [Addr.add_zero'] at hx251_1); (try rw [show ((0 : Int)).toNat = 0 from rfl] at hx251_2); (try rw [show 0 * 5 = 0 from rfl] at hx251_2); (try rw [Addr.add_zero'] at hx251_2); (try rw [show ((0 : Int)).toNat = 0 from rfl] at hx251_3); (try rw [show 0 * 5 = 0 from rfl] at hx251_3); (try rw [Addr.add_zero'] at hx251_3); (try rw [show ((0 : Int)).toNat = 0 from rfl] at hx251_4); (try rw [show 0 * 5 = 0 from rfl] at hx251_4); (try rw [Addr.add_zero'] at hx251_4); have HR251_1 := Aside0.mk hi251_1; have HC251_1 := Aside0.mk hl251_1; clear hi251_1 hl251_1; have HR251_2 := Aside0.mk hi251_2; have HC251_2 := Aside0.mk hl251_2; clear hi251_2 hl251_2; have HR251_3 := Aside0.mk hi251_3; have HC251_3 := Aside0.mk hl251_3; clear hi251_3 hl251_3; have HR251_4 := Aside0.mk hi251_4; have HC251_4 := Aside0.mk hl251_4; clear hi251_4 hl251_4; replace p251 := eq_true p251; replace q251 := eq_true q251; have hpt251 : ptrOf (.slice (some ad251) l0.length c0) = .pointer (some ad251) := ptrOf_pos _ _ _ (Qt); have p252 : 0 ≤ (0 : Int) := (by omega); have q252 : 0 < (l0.length : Int) := Qt; obtain ⟨ad252, A252_1, c252_1, A252_2, c252_2, A252_3, c252_3, A252_4, c252_4, e252, hx252_0, hx252_1, hx252_2, hx252_3, hx252_4, hl252_1, hi252_1, hl252_2, hi252_2, hl252_3, hi252_3, hl252_4, hi252_4⟩ := at_T48 HR0.out 0 p252 q252; obtain rfl : ad251 = ad252 := (by injection e252); have qi252 : (0 < l0.length) = True := eq_true (by omega); (try rw [show ((0 : Int)).toNat = 0 from rfl] at hx252_0); (try rw [show 0 * 5 = 0 from rfl] at hx252_0); (try rw [Addr.add_zero'] at hx252_0); (try rw [show ((0 : Int)).toNat = 0 from rfl] at hx252_1); (try rw [show 0 * 5 = 0 from rfl] at hx252_1); (try rw [Addr.add_zero'] at hx252_1); (try rw [show ((0 : Int)).toNat = 0 from rfl] at hx252_2); (try rw [show 0 * 5 = 0 from rfl] at hx252_2); (try rw [Addr.add_zero'] at hx252_2); (try rw [show ((0 : Int)).toNat = 0 from rfl] at hx252_3); (try rw [show 0 * 5 = 0 from rfl] at hx252_3); (try rw [Addr.add_zero'] at hx252_3); (try rw [show ((0 : Int)).toNat = 0 from rfl] at hx252_4); (try rw [show 0 * 5 = 0 from rfl] at hx252_4); (try rw [Addr.add_zero'] at hx252_4); have HR252_1 := Aside0.mk hi252_1; have HC252_1 := Aside0.mk hl252_1; clear hi252_1 hl252_1; have HR252_2 := Aside0.mk hi252_2; have HC252_2 := Aside0.mk hl252_2; clear hi252_2 hl252_2; have HR252_3 := Aside0.mk hi252_3; have HC252_3 := Aside0.mk hl252_3; clear hi252_3 hl252_3; have HR252_4 := Aside0.mk hi252_4; have HC252_4 := Aside0.mk hl252_4; clear hi252_4 hl252_4; replace p252 := eq_true p252; replace q252 := eq_true q252; have ea_ := Option.some.inj (hx251_1.symm.trans hx252_1)
         injection ea_ with ea_ en_ ec_
         subst ea_; subst ec_; clear en_; have ea_ := Option.some.inj (hx251_2.symm.trans hx252_2)
         injection ea_ with ea_ en_ ec_
         subst ea_; subst ec_; clear en_; have ea_ := Option.some.inj (hx251_3.symm.trans hx252_3)
         injection ea_ with ea_ en_ ec_
         subst ea_; subst ec_; clear en_; have ea_ := Option.some.inj (hx251_4.symm.trans hx252_4)
         injection ea_ with ea_ en_ ec_
         subst ea_; subst ec_; clear en_; have hpt252 : ptrOf (.slice (some ad251) l0.length c0) = .pointer (some ad251) := ptrOf_pos _ _ _ (Qt); have p253 : 0 ≤ (0 : Int) := (by omega); have q253 : 0 < (l0.length : Int) := Qt; obtain ⟨ad253, A253_1, c253_1, A253_2, c253_2, A253_3, c253_3, A253_4, c253_4, e253, hx253_0, hx253_1, hx253_2, hx253_3, hx253_4, hl253_1, hi253_1, hl253_2, hi253_2, hl253_3, hi253_3, hl253_4, hi253_4⟩ := at_T48 HR0.out 0 p253 q253; obtain rfl : ad251 = ad253 := (by injection e253); have qi253 : (0 < l0.length) = True := eq_true (by omega); (try rw [show ((0 : Int)).toNat = 0 from rfl] at hx253_0); (try rw [show 0 * 5 = 0 from rfl] at hx253_0); (try rw [Addr.add_zero'] at hx253_0); (try rw [show ((0 : Int)).toNat = 0 from rfl] at hx253_1); (try rw [show 0 * 5 = 0 from rfl] at hx253_1); (try rw [Addr.add_zero'] at hx253_1); (try rw [show ((0 : Int)).toNat = 0 from rfl] at hx253_2); (try rw [show 0 * 5 = 0 from rfl] at hx253_2); (try rw [Addr.add_zero'] at hx253_2); (try rw [show ((0 : Int)).toNat = 0 from rfl] at hx253_3); (try rw [show 0 * 5 = 0 from rfl] at hx253_3); (try rw [Addr.add_zero'] at hx253_3); (try rw [show ((0 : Int)).toNat = 0 from rfl] at hx253_4); (try rw [show 0 * 5 = 0 from rfl] at hx253_4); (try rw [Addr.add_zero'] at hx253_4); have HR253_1 := Aside0.mk hi253_1; have HC253_1 := Aside0.mk hl253_1; clear hi253_1 hl253_1; have HR253_2 := Aside0.mk hi253_2; have HC253_2 := Aside0.mk hl253_2; clear hi253_2 hl253_2; have HR253_3 := Aside0.mk hi253_3; have HC253_3 := Aside0.mk hl253_3; clear hi253_3 hl253_3; have HR253_4 := Aside0.mk hi253_4; have HC253_4 := Aside0.mk hl253_4; clear hi253_4 hl253_4; replace p253 := eq_true p253; replace q253 := eq_true q253; have ea_ := Option.some.inj (hx251_1.symm.trans hx253_1)
         injection ea_ with ea_ en_ ec_
         subst ea_; subst ec_; clear en_; have ea_ := Option.some.inj (hx251_2.symm.trans hx253_2)
         injection ea_ with ea_ en_ ec_
         subst ea_; subst ec_; clear en_; have ea_ := Option.some.inj (hx251_3.symm.trans hx253_3)
         injection ea_ with ea_ en_ ec_
         subst ea_; subst ec_; clear en_; have ea_ := Option.some.inj (hx251_4.symm.trans hx253_4)
         injection ea_ with ea_ en_ ec_
         subst ea_; subst ec_; clear en_; have hpt253 : ptrOf (.slice (some ad251) l0.length c0) = .pointer (some ad251) := ptrOf_pos _ _ _ (Qt); have p254 : 0 ≤ ((ji7) : Int) := Qt; have q254 : (ji7) < (((rd_T48 l0 0).f1).length : Int) := Qt; obtain ⟨ad254, e254, hx254_0⟩ := Kd.at_int HR253_1.out (ji7) p254 q254; cases e254; replace p254 := eq_true p254; replace q254 := eq_true q254; have p255 : 0 ≤ (0 : Int) := (by omega); have q255 : 0 < (l0.length : Int) := Qt; obtain ⟨ad255, A255_1, c255_1, A255_2, c255_2, A255_3, c255_3, A255_4, c255_4, e255, hx255_0, hx255_1, hx255_2, hx255_3, hx255_4, hl255_1, hi255_1, hl255_2, hi255_2, hl255_3, hi255_3, hl255_4, hi255_4⟩ := at_T48 HR0.out 0 p255 q255; obtain rfl : ad251 = ad255 := (by injection e255); have qi255 : (0 < l0.length) = True := eq_true (by omega); (try rw [show ((0 : Int)).toNat = 0 from rfl] at hx255_0); (try rw [show 0 * 5 = 0 from rfl] at hx255_0); (try rw [Addr.add_zero'] at hx255_0); (try rw [show ((0 : Int)).toNat = 0 from rfl] at hx255_1); (try rw [show 0 * 5 = 0 from rfl] at hx255_1); (try rw [Addr.add_zero'] at hx255_1); (try rw [show ((0 : Int)).toNat = 0 from rfl] at hx255_2); (try rw [show 0 * 5 = 0 from rfl] at hx255_2); (try rw [Addr.add_zero'] at hx255_2); (try rw [show ((0 : Int)).toNat = 0 from rfl] at hx255_3); (try rw [show 0 * 5 = 0 from rfl] at hx255_3); (try rw [Addr.add_zero'] at hx255_3); (try rw [show ((0 : Int)).toNat = 0 from rfl] at hx255_4); (try rw [show 0 * 5 = 0 from rfl] at hx255_4); (try rw [Addr.add_zero'] at hx255_4); have HR255_1 := Aside0.mk hi255_1; have HC255_1 := Aside0.mk hl255_1; clear hi255_1 hl255_1; have HR255_2 := Aside0.mk hi255_2; have HC255_2 := Aside0.mk hl255_2; clear hi255_2 hl255_2; have HR255_3 := Aside0.mk hi255_3; have HC255_3 := Aside0.mk hl255_3; clear hi255_3 hl255_3; have HR255_4 := Aside0.mk hi255_4; have HC255_4 := Aside0.mk hl255_4; clear hi255_4 hl255_4; replace p255 := eq_true p255; replace q255 := eq_true q255; have ea_ := Option.some.inj (hx251_1.symm.trans hx255_1)
         injection ea_ with ea_ en_ ec_
         subst ea_; subst ec_; clear en_; have ea_ := Option.some.inj (hx251_2.symm.trans hx255_2)
         injection ea_ with ea_ en_ ec_
         subst ea_; subst ec_; clear en_; have ea_ := Option.some.inj (hx251_3.symm.trans hx255_3)
         injection ea_ with ea_ en_ ec_
         subst ea_; subst ec_; clear en_; have ea_ := Option.some.inj (hx251_4.symm.trans hx255_4)
         injection ea_ with ea_ en_ ec_
         subst ea_; subst ec_; clear en_; have hpt255 : ptrOf (.slice (some ad251) l0.length c0) = .pointer (some ad251) := ptrOf_pos _ _ _ (Qt); have p256 : 0 ≤ ((ji9) : Int) := Qt; have q256 : (ji9) < (((rd_T48 l0 0).f1).length : Int) := Qt; obtain ⟨ad256, e256, hx256_0⟩ := Kd.at_int HR255_1.out (ji9) p256 q256; cases e256; replace p256 := eq_true p256; replace q256 := eq_true q256
         go_wp2
         (repeat (go_quiet (fail); try go_wp2)); (try (have Nhpt251 := Aside0.mk hpt251; clear hpt251; rw [← Nhpt251.out])); (try clear hpt255)
         go_roundg k1
         case measure => have := HK1.out; omega
         case rel => exact ⟨(wrap64 (x7_1 + 1)), (rfl), H', ⟨by have := HK1.out; omega⟩, by repeat (first | exact Drawn0.refl _ | apply Drawn0.step)⟩
        ·rw [if_neg c11] at H
         have c11b0 : ((rd ((rd_T48 l0 0).f1) (ji7)) == (rd ((rd_T48 l0 0).f1) (ji9))) = false := beq_eq_false_iff_ne.mpr c11; have c11b1 : ((rd ((rd_T48 l0 0).f1) (ji7)) != (rd ((rd_T48 l0 0).f1) (ji9))) = true := bne_iff_ne.mpr c11; obtain rfl := Option.some.inj H; have p251 : 0 ≤ (0 : Int) := (by omega); have q251 : 0 < (l0.length : Int) := Qt; obtain ⟨ad251, A251_1, c251_1, A251_2, c251_2, A251_3, c251_3, A251_4, c251_4, e251, hx251_0, hx251_1, hx251_2, hx251_3, hx251_4, hl251_1, hi251_1, hl251_2, hi251_2, hl251_3, hi251_3, hl251_4, hi251_4⟩ := at_T48 HR0.out 0 p251 q251; cases e251; have qi251 : (0 < l0.length) = True := eq_true (by omega); (try rw [show ((0 : Int)).toNat = 0 from rfl] at hx251_0); (try rw [show 0 * 5 = 0 from rfl] at hx251_0); (try rw [Addr.add_zero'] at hx251_0); (try rw [show ((0 : Int)).toNat = 0 from rfl] at hx251_1); (try rw [show 0 * 5 = 0 from rfl] at hx251_1); (try rw [Addr.add_zero'] at hx251_1); (try rw [show ((0 : Int)).toNat = 0 from rfl] at hx251_2); (try rw [show 0 * 5 = 0 from rfl] at hx251_2); (try rw [Addr.add_zero'] at hx251_2); (try rw [show ((0 : Int)).toNat = 0 from rfl] at hx251_3); (try rw [show 0 * 5 = 0 from rfl] at hx251_3); (try rw [Addr.add_zero'] at hx251_3); (try rw [show ((0 : Int)).toNat = 0 from rfl] at hx251_4); (try rw [show 0 * 5 = 0 from rfl] at hx251_4); (try rw [Addr.add_zero'] at hx251_4); have HR251_1 := Aside0.mk hi251_1; have HC251_1 := Aside0.mk hl251_1; clear hi251_1 hl251_1; have HR251_2 := Aside0.mk hi251_2; have HC251_2 := Aside0.mk hl251_2; clear hi251_2 hl251_2; have HR251_3 := Aside0.mk hi251_3; have HC251_3 := Aside0.mk hl251_3; clear hi251_3 hl251_3; have HR251_4 := Aside0.mk hi251_4; have HC251_4 := Aside0.mk hl251_4; clear hi251_4 hl251_4; replace p251 := eq_true p251; replace q251 := eq_true q251; have hpt251 : ptrOf (.slice (some ad251) l0.length c0) = .pointer (some ad251) := ptrOf_pos _ _ _ (Qt); have p252 : 0 ≤ (0 : Int) := (by omega); have q252 : 0 < (l0.length : Int) := Qt; obtain ⟨ad252, A252_1, c252_1, A252_2, c252_2, A252_3, c252_3, A252_4, c252_4, e252, hx252_0, hx252_1, hx252_2, hx252_3, hx252_4, hl252_1, hi252_1, hl252_2, hi252_2, hl252_3, hi252_3, hl252_4, hi252_4⟩ := at_T48 HR0.out 0 p252 q252; obtain rfl : ad251 = ad252 := (by injection e252); have qi252 : (0 < l0.length) = True := eq_true (by omega); (try rw [show ((0 : Int)).toNat = 0 from rfl] at hx252_0); (try rw [show 0 * 5 = 0 from rfl] at hx252_0); (try rw [Addr.add_zero'] at hx252_0); (try rw [show ((0 : Int)).toNat = 0 from rfl] at hx252_1); (try rw [show 0 * 5 = 0 from rfl] at hx252_1); (try rw [Addr.add_zero'] at hx252_1); (try rw [show ((0 : Int)).toNat = 0 from rfl] at hx252_2); (try rw [show 0 * 5 = 0 from rfl] at hx252_2); (try rw [Addr.add_zero'] at hx252_2); (try rw [show ((0 : Int)).toNat = 0 from rfl] at hx252_3); (try rw [show 0 * 5 = 0 from rfl] at hx252_3); (try rw [Addr.add_zero'] at hx252_3); (try rw [show ((0 : Int)).toNat = 0 from rfl] at hx252_4); (try rw [show 0 * 5 = 0 from rfl] at hx252_4); (try rw [Addr.add_zero'] at hx252_4); have HR252_1 := Aside0.mk hi252_1; have HC252_1 := Aside0.mk hl252_1; clear hi252_1 hl252_1; have HR252_2 := Aside0.mk hi252_2; have HC252_2 := Aside0.mk hl252_2; clear hi252_2 hl252_2; have HR252_3 := Aside0.mk hi252_3; have HC252_3 := Aside0.mk hl252_3; clear hi252_3 hl252_3; have HR252_4 := Aside0.mk hi252_4; have HC252_4 := Aside0.mk hl252_4; clear hi252_4 hl252_4; replace p252 := eq_true p252; replace q252 := eq_true q252; have ea_ := Option.some.inj (hx251_1.symm.trans hx252_1)
         injection ea_ with ea_ en_ ec_
         subst ea_; subst ec_; clear en_; have ea_ := Option.some.inj (hx251_2.symm.trans hx252_2)
         injection ea_ with ea_ en_ ec_
         subst ea_; subst ec_; clear en_; have ea_ := Option.some.inj (hx251_3.symm.trans hx252_3)
         injection ea_ with ea_ en_ ec_
         subst ea_; subst ec_; clear en_; have ea_ := Option.some.inj (hx251_4.symm.trans hx252_4)
         injection ea_ with ea_ en_ ec_
         subst ea_; subst ec_; clear en_; have hpt252 : ptrOf (.slice (some ad251) l0.length c0) = .pointer (some ad251) := ptrOf_pos _ _ _ (Qt); have p253 : 0 ≤ (0 : Int) := (by omega); have q253 : 0 < (l0.length : Int) := Qt; obtain ⟨ad253, A253_1, c253_1, A253_2, c253_2, A253_3, c253_3, A253_4, c253_4, e253, hx253_0, hx253_1, hx253_2, hx253_3, hx253_4, hl253_1, hi253_1, hl253_2, hi253_2, hl253_3, hi253_3, hl253_4, hi253_4⟩ := at_T48 HR0.out 0 p253 q253; obtain rfl : ad251 = ad253 := (by injection e253); have qi253 : (0 < l0.length) = True := eq_true (by omega); (try rw [show ((0 : Int)).toNat = 0 from rfl] at hx253_0); (try rw [show 0 * 5 = 0 from rfl] at hx253_0); (try rw [Addr.add_zero'] at hx253_0); (try rw [show ((0 : Int)).toNat = 0 from rfl] at hx253_1); (try rw [show 0 * 5 = 0 from rfl] at hx253_1); (try rw [Addr.add_zero'] at hx253_1); (try rw [show ((0 : Int)).toNat = 0 from rfl] at hx253_2); (try rw [show 0 * 5 = 0 from rfl] at hx253_2); (try rw [Addr.add_zero'] at hx253_2); (try rw [show ((0 : Int)).toNat = 0 from rfl] at hx253_3); (try rw [show 0 * 5 = 0 from rfl] at hx253_3); (try rw [Addr.add_zero'] at hx253_3); (try rw [show ((0 : Int)).toNat = 0 from rfl] at hx253_4); (try rw [show 0 * 5 = 0 from rfl] at hx253_4); (try rw [Addr.add_zero'] at hx253_4); have HR253_1 := Aside0.mk hi253_1; have HC253_1 := Aside0.mk hl253_1; clear hi253_1 hl253_1; have HR253_2 := Aside0.mk hi253_2; have HC253_2 := Aside0.mk hl253_2; clear hi253_2 hl253_2; have HR253_3 := Aside0.mk hi253_3; have HC253_3 := Aside0.mk hl253_3; clear hi253_3 hl253_3; have HR253_4 := Aside0.mk hi253_4; have HC253_4 := Aside0.mk hl253_4; clear hi253_4 hl253_4; replace p253 := eq_true p253; replace q253 := eq_true q253; have ea_ := Option.some.inj (hx251_1.symm.trans hx253_1)
         injection ea_ with ea_ en_ ec_
         subst ea_; subst ec_; clear en_; have ea_ := Option.some.inj (hx251_2.symm.trans hx253_2)
         injection ea_ with ea_ en_ ec_
         subst ea_; subst ec_; clear en_; have ea_ := Option.some.inj (hx251_3.symm.trans hx253_3)
         injection ea_ with ea_ en_ ec_
         subst ea_; subst ec_; clear en_; have ea_ := Option.some.inj (hx251_4.symm.trans hx253_4)
         injection ea_ with ea_ en_ ec_
         subst ea_; subst ec_; clear en_; have hpt253 : ptrOf (.slice (some ad251) l0.length c0) = .pointer (some ad251) := ptrOf_pos _ _ _ (Qt); have p254 : 0 ≤ ((ji7) : Int) := Qt; have q254 : (ji7) < (((rd_T48 l0 0).f1).length : Int) := Qt; obtain ⟨ad254, e254, hx254_0⟩ := Kd.at_int HR253_1.out (ji7) p254 q254; cases e254; replace p254 := eq_true p254; replace q254 := eq_true q254; have p255 : 0 ≤ (0 : Int) := (by omega); have q255 : 0 < (l0.length : Int) := Qt; obtain ⟨ad255, A255_1, c255_1, A255_2, c255_2, A255_3, c255_3, A255_4, c255_4, e255, hx255_0, hx255_1, hx255_2, hx255_3, hx255_4, hl255_1, hi255_1, hl255_2, hi255_2, hl255_3, hi255_3, hl255_4, hi255_4⟩ := at_T48 HR0.out 0 p255 q255; obtain rfl : ad251 = ad255 := (by injection e255); have qi255 : (0 < l0.length) = True := eq_true (by omega); (try rw [show ((0 : Int)).toNat = 0 from rfl] at hx255_0); (try rw [show 0 * 5 = 0 from rfl] at hx255_0); (try rw [Addr.add_zero'] at hx255_0); (try rw [show ((0 : Int)).toNat = 0 from rfl] at hx255_1); (try rw [show 0 * 5 = 0 from rfl] at hx255_1); (try rw [Addr.add_zero'] at hx255_1); (try rw [show ((0 : Int)).toNat = 0 from rfl] at hx255_2); (try rw [show 0 * 5 = 0 from rfl] at hx255_2); (try rw [Addr.add_zero'] at hx255_2); (try rw [show ((0 : Int)).toNat = 0 from rfl] at hx255_3); (try rw [show 0 * 5 = 0 from rfl] at hx255_3); (try rw [Addr.add_zero'] at hx255_3); (try rw [show ((0 : Int)).toNat = 0 from rfl] at hx255_4); (try rw [show 0 * 5 = 0 from rfl] at hx255_4); (try rw [Addr.add_zero'] at hx255_4); have HR255_1 := Aside0.mk hi255_1; have HC255_1 := Aside0.mk hl255_1; clear hi255_1 hl255_1; have HR255_2 := Aside0.mk hi255_2; have HC255_2 := Aside0.mk hl255_2; clear hi255_2 hl255_2; have HR255_3 := Aside0.mk hi255_3; have HC255_3 := Aside0.mk hl255_3; clear hi255_3 hl255_3; have HR255_4 := Aside0.mk hi255_4; have HC255_4 := Aside0.mk hl255_4; clear hi255_4 hl255_4; replace p255 := eq_true p255; replace q255 := eq_true q255; have ea_ := Option.some.inj (hx251_1.symm.trans hx255_1)
         injection ea_ with ea_ en_ ec_
         subst ea_; subst ec_; clear en_; have ea_ := Option.some.inj (hx251_2.symm.trans hx255_2)
         injection ea_ with ea_ en_ ec_
         subst ea_; subst ec_; clear en_; have ea_ := Option.some.inj (hx251_3.symm.trans hx255_3)
         injection ea_ with ea_ en_ ec_
         subst ea_; subst ec_; clear en_; have ea_ := Option.some.inj (hx251_4.symm.trans hx255_4)
         injection ea_ with ea_ en_ ec_
         subst ea_; subst ec_; clear en_; have hpt255 : ptrOf (.slice (some ad251) l0.length c0) = .pointer (some ad251) := ptrOf_pos _ _ _ (Qt); have p256 : 0 ≤ ((ji9) : Int) := Qt; have q256 : (ji9) < (((rd_T48 l0 0).f1).length : Int) := Qt; obtain ⟨ad256, e256, hx256_0⟩ := Kd.at_int HR255_1.out (ji9) p256 q256; cases e256; replace p256 := eq_true p256; replace q256 := eq_true q256
         go_wp2
         (repeat (go_quiet (fail); try go_wp2))
         go_ret
         exact ⟨by first | rfl | (simp; done) | (simp only [← hji7, ← hji9] <;> (first | rfl | simp)) | (simp [*]; done), by repeat (first | exact Drawn0.refl _ | apply Drawn0.step)⟩
       (· (rw [if_neg c10] at H; exact absurd H (by simp)))
      (· (rw [if_neg c8] at H; exact absurd H (by simp)))
     ·rw [if_neg c6] at H
      have c6b0 : decide ((wrap64 (a2 + x7_1)) < (((rd_T48 l0 0).f1).length : Int)) = false := decide_eq_false c6; clear c6; obtain rfl := Option.some.inj H; have p251 : 0 ≤ (0 : Int) := (by omega); have q251 : 0 < (l0.length : Int) := Qt; obtain ⟨ad251, A251_1, c251_1, A251_2, c251_2, A251_3, c251_3, A251_4, c251_4, e251, hx251_0, hx251_1, hx251_2, hx251_3, hx251_4, hl251_1, hi251_1, hl251_2, hi251_2, hl251_3, hi251_3, hl251_4, hi251_4⟩ := at_T48 HR0.out 0 p251 q251; cases e251; have qi251 : (0 < l0.length) = True := eq_true (by omega); (try rw [show ((0 : Int)).toNat = 0 from rfl] at hx251_0); (try rw [show 0 * 5 = 0 from rfl] at hx251_0); (try rw [Addr.add_zero'] at hx251_0); (try rw [show ((0 : Int)).toNat = 0 from rfl] at hx251_1); (try rw [show 0 * 5 = 0 from rfl] at hx251_1); (try rw [Addr.add_zero'] at hx251_1); (try rw [show ((0 : Int)).toNat = 0 from rfl] at hx251_2); (try rw [show 0 * 5 = 0 from rfl] at hx251_2); (try rw [Addr.add_zero'] at hx251_2); (try rw [show ((0 : Int)).toNat = 0 from rfl] at hx251_3); (try rw [show 0 * 5 = 0 from rfl] at hx251_3); (try rw [Addr.add_zero'] at hx251_3); (try rw [show ((0 : Int)).toNat = 0 from rfl] at hx251_4); (try rw [show 0 * 5 = 0 from rfl] at hx251_4); (try rw [Addr.add_zero'] at hx251_4); have HR251_1 := Aside0.mk hi251_1; have HC251_1 := Aside0.mk hl251_1; clear hi251_1 hl251_1; have HR251_2 := Aside0.mk hi251_2; have HC251_2 := Aside0.mk hl251_2; clear hi251_2 hl251_2; have HR251_3 := Aside0.mk hi251_3; have HC251_3 := Aside0.mk hl251_3; clear hi251_3 hl251_3; have HR251_4 := Aside0.mk hi251_4; have HC251_4 := Aside0.mk hl251_4; clear hi251_4 hl251_4; replace p251 := eq_true p251; replace q251 := eq_true q251; have hpt251 : ptrOf (.slice (some ad251) l0.length c0) = .pointer (some ad251) := ptrOf_pos _ _ _ (Qt); have p252 : 0 ≤ (0 : Int) := (by omega); have q252 : 0 < (l0.length : Int) := Qt; obtain ⟨ad252, A252_1, c252_1, A252_2, c252_2, A252_3, c252_3, A252_4, c252_4, e252, hx252_0, hx252_1, hx252_2, hx252_3, hx252_4, hl252_1, hi252_1, hl252_2, hi252_2, hl252_3, hi252_3, hl252_4, hi252_4⟩ := at_T48 HR0.out 0 p252 q252; obtain rfl : ad251 = ad252 := (by injection e252); have qi252 : (0 < l0.length) = True := eq_true (by omega); (try rw [show ((0 : Int)).toNat = 0 from rfl] at hx252_0); (try rw [show 0 * 5 = 0 from rfl] at hx252_0); (try rw [Addr.add_zero'] at hx252_0); (try rw [show ((0 : Int)).toNat = 0 from rfl] at hx252_1); (try rw [show 0 * 5 = 0 from rfl] at hx252_1); (try rw [Addr.add_zero'] at hx252_1); (try rw [show ((0 : Int)).toNat = 0 from rfl] at hx252_2); (try rw [show 0 * 5 = 0 from rfl] at hx252_2); (try rw [Addr.add_zero'] at hx252_2); (try rw [show ((0 : Int)).toNat = 0 from rfl] at hx252_3); (try rw [show 0 * 5 = 0 from rfl] at hx252_3); (try rw [Addr.add_zero'] at hx252_3); (try rw [show ((0 : Int)).toNat = 0 from rfl] at hx252_4); (try rw [show 0 * 5 = 0 from rfl] at hx252_4); (try rw [Addr.add_zero'] at hx252_4); have HR252_1 := Aside0.mk hi252_1; have HC252_1 := Aside0.mk hl252_1; clear hi252_1 hl252_1; have HR252_2 := Aside0.mk hi252_2; have HC252_2 := Aside0.mk hl252_2; clear hi252_2 hl252_2; have HR252_3 := Aside0.mk hi252_3; have HC252_3 := Aside0.mk hl252_3; clear hi252_3 hl252_3; have HR252_4 := Aside0.mk hi252_4; have HC252_4 := Aside0.mk hl252_4; clear hi252_4 hl252_4; replace p252 := eq_true p252; replace q252 := eq_true q252; have ea_ := Option.some.inj (hx251_1.symm.trans hx252_1)
      injection ea_ with ea_ en_ ec_
      subst ea_; subst ec_; clear en_; have ea_ := Option.some.inj (hx251_2.symm.trans hx252_2)
      injection ea_ with ea_ en_ ec_
      subst ea_; subst ec_; clear en_; have ea_ := Option.some.inj (hx251_3.symm.trans hx252_3)
      injection ea_ with ea_ en_ ec_
      subst ea_; subst ec_; clear en_; have ea_ := Option.some.inj (hx251_4.symm.trans hx252_4)
      injection ea_ with ea_ en_ ec_
      subst ea_; subst ec_; clear en_; have hpt252 : ptrOf (.slice (some ad251) l0.length c0) = .pointer (some ad251) := ptrOf_pos _ _ _ (Qt)
      go_wp2
      (repeat (go_quiet (fail); try go_wp2))
      go_ret
      exact ⟨rfl, by repeat (first | exact Drawn0.refl _ | apply Drawn0.step)⟩
    ·rw [if_neg c5] at H
     have c5b0 : decide ((wrap64 (a1 + x7_1)) < (((rd_T48 l0 0).f1).length : Int)) = false := decide_eq_false c5; clear c5; obtain rfl := Option.some.inj H; have p251 : 0 ≤ (0 : Int) := (by omega); have q251 : 0 < (l0.length : Int) := Qt; obtain ⟨ad251, A251_1, c251_1, A251_2, c251_2, A251_3, c251_3, A251_4, c251_4, e251, hx251_0, hx251_1, hx251_2, hx251_3, hx251_4, hl251_1, hi251_1, hl251_2, hi251_2, hl251_3, hi251_3, hl251_4, hi251_4⟩ := at_T48 HR0.out 0 p251 q251; cases e251; have qi251 : (0 < l0.length) = True := eq_true (by omega); (try rw [show ((0 : Int)).toNat = 0 from rfl] at hx251_0); (try rw [show 0 * 5 = 0 from rfl] at hx251_0); (try rw [Addr.add_zero'] at hx251_0); (try rw [show ((0 : Int)).toNat = 0 from rfl] at hx251_1); (try rw [show 0 * 5 = 0 from rfl] at hx251_1); (try rw [Addr.add_zero'] at hx251_1); (try rw [show ((0 : Int)).toNat = 0 from rfl] at hx251_2); (try rw [show 0 * 5 = 0 from rfl] at hx251_2); (try rw [Addr.add_zero'] at hx251_2); (try rw [show ((0 : Int)).toNat = 0 from rfl] at hx251_3); (try rw [show 0 * 5 = 0 from rfl] at hx251_3); (try rw [Addr.add_zero'] at hx251_3); (try rw [show ((0 : Int)).toNat = 0 from rfl] at hx251_4); (try rw [show 0 * 5 = 0 from rfl] at hx251_4); (try rw [Addr.add_zero'] at hx251_4); have HR251_1 := Aside0.mk hi251_1; have HC251_1 := Aside0.mk hl251_1; clear hi251_1 hl251_1; have HR251_2 := Aside0.mk hi251_2; have HC251_2 := Aside0.mk hl251_2; clear hi251_2 hl251_2; have HR251_3 := Aside0.mk hi251_3; have HC251_3 := Aside0.mk hl251_3; clear hi251_3 hl251_3; have HR251_4 := Aside0.mk hi251_4; have HC251_4 := Aside0.mk hl251_4; clear hi251_4 hl251_4; replace p251 := eq_true p251; replace q251 := eq_true q251; have hpt251 : ptrOf (.slice (some ad251) l0.length c0) = .pointer (some ad251) := ptrOf_pos _ _ _ (Qt)
     go_wp2
     (repeat (go_quiet (fail); try go_wp2))
     go_ret
     exact ⟨rfl, by repeat (first | exact Drawn0.refl _ | apply Drawn0.step)⟩
   (· (rw [if_neg c4] at H; exact absurd H (by simp)))
end Go.Proofs.Ytobknpeglagaaaa.X
end
section
namespace Go.Proofs.Ytobknpeglagaaaa.X
open Go.RowKit Go.Proofs.YtobknpeglagaaaaW.PrintWords Go.Proofs.YtobknpeglagaaaaW.PrintLast Go.Proofs.YtobknpeglagaaaaW.PrintMore
theorem C_marked (w : World) (l : List Int) (e : Nat) (fr : Nat × Nat) (hl : l.length ≤ 9223372036854775807) : Kd.C (Kd.int .u8) (w.alloc (.cells (l.map (Value.int .u8)).toArray e fr)) (some ⟨w.heap.size, 0, none⟩) l.length l := by
  refine ⟨rfl, hl, fun _ => ⟨⟨w.heap.size, 0, none⟩, rfl, fun j p hj => ⟨[.int .u8 p], rfl, rfl, fun i u hu => ?_⟩⟩⟩
  have hi : i = 0 := by
    have := (List.getElem?_eq_some_iff.1 hu).1
    simpa using this
  subst hi
  have hu' : u = .int .u8 p := by simpa using hu.symm
  subst hu'
  have hh : (w.alloc (.cells (l.map (Value.int .u8)).toArray e fr)).heap[w.heap.size]? = some (.cells (l.map (Value.int .u8)).toArray e fr) := by
    show (w.heap.push _)[w.heap.size]? = _
    simp
  have hc := cell_of_row _ w.heap.size j _ e fr hh
  have hsz : (Kd.int .u8).sz = 1 := rfl
  rw [hsz, Nat.mul_one, Nat.add_zero]
  have ha : Addr.add ⟨w.heap.size, 0, none⟩ j = ⟨w.heap.size, j, none⟩ := by
    simp [Addr.add]
    try omega
  rw [ha, hc]
  simp [hj]
end Go.Proofs.Ytobknpeglagaaaa.X
end
section
namespace Go.Proofs.Ytobknpeglagaaaa

theorem setCell_twice (w : World) (b i : Nat) (v v' : Value) : (w.setCell ⟨b, i, none⟩ v).setCell ⟨b, i, none⟩ v' = w.setCell ⟨b, i, none⟩ v' := by
  have e : ∀ (u : World) (x : Value), u.setCell ⟨b, i, none⟩ x = { u with heap := u.heap.modify b (fun o => match o with | .cells c t f => .cells (c.setIfInBounds i x) t f | o => o) } := by
    intro u x
    unfold World.setCell
    congr 1
  rw [e, e, e]
  simp only
  congr 1
  apply Array.ext_getElem?
  intro j
  simp only [Array.getElem?_modify]
  by_cases hj : b = j
  · simp only [hj, if_true]
    cases w.heap[j]? with
    | none => rfl
    | some o => cases o <;> simp
  · simp only [hj, if_false]
end Go.Proofs.Ytobknpeglagaaaa
end
