import Derived.Test.YtobknpeglagaaaaProg
import Derived.Laws.CopyOwn
import Derived.Test.YtobknpeglagaaaaZMoreInvWordsWGuard0
import Derived.WalkSpells
import Derived.Laws.Pointers
import Derived.Laws.Strings
import Derived.KernelRfl
import Derived.RowKit3
import Derived.WalkKit
import Derived.Below
import Derived.Deep.Draws
import Derived.Deep.AppendLies
import Derived.Maps.AppendAt
import Derived.OwnWalk
import Derived.Laws.BytesArg
import Derived.Laws.MakeOwn
import Derived.Laws.OwnMore
import Derived.Deep.OwnRows
import Derived.Tactics
import Derived.Lib.ConvBytes
import Derived.Laws.Slices
import Derived.Deep.LoopGhost
import Derived.Deep.QuietTactic
import Derived.BigQuiet
import Derived.WideLaws
import Derived.Deep.DeepCutAuto
import Derived.Deep.CutBlock
import Derived.Deep.RegionHeld3
import Derived.Laws.Rows
import Derived.Lib.AppendStr
import Derived.ArgAppend
import Derived.Laws.IdiomCopy
import Derived.OrdersHeld
import Derived.Laws.BitsLemmas
import Derived.RowKit
import Derived.Lib.SlBytesConst
section
/- By hand: what the printed walks of this seat lack: the builtin copy, told as a call is told. -/
namespace Go.Proofs.Ytobknpeglagaaaa
open Go.RowKit Go.Proofs.YtobknpeglagaaaaW.PrintWords Go.Proofs.YtobknpeglagaaaaW.PrintLast Go.Proofs.YtobknpeglagaaaaW.PrintMore

/-- What the builtin copy does: it ends, and its end is as R says. -/
def copyR (P : Program) (dT sT ty : TypeId) (args : Array Value) (w : World) (R : Ending → World → Prop) : Prop :=
  ∃ v w', (Builtin.copy_ #[dT, sT] ty args).run P w = .ok v w' ∧ R (.returned v) w'

theorem copyR.mono {P : Program} {dT sT ty : TypeId} {args : Array Value} {w : World} {R R' : Ending → World → Prop}
    (h : copyR P dT sT ty args w R) (hr : ∀ e w', R e w' → R' e w') : copyR P dT sT ty args w R' := by
  obtain ⟨v, w', h1, h2⟩ := h
  exact ⟨v, w', h1, hr _ _ h2⟩

theorem goesCopy {P : Program} {ops : Array Oper} {rest : List Oper} {oi : Oper} {a : Act} {Q : Exit → Act → World → Prop} {w : World} (N : Option Tmp)
    (hd : oi.dst = N) (hg : oi.guard = none) {d s : Operand} {dT sT : TypeId}
    (hop : oi.op = .call { callee := .builtin .copy, args := #[d, s], argTypes := #[dT, sT] }) (args : Array Value) (hargs : #[a.eval d, a.eval s] = args)
    (h : copyR P dT sT oi.type args w fun e w' => ∃ v, e = .returned v ∧ wpList P ops Q rest (a.put N v) w') : wpList P ops Q (oi :: rest) a w := by
  obtain ⟨v, w', hrun, v', he, hk⟩ := h
  cases he
  refine wpList_plain hg fun K hK => ?_
  unfold Oper.wp
  subst hd hargs
  simp [execOp, hop, resolve, invoke, builtin, hrun, Result.andThen]
  exact hK _ _ hk

/-- copy, as what it does to a list. -/
def cpy {α : Type} (d s : List α) : List α := s.take d.length ++ d.drop s.length

theorem cpy_length {α : Type} (d s : List α) : (cpy d s).length = d.length := by
  unfold cpy; rw [List.length_append, List.length_take, List.length_drop]; omega

theorem copyS {P : Program} {α : Type} {enc : α → Value} {h1 : ∀ x, (enc x).oneCell' = true} (dT sT ty e : TypeId) (hu : P.underlying dT = some (.slice e)) (hs : (P.info? e).map (·.size) = some 1)
    (P0_ : Nat → Prop) (u : Value) (l0 : List α) (A1 : Option Addr) (c1 : Nat) (l1 : List α) (w0 w : World) (hB : Below w0.heap.size w0 w)
    (ho0 : (Kd.scalar enc h1).R e w w0.heap.size P0_ u l0) (hr1 : (Kd.scalar enc h1).C w A1 l1.length l1) :
    copyR P dT sT ty #[u, .slice A1 l1.length c1] w fun e' w' => e' = .returned (.int .i64 (Nat.min l1.length l0.length : Nat)) ∧
      (Kd.scalar enc h1).R e w' w0.heap.size (fun k_ => P0_ k_ ∨ w.heap.size ≤ k_) u (cpy l0 l1) ∧ Below w0.heap.size w0 w' ∧ Kept w w' (fun k_ => P0_ k_) := by
  have ho := Kd.own_of_R ho0
  obtain ⟨hlen, hcase⟩ := ho
  rcases hcase with ⟨rfl, h0⟩ | ⟨g, cap, cur, rfl, hg, hh, hnc, hcm, hcs, htk⟩
  · have hl0 : l0 = [] := List.eq_nil_of_length_eq_zero h0
    subst hl0
    refine ⟨_, _, run_copy_none w dT sT ty e none A1 0 0 l1.length c1 hu hs (by simp), ?_⟩
    refine ⟨by simp [goInt], ?_, hB, Kept.refl w _⟩
    have : cpy ([] : List α) l1 = [] := by simp [cpy]
    rw [this]
    exact Kd.R_mono ho0 (fun _ hk => .inl hk)
  · by_cases hz : Nat.min l1.length l0.length = 0
    · refine ⟨_, _, run_copy_none w dT sT ty e _ A1 l0.length cap l1.length c1 hu hs hz, ?_⟩
      refine ⟨by rw [hz]; rfl, ?_, hB, Kept.refl w _⟩
      have : cpy l0 l1 = l0 := by
        unfold cpy
        have hz' : l1.length = 0 ∨ l0.length = 0 := by
          simp only [Nat.min_def] at hz; split at hz <;> omega
        rcases hz' with h | h
        · have := List.eq_nil_of_length_eq_zero h; subst this; simp
        · have := List.eq_nil_of_length_eq_zero h; subst this; simp
      rw [this]
      exact Kd.R_mono ho0 (fun _ hk => .inl hk)
    · have hmin : Nat.min l1.length l0.length = (l1.take l0.length).length := by rw [List.length_take, Nat.min_comm]
      have hpos : 0 < l1.length := by
        rcases Nat.eq_zero_or_pos l1.length with h | h
        · exact absurd (by simp [h]) hz
        · exact h
      obtain ⟨ad, rfl, hcell⟩ := hr1.2.2 hpos
      have hsrc : ∀ j v, (encs enc (l1.take l0.length))[j]? = some v → w.cell? (ad.add j) = some v := by
        intro j v hj
        unfold encs at hj
        rw [List.getElem?_map] at hj
        cases hq : (l1.take l0.length)[j]? with
        | none => rw [hq] at hj; simp at hj
        | some p =>
          rw [hq] at hj
          simp only [Option.map_some, Option.some.injEq] at hj
          have hq1 : l1[j]? = some p := by
            rw [List.getElem?_take] at hq
            split at hq
            · exact hq
            · cases hq
          obtain ⟨c, hc1, hK, hcc⟩ := hcell j p hq1
          have hK' : c = [enc p] := hK
          subst hK'
          have := hcc 0 (enc p) rfl
          simpa [Kd.scalar, hj] using this
      have hfit : 0 + (encs enc (l1.take l0.length)).length ≤ cur.size := by
        unfold encs
        rw [List.length_map, List.length_take, hcs]
        omega
      have hone : ∀ v ∈ encs enc (l1.take l0.length), v.oneCell' = true := by
        intro v hv
        unfold encs at hv
        obtain ⟨x, _, rfl⟩ := List.mem_map.1 hv
        exact h1 x
      have hn : (encs enc (l1.take l0.length)).length = Nat.min l1.length l0.length := by unfold encs; rw [List.length_map, hmin]
      have hrun := run_copy_row (P := P) w dT sT ty e g 0 l0.length cap ad l1.length c1 cur e (encs enc (l1.take l0.length)) hu hs hh hn hsrc hfit hone
      refine ⟨_, _, hrun, ?_⟩
      have hset := setRow_heap w g cur ((cur.toList.take 0 ++ encs enc (l1.take l0.length) ++ cur.toList.drop (0 + (encs enc (l1.take l0.length)).length)).toArray) e (0, 0) hh
      have hP : P0_ g := ho0.1 g (by simp [Value.ownBlock])
      refine ⟨by rw [hn]; rfl, ?_, ?_, ?_⟩
      · refine Kd.R_of_own ?_ (fun k hk => .inl (ho0.1 k hk))
        rw [cpy_length]
        refine ⟨by simp [encs, cpy_length], .inr ⟨g, cap, _, rfl, hg, hset, hnc, hcm, ?_, ?_⟩⟩
        · have e1 : (encs enc (l1.take l0.length)).length = min l0.length l1.length := by unfold encs; simp
          simp only [List.take_zero, List.nil_append, Nat.zero_add, List.size_toArray, List.length_append, List.length_drop, Array.length_toList, Nat.mul_one, e1]
          rw [hcs]; omega
        · simp only [List.take_zero, List.nil_append, Nat.zero_add, Nat.mul_one]
          have e1 : (encs enc (l1.take l0.length)).length = min l0.length l1.length := by unfold encs; simp
          have e2 : encs enc (cpy l0 l1) = encs enc (l1.take l0.length) ++ (encs enc l0).drop l1.length := by
            unfold encs cpy; rw [List.map_append, List.map_drop]
          rw [e2, List.take_append, e1]
          congr 1
          · rw [List.take_of_length_le (by rw [e1]; omega)]
          · by_cases h : l0.length ≤ l1.length
            · rw [Nat.min_eq_left h, Nat.sub_self, List.take_zero, List.drop_eq_nil_of_le]
              unfold encs; rw [List.length_map]; exact h
            · have h' : l1.length ≤ l0.length := by omega
              rw [Nat.min_eq_right h', ← htk, Nat.mul_one, List.drop_take]
      · exact hB.trans (below_setRow (Below.refl _ _) (hg) _)
      · refine ⟨by simp, fun i hi hs_ => ?_⟩
        exact setRow_other w g i _ (fun e => hs_ (by rw [e]; exact hP))

/-- copy between two rows of ints. -/
def copy_i64.f (l0 l1 : List Int) : Option (Int × List Int) := some ((Nat.min l1.length l0.length : Nat), cpy l0 l1)
theorem copy_i64.calls {ty : TypeId} (P0_ : Nat → Prop) (u9000_ : Value) (l0 : List Int) (A1 : Option Addr) (c1 : Nat) (l1 : List Int) (r1 : Int) (r2 : List Int) (w0 w : World) (hB : Below w0.heap.size w0 w)
    (ho0 : Kd.R (Kd.int .i64) 3 w w0.heap.size P0_ u9000_ l0) (hr1 : ∀ W_, Kept w W_ (fun k_ => P0_ k_) → Kd.C (Kd.int .i64) W_ A1 l1.length l1) (_hc1 : l1.length ≤ c1) (h : copy_i64.f l0 l1 = some (r1, r2)) :
    copyR Try.prog 46 46 ty #[u9000_, .slice A1 l1.length c1] w fun e w' => e = .returned (.int .i64 r1) ∧ Kd.R (Kd.int .i64) 3 w' w0.heap.size (fun k_ => (P0_ k_ ∨ w.heap.size ≤ k_)) u9000_ r2 ∧ Below w0.heap.size w0 w' ∧ Kept w w' (fun k_ => P0_ k_) := by
  simp only [copy_i64.f, Option.some.injEq, Prod.mk.injEq] at h
  obtain ⟨rfl, rfl⟩ := h
  exact copyS 46 46 ty 3 Try.underlying46 (by kernel_rfl) P0_ u9000_ l0 A1 c1 l1 w0 w hB ho0 (hr1 w (Kept.refl w _))
end Go.Proofs.Ytobknpeglagaaaa
end

section
/- By hand: the builtin copy between two rows of bytes, told as a call is told. -/
namespace Go.Proofs.Ytobknpeglagaaaa
open Go.RowKit Go.Proofs.YtobknpeglagaaaaW.PrintWords Go.Proofs.YtobknpeglagaaaaW.PrintLast Go.Proofs.YtobknpeglagaaaaW.PrintMore

/-- copy between two rows of bytes. -/
def copy_u8.f (l0 l1 : List Int) : Option (Int × List Int) := some ((Nat.min l1.length l0.length : Nat), cpy l0 l1)
theorem copy_u8.calls {ty : TypeId} (P0_ : Nat → Prop) (u9000_ : Value) (l0 : List Int) (A1 : Option Addr) (c1 : Nat) (l1 : List Int) (r1 : Int) (r2 : List Int) (w0 w : World) (hB : Below w0.heap.size w0 w)
    (ho0 : Kd.R (Kd.int .u8) 5 w w0.heap.size P0_ u9000_ l0) (hr1 : ∀ W_, Kept w W_ (fun k_ => P0_ k_) → Kd.C (Kd.int .u8) W_ A1 l1.length l1) (_hc1 : l1.length ≤ c1) (h : copy_u8.f l0 l1 = some (r1, r2)) :
    copyR Try.prog 23 23 ty #[u9000_, .slice A1 l1.length c1] w fun e w' => e = .returned (.int .i64 r1) ∧ Kd.R (Kd.int .u8) 5 w' w0.heap.size (fun k_ => (P0_ k_ ∨ w.heap.size ≤ k_)) u9000_ r2 ∧ Below w0.heap.size w0 w' ∧ Kept w w' (fun k_ => P0_ k_) := by
  simp only [copy_u8.f, Option.some.injEq, Prod.mk.injEq] at h
  obtain ⟨rfl, rfl⟩ := h
  exact copyS 23 23 ty 5 Try.underlying23 (by kernel_rfl) P0_ u9000_ l0 A1 c1 l1 w0 w hB ho0 (hr1 w (Kept.refl w _))
end Go.Proofs.Ytobknpeglagaaaa
end

section
/- By hand: a pointer to an index, told as a row of at most one struct: what its value is, and how it is held against nil. -/
namespace Go.Proofs.Ytobknpeglagaaaa
open Go.RowKit Go.Proofs.YtobknpeglagaaaaW.PrintWords Go.Proofs.YtobknpeglagaaaaW.PrintLast Go.Proofs.YtobknpeglagaaaaW.PrintMore

/-- A row's beginning. -/
def cutOf : Value → Nat → Value
  | .slice A _ c, m => .slice A m c
  | v, _ => v
/-- The pointer that a row of at most one struct stands for: nil for no struct. -/
def ptrOf : Value → Value
  | .slice A n _ => if n = 0 then .pointer none else .pointer (some (A.getD ⟨0, 0, none⟩))
  | v => v
theorem ptrOf_zero (A : Option Addr) (c : Nat) : ptrOf (.slice A 0 c) = .pointer none := rfl
theorem ptrOf_nil : ptrOf (.slice none 0 0) = .pointer none := rfl
theorem ptrOf_pos (ad : Addr) (n c : Nat) (h : (0 : Int) < (n : Int)) : ptrOf (.slice (some ad) n c) = .pointer (some ad) := by
  show (if n = 0 then _ else _) = _
  rw [if_neg (by omega)]; rfl
theorem ptrOf_under : Try.prog.underlying 24 = some (.pointer (Try.prog.pointee 24)) := by kernel_rfl
theorem ptrOf_eql (w : World) (A : Option Addr) (n c : Nat) : (binOp .eql 24 (ptrOf (.slice A n c)) (.pointer none)).run Try.prog w = .ok (.bool ((n : Int) == 0)) w := by
  cases n with
  | zero => exact run_eql_pointer_nil w _ none ptrOf_under
  | succ n =>
    have : (((n + 1 : Nat) : Int) == 0) = false := by rw [beq_eq_false_iff_ne]; omega
    rw [this]
    exact run_eql_pointer_nil w _ (some (A.getD ⟨0, 0, none⟩)) ptrOf_under
theorem ptrOf_neq (w : World) (A : Option Addr) (n c : Nat) : (binOp .neq 24 (ptrOf (.slice A n c)) (.pointer none)).run Try.prog w = .ok (.bool ((n : Int) != 0)) w := by
  cases n with
  | zero => exact run_neq_pointer_nil w _ none ptrOf_under
  | succ n =>
    have : (((n + 1 : Nat) : Int) != 0) = true := by rw [bne_iff_ne]; omega
    rw [this]
    exact run_neq_pointer_nil w _ (some (A.getD ⟨0, 0, none⟩)) ptrOf_under
theorem ptrOf_eqg (t : TypeId) (x y : Operand) (v : Value) : eqGuard .eql t x y v (.pointer none) = pure () := by
  cases v <;> simp [eqGuard] <;> rfl
theorem ptrOf_neg (t : TypeId) (x y : Operand) (v : Value) : eqGuard .neq t x y v (.pointer none) = pure () := by
  cases v <;> simp [eqGuard] <;> rfl
/-- Bytes as a string, in a world that has drawn: at any spelling of the length. -/
theorem C_string1 {P : Program} {w : World} {src dst e : TypeId} {A : Option Addr} {n c : Nat} {xs : List Int} (hs : P.underlying src = some (.slice e)) (he : P.underlying e = some (.int .u8)) (hd : P.underlying dst = some .string)
    (h : (Kd.int .u8).C w A n xs) : ∀ L : Nat, L = n → ∀ m : Nat, (convert src dst (.slice A L c)).run P (w.drewN m) = .ok (.string (strOfNums xs)) (w.drewN m) := by
  rintro L rfl m
  exact Kd.C_string hs he hd (Kd.C_drewN h m)
theorem C_string2 {P : Program} {w : World} {src dst e : TypeId} {A : Option Addr} {n c : Nat} {xs : List Int} (hs : P.underlying src = some (.slice e)) (he : P.underlying e = some (.int .u8)) (hd : P.underlying dst = some .string)
    (h : (Kd.int .u8).C w A n xs) : ∀ L : Nat, L = n → ∀ m m2 : Nat, (convert src dst (.slice A L c)).run P ((w.drewN m).drewN m2) = .ok (.string (strOfNums xs)) ((w.drewN m).drewN m2) := by
  rintro L rfl m m2
  exact Kd.C_string hs he hd (Kd.C_drewN (Kd.C_drewN h m) m2)
theorem C_string0 {P : Program} {w : World} {src dst e : TypeId} {A : Option Addr} {n c : Nat} {xs : List Int} (hs : P.underlying src = some (.slice e)) (he : P.underlying e = some (.int .u8)) (hd : P.underlying dst = some .string)
    (h : (Kd.int .u8).C w A n xs) : ∀ L : Nat, L = n → (convert src dst (.slice A L c)).run P w = .ok (.string (strOfNums xs)) w := by
  rintro L rfl
  exact Kd.C_string hs he hd h
theorem R_string0 {P : Program} {w : World} {src dst e : TypeId} {A : Option Addr} {n c e' base : Nat} {ok : Nat → Prop} {xs : List Int} (hs : P.underlying src = some (.slice e)) (he : P.underlying e = some (.int .u8)) (hd : P.underlying dst = some .string)
    (h : (Kd.int .u8).R e' w base ok (.slice A n c) xs) : ∀ L : Nat, L = n → (convert src dst (.slice A L c)).run P w = .ok (.string (strOfNums xs)) w := by
  obtain ⟨hn, _, hc⟩ := Kd.R_reads' h
  subst hn
  exact C_string0 hs he hd hc
theorem R_string1 {P : Program} {w : World} {src dst e : TypeId} {A : Option Addr} {n c e' base : Nat} {ok : Nat → Prop} {xs : List Int} (hs : P.underlying src = some (.slice e)) (he : P.underlying e = some (.int .u8)) (hd : P.underlying dst = some .string)
    (h : (Kd.int .u8).R e' w base ok (.slice A n c) xs) : ∀ L : Nat, L = n → ∀ m : Nat, (convert src dst (.slice A L c)).run P (w.drewN m) = .ok (.string (strOfNums xs)) (w.drewN m) := by
  obtain ⟨hn, _, hc⟩ := Kd.R_reads' h
  subst hn
  exact C_string1 hs he hd hc
theorem R_string2 {P : Program} {w : World} {src dst e : TypeId} {A : Option Addr} {n c e' base : Nat} {ok : Nat → Prop} {xs : List Int} (hs : P.underlying src = some (.slice e)) (he : P.underlying e = some (.int .u8)) (hd : P.underlying dst = some .string)
    (h : (Kd.int .u8).R e' w base ok (.slice A n c) xs) : ∀ L : Nat, L = n → ∀ m m2 : Nat, (convert src dst (.slice A L c)).run P ((w.drewN m).drewN m2) = .ok (.string (strOfNums xs)) ((w.drewN m).drewN m2) := by
  obtain ⟨hn, _, hc⟩ := Kd.R_reads' h
  subst hn
  exact C_string2 hs he hd hc
/-- Strings' order is whole: what is not greater is less or the same. -/
theorem less_or_same : ∀ a b : List UInt8, (Op.bytesLess a b || a == b) = !Op.bytesLess b a
  | [], [] => rfl
  | [], _ :: _ => rfl
  | _ :: _, [] => rfl
  | x :: a, y :: b => by
    have ih := less_or_same a b
    simp only [Op.bytesLess]
    rcases UInt8.lt_or_lt_of_ne (a := x) (b := y) |> fun h => (Classical.em (x = y)).imp id h with h | h | h
    · subst h
      simp only [UInt8.lt_irrefl, decide_false, Bool.false_or, beq_self_eq_true, Bool.true_and]
      rw [← ih]
      simp
    · have h1 : ¬ y < x := fun h2 => absurd (UInt8.lt_trans h h2) (UInt8.lt_irrefl _)
      have h2 : x ≠ y := fun e => by subst e; exact UInt8.lt_irrefl _ h
      have h3 : y ≠ x := fun e => h2 e.symm
      simp [h, h1, h3]
    · have h1 : ¬ x < y := fun h2 => absurd (UInt8.lt_trans h h2) (UInt8.lt_irrefl _)
      have h2 : x ≠ y := fun e => by subst e; exact UInt8.lt_irrefl _ h
      simp [h, h1, h2]
theorem str_leq (t : TypeId) (a b : ByteArray) : binOp .leq t (.string a) (.string b) = pure (.bool (!(Op.bytesLess b.toList a.toList))) := by
  rw [← less_or_same]; simp [binOp, Op.stringOp]
theorem str_geq (t : TypeId) (a b : ByteArray) : binOp .geq t (.string a) (.string b) = pure (.bool (!(Op.bytesLess a.toList b.toList))) := by
  simp [binOp, Op.stringOp]
theorem str_gtr (t : TypeId) (a b : ByteArray) : binOp .gtr t (.string a) (.string b) = pure (.bool (Op.bytesLess b.toList a.toList)) := by
  have h := less_or_same a.toList b.toList
  have : (binOp .gtr t (.string a) (.string b)) = pure (.bool !(Op.bytesLess a.toList b.toList || a.toList == b.toList)) := by simp [binOp, Op.stringOp]
  rw [this, h]; simp
end Go.Proofs.Ytobknpeglagaaaa
end

section
-- Printed by wip/xprint.py of this repo (a wrapper of the session's own round the print).
namespace Go.Proofs.Ytobknpeglagaaaa.X
open Go.RowKit Go.Proofs.YtobknpeglagaaaaW.PrintWords Go.Proofs.YtobknpeglagaaaaW.PrintLast Go.Proofs.YtobknpeglagaaaaW.PrintMore
attribute [local go_sem] ptrOf_eql ptrOf_neq ptrOf_eqg ptrOf_neg str_leq str_geq str_gtr max2_int min2_int max_two min_two max_three min_three max_four min_four   -- for this text's walks alone
set_option linter.unusedVariables false
set_option linter.unusedSimpArgs false



def errW : Option Int → Value
 | none => .nilIface
 | some c => .iface 0 (.int .i64 c)
theorem errW_none : errW none = .nilIface := rfl
theorem errW_some (c : Int) : errW (some c) = .iface 0 (.int .i64 c) := rfl

theorem info3 : (Try.prog.info? 3).map (fun i => (i.zero, i.size, i.bytes)) = some (some (.int .i64 0), 1, 8) := by kernel_rfl
theorem info4 : (Try.prog.info? 4).map (fun i => (i.zero, i.size, i.bytes)) = some (some (.bool false), 1, 1) := by kernel_rfl
theorem info5 : (Try.prog.info? 5).map (fun i => (i.zero, i.size, i.bytes)) = some (some (.int .u8 0), 1, 1) := by kernel_rfl
-- the values' own types
def rd_L3 (xs : List (List Int)) (i : Int) : (List Int) := xs.getD i.toNat ([] : List Int)
theorem at_L3 {w : World} {A : Option Addr} {n : Nat} {xs : List (List Int)} (h : Kd.C (Kd.slice 5 (Kd.int .u8)) w A n xs) (i : Int) (h0 : 0 ≤ i) (h1 : i < n) : ∃ ad A0 c0, A = some ad ∧ w.cell? (ad.add i.toNat) = some (.slice A0 (rd_L3 xs i).length c0) ∧ (rd_L3 xs i).length ≤ c0 ∧ (Kd.int .u8).C w A0 (rd_L3 xs i).length (rd_L3 xs i) := by
 obtain ⟨ad, c, e, _, hK, hc0⟩ := Kd.C_get h ([] : List Int) i h0 h1
 have hc : ∀ j u, c[j]? = some u → w.cell? (ad.add (i.toNat * 1 + j)) = some u := hc0
 obtain ⟨A0, c0, rfl, l0, g0⟩ := hK
 exact ⟨ad, A0, c0, e, by have hq := hc 0 _ rfl; rwa [Nat.mul_one, Nat.add_zero] at hq, l0, g0⟩

def rd_L4 (xs : List (List Int)) (i : Int) : (List Int) := xs.getD i.toNat ([] : List Int)
theorem at_L4 {w : World} {A : Option Addr} {n : Nat} {xs : List (List Int)} (h : Kd.C (Kd.slice 3 (Kd.int .i64)) w A n xs) (i : Int) (h0 : 0 ≤ i) (h1 : i < n) : ∃ ad A0 c0, A = some ad ∧ w.cell? (ad.add i.toNat) = some (.slice A0 (rd_L4 xs i).length c0) ∧ (rd_L4 xs i).length ≤ c0 ∧ (Kd.int .i64).C w A0 (rd_L4 xs i).length (rd_L4 xs i) := by
 obtain ⟨ad, c, e, _, hK, hc0⟩ := Kd.C_get h ([] : List Int) i h0 h1
 have hc : ∀ j u, c[j]? = some u → w.cell? (ad.add (i.toNat * 1 + j)) = some u := hc0
 obtain ⟨A0, c0, rfl, l0, g0⟩ := hK
 exact ⟨ad, A0, c0, e, by have hq := hc 0 _ rfl; rwa [Nat.mul_one, Nat.add_zero] at hq, l0, g0⟩

/-! #### struct type 48 -/
structure S48 where
 f0 : Bool
 f1 : (List Int)
 f2 : (List Int)
 f3 : (List Int)
 f4 : (List Int)
def z48 : S48 := ⟨false, ([] : List Int), ([] : List Int), ([] : List Int), ([] : List Int)⟩
def k48 : Kd S48 := Kd.iso (Kd.pair Kd.bool (Kd.pair (Kd.slice 5 (Kd.int .u8)) (Kd.pair (Kd.slice 3 (Kd.int .i64)) (Kd.pair (Kd.slice 3 (Kd.int .i64)) (Kd.slice 3 (Kd.int .i64)))))) (fun x : S48 => (x.f0, x.f1, x.f2, x.f3, x.f4))
theorem k48_heap : Kd.Heap k48 := Kd.heap_iso _ (Kd.heap_pair Kd.heap_bool (Kd.heap_pair (Kd.heap_slice 5 (Kd.heap_int .u8)) (Kd.heap_pair (Kd.heap_slice 3 (Kd.heap_int .i64)) (Kd.heap_pair (Kd.heap_slice 3 (Kd.heap_int .i64)) (Kd.heap_slice 3 (Kd.heap_int .i64))))))
theorem k48_open {w : World} {x : S48} {cs : List Value} (h : k48.K w x cs) : ∃ A1 c1 A2 c2 A3 c3 A4 c4, cs = [.bool x.f0, .slice A1 x.f1.length c1, .slice A2 x.f2.length c2, .slice A3 x.f3.length c3, .slice A4 x.f4.length c4] ∧ x.f1.length ≤ c1 ∧ (Kd.int .u8).C w A1 x.f1.length x.f1 ∧ x.f2.length ≤ c2 ∧ (Kd.int .i64).C w A2 x.f2.length x.f2 ∧ x.f3.length ≤ c3 ∧ (Kd.int .i64).C w A3 x.f3.length x.f3 ∧ x.f4.length ≤ c4 ∧ (Kd.int .i64).C w A4 x.f4.length x.f4 := by
 obtain ⟨_, _, rfl, rfl, ⟨_, _, rfl, ⟨A1, c1, rfl, l1, g1⟩, ⟨_, _, rfl, ⟨A2, c2, rfl, l2, g2⟩, ⟨_, _, rfl, ⟨A3, c3, rfl, l3, g3⟩, ⟨A4, c4, rfl, l4, g4⟩⟩⟩⟩⟩ := h
 exact ⟨A1, c1, A2, c2, A3, c3, A4, c4, rfl, l1, g1, l2, g2, l3, g3, l4, g4⟩
theorem k48_openM {w : World} {base : Nat} {ok : Nat → Prop} {x : S48} {cs : List Value} (h : k48.M w base ok x cs) : ∃ v1 v2 v3 v4, cs = [.bool x.f0, v1, v2, v3, v4] ∧ (Kd.int .u8).R 5 w base ok v1 x.f1 ∧ (Kd.int .i64).R 3 w base ok v2 x.f2 ∧ (Kd.int .i64).R 3 w base ok v3 x.f3 ∧ (Kd.int .i64).R 3 w base ok v4 x.f4 := by
 obtain ⟨_, _, rfl, rfl, ⟨_, _, rfl, ⟨v1, rfl, g1⟩, ⟨_, _, rfl, ⟨v2, rfl, g2⟩, ⟨_, _, rfl, ⟨v3, rfl, g3⟩, ⟨v4, rfl, g4⟩⟩⟩⟩⟩ := h
 exact ⟨v1, v2, v3, v4, rfl, g1, g2, g3, g4⟩
theorem k48_mk (w : World) (x : S48) {A1 : Option Addr} {c1 : Nat} (l1 : x.f1.length ≤ c1) (g1 : (Kd.int .u8).C w A1 x.f1.length x.f1) {A2 : Option Addr} {c2 : Nat} (l2 : x.f2.length ≤ c2) (g2 : (Kd.int .i64).C w A2 x.f2.length x.f2) {A3 : Option Addr} {c3 : Nat} (l3 : x.f3.length ≤ c3) (g3 : (Kd.int .i64).C w A3 x.f3.length x.f3) {A4 : Option Addr} {c4 : Nat} (l4 : x.f4.length ≤ c4) (g4 : (Kd.int .i64).C w A4 x.f4.length x.f4) : k48.K w x [.bool x.f0, .slice A1 x.f1.length c1, .slice A2 x.f2.length c2, .slice A3 x.f3.length c3, .slice A4 x.f4.length c4] := ⟨[.bool x.f0], [.slice A1 x.f1.length c1, .slice A2 x.f2.length c2, .slice A3 x.f3.length c3, .slice A4 x.f4.length c4], rfl, rfl, ⟨[.slice A1 x.f1.length c1], [.slice A2 x.f2.length c2, .slice A3 x.f3.length c3, .slice A4 x.f4.length c4], rfl, ⟨A1, c1, rfl, l1, g1⟩, ⟨[.slice A2 x.f2.length c2], [.slice A3 x.f3.length c3, .slice A4 x.f4.length c4], rfl, ⟨A2, c2, rfl, l2, g2⟩, ⟨[.slice A3 x.f3.length c3], [.slice A4 x.f4.length c4], rfl, ⟨A3, c3, rfl, l3, g3⟩, ⟨A4, c4, rfl, l4, g4⟩⟩⟩⟩⟩
theorem k48_mkM (w : World) (base : Nat) (ok : Nat → Prop) (x : S48) {v1 : Value} (g1 : (Kd.int .u8).R 5 w base ok v1 x.f1) {v2 : Value} (g2 : (Kd.int .i64).R 3 w base ok v2 x.f2) {v3 : Value} (g3 : (Kd.int .i64).R 3 w base ok v3 x.f3) {v4 : Value} (g4 : (Kd.int .i64).R 3 w base ok v4 x.f4) : k48.M w base ok x [.bool x.f0, v1, v2, v3, v4] := ⟨[.bool x.f0], [v1, v2, v3, v4], rfl, rfl, ⟨[v1], [v2, v3, v4], rfl, ⟨v1, rfl, g1⟩, ⟨[v2], [v3, v4], rfl, ⟨v2, rfl, g2⟩, ⟨[v3], [v4], rfl, ⟨v3, rfl, g3⟩, ⟨v4, rfl, g4⟩⟩⟩⟩⟩
def rd_T48 (xs : List S48) (i : Int) : S48 := xs.getD i.toNat z48
theorem at_T48 {w : World} {A : Option Addr} {n : Nat} {xs : List S48} (h : Kd.C k48 w A n xs) (i : Int) (h0 : 0 ≤ i) (h1 : i < n) : ∃ ad A1 c1 A2 c2 A3 c3 A4 c4, A = some ad ∧ w.cell? (ad.add (i.toNat * 5)) = some (.bool (rd_T48 xs i).f0) ∧ w.cell? ⟨(ad.add (i.toNat * 5)).block, (ad.add (i.toNat * 5)).off + 1, none⟩ = some (.slice A1 (rd_T48 xs i).f1.length c1) ∧ w.cell? ⟨(ad.add (i.toNat * 5)).block, (ad.add (i.toNat * 5)).off + 2, none⟩ = some (.slice A2 (rd_T48 xs i).f2.length c2) ∧ w.cell? ⟨(ad.add (i.toNat * 5)).block, (ad.add (i.toNat * 5)).off + 3, none⟩ = some (.slice A3 (rd_T48 xs i).f3.length c3) ∧ w.cell? ⟨(ad.add (i.toNat * 5)).block, (ad.add (i.toNat * 5)).off + 4, none⟩ = some (.slice A4 (rd_T48 xs i).f4.length c4) ∧ (rd_T48 xs i).f1.length ≤ c1 ∧ (Kd.int .u8).C w A1 (rd_T48 xs i).f1.length (rd_T48 xs i).f1 ∧ (rd_T48 xs i).f2.length ≤ c2 ∧ (Kd.int .i64).C w A2 (rd_T48 xs i).f2.length (rd_T48 xs i).f2 ∧ (rd_T48 xs i).f3.length ≤ c3 ∧ (Kd.int .i64).C w A3 (rd_T48 xs i).f3.length (rd_T48 xs i).f3 ∧ (rd_T48 xs i).f4.length ≤ c4 ∧ (Kd.int .i64).C w A4 (rd_T48 xs i).f4.length (rd_T48 xs i).f4 := by
 obtain ⟨ad, c, e, _, hK, hc0⟩ := Kd.C_get h z48 i h0 h1
 have hc : ∀ j u, c[j]? = some u → w.cell? (ad.add (i.toNat * 5 + j)) = some u := hc0
 obtain ⟨A1, c1, A2, c2, A3, c3, A4, c4, rfl, l1, g1, l2, g2, l3, g3, l4, g4⟩ := k48_open hK
 exact ⟨ad, A1, c1, A2, c2, A3, c3, A4, c4, e, hc 0 _ rfl, by rw [← add_field _ _ 1 (by omega)]; exact hc 1 _ rfl, by rw [← add_field _ _ 2 (by omega)]; exact hc 2 _ rfl, by rw [← add_field _ _ 3 (by omega)]; exact hc 3 _ rfl, by rw [← add_field _ _ 4 (by omega)]; exact hc 4 _ rfl, l1, g1, l2, g2, l3, g3, l4, g4⟩

/-! #### struct type 39 -/
structure S39 where
 f0 : Int
 f1 : Int
 f2 : Int
def z39 : S39 := ⟨(0 : Int), (0 : Int), (0 : Int)⟩
def k39 : Kd S39 := Kd.iso (Kd.pair (Kd.int .i64) (Kd.pair (Kd.int .i64) (Kd.int .i64))) (fun x : S39 => (x.f0, x.f1, x.f2))
theorem k39_heap : Kd.Heap k39 := Kd.heap_iso _ (Kd.heap_pair (Kd.heap_int .i64) (Kd.heap_pair (Kd.heap_int .i64) (Kd.heap_int .i64)))
theorem k39_open {w : World} {x : S39} {cs : List Value} (h : k39.K w x cs) : cs = [.int .i64 x.f0, .int .i64 x.f1, .int .i64 x.f2] := by
 obtain ⟨_, _, rfl, rfl, ⟨_, _, rfl, rfl, rfl⟩⟩ := h
 exact rfl
theorem k39_openM {w : World} {base : Nat} {ok : Nat → Prop} {x : S39} {cs : List Value} (h : k39.M w base ok x cs) : cs = [.int .i64 x.f0, .int .i64 x.f1, .int .i64 x.f2] := by
 obtain ⟨_, _, rfl, rfl, ⟨_, _, rfl, rfl, rfl⟩⟩ := h
 exact rfl
theorem k39_mk (w : World) (x : S39)  : k39.K w x [.int .i64 x.f0, .int .i64 x.f1, .int .i64 x.f2] := ⟨[.int .i64 x.f0], [.int .i64 x.f1, .int .i64 x.f2], rfl, rfl, ⟨[.int .i64 x.f1], [.int .i64 x.f2], rfl, rfl, rfl⟩⟩
theorem k39_mkM (w : World) (base : Nat) (ok : Nat → Prop) (x : S39)  : k39.M w base ok x [.int .i64 x.f0, .int .i64 x.f1, .int .i64 x.f2] := ⟨[.int .i64 x.f0], [.int .i64 x.f1, .int .i64 x.f2], rfl, rfl, ⟨[.int .i64 x.f1], [.int .i64 x.f2], rfl, rfl, rfl⟩⟩
def rd_T39 (xs : List S39) (i : Int) : S39 := xs.getD i.toNat z39
theorem at_T39 {w : World} {A : Option Addr} {n : Nat} {xs : List S39} (h : Kd.C k39 w A n xs) (i : Int) (h0 : 0 ≤ i) (h1 : i < n) : ∃ ad , A = some ad ∧ w.cell? (ad.add (i.toNat * 3)) = some (.int .i64 (rd_T39 xs i).f0) ∧ w.cell? ⟨(ad.add (i.toNat * 3)).block, (ad.add (i.toNat * 3)).off + 1, none⟩ = some (.int .i64 (rd_T39 xs i).f1) ∧ w.cell? ⟨(ad.add (i.toNat * 3)).block, (ad.add (i.toNat * 3)).off + 2, none⟩ = some (.int .i64 (rd_T39 xs i).f2) := by
 obtain ⟨ad, c, e, _, hK, hc0⟩ := Kd.C_get h z39 i h0 h1
 have hc : ∀ j u, c[j]? = some u → w.cell? (ad.add (i.toNat * 3 + j)) = some u := hc0
 obtain rfl := k39_open hK
 exact ⟨ad, e, hc 0 _ rfl, by rw [← add_field _ _ 1 (by omega)]; exact hc 1 _ rfl, by rw [← add_field _ _ 2 (by omega)]; exact hc 2 _ rfl⟩

end Go.Proofs.Ytobknpeglagaaaa.X
end

section
/- By hand: a row of bytes out of a constant, marked by its conversion: how it reads. -/
namespace Go.Proofs.Ytobknpeglagaaaa.X
open Go.RowKit Go.Proofs.YtobknpeglagaaaaW.PrintWords Go.Proofs.YtobknpeglagaaaaW.PrintLast Go.Proofs.YtobknpeglagaaaaW.PrintMore
/-- Bytes in a block that has just been made, marked or not, read as they are. -/
theorem C_marked (w : World) (l : List Int) (e : Nat) (fr : Nat × Nat) (hl : l.length ≤ 9223372036854775807) : Kd.C (Kd.int .u8) (w.alloc (.cells (l.map (Value.int .u8)).toArray e fr)) (some ⟨w.heap.size, 0, none⟩) l.length l := by
  refine ⟨rfl, hl, fun _ => ⟨⟨w.heap.size, 0, none⟩, rfl, fun j p hj => ⟨[.int .u8 p], rfl, rfl, fun i u hu => ?_⟩⟩⟩
  have hi : i = 0 := by
    have := (List.getElem?_eq_some_iff.1 hu).1
    simpa using this
  subst hi
  have hu' : u = .int .u8 p := by simpa using hu.symm
  subst hu'
  have hh : (w.alloc (.cells (l.map (Value.int .u8)).toArray e fr)).heap[w.heap.size]? = some (.cells (l.map (Value.int .u8)).toArray e fr) := by
    show (w.heap.push _)[w.heap.size]? = _
    simp
  have hc := cell_of_row _ w.heap.size j _ e fr hh
  have hsz : (Kd.int .u8).sz = 1 := rfl
  rw [hsz, Nat.mul_one, Nat.add_zero]
  have ha : Addr.add ⟨w.heap.size, 0, none⟩ j = ⟨w.heap.size, j, none⟩ := by
    simp [Addr.add]
    try omega
  rw [ha, hc]
  simp [hj]
end Go.Proofs.Ytobknpeglagaaaa.X
end

section
-- Printed by wip/xprint.py of this repo (a wrapper of the session's own round the print).
namespace Go.Proofs.Ytobknpeglagaaaa.X
open Go.RowKit Go.Proofs.YtobknpeglagaaaaW.PrintWords Go.Proofs.YtobknpeglagaaaaW.PrintLast Go.Proofs.YtobknpeglagaaaaW.PrintMore
attribute [local go_sem] ptrOf_eql ptrOf_neq ptrOf_eqg ptrOf_neg str_leq str_geq str_gtr max2_int min2_int max_two min_two max_three min_three max_four min_four   -- for this text's walks alone
set_option linter.unusedVariables false
set_option linter.unusedSimpArgs false

/-! ### scan_right: function 31 -/
def scan_right.f (l0 : List Int) (a1 : Int) (l2 : List Int) (a3 : Int) (a4 : Int) : Option (Bool) := if a1 ≥ 0 then (if a1 ≤ (l0.length : Int) then (if a3 ≥ 0 then (if a3 ≤ a4 then (some (decide (a4 ≤ (l2.length : Int)))) else (some false)) else (some false)) else (some false)) else (some false)
set_option maxHeartbeats 8000000 in
set_option maxRecDepth 100000 in
theorem scan_right.calls (A0 : Option Addr) (c0 : Nat) (l0 : List Int) (a1 : Int) (A2 : Option Addr) (c2 : Nat) (l2 : List Int) (a3 : Int) (a4 : Int) (r : Bool) (w : World) (hr0 : Kd.C (Kd.int .u8) w A0 l0.length l0) (hc0 : l0.length ≤ c0) (hr2 : Kd.C (Kd.int .u8) w A2 l2.length l2) (hc2 : l2.length ≤ c2) (h : scan_right.f l0 a1 l2 a3 a4 = some r) :
  Calls Try.prog 31 #[.slice A0 l0.length c0, .int .i64 a1, .slice A2 l2.length c2, .int .i64 a3, .int .i64 a4] w fun e w' => e = .returned (.bool r) ∧ Drawn0 w w' := by
 have HR0 := Aside0.mk hr0
 have HC0 := Aside0.mk hc0
 clear hr0 hc0
 have HR2 := Aside0.mk hr2
 have HC2 := Aside0.mk hc2
 clear hr2 hc2
 have H : (if a1 ≥ 0 then (if a1 ≤ (l0.length : Int) then (if a3 ≥ 0 then (if a3 ≤ a4 then (some (decide (a4 ≤ (l2.length : Int)))) else (some false)) else (some false)) else (some false)) else (some false)) = some r := h
 clear h
 by_cases c6 : a1 ≥ 0
 ·rw [if_pos c6] at H
  have c6b0 : decide (0 ≤ a1) = true := decide_eq_true c6
  clear c6
  by_cases c7 : a1 ≤ (l0.length : Int)
  ·rw [if_pos c7] at H
   have c7b0 : decide (a1 ≤ (l0.length : Int)) = true := decide_eq_true c7
   clear c7
   by_cases c8 : a3 ≥ 0
   ·rw [if_pos c8] at H
    have c8b0 : decide (0 ≤ a3) = true := decide_eq_true c8
    clear c8
    by_cases c9 : a3 ≤ a4
    ·rw [if_pos c9] at H
     have c9b0 : decide (a3 ≤ a4) = true := decide_eq_true c9
     clear c9
     obtain rfl := Option.some.inj H
     go_enter Try.func31, Try.ntmps31
     go_wp2
     go_ret
     exact ⟨by first | rfl | (simp; done) | (simp [*]; done), by repeat (first | exact Drawn0.refl _ | apply Drawn0.step)⟩
    ·rw [if_neg c9] at H
     have c9b0 : decide (a3 ≤ a4) = false := decide_eq_false c9
     clear c9
     obtain rfl := Option.some.inj H
     go_enter Try.func31, Try.ntmps31
     go_wp2
     go_ret
     exact ⟨by first | rfl | (simp; done) | (simp [*]; done), by repeat (first | exact Drawn0.refl _ | apply Drawn0.step)⟩
   ·rw [if_neg c8] at H
    have c8b0 : decide (0 ≤ a3) = false := decide_eq_false c8
    clear c8
    obtain rfl := Option.some.inj H
    go_enter Try.func31, Try.ntmps31
    go_wp2
    go_ret
    exact ⟨by first | rfl | (simp; done) | (simp [*]; done), by repeat (first | exact Drawn0.refl _ | apply Drawn0.step)⟩
  ·rw [if_neg c7] at H
   have c7b0 : decide (a1 ≤ (l0.length : Int)) = false := decide_eq_false c7
   clear c7
   obtain rfl := Option.some.inj H
   go_enter Try.func31, Try.ntmps31
   go_wp2
   go_ret
   exact ⟨by first | rfl | (simp; done) | (simp [*]; done), by repeat (first | exact Drawn0.refl _ | apply Drawn0.step)⟩
 ·rw [if_neg c6] at H
  have c6b0 : decide (0 ≤ a1) = false := decide_eq_false c6
  clear c6
  obtain rfl := Option.some.inj H
  go_enter Try.func31, Try.ntmps31
  go_wp2
  go_ret
  exact ⟨by first | rfl | (simp; done) | (simp [*]; done), by repeat (first | exact Drawn0.refl _ | apply Drawn0.step)⟩

end Go.Proofs.Ytobknpeglagaaaa.X
end

section
/- By hand: package scan's Forward, Backward, Split: the best number of bytes, by a test that is handed in as a closure. -/
namespace Go.Proofs.Ytobknpeglagaaaa.X
open Go.RowKit Go.Proofs.YtobknpeglagaaaaW.PrintWords Go.Proofs.YtobknpeglagaaaaW.PrintLast Go.Proofs.YtobknpeglagaaaaW.PrintMore
attribute [local go_sem] max2_int min2_int max_two min_two
set_option linter.unusedVariables false
set_option linter.unusedSimpArgs false

/-- Two rows alike at two places; nothing where a place is none. -/
def likeAt (a : List Int) (i : Int) (b : List Int) (j : Int) : Option Bool :=
  if 0 ≤ i then (if i < (a.length : Int) then (if 0 ≤ j then (if j < (b.length : Int) then some (rd a i == rd b j) else none) else none) else none) else none
/-- best, of a test. -/
def bst (t : Int → Option Bool) : Nat → Int → Int → Int → Int → Int → Option Int
  | 0, _, _, _, _, _ => none
  | k + 1, most, s, a, top, n => if n < most then ((t n).bind fun b => (if b = true then
      (if wrap64 (wrap64 (2 * wrap64 (s + 1)) - wrap64 (n + 1)) > top then bst t k most (wrap64 (s + 1)) (wrap64 (n + 1)) (wrap64 (wrap64 (2 * wrap64 (s + 1)) - wrap64 (n + 1))) (wrap64 (n + 1)) else bst t k most (wrap64 (s + 1)) a top (wrap64 (n + 1))) else
      (if wrap64 (wrap64 (2 * s) - wrap64 (n + 1)) > top then bst t k most s (wrap64 (n + 1)) (wrap64 (wrap64 (2 * s) - wrap64 (n + 1))) (wrap64 (n + 1)) else bst t k most s a top (wrap64 (n + 1))))) else some a

def fwd1 (l0 : List Int) (pos : Int) (l2 : List Int) (fr n : Int) : Option Bool := likeAt l0 (wrap64 (pos + n)) l2 (wrap64 (fr + n))
def bwd1 (l0 : List Int) (pos : Int) (l2 : List Int) (to_ n : Int) : Option Bool := likeAt l0 (wrap64 (wrap64 (pos - 1) - n)) l2 (wrap64 (wrap64 (to_ - 1) - n))
theorem likeAt_some {a b : List Int} {i j : Int} {r : Bool} (h : likeAt a i b j = some r) : 0 ≤ i ∧ i < (a.length : Int) ∧ 0 ≤ j ∧ j < (b.length : Int) ∧ r = (rd a i == rd b j) := by
  unfold likeAt at h
  by_cases h1 : 0 ≤ i
  case neg => rw [if_neg h1] at h; cases h
  rw [if_pos h1] at h
  by_cases h2 : i < (a.length : Int)
  case neg => rw [if_neg h2] at h; cases h
  rw [if_pos h2] at h
  by_cases h3 : 0 ≤ j
  case neg => rw [if_neg h3] at h; cases h
  rw [if_pos h3] at h
  by_cases h4 : j < (b.length : Int)
  case neg => rw [if_neg h4] at h; cases h
  rw [if_pos h4] at h
  exact ⟨h1, h2, h3, h4, (Option.some.inj h).symm⟩

section
variable {A0 : Option Addr} {c0 : Nat} {l0 : List Int} {A2 : Option Addr} {c2 : Nat} {l2 : List Int} {pos fr n : Int} {r : Bool} {w : World} {g1 g2 g3 g4 : Nat}
set_option maxRecDepth 100000 in
theorem fwd1_calls (h1 : w.cell? ⟨g1, 0, none⟩ = some (.slice A0 l0.length c0)) (h2 : w.cell? ⟨g2, 0, none⟩ = some (.int .i64 pos)) (h3 : w.cell? ⟨g3, 0, none⟩ = some (.slice A2 l2.length c2)) (h4 : w.cell? ⟨g4, 0, none⟩ = some (.int .i64 fr))
    (hr0 : Kd.C (Kd.int .u8) w A0 l0.length l0) (hr2 : Kd.C (Kd.int .u8) w A2 l2.length l2) (h : fwd1 l0 pos l2 fr n = some r) :
    Calls Try.prog 33 #[.int .i64 n, .pointer (some ⟨g1, 0, none⟩), .pointer (some ⟨g2, 0, none⟩), .pointer (some ⟨g3, 0, none⟩), .pointer (some ⟨g4, 0, none⟩)] w fun e w' => e = .returned (.bool r) ∧ Drawn0 w w' := by
  obtain ⟨c1, c2', c3, c4, rfl⟩ := likeAt_some h
  clear h
  obtain ⟨ad1, e1, hx1⟩ := Kd.at_int hr0 _ c1 c2'
  subst e1
  obtain ⟨ad2, e2, hx2⟩ := Kd.at_int hr2 _ c3 c4
  subst e2
  clear hr0 hr2
  have c1b := eq_true c1
  have c2b := eq_true c2'
  have c3b := eq_true c3
  have c4b := eq_true c4
  clear c1 c2' c3 c4
  go_enter Try.func33, Try.ntmps33
  go_wp2
  go_quiet (fail)
  go_wp2
  go_ret
  exact ⟨rfl, ⟨_, rfl⟩⟩
set_option maxRecDepth 100000 in
theorem bwd1_calls (h1 : w.cell? ⟨g1, 0, none⟩ = some (.slice A0 l0.length c0)) (h2 : w.cell? ⟨g2, 0, none⟩ = some (.int .i64 pos)) (h3 : w.cell? ⟨g3, 0, none⟩ = some (.slice A2 l2.length c2)) (h4 : w.cell? ⟨g4, 0, none⟩ = some (.int .i64 fr))
    (hr0 : Kd.C (Kd.int .u8) w A0 l0.length l0) (hr2 : Kd.C (Kd.int .u8) w A2 l2.length l2) (h : bwd1 l0 pos l2 fr n = some r) :
    Calls Try.prog 36 #[.int .i64 n, .pointer (some ⟨g1, 0, none⟩), .pointer (some ⟨g2, 0, none⟩), .pointer (some ⟨g3, 0, none⟩), .pointer (some ⟨g4, 0, none⟩)] w fun e w' => e = .returned (.bool r) ∧ Drawn0 w w' := by
  obtain ⟨c1, c2', c3, c4, rfl⟩ := likeAt_some h
  clear h
  obtain ⟨ad1, e1, hx1⟩ := Kd.at_int hr0 _ c1 c2'
  subst e1
  obtain ⟨ad2, e2, hx2⟩ := Kd.at_int hr2 _ c3 c4
  subst e2
  clear hr0 hr2
  have c1b := eq_true c1
  have c2b := eq_true c2'
  have c3b := eq_true c3
  have c4b := eq_true c4
  clear c1 c2' c3 c4
  go_enter Try.func36, Try.ntmps36
  go_wp2
  go_quiet (fail)
  go_wp2
  go_ret
  exact ⟨rfl, ⟨_, rfl⟩⟩
end
set_option maxHeartbeats 4000000 in
set_option maxRecDepth 100000 in
theorem best_fwd1 {k : Nat} {A0 : Option Addr} {c0 : Nat} {l0 : List Int} {A2 : Option Addr} {c2 : Nat} {l2 : List Int} {pos fr most r : Int} {w : World} {g1 g2 g3 g4 : Nat} (h1 : w.cell? ⟨g1, 0, none⟩ = some (.slice A0 l0.length c0)) (h2 : w.cell? ⟨g2, 0, none⟩ = some (.int .i64 pos)) (h3 : w.cell? ⟨g3, 0, none⟩ = some (.slice A2 l2.length c2)) (h4 : w.cell? ⟨g4, 0, none⟩ = some (.int .i64 fr))
    (hr0 : Kd.C (Kd.int .u8) w A0 l0.length l0) (hr2 : Kd.C (Kd.int .u8) w A2 l2.length l2) (h : bst (fwd1 l0 pos l2 fr) k most 0 0 0 0 = some r) :
    Calls Try.prog 32 #[.int .i64 most, .func (.func 33) #[] #[.pointer (some ⟨g1, 0, none⟩), .pointer (some ⟨g2, 0, none⟩), .pointer (some ⟨g3, 0, none⟩), .pointer (some ⟨g4, 0, none⟩)]] w fun e w' => e = .returned (.int .i64 r) ∧ Drawn0 w w' := by
  have H1 := Aside0.mk h1
  have H2 := Aside0.mk h2
  have H3 := Aside0.mk h3
  have H4 := Aside0.mk h4
  have HR0 := Aside0.mk hr0
  have HR2 := Aside0.mk hr2
  have H := Aside0.mk h
  have HD : Aside0 (Drawn0 w w) := ⟨⟨0, rfl⟩⟩
  clear h1 h2 h3 h4 hr0 hr2 h
  go_enter Try.func32, Try.ntmps32
  go_wp2
  go_loopg [5, 6, 7, 10] k (fun kq v5 v6 v7 v10 w' => ∃ (s_ a_ t_ n_ : Int), v5 = .int .i64 s_ ∧ v6 = .int .i64 a_ ∧ v7 = .int .i64 t_ ∧ v10 = .int .i64 n_ ∧ Aside0 (bst (fwd1 l0 pos l2 fr) kq most s_ a_ t_ n_ = some r) ∧ Aside0 (kq ≤ k) ∧ Aside0 (Drawn0 w w'))
  case atStart => exact ⟨0, 0, 0, 0, rfl, rfl, rfl, rfl, H, ⟨Nat.le_refl _⟩, HD⟩
  case round =>
    clear H HD
    obtain ⟨s_, a_, t_, n_, rfl, rfl, rfl, rfl, HA, HK1, HD⟩ := hrel
    cases gk with
    | zero => exact absurd HA.out (by simp [bst])
    | succ k1 =>
      have h := HA.out
      clear HA
      simp only [bst] at h
      by_cases c1 : n_ < most
      case neg =>
        rw [if_neg c1] at h
        obtain rfl : a_ = r := Option.some.inj h
        have c1b : decide (n_ < most) = false := decide_eq_false c1
        clear c1 h
        go_wp2
        go_ret
        exact ⟨rfl, HD.out⟩
      rw [if_pos c1] at h
      have c1b : decide (n_ < most) = true := decide_eq_true c1
      clear c1
      replace h := Option.bind_eq_some_iff.mp h
      obtain ⟨b_, hA, h⟩ := h
      have HF := Aside0.mk hA
      have HH := Aside0.mk h
      clear hA h
      obtain ⟨m_, hm_⟩ := HD.out.out
      subst hm_
      go_wp2_with (fail)
      refine (fwd1_calls (n := n_) (r := b_) (by rw [World.cell?_drewN]; exact H1.out) (by rw [World.cell?_drewN]; exact H2.out) (by rw [World.cell?_drewN]; exact H3.out) (by rw [World.cell?_drewN]; exact H4.out) (Kd.C_drewN HR0.out _) (Kd.C_drewN HR2.out _) HF.out).mono ?_
      rintro e w' ⟨rfl, hD2⟩
      have HD2 : Aside0 (Drawn0 w w') := ⟨by obtain ⟨q, hq⟩ := hD2.out; exact ⟨m_ + q, by rw [hq, World.drewN_drewN]⟩⟩
      clear hD2 HD
      cases b_
      · have h := HH.out
        rw [if_neg (by decide)] at h
        clear HH
        by_cases c2 : wrap64 (wrap64 (2 * s_) - wrap64 (n_ + 1)) > t_
        · rw [if_pos c2] at h
          have H' := Aside0.mk h
          have c2b : decide (t_ < wrap64 (wrap64 (2 * s_) - wrap64 (n_ + 1))) = true := decide_eq_true c2
          clear c2 h
          go_wp2
          go_roundg k1
          case measure => have := HK1.out; omega
          case rel => exact ⟨_, _, _, _, rfl, rfl, rfl, rfl, H', ⟨by have := HK1.out; omega⟩, HD2⟩
        · rw [if_neg c2] at h
          have H' := Aside0.mk h
          have c2b : decide (t_ < wrap64 (wrap64 (2 * s_) - wrap64 (n_ + 1))) = false := decide_eq_false c2
          clear c2 h
          go_wp2
          go_roundg k1
          case measure => have := HK1.out; omega
          case rel => exact ⟨_, _, _, _, rfl, rfl, rfl, rfl, H', ⟨by have := HK1.out; omega⟩, HD2⟩
      · have h := HH.out
        rw [if_pos rfl] at h
        clear HH
        by_cases c2 : wrap64 (wrap64 (2 * wrap64 (s_ + 1)) - wrap64 (n_ + 1)) > t_
        · rw [if_pos c2] at h
          have H' := Aside0.mk h
          have c2b : decide (t_ < wrap64 (wrap64 (2 * wrap64 (s_ + 1)) - wrap64 (n_ + 1))) = true := decide_eq_true c2
          clear c2 h
          go_wp2
          go_roundg k1
          case measure => have := HK1.out; omega
          case rel => exact ⟨_, _, _, _, rfl, rfl, rfl, rfl, H', ⟨by have := HK1.out; omega⟩, HD2⟩
        · rw [if_neg c2] at h
          have H' := Aside0.mk h
          have c2b : decide (t_ < wrap64 (wrap64 (2 * wrap64 (s_ + 1)) - wrap64 (n_ + 1))) = false := decide_eq_false c2
          clear c2 h
          go_wp2
          go_roundg k1
          case measure => have := HK1.out; omega
          case rel => exact ⟨_, _, _, _, rfl, rfl, rfl, rfl, H', ⟨by have := HK1.out; omega⟩, HD2⟩
set_option maxHeartbeats 4000000 in
set_option maxRecDepth 100000 in
theorem best_bwd1 {k : Nat} {A0 : Option Addr} {c0 : Nat} {l0 : List Int} {A2 : Option Addr} {c2 : Nat} {l2 : List Int} {pos fr most r : Int} {w : World} {g1 g2 g3 g4 : Nat} (h1 : w.cell? ⟨g1, 0, none⟩ = some (.slice A0 l0.length c0)) (h2 : w.cell? ⟨g2, 0, none⟩ = some (.int .i64 pos)) (h3 : w.cell? ⟨g3, 0, none⟩ = some (.slice A2 l2.length c2)) (h4 : w.cell? ⟨g4, 0, none⟩ = some (.int .i64 fr))
    (hr0 : Kd.C (Kd.int .u8) w A0 l0.length l0) (hr2 : Kd.C (Kd.int .u8) w A2 l2.length l2) (h : bst (bwd1 l0 pos l2 fr) k most 0 0 0 0 = some r) :
    Calls Try.prog 32 #[.int .i64 most, .func (.func 36) #[] #[.pointer (some ⟨g1, 0, none⟩), .pointer (some ⟨g2, 0, none⟩), .pointer (some ⟨g3, 0, none⟩), .pointer (some ⟨g4, 0, none⟩)]] w fun e w' => e = .returned (.int .i64 r) ∧ Drawn0 w w' := by
  have H1 := Aside0.mk h1
  have H2 := Aside0.mk h2
  have H3 := Aside0.mk h3
  have H4 := Aside0.mk h4
  have HR0 := Aside0.mk hr0
  have HR2 := Aside0.mk hr2
  have H := Aside0.mk h
  have HD : Aside0 (Drawn0 w w) := ⟨⟨0, rfl⟩⟩
  clear h1 h2 h3 h4 hr0 hr2 h
  go_enter Try.func32, Try.ntmps32
  go_wp2
  go_loopg [5, 6, 7, 10] k (fun kq v5 v6 v7 v10 w' => ∃ (s_ a_ t_ n_ : Int), v5 = .int .i64 s_ ∧ v6 = .int .i64 a_ ∧ v7 = .int .i64 t_ ∧ v10 = .int .i64 n_ ∧ Aside0 (bst (bwd1 l0 pos l2 fr) kq most s_ a_ t_ n_ = some r) ∧ Aside0 (kq ≤ k) ∧ Aside0 (Drawn0 w w'))
  case atStart => exact ⟨0, 0, 0, 0, rfl, rfl, rfl, rfl, H, ⟨Nat.le_refl _⟩, HD⟩
  case round =>
    clear H HD
    obtain ⟨s_, a_, t_, n_, rfl, rfl, rfl, rfl, HA, HK1, HD⟩ := hrel
    cases gk with
    | zero => exact absurd HA.out (by simp [bst])
    | succ k1 =>
      have h := HA.out
      clear HA
      simp only [bst] at h
      by_cases c1 : n_ < most
      case neg =>
        rw [if_neg c1] at h
        obtain rfl : a_ = r := Option.some.inj h
        have c1b : decide (n_ < most) = false := decide_eq_false c1
        clear c1 h
        go_wp2
        go_ret
        exact ⟨rfl, HD.out⟩
      rw [if_pos c1] at h
      have c1b : decide (n_ < most) = true := decide_eq_true c1
      clear c1
      replace h := Option.bind_eq_some_iff.mp h
      obtain ⟨b_, hA, h⟩ := h
      have HF := Aside0.mk hA
      have HH := Aside0.mk h
      clear hA h
      obtain ⟨m_, hm_⟩ := HD.out.out
      subst hm_
      go_wp2_with (fail)
      refine (bwd1_calls (n := n_) (r := b_) (by rw [World.cell?_drewN]; exact H1.out) (by rw [World.cell?_drewN]; exact H2.out) (by rw [World.cell?_drewN]; exact H3.out) (by rw [World.cell?_drewN]; exact H4.out) (Kd.C_drewN HR0.out _) (Kd.C_drewN HR2.out _) HF.out).mono ?_
      rintro e w' ⟨rfl, hD2⟩
      have HD2 : Aside0 (Drawn0 w w') := ⟨by obtain ⟨q, hq⟩ := hD2.out; exact ⟨m_ + q, by rw [hq, World.drewN_drewN]⟩⟩
      clear hD2 HD
      cases b_
      · have h := HH.out
        rw [if_neg (by decide)] at h
        clear HH
        by_cases c2 : wrap64 (wrap64 (2 * s_) - wrap64 (n_ + 1)) > t_
        · rw [if_pos c2] at h
          have H' := Aside0.mk h
          have c2b : decide (t_ < wrap64 (wrap64 (2 * s_) - wrap64 (n_ + 1))) = true := decide_eq_true c2
          clear c2 h
          go_wp2
          go_roundg k1
          case measure => have := HK1.out; omega
          case rel => exact ⟨_, _, _, _, rfl, rfl, rfl, rfl, H', ⟨by have := HK1.out; omega⟩, HD2⟩
        · rw [if_neg c2] at h
          have H' := Aside0.mk h
          have c2b : decide (t_ < wrap64 (wrap64 (2 * s_) - wrap64 (n_ + 1))) = false := decide_eq_false c2
          clear c2 h
          go_wp2
          go_roundg k1
          case measure => have := HK1.out; omega
          case rel => exact ⟨_, _, _, _, rfl, rfl, rfl, rfl, H', ⟨by have := HK1.out; omega⟩, HD2⟩
      · have h := HH.out
        rw [if_pos rfl] at h
        clear HH
        by_cases c2 : wrap64 (wrap64 (2 * wrap64 (s_ + 1)) - wrap64 (n_ + 1)) > t_
        · rw [if_pos c2] at h
          have H' := Aside0.mk h
          have c2b : decide (t_ < wrap64 (wrap64 (2 * wrap64 (s_ + 1)) - wrap64 (n_ + 1))) = true := decide_eq_true c2
          clear c2 h
          go_wp2
          go_roundg k1
          case measure => have := HK1.out; omega
          case rel => exact ⟨_, _, _, _, rfl, rfl, rfl, rfl, H', ⟨by have := HK1.out; omega⟩, HD2⟩
        · rw [if_neg c2] at h
          have H' := Aside0.mk h
          have c2b : decide (t_ < wrap64 (wrap64 (2 * wrap64 (s_ + 1)) - wrap64 (n_ + 1))) = false := decide_eq_false c2
          clear c2 h
          go_wp2
          go_roundg k1
          case measure => have := HK1.out; omega
          case rel => exact ⟨_, _, _, _, rfl, rfl, rfl, rfl, H', ⟨by have := HK1.out; omega⟩, HD2⟩
end Go.Proofs.Ytobknpeglagaaaa.X
end

section
-- Printed by wip/xprint.py of this repo (a wrapper of the session's own round the print).
namespace Go.Proofs.Ytobknpeglagaaaa.X
open Go.RowKit Go.Proofs.YtobknpeglagaaaaW.PrintWords Go.Proofs.YtobknpeglagaaaaW.PrintLast Go.Proofs.YtobknpeglagaaaaW.PrintMore
attribute [local go_sem] ptrOf_eql ptrOf_neq ptrOf_eqg ptrOf_neg str_leq str_geq str_gtr max2_int min2_int max_two min_two max_three min_three max_four min_four   -- for this text's walks alone
set_option linter.unusedVariables false
set_option linter.unusedSimpArgs false

-- BY HAND: function 17 (scan_Forward)

end Go.Proofs.Ytobknpeglagaaaa.X
end

section
-- Printed by wip/xprint.py of this repo (a wrapper of the session's own round the print).
namespace Go.Proofs.Ytobknpeglagaaaa.X
open Go.RowKit Go.Proofs.YtobknpeglagaaaaW.PrintWords Go.Proofs.YtobknpeglagaaaaW.PrintLast Go.Proofs.YtobknpeglagaaaaW.PrintMore
attribute [local go_sem] ptrOf_eql ptrOf_neq ptrOf_eqg ptrOf_neg str_leq str_geq str_gtr max2_int min2_int max_two min_two max_three min_three max_four min_four   -- for this text's walks alone
set_option linter.unusedVariables false
set_option linter.unusedSimpArgs false

-- BY HAND: function 19 (scan_Backward)

end Go.Proofs.Ytobknpeglagaaaa.X
end

section
-- Printed by wip/xprint.py of this repo (a wrapper of the session's own round the print).
namespace Go.Proofs.Ytobknpeglagaaaa.X
open Go.RowKit Go.Proofs.YtobknpeglagaaaaW.PrintWords Go.Proofs.YtobknpeglagaaaaW.PrintLast Go.Proofs.YtobknpeglagaaaaW.PrintMore
attribute [local go_sem] ptrOf_eql ptrOf_neq ptrOf_eqg ptrOf_neg str_leq str_geq str_gtr max2_int min2_int max_two min_two max_three min_three max_four min_four   -- for this text's walks alone
set_option linter.unusedVariables false
set_option linter.unusedSimpArgs false

-- BY HAND: function 21 (scan_Split)

end Go.Proofs.Ytobknpeglagaaaa.X
end

section
/- By hand: package scan's Forward, Backward, Split (after their closures). -/
namespace Go.Proofs.Ytobknpeglagaaaa.X
open Go.RowKit Go.Proofs.YtobknpeglagaaaaW.PrintWords Go.Proofs.YtobknpeglagaaaaW.PrintLast Go.Proofs.YtobknpeglagaaaaW.PrintMore
attribute [local go_sem] max2_int min2_int max_two min_two
set_option linter.unusedVariables false
set_option linter.unusedSimpArgs false

def scan_Forward.f (l0 : List Int) (a1 : Int) (l2 : List Int) (a3 a4 : Int) : Option Int := (scan_right.f l0 a1 l2 a3 a4).bind fun t => (if t = true then bst (fwd1 l0 a1 l2 a3) (l2.length + 2) (mn (wrap64 (a4 - a3)) (wrap64 ((l0.length : Int) - a1))) 0 0 0 0 else some 0)
set_option maxHeartbeats 4000000 in
set_option maxRecDepth 100000 in
theorem scan_Forward.calls (A0 : Option Addr) (c0 : Nat) (l0 : List Int) (a1 : Int) (A2 : Option Addr) (c2 : Nat) (l2 : List Int) (a3 : Int) (a4 : Int) (r : Int) (w : World) (hr0 : Kd.C (Kd.int .u8) w A0 l0.length l0) (hc0 : l0.length ≤ c0) (hr2 : Kd.C (Kd.int .u8) w A2 l2.length l2) (hc2 : l2.length ≤ c2) (h : scan_Forward.f l0 a1 l2 a3 a4 = some r) :
    Calls Try.prog 17 #[.slice A0 l0.length c0, .int .i64 a1, .slice A2 l2.length c2, .int .i64 a3, .int .i64 a4] w fun e w' => e = .returned (.int .i64 r) ∧ Below w.heap.size w w' := by
  have HR0 := Aside0.mk hr0
  have HC0 := Aside0.mk hc0
  have HR2 := Aside0.mk hr2
  have HC2 := Aside0.mk hc2
  clear hr0 hc0 hr2 hc2
  unfold scan_Forward.f at h
  replace h := Option.bind_eq_some_iff.mp h
  obtain ⟨b_, hA, h⟩ := h
  have F1 := Aside0.mk hA
  clear hA
  have HH := Aside0.mk h
  clear h
  go_enter Try.func17, Try.ntmps17
  go_wp2_with (fail)
  have hB0 : Below w.heap.size w ((((w.alloc (.cells #[.slice A0 l0.length c0] 23)).alloc (.cells #[.int .i64 a1] 3)).alloc (.cells #[.slice A2 l2.length c2] 23)).alloc (.cells #[.int .i64 a3] 3)) := by repeat (first | (with_reducible first | apply below_alloc) | exact Below.refl _ _)
  have k1 : ((((w.alloc (.cells #[.slice A0 l0.length c0] 23)).alloc (.cells #[.int .i64 a1] 3)).alloc (.cells #[.slice A2 l2.length c2] 23)).alloc (.cells #[.int .i64 a3] 3)).cell? ⟨w.heap.size, 0, none⟩ = some (.slice A0 l0.length c0) := by go_simp
  have k2 : ((((w.alloc (.cells #[.slice A0 l0.length c0] 23)).alloc (.cells #[.int .i64 a1] 3)).alloc (.cells #[.slice A2 l2.length c2] 23)).alloc (.cells #[.int .i64 a3] 3)).cell? ⟨w.heap.size + 1, 0, none⟩ = some (.int .i64 a1) := by go_simp
  have k3 : ((((w.alloc (.cells #[.slice A0 l0.length c0] 23)).alloc (.cells #[.int .i64 a1] 3)).alloc (.cells #[.slice A2 l2.length c2] 23)).alloc (.cells #[.int .i64 a3] 3)).cell? ⟨w.heap.size + 1 + 1, 0, none⟩ = some (.slice A2 l2.length c2) := by go_simp
  have k4 : ((((w.alloc (.cells #[.slice A0 l0.length c0] 23)).alloc (.cells #[.int .i64 a1] 3)).alloc (.cells #[.slice A2 l2.length c2] 23)).alloc (.cells #[.int .i64 a3] 3)).cell? ⟨w.heap.size + 1 + 1 + 1, 0, none⟩ = some (.int .i64 a3) := by go_simp
  generalize ((((w.alloc (.cells #[.slice A0 l0.length c0] 23)).alloc (.cells #[.int .i64 a1] 3)).alloc (.cells #[.slice A2 l2.length c2] 23)).alloc (.cells #[.int .i64 a3] 3)) = W at *
  have HB := Aside0.mk hB0
  clear hB0
  refine (scan_right.calls A0 c0 l0 a1 A2 c2 l2 a3 a4 b_ W (Kd.C_below HR0.out HB.out) HC0.out (Kd.C_below HR2.out HB.out) HC2.out F1.out).mono ?_
  rintro e w' ⟨rfl, hD⟩
  obtain ⟨m_, hm_⟩ := hD.out
  subst hm_
  clear hD
  have K1 := Aside0.mk k1
  have K2 := Aside0.mk k2
  have K3 := Aside0.mk k3
  have K4 := Aside0.mk k4
  cases b_
  · have h := HH.out
    rw [if_neg (by decide)] at h
    obtain rfl := Option.some.inj h
    clear h HH
    go_wp2
    go_ret
    exact ⟨rfl, pw_below_drewN HB.out _⟩
  · have h := HH.out
    rw [if_pos rfl] at h
    obtain ⟨m1_, hm1_⟩ : ∃ m : Int, (if (wrap64 ((l0.length : Int) - a1)) < wrap64 (a4 - a3) then (wrap64 ((l0.length : Int) - a1)) else wrap64 (a4 - a3)) = m := ⟨_, rfl⟩
    rw [show mn (wrap64 (a4 - a3)) (wrap64 ((l0.length : Int) - a1)) = m1_ from hm1_] at h
    have H' := Aside0.mk h
    clear h HH
    go_wp2_with (fail)
    refine (best_fwd1 (by rw [World.cell?_drewN]; exact K1.out) (by rw [World.cell?_drewN]; exact K2.out) (by rw [World.cell?_drewN]; exact K3.out) (by rw [World.cell?_drewN]; exact K4.out) (Kd.C_drewN (Kd.C_below HR0.out HB.out) _) (Kd.C_drewN (Kd.C_below HR2.out HB.out) _) H'.out).mono ?_
    rintro e w' ⟨rfl, hD2⟩
    have HE : Below w.heap.size w w' := by obtain ⟨q, hq⟩ := hD2.out; rw [hq]; exact pw_below_drewN (pw_below_drewN HB.out _) _
    clear k1 k2 k3 k4 hD2
    go_wp2
    go_ret
    exact ⟨rfl, HE⟩
def scan_Backward.f (l0 : List Int) (a1 : Int) (l2 : List Int) (a3 a4 : Int) : Option Int := (scan_right.f l0 a1 l2 a3 a4).bind fun t => (if t = true then bst (bwd1 l0 a1 l2 a4) (l2.length + 2) (mn (wrap64 (a4 - a3)) a1) 0 0 0 0 else some 0)
set_option maxHeartbeats 4000000 in
set_option maxRecDepth 100000 in
theorem scan_Backward.calls (A0 : Option Addr) (c0 : Nat) (l0 : List Int) (a1 : Int) (A2 : Option Addr) (c2 : Nat) (l2 : List Int) (a3 : Int) (a4 : Int) (r : Int) (w : World) (hr0 : Kd.C (Kd.int .u8) w A0 l0.length l0) (hc0 : l0.length ≤ c0) (hr2 : Kd.C (Kd.int .u8) w A2 l2.length l2) (hc2 : l2.length ≤ c2) (h : scan_Backward.f l0 a1 l2 a3 a4 = some r) :
    Calls Try.prog 19 #[.slice A0 l0.length c0, .int .i64 a1, .slice A2 l2.length c2, .int .i64 a3, .int .i64 a4] w fun e w' => e = .returned (.int .i64 r) ∧ Below w.heap.size w w' := by
  have HR0 := Aside0.mk hr0
  have HC0 := Aside0.mk hc0
  have HR2 := Aside0.mk hr2
  have HC2 := Aside0.mk hc2
  clear hr0 hc0 hr2 hc2
  unfold scan_Backward.f at h
  replace h := Option.bind_eq_some_iff.mp h
  obtain ⟨b_, hA, h⟩ := h
  have F1 := Aside0.mk hA
  clear hA
  have HH := Aside0.mk h
  clear h
  go_enter Try.func19, Try.ntmps19
  go_wp2_with (fail)
  have hB0 : Below w.heap.size w ((((w.alloc (.cells #[.slice A0 l0.length c0] 23)).alloc (.cells #[.int .i64 a1] 3)).alloc (.cells #[.slice A2 l2.length c2] 23)).alloc (.cells #[.int .i64 a4] 3)) := by repeat (first | (with_reducible first | apply below_alloc) | exact Below.refl _ _)
  have k1 : ((((w.alloc (.cells #[.slice A0 l0.length c0] 23)).alloc (.cells #[.int .i64 a1] 3)).alloc (.cells #[.slice A2 l2.length c2] 23)).alloc (.cells #[.int .i64 a4] 3)).cell? ⟨w.heap.size, 0, none⟩ = some (.slice A0 l0.length c0) := by go_simp
  have k2 : ((((w.alloc (.cells #[.slice A0 l0.length c0] 23)).alloc (.cells #[.int .i64 a1] 3)).alloc (.cells #[.slice A2 l2.length c2] 23)).alloc (.cells #[.int .i64 a4] 3)).cell? ⟨w.heap.size + 1, 0, none⟩ = some (.int .i64 a1) := by go_simp
  have k3 : ((((w.alloc (.cells #[.slice A0 l0.length c0] 23)).alloc (.cells #[.int .i64 a1] 3)).alloc (.cells #[.slice A2 l2.length c2] 23)).alloc (.cells #[.int .i64 a4] 3)).cell? ⟨w.heap.size + 1 + 1, 0, none⟩ = some (.slice A2 l2.length c2) := by go_simp
  have k4 : ((((w.alloc (.cells #[.slice A0 l0.length c0] 23)).alloc (.cells #[.int .i64 a1] 3)).alloc (.cells #[.slice A2 l2.length c2] 23)).alloc (.cells #[.int .i64 a4] 3)).cell? ⟨w.heap.size + 1 + 1 + 1, 0, none⟩ = some (.int .i64 a4) := by go_simp
  generalize ((((w.alloc (.cells #[.slice A0 l0.length c0] 23)).alloc (.cells #[.int .i64 a1] 3)).alloc (.cells #[.slice A2 l2.length c2] 23)).alloc (.cells #[.int .i64 a4] 3)) = W at *
  have HB := Aside0.mk hB0
  clear hB0
  refine (scan_right.calls A0 c0 l0 a1 A2 c2 l2 a3 a4 b_ W (Kd.C_below HR0.out HB.out) HC0.out (Kd.C_below HR2.out HB.out) HC2.out F1.out).mono ?_
  rintro e w' ⟨rfl, hD⟩
  obtain ⟨m_, hm_⟩ := hD.out
  subst hm_
  clear hD
  have K1 := Aside0.mk k1
  have K2 := Aside0.mk k2
  have K3 := Aside0.mk k3
  have K4 := Aside0.mk k4
  cases b_
  · have h := HH.out
    rw [if_neg (by decide)] at h
    obtain rfl := Option.some.inj h
    clear h HH
    go_wp2
    go_ret
    exact ⟨rfl, pw_below_drewN HB.out _⟩
  · have h := HH.out
    rw [if_pos rfl] at h
    obtain ⟨m1_, hm1_⟩ : ∃ m : Int, (if a1 < wrap64 (a4 - a3) then a1 else wrap64 (a4 - a3)) = m := ⟨_, rfl⟩
    rw [show mn (wrap64 (a4 - a3)) a1 = m1_ from hm1_] at h
    have H' := Aside0.mk h
    clear h HH
    go_wp2_with (fail)
    refine (best_bwd1 (by rw [World.cell?_drewN]; exact K1.out) (by rw [World.cell?_drewN]; exact K2.out) (by rw [World.cell?_drewN]; exact K3.out) (by rw [World.cell?_drewN]; exact K4.out) (Kd.C_drewN (Kd.C_below HR0.out HB.out) _) (Kd.C_drewN (Kd.C_below HR2.out HB.out) _) H'.out).mono ?_
    rintro e w' ⟨rfl, hD2⟩
    have HE : Below w.heap.size w w' := by obtain ⟨q, hq⟩ := hD2.out; rw [hq]; exact pw_below_drewN (pw_below_drewN HB.out _) _
    clear k1 k2 k3 k4 hD2
    go_wp2
    go_ret
    exact ⟨rfl, HE⟩
def spl1 (l : List Int) (a n : Int) : Bool := decide (a ≥ 0) && decide (a ≤ (l.length : Int)) && decide (n ≤ wrap64 ((l.length : Int) - a))
def sc1 (b1 b2 : Bool) (s : Int) : Int := if b2 = true then wrap64 ((if b1 = true then wrap64 (s + 1) else s) - 1) else (if b1 = true then wrap64 (s + 1) else s)
def splt : Nat → List Int → Int → Int → List Int → Int → Int → Int → Int → Int → Int → Option Int
  | 0, _, _, _, _, _, _, _, _, _, _ => none
  | k + 1, l0, a1, a2, l3, a4, a5, kk, top, s, i => if i < a5 then ((likeAt l0 (wrap64 (a1 + i)) l3 (wrap64 (a4 + i))).bind fun b1 => ((likeAt l0 (wrap64 (a2 + i)) l3 (wrap64 (a4 + i))).bind fun b2 =>
      (if sc1 b1 b2 s > top then splt k l0 a1 a2 l3 a4 a5 (wrap64 (i + 1)) (sc1 b1 b2 s) (sc1 b1 b2 s) (wrap64 (i + 1)) else splt k l0 a1 a2 l3 a4 a5 kk top (sc1 b1 b2 s) (wrap64 (i + 1))))) else some kk
def scan_Split.f (l0 : List Int) (a1 a2 : Int) (l3 : List Int) (a4 a5 : Int) : Option Int := if a5 < 0 then some 0 else (if spl1 l0 a1 a5 = true then (if spl1 l0 a2 a5 = true then (if spl1 l3 a4 a5 = true then splt (l3.length + 2) l0 a1 a2 l3 a4 a5 0 0 0 0 else some 0) else some 0) else some 0)
set_option maxRecDepth 100000 in
theorem spl1_calls {A : Option Addr} {c : Nat} {l : List Int} {a n : Int} {g : Nat} {w : World} (hg : w.cell? ⟨g, 0, none⟩ = some (.int .i64 n)) : Calls Try.prog 37 #[.slice A l.length c, .int .i64 a, .pointer (some ⟨g, 0, none⟩)] w fun e w' => e = .returned (.bool (spl1 l a n)) ∧ w = w' := by
  by_cases h1 : 0 ≤ a
  case neg =>
    have e : spl1 l a n = false := by unfold spl1; rw [decide_eq_false (p := a ≥ 0) (by omega)]; rfl
    rw [e]
    have h1b : decide (0 ≤ a) = false := decide_eq_false h1
    clear h1 e
    go_enter Try.func37, Try.ntmps37
    go_wp2
    go_ret
    exact ⟨rfl, rfl⟩
  by_cases h2 : a ≤ (l.length : Int)
  case neg =>
    have e : spl1 l a n = false := by unfold spl1; rw [decide_eq_false (p := a ≤ (l.length : Int)) (by omega)]; simp
    rw [e]
    have h1b : decide (0 ≤ a) = true := decide_eq_true h1
    have h2b : decide (a ≤ (l.length : Int)) = false := decide_eq_false h2
    clear h1 h2 e
    go_enter Try.func37, Try.ntmps37
    go_wp2
    go_ret
    exact ⟨rfl, rfl⟩
  have e : spl1 l a n = decide (n ≤ wrap64 ((l.length : Int) - a)) := by unfold spl1; rw [decide_eq_true (p := a ≥ 0) (by omega), decide_eq_true (p := a ≤ (l.length : Int)) (by omega)]; rfl
  rw [e]
  have h1b : decide (0 ≤ a) = true := decide_eq_true h1
  have h2b : decide (a ≤ (l.length : Int)) = true := decide_eq_true h2
  clear h1 h2 e
  go_enter Try.func37, Try.ntmps37
  go_wp2
  go_ret
  exact ⟨rfl, rfl⟩
set_option maxHeartbeats 8000000 in
set_option maxRecDepth 100000 in
theorem scan_Split.calls (A0 : Option Addr) (c0 : Nat) (l0 : List Int) (a1 : Int) (a2 : Int) (A3 : Option Addr) (c3 : Nat) (l3 : List Int) (a4 : Int) (a5 : Int) (r : Int) (w : World) (hr0 : Kd.C (Kd.int .u8) w A0 l0.length l0) (hc0 : l0.length ≤ c0) (hr3 : Kd.C (Kd.int .u8) w A3 l3.length l3) (hc3 : l3.length ≤ c3) (h : scan_Split.f l0 a1 a2 l3 a4 a5 = some r) :
    Calls Try.prog 21 #[.slice A0 l0.length c0, .int .i64 a1, .int .i64 a2, .slice A3 l3.length c3, .int .i64 a4, .int .i64 a5] w fun e w' => e = .returned (.int .i64 r) ∧ Below w.heap.size w w' := by
  have HR0 := Aside0.mk hr0
  have HR3 := Aside0.mk hr3
  clear hr0 hc0 hr3 hc3
  have k1 : (w.alloc (.cells #[.int .i64 a5] 3)).cell? ⟨w.heap.size, 0, none⟩ = some (.int .i64 a5) := by go_simp
  have HB : Aside0 (Below w.heap.size w (w.alloc (.cells #[.int .i64 a5] 3))) := ⟨below_alloc (Below.refl _ _) _⟩
  have K1 := Aside0.mk k1
  clear k1
  unfold scan_Split.f at h
  by_cases c1 : a5 < 0
  · rw [if_pos c1] at h
    obtain rfl := Option.some.inj h
    have c1b : decide (a5 < 0) = true := decide_eq_true c1
    clear c1 h
    go_enter Try.func21, Try.ntmps21
    go_wp2
    go_ret
    exact ⟨rfl, HB.out⟩
  rw [if_neg c1] at h
  have c1b : decide (a5 < 0) = false := decide_eq_false c1
  clear c1
  cases s1 : spl1 l0 a1 a5
  · rw [s1, if_neg (by decide)] at h
    obtain rfl := Option.some.inj h
    clear h
    have S1 := Aside0.mk s1
    clear s1
    go_enter Try.func21, Try.ntmps21
    go_wp2_with (first | (go_at_call 37; refine (spl1_calls (by first | exact K1.out | go_simp)).mono ?_; rw [S1.out]; rintro e w' ⟨rfl, rfl⟩))
    go_ret
    exact ⟨rfl, HB.out⟩
  rw [s1, if_pos rfl] at h
  have S1 := Aside0.mk s1
  clear s1
  cases s2 : spl1 l0 a2 a5
  · rw [s2, if_neg (by decide)] at h
    obtain rfl := Option.some.inj h
    clear h
    have S2 := Aside0.mk s2
    clear s2
    go_enter Try.func21, Try.ntmps21
    go_wp2_with (fail)
    refine (spl1_calls (by first | exact K1.out | go_simp)).mono ?_
    rw [S1.out]
    rintro e w' ⟨rfl, rfl⟩
    go_wp2_with (fail)
    refine (spl1_calls (by first | exact K1.out | go_simp)).mono ?_
    rw [S2.out]
    rintro e w' ⟨rfl, rfl⟩
    go_wp2
    go_ret
    exact ⟨rfl, HB.out⟩
  rw [s2, if_pos rfl] at h
  have S2 := Aside0.mk s2
  clear s2
  cases s3 : spl1 l3 a4 a5
  · rw [s3, if_neg (by decide)] at h
    obtain rfl := Option.some.inj h
    clear h
    have S3 := Aside0.mk s3
    clear s3
    go_enter Try.func21, Try.ntmps21
    go_wp2_with (fail)
    refine (spl1_calls (by first | exact K1.out | go_simp)).mono ?_
    rw [S1.out]
    rintro e w' ⟨rfl, rfl⟩
    go_wp2_with (fail)
    refine (spl1_calls (by first | exact K1.out | go_simp)).mono ?_
    rw [S2.out]
    rintro e w' ⟨rfl, rfl⟩
    go_wp2_with (fail)
    refine (spl1_calls (by first | exact K1.out | go_simp)).mono ?_
    rw [S3.out]
    rintro e w' ⟨rfl, rfl⟩
    go_wp2
    go_ret
    exact ⟨rfl, HB.out⟩
  rw [s3, if_pos rfl] at h
  have S3 := Aside0.mk s3
  have H := Aside0.mk h
  clear s3 h
  obtain ⟨k, hk⟩ : ∃ k : Nat, k = l3.length + 2 := ⟨_, rfl⟩
  rw [← hk] at H
  clear hk
  go_enter Try.func21, Try.ntmps21
  go_wp2_with (fail)
  refine (spl1_calls (by first | exact K1.out | go_simp)).mono ?_
  rw [S1.out]
  rintro e w' ⟨rfl, rfl⟩
  go_wp2_with (fail)
  refine (spl1_calls (by first | exact K1.out | go_simp)).mono ?_
  rw [S2.out]
  rintro e w' ⟨rfl, rfl⟩
  go_wp2_with (fail)
  refine (spl1_calls (by first | exact K1.out | go_simp)).mono ?_
  rw [S3.out]
  rintro e w' ⟨rfl, rfl⟩
  go_wp2
  go_loopg [14, 15, 16, 43] k (fun kq v14 v15 v16 v43 w' => ∃ (k_ t_ s_ i_ : Int), v14 = .int .i64 k_ ∧ v15 = .int .i64 t_ ∧ v16 = .int .i64 s_ ∧ v43 = .int .i64 i_ ∧ Aside0 (splt kq l0 a1 a2 l3 a4 a5 k_ t_ s_ i_ = some r) ∧ Aside0 (kq ≤ k) ∧ Aside0 (Below w.heap.size w w'))
  case atStart => exact ⟨0, 0, 0, 0, rfl, rfl, rfl, rfl, H, ⟨Nat.le_refl _⟩, HB⟩
  case round =>
    clear H HB K1
    obtain ⟨k_, t_, s_, i_, rfl, rfl, rfl, rfl, HA, HK1, HB⟩ := hrel
    cases gk with
    | zero => exact absurd HA.out (by simp [splt])
    | succ k1 =>
      have h := HA.out
      clear HA
      simp only [splt] at h
      by_cases c1 : i_ < a5
      case neg =>
        rw [if_neg c1] at h
        obtain rfl : k_ = r := Option.some.inj h
        have c1b : decide (i_ < a5) = false := decide_eq_false c1
        clear c1 h
        go_wp2
        go_ret
        exact ⟨rfl, HB.out⟩
      rw [if_pos c1] at h
      have c1b : decide (i_ < a5) = true := decide_eq_true c1
      clear c1
      replace h := Option.bind_eq_some_iff.mp h
      obtain ⟨b1, hA, h⟩ := h
      replace h := Option.bind_eq_some_iff.mp h
      obtain ⟨b2, hA2, h⟩ := h
      have HH := Aside0.mk h
      clear h
      obtain ⟨d1, d2, d3, d4, e1⟩ := likeAt_some hA
      obtain ⟨d5, d6, _, _, e2⟩ := likeAt_some hA2
      clear hA hA2
      obtain ⟨ad1, eq1, hx1⟩ := Kd.at_int (Kd.C_below HR0.out HB.out) _ d1 d2
      subst eq1
      obtain ⟨ad2, eq2, hx2⟩ := Kd.at_int (Kd.C_below HR0.out HB.out) _ d5 d6
      obtain rfl := Option.some.inj eq2
      obtain ⟨ad3, eq3, hx3⟩ := Kd.at_int (Kd.C_below HR3.out HB.out) _ d3 d4
      subst eq3
      have d1b := eq_true d1
      have d2b := eq_true d2
      have d3b := eq_true d3
      have d4b := eq_true d4
      have d5b := eq_true d5
      have d6b := eq_true d6
      clear d1 d2 d3 d4 d5 d6
      cases b1 <;> cases b2
      all_goals
        have f1 := e1.symm
        have f2 := e2.symm
        clear e1 e2
        have h := HH.out
        simp only [sc1, if_true, if_false, Bool.false_eq_true] at h
        clear HH
      · by_cases c2 : s_ > t_
        · rw [if_pos c2] at h
          have H' := Aside0.mk h
          have c2b : decide (t_ < s_) = true := decide_eq_true c2
          clear c2 h
          go_wp2
          go_quiet (fail)
          go_wp2
          go_quiet (fail)
          go_wp2
          go_roundg k1
          case measure => have := HK1.out; omega
          case rel => exact ⟨_, _, _, _, rfl, rfl, rfl, rfl, H', ⟨by have := HK1.out; omega⟩, ⟨by repeat (first | exact HB.out | apply pw_below_drewN)⟩⟩
        · rw [if_neg c2] at h
          have H' := Aside0.mk h
          have c2b : decide (t_ < s_) = false := decide_eq_false c2
          clear c2 h
          go_wp2
          go_quiet (fail)
          go_wp2
          go_quiet (fail)
          go_wp2
          go_roundg k1
          case measure => have := HK1.out; omega
          case rel => exact ⟨_, _, _, _, rfl, rfl, rfl, rfl, H', ⟨by have := HK1.out; omega⟩, ⟨by repeat (first | exact HB.out | apply pw_below_drewN)⟩⟩
      · by_cases c2 : wrap64 (s_ - 1) > t_
        · rw [if_pos c2] at h
          have H' := Aside0.mk h
          have c2b : decide (t_ < wrap64 (s_ - 1)) = true := decide_eq_true c2
          clear c2 h
          go_wp2
          go_quiet (fail)
          go_wp2
          go_quiet (fail)
          go_wp2
          go_roundg k1
          case measure => have := HK1.out; omega
          case rel => exact ⟨_, _, _, _, rfl, rfl, rfl, rfl, H', ⟨by have := HK1.out; omega⟩, ⟨by repeat (first | exact HB.out | apply pw_below_drewN)⟩⟩
        · rw [if_neg c2] at h
          have H' := Aside0.mk h
          have c2b : decide (t_ < wrap64 (s_ - 1)) = false := decide_eq_false c2
          clear c2 h
          go_wp2
          go_quiet (fail)
          go_wp2
          go_quiet (fail)
          go_wp2
          go_roundg k1
          case measure => have := HK1.out; omega
          case rel => exact ⟨_, _, _, _, rfl, rfl, rfl, rfl, H', ⟨by have := HK1.out; omega⟩, ⟨by repeat (first | exact HB.out | apply pw_below_drewN)⟩⟩
      · by_cases c2 : wrap64 (s_ + 1) > t_
        · rw [if_pos c2] at h
          have H' := Aside0.mk h
          have c2b : decide (t_ < wrap64 (s_ + 1)) = true := decide_eq_true c2
          clear c2 h
          go_wp2
          go_quiet (fail)
          go_wp2
          go_quiet (fail)
          go_wp2
          go_roundg k1
          case measure => have := HK1.out; omega
          case rel => exact ⟨_, _, _, _, rfl, rfl, rfl, rfl, H', ⟨by have := HK1.out; omega⟩, ⟨by repeat (first | exact HB.out | apply pw_below_drewN)⟩⟩
        · rw [if_neg c2] at h
          have H' := Aside0.mk h
          have c2b : decide (t_ < wrap64 (s_ + 1)) = false := decide_eq_false c2
          clear c2 h
          go_wp2
          go_quiet (fail)
          go_wp2
          go_quiet (fail)
          go_wp2
          go_roundg k1
          case measure => have := HK1.out; omega
          case rel => exact ⟨_, _, _, _, rfl, rfl, rfl, rfl, H', ⟨by have := HK1.out; omega⟩, ⟨by repeat (first | exact HB.out | apply pw_below_drewN)⟩⟩
      · by_cases c2 : wrap64 (wrap64 (s_ + 1) - 1) > t_
        · rw [if_pos c2] at h
          have H' := Aside0.mk h
          have c2b : decide (t_ < wrap64 (wrap64 (s_ + 1) - 1)) = true := decide_eq_true c2
          clear c2 h
          go_wp2
          go_quiet (fail)
          go_wp2
          go_quiet (fail)
          go_wp2
          go_roundg k1
          case measure => have := HK1.out; omega
          case rel => exact ⟨_, _, _, _, rfl, rfl, rfl, rfl, H', ⟨by have := HK1.out; omega⟩, ⟨by repeat (first | exact HB.out | apply pw_below_drewN)⟩⟩
        · rw [if_neg c2] at h
          have H' := Aside0.mk h
          have c2b : decide (t_ < wrap64 (wrap64 (s_ + 1) - 1)) = false := decide_eq_false c2
          clear c2 h
          go_wp2
          go_quiet (fail)
          go_wp2
          go_quiet (fail)
          go_wp2
          go_roundg k1
          case measure => have := HK1.out; omega
          case rel => exact ⟨_, _, _, _, rfl, rfl, rfl, rfl, H', ⟨by have := HK1.out; omega⟩, ⟨by repeat (first | exact HB.out | apply pw_below_drewN)⟩⟩
end Go.Proofs.Ytobknpeglagaaaa.X
end

section
-- Printed by wip/xprint.py of this repo (a wrapper of the session's own round the print).
namespace Go.Proofs.Ytobknpeglagaaaa.X
open Go.RowKit Go.Proofs.YtobknpeglagaaaaW.PrintWords Go.Proofs.YtobknpeglagaaaaW.PrintLast Go.Proofs.YtobknpeglagaaaaW.PrintMore
attribute [local go_sem] ptrOf_eql ptrOf_neq ptrOf_eqg ptrOf_neg str_leq str_geq str_gtr max2_int min2_int max_two min_two max_three min_three max_four min_four   -- for this text's walks alone
set_option linter.unusedVariables false
set_option linter.unusedSimpArgs false

/-! ### suffix_Index_is: function 30 -/
def suffix_Index_is.f (l0 : List (S48)) : Option (Bool) := if (l0.length : Int) = 0 then (some false) else (if 0 < (l0.length : Int) then (some ((rd_T48 l0 0).f0)) else (none))
set_option maxHeartbeats 8000000 in
set_option maxRecDepth 100000 in
theorem suffix_Index_is.calls (A0 : Option Addr) (c0 : Nat) (l0 : List (S48)) (r : Bool) (w : World) (hr0 : Kd.C k48 w A0 l0.length l0) (hc0 : l0.length ≤ c0) (h : suffix_Index_is.f l0 = some r) :
  Calls Try.prog 30 #[ptrOf (.slice A0 l0.length c0)] w fun e w' => e = .returned (.bool r) ∧ Drawn0 w w' := by
 have HR0 := Aside0.mk hr0
 have HC0 := Aside0.mk hc0
 clear hr0 hc0
 have H : (if (l0.length : Int) = 0 then (some false) else (if 0 < (l0.length : Int) then (some ((rd_T48 l0 0).f0)) else (none))) = some r := h
 clear h
 by_cases c2 : (l0.length : Int) = 0
 ·rw [if_pos c2] at H
  have c2b0 : ((l0.length : Int) == 0) = true := beq_iff_eq.mpr c2
  have c2b1 : ((l0.length : Int) != 0) = false := bne_eq_false_iff_eq.mpr c2
  clear c2
  obtain rfl := Option.some.inj H
  go_enter Try.func30, Try.ntmps30
  go_wp2
  go_ret
  exact ⟨by first | rfl | (simp; done) | (simp [*]; done), by repeat (first | exact Drawn0.refl _ | apply Drawn0.step)⟩
 ·rw [if_neg c2] at H
  have c2b0 : ((l0.length : Int) == 0) = false := beq_eq_false_iff_ne.mpr c2
  have c2b1 : ((l0.length : Int) != 0) = true := bne_iff_ne.mpr c2
  have c2b2 : ¬ (l0 = []) := fun h_ => c2 (by rw [h_]; rfl)
  by_cases c3 : 0 < (l0.length : Int)
  ·rw [if_pos c3] at H
   have c3b0 : decide (0 < (l0.length : Int)) = true := decide_eq_true c3
   have c3b1 : decide (0 < l0.length) = true := decide_eq_true (by omega)
   clear c3
   obtain rfl := Option.some.inj H
   have p268 : 0 ≤ (0 : Int) := (by omega)
   have q268 : 0 < (l0.length : Int) := of_decide_eq_true (by first | (with_reducible assumption) | assumption)
   obtain ⟨ad268, A268_1, c268_1, A268_2, c268_2, A268_3, c268_3, A268_4, c268_4, e268, hx268_0, hx268_1, hx268_2, hx268_3, hx268_4, hl268_1, hi268_1, hl268_2, hi268_2, hl268_3, hi268_3, hl268_4, hi268_4⟩ := at_T48 HR0.out 0 p268 q268
   cases e268
   have qi268 : (0 < l0.length) = True := eq_true (by omega)
   (try rw [show ((0 : Int)).toNat = 0 from rfl] at hx268_0)
   (try rw [show 0 * 5 = 0 from rfl] at hx268_0)
   (try rw [Addr.add_zero'] at hx268_0)
   (try rw [show ((0 : Int)).toNat = 0 from rfl] at hx268_1)
   (try rw [show 0 * 5 = 0 from rfl] at hx268_1)
   (try rw [Addr.add_zero'] at hx268_1)
   (try rw [show ((0 : Int)).toNat = 0 from rfl] at hx268_2)
   (try rw [show 0 * 5 = 0 from rfl] at hx268_2)
   (try rw [Addr.add_zero'] at hx268_2)
   (try rw [show ((0 : Int)).toNat = 0 from rfl] at hx268_3)
   (try rw [show 0 * 5 = 0 from rfl] at hx268_3)
   (try rw [Addr.add_zero'] at hx268_3)
   (try rw [show ((0 : Int)).toNat = 0 from rfl] at hx268_4)
   (try rw [show 0 * 5 = 0 from rfl] at hx268_4)
   (try rw [Addr.add_zero'] at hx268_4)
   have HR268_1 := Aside0.mk hi268_1
   have HC268_1 := Aside0.mk hl268_1
   clear hi268_1 hl268_1
   have HR268_2 := Aside0.mk hi268_2
   have HC268_2 := Aside0.mk hl268_2
   clear hi268_2 hl268_2
   have HR268_3 := Aside0.mk hi268_3
   have HC268_3 := Aside0.mk hl268_3
   clear hi268_3 hl268_3
   have HR268_4 := Aside0.mk hi268_4
   have HC268_4 := Aside0.mk hl268_4
   clear hi268_4 hl268_4
   replace p268 := eq_true p268
   replace q268 := eq_true q268
   have hpt268 : ptrOf (.slice (some ad268) l0.length c0) = .pointer (some ad268) := ptrOf_pos _ _ _ (of_decide_eq_true (by first | (with_reducible assumption) | assumption))
   go_enter Try.func30, Try.ntmps30
   go_wp2
   go_ret
   exact ⟨by first | rfl | (simp; done) | (simp [*]; done), by repeat (first | exact Drawn0.refl _ | apply Drawn0.step)⟩
  ·rw [if_neg c3] at H
   exact absurd H (by simp)

end Go.Proofs.Ytobknpeglagaaaa.X
end

section
-- Printed by wip/xprint.py of this repo (a wrapper of the session's own round the print).
namespace Go.Proofs.Ytobknpeglagaaaa.X
open Go.RowKit Go.Proofs.YtobknpeglagaaaaW.PrintWords Go.Proofs.YtobknpeglagaaaaW.PrintLast Go.Proofs.YtobknpeglagaaaaW.PrintMore
attribute [local go_sem] ptrOf_eql ptrOf_neq ptrOf_eqg ptrOf_neg str_leq str_geq str_gtr max2_int min2_int max_two min_two max_three min_three max_four min_four   -- for this text's walks alone
set_option linter.unusedVariables false
set_option linter.unusedSimpArgs false

/-! ### suffix_Index_Len: function 29 -/
def suffix_Index_Len.f (l0 : List (S48)) : Option (Int) := (suffix_Index_is.f l0).bind fun t269 => (if t269 = true then (if 0 < (l0.length : Int) then (some (((rd_T48 l0 0).f1).length : Int)) else (none)) else (some 0))
set_option maxHeartbeats 8000000 in
set_option maxRecDepth 100000 in
theorem suffix_Index_Len.calls (A0 : Option Addr) (c0 : Nat) (l0 : List (S48)) (r : Int) (w : World) (hr0 : Kd.C k48 w A0 l0.length l0) (hc0 : l0.length ≤ c0) (h : suffix_Index_Len.f l0 = some r) :
  Calls Try.prog 29 #[ptrOf (.slice A0 l0.length c0)] w fun e w' => e = .returned (.int .i64 r) ∧ Drawn0 w w' := by
 have HR0 := Aside0.mk hr0
 have HC0 := Aside0.mk hc0
 clear hr0 hc0
 have H : ((suffix_Index_is.f l0).bind fun t269 => (if t269 = true then (if 0 < (l0.length : Int) then (some (((rd_T48 l0 0).f1).length : Int)) else (none)) else (some 0))) = some r := h
 clear h
 replace H := Option.bind_eq_some_iff.mp H
 obtain ⟨t269, A20, H⟩ := H
 replace H : (if t269 = true then (if 0 < (l0.length : Int) then (some (((rd_T48 l0 0).f1).length : Int)) else (none)) else (some 0)) = some r := H
 have A2 := Aside0.mk A20
 clear A20
 by_cases c3 : t269 = true
 ·subst c3
  have H1 : (if 0 < (l0.length : Int) then (some (((rd_T48 l0 0).f1).length : Int)) else (none)) = some r := by rw [if_pos rfl] at H; exact H
  clear H
  have H := H1
  clear H1
  by_cases c4 : 0 < (l0.length : Int)
  ·rw [if_pos c4] at H
   have c4b0 : decide (0 < (l0.length : Int)) = true := decide_eq_true c4
   have c4b1 : decide (0 < l0.length) = true := decide_eq_true (by omega)
   clear c4
   obtain rfl := Option.some.inj H
   go_enter Try.func29, Try.ntmps29
   go_wp2_with (first | ((with_reducible refine gate_callee (f := 30) rfl ?_); refine goesL_ (some 4) rfl rfl Try.func30 (by kernel_rfl) rfl #[ptrOf (.slice A0 l0.length c0)] rfl (by (try simp only [List.map_toArray, List.map_cons, List.map_nil]); first | done | rfl | (simp only [*]; done) | (simp only [*]; rfl) | (simp only [List.length_drop, List.length_take]; rfl)) ?_; (with_reducible refine (suffix_Index_is.calls _ _ l0 true _ ?side1 ?side2 A2.out).mono ?_); (case side1 => repeat (first | exact HR0.out | (with_reducible refine Kd.C_alloc ?_ _) | (with_reducible refine Kd.C_drewN ?_ _) | (with_reducible refine Kd.C_drew ?_))); (case side2 => exact HC0.out); rintro e w' ⟨rfl, ⟨nd, rfl⟩⟩; refine ⟨_, rfl, ?_⟩; have p270 : 0 ≤ (0 : Int) := (by omega); have q270 : 0 < (l0.length : Int) := of_decide_eq_true (by first | (with_reducible assumption) | assumption); obtain ⟨ad270, A270_1, c270_1, A270_2, c270_2, A270_3, c270_3, A270_4, c270_4, e270, hx270_0, hx270_1, hx270_2, hx270_3, hx270_4, hl270_1, hi270_1, hl270_2, hi270_2, hl270_3, hi270_3, hl270_4, hi270_4⟩ := at_T48 HR0.out 0 p270 q270; cases e270; have qi270 : (0 < l0.length) = True := eq_true (by omega); (try rw [show ((0 : Int)).toNat = 0 from rfl] at hx270_0); (try rw [show 0 * 5 = 0 from rfl] at hx270_0); (try rw [Addr.add_zero'] at hx270_0); (try rw [show ((0 : Int)).toNat = 0 from rfl] at hx270_1); (try rw [show 0 * 5 = 0 from rfl] at hx270_1); (try rw [Addr.add_zero'] at hx270_1); (try rw [show ((0 : Int)).toNat = 0 from rfl] at hx270_2); (try rw [show 0 * 5 = 0 from rfl] at hx270_2); (try rw [Addr.add_zero'] at hx270_2); (try rw [show ((0 : Int)).toNat = 0 from rfl] at hx270_3); (try rw [show 0 * 5 = 0 from rfl] at hx270_3); (try rw [Addr.add_zero'] at hx270_3); (try rw [show ((0 : Int)).toNat = 0 from rfl] at hx270_4); (try rw [show 0 * 5 = 0 from rfl] at hx270_4); (try rw [Addr.add_zero'] at hx270_4); have HR270_1 := Aside0.mk hi270_1; have HC270_1 := Aside0.mk hl270_1; clear hi270_1 hl270_1; have HR270_2 := Aside0.mk hi270_2; have HC270_2 := Aside0.mk hl270_2; clear hi270_2 hl270_2; have HR270_3 := Aside0.mk hi270_3; have HC270_3 := Aside0.mk hl270_3; clear hi270_3 hl270_3; have HR270_4 := Aside0.mk hi270_4; have HC270_4 := Aside0.mk hl270_4; clear hi270_4 hl270_4; replace p270 := eq_true p270; replace q270 := eq_true q270; have hpt270 : ptrOf (.slice (some ad270) l0.length c0) = .pointer (some ad270) := ptrOf_pos _ _ _ (of_decide_eq_true (by first | (with_reducible assumption) | assumption))))
   go_ret
   exact ⟨by first | rfl | (simp; done) | (simp [*]; done), by repeat (first | exact Drawn0.refl _ | apply Drawn0.step)⟩
  ·rw [if_neg c4] at H
   exact absurd H (by simp)
 ·replace c3 := Bool.eq_false_iff.mpr c3
  subst c3
  have H1 : (some 0) = some r := by rw [if_neg (show ¬ (false = true) by decide)] at H; exact H
  clear H
  have H := H1
  clear H1
  obtain rfl := Option.some.inj H
  go_enter Try.func29, Try.ntmps29
  go_wp2_with (first | ((with_reducible refine gate_callee (f := 30) rfl ?_); refine goesL_ (some 4) rfl rfl Try.func30 (by kernel_rfl) rfl #[ptrOf (.slice A0 l0.length c0)] rfl (by (try simp only [List.map_toArray, List.map_cons, List.map_nil]); first | done | rfl | (simp only [*]; done) | (simp only [*]; rfl) | (simp only [List.length_drop, List.length_take]; rfl)) ?_; (with_reducible refine (suffix_Index_is.calls _ _ l0 false _ ?side1 ?side2 A2.out).mono ?_); (case side1 => repeat (first | exact HR0.out | (with_reducible refine Kd.C_alloc ?_ _) | (with_reducible refine Kd.C_drewN ?_ _) | (with_reducible refine Kd.C_drew ?_))); (case side2 => exact HC0.out); rintro e w' ⟨rfl, ⟨nd, rfl⟩⟩; refine ⟨_, rfl, ?_⟩))
  go_ret
  exact ⟨by first | rfl | (simp; done) | (simp [*]; done), by repeat (first | exact Drawn0.refl _ | apply Drawn0.step)⟩

end Go.Proofs.Ytobknpeglagaaaa.X
end

section
-- Printed by wip/xprint.py of this repo (a wrapper of the session's own round the print).
namespace Go.Proofs.Ytobknpeglagaaaa.X
open Go.RowKit Go.Proofs.YtobknpeglagaaaaW.PrintWords Go.Proofs.YtobknpeglagaaaaW.PrintLast Go.Proofs.YtobknpeglagaaaaW.PrintMore
attribute [local go_sem] ptrOf_eql ptrOf_neq ptrOf_eqg ptrOf_neg str_leq str_geq str_gtr max2_int min2_int max_two min_two max_three min_three max_four min_four   -- for this text's walks alone
set_option linter.unusedVariables false
set_option linter.unusedSimpArgs false

/-! ### suffix_Index_place: function 54 -/
def suffix_Index_place.l0 : Nat → List (S48) → List Int → Int → Int → Option (Int)
 | 0, _, _, _, _ => none
 | k + 1, x0, x10, x11, x12 => if x12 < x11 then (if 0 ≤ x12 then (if x12 < (x10.length : Int) then (if (rd x10 x12) < 0 then (some 132) else (if 0 < (x0.length : Int) then (if (rd x10 x12) ≥ (((rd_T48 x0 0).f1).length : Int) then (some 132) else (suffix_Index_place.l0 k x0 x10 x11 (wrap64 (x12 + 1)))) else (none))) else (none)) else (none)) else (some 0)
def suffix_Index_place.f (k : Nat) (l0 : List (S48)) (l1 : List Int) : Option (Int) := (suffix_Index_is.f l0).bind fun t279 => (if t279 = true then (suffix_Index_place.l0 k l0 l1 (l1.length : Int) 0) else (some 2))
theorem suffix_Index_place.mono_l : ∀ k, (∀ y0 y1 y2 y3, LeO (suffix_Index_place.l0 k y0 y1 y2 y3) (suffix_Index_place.l0 (k + 1) y0 y1 y2 y3))
 | 0 => fun _ _ _ _ r h => by simp [suffix_Index_place.l0] at h
 | k + 1 => by
  have ih0 := suffix_Index_place.mono_l k
  ·intro y0 y1 y2 y3
   unfold suffix_Index_place.l0
   repeat' first
   | (with_reducible exact ih0 _ _ _ _)
   | (with_reducible exact LeO.refl _)
   | (with_reducible exact LeO.none _)
   | (with_reducible refine LeO.ite ?_ ?_)
   | (with_reducible refine LeO.bind ?_ (fun _ => ?_))
   | exact ih0 _ _ _ _
   | exact LeO.none _
   | refine LeO.ite ?_ ?_
   | refine LeO.bind ?_ (fun _ => ?_)
theorem suffix_Index_place.mono : ∀ a0 a1 k, LeO (suffix_Index_place.f k a0 a1) (suffix_Index_place.f (k + 1) a0 a1) := by
 intro a0 a1 k
 have ih0 := suffix_Index_place.mono_l k
 unfold suffix_Index_place.f
 repeat' first
   | (with_reducible exact ih0 _ _ _ _)
   | (with_reducible exact LeO.refl _)
   | (with_reducible exact LeO.none _)
   | (with_reducible refine LeO.ite ?_ ?_)
   | (with_reducible refine LeO.bind ?_ (fun _ => ?_))
   | exact ih0 _ _ _ _
   | exact LeO.none _
   | refine LeO.ite ?_ ?_
   | refine LeO.bind ?_ (fun _ => ?_)
set_option maxHeartbeats 8000000 in
set_option maxRecDepth 100000 in
theorem suffix_Index_place.calls (k : Nat) (A0 : Option Addr) (c0 : Nat) (l0 : List (S48)) (A1 : Option Addr) (c1 : Nat) (l1 : List Int) (r : Int) (w : World) (hr0 : Kd.C k48 w A0 l0.length l0) (hc0 : l0.length ≤ c0) (hr1 : Kd.C (Kd.int .i64) w A1 l1.length l1) (hc1 : l1.length ≤ c1) (h : suffix_Index_place.f k l0 l1 = some r) :
  Calls Try.prog 54 #[ptrOf (.slice A0 l0.length c0), .slice A1 l1.length c1] w fun e w' => e = .returned (.int .i64 r) ∧ Drawn0 w w' := by
 have HR0 := Aside0.mk hr0
 have HC0 := Aside0.mk hc0
 clear hr0 hc0
 have HR1 := Aside0.mk hr1
 have HC1 := Aside0.mk hc1
 clear hr1 hc1
 have H : ((suffix_Index_is.f l0).bind fun t279 => (if t279 = true then (suffix_Index_place.l0 k l0 l1 (l1.length : Int) 0) else (some 2))) = some r := h
 clear h
 replace H := Option.bind_eq_some_iff.mp H
 obtain ⟨t279, A30, H⟩ := H
 replace H : (if t279 = true then (suffix_Index_place.l0 k l0 l1 (l1.length : Int) 0) else (some 2)) = some r := H
 have A3 := Aside0.mk A30
 clear A30
 by_cases c4 : t279 = true
 ·subst c4
  have H1 : (suffix_Index_place.l0 k l0 l1 (l1.length : Int) 0) = some r := by rw [if_pos rfl] at H; exact H
  clear H
  have H := H1
  clear H1
  have H' := Aside0.mk H
  clear H
  go_enter Try.func54, Try.ntmps54
  go_wp2_with (first | ((with_reducible refine gate_callee (f := 30) rfl ?_); refine goesL_ (some 8) rfl rfl Try.func30 (by kernel_rfl) rfl #[ptrOf (.slice A0 l0.length c0)] rfl (by (try simp only [List.map_toArray, List.map_cons, List.map_nil]); first | done | rfl | (simp only [*]; done) | (simp only [*]; rfl) | (simp only [List.length_drop, List.length_take]; rfl)) ?_; (with_reducible refine (suffix_Index_is.calls _ _ l0 true _ ?side1 ?side2 A3.out).mono ?_); (case side1 => repeat (first | exact HR0.out | (with_reducible refine Kd.C_alloc ?_ _) | (with_reducible refine Kd.C_drewN ?_ _) | (with_reducible refine Kd.C_drew ?_))); (case side2 => exact HC0.out); rintro e w' ⟨rfl, ⟨nd, rfl⟩⟩; refine ⟨_, rfl, ?_⟩))
  go_loopg [12] k (fun kq v12 w' => ∃ (x12_1 : Int), v12 = .int .i64 x12_1 ∧ Aside0 (suffix_Index_place.l0 kq l0 l1 (l1.length : Int) x12_1 = some r) ∧ Aside0 (kq ≤ k) ∧ Drawn0 w w')
  case atStart => exact ⟨(0), (by first | rfl | (simp; done) | (simp [*]; done)), H', ⟨Nat.le_refl _⟩, by repeat (first | exact Drawn0.refl _ | apply Drawn0.step)⟩
  case round =>
   clear H'
   try clear c1
   try clear p2
   try clear c3
   try clear c4
   obtain ⟨x12_1, rfl, HA, HK1, ⟨m1, rfl⟩⟩ := hrel
   cases gk with
   | zero => exact absurd HA.out (by simp [suffix_Index_place.l0])
   | succ k1 =>
    have H := HA.out
    clear HA
    simp only [suffix_Index_place.l0] at H
    by_cases c5 : x12_1 < (l1.length : Int)
    ·rw [if_pos c5] at H
     have c5b0 : decide (x12_1 < (l1.length : Int)) = true := decide_eq_true c5
     clear c5
     by_cases c6 : 0 ≤ x12_1
     ·rw [if_pos c6] at H
      have c6b0 : decide (0 ≤ x12_1) = true := decide_eq_true c6
      clear c6
      by_cases c7 : x12_1 < (l1.length : Int)
      ·rw [if_pos c7] at H
       have c7b0 : decide (x12_1 < (l1.length : Int)) = true := decide_eq_true c7
       clear c7
       by_cases c8 : (rd l1 x12_1) < 0
       ·rw [if_pos c8] at H
        have c8b0 : decide ((rd l1 x12_1) < 0) = true := decide_eq_true c8
        clear c8
        obtain rfl := Option.some.inj H
        have p280 : 0 ≤ (x12_1 : Int) := of_decide_eq_true (by first | (with_reducible assumption) | assumption)
        have q280 : x12_1 < (l1.length : Int) := of_decide_eq_true (by first | (with_reducible assumption) | assumption)
        obtain ⟨ad280, e280, hx280_0⟩ := Kd.at_int HR1.out x12_1 p280 q280
        cases e280
        replace p280 := eq_true p280
        replace q280 := eq_true q280
        go_wp2
        go_ret
        exact ⟨by first | rfl | (simp; done) | (simp [*]; done), by repeat (first | exact Drawn0.refl _ | apply Drawn0.step)⟩
       ·rw [if_neg c8] at H
        have c8b0 : decide ((rd l1 x12_1) < 0) = false := decide_eq_false c8
        clear c8
        by_cases c9 : 0 < (l0.length : Int)
        ·rw [if_pos c9] at H
         have c9b0 : decide (0 < (l0.length : Int)) = true := decide_eq_true c9
         have c9b1 : decide (0 < l0.length) = true := decide_eq_true (by omega)
         clear c9
         by_cases c10 : (rd l1 x12_1) ≥ (((rd_T48 l0 0).f1).length : Int)
         ·rw [if_pos c10] at H
          have c10b0 : decide ((((rd_T48 l0 0).f1).length : Int) ≤ (rd l1 x12_1)) = true := decide_eq_true c10
          clear c10
          obtain rfl := Option.some.inj H
          have p280 : 0 ≤ (x12_1 : Int) := of_decide_eq_true (by first | (with_reducible assumption) | assumption)
          have q280 : x12_1 < (l1.length : Int) := of_decide_eq_true (by first | (with_reducible assumption) | assumption)
          obtain ⟨ad280, e280, hx280_0⟩ := Kd.at_int HR1.out x12_1 p280 q280
          cases e280
          replace p280 := eq_true p280
          replace q280 := eq_true q280
          have p281 : 0 ≤ (0 : Int) := (by omega)
          have q281 : 0 < (l0.length : Int) := of_decide_eq_true (by first | (with_reducible assumption) | assumption)
          obtain ⟨ad281, A281_1, c281_1, A281_2, c281_2, A281_3, c281_3, A281_4, c281_4, e281, hx281_0, hx281_1, hx281_2, hx281_3, hx281_4, hl281_1, hi281_1, hl281_2, hi281_2, hl281_3, hi281_3, hl281_4, hi281_4⟩ := at_T48 HR0.out 0 p281 q281
          cases e281
          have qi281 : (0 < l0.length) = True := eq_true (by omega)
          (try rw [show ((0 : Int)).toNat = 0 from rfl] at hx281_0)
          (try rw [show 0 * 5 = 0 from rfl] at hx281_0)
          (try rw [Addr.add_zero'] at hx281_0)
          (try rw [show ((0 : Int)).toNat = 0 from rfl] at hx281_1)
          (try rw [show 0 * 5 = 0 from rfl] at hx281_1)
          (try rw [Addr.add_zero'] at hx281_1)
          (try rw [show ((0 : Int)).toNat = 0 from rfl] at hx281_2)
          (try rw [show 0 * 5 = 0 from rfl] at hx281_2)
          (try rw [Addr.add_zero'] at hx281_2)
          (try rw [show ((0 : Int)).toNat = 0 from rfl] at hx281_3)
          (try rw [show 0 * 5 = 0 from rfl] at hx281_3)
          (try rw [Addr.add_zero'] at hx281_3)
          (try rw [show ((0 : Int)).toNat = 0 from rfl] at hx281_4)
          (try rw [show 0 * 5 = 0 from rfl] at hx281_4)
          (try rw [Addr.add_zero'] at hx281_4)
          have HR281_1 := Aside0.mk hi281_1
          have HC281_1 := Aside0.mk hl281_1
          clear hi281_1 hl281_1
          have HR281_2 := Aside0.mk hi281_2
          have HC281_2 := Aside0.mk hl281_2
          clear hi281_2 hl281_2
          have HR281_3 := Aside0.mk hi281_3
          have HC281_3 := Aside0.mk hl281_3
          clear hi281_3 hl281_3
          have HR281_4 := Aside0.mk hi281_4
          have HC281_4 := Aside0.mk hl281_4
          clear hi281_4 hl281_4
          replace p281 := eq_true p281
          replace q281 := eq_true q281
          have hpt281 : ptrOf (.slice (some ad281) l0.length c0) = .pointer (some ad281) := ptrOf_pos _ _ _ (of_decide_eq_true (by first | (with_reducible assumption) | assumption))
          go_wp2
          go_ret
          exact ⟨by first | rfl | (simp; done) | (simp [*]; done), by repeat (first | exact Drawn0.refl _ | apply Drawn0.step)⟩
         ·rw [if_neg c10] at H
          have c10b0 : decide ((((rd_T48 l0 0).f1).length : Int) ≤ (rd l1 x12_1)) = false := decide_eq_false c10
          clear c10
          have H' := Aside0.mk H
          clear H
          have p280 : 0 ≤ (x12_1 : Int) := of_decide_eq_true (by first | (with_reducible assumption) | assumption)
          have q280 : x12_1 < (l1.length : Int) := of_decide_eq_true (by first | (with_reducible assumption) | assumption)
          obtain ⟨ad280, e280, hx280_0⟩ := Kd.at_int HR1.out x12_1 p280 q280
          cases e280
          replace p280 := eq_true p280
          replace q280 := eq_true q280
          have p281 : 0 ≤ (0 : Int) := (by omega)
          have q281 : 0 < (l0.length : Int) := of_decide_eq_true (by first | (with_reducible assumption) | assumption)
          obtain ⟨ad281, A281_1, c281_1, A281_2, c281_2, A281_3, c281_3, A281_4, c281_4, e281, hx281_0, hx281_1, hx281_2, hx281_3, hx281_4, hl281_1, hi281_1, hl281_2, hi281_2, hl281_3, hi281_3, hl281_4, hi281_4⟩ := at_T48 HR0.out 0 p281 q281
          cases e281
          have qi281 : (0 < l0.length) = True := eq_true (by omega)
          (try rw [show ((0 : Int)).toNat = 0 from rfl] at hx281_0)
          (try rw [show 0 * 5 = 0 from rfl] at hx281_0)
          (try rw [Addr.add_zero'] at hx281_0)
          (try rw [show ((0 : Int)).toNat = 0 from rfl] at hx281_1)
          (try rw [show 0 * 5 = 0 from rfl] at hx281_1)
          (try rw [Addr.add_zero'] at hx281_1)
          (try rw [show ((0 : Int)).toNat = 0 from rfl] at hx281_2)
          (try rw [show 0 * 5 = 0 from rfl] at hx281_2)
          (try rw [Addr.add_zero'] at hx281_2)
          (try rw [show ((0 : Int)).toNat = 0 from rfl] at hx281_3)
          (try rw [show 0 * 5 = 0 from rfl] at hx281_3)
          (try rw [Addr.add_zero'] at hx281_3)
          (try rw [show ((0 : Int)).toNat = 0 from rfl] at hx281_4)
          (try rw [show 0 * 5 = 0 from rfl] at hx281_4)
          (try rw [Addr.add_zero'] at hx281_4)
          have HR281_1 := Aside0.mk hi281_1
          have HC281_1 := Aside0.mk hl281_1
          clear hi281_1 hl281_1
          have HR281_2 := Aside0.mk hi281_2
          have HC281_2 := Aside0.mk hl281_2
          clear hi281_2 hl281_2
          have HR281_3 := Aside0.mk hi281_3
          have HC281_3 := Aside0.mk hl281_3
          clear hi281_3 hl281_3
          have HR281_4 := Aside0.mk hi281_4
          have HC281_4 := Aside0.mk hl281_4
          clear hi281_4 hl281_4
          replace p281 := eq_true p281
          replace q281 := eq_true q281
          have hpt281 : ptrOf (.slice (some ad281) l0.length c0) = .pointer (some ad281) := ptrOf_pos _ _ _ (of_decide_eq_true (by first | (with_reducible assumption) | assumption))
          go_wp2
          (try (have Nhpt281 := Aside0.mk hpt281; clear hpt281; rw [← Nhpt281.out]))
          go_roundg k1
          case measure => have := HK1.out; omega
          case rel => exact ⟨(wrap64 (x12_1 + 1)), (by first | rfl | (simp; done) | (simp [*]; done)), H', ⟨by have := HK1.out; omega⟩, by repeat (first | exact Drawn0.refl _ | apply Drawn0.step)⟩
        ·rw [if_neg c9] at H
         exact absurd H (by simp)
      ·rw [if_neg c7] at H
       exact absurd H (by simp)
     ·rw [if_neg c6] at H
      exact absurd H (by simp)
    ·rw [if_neg c5] at H
     have c5b0 : decide (x12_1 < (l1.length : Int)) = false := decide_eq_false c5
     clear c5
     obtain rfl := Option.some.inj H
     go_wp2
     go_ret
     exact ⟨by first | rfl | (simp; done) | (simp [*]; done), by repeat (first | exact Drawn0.refl _ | apply Drawn0.step)⟩
 ·replace c4 := Bool.eq_false_iff.mpr c4
  subst c4
  have H1 : (some 2) = some r := by rw [if_neg (show ¬ (false = true) by decide)] at H; exact H
  clear H
  have H := H1
  clear H1
  obtain rfl := Option.some.inj H
  go_enter Try.func54, Try.ntmps54
  go_wp2_with (first | ((with_reducible refine gate_callee (f := 30) rfl ?_); refine goesL_ (some 8) rfl rfl Try.func30 (by kernel_rfl) rfl #[ptrOf (.slice A0 l0.length c0)] rfl (by (try simp only [List.map_toArray, List.map_cons, List.map_nil]); first | done | rfl | (simp only [*]; done) | (simp only [*]; rfl) | (simp only [List.length_drop, List.length_take]; rfl)) ?_; (with_reducible refine (suffix_Index_is.calls _ _ l0 false _ ?side1 ?side2 A3.out).mono ?_); (case side1 => repeat (first | exact HR0.out | (with_reducible refine Kd.C_alloc ?_ _) | (with_reducible refine Kd.C_drewN ?_ _) | (with_reducible refine Kd.C_drew ?_))); (case side2 => exact HC0.out); rintro e w' ⟨rfl, ⟨nd, rfl⟩⟩; refine ⟨_, rfl, ?_⟩))
  go_ret
  exact ⟨by first | rfl | (simp; done) | (simp [*]; done), by repeat (first | exact Drawn0.refl _ | apply Drawn0.step)⟩

end Go.Proofs.Ytobknpeglagaaaa.X
end

section
-- Printed by wip/xprint.py of this repo (a wrapper of the session's own round the print).
namespace Go.Proofs.Ytobknpeglagaaaa.X
open Go.RowKit Go.Proofs.YtobknpeglagaaaaW.PrintWords Go.Proofs.YtobknpeglagaaaaW.PrintLast Go.Proofs.YtobknpeglagaaaaW.PrintMore
attribute [local go_sem] ptrOf_eql ptrOf_neq ptrOf_eqg ptrOf_neg str_leq str_geq str_gtr max2_int min2_int max_two min_two max_three min_three max_four min_four   -- for this text's walks alone
set_option linter.unusedVariables false
set_option linter.unusedSimpArgs false

/-! ### suffix_Index_At: function 46 -/
def suffix_Index_At.f (k : Nat) (l0 : List (S48)) (a1 : Int) : Option (Int × Int) := (suffix_Index_place.f k l0 (([a1] : List Int))).bind fun t285 => (if t285 = 0 then (if 0 < (l0.length : Int) then (if 0 ≤ a1 then (if a1 < (((rd_T48 l0 0).f2).length : Int) then (some (rd ((rd_T48 l0 0).f2) a1, 0)) else (none)) else (none)) else (none)) else (some (0, t285)))
theorem suffix_Index_At.mono : ∀ a0 a1 k, LeO (suffix_Index_At.f k a0 a1) (suffix_Index_At.f (k + 1) a0 a1) := by
 intro a0 a1 k
 unfold suffix_Index_At.f
 repeat' first
   | (with_reducible exact suffix_Index_place.mono _ _ _)
   | (with_reducible exact LeO.refl _)
   | (with_reducible exact LeO.none _)
   | (with_reducible refine LeO.ite ?_ ?_)
   | (with_reducible refine LeO.bind ?_ (fun _ => ?_))
   | exact suffix_Index_place.mono _ _ _
   | exact LeO.none _
   | refine LeO.ite ?_ ?_
   | refine LeO.bind ?_ (fun _ => ?_)
set_option maxHeartbeats 8000000 in
set_option maxRecDepth 100000 in
theorem suffix_Index_At.calls (k : Nat) (A0 : Option Addr) (c0 : Nat) (l0 : List (S48)) (a1 : Int) (r1 : Int) (r2 : Int) (w : World) (hr0 : Kd.C k48 w A0 l0.length l0) (hc0 : l0.length ≤ c0) (h : suffix_Index_At.f k l0 a1 = some (r1, r2)) :
  Calls Try.prog 46 #[ptrOf (.slice A0 l0.length c0), .int .i64 a1] w fun e w' => e = .returned (.tuple #[.int .i64 r1, .int .i64 r2]) ∧ Below w.heap.size w w' := by
 have HR0 := Aside0.mk hr0
 have HC0 := Aside0.mk hc0
 clear hr0 hc0
 have HB := Aside0.mk (Below.refl w.heap.size w)
 have H : ((suffix_Index_place.f k l0 (([a1] : List Int))).bind fun t285 => (if t285 = 0 then (if 0 < (l0.length : Int) then (if 0 ≤ a1 then (if a1 < (((rd_T48 l0 0).f2).length : Int) then (some (rd ((rd_T48 l0 0).f2) a1, 0)) else (none)) else (none)) else (none)) else (some (0, t285)))) = some (r1, r2) := h
 clear h
 obtain ⟨y282, hy282⟩ : ∃ y_ : List Int, y_ = (([a1] : List Int)) := ⟨_, rfl⟩
 replace H : ((suffix_Index_place.f k l0 y282).bind fun t285 => (if t285 = 0 then (if 0 < (l0.length : Int) then (if 0 ≤ a1 then (if a1 < (((rd_T48 l0 0).f2).length : Int) then (some (rd ((rd_T48 l0 0).f2) a1, 0)) else (none)) else (none)) else (none)) else (some (0, t285)))) = some (r1, r2) := by first | (rw [hy282]; with_reducible exact H) | (have H2_ := (Option.bind_some _ _).symm.trans H; rw [hy282]; with_reducible exact H2_) | (have H2_ := (Option.bind_some _ _).symm.trans H; with_reducible exact H2_) | with_reducible exact H | (rw [hy282]; exact H) | exact H
 have Ny282 := Aside0.mk hy282
 clear hy282
 replace H := Option.bind_eq_some_iff.mp H
 obtain ⟨t285, A30, H⟩ := H
 replace H : (if t285 = 0 then (if 0 < (l0.length : Int) then (if 0 ≤ a1 then (if a1 < (((rd_T48 l0 0).f2).length : Int) then (some (rd ((rd_T48 l0 0).f2) a1, 0)) else (none)) else (none)) else (none)) else (some (0, t285))) = some (r1, r2) := H
 have A3 := Aside0.mk A30
 clear A30
 by_cases c4 : t285 = 0
 ·rw [if_pos c4] at H
  have c4b0 : (t285 == 0) = true := beq_iff_eq.mpr c4
  have c4b1 : (t285 != 0) = false := bne_eq_false_iff_eq.mpr c4
  clear c4
  by_cases c5 : 0 < (l0.length : Int)
  ·rw [if_pos c5] at H
   have c5b0 : decide (0 < (l0.length : Int)) = true := decide_eq_true c5
   have c5b1 : decide (0 < l0.length) = true := decide_eq_true (by omega)
   clear c5
   by_cases c6 : 0 ≤ a1
   ·rw [if_pos c6] at H
    have c6b0 : decide (0 ≤ a1) = true := decide_eq_true c6
    clear c6
    by_cases c7 : a1 < (((rd_T48 l0 0).f2).length : Int)
    ·rw [if_pos c7] at H
     have c7b0 : decide (a1 < (((rd_T48 l0 0).f2).length : Int)) = true := decide_eq_true c7
     clear c7
     simp only [Option.some.injEq, Prod.mk.injEq] at H
     obtain ⟨rfl, rfl⟩ := H
     go_enter Try.func46, Try.ntmps46
     go_wp2_with (first | ((with_reducible refine gate_dst (N := 9) rfl ?_); refine Kd.R_lit (Kd.int .i64) _ 3 ?hg (N := 9) ?hd (xs := ([a1] : List Int)) (inner := [.int .i64 a1]) (ok := fun _ => True) (okp := fun _ => True) ?hr ?hp (fun _ hk => hk) trivial (Below.refl _ _) (Nat.le_refl _) (by simp) ?_; (case hd => rfl); (case hg => rfl); (case hr => first | (go_simp; done) | (go_simp; rfl)); (case hp => exact (Reps.one (show Kd.M (Kd.int .i64) _ _ _ a1 [.int .i64 a1] from rfl) (Reps.none _ _))); intro v283 w8 ho9 hb hg_ hnew_; clear hg_ hnew_; (first | rw [← Ny282.out] at ho9 | (simp only [Int.reduceToNat] at ho9; rw [← Ny282.out] at ho9)); have n0_ := Aside0.mk (Kd.R_lower ho9 (below_size (by repeat (first | (with_reducible first | exact HB.out | apply below_alloc | apply pw_below_drewN | apply below_drew1) | exact HB.out)))); have n1_ := Aside0.mk (below_step (by repeat (first | (with_reducible first | exact HB.out | apply below_alloc | apply pw_below_drewN | apply below_drew1) | exact HB.out)) hb); clear HB; have HO284 := n0_; have HB := n1_; clear n0_ n1_; clear hb ho9; obtain ⟨Ao10, co10, eo10⟩ := Kd.R_slice HO284.out; subst eo10) | ((with_reducible refine gate_callee (f := 54) rfl ?_); refine goesL_ (some 10) rfl rfl Try.func54 (by kernel_rfl) rfl #[ptrOf (.slice A0 l0.length c0), .slice Ao10 y282.length co10] rfl (by (try simp only [List.map_toArray, List.map_cons, List.map_nil]); first | done | rfl | (simp only [*]; done) | (simp only [*]; rfl) | (simp only [List.length_drop, List.length_take]; rfl)) ?_; (with_reducible refine (suffix_Index_place.calls k _ _ l0 _ _ y282 t285 _ ?side1 ?side2 ?side3 ?side4 A3.out).mono ?_); (case side1 => repeat (first | exact (Kd.C_below HR0.out HB.out) | (with_reducible refine Kd.C_alloc ?_ _) | (with_reducible refine Kd.C_drewN ?_ _) | (with_reducible refine Kd.C_drew ?_))); (case side2 => exact HC0.out); (case side3 => repeat (first | exact (Kd.R_reads' HO284.out).2.2 | (with_reducible refine Kd.C_alloc ?_ _) | (with_reducible refine Kd.C_drewN ?_ _) | (with_reducible refine Kd.C_drew ?_))); (case side4 => exact (Kd.R_reads' HO284.out).2.1); rintro e w' ⟨rfl, ⟨nd, rfl⟩⟩; refine ⟨_, rfl, ?_⟩; have p286 : 0 ≤ (0 : Int) := (by omega); have q286 : 0 < (l0.length : Int) := of_decide_eq_true (by first | (with_reducible assumption) | assumption); obtain ⟨ad286, A286_1, c286_1, A286_2, c286_2, A286_3, c286_3, A286_4, c286_4, e286, hx286_0, hx286_1, hx286_2, hx286_3, hx286_4, hl286_1, hi286_1, hl286_2, hi286_2, hl286_3, hi286_3, hl286_4, hi286_4⟩ := at_T48 HR0.out 0 p286 q286; cases e286; have qi286 : (0 < l0.length) = True := eq_true (by omega); (try rw [show ((0 : Int)).toNat = 0 from rfl] at hx286_0); (try rw [show 0 * 5 = 0 from rfl] at hx286_0); (try rw [Addr.add_zero'] at hx286_0); (try rw [show ((0 : Int)).toNat = 0 from rfl] at hx286_1); (try rw [show 0 * 5 = 0 from rfl] at hx286_1); (try rw [Addr.add_zero'] at hx286_1); (try rw [show ((0 : Int)).toNat = 0 from rfl] at hx286_2); (try rw [show 0 * 5 = 0 from rfl] at hx286_2); (try rw [Addr.add_zero'] at hx286_2); (try rw [show ((0 : Int)).toNat = 0 from rfl] at hx286_3); (try rw [show 0 * 5 = 0 from rfl] at hx286_3); (try rw [Addr.add_zero'] at hx286_3); (try rw [show ((0 : Int)).toNat = 0 from rfl] at hx286_4); (try rw [show 0 * 5 = 0 from rfl] at hx286_4); (try rw [Addr.add_zero'] at hx286_4); replace hx286_0 := (HB.out.cell (World.block_lt_of_cell? w _ hx286_0)).trans hx286_0; replace hx286_1 := (HB.out.cell (World.block_lt_of_cell? w _ hx286_1)).trans hx286_1; replace hx286_2 := (HB.out.cell (World.block_lt_of_cell? w _ hx286_2)).trans hx286_2; replace hx286_3 := (HB.out.cell (World.block_lt_of_cell? w _ hx286_3)).trans hx286_3; replace hx286_4 := (HB.out.cell (World.block_lt_of_cell? w _ hx286_4)).trans hx286_4; have HR286_1 := Aside0.mk hi286_1; have HC286_1 := Aside0.mk hl286_1; clear hi286_1 hl286_1; have HR286_2 := Aside0.mk hi286_2; have HC286_2 := Aside0.mk hl286_2; clear hi286_2 hl286_2; have HR286_3 := Aside0.mk hi286_3; have HC286_3 := Aside0.mk hl286_3; clear hi286_3 hl286_3; have HR286_4 := Aside0.mk hi286_4; have HC286_4 := Aside0.mk hl286_4; clear hi286_4 hl286_4; replace p286 := eq_true p286; replace q286 := eq_true q286; have hpt286 : ptrOf (.slice (some ad286) l0.length c0) = .pointer (some ad286) := ptrOf_pos _ _ _ (of_decide_eq_true (by first | (with_reducible assumption) | assumption)); have p287 : 0 ≤ (a1 : Int) := of_decide_eq_true (by first | (with_reducible assumption) | assumption); have q287 : a1 < (((rd_T48 l0 0).f2).length : Int) := of_decide_eq_true (by first | (with_reducible assumption) | assumption); obtain ⟨ad287, e287, hx287_0⟩ := Kd.at_int HR286_2.out a1 p287 q287; cases e287; replace hx287_0 := (HB.out.cell (World.block_lt_of_cell? w _ hx287_0)).trans hx287_0; replace p287 := eq_true p287; replace q287 := eq_true q287))
     go_ret2
     exact ⟨by first | rfl | (simp [errW_none, errW_some] <;> rfl) | (simp [*, errW_none, errW_some] <;> rfl), by repeat (first | (with_reducible first | exact HB.out | apply below_alloc | apply pw_below_drewN | apply below_drew1) | exact HB.out)⟩
    ·rw [if_neg c7] at H
     exact absurd H (by simp)
   ·rw [if_neg c6] at H
    exact absurd H (by simp)
  ·rw [if_neg c5] at H
   exact absurd H (by simp)
 ·rw [if_neg c4] at H
  have c4b0 : (t285 == 0) = false := beq_eq_false_iff_ne.mpr c4
  have c4b1 : (t285 != 0) = true := bne_iff_ne.mpr c4
  simp only [Option.some.injEq, Prod.mk.injEq] at H
  obtain ⟨rfl, rfl⟩ := H
  go_enter Try.func46, Try.ntmps46
  go_wp2_with (first | ((with_reducible refine gate_dst (N := 9) rfl ?_); refine Kd.R_lit (Kd.int .i64) _ 3 ?hg (N := 9) ?hd (xs := ([a1] : List Int)) (inner := [.int .i64 a1]) (ok := fun _ => True) (okp := fun _ => True) ?hr ?hp (fun _ hk => hk) trivial (Below.refl _ _) (Nat.le_refl _) (by simp) ?_; (case hd => rfl); (case hg => rfl); (case hr => first | (go_simp; done) | (go_simp; rfl)); (case hp => exact (Reps.one (show Kd.M (Kd.int .i64) _ _ _ a1 [.int .i64 a1] from rfl) (Reps.none _ _))); intro v283 w11 ho12 hb hg_ hnew_; clear hg_ hnew_; (first | rw [← Ny282.out] at ho12 | (simp only [Int.reduceToNat] at ho12; rw [← Ny282.out] at ho12)); have n0_ := Aside0.mk (Kd.R_lower ho12 (below_size (by repeat (first | (with_reducible first | exact HB.out | apply below_alloc | apply pw_below_drewN | apply below_drew1) | exact HB.out)))); have n1_ := Aside0.mk (below_step (by repeat (first | (with_reducible first | exact HB.out | apply below_alloc | apply pw_below_drewN | apply below_drew1) | exact HB.out)) hb); clear HB; have HO284 := n0_; have HB := n1_; clear n0_ n1_; clear hb ho12; obtain ⟨Ao13, co13, eo13⟩ := Kd.R_slice HO284.out; subst eo13) | ((with_reducible refine gate_callee (f := 54) rfl ?_); refine goesL_ (some 10) rfl rfl Try.func54 (by kernel_rfl) rfl #[ptrOf (.slice A0 l0.length c0), .slice Ao13 y282.length co13] rfl (by (try simp only [List.map_toArray, List.map_cons, List.map_nil]); first | done | rfl | (simp only [*]; done) | (simp only [*]; rfl) | (simp only [List.length_drop, List.length_take]; rfl)) ?_; (with_reducible refine (suffix_Index_place.calls k _ _ l0 _ _ y282 t285 _ ?side1 ?side2 ?side3 ?side4 A3.out).mono ?_); (case side1 => repeat (first | exact (Kd.C_below HR0.out HB.out) | (with_reducible refine Kd.C_alloc ?_ _) | (with_reducible refine Kd.C_drewN ?_ _) | (with_reducible refine Kd.C_drew ?_))); (case side2 => exact HC0.out); (case side3 => repeat (first | exact (Kd.R_reads' HO284.out).2.2 | (with_reducible refine Kd.C_alloc ?_ _) | (with_reducible refine Kd.C_drewN ?_ _) | (with_reducible refine Kd.C_drew ?_))); (case side4 => exact (Kd.R_reads' HO284.out).2.1); rintro e w' ⟨rfl, ⟨nd, rfl⟩⟩; refine ⟨_, rfl, ?_⟩))
  go_ret2
  exact ⟨by first | rfl | (simp [errW_none, errW_some] <;> rfl) | (simp [*, errW_none, errW_some] <;> rfl), by repeat (first | (with_reducible first | exact HB.out | apply below_alloc | apply pw_below_drewN | apply below_drew1) | exact HB.out)⟩

end Go.Proofs.Ytobknpeglagaaaa.X
end

section
-- Printed by wip/xprint.py of this repo (a wrapper of the session's own round the print).
namespace Go.Proofs.Ytobknpeglagaaaa.X
open Go.RowKit Go.Proofs.YtobknpeglagaaaaW.PrintWords Go.Proofs.YtobknpeglagaaaaW.PrintLast Go.Proofs.YtobknpeglagaaaaW.PrintMore
attribute [local go_sem] ptrOf_eql ptrOf_neq ptrOf_eqg ptrOf_neg str_leq str_geq str_gtr max2_int min2_int max_two min_two max_three min_three max_four min_four   -- for this text's walks alone
set_option linter.unusedVariables false
set_option linter.unusedSimpArgs false

/-! ### find_made: function 40 -/
def find_made.f (k : Nat) (l0 : List (S48)) : Option (Bool) := (suffix_Index_At.f k l0 (-1)).bind fun bt288 => (some (bt288.2 != 2))
theorem find_made.mono : ∀ a0 k, LeO (find_made.f k a0) (find_made.f (k + 1) a0) := by
 intro a0 k
 unfold find_made.f
 repeat' first
   | (with_reducible exact suffix_Index_At.mono _ _ _)
   | (with_reducible exact LeO.refl _)
   | (with_reducible exact LeO.none _)
   | (with_reducible refine LeO.ite ?_ ?_)
   | (with_reducible refine LeO.bind ?_ (fun _ => ?_))
   | exact suffix_Index_At.mono _ _ _
   | exact LeO.none _
   | refine LeO.ite ?_ ?_
   | refine LeO.bind ?_ (fun _ => ?_)
set_option maxHeartbeats 8000000 in
set_option maxRecDepth 100000 in
theorem find_made.calls (k : Nat) (A0 : Option Addr) (c0 : Nat) (l0 : List (S48)) (r : Bool) (w : World) (hr0 : Kd.C k48 w A0 l0.length l0) (hc0 : l0.length ≤ c0) (h : find_made.f k l0 = some r) :
  Calls Try.prog 40 #[ptrOf (.slice A0 l0.length c0)] w fun e w' => e = .returned (.bool r) ∧ Below w.heap.size w w' := by
 have HR0 := Aside0.mk hr0
 have HC0 := Aside0.mk hc0
 clear hr0 hc0
 have HB := Aside0.mk (Below.refl w.heap.size w)
 have H : ((suffix_Index_At.f k l0 (-1)).bind fun bt288 => (some (bt288.2 != 2))) = some r := h
 clear h
 replace H := Option.bind_eq_some_iff.mp H
 obtain ⟨⟨t288, t289⟩, A20, H⟩ := H
 replace H : (some (t289 != 2)) = some r := H
 have A2 := Aside0.mk A20
 clear A20
 obtain rfl := Option.some.inj H
 go_enter Try.func40, Try.ntmps40
 go_wp2_with (first | ((with_reducible refine gate_callee (f := 46) rfl ?_); refine goesL_ (some 7) rfl rfl Try.func46 (by kernel_rfl) rfl #[ptrOf (.slice A0 l0.length c0), .int .i64 (-1)] rfl (by (try simp only [List.map_toArray, List.map_cons, List.map_nil]); first | done | rfl | (simp only [List.length_drop, List.length_take]; rfl)) ?_; (with_reducible refine (suffix_Index_At.calls k _ _ l0 (-1) t288 t289 _ ?side1 ?side2 A2.out).mono ?_); (case side1 => repeat (first | exact HR0.out | (with_reducible refine Kd.C_alloc ?_ _) | (with_reducible refine Kd.C_drewN ?_ _) | (with_reducible refine Kd.C_drew ?_))); (case side2 => exact HC0.out); rintro e w3 ⟨rfl, hb⟩; refine ⟨_, rfl, ?_⟩; have n0_ := Aside0.mk (below_step (by repeat (first | (with_reducible first | exact HB.out | apply below_alloc | apply pw_below_drewN | apply below_drew1) | exact HB.out)) hb); clear HB; have HB := n0_; clear n0_; (try clear hb); (try clear hb2); (try clear hk); (try clear hi)))
 go_ret
 exact ⟨by first | rfl | (simp [errW_none, errW_some] <;> rfl) | (simp [*, errW_none, errW_some] <;> rfl), by repeat (first | (with_reducible first | exact HB.out | apply below_alloc | apply pw_below_drewN | apply below_drew1) | exact HB.out)⟩

end Go.Proofs.Ytobknpeglagaaaa.X
end

section
/- By hand: (*suffix.Index).Compare: a suffix and some bytes; a closure asks whether the suffix is less. -/
namespace Go.Proofs.Ytobknpeglagaaaa.X
open Go.RowKit Go.Proofs.YtobknpeglagaaaaW.PrintWords Go.Proofs.YtobknpeglagaaaaW.PrintLast Go.Proofs.YtobknpeglagaaaaW.PrintMore
attribute [local go_sem] ptrOf_eql ptrOf_neq ptrOf_eqg ptrOf_neg max2_int min2_int max_two min_two
set_option linter.unusedVariables false
set_option linter.unusedSimpArgs false

/-- A row of one number that has just been made. -/
theorem C_one (w : World) (x : Int) (e g : Nat) (hg : g = w.heap.size) : Kd.C (Kd.int .i64) (w.alloc (.cells #[.int .i64 x] e)) (some ⟨g, 0, none⟩) 1 [x] := by
  subst hg
  refine ⟨rfl, by omega, fun _ => ⟨⟨w.heap.size, 0, none⟩, rfl, fun j p hj => ?_⟩⟩
  have hj0 : j = 0 := by
    have := (List.getElem?_eq_some_iff.1 hj).1
    simpa using this
  subst hj0
  have hp : p = x := by simpa using hj.symm
  subst hp
  refine ⟨[.int .i64 p], rfl, rfl, fun i u hu => ?_⟩
  have hi : i = 0 := by
    have := (List.getElem?_eq_some_iff.1 hu).1
    simpa using this
  subst hi
  have hu' : u = .int .i64 p := by simpa using hu.symm
  subst hu'
  have hh : (w.alloc (.cells #[.int .i64 p] e)).heap[w.heap.size]? = some (.cells #[.int .i64 p] e (0, 0)) := by
    show (w.heap.push _)[w.heap.size]? = _
    simp
  have hc := cell_of_row _ w.heap.size 0 _ e (0, 0) hh
  simp [Addr.add] at hc ⊢
/-- How many are the same, from n on. -/
def cmp_l : Nat → List Int → List Int → Int → Option Int
  | 0, _, _, _ => none
  | k + 1, s, p, n => if n < (s.length : Int) then (if n < (p.length : Int) then (if 0 ≤ n then (if rd s n = rd p n then cmp_l k s p (wrap64 (n + 1)) else some n) else none) else some n) else some n
theorem cmp_l_mono : ∀ k s p n, LeO (cmp_l k s p n) (cmp_l (k + 1) s p n)
  | 0, s, p, n => fun r h => by simp [cmp_l] at h
  | k + 1, s, p, n => by
    unfold cmp_l
    refine LeO.ite (LeO.ite (LeO.ite (LeO.ite (cmp_l_mono k _ _ _) (LeO.refl _)) (LeO.none _)) (LeO.refl _)) (LeO.refl _)
def suffix_Index_Compare.f (k : Nat) (l0 : List S48) (a1 : Int) (l2 : List Int) : Option (Int × Int × Int) :=
  (suffix_Index_place.f k l0 [a1]).bind fun e => (if e = 0 then (if 0 < (l0.length : Int) then (if 0 ≤ a1 then (if a1 ≤ ((rd_T48 l0 0).f1.length : Int) then
    ((cmp_l k ((rd_T48 l0 0).f1.drop a1.toNat) l2 0).bind fun n => (if n = (l2.length : Int) then some (0, n, 0) else (if 0 ≤ n then (if n < (l2.length : Int) then (if n = (((rd_T48 l0 0).f1.drop a1.toNat).length : Int) then some (-1, n, 0) else
      (if n < (((rd_T48 l0 0).f1.drop a1.toNat).length : Int) then (if rd ((rd_T48 l0 0).f1.drop a1.toNat) n < rd l2 n then some (-1, n, 0) else some (1, n, 0)) else none)) else none) else none))) else none) else none) else none) else some (0, 0, e))
theorem suffix_Index_Compare.mono : ∀ a0 a1 a2 k, LeO (suffix_Index_Compare.f k a0 a1 a2) (suffix_Index_Compare.f (k + 1) a0 a1 a2) := by
  intro a0 a1 a2 k
  unfold suffix_Index_Compare.f
  refine LeO.bind (suffix_Index_place.mono _ _ _) (fun _ => LeO.ite (LeO.ite (LeO.ite (LeO.ite (LeO.bind (cmp_l_mono _ _ _ _) (fun _ => LeO.refl _)) (LeO.none _)) (LeO.none _)) (LeO.none _)) (LeO.refl _))

set_option maxHeartbeats 8000000 in
set_option maxRecDepth 100000 in
theorem suffix_Index_Compare.calls (k : Nat) (A0 : Option Addr) (c0 : Nat) (l0 : List S48) (a1 : Int) (A2 : Option Addr) (c2 : Nat) (l2 : List Int) (r1 r2 r3 : Int) (w : World) (hr0 : Kd.C k48 w A0 l0.length l0) (hc0 : l0.length ≤ c0) (hr2 : Kd.C (Kd.int .u8) w A2 l2.length l2) (hc2 : l2.length ≤ c2) (h : suffix_Index_Compare.f k l0 a1 l2 = some (r1, r2, r3)) :
    Calls Try.prog 55 #[ptrOf (.slice A0 l0.length c0), .int .i64 a1, .slice A2 l2.length c2] w fun e w' => e = .returned (.tuple #[.int .i64 r1, .int .i64 r2, .int .i64 r3]) ∧ Below w.heap.size w w' := by
  have HR0 := Aside0.mk hr0
  have HC0 := Aside0.mk hc0
  have HR2 := Aside0.mk hr2
  have HC2 := Aside0.mk hc2
  clear hr0 hc0 hr2 hc2
  unfold suffix_Index_Compare.f at h
  replace h := Option.bind_eq_some_iff.mp h
  obtain ⟨e_, A1_, h⟩ := h
  have A1 := Aside0.mk A1_
  clear A1_
  by_cases c1 : e_ = 0
  case neg =>
    rw [if_neg c1] at h
    simp only [Option.some.injEq, Prod.mk.injEq] at h
    obtain ⟨rfl, rfl, rfl⟩ := h
    have c1b : (e_ != 0) = true := bne_iff_ne.mpr c1
    have c1c : (e_ == 0) = false := beq_eq_false_iff_ne.mpr c1
    clear c1
    go_enter Try.func55, Try.ntmps55
    go_wp2_with (fail)
    refine (suffix_Index_place.calls k A0 c0 l0 (some ⟨w.heap.size + 1, 0, none⟩) 1 [a1] e_ _ ?s1 ?s2 ?s3 ?s4 A1.out).mono ?_
    case s1 => exact Kd.C_below HR0.out (below_alloc (below_alloc (Below.refl _ _) _) _)
    case s2 => exact HC0.out
    case s3 => exact C_one _ a1 3 _ (by simp)
    case s4 => exact Nat.le_refl _
    rintro e w' ⟨rfl, ⟨nd, rfl⟩⟩
    go_wp2
    go_ret3
    exact ⟨rfl, by repeat (first | (with_reducible first | apply below_alloc | apply pw_below_drewN | apply below_drew1) | exact Below.refl _ _)⟩
  rw [if_pos c1] at h
  subst c1
  by_cases c2 : 0 < (l0.length : Int)
  case neg => rw [if_neg c2] at h; cases h
  rw [if_pos c2] at h
  by_cases c3 : 0 ≤ a1
  case neg => rw [if_neg c3] at h; cases h
  rw [if_pos c3] at h
  obtain ⟨ad, B1, d1, B2, d2, B3, d3, B4, d4, e0, hx0, hx1, hx2, hx3, hx4, hl1, hi1, hl2, hi2, hl3, hi3, hl4, hi4⟩ := at_T48 HR0.out 0 (by omega) c2
  subst e0
  have hpt : ptrOf (.slice (some ad) l0.length c0) = .pointer (some ad) := ptrOf_pos _ _ _ c2
  rw [show ((0 : Int)).toNat = 0 from rfl, show 0 * 5 = 0 from rfl, Addr.add_zero'] at hx1
  generalize (rd_T48 l0 0).f1 = s at *
  clear hx0 hx2 hx3 hx4 hl2 hi2 hl3 hi3 hl4 hi4
  by_cases c4 : a1 ≤ (s.length : Int)
  case neg => rw [if_neg c4] at h; cases h
  rw [if_pos c4] at h
  replace h := Option.bind_eq_some_iff.mp h
  obtain ⟨n, A2_, h⟩ := h
  have HA2 := Aside0.mk A2_
  clear A2_
  have H := Aside0.mk h
  clear h
  obtain ⟨i0, hi0, _, hsz, _⟩ := info_parts (show (Try.prog.info? 5).map (fun i => (i.zero, i.size, i.bytes)) = some (some (.int .u8 0), 1, 1) by kernel_rfl)
  obtain ⟨As, hcut, hAs, hCs⟩ := print_drop_of (P := Try.prog) (Value.int .u8) 0 23 5 .i64 Try.underlying23 hi0 hsz B1 d1 s a1 c3 c4 hl1
  have HRs := Aside0.mk (Kd.C_of_reads (h1 := fun _ => rfl) (hAs _ (Kd.reads_of_C hi1)))
  have HCs := Aside0.mk hCs
  clear hAs hCs hi0 hsz hi1 hl1 c2 c3 c4
  generalize hts : s.drop a1.toNat = t at *
  clear hts
  generalize d1 - a1.toNat = ct at *
  go_enter Try.func55, Try.ntmps55
  have HPT := Aside0.mk hpt
  clear hpt
  go_wp2_with (fail)
  refine (suffix_Index_place.calls k (some ad) c0 l0 (some ⟨w.heap.size + 1, 0, none⟩) 1 [a1] 0 _ ?s1 ?s2 ?s3 ?s4 A1.out).mono ?_
  case s1 => exact Kd.C_below HR0.out (below_alloc (below_alloc (Below.refl _ _) _) _)
  case s2 => exact HC0.out
  case s3 => exact C_one _ a1 3 _ (by simp)
  case s4 => exact Nat.le_refl _
  rintro e w' ⟨rfl, ⟨nd, rfl⟩⟩
  have hpt := HPT.out
  have hB : Below w.heap.size w ((((w.alloc (.cells #[.slice A2 l2.length c2] 23)).alloc (.cells #[.int .i64 a1] 3))).drewN nd) := by repeat (first | (with_reducible first | apply below_alloc | apply pw_below_drewN | apply below_drew1) | exact Below.refl _ _)
  have hx1' := (hB.cell (World.block_lt_of_cell? w _ hx1)).trans hx1
  have h5 : ((((w.alloc (.cells #[.slice A2 l2.length c2] 23)).alloc (.cells #[.int .i64 a1] 3))).drewN nd).cell? ⟨w.heap.size, 0, none⟩ = some (.slice A2 l2.length c2) := by go_simp
  have hsz : ((((w.alloc (.cells #[.slice A2 l2.length c2] 23)).alloc (.cells #[.int .i64 a1] 3))).drewN nd).heap.size = w.heap.size + 2 := by simp
  generalize (((w.alloc (.cells #[.slice A2 l2.length c2] 23)).alloc (.cells #[.int .i64 a1] 3))).drewN nd = W at *
  go_wp2
  obtain ⟨g10, hg10⟩ : ∃ g, g = w.heap.size + 2 := ⟨_, rfl⟩
  obtain ⟨g11, hg11⟩ : ∃ g, g = w.heap.size + 2 + 1 := ⟨_, rfl⟩
  rw [← hg11, ← hg10]
  have hb10 : w.heap.size ≤ g10 := by omega
  have hb11 : w.heap.size ≤ g11 := by omega
  have hne1 : g10 ≠ g11 := by omega
  have hne2 : w.heap.size ≠ g11 := by omega
  have hB2 : Below w.heap.size w ((W.alloc (.cells #[.slice As t.length ct] 23)).alloc (.cells #[.int .i64 0] 3)) := by repeat (first | (with_reducible first | exact hB | apply below_alloc | apply pw_below_drewN | apply below_drew1) | exact hB)
  have H11 : ((W.alloc (.cells #[.slice As t.length ct] 23)).alloc (.cells #[.int .i64 0] 3)).heap[g11]? = some (.cells #[.int .i64 0] 3 (0, 0)) := by
    have := heap_alloc_new (W.alloc (.cells #[.slice As t.length ct] 23)) (.cells #[.int .i64 0] 3)
    rw [show (W.alloc (.cells #[.slice As t.length ct] 23)).heap.size = g11 by simp; omega] at this
    simpa using this
  have H10 : ((W.alloc (.cells #[.slice As t.length ct] 23)).alloc (.cells #[.int .i64 0] 3)).cell? ⟨g10, 0, none⟩ = some (.slice As t.length ct) := by
    have e : g10 = W.heap.size := by omega
    rw [e]; go_simp
  have H5 : ((W.alloc (.cells #[.slice As t.length ct] 23)).alloc (.cells #[.int .i64 0] 3)).cell? ⟨w.heap.size, 0, none⟩ = some (.slice A2 l2.length c2) := by
    have h3 := (below_alloc (below_alloc (Below.refl W.heap.size W) (.cells #[.slice As t.length ct] 23)) (.cells #[.int .i64 0] 3)).cell (p := ⟨w.heap.size, 0, none⟩) (by show w.heap.size < W.heap.size; omega)
    exact h3.trans h5
  generalize (W.alloc (.cells #[.slice As t.length ct] 23)).alloc (.cells #[.int .i64 0] 3) = W2 at *
  clear hB hx1' h5 hsz hpt hcut HPT hx1 hg10 hg11
  have HN := Aside0.mk (And.intro hb10 (And.intro hb11 (And.intro hne1 hne2)))
  have HB := Aside0.mk hB2
  have A11 := Aside0.mk H11
  have A10 := Aside0.mk H10
  have A5 := Aside0.mk H5
  clear hb10 hb11 hne1 hne2 hB2 H11 H10 H5
  go_loopg [] k (fun kq w' => ∃ q : Int, Aside0 (cmp_l kq t l2 q = some n) ∧ Aside0 (kq ≤ k) ∧ Aside0 (w'.heap[g11]? = some (.cells #[.int .i64 q] 3 (0, 0))) ∧ Aside0 (w'.cell? ⟨g10, 0, none⟩ = some (.slice As t.length ct)) ∧ Aside0 (w'.cell? ⟨w.heap.size, 0, none⟩ = some (.slice A2 l2.length c2)) ∧ Aside0 (Below w.heap.size w w'))
  case atStart => exact ⟨0, HA2, ⟨Nat.le_refl _⟩, A11, A10, A5, HB⟩
  case round =>
    clear HA2 A11 A10 A5 HB
    obtain ⟨q, HA, HK1, A11, A10, A5, HB⟩ := hrel
    cases gk with
    | zero => exact absurd HA.out (by simp [cmp_l])
    | succ k1 =>
      have h := HA.out
      clear HA
      simp only [cmp_l] at h
      have hc11 : wr.cell? ⟨g11, 0, none⟩ = some (.int .i64 q) := (blk_cell A11.out 0).trans rfl
      have hf11 := blk_frozen A11.out 0
      have hc10 := A10.out
      have hc5 := A5.out
      by_cases c1 : q < (t.length : Int)
      case neg =>
        rw [if_neg c1] at h
        obtain rfl : q = n := Option.some.inj h
        have H' := H.out
        clear H h
        by_cases d1 : q = (l2.length : Int)
        · rw [if_pos d1] at H'
          simp only [Option.some.injEq, Prod.mk.injEq] at H'
          obtain ⟨rfl, rfl, rfl⟩ := H'
          have c1b := eq_false c1
          have d1b : (q == (l2.length : Int)) = true := beq_iff_eq.mpr d1
          clear c1 d1
          go_wp2
          repeat (go_quiet (fail); try go_wp2)
          go_ret3
          exact ⟨rfl, by repeat (first | (with_reducible first | exact HB.out | apply below_alloc | apply pw_below_drewN | apply below_drew1) | exact HB.out)⟩
        · rw [if_neg d1] at H'
          by_cases d2 : 0 ≤ q
          case neg => rw [if_neg d2] at H'; cases H'
          rw [if_pos d2] at H'
          by_cases d3 : q < (l2.length : Int)
          case neg => rw [if_neg d3] at H'; cases H'
          rw [if_pos d3] at H'
          by_cases d4 : q = (t.length : Int)
          case neg => rw [if_neg d4, if_neg c1] at H'; cases H'
          rw [if_pos d4] at H'
          simp only [Option.some.injEq, Prod.mk.injEq] at H'
          obtain ⟨rfl, rfl, rfl⟩ := H'
          have c1b := eq_false c1
          have d1b : (q == (l2.length : Int)) = false := beq_eq_false_iff_ne.mpr d1
          have d4b : (q == (t.length : Int)) = true := beq_iff_eq.mpr d4
          clear c1 d1 d2 d3 d4
          go_wp2
          repeat (go_quiet (fail); try go_wp2)
          go_ret3
          exact ⟨rfl, by repeat (first | (with_reducible first | exact HB.out | apply below_alloc | apply pw_below_drewN | apply below_drew1) | exact HB.out)⟩
      rw [if_pos c1] at h
      have c1t := eq_true c1
      have c1n : (q == (t.length : Int)) = false := beq_eq_false_iff_ne.mpr (by omega)
      by_cases c2 : q < (l2.length : Int)
      case neg =>
        rw [if_neg c2] at h
        obtain rfl : q = n := Option.some.inj h
        have H' := H.out
        clear H h
        have c2b := eq_false c2
        by_cases d1 : q = (l2.length : Int)
        case neg =>
          rw [if_neg d1] at H'
          by_cases d2 : 0 ≤ q
          case neg => rw [if_neg d2] at H'; cases H'
          rw [if_pos d2, if_neg c2] at H'
          cases H'
        rw [if_pos d1] at H'
        simp only [Option.some.injEq, Prod.mk.injEq] at H'
        obtain ⟨rfl, rfl, rfl⟩ := H'
        have d1b : (q == (l2.length : Int)) = true := beq_iff_eq.mpr d1
        clear c1 c2 d1
        go_wp2
        repeat (go_quiet (fail); try go_wp2)
        go_ret3
        exact ⟨rfl, by repeat (first | (with_reducible first | exact HB.out | apply below_alloc | apply pw_below_drewN | apply below_drew1) | exact HB.out)⟩
      rw [if_pos c2] at h
      by_cases c3 : 0 ≤ q
      case neg => rw [if_neg c3] at h; cases h
      rw [if_pos c3] at h
      obtain ⟨ad1, e1, hy1⟩ := Kd.at_int (Kd.C_below HRs.out HB.out) q c3 c1
      obtain ⟨ad2, e2, hy2⟩ := Kd.at_int (Kd.C_below HR2.out HB.out) q c3 c2
      subst e1
      subst e2
      have c2t := eq_true c2
      have c2n : (q == (l2.length : Int)) = false := beq_eq_false_iff_ne.mpr (by omega)
      have c3t := eq_true c3
      by_cases c4 : rd t q = rd l2 q
      case neg =>
        rw [if_neg c4] at h
        obtain rfl : q = n := Option.some.inj h
        have c4b : (rd t q == rd l2 q) = false := beq_eq_false_iff_ne.mpr c4
        have H' := H.out
        clear H h
        rw [if_neg (by omega), if_pos c3, if_pos c2, if_neg (by omega), if_pos c1] at H'
        clear c1 c2 c3 c4
        by_cases c5 : rd t q < rd l2 q
        · rw [if_pos c5] at H'
          simp only [Option.some.injEq, Prod.mk.injEq] at H'
          obtain ⟨rfl, rfl, rfl⟩ := H'
          have c5b := eq_true c5
          clear c5
          go_wp2
          repeat (go_quiet (fail); try go_wp2)
          go_ret3
          exact ⟨rfl, by repeat (first | (with_reducible first | exact HB.out | apply below_alloc | apply pw_below_drewN | apply below_drew1) | exact HB.out)⟩
        · rw [if_neg c5] at H'
          simp only [Option.some.injEq, Prod.mk.injEq] at H'
          obtain ⟨rfl, rfl, rfl⟩ := H'
          have c5b := eq_false c5
          clear c5
          go_wp2
          repeat (go_quiet (fail); try go_wp2)
          go_ret3
          exact ⟨rfl, by repeat (first | (with_reducible first | exact HB.out | apply below_alloc | apply pw_below_drewN | apply below_drew1) | exact HB.out)⟩
      rw [if_pos c4] at h
      have c4b : (rd t q == rd l2 q) = true := beq_iff_eq.mpr c4
      clear c1 c2 c3 c4
      go_wp2
      repeat (go_quiet (fail); try go_wp2)
      have hn1 := HN.out
      go_roundg k1
      case measure => have := HK1.out; omega
      case rel => exact ⟨wrap64 (q + 1), ⟨h⟩, ⟨by have := HK1.out; omega⟩, ⟨blk_put (cs := #[.int .i64 q]) (blk_drewN A11.out nq) 0 _ rfl⟩, ⟨(cell_far (show g10 ≠ g11 from hn1.2.2.1) _).trans A10.out⟩, ⟨(cell_far (show w.heap.size ≠ g11 from hn1.2.2.2) _).trans A5.out⟩, ⟨below_set (pw_below_drewN HB.out nq) hn1.2.1⟩⟩
end Go.Proofs.Ytobknpeglagaaaa.X
end

section
-- Printed by wip/xprint.py of this repo (a wrapper of the session's own round the print).
namespace Go.Proofs.Ytobknpeglagaaaa.X
open Go.RowKit Go.Proofs.YtobknpeglagaaaaW.PrintWords Go.Proofs.YtobknpeglagaaaaW.PrintLast Go.Proofs.YtobknpeglagaaaaW.PrintMore
attribute [local go_sem] ptrOf_eql ptrOf_neq ptrOf_eqg ptrOf_neg str_leq str_geq str_gtr max2_int min2_int max_two min_two max_three min_three max_four min_four   -- for this text's walks alone
set_option linter.unusedVariables false
set_option linter.unusedSimpArgs false

-- BY HAND: function 55 (suffix_Index_Compare)

end Go.Proofs.Ytobknpeglagaaaa.X
end

section
-- Printed by wip/xprint.py of this repo (a wrapper of the session's own round the print).
namespace Go.Proofs.Ytobknpeglagaaaa.X
open Go.RowKit Go.Proofs.YtobknpeglagaaaaW.PrintWords Go.Proofs.YtobknpeglagaaaaW.PrintLast Go.Proofs.YtobknpeglagaaaaW.PrintMore
attribute [local go_sem] ptrOf_eql ptrOf_neq ptrOf_eqg ptrOf_neg str_leq str_geq str_gtr max2_int min2_int max_two min_two max_three min_three max_four min_four   -- for this text's walks alone
set_option linter.unusedVariables false
set_option linter.unusedSimpArgs false

/-! ### find_compare: function 49 -/
def find_compare.f (k : Nat) (l0 : List (S48)) (a1 : Int) (l2 : List Int) : Option (Int × Int) := (suffix_Index_At.f k l0 a1).bind fun bt293 => ((suffix_Index_Compare.f k l0 bt293.1 l2).bind fun bt295 => (some (bt295.1, bt295.2.1)))
theorem find_compare.mono : ∀ a0 a1 a2 k, LeO (find_compare.f k a0 a1 a2) (find_compare.f (k + 1) a0 a1 a2) := by
 intro a0 a1 a2 k
 unfold find_compare.f
 repeat' first
   | (with_reducible exact suffix_Index_At.mono _ _ _)
   | (with_reducible exact suffix_Index_Compare.mono _ _ _ _)
   | (with_reducible exact LeO.refl _)
   | (with_reducible exact LeO.none _)
   | (with_reducible refine LeO.ite ?_ ?_)
   | (with_reducible refine LeO.bind ?_ (fun _ => ?_))
   | exact suffix_Index_At.mono _ _ _
   | exact suffix_Index_Compare.mono _ _ _ _
   | exact LeO.none _
   | refine LeO.ite ?_ ?_
   | refine LeO.bind ?_ (fun _ => ?_)
set_option maxHeartbeats 8000000 in
set_option maxRecDepth 100000 in
theorem find_compare.calls (k : Nat) (A0 : Option Addr) (c0 : Nat) (l0 : List (S48)) (a1 : Int) (A2 : Option Addr) (c2 : Nat) (l2 : List Int) (r1 : Int) (r2 : Int) (w : World) (hr0 : Kd.C k48 w A0 l0.length l0) (hc0 : l0.length ≤ c0) (hr2 : Kd.C (Kd.int .u8) w A2 l2.length l2) (hc2 : l2.length ≤ c2) (h : find_compare.f k l0 a1 l2 = some (r1, r2)) :
  Calls Try.prog 49 #[ptrOf (.slice A0 l0.length c0), .int .i64 a1, .slice A2 l2.length c2] w fun e w' => e = .returned (.tuple #[.int .i64 r1, .int .i64 r2]) ∧ Below w.heap.size w w' := by
 have HR0 := Aside0.mk hr0
 have HC0 := Aside0.mk hc0
 clear hr0 hc0
 have HR2 := Aside0.mk hr2
 have HC2 := Aside0.mk hc2
 clear hr2 hc2
 have HB := Aside0.mk (Below.refl w.heap.size w)
 have H : ((suffix_Index_At.f k l0 a1).bind fun bt293 => ((suffix_Index_Compare.f k l0 bt293.1 l2).bind fun bt295 => (some (bt295.1, bt295.2.1)))) = some (r1, r2) := h
 clear h
 replace H := Option.bind_eq_some_iff.mp H
 obtain ⟨⟨t293, t294⟩, A40, H⟩ := H
 replace H : ((suffix_Index_Compare.f k l0 t293 l2).bind fun bt295 => (some (bt295.1, bt295.2.1))) = some (r1, r2) := H
 have A4 := Aside0.mk A40
 clear A40
 replace H := Option.bind_eq_some_iff.mp H
 obtain ⟨⟨t295, t296, t297⟩, A50, H⟩ := H
 replace H : (some (t295, t296)) = some (r1, r2) := H
 have A5 := Aside0.mk A50
 clear A50
 simp only [Option.some.injEq, Prod.mk.injEq] at H
 obtain ⟨rfl, rfl⟩ := H
 go_enter Try.func49, Try.ntmps49
 go_wp2_with (first | ((with_reducible refine gate_callee (f := 46) rfl ?_); refine goesL_ (some 16) rfl rfl Try.func46 (by kernel_rfl) rfl #[ptrOf (.slice A0 l0.length c0), .int .i64 a1] rfl (by (try simp only [List.map_toArray, List.map_cons, List.map_nil]); first | done | rfl | (simp only [List.length_drop, List.length_take]; rfl)) ?_; (with_reducible refine (suffix_Index_At.calls k _ _ l0 a1 t293 t294 _ ?side1 ?side2 A4.out).mono ?_); (case side1 => repeat (first | exact HR0.out | (with_reducible refine Kd.C_alloc ?_ _) | (with_reducible refine Kd.C_drewN ?_ _) | (with_reducible refine Kd.C_drew ?_))); (case side2 => exact HC0.out); rintro e w6 ⟨rfl, hb⟩; refine ⟨_, rfl, ?_⟩; have n0_ := Aside0.mk (below_step (by repeat (first | (with_reducible first | exact HB.out | apply below_alloc | apply pw_below_drewN | apply below_drew1) | exact HB.out)) hb); clear HB; have HB := n0_; clear n0_; (try clear hb); (try clear hb2); (try clear hk); (try clear hi)) | ((with_reducible refine gate_callee (f := 55) rfl ?_); refine goesL_ (some 23) rfl rfl Try.func55 (by kernel_rfl) rfl #[ptrOf (.slice A0 l0.length c0), .int .i64 t293, .slice A2 l2.length c2] rfl (by (try simp only [List.map_toArray, List.map_cons, List.map_nil]); first | done | rfl | (simp only [List.length_drop, List.length_take]; rfl)) ?_; (with_reducible refine (suffix_Index_Compare.calls k _ _ l0 t293 _ _ l2 t295 t296 t297 _ ?side1 ?side2 ?side3 ?side4 A5.out).mono ?_); (case side1 => repeat (first | exact (Kd.C_below HR0.out HB.out) | (with_reducible refine Kd.C_alloc ?_ _) | (with_reducible refine Kd.C_drewN ?_ _) | (with_reducible refine Kd.C_drew ?_))); (case side2 => exact HC0.out); (case side3 => repeat (first | exact (Kd.C_below HR2.out HB.out) | (with_reducible refine Kd.C_alloc ?_ _) | (with_reducible refine Kd.C_drewN ?_ _) | (with_reducible refine Kd.C_drew ?_))); (case side4 => exact HC2.out); rintro e w7 ⟨rfl, hb⟩; refine ⟨_, rfl, ?_⟩; have n0_ := Aside0.mk (below_step (by repeat (first | (with_reducible first | exact HB.out | apply below_alloc | apply pw_below_drewN | apply below_drew1) | exact HB.out)) hb); clear HB; have HB := n0_; clear n0_; (try clear hb); (try clear hb2); (try clear hk); (try clear hi)))
 go_ret2
 exact ⟨by first | rfl | (simp [errW_none, errW_some] <;> rfl) | (simp [*, errW_none, errW_some] <;> rfl), by repeat (first | (with_reducible first | exact HB.out | apply below_alloc | apply pw_below_drewN | apply below_drew1) | exact HB.out)⟩

end Go.Proofs.Ytobknpeglagaaaa.X
end

section
-- Printed by wip/xprint.py of this repo (a wrapper of the session's own round the print).
namespace Go.Proofs.Ytobknpeglagaaaa.X
open Go.RowKit Go.Proofs.YtobknpeglagaaaaW.PrintWords Go.Proofs.YtobknpeglagaaaaW.PrintLast Go.Proofs.YtobknpeglagaaaaW.PrintMore
attribute [local go_sem] ptrOf_eql ptrOf_neq ptrOf_eqg ptrOf_neg str_leq str_geq str_gtr max2_int min2_int max_two min_two max_three min_three max_four min_four   -- for this text's walks alone
set_option linter.unusedVariables false
set_option linter.unusedSimpArgs false

/-! ### sais_check: function 52 -/
mutual
def sais_check.j0 : Nat → Int → List Int → Bool → Option (Int)
 | 0, _, _, _ => none
 | k + 1, x0, x1, x12 => if x12 = true then (some 1) else (if (x1.length : Int) > 16777216 then (some 120) else (sais_check.l0 k x0 x1 (x1.length : Int) 0))
def sais_check.l0 : Nat → Int → List Int → Int → Int → Option (Int)
 | 0, _, _, _, _ => none
 | k + 1, x0, x16, x17, x18 => if x18 < x17 then (if 0 ≤ x18 then (if x18 < (x16.length : Int) then (if (rd x16 x18) < 0 then (some 121) else (if (rd x16 x18) ≥ x0 then (some 121) else (sais_check.l0 k x0 x16 x17 (wrap64 (x18 + 1))))) else (none)) else (none)) else (some 0)
end
def sais_check.f (k : Nat) (a0 : Int) (l1 : List Int) : Option (Int) := if a0 < 0 then (sais_check.j0 k a0 l1 true) else (sais_check.j0 k a0 l1 (decide (a0 > 33554432)))
theorem sais_check.mono_l : ∀ k, (∀ y0 y1 y2, LeO (sais_check.j0 k y0 y1 y2) (sais_check.j0 (k + 1) y0 y1 y2)) ∧ (∀ y0 y1 y2 y3, LeO (sais_check.l0 k y0 y1 y2 y3) (sais_check.l0 (k + 1) y0 y1 y2 y3))
 | 0 => ⟨fun _ _ _ r h => by simp [sais_check.j0] at h, fun _ _ _ _ r h => by simp [sais_check.l0] at h⟩
 | k + 1 => by
  obtain ⟨ih0, ih1⟩ := sais_check.mono_l k
  refine ⟨?_, ?_⟩
  ·intro y0 y1 y2
   unfold sais_check.j0
   repeat' first
   | (with_reducible exact ih0 _ _ _)
   | (with_reducible exact ih1 _ _ _ _)
   | (with_reducible exact LeO.refl _)
   | (with_reducible exact LeO.none _)
   | (with_reducible refine LeO.ite ?_ ?_)
   | (with_reducible refine LeO.bind ?_ (fun _ => ?_))
   | exact ih0 _ _ _
   | exact ih1 _ _ _ _
   | exact LeO.none _
   | refine LeO.ite ?_ ?_
   | refine LeO.bind ?_ (fun _ => ?_)
  ·intro y0 y1 y2 y3
   unfold sais_check.l0
   repeat' first
   | (with_reducible exact ih0 _ _ _)
   | (with_reducible exact ih1 _ _ _ _)
   | (with_reducible exact LeO.refl _)
   | (with_reducible exact LeO.none _)
   | (with_reducible refine LeO.ite ?_ ?_)
   | (with_reducible refine LeO.bind ?_ (fun _ => ?_))
   | exact ih0 _ _ _
   | exact ih1 _ _ _ _
   | exact LeO.none _
   | refine LeO.ite ?_ ?_
   | refine LeO.bind ?_ (fun _ => ?_)
theorem sais_check.mono : ∀ a0 a1 k, LeO (sais_check.f k a0 a1) (sais_check.f (k + 1) a0 a1) := by
 intro a0 a1 k
 obtain ⟨ih0, ih1⟩ := sais_check.mono_l k
 unfold sais_check.f
 repeat' first
   | (with_reducible exact ih0 _ _ _)
   | (with_reducible exact ih1 _ _ _ _)
   | (with_reducible exact LeO.refl _)
   | (with_reducible exact LeO.none _)
   | (with_reducible refine LeO.ite ?_ ?_)
   | (with_reducible refine LeO.bind ?_ (fun _ => ?_))
   | exact ih0 _ _ _
   | exact ih1 _ _ _ _
   | exact LeO.none _
   | refine LeO.ite ?_ ?_
   | refine LeO.bind ?_ (fun _ => ?_)
set_option maxHeartbeats 8000000 in
set_option maxRecDepth 100000 in
theorem sais_check.calls (k : Nat) (a0 : Int) (A1 : Option Addr) (c1 : Nat) (l1 : List Int) (r : Int) (w : World) (hr1 : Kd.C (Kd.int .i64) w A1 l1.length l1) (hc1 : l1.length ≤ c1) (h : sais_check.f k a0 l1 = some r) :
  Calls Try.prog 52 #[.int .i64 a0, .slice A1 l1.length c1] w fun e w' => e = .returned (.int .i64 r) ∧ Drawn0 w w' := by
 have HR1 := Aside0.mk hr1
 have HC1 := Aside0.mk hc1
 clear hr1 hc1
 have H : (if a0 < 0 then (sais_check.j0 k a0 l1 true) else (sais_check.j0 k a0 l1 (decide (a0 > 33554432)))) = some r := h
 clear h
 have HC3 := Aside0.mk H
 clear H
 go_enter Try.func52, Try.ntmps52
 go_upto_region 1 with (fail)
 go_cut [12] (fun v12 wc => ∃ (kq : Nat) (x12_2 : Bool), v12 = .bool x12_2 ∧ Aside0 (sais_check.j0 kq a0 l1 x12_2 = some r) ∧ Aside0 (kq ≤ k) ∧ Drawn0 w wc)
 case first =>
  have H := HC3.out
  clear HC3
  by_cases c4 : a0 < 0
  ·rw [if_pos c4] at H
   have c4b0 : decide (a0 < 0) = true := decide_eq_true c4
   clear c4
   (first | rw [c4b0] | rw [c4b1] | (simp only [i64_w, i32_w]; rw [c4b0]) | skip)
   have H' := Aside0.mk H
   clear H
   go_wp2
   go_meet
   case rel => exact ⟨_, (true), (by first | rfl | (simp; done) | (simp [*]; done)), H', ⟨by first | omega | exact Nat.le_refl _⟩, by repeat (first | exact Drawn0.refl _ | apply Drawn0.step)⟩
  ·rw [if_neg c4] at H
   have c4b0 : decide (a0 < 0) = false := decide_eq_false c4
   clear c4
   (first | rw [c4b0] | rw [c4b1] | (simp only [i64_w, i32_w]; rw [c4b0]) | skip)
   have H' := Aside0.mk H
   clear H
   go_wp2
   go_meet
   case rel => exact ⟨_, (decide (a0 > 33554432)), (by first | rfl | (simp; done) | (simp [*]; done)), H', ⟨by first | omega | exact Nat.le_refl _⟩, by repeat (first | exact Drawn0.refl _ | apply Drawn0.step)⟩
 case rest =>
  clear HC3
  try clear c1
  try clear p2
  try clear c4
  try clear c4b0
  obtain ⟨kq, x12_2, rfl, HA, HJ2, ⟨mc2, rfl⟩⟩ := hcut
  cases kq with
  | zero => exact absurd HA.out (by simp [sais_check.j0])
  | succ kj2 =>
   have H := HA.out
   clear HA
   simp only [sais_check.j0] at H
   by_cases c5 : x12_2 = true
   ·subst c5
    have H1 : (some 1) = some r := by rw [if_pos rfl] at H; exact H
    clear H
    have H := H1
    clear H1
    obtain rfl := Option.some.inj H
    go_wp2
    go_ret
    exact ⟨by first | rfl | (simp; done) | (simp [*]; done), by repeat (first | exact Drawn0.refl _ | apply Drawn0.step)⟩
   ·replace c5 := Bool.eq_false_iff.mpr c5
    subst c5
    have H1 : (if (l1.length : Int) > 16777216 then (some 120) else (sais_check.l0 kj2 a0 l1 (l1.length : Int) 0)) = some r := by rw [if_neg (show ¬ (false = true) by decide)] at H; exact H
    clear H
    have H := H1
    clear H1
    by_cases c6 : (l1.length : Int) > 16777216
    ·rw [if_pos c6] at H
     have c6b0 : decide (16777216 < (l1.length : Int)) = true := decide_eq_true c6
     have c6b1 : decide (16777216 < l1.length) = true := decide_eq_true (by omega)
     clear c6
     obtain rfl := Option.some.inj H
     go_wp2
     go_ret
     exact ⟨by first | rfl | (simp; done) | (simp [*]; done), by repeat (first | exact Drawn0.refl _ | apply Drawn0.step)⟩
    ·rw [if_neg c6] at H
     have c6b0 : decide (16777216 < (l1.length : Int)) = false := decide_eq_false c6
     have c6b1 : decide (16777216 < l1.length) = false := decide_eq_false (by omega)
     clear c6
     have H' := Aside0.mk H
     clear H
     go_wp2
     go_loopg [18] kj2 (fun kq v18 w' => ∃ (x18_2 : Int), v18 = .int .i64 x18_2 ∧ Aside0 (sais_check.l0 kq a0 l1 (l1.length : Int) x18_2 = some r) ∧ Aside0 (kq ≤ kj2) ∧ Drawn0 w w')
     case atStart => exact ⟨(0), (by first | rfl | (simp; done) | (simp [*]; done)), H', ⟨Nat.le_refl _⟩, by repeat (first | exact Drawn0.refl _ | apply Drawn0.step)⟩
     case round =>
      clear H'
      try clear c1
      try clear c2
      try clear p2
      try clear c4
      try clear c4b0
      try clear c5
      try clear c6
      try clear c6b0
      try clear c6b1
      try clear p2
      obtain ⟨x18_2, rfl, HA, HK2, ⟨m2, rfl⟩⟩ := hrel
      cases gk with
      | zero => exact absurd HA.out (by simp [sais_check.l0])
      | succ k2 =>
       have H := HA.out
       clear HA
       simp only [sais_check.l0] at H
       by_cases c7 : x18_2 < (l1.length : Int)
       ·rw [if_pos c7] at H
        have c7b0 : decide (x18_2 < (l1.length : Int)) = true := decide_eq_true c7
        clear c7
        by_cases c8 : 0 ≤ x18_2
        ·rw [if_pos c8] at H
         have c8b0 : decide (0 ≤ x18_2) = true := decide_eq_true c8
         clear c8
         by_cases c9 : x18_2 < (l1.length : Int)
         ·rw [if_pos c9] at H
          have c9b0 : decide (x18_2 < (l1.length : Int)) = true := decide_eq_true c9
          clear c9
          by_cases c10 : (rd l1 x18_2) < 0
          ·rw [if_pos c10] at H
           have c10b0 : decide ((rd l1 x18_2) < 0) = true := decide_eq_true c10
           clear c10
           obtain rfl := Option.some.inj H
           have p101 : 0 ≤ (x18_2 : Int) := of_decide_eq_true (by first | (with_reducible assumption) | assumption)
           have q101 : x18_2 < (l1.length : Int) := of_decide_eq_true (by first | (with_reducible assumption) | assumption)
           obtain ⟨ad101, e101, hx101_0⟩ := Kd.at_int HR1.out x18_2 p101 q101
           cases e101
           replace p101 := eq_true p101
           replace q101 := eq_true q101
           go_wp2
           go_ret
           exact ⟨by first | rfl | (simp; done) | (simp [*]; done), by repeat (first | exact Drawn0.refl _ | apply Drawn0.step)⟩
          ·rw [if_neg c10] at H
           have c10b0 : decide ((rd l1 x18_2) < 0) = false := decide_eq_false c10
           clear c10
           by_cases c11 : (rd l1 x18_2) ≥ a0
           ·rw [if_pos c11] at H
            have c11b0 : decide (a0 ≤ (rd l1 x18_2)) = true := decide_eq_true c11
            clear c11
            obtain rfl := Option.some.inj H
            have p101 : 0 ≤ (x18_2 : Int) := of_decide_eq_true (by first | (with_reducible assumption) | assumption)
            have q101 : x18_2 < (l1.length : Int) := of_decide_eq_true (by first | (with_reducible assumption) | assumption)
            obtain ⟨ad101, e101, hx101_0⟩ := Kd.at_int HR1.out x18_2 p101 q101
            cases e101
            replace p101 := eq_true p101
            replace q101 := eq_true q101
            go_wp2
            go_ret
            exact ⟨by first | rfl | (simp; done) | (simp [*]; done), by repeat (first | exact Drawn0.refl _ | apply Drawn0.step)⟩
           ·rw [if_neg c11] at H
            have c11b0 : decide (a0 ≤ (rd l1 x18_2)) = false := decide_eq_false c11
            clear c11
            have H' := Aside0.mk H
            clear H
            have p101 : 0 ≤ (x18_2 : Int) := of_decide_eq_true (by first | (with_reducible assumption) | assumption)
            have q101 : x18_2 < (l1.length : Int) := of_decide_eq_true (by first | (with_reducible assumption) | assumption)
            obtain ⟨ad101, e101, hx101_0⟩ := Kd.at_int HR1.out x18_2 p101 q101
            cases e101
            replace p101 := eq_true p101
            replace q101 := eq_true q101
            go_wp2
            go_roundg k2
            case measure => have := HJ2.out; have := HK2.out; omega
            case rel => exact ⟨(wrap64 (x18_2 + 1)), (by first | rfl | (simp; done) | (simp [*]; done)), H', ⟨by have := HJ2.out; have := HK2.out; omega⟩, by repeat (first | exact Drawn0.refl _ | apply Drawn0.step)⟩
         ·rw [if_neg c9] at H
          exact absurd H (by simp)
        ·rw [if_neg c8] at H
         exact absurd H (by simp)
       ·rw [if_neg c7] at H
        have c7b0 : decide (x18_2 < (l1.length : Int)) = false := decide_eq_false c7
        clear c7
        obtain rfl := Option.some.inj H
        go_wp2
        go_ret
        exact ⟨by first | rfl | (simp; done) | (simp [*]; done), by repeat (first | exact Drawn0.refl _ | apply Drawn0.step)⟩

end Go.Proofs.Ytobknpeglagaaaa.X
end

section
-- Printed by wip/xprint.py of this repo (a wrapper of the session's own round the print).
namespace Go.Proofs.Ytobknpeglagaaaa.X
open Go.RowKit Go.Proofs.YtobknpeglagaaaaW.PrintWords Go.Proofs.YtobknpeglagaaaaW.PrintLast Go.Proofs.YtobknpeglagaaaaW.PrintMore
attribute [local go_sem] ptrOf_eql ptrOf_neq ptrOf_eqg ptrOf_neg str_leq str_geq str_gtr max2_int min2_int max_two min_two max_three min_three max_four min_four   -- for this text's walks alone
set_option linter.unusedVariables false
set_option linter.unusedSimpArgs false

/-! ### sapperref01_Same: function 15 -/
def sapperref01_Same.f (l0 : List Int) (l1 : List Int) : Option (Bool) := some ((strOfNums l0).toList == (strOfNums l1).toList)
set_option maxHeartbeats 8000000 in
set_option maxRecDepth 100000 in
theorem sapperref01_Same.calls (A0 : Option Addr) (c0 : Nat) (l0 : List Int) (A1 : Option Addr) (c1 : Nat) (l1 : List Int) (r : Bool) (w : World) (hr0 : Kd.C (Kd.int .u8) w A0 l0.length l0) (hc0 : l0.length ≤ c0) (hr1 : Kd.C (Kd.int .u8) w A1 l1.length l1) (hc1 : l1.length ≤ c1) (h : sapperref01_Same.f l0 l1 = some r) :
  Calls Try.prog 15 #[.slice A0 l0.length c0, .slice A1 l1.length c1] w fun e w' => e = .returned (.bool r) ∧ Drawn0 w w' := by
 have HR0 := Aside0.mk hr0
 have HC0 := Aside0.mk hc0
 clear hr0 hc0
 have HR1 := Aside0.mk hr1
 have HC1 := Aside0.mk hc1
 clear hr1 hc1
 have H : (some ((strOfNums l0).toList == (strOfNums l1).toList)) = some r := h
 clear h
 obtain rfl := Option.some.inj H
 have hcv3 := Kd.C_string (P := Try.prog) (A := A0) (c := c0) Try.underlying23 Try.underlying5 Try.underlying9 HR0.out
 (try (have hcv3k := C_string0 (P := Try.prog) (A := A0) (c := c0) Try.underlying23 Try.underlying5 Try.underlying9 HR0.out))
 (try (have hcv3n := C_string1 (P := Try.prog) (A := A0) (c := c0) Try.underlying23 Try.underlying5 Try.underlying9 HR0.out))
 (try (have hcv3m := C_string2 (P := Try.prog) (A := A0) (c := c0) Try.underlying23 Try.underlying5 Try.underlying9 HR0.out))
 have hcv4 := Kd.C_string (P := Try.prog) (A := A1) (c := c1) Try.underlying23 Try.underlying5 Try.underlying9 HR1.out
 (try (have hcv4k := C_string0 (P := Try.prog) (A := A1) (c := c1) Try.underlying23 Try.underlying5 Try.underlying9 HR1.out))
 (try (have hcv4n := C_string1 (P := Try.prog) (A := A1) (c := c1) Try.underlying23 Try.underlying5 Try.underlying9 HR1.out))
 (try (have hcv4m := C_string2 (P := Try.prog) (A := A1) (c := c1) Try.underlying23 Try.underlying5 Try.underlying9 HR1.out))
 go_enter Try.func15, Try.ntmps15
 go_wp2
 go_ret
 exact ⟨by first | rfl | (simp; done) | (simp [*]; done), by repeat (first | exact Drawn0.refl _ | apply Drawn0.step)⟩

end Go.Proofs.Ytobknpeglagaaaa.X
end
