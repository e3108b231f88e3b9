/- By hand: PurseTrue: what its loops keep: two purses in memory, and two rows that were appended to. -/
import Derived.Test.YtbdlkpmaalhnnaaXPg
import Derived.Test.YtbdlkpmaalhnnaaXSH
import Derived.Test.YtbdlkpmaalhnnaaSPb
import Derived.Deep.AppendLies
import Derived.Maps.AppendAt
namespace Go.Proofs.Ytbdlkpmaalhnnaa.X
open Go.RowKit Go.Proofs.YtbdlkpmaalhnnaaW.PrintWords Go.Proofs.YtbdlkpmaalhnnaaW.PrintLast Go.Proofs.YtbdlkpmaalhnnaaW.PrintMore
open Go.Maps Go.MuLone Go.ChangeMaps Go.WideShapes
open Go.Proofs.Ytbdlkpmaalhnnaa.SP (LOk EL EL_ok EL_rise EL_rev EL_size open_goes open_told hold_ok)
set_option linter.unusedVariables false
set_option linter.unusedSimpArgs false

theorem PS.two {w w' : World} {g bm g' bm' : Nat} {D : DataW Unit} {pk : Int} (h : PS w g bm D pk) (hT : Two g' bm' w w') (h1 : g ≠ g') (h2 : g ≠ bm') (h3 : bm ≠ g') (h4 : bm ≠ bm') : PS w' g bm D pk := by
  refine ⟨by rw [hT.block g h.lt h1 h2]; exact h.blk, ?_⟩
  obtain ⟨es, clock, hb, r⟩ := h.own
  exact ⟨es, clock, by rw [hT.block bm h.own.lt h3 h4]; exact hb, r⟩
theorem row_map {w : World} {B b : Nat} {e : TypeId} {n : Nat} {v : Value} {xs : List Value} {es : Array MapEntry} {c : Nat} (h : w.ownsRow B e 1 v n xs) (hb : w.heap[b]? = some (.map es c)) : v.ownBlock ≠ some b := by
  intro he
  rcases h.2 with ⟨rfl, _⟩ | ⟨g, cap, cur, rfl, _, hg, _⟩
  · simp [Value.ownBlock] at he
  · simp [Value.ownBlock] at he
    subst he
    rw [hg] at hb
    cases hb
theorem PS.grow {w w' : World} {g bm : Nat} {D : DataW Unit} {pk : Int} {row : Option Nat} (h : PS w g bm D pk) (hG : w.grownBy w' row) (h1 : row ≠ some g) (h2 : row ≠ some bm) : PS w' g bm D pk := by
  refine ⟨by rw [hG.block g h.lt (fun e => h1 e.symm)]; exact h.blk, ?_⟩
  obtain ⟨es, clock, hb, r⟩ := h.own
  exact ⟨es, clock, by rw [hG.block bm h.own.lt (fun e => h2 e.symm)]; exact hb, r⟩
theorem PS.row {w : World} {g bm B n : Nat} {D : DataW Unit} {pk : Int} {e : TypeId} {v : Value} {xs : List Value} (h : PS w g bm D pk) (hr : w.ownsRow B e 1 v n xs) (he : e ≠ 57) : v.ownBlock ≠ some g ∧ v.ownBlock ≠ some bm := by
  refine ⟨fun e1 => own_ne hr h.blk he e1.symm, ?_⟩
  obtain ⟨es, clock, hb, r⟩ := h.own
  exact row_map hr hb
theorem Two.own {w w' : World} {g bm B n : Nat} {D : DataW Unit} {pk : Int} {e : TypeId} {v : Value} {xs : List Value} (hT : Two g bm w w') (h : PS w g bm D pk) (hr : w.ownsRow B e 1 v n xs) (he : e ≠ 57) : w'.ownsRow B e 1 v n xs := by
  obtain ⟨h1, h2⟩ := h.row hr he
  exact KeepBut.own (g := g) (row := some bm) ⟨hT.size, fun i hi a b => hT.block i hi a (fun e => b (by rw [e]))⟩ hr h1 (.inr h2)
/-- What the law's loops keep. -/
structure T1 (w wr : World) (gp bp gq bq : Nat) (Dp : DataW Unit) (pk : Int) (Dq : DataW Unit) (qk : Int) (v5 v6 : Value) (ns : List ByteArray) (ms : List Int) : Prop where
  p : PS wr gp bp Dp pk
  q : PS wr gq bq Dq qk
  n : wr.ownsRow w.heap.size 9 1 v5 ns.length (encs Value.string ns)
  m : wr.ownsRow w.heap.size 3 1 v6 ms.length (encs (Value.int .i64) ms)
  b : Below w.heap.size w wr
  ne : (gp ≠ gq ∧ gp ≠ bq ∧ bp ≠ gq ∧ bp ≠ bq) ∧ w.heap.size ≤ gp ∧ w.heap.size ≤ bp ∧ w.heap.size ≤ gq ∧ w.heap.size ≤ bq
section
variable {w wr w' : World} {gp bp gq bq : Nat} {Dp Dq Dp' Dq' : DataW Unit} {pk qk pk' qk' : Int} {v5 v6 v8 : Value} {ns : List ByteArray} {ms : List Int} {s : ByteArray} {z : Int}
theorem T1.below (h : T1 w wr gp bp gq bq Dp pk Dq qk v5 v6 ns ms) (hB : Below wr.heap.size wr w') : T1 w w' gp bp gq bq Dp pk Dq qk v5 v6 ns ms :=
  ⟨h.p.below hB, h.q.below hB, pw_own_below h.n hB, pw_own_below h.m hB, below_step h.b hB, h.ne⟩
theorem T1.alloc (h : T1 w wr gp bp gq bq Dp pk Dq qk v5 v6 ns ms) (o : Obj) : T1 w (wr.alloc o) gp bp gq bq Dp pk Dq qk v5 v6 ns ms := h.below (below_alloc (Below.refl _ _) o)
theorem T1.drew (h : T1 w wr gp bp gq bq Dp pk Dq qk v5 v6 ns ms) : T1 w wr.drew gp bp gq bq Dp pk Dq qk v5 v6 ns ms := h.below (below_drew (Below.refl _ _))
theorem T1.drewN (h : T1 w wr gp bp gq bq Dp pk Dq qk v5 v6 ns ms) (n : Nat) : T1 w (wr.drewN n) gp bp gq bq Dp pk Dq qk v5 v6 ns ms := h.below (pw_below_drewN (Below.refl _ _) n)
theorem T1.twoP (h : T1 w wr gp bp gq bq Dp pk Dq qk v5 v6 ns ms) (hT : Two gp bp wr w') (hp : PS w' gp bp Dp' pk') : T1 w w' gp bp gq bq Dp' pk' Dq qk v5 v6 ns ms :=
  ⟨hp, h.q.two hT h.ne.1.1.symm h.ne.1.2.2.1.symm h.ne.1.2.1.symm h.ne.1.2.2.2.symm, hT.own h.p h.n (by decide), hT.own h.p h.m (by decide), h.b.trans (hT.below h.ne.2.1 h.ne.2.2.1 h.b.size), h.ne⟩
theorem T1.twoQ (h : T1 w wr gp bp gq bq Dp pk Dq qk v5 v6 ns ms) (hT : Two gq bq wr w') (hq : PS w' gq bq Dq' qk') : T1 w w' gp bp gq bq Dp pk Dq' qk' v5 v6 ns ms :=
  ⟨h.p.two hT h.ne.1.1 h.ne.1.2.1 h.ne.1.2.2.1 h.ne.1.2.2.2, hq, hT.own h.q h.n (by decide), hT.own h.q h.m (by decide), h.b.trans (hT.below h.ne.2.2.2.1 h.ne.2.2.2.2 h.b.size), h.ne⟩
theorem T1.appN (h : T1 w wr gp bp gq bq Dp pk Dq qk v5 v6 ns ms) (ho : w'.ownsRow w.heap.size 9 1 v8 (ns.length + 1) (encs Value.string ns ++ [.string s])) (hG : wr.grownBy w' v5.ownBlock) : T1 w w' gp bp gq bq Dp pk Dq qk v8 v6 (ns ++ [s]) ms := by
  obtain ⟨p1, p2⟩ := h.p.row h.n (by decide)
  obtain ⟨q1, q2⟩ := h.q.row h.n (by decide)
  exact ⟨h.p.grow hG p1 p2, h.q.grow hG q1 q2, by simpa [encs] using ho, own_other h.m hG (own_type_ne h.m h.n (by decide)), h.b.grown hG h.b.size (own_base h.n), h.ne⟩
theorem T1.appM (h : T1 w wr gp bp gq bq Dp pk Dq qk v5 v6 ns ms) (ho : w'.ownsRow w.heap.size 3 1 v8 (ms.length + 1) (encs (Value.int .i64) ms ++ [.int .i64 z])) (hG : wr.grownBy w' v6.ownBlock) : T1 w w' gp bp gq bq Dp pk Dq qk v5 v8 ns (ms ++ [z]) := by
  obtain ⟨p1, p2⟩ := h.p.row h.m (by decide)
  obtain ⟨q1, q2⟩ := h.q.row h.m (by decide)
  exact ⟨h.p.grow hG p1 p2, h.q.grow hG q1 q2, own_other h.n hG (own_type_ne h.n h.m (by decide)), by simpa [encs] using ho, h.b.grown hG h.b.size (own_base h.m), h.ne⟩
/-- A block that a row does not know stays as it is where the row grows. -/
theorem T1.keepN (h : T1 w wr gp bp gq bq Dp pk Dq qk v5 v6 ns ms) {W W' : World} (hB : Below wr.heap.size wr W) (hG : W.grownBy W' v5.ownBlock) {g : Nat} (h0 : wr.heap.size ≤ g) {u : Value} (hu : W.cell? ⟨g, 0, none⟩ = some u) : W'.cell? ⟨g, 0, none⟩ = some u := by
  have hl := World.block_lt_of_cell? W _ hu
  have e : W'.heap[g]? = W.heap[g]? := hG.block g hl (fun e => by have := own_lt h.n g e.symm; omega)
  have hl' : g < W.heap.size := hl
  unfold World.cell? at hu ⊢
  simp only [e]
  exact hu
end
/-- An append of one cell, as one step of a region that draws its order; where the cell stands is told. -/
theorem step_append_at {P : Program} {ops : Array Oper} {o : Oper} {a : Act} {Q : Exit → Act → World → Prop} {K : Act → World → Prop} {W : World} (base : Nat) (hw : Region.wanted o (yielded ops a.tmps) = true) (s x : Operand) (t e : TypeId) (z : Value) (bytes : Nat)
    (ho : o.op = .call { callee := .builtin .append, args := #[s, x], argTypes := #[t, t] })
    (ht : P.underlying t = some (.slice e)) (hinfo : (P.info? e).map (fun i => (i.zero, i.size, i.bytes)) = some (some z, 1, bytes)) (hz : z.cells.size = 1) (hb0 : 0 < bytes)
    (v : Value) (n : Nat) (xs : List Value) (u : Value) (g : Nat) (hs : a.eval s = v) (hx : a.eval x = .slice (some ⟨g, 0, none⟩) 1 1) (hu : W.cell? ⟨g, 0, none⟩ = some u) (h1 : u.oneCell' = true)
    (HO : W.ownsRow base e 1 v n xs) (hbase : base ≤ W.heap.size) (hl : (n + 1) * bytes ≤ 140737488355328)
    (h : ∀ v1 w1, w1.ownsRow base e 1 v1 (n + 1) (xs ++ [u]) → W.grownBy w1 v.ownBlock → K (a.put o.dst v1) w1) :
    if Region.wanted o (yielded ops a.tmps) = true then Oper.wp P o a W K Q else K (a.put o.dst undef) W := by
  obtain ⟨i0, hi, hzz⟩ := Option.map_eq_some_iff.1 hinfo
  simp only [Prod.mk.injEq] at hzz
  obtain ⟨hz0, hz1, hz2⟩ := hzz
  have hlen : n + 1 ≤ 140737488355328 := Nat.le_trans (Nat.le_mul_of_pos_right _ hb0) hl
  rw [if_pos hw]
  obtain ⟨v1, w1, hr, hown, hg, _, hat⟩ := run_append_own_at (P := P) W base t o.type e i0 z 1 bytes ht hi hz0 hz1 hz2 hz (by decide) v n xs HO ⟨g, 0, none⟩ 1 1 [u] rfl
    (by intro j u' hj; match j with
        | 0 => simp at hj; subst hj; simpa [Addr.add] using hu) (by simpa using h1) (by simp only [maxLen]; omega) hl hbase
  unfold Oper.wp execOp
  simp only [ho, resolve, invoke, builtin, Sem.run_bind, Sem.run_pure, Result.andThen_ok, List.map_toArray, List.map_cons, List.map_nil, hs, hx, hr]
  exact h v1 w1 hown hg
theorem cell_grown {W W' : World} {row : Option Nat} (hG : W.grownBy W' row) {g i : Nat} (hne : some g ≠ row) {u : Value} (hu : W.cell? ⟨g, i, none⟩ = some u) : W'.cell? ⟨g, i, none⟩ = some u := by
  have hl : g < W.heap.size := World.block_lt_of_cell? W _ hu
  have e : W'.heap[g]? = W.heap[g]? := hG.block g hl hne
  unfold World.cell? at hu ⊢
  simp only [e]
  exact hu
theorem pinfo3 : (Try.prog.info? 3).map (fun i => (i.zero, i.size, i.bytes)) = some (some (.int .i64 0), 1, 8) := by kernel_rfl
section
variable {ops : Array Oper} {o : Oper} {a : Act} {Q : Exit → Act → World → Prop} {K : Act → World → Prop} {w wr W : World} {gp bp gq bq g : Nat} {Dp Dq : DataW Unit} {pk qk : Int} {v5 v6 : Value} {ns : List ByteArray} {ms : List Int} {sv : ByteArray} {mv : Int}
theorem stepN (hw : Region.wanted o (yielded ops a.tmps) = true) (s x : Operand) (ho : o.op = .call { callee := .builtin .append, args := #[s, x], argTypes := #[44, 44] }) (hs : a.eval s = v5) (hx : a.eval x = .slice (some ⟨g, 0, none⟩) 1 1)
    (hT : T1 w wr gp bp gq bq Dp pk Dq qk v5 v6 ns ms) (hl : ns.length ≤ 1024) (hB : Below wr.heap.size wr W) (hu : W.cell? ⟨g, 0, none⟩ = some (.string sv))
    (hk : ∀ v8 w8, T1 w w8 gp bp gq bq Dp pk Dq qk v8 v6 (ns ++ [sv]) ms → (∀ g u, wr.heap.size ≤ g → W.cell? ⟨g, 0, none⟩ = some u → w8.cell? ⟨g, 0, none⟩ = some u) → (∀ g i u, some g ≠ v5.ownBlock → W.cell? ⟨g, i, none⟩ = some u → w8.cell? ⟨g, i, none⟩ = some u) → K (a.put o.dst v8) w8) :
    if Region.wanted o (yielded ops a.tmps) = true then Oper.wp Try.prog o a W K Q else K (a.put o.dst undef) W := by
  have hT2 := hT.below hB
  refine step_append_at w.heap.size hw s x 44 9 (.string ⟨#[]⟩) 16 ho Try.underlying44 pinfo9 rfl (by decide) v5 ns.length (encs Value.string ns) (.string sv) g hs hx hu rfl hT2.n hT2.b.size (by omega) ?_
  intro v8 w8 h8 hg8
  exact hk v8 w8 (hT2.appN h8 hg8) (fun g' u h0 hu' => hT.keepN hB hg8 h0 hu') (fun g' i u h0 hu' => cell_grown hg8 h0 hu')
theorem stepM (hw : Region.wanted o (yielded ops a.tmps) = true) (s x : Operand) (ho : o.op = .call { callee := .builtin .append, args := #[s, x], argTypes := #[45, 45] }) (hs : a.eval s = v6) (hx : a.eval x = .slice (some ⟨g, 0, none⟩) 1 1)
    (hT : T1 w wr gp bp gq bq Dp pk Dq qk v5 v6 ns ms) (hl : ms.length ≤ 1024) (hB : Below wr.heap.size wr W) (hu : W.cell? ⟨g, 0, none⟩ = some (.int .i64 mv))
    (hk : ∀ v8 w8, T1 w w8 gp bp gq bq Dp pk Dq qk v5 v8 ns (ms ++ [mv]) → (∀ g i u, some g ≠ v6.ownBlock → W.cell? ⟨g, i, none⟩ = some u → w8.cell? ⟨g, i, none⟩ = some u) → K (a.put o.dst v8) w8) :
    if Region.wanted o (yielded ops a.tmps) = true then Oper.wp Try.prog o a W K Q else K (a.put o.dst undef) W := by
  have hT2 := hT.below hB
  refine step_append_at w.heap.size hw s x 45 3 (.int .i64 0) 8 ho Try.underlying45 pinfo3 rfl (by decide) v6 ms.length (encs (Value.int .i64) ms) (.int .i64 mv) g hs hx hu rfl hT2.m hT2.b.size (by omega) ?_
  intro v8 w8 h8 hg8
  exact hk v8 w8 (hT2.appM h8 hg8) (fun g' i u h0 hu' => cell_grown hg8 h0 hu')
end
end Go.Proofs.Ytbdlkpmaalhnnaa.X
