/- By hand: a scan on its way (scan.walk): its block, told as a record; shifted. -/
import Derived.Test.YtobknpeglagaaaaXSd
import Derived.Test.YtobknpeglagaaaaXx28
import Derived.Deep.RegionHeld3
namespace Go.Proofs.Ytobknpeglagaaaa.X
open Go.RowKit Go.Proofs.YtobknpeglagaaaaW.PrintWords Go.Proofs.YtobknpeglagaaaaW.PrintLast Go.Proofs.YtobknpeglagaaaaW.PrintMore
attribute [local go_sem] max2_int min2_int max_two min_two
set_option linter.unusedVariables false
set_option linter.unusedSimpArgs false

structure Wk where
 dn : Int
 bs : Int
 sh : Int
 a : Int
 n : Int
 ps : Int
 sc : Int
 mr : Int
 st : List S39
def wkCells (q : Option Addr) (vO vN vS : Value) (s : Wk) : Array Value := #[.pointer q, vO, vN, .int .i64 s.dn, .int .i64 s.bs, .int .i64 s.sh, .int .i64 s.a, .int .i64 s.n, .int .i64 s.ps, .int .i64 s.sc, .int .i64 s.mr, vS]
structure WS (w w' : World) (g : Nat) (q : Option Addr) (vO vN vS : Value) (old : List Int) (s : Wk) : Prop where
 hb : Below w.heap.size w w'
 ge : w.heap.size ≤ g
 blk : w'.heap[g]? = some (.cells (wkCells q vO vN vS s) 55 (0, 0))
 hO : (Kd.int .u8).R 5 w' w.heap.size (fun k => some k = vO.ownBlock) vO old
 hS : k39.R 39 w' w.heap.size (fun k => some k = vS.ownBlock) vS s.st
section
variable {w w1 w2 : World} {g : Nat} {q : Option Addr} {vO vN vS : Value} {old : List Int} {s s' : Wk}
theorem WS.below (h : WS w w1 g q vO vN vS old s) (hb : Below w1.heap.size w1 w2) : WS w w2 g q vO vN vS old s :=
 ⟨below_step h.hb hb, h.ge, blk_below h.blk hb, Kd.R_below h.hO hb, Kd.R_below h.hS hb⟩
theorem WS.drewN (h : WS w w1 g q vO vN vS old s) (n : Nat) : WS w (w1.drewN n) g q vO vN vS old s := h.below (pw_below_drewN (Below.refl _ _) n)
theorem WS.drew (h : WS w w1 g q vO vN vS old s) : WS w w1.drew g q vO vN vS old s := h.below (below_drew1 (Below.refl _ _))
theorem WS.cell (h : WS w w1 g q vO vN vS old s) (i : Nat) : w1.cell? ⟨g, i, none⟩ = (wkCells q vO vN vS s)[i]? := blk_cell h.blk i
theorem WS.free (h : WS w w1 g q vO vN vS old s) (i : Nat) : w1.frozen? ⟨g, i, none⟩ = false := blk_frozen h.blk i
theorem WS.put (h : WS w w1 g q vO vN vS old s) (i : Nat) (v : Value) (hc : (wkCells q vO vN vS s).setIfInBounds i v = wkCells q vO vN vS s') (hst : s'.st = s.st) : WS w (w1.setCell ⟨g, i, none⟩ v) g q vO vN vS old s' :=
 ⟨below_set h.hb h.ge, h.ge, blk_put h.blk i v hc, Kd.R_set h.hO h.blk (by decide) i v, by rw [hst]; exact Kd.R_set h.hS h.blk (by decide) i v⟩
theorem WS.lt (h : WS w w1 g q vO vN vS old s) : g < w1.heap.size := blk_lt h.blk
end
/-- What 'shifted' tells. -/
def shf (old next : List Int) (sh a : Int) : Option Bool := if wrap64 (a + sh) ≥ 0 then (if wrap64 (a + sh) < (old.length : Int) then likeAt old (wrap64 (a + sh)) next a else some false) else some false
set_option maxHeartbeats 4000000 in
set_option maxRecDepth 100000 in
theorem shifted_calls {w w1 : World} {g : Nat} {q : Option Addr} {vS : Value} {old next : List Int} {s : Wk} {AO AN : Option Addr} {cO cN : Nat} {a : Int} {b : Bool} (hs : WS w w1 g q (.slice AO old.length cO) (.slice AN next.length cN) vS old s) (hn : Kd.C (Kd.int .u8) w AN next.length next) (h : shf old next s.sh a = some b) :
  Calls Try.prog 43 #[.pointer (some ⟨g, 0, none⟩), .int .i64 a] w1 fun e w' => e = .returned (.bool b) ∧ Drawn0 w1 w' := by
 have k1 : w1.cell? ⟨g, 1, none⟩ = some (.slice AO old.length cO) := hs.cell 1
 have k2 : w1.cell? ⟨g, 2, none⟩ = some (.slice AN next.length cN) := hs.cell 2
 have k5 : w1.cell? ⟨g, 5, none⟩ = some (.int .i64 s.sh) := hs.cell 5
 have hr0 := (Kd.R_reads' hs.hO).2.2
 have hr2 := Kd.C_below hn hs.hb
 clear hs hn
 unfold shf at h
 generalize s.sh = sh at *
 by_cases c1 : wrap64 (a + sh) ≥ 0
 case neg =>
  rw [if_neg c1] at h
  obtain rfl := Option.some.inj h
  have c1b : decide (0 ≤ wrap64 (a + sh)) = false := decide_eq_false c1
  clear c1 h hr0 hr2
  go_enter Try.func43, Try.ntmps43
  go_wp2
  go_quiet (fail)
  go_wp2
  go_ret
  exact ⟨rfl, ⟨_, rfl⟩⟩
 rw [if_pos c1] at h
 have c1b : decide (0 ≤ wrap64 (a + sh)) = true := decide_eq_true c1
 by_cases c2 : wrap64 (a + sh) < (old.length : Int)
 case neg =>
  rw [if_neg c2] at h
  obtain rfl := Option.some.inj h
  have c2b : decide (wrap64 (a + sh) < (old.length : Int)) = false := decide_eq_false c2
  clear c1 c2 h hr0 hr2
  go_enter Try.func43, Try.ntmps43
  go_wp2
  go_quiet (fail)
  go_wp2
  go_ret
  exact ⟨rfl, ⟨_, rfl⟩⟩
 rw [if_pos c2] at h
 have c2b : decide (wrap64 (a + sh) < (old.length : Int)) = true := decide_eq_true c2
 obtain ⟨d1, d2, d3, d4, e1⟩ := likeAt_some h
 subst e1
 clear h c1 c2
 obtain ⟨ad1, eq1, hx1⟩ := Kd.at_int hr0 _ d1 d2
 subst eq1
 obtain ⟨ad2, eq2, hx2⟩ := Kd.at_int hr2 _ d3 d4
 subst eq2
 have d1b := eq_true d1
 have d2b := eq_true d2
 have d3b := eq_true d3
 have d4b := eq_true d4
 clear d1 d2 d3 d4 hr0 hr2
 go_enter Try.func43, Try.ntmps43
 go_wp2
 go_quiet (fail)
 go_wp2
 go_ret
 exact ⟨rfl, ⟨_, rfl⟩⟩
end Go.Proofs.Ytobknpeglagaaaa.X
