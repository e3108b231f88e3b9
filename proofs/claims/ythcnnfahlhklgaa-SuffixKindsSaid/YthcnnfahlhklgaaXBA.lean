/- By hand: marks, told by a number's bits; a row apart from another one's block, by their types. -/
import Derived.Test.YthcnnfahlhklgaaProg
import Derived.Test.YthcnnfahlhklgaaZMoreInvWordsWGuard0
namespace Go.Proofs.Ythcnnfahlhklgaa.X
open Go.RowKit Go.Proofs.YthcnnfahlhklgaaW.PrintWords Go.Proofs.YthcnnfahlhklgaaW.PrintLast Go.Proofs.YthcnnfahlhklgaaW.PrintMore
def bA (n v : Nat) : Array Bool:=((List.range n).map v.testBit).toArray
theorem gg_types {α β : Type} {d : Kd α} {d' : Kd β} {e e' : TypeId} {w : World} {base base' : Nat} {ok ok' : Nat→Prop} {v : Value} {xs : List α} {ys : List β} {g n c : Nat} (h : d.R e w base ok v xs) (h' : d'.R e' w base' ok' (.slice (some ⟨g,0,none⟩) n c) ys) (ht : ∀ q,q ∈ e :: d.E→q ≠ e') : d.R e w base (fun k=>ok k∧k ≠ g) v xs:=by
  obtain ⟨cells,hc⟩:=Kd.R_typed h' g (by simp [Value.ownBlock])
  exact Kd.R_types h hc ht
/-! Short names, for printed texts that would be longer than a claim may be (wip/monoshort.py). -/
abbrev Qa:=@Kd.R_alloc
abbrev Qb:=@Kd.R_drewN
abbrev Qc:=@Kd.R_drew
abbrev Qd:=@Kd.C_alloc
abbrev Qe:=@Kd.C_drewN
abbrev Qf:=@Kd.C_drew
abbrev Qg:=@below_alloc
abbrev Qh:=@pw_below_drewN
abbrev Qi:=@below_drew1
theorem Qt {p : Prop} [Decidable p] (h : decide p = true:=by first | (with_reducible assumption) | assumption) : p:=of_decide_eq_true h
theorem Qs : (∀ (a : Act) (v : Value) (d : Tmp),a.put (some d) v = { tmps:=a.tmps.setIfInBounds d v,defers:=a.defers })∧(∀ (a : Act) (v : Value),a.put none v = a)∧(∀ (l : List Value) (i : Nat) (x : Value),l.toArray.setIfInBounds i x = (l.set i x).toArray)∧(∀ (x a : Value) (xs : List Value),(x :: xs).set 0 a = a :: xs)∧(∀ (x a : Value) (xs : List Value) (i : Nat),(x :: xs).set (i + 1) a = x :: xs.set i a)∧(∀ n : Int,IntKind.i64.wrap n = wrap64 n)∧(∀ n : Int,IntKind.i32.wrap n = wrap32 n) :=
  ⟨fun _ _ _=>rfl,fun _ _=>rfl,fun _ _ _=>List.setIfInBounds_toArray ..,fun _ _ _=>rfl,fun _ _ _ _=>rfl,i64_w,i32_w⟩
section
variable {P : Program} {ops : Array Oper} {Q : Exit→Act→World→Prop} {md : Region.Mode} {S : World→Prop} {ds : List Nat} {T : Bool × List (List Nat × List Nat)} {oi : Oper} {fuel : Nat} {l : Array Bool} {a : Act} {w : World}
theorem pureQ (i N n b : Nat) (hT : rtab md ops = T) (v : Value) (hy : ∀ w,(execOp a.eval oi).run P w = .ok (.value v) w) (a' : Act) (ha : a.put (some N) v = a') (h : wpAnyLast P md ops Q S ds fuel (bA n b) a' w)
    (hi : ops[i]? = some oi:=by rfl) (hN : oi.dst = some N:=by rfl) (hc : anyT T l.toList (bA n b).toList i = true:=by kernel_rfl) (hw : Region.wanted oi (yielded ops a.tmps) = true:=by rfl) (hQ : ∀ c a w,Q (.panic c) (a.put oi.dst v) w→Q (.panic c) a w:=by exact fun _ _ _ h=>h) : wpAnyLast P md ops Q S ds (fuel + 1) l a w :=
  pure_ (bA n b) hi hN (any_of hT hc) hQ (Or.inl ⟨hw,hy⟩) ha h
theorem pureU (i N n b : Nat) (hT : rtab md ops = T) (a' : Act) (ha : a.put (some N) undef = a') (h : wpAnyLast P md ops Q S ds fuel (bA n b) a' w)
    (hi : ops[i]? = some oi:=by rfl) (hN : oi.dst = some N:=by rfl) (hc : anyT T l.toList (bA n b).toList i = true:=by kernel_rfl) (hw : Region.wanted oi (yielded ops a.tmps) = false:=by rfl) (hQ : ∀ c a w,Q (.panic c) (a.put oi.dst undef) w→Q (.panic c) a w:=by exact fun _ _ _ h=>h) : wpAnyLast P md ops Q S ds (fuel + 1) l a w :=
  pure_ (bA n b) hi hN (any_of hT hc) hQ (Or.inr ⟨hw,rfl⟩) ha h
theorem takeQ {B : List Nat} (i N n b : Nat) (hT : rtab md ops = T) (hB : waitsOk T.2 B = true) (hS : S w) (v : Value) (hy : ∀ w,S w→(execOp a.eval oi).run P w = .ok (.value v) w) (a' : Act) (ha : a.put (some N) v = a') (h : wpAnyLast P md ops Q S ds fuel (bA n b) a' w)
    (hi : ops[i]? = some oi:=by rfl) (hN : oi.dst = some N:=by rfl) (hc : takeW T B ds l.toList (bA n b).toList i = true:=by kernel_rfl) (hw : Region.wanted oi (yielded ops a.tmps) = true:=by rfl) (hQ : ∀ c a w,Q (.panic c) (a.put oi.dst v) w→Q (.panic c) a w:=by exact fun _ _ _ h=>h) : wpAnyLast P md ops Q S ds (fuel + 1) l a w :=
  take_ (bA n b) hi hN (take_ofW hT hB hc) hQ (Or.inl ⟨hw,hy⟩) hS ha h
end
end Go.Proofs.Ythcnnfahlhklgaa.X
