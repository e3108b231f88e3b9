/- By hand: a pointer to an index, told as a row of at most one struct: what its value is, and how it is held against nil. -/
import Derived.Test.YthcnnfahlhklgaaProg
import Derived.WalkSpells
import Derived.Laws.Pointers
import Derived.Laws.Strings
import Derived.KernelRfl
import Derived.RowKit3
import Derived.WalkKit
import Derived.Test.YthcnnfahlhklgaaZMoreInvWordsWGuard0
namespace Go.Proofs.Ythcnnfahlhklgaa
open Go.RowKit Go.Proofs.YthcnnfahlhklgaaW.PrintWords Go.Proofs.YthcnnfahlhklgaaW.PrintLast Go.Proofs.YthcnnfahlhklgaaW.PrintMore
def cutOf : Value→Nat→Value
  | .slice A _ c,m=>.slice A m c
  | v,_=>v
def ptrOf : Value→Value
  | .slice A n _=>if n = 0 then .pointer none else .pointer (some (A.getD ⟨0,0,none⟩))
  | v=>v
theorem ptrOf_zero (A : Option Addr) (c : Nat) : ptrOf (.slice A 0 c) = .pointer none:=rfl
theorem ptrOf_nil : ptrOf (.slice none 0 0) = .pointer none:=rfl
theorem ptrOf_pos (ad : Addr) (n c : Nat) (h : (0 : Int) < (n : Int)) : ptrOf (.slice (some ad) n c) = .pointer (some ad):=by
  show (if n = 0 then _ else _) = _
  rw [if_neg (by omega)]; rfl
theorem ptrOf_under : Try.prog.underlying 24 = some (.pointer (Try.prog.pointee 24)):=by kernel_rfl
theorem ptrOf_eql (w : World) (A : Option Addr) (n c : Nat) : (binOp .eql 24 (ptrOf (.slice A n c)) (.pointer none)).run Try.prog w = .ok (.bool ((n : Int) == 0)) w:=by
  cases n with
  | zero=>exact run_eql_pointer_nil w _ none ptrOf_under
  | succ n =>
    have : (((n + 1 : Nat) : Int) == 0) = false:=by rw [beq_eq_false_iff_ne]; omega
    rw [this]
    exact run_eql_pointer_nil w _ (some (A.getD ⟨0,0,none⟩)) ptrOf_under
theorem ptrOf_neq (w : World) (A : Option Addr) (n c : Nat) : (binOp .neq 24 (ptrOf (.slice A n c)) (.pointer none)).run Try.prog w = .ok (.bool ((n : Int) != 0)) w:=by
  cases n with
  | zero=>exact run_neq_pointer_nil w _ none ptrOf_under
  | succ n =>
    have : (((n + 1 : Nat) : Int) != 0) = true:=by rw [bne_iff_ne]; omega
    rw [this]
    exact run_neq_pointer_nil w _ (some (A.getD ⟨0,0,none⟩)) ptrOf_under
theorem ptrOf_eqg (t : TypeId) (x y : Operand) (v : Value) : eqGuard .eql t x y v (.pointer none) = pure ():=by
  cases v <;> simp [eqGuard] <;> rfl
theorem ptrOf_neg (t : TypeId) (x y : Operand) (v : Value) : eqGuard .neq t x y v (.pointer none) = pure ():=by
  cases v <;> simp [eqGuard] <;> rfl
theorem C_string1 {P : Program} {w : World} {src dst e : TypeId} {A : Option Addr} {n c : Nat} {xs : List Int} (hs : P.underlying src = some (.slice e)) (he : P.underlying e = some (.int .u8)) (hd : P.underlying dst = some .string)
    (h : (Kd.int .u8).C w A n xs) : ∀ L : Nat,L = n→∀ m : Nat,(convert src dst (.slice A L c)).run P (w.drewN m) = .ok (.string (strOfNums xs)) (w.drewN m):=by
  rintro L rfl m
  exact Kd.C_string hs he hd (Kd.C_drewN h m)
theorem C_string2 {P : Program} {w : World} {src dst e : TypeId} {A : Option Addr} {n c : Nat} {xs : List Int} (hs : P.underlying src = some (.slice e)) (he : P.underlying e = some (.int .u8)) (hd : P.underlying dst = some .string)
    (h : (Kd.int .u8).C w A n xs) : ∀ L : Nat,L = n→∀ m m2 : Nat,(convert src dst (.slice A L c)).run P ((w.drewN m).drewN m2) = .ok (.string (strOfNums xs)) ((w.drewN m).drewN m2):=by
  rintro L rfl m m2
  exact Kd.C_string hs he hd (Kd.C_drewN (Kd.C_drewN h m) m2)
theorem C_string0 {P : Program} {w : World} {src dst e : TypeId} {A : Option Addr} {n c : Nat} {xs : List Int} (hs : P.underlying src = some (.slice e)) (he : P.underlying e = some (.int .u8)) (hd : P.underlying dst = some .string)
    (h : (Kd.int .u8).C w A n xs) : ∀ L : Nat,L = n→(convert src dst (.slice A L c)).run P w = .ok (.string (strOfNums xs)) w:=by
  rintro L rfl
  exact Kd.C_string hs he hd h
theorem R_string0 {P : Program} {w : World} {src dst e : TypeId} {A : Option Addr} {n c e' base : Nat} {ok : Nat→Prop} {xs : List Int} (hs : P.underlying src = some (.slice e)) (he : P.underlying e = some (.int .u8)) (hd : P.underlying dst = some .string)
    (h : (Kd.int .u8).R e' w base ok (.slice A n c) xs) : ∀ L : Nat,L = n→(convert src dst (.slice A L c)).run P w = .ok (.string (strOfNums xs)) w:=by
  obtain ⟨hn,_,hc⟩:=Kd.R_reads' h
  subst hn
  exact C_string0 hs he hd hc
theorem R_string1 {P : Program} {w : World} {src dst e : TypeId} {A : Option Addr} {n c e' base : Nat} {ok : Nat→Prop} {xs : List Int} (hs : P.underlying src = some (.slice e)) (he : P.underlying e = some (.int .u8)) (hd : P.underlying dst = some .string)
    (h : (Kd.int .u8).R e' w base ok (.slice A n c) xs) : ∀ L : Nat,L = n→∀ m : Nat,(convert src dst (.slice A L c)).run P (w.drewN m) = .ok (.string (strOfNums xs)) (w.drewN m):=by
  obtain ⟨hn,_,hc⟩:=Kd.R_reads' h
  subst hn
  exact C_string1 hs he hd hc
theorem R_string2 {P : Program} {w : World} {src dst e : TypeId} {A : Option Addr} {n c e' base : Nat} {ok : Nat→Prop} {xs : List Int} (hs : P.underlying src = some (.slice e)) (he : P.underlying e = some (.int .u8)) (hd : P.underlying dst = some .string)
    (h : (Kd.int .u8).R e' w base ok (.slice A n c) xs) : ∀ L : Nat,L = n→∀ m m2 : Nat,(convert src dst (.slice A L c)).run P ((w.drewN m).drewN m2) = .ok (.string (strOfNums xs)) ((w.drewN m).drewN m2):=by
  obtain ⟨hn,_,hc⟩:=Kd.R_reads' h
  subst hn
  exact C_string2 hs he hd hc
theorem less_or_same : ∀ a b : List UInt8,(Op.bytesLess a b || a == b) = !Op.bytesLess b a
  | [],[]=>rfl
  | [],_ :: _=>rfl
  | _ :: _,[]=>rfl
  | x :: a,y :: b=>by
    have ih:=less_or_same a b
    simp only [Op.bytesLess]
    rcases UInt8.lt_or_lt_of_ne (a:=x) (b:=y) |> fun h=>(Classical.em (x = y)).imp id h with h | h | h
    · subst h
      simp only [UInt8.lt_irrefl,decide_false,Bool.false_or,beq_self_eq_true,Bool.true_and]
      rw [← ih]
      simp
    · have h1 : ¬ y < x:=fun h2=>absurd (UInt8.lt_trans h h2) (UInt8.lt_irrefl _)
      have h2 : x ≠ y:=fun e=>by subst e; exact UInt8.lt_irrefl _ h
      have h3 : y ≠ x:=fun e=>h2 e.symm
      simp [h,h1,h3]
    · have h1 : ¬ x < y:=fun h2=>absurd (UInt8.lt_trans h h2) (UInt8.lt_irrefl _)
      have h2 : x ≠ y:=fun e=>by subst e; exact UInt8.lt_irrefl _ h
      simp [h,h1,h2]
theorem str_leq (t : TypeId) (a b : ByteArray) : binOp .leq t (.string a) (.string b) = pure (.bool (!(Op.bytesLess b.toList a.toList))):=by
  rw [← less_or_same]; simp [binOp,Op.stringOp]
theorem str_geq (t : TypeId) (a b : ByteArray) : binOp .geq t (.string a) (.string b) = pure (.bool (!(Op.bytesLess a.toList b.toList))):=by
  simp [binOp,Op.stringOp]
theorem str_gtr (t : TypeId) (a b : ByteArray) : binOp .gtr t (.string a) (.string b) = pure (.bool (Op.bytesLess b.toList a.toList)):=by
  have h:=less_or_same a.toList b.toList
  have : (binOp .gtr t (.string a) (.string b)) = pure (.bool !(Op.bytesLess a.toList b.toList || a.toList == b.toList)):=by simp [binOp,Op.stringOp]
  rw [this,h]; simp
end Go.Proofs.Ythcnnfahlhklgaa
