/- By hand: a parameter that is a struct of a bool, a string and a number, as a law's row reads it. -/
import Derived.Test.YtbdlkpmaalhnnaaProg
import Derived.ChangeSame
import Derived.ChangeShapes
import Derived.WideShapes
import Derived.ChangeMaps5
import Derived.Deep.Strs
namespace Go.Proofs.Ytbdlkpmaalhnnaa
open Go Go.ChangeShapes Go.WideShapes Go.Deep
section
variable {H : Type} {enc : TypeId × Value → H} {P : Program} {w : World} {base : Nat} {spare : Nat → Bool} {held : Bool}
theorem open_op {r : Reach} {b0 : Nat} {t : TypeId} {f0 f1 f2 : Field} {v : Value} {d : DataW H} {ps : List MemPlace} (ht : P.underlying t = some (.struct #[f0, f1, f2])) (h0 : P.underlying f0.type = some .bool) (h1 : P.underlying f1.type = some .string) (h2 : P.underlying f2.type = some (.int .i64))
    (ho0 : f0.offset = 0) (ho1 : f1.offset = 1) (ho2 : f2.offset = 2) (hc : P.cellsOf t = 3) (hc0 : P.cellsOf f0.type = 1) (hc1 : P.cellsOf f1.type = 1) (hc2 : P.cellsOf f2.type = 1) (hval : Value.okWide P w r b0 t v) (hd : DataW.Trod enc P w base spare held t v d ps) :
    ∃ a s c, v = .agg #[.bool a, .string s, .int .i64 c] ∧ d = .agg [.lit (.bool a), .lit (.string s.data.toList), .lit (.int .i64 c)] ∧ ps = [] ∧ s.size ≤ maxLen ∧ (Lit.int .i64 c).wf = true := by
  obtain ⟨cs, rfl, hcs⟩ := okWide_struct ht hval
  obtain ⟨fuel, hf⟩ := hd
  obtain ⟨y0, y1, y2, n, hx, hl, e0, e1, e2⟩ := trod_struct3 ht hf
  rw [ho0, hc0] at e0
  rw [ho1, hc1] at e1
  rw [ho2, hc2] at e2
  obtain ⟨a, ha, hy0⟩ := DataW.trod_bool h0 e0
  obtain ⟨b, hb, hy1, hwb⟩ := DataW.trod_string h1 e1
  obtain ⟨c, hcc, hy2, hwc⟩ := DataW.trod_int h2 e2
  rw [hc] at hcs
  obtain ⟨l⟩ := cs
  match l, hcs with
  | [x, y, z], _ =>
    simp [Value.cells] at ha hb hcc
    subst ha
    subst hb
    subst hcc
    simp only [Prod.mk.injEq] at hx
    refine ⟨a, b, c, rfl, ?_, ?_, hwb, hwc⟩
    · rw [hx.1, hy0, hy1, hy2]
    · rw [hx.2, hy0, hy1, hy2]; rfl
theorem shut_op {t : TypeId} {f0 f1 f2 : Field} {a : Bool} {s : ByteArray} {c : Int} (ht : P.underlying t = some (.struct #[f0, f1, f2])) (h0 : P.underlying f0.type = some .bool) (h1 : P.underlying f1.type = some .string) (h2 : P.underlying f2.type = some (.int .i64))
    (ho0 : f0.offset = 0) (ho1 : f1.offset = 1) (ho2 : f2.offset = 2) (hc : P.cellsOf t = 3) (hc0 : P.cellsOf f0.type = 1) (hc1 : P.cellsOf f1.type = 1) (hc2 : P.cellsOf f2.type = 1) (hs : s.size ≤ maxLen) (hwc : (Lit.int .i64 c).wf = true) :
    DataW.Trod enc P w base spare held t (.agg #[.bool a, .string s, .int .i64 c]) (.agg [.lit (.bool a), .lit (.string s.data.toList), .lit (.int .i64 c)]) [] :=
  ⟨2, by
    have h := trod_struct3_mk (enc := enc) (w := w) (base := base) (spare := spare) (held := held) (n := 1) (cs := [.bool a, .string s, .int .i64 c]) (y0 := (.lit (.bool a), [])) (y1 := (.lit (.string s.data.toList), [])) (y2 := (.lit (.int .i64 c), [])) ht (by rw [hc]; rfl)
      (by rw [ho0, hc0]; simp [DataW.trod, h0]) (by rw [ho1, hc1]; simp [DataW.trod, h1, hs]) (by rw [ho2, hc2]; simp [DataW.trod, h2, hwc])
    exact h⟩
end
end Go.Proofs.Ytbdlkpmaalhnnaa
