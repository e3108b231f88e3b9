/- By hand: a parameter that is a struct of two numbers, as a law's row reads it. -/
import Derived.Test.YtphchkkicpnehaaProg
import Derived.ChangeSame
import Derived.ChangeShapes
import Derived.WideShapes
namespace Go.Proofs.Ytphchkkicpnehaa
open Go Go.ChangeShapes Go.WideShapes
section
variable {H : Type} {enc : TypeId × Value → H} {P : Program} {w : World} {base : Nat} {spare : Nat → Bool} {held : Bool}
theorem open_two {r : Reach} {b0 : Nat} {t : TypeId} {f0 f1 : Field} {v : Value} {d : DataW H} {ps : List MemPlace} (ht : P.underlying t = some (.struct #[f0, f1])) (h0 : P.underlying f0.type = some (.int .i64)) (h1 : P.underlying f1.type = some (.int .i64))
    (ho0 : f0.offset = 0) (ho1 : f1.offset = 1) (hc : P.cellsOf t = 2) (hc0 : P.cellsOf f0.type = 1) (hc1 : P.cellsOf f1.type = 1) (hval : Value.okWide P w r b0 t v) (hd : DataW.Trod enc P w base spare held t v d ps) :
    ∃ a b, v = .agg #[.int .i64 a, .int .i64 b] ∧ d = .agg [.lit (.int .i64 a), .lit (.int .i64 b)] ∧ ps = [] ∧ (Lit.int .i64 a).wf = true ∧ (Lit.int .i64 b).wf = true := by
  obtain ⟨cs, rfl, hcs⟩ := okWide_struct ht hval
  obtain ⟨fuel, hf⟩ := hd
  obtain ⟨y0, y1, n, hx, hl, e0, e1⟩ := trod_struct2 ht hf
  rw [ho0, hc0] at e0
  rw [ho1, hc1] at e1
  obtain ⟨a, ha, hy0, hwa⟩ := DataW.trod_int h0 e0
  obtain ⟨b, hb, hy1, hwb⟩ := DataW.trod_int h1 e1
  rw [hc] at hcs
  obtain ⟨l⟩ := cs
  match l, hcs with
  | [x, y], _ =>
    simp [Value.cells] at ha hb
    subst ha
    subst hb
    simp only [Prod.mk.injEq] at hx
    refine ⟨a, b, rfl, ?_, ?_, hwa, hwb⟩
    · rw [hx.1, hy0, hy1]
    · rw [hx.2, hy0, hy1]; rfl
theorem shut_two {t : TypeId} {f0 f1 : Field} {a b : Int} (ht : P.underlying t = some (.struct #[f0, f1])) (h0 : P.underlying f0.type = some (.int .i64)) (h1 : P.underlying f1.type = some (.int .i64))
    (ho0 : f0.offset = 0) (ho1 : f1.offset = 1) (hc : P.cellsOf t = 2) (hc0 : P.cellsOf f0.type = 1) (hc1 : P.cellsOf f1.type = 1) (hwa : (Lit.int .i64 a).wf = true) (hwb : (Lit.int .i64 b).wf = true) :
    DataW.Trod enc P w base spare held t (.agg #[.int .i64 a, .int .i64 b]) (.agg [.lit (.int .i64 a), .lit (.int .i64 b)]) [] :=
  ⟨2, by
    have h := trod_struct2_mk (enc := enc) (w := w) (base := base) (spare := spare) (held := held) (n := 1) (cs := [.int .i64 a, .int .i64 b]) (y0 := (.lit (.int .i64 a), [])) (y1 := (.lit (.int .i64 b), [])) ht (by rw [hc]; rfl) (by rw [ho0, hc0]; exact trod_int_mk 0 h0 hwa) (by rw [ho1, hc1]; exact trod_int_mk 0 h1 hwb)
    exact h⟩
end
end Go.Proofs.Ytphchkkicpnehaa
