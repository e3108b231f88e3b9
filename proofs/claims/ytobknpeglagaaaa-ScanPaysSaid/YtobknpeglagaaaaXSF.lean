/- By hand: a parameter that is a struct of four numbers, as a law's row reads it. -/
import Derived.Test.YtobknpeglagaaaaProg
import Derived.ChangeSame
import Derived.ChangeShapes
import Derived.WideShapes
import Derived.Lib.SmallJoins
namespace Go.Proofs.Ytobknpeglagaaaa
open Go Go.ChangeShapes Go.WideShapes
section
variable {H : Type} {enc : TypeId × Value → H} {P : Program} {w : World} {base : Nat} {spare : Nat → Bool} {held : Bool}
theorem open_four {r : Reach} {b0 : Nat} {t : TypeId} {f0 f1 f2 f3 : Field} {v : Value} {d : DataW H} {ps : List MemPlace} (ht : P.underlying t = some (.struct #[f0, f1, f2, f3])) (h0 : P.underlying f0.type = some (.int .i64)) (h1 : P.underlying f1.type = some (.int .i64)) (h2 : P.underlying f2.type = some (.int .i64)) (h3 : P.underlying f3.type = some (.int .i64))
    (ho0 : f0.offset = 0) (ho1 : f1.offset = 1) (ho2 : f2.offset = 2) (ho3 : f3.offset = 3) (hc : P.cellsOf t = 4) (hc0 : P.cellsOf f0.type = 1) (hc1 : P.cellsOf f1.type = 1) (hc2 : P.cellsOf f2.type = 1) (hc3 : P.cellsOf f3.type = 1) (hval : Value.okWide P w r b0 t v) (hd : DataW.Trod enc P w base spare held t v d ps) :
    ∃ a b c e, v = .agg #[.int .i64 a, .int .i64 b, .int .i64 c, .int .i64 e] ∧ d = .agg [.lit (.int .i64 a), .lit (.int .i64 b), .lit (.int .i64 c), .lit (.int .i64 e)] ∧ ps = [] ∧ (Lit.int .i64 a).wf = true ∧ (Lit.int .i64 b).wf = true ∧ (Lit.int .i64 c).wf = true ∧ (Lit.int .i64 e).wf = true := by
  obtain ⟨cs, rfl, hcs⟩ := okWide_struct ht hval
  obtain ⟨fuel, hf⟩ := hd
  obtain ⟨y0, y1, y2, y3, n, hx, hl, e0, e1, e2, e3⟩ := Joins.trod_struct4 ht hf
  rw [ho0, hc0] at e0
  rw [ho1, hc1] at e1
  rw [ho2, hc2] at e2
  rw [ho3, hc3] at e3
  obtain ⟨a, ha, hy0, hwa⟩ := DataW.trod_int h0 e0
  obtain ⟨b, hb, hy1, hwb⟩ := DataW.trod_int h1 e1
  obtain ⟨c, hcc, hy2, hwc⟩ := DataW.trod_int h2 e2
  obtain ⟨e, he, hy3, hwe⟩ := DataW.trod_int h3 e3
  rw [hc] at hcs
  obtain ⟨l⟩ := cs
  match l, hcs with
  | [x, y, z, u], _ =>
    simp [Value.cells] at ha hb hcc he
    subst ha
    subst hb
    subst hcc
    subst he
    simp only [Prod.mk.injEq] at hx
    refine ⟨a, b, c, e, rfl, ?_, ?_, hwa, hwb, hwc, hwe⟩
    · rw [hx.1, hy0, hy1, hy2, hy3]
    · rw [hx.2, hy0, hy1, hy2, hy3]; rfl
theorem shut_four {t : TypeId} {f0 f1 f2 f3 : Field} {a b c e : Int} (ht : P.underlying t = some (.struct #[f0, f1, f2, f3])) (h0 : P.underlying f0.type = some (.int .i64)) (h1 : P.underlying f1.type = some (.int .i64)) (h2 : P.underlying f2.type = some (.int .i64)) (h3 : P.underlying f3.type = some (.int .i64))
    (ho0 : f0.offset = 0) (ho1 : f1.offset = 1) (ho2 : f2.offset = 2) (ho3 : f3.offset = 3) (hc : P.cellsOf t = 4) (hc0 : P.cellsOf f0.type = 1) (hc1 : P.cellsOf f1.type = 1) (hc2 : P.cellsOf f2.type = 1) (hc3 : P.cellsOf f3.type = 1) (hwa : (Lit.int .i64 a).wf = true) (hwb : (Lit.int .i64 b).wf = true) (hwc : (Lit.int .i64 c).wf = true) (hwe : (Lit.int .i64 e).wf = true) :
    DataW.Trod enc P w base spare held t (.agg #[.int .i64 a, .int .i64 b, .int .i64 c, .int .i64 e]) (.agg [.lit (.int .i64 a), .lit (.int .i64 b), .lit (.int .i64 c), .lit (.int .i64 e)]) [] :=
  ⟨2, by
    have h := Joins.trod_struct4_mk (enc := enc) (w := w) (base := base) (spare := spare) (held := held) (n := 1) (cs := [.int .i64 a, .int .i64 b, .int .i64 c, .int .i64 e]) (y0 := (.lit (.int .i64 a), [])) (y1 := (.lit (.int .i64 b), [])) (y2 := (.lit (.int .i64 c), [])) (y3 := (.lit (.int .i64 e), [])) ht (by rw [hc]; rfl)
      (by rw [ho0, hc0]; simp [DataW.trod, h0, hwa]) (by rw [ho1, hc1]; simp [DataW.trod, h1, hwb]) (by rw [ho2, hc2]; simp [DataW.trod, h2, hwc]) (by rw [ho3, hc3]; simp [DataW.trod, h3, hwe])
    exact h⟩
end
end Go.Proofs.Ytobknpeglagaaaa
