/- By hand: a parameter that is a struct of a number and two lists of numbers, as a law's row reads it. -/
import Derived.Test.YtgnhangjacdfbaaProg
import Derived.ChangeSame
import Derived.ChangeShapes
import Derived.ChangeSlices
import Derived.WideShapes
import Derived.SizedLaws
import Derived.Deep.Strs
namespace Go.Proofs.Ytgnhangjacdfbaa
open Go Go.ChangeShapes Go.WideShapes Go.Deep
section
variable {H : Type} {enc : TypeId × Value → H} {P : Program} {w : World}
def IsRow64 (w : World) (a : Option Addr) (len cap : Nat) (zs : List Int) : Prop :=
  (a = none ∧ len = 0 ∧ cap = 0 ∧ zs = []) ∨
  ∃ x, a = some x ∧ len ≤ cap ∧ cap ≤ maxLen ∧ zs.length = cap ∧ (∀ i, i < zs.length → w.cell? (x.add i) = some (.int .i64 (zs.getD i 0))) ∧ ∀ n ∈ zs, (Lit.int .i64 n).wf = true

theorem open_list64 {t e : TypeId} {fuel : Nat} {c : Value} {y : DataW H × List MemPlace} (ht : P.underlying t = some (.slice e)) (he : P.underlying e = some (.int .i64)) (hce : P.cellsOf e = 1) (hB : P.bytesOf e = 8)
    (h : DataW.trod enc P w 0 (fun _ => true) true fuel t [c] = some y) (hw : ∀ x ∈ y.1.weights P t, x ≤ reachBytes) :
    ∃ a len cap zs, c = .slice a len cap ∧ IsRow64 w a len cap zs ∧ len * 8 ≤ 140737488351232 := by
  rcases open_ints ht he hce h with ⟨hcs, _⟩ | ⟨x, l, cap, zs, hcs, _, hl, hm, hz, hx, hcell, hwz⟩
  · exact ⟨none, 0, 0, [], (List.cons.inj hcs).1, .inl ⟨rfl, rfl, rfl, rfl⟩, by omega⟩
  · have hz' : zs.length = cap := by simpa using hz
    refine ⟨some x, l, cap, zs, (List.cons.inj hcs).1, .inr ⟨x, rfl, hl, hm, hz', hcell, hwz⟩, ?_⟩
    subst hx
    have h1 : (lits (H := H) .i64 (zs.take l)).length + (lits (H := H) .i64 (zs.drop l)).length = zs.length := by simp [lits]; omega
    have z := hw (((lits (H := H) .i64 (zs.take l)).length + (lits (H := H) .i64 (zs.drop l)).length) * P.bytesOf e) (by simp [DataW.weights, ht])
    rw [h1, hB] at z
    unfold reachBytes at z
    omega

theorem open_order {r : Reach} {b0 : Nat} {t e : TypeId} {f0 f1 f2 : Field} {v : Value} {d : DataW H} {ps : List MemPlace} (ht : P.underlying t = some (.struct #[f0, f1, f2])) (h0 : P.underlying f0.type = some (.int .i64)) (h1 : P.underlying f1.type = some (.slice e)) (h2 : P.underlying f2.type = some (.slice e))
    (he : P.underlying e = some (.int .i64)) (hce : P.cellsOf e = 1) (hB : P.bytesOf e = 8) (ho0 : f0.offset = 0) (ho1 : f1.offset = 1) (ho2 : f2.offset = 2) (hc : P.cellsOf t = 3) (hc0 : P.cellsOf f0.type = 1) (hc1 : P.cellsOf f1.type = 1) (hc2 : P.cellsOf f2.type = 1)
    (hval : Value.okWide P w r b0 t v) (hd : DataW.Trod enc P w 0 (fun _ => true) true t v d ps) (hw : ∀ x ∈ d.weights P t, x ≤ reachBytes) :
    ∃ a A1 n1 c1 z1 A2 n2 c2 z2, v = .agg #[.int .i64 a, .slice A1 n1 c1, .slice A2 n2 c2] ∧ (Lit.int .i64 a).wf = true ∧ IsRow64 w A1 n1 c1 z1 ∧ n1 * 8 ≤ 140737488351232 ∧ IsRow64 w A2 n2 c2 z2 ∧ n2 * 8 ≤ 140737488351232 := by
  obtain ⟨cs, rfl, hcs⟩ := okWide_struct ht hval
  obtain ⟨fuel, hf⟩ := hd
  obtain ⟨y0, y1, y2, n, hx, hl, e0, e1, e2⟩ := trod_struct3 ht hf
  rw [ho0, hc0] at e0
  rw [ho1, hc1] at e1
  rw [ho2, hc2] at e2
  obtain ⟨a, ha, hy0, hwa⟩ := DataW.trod_int h0 e0
  rw [hc] at hcs
  obtain ⟨l⟩ := cs
  match l, hcs with
  | [x0, x1, x2], _ =>
    simp [Value.cells] at ha
    subst ha
    have hd' := (Prod.mk.inj hx).1
    subst hd'
    have hw' : ∀ x ∈ DataW.weightsEach P [f0.type, f1.type, f2.type] [y0.1, y1.1, y2.1], x ≤ reachBytes := fun x hx => hw x (by simp only [DataW.weights, ht]; exact hx)
    obtain ⟨A1, n1, c1, z1, q1, q2, q3⟩ := open_list64 (c := x1) h1 he hce hB (by simpa [Value.cells] using e1) (fun x hx => hw' x (DataW.weights_mem_each (j := 1) rfl rfl x hx))
    obtain ⟨A2, n2, c2, z2, p1, p2, p3⟩ := open_list64 (c := x2) h2 he hce hB (by simpa [Value.cells] using e2) (fun x hx => hw' x (DataW.weights_mem_each (j := 2) rfl rfl x hx))
    subst q1
    subst p1
    exact ⟨a, A1, n1, c1, z1, A2, n2, c2, z2, rfl, hwa, q2, q3, p2, p3⟩
end
end Go.Proofs.Ytgnhangjacdfbaa
