/- A logic of values over the model. Part L: arrays that a law is handed. -/
import Derived.Test.YthpkhecialkmmaaKeVmK
set_option linter.unusedVariables false
set_option linter.unusedSimpArgs false
namespace Go.Vm
open Go.ChangeShapes Go.WideShapes Go.ChangeAt Go.RowKit Go.ChangeMaps
section
variable {P : Program} {t e : TypeId} {α : Type} {f : α → V} {ok : α → Prop}
theorem okWide_array {n : Nat} {w : World} {r : Reach} {base : Nat} {v : Value} (ht : P.underlying t = some (.array n e)) (h : Value.okWide P w r base t v) : ∃ cs, v = .agg cs ∧ cs.size = P.cellsOf t := by
  simp only [Value.okWide, ht] at h
  obtain ⟨cs, h1, h2, _⟩ := h
  exact ⟨cs, h1, h2⟩
/-- An array that is handed in. -/
theorem open_varray {H : Type} {enc : TypeId × Value → H} {w : World} {base : Nat} {spare : Nat → Bool} {held : Bool} {r : Reach} {b0 : Nat} {v : Value} {n sz : Nat} {β : Type} {vs : β → List V} {okb : β → Prop} {D : DataW H} {ps : List MemPlace} (ht : P.underlying t = some (.array n e))
    (h0 : VOp P t sz vs okb) (hval : Value.okWide P w r b0 t v) (h : DataW.Trod enc P w base spare held t v D ps) : ∃ (x : β), VRep (X0 w) (.agg (vs x)) v ∧ okb x := by
  obtain ⟨cs, rfl, _⟩ := okWide_array ht hval
  obtain ⟨fuel, hf⟩ := h
  obtain ⟨x, hK, h1, hok⟩ := h0.opn enc w base spare held fuel _ _ hf
  refine ⟨x, ?_, hok⟩
  simp only [VRep]
  exact ⟨cs.toList, rfl, hK, h1⟩
end
end Go.Vm

