import Derived.Test.YtdmkhpnjjpeeaaaKcQq
import Derived.Test.YtdmkhpnjjpeeaaaKcVmP
set_option linter.unusedVariables false
set_option linter.unusedSimpArgs false
namespace Go.Vm
open Go.ChangeShapes Go.WideShapes Go.ChangeAt Go.RowKit Go.ChangeMaps
section
variable {P : Program} {t e : TypeId} {α : Type} {f : α → V} {ok : α → Prop}
theorem row_of {X : Ctx} : ∀ (xs : List α) (cs : List Value), xs.length = cs.length → (∀ (i : Nat) x u, xs[i]? = some x → cs[i]? = some u → VRep X (f x) u) → RowRep X (xs.map f) cs
  | [], [], _, _ => by simp [RowRep]
  | x :: xs, u :: cs, h, hv => row_cons (hv 0 x u rfl rfl) (row_of xs cs t_123 fun i y w h1 h2 => hv (i + 1) y w h1 h2)
  | [], _ :: _, h, _ => by simp at h
  | _ :: _, [], h, _ => by simp at h
theorem vop_array {n : Nat} (ht : P.underlying t = some (.array n e)) (hc : P.cellsOf t = n) (h0 : VOp P e 1 (fun x => [f x]) ok) : VOp P t n (fun xs : { l : List α // l.length = n } => xs.1.map f) (fun xs => ∀ x ∈ xs.1, ok x) :=
  ⟨hc, fun a => by rw [List.length_map, a.2], fun enc w base spare held fuel cs x h => by
    obtain ⟨xs, m, rfl, _, hl, hxl, hx⟩ := DataW.trod_array ht h
    rw [hc] at hl
    have key : ∀ i, i < n → ∃ b, (∀ u, cs[i]? = some u → VRep (X0 w) (f b) u ∧ oneV u = true) ∧ ok b := by
      intro i hi
      have h1 := hx i hi
      rw [List.getElem?_eq_getElem (by omega), h0.size, Nat.mul_one] at h1
      obtain ⟨b, hr, h2, hok⟩ := h0.opn enc w base spare held m _ _ h1
      refine ⟨b, fun u hu => ?_, hok⟩;have hlt := (List.getElem?_eq_some_iff.1 hu).1;have e1 : (cs.drop i).take 1 = [u] := by
        rw [List.drop_eq_getElem_cons hlt, List.take_succ_cons, List.take_zero]
        rw [List.getElem?_eq_getElem hlt] at hu
        cases hu; rfl
      rw [e1] at hr h2
      simp only [RowRep] at hr
      obtain ⟨v, us, he, hv, _⟩ := hr
      cases he
      exact ⟨hv, h2 u (List.mem_cons_self ..)⟩
    obtain ⟨ys, hyl, hy⟩ := exists_list n key
    refine ⟨⟨ys, hyl⟩, row_of ys cs (by omega) fun i y u h1 h2 => ((hy i y h1).1 u h2).1, fun u hu => ?_, fun y hm => ?_⟩
    · obtain ⟨i, hi, rfl⟩ := List.getElem_of_mem hu
      exact ((hy i _ (List.getElem?_eq_getElem (by omega))).1 _ (List.getElem?_eq_getElem hi)).2
    · obtain ⟨i, hi, rfl⟩ := List.getElem_of_mem hm
      exact (hy i _ (List.getElem?_eq_getElem hi)).2⟩
theorem okWide_array {n : Nat} {w : World} {r : Reach} {base : Nat} {v : Value} (ht : P.underlying t = some (.array n e)) (h : Value.okWide P w r base t v) : ∃ cs, v = .agg cs ∧ cs.size = P.cellsOf t := by
  simp only [Value.okWide, ht] at h
  obtain ⟨cs, h1, h2, _⟩ := h
  exact ⟨cs, h1, h2⟩
theorem open_varray {H : Type} {enc : TypeId × Value → H} {w : World} {base : Nat} {spare : Nat → Bool} {held : Bool} {r : Reach} {b0 : Nat} {v : Value} {n sz : Nat} {β : Type} {vs : β → List V} {okb : β → Prop} {D : DataW H} {ps : List MemPlace} (ht : P.underlying t = some (.array n e))
    (h0 : VOp P t sz vs okb) (hval : Value.okWide P w r b0 t v) (h : DataW.Trod enc P w base spare held t v D ps) : ∃ (x : β), VRep (X0 w) (.agg (vs x)) v ∧ okb x := by
  obtain ⟨cs, rfl, _⟩ := okWide_array ht hval
  obtain ⟨fuel, hf⟩ := h
  obtain ⟨x, hK, h1, hok⟩ := h0.opn enc w base spare held fuel _ _ hf
  refine ⟨x, ?_, hok⟩;simp only [VRep];exact ⟨cs.toList, rfl, hK, h1⟩
end
end Go.Vm
