/- A logic of values over the model. Part M: slices that grow and are written: a box of their own whose block may change. -/
import Derived.Test.YthpkhecialkmmaaKeVmK
set_option linter.unusedVariables false
set_option linter.unusedSimpArgs false
namespace Go.Vm
section
variable {P : Program} {o : Oper} {t : Nat → V} {pre up : List (Nat × Box)} {val : V}
/-! ### What is read off such a slice -/
/-! ### append, cuts -/
end
section
variable {P : Program} {B : Bas} {N : Nat} {Q : Exit → S → Prop} {l : List (Nat × V)} {n : Nat} {bx : Nat → Box}
end
end Go.Vm
namespace Go.Vm
section
variable {P : Program} {B : Bas} {N : Nat} {Q : Exit → S → Prop} {ops : Array Oper} {L : List Oper} {o : Oper} {l : List (Nat × V)} {n : Nat} {bx : Nat → Box} {acc : List Ac}
theorem rl_know {d : Nat} {b c : Bool} (hb : lk l d = some (.sc (.bool b))) (hc : b = c) (h : RunsL P B N ops L ⟨mk ((d, .sc (.bool c)) :: l), n, bx⟩ Q) : RunsL P B N ops L ⟨mk l, n, bx⟩ Q := by
  refine rl_bool hb (fun h1 => ?_) (fun h1 => ?_)
  · rw [← h1, hc]; exact h
  · rw [← h1, hc]; exact h
theorem dl_know {d : Nat} {b c : Bool} (hb : lk l d = some (.sc (.bool b))) (hc : b = c) (h : DrawL P N n ops Q L (mk ((d, .sc (.bool c)) :: l)) bx acc) : DrawL P N n ops Q L (mk l) bx acc := by
  refine dl_bool hb (fun h1 => ?_) (fun h1 => ?_)
  · rw [← h1, hc]; exact h
  · rw [← h1, hc]; exact h
end
section
variable {P : Program} {o : Oper} {ty ty2 : TypeId} {x y : Operand} {k yk : IntKind} {a b r : Int} {t : Nat → V} {l : List (Nat × V)}
end
theorem step_callfn {P : Program} {o : Oper} {l : List (Nat × V)} {f : FuncId} {g : Operand} {gv : V} {fn : Func} {xs : Array Operand} {tys : Array TypeId} {vs vs' cap : List V} {pre up : List (Nat × Box)} {r : V} (ho : o.op = .call { callee := .value g, args := xs, argTypes := tys }) (hgv : ev (mk l) g = gv) (hg : gv = .fn f cap ∨ (gv = .sc (.func (.func f) #[] #[]) ∧ cap = []))
    (hf : P.funcs[f]? = some fn) (hname : (fn.name == "runtime.NumGoroutine") = false) (hb : fn.body.isSome = true) (hvs : (lks l xs.toList).map (· ++ cap) = some vs) (h : Does P f vs' pre up r) (hl : VLes vs vs') : StepOK P o (mk l) pre up r := by
  obtain ⟨ws, h1, h2⟩ : ∃ ws, lks l xs.toList = some ws ∧ ws ++ cap = vs := by
    cases hq : lks l xs.toList with
    | none => rw [hq] at hvs; cases hvs
    | some ws => rw [hq] at hvs; exact ⟨ws, rfl, by simpa using hvs⟩
  exact step_call_fn ho (by rw [hgv]; exact hg) (by rw [evs_mk h1]; exact h2) hf hname hb (h.le hl)
end Go.Vm
namespace Go.Vm
section
variable {P : Program} {o : Oper} {t : Nat → V}
end
end Go.Vm
namespace Go.Vm
section
variable {P : Program} {o : Oper} {t : Nat → V}
end
end Go.Vm

