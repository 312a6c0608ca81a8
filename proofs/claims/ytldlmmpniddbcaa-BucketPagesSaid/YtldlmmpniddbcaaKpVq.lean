/- Walks by the logic of values. -/
import Derived.Test.YtldlmmpniddbcaaKpVmT
import Derived.Test.YtldlmmpniddbcaaKpVmP
import Derived.Test.YtldlmmpniddbcaaKpVa
import Derived.Test.YtldlmmpniddbcaaKpVc
import Derived.Test.YtldlmmpniddbcaaKpVf
import Derived.Test.YtldlmmpniddbcaaKpVg
import Derived.Test.YtldlmmpniddbcaaKpVh
import Derived.Test.YtldlmmpniddbcaaKpVo
namespace Go.Proofs.Ytldlmmpniddbcaa
open Go.Vm
set_option linter.unusedVariables false
set_option linter.unusedSimpArgs false
attribute [local irreducible] Go.Vm.beB Go.Vm.fieldB

theorem eqCs_u8 : ∀ (a : List Int), eqCs (a.map fun x => Value.int .u8 x) (a.map fun x => Value.int .u8 x) = true
  | [] => by simp [eqCs]
  | x :: a => by
    have ih := eqCs_u8 a
    simp only [List.map_cons, eqCs, Bool.and_eq_true, ih]
    simp [eqC]
theorem fits_u8 : ∀ (a : List Int) (n : Nat), a.length = n → fitsL (List.replicate n (CK.i .u8)) (a.map fun x => .int .u8 x) = true
  | [], 0, _ => rfl
  | x :: a, n + 1, h => by simp only [List.replicate_succ, List.map_cons, fitsL, CK.fits, fits_u8 a n (by simpa using h)]; rfl
theorem shapeP : shapeOf Try.prog 3 39 = some (List.replicate 224 (CK.i .u8)) := by kernel_rfl
theorem eqgP : Try.prog.eqGuardType Try.prog.depth 39 = false := by kernel_rfl
theorem step_neqP {o : Oper} {t : Nat → V} {x y : Operand} {p : List Int} {cs : List V} {ty2 : TypeId} (ho : o.op = .binOp .neq 39 x y ty2) (hx : ev t x = .agg cs) (hy : ev t y = .agg (p.map bV)) (he : cs = p.map bV) (hl : p.length = 224) : StepOK Try.prog o t [] [] (.sc (.bool false)) := by
  subst he
  have e : p.map bV = (p.map fun x => Value.int .u8 x).map V.sc := by rw [List.map_map]; rfl
  rw [e] at hx hy
  exact step_eq_agg (xs := p.map fun x => .int .u8 x) (ys := p.map fun x => .int .u8 x) ho hx hy shapeP (by omega) ⟨_, Try.underlying39, rfl⟩ eqgP (fits_u8 _ _ hl) (fits_u8 _ _ hl) (.inr ⟨rfl, by rw [eqCs_u8 p]; rfl⟩)

end Go.Proofs.Ytldlmmpniddbcaa
