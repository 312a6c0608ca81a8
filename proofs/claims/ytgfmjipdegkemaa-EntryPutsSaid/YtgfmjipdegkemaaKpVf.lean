/- Walks by the logic of values. -/
import Derived.Test.YtgfmjipdegkemaaKpVa
import Derived.Test.YtgfmjipdegkemaaKpVe
import Derived.Test.YtgfmjipdegkemaaKpWa
import Derived.Test.YtgfmjipdegkemaaKpWb
import Derived.Test.YtgfmjipdegkemaaKpWc
import Derived.Test.YtgfmjipdegkemaaKpWd
import Derived.Test.YtgfmjipdegkemaaKpWe
import Derived.Test.YtgfmjipdegkemaaKpVmT
import Derived.Test.YtgfmjipdegkemaaKpVmP
namespace Go.Proofs.Ytgfmjipdegkemaa
open Go.Vm
set_option linter.unusedVariables false
set_option linter.unusedSimpArgs false
theorem eqCs_u8 : ∀ (a b : List Int), a.length = b.length → (eqCs (a.map fun x => Value.int .u8 x) (b.map fun x => Value.int .u8 x) = true ↔ a = b)
  | [], [], _ => by simp [eqCs]
  | [], _ :: _, h => by simp at h
  | _ :: _, [], h => by simp at h
  | x :: a, y :: b, h => by
    have ih := eqCs_u8 a b (by simpa using h)
    simp only [List.map_cons, eqCs, Bool.and_eq_true, ih, List.cons.injEq]
    simp [eqC]
theorem fits_u8 : ∀ (a : List Int) (n : Nat), a.length = n → fitsL (List.replicate n (CK.i .u8)) (a.map fun x => .int .u8 x) = true
  | [], 0, _ => rfl
  | x :: a, n + 1, h => by simp only [List.replicate_succ, List.map_cons, fitsL, CK.fits, fits_u8 a n (by simpa using h)]; rfl
theorem shape51 : shapeOf Try.prog 4 51 = some (CK.i .i64 :: List.replicate 224 (CK.i .u8)) := by kernel_rfl
theorem eqg51 : Try.prog.eqGuardType Try.prog.depth 51 = false := by kernel_rfl
theorem shape25 : shapeOf Try.prog 3 25 = some [CK.i .u64, CK.i .u64, CK.i .u32, CK.i .u32, CK.s, CK.b] := by kernel_rfl
theorem eqg25 : Try.prog.eqGuardType Try.prog.depth 25 = false := by kernel_rfl
def imC (m : Im) : List Value := .int .i64 m.n :: m.p.map fun x => .int .u8 x
theorem imR_sc (m : Im) : imR m = (imC m).map V.sc := by unfold imR imC; rw [List.map_cons, List.map_map]; rfl
theorem imC_eq {a b : Im} (ha : a.p.length = 224) (hb : b.p.length = 224) : eqCs (imC a) (imC b) = true ↔ a = b := by
  obtain ⟨an, ap⟩ := a
  obtain ⟨bn, bp⟩ := b
  have h := eqCs_u8 ap bp (ha.trans hb.symm)
  simp only [imC, eqCs, Bool.and_eq_true, h, Im.mk.injEq]
  simp [eqC]
theorem step_neq51 {o : Oper} {t : Nat → V} {x y : Operand} {a b : Im} {ty2 : TypeId} (ho : o.op = .binOp .neq 51 x y ty2) (hx : ev t x = .agg (imR a)) (hy : ev t y = .agg (imR b)) (ha : a.p.length = 224) (hb : b.p.length = 224) : StepOK Try.prog o t [] [] (.sc (.bool (!eqCs (imC a) (imC b)))) := by
  rw [imR_sc] at hx hy
  exact step_eq_agg (xs := imC a) (ys := imC b) ho hx hy shape51 (by omega) ⟨_, Try.underlying51, rfl⟩ eqg51 (by unfold imC; simp only [fitsL, CK.fits, fits_u8 _ 224 ha]; rfl) (by unfold imC; simp only [fitsL, CK.fits, fits_u8 _ 224 hb]; rfl) (.inr ⟨rfl, rfl⟩)
def rcV (r : Rc) : List Value := [.int .u64 r.id, .int .u64 r.key, .int .u32 r.x, .int .u32 r.y, .string r.val, .bool r.gh]
theorem step_eql25 {o : Oper} {t : Nat → V} {x y : Operand} {a b : Rc} {ty2 : TypeId} (ho : o.op = .binOp .eql 25 x y ty2) (hx : ev t x = .agg (rcC a)) (hy : ev t y = .agg (rcC b)) : StepOK Try.prog o t [] [] (.sc (.bool (eqCs (rcV a) (rcV b)))) :=
  step_eq_agg (xs := rcV a) (ys := rcV b) ho hx hy shape25 (by omega) ⟨_, Try.underlying25, rfl⟩ eqg25 rfl rfl (.inl ⟨rfl, rfl⟩)
theorem step_neq25 {o : Oper} {t : Nat → V} {x y : Operand} {a b : Rc} {ty2 : TypeId} (ho : o.op = .binOp .neq 25 x y ty2) (hx : ev t x = .agg (rcC a)) (hy : ev t y = .agg (rcC b)) : StepOK Try.prog o t [] [] (.sc (.bool (!eqCs (rcV a) (rcV b)))) :=
  step_eq_agg (xs := rcV a) (ys := rcV b) ho hx hy shape25 (by omega) ⟨_, Try.underlying25, rfl⟩ eqg25 rfl rfl (.inr ⟨rfl, rfl⟩)
end Go.Proofs.Ytgfmjipdegkemaa
