/- Walks by the logic of values. -/
import Derived.Test.YtjmfdddeoadpaaaKbVmT
import Derived.Test.YtjmfdddeoadpaaaKbVmP
import Derived.Test.YtjmfdddeoadpaaaKbVmX
import Derived.Test.YtjmfdddeoadpaaaKbVmW
import Derived.Test.YtjmfdddeoadpaaaKbVmV
import Derived.Test.YtjmfdddeoadpaaaKbVa
import Derived.Test.YtjmfdddeoadpaaaKbVb
import Derived.Test.YtjmfdddeoadpaaaKbVc
import Derived.Test.YtjmfdddeoadpaaaKbVd
import Derived.Test.YtjmfdddeoadpaaaKbVe
import Derived.Test.YtjmfdddeoadpaaaKbVf
import Derived.Test.YtjmfdddeoadpaaaKbVg
import Derived.Test.YtjmfdddeoadpaaaKbVh
import Derived.Test.YtjmfdddeoadpaaaKbVi
namespace Go.Proofs.Ytjmfdddeoadpaaa
open Go.Vm
set_option linter.unusedVariables false
set_option linter.unusedSimpArgs false
attribute [local irreducible] pgC
def fF (g : Pf) (l : List Op) (i : Nat) : Pf := (l.take i).foldl doP g
theorem fF0 (g : Pf) (l : List Op) : fF g l 0 = g := rfl
theorem fFs {g : Pf} {l : List Op} {i : Nat} (h : (i : Int) < l.length) : fF g l (i + 1) = doP (fF g l i) (at' l (i : Int)) := by
  unfold fF; rw [List.take_add_one, oat h, List.foldl_append]; rfl
theorem fF_snd {g : Pf} {l : List Op} (hg : Snd g) (hok : ∀ o ∈ l, Byts o.b) : ∀ i, i ≤ l.length → Snd (fF g l i)
  | 0, _ => hg
  | i + 1, h => by rw [fFs (by omega)]; exact do_snd (fF_snd hg hok i (by omega)) (hok _ (List.mem_of_getElem? (oat (by omega))))
theorem oat_ok {l : List Op} (hok : ∀ o ∈ l, Byts o.b) (h60 : ∀ o ∈ l, o.b.length ≤ 300) {i : Nat} (h : (i : Int) < l.length) : okO (at' l (i : Int)) := ⟨hok _ (List.mem_of_getElem? (oat h)), h60 _ (List.mem_of_getElem? (oat h))⟩
/-! pages' arrays compared -/
def pgV (f : Pf) : List Value := (List.range 224).map fun k => .int .u8 (f k : Int)
theorem pgV_c (f : Pf) : pgC f = (pgV f).map V.sc := by unfold pgC pgV; rw [List.map_map]; rfl
theorem eqCs_refl (f : Pf) : ∀ l : List Nat, eqCs (l.map fun k => Value.int .u8 (f k : Int)) (l.map fun k => Value.int .u8 (f k : Int)) = true
  | [] => rfl
  | k :: l => by simp only [List.map_cons, eqCs, eqC, eqCs_refl f l]; simp
theorem pgV_fits (f : Pf) : fitsL (List.replicate 224 (CK.i .u8)) (pgV f) = true := by
  have : ∀ l : List Nat, fitsL (List.replicate l.length (CK.i .u8)) (l.map fun k => Value.int .u8 (f k : Int)) = true := by
    intro l
    induction l with
    | nil => rfl
    | cons a l ih => simp only [List.length_cons, List.replicate_succ, List.map_cons, fitsL, CK.fits, ih]; rfl
  have h := this (List.range 224)
  rw [List.length_range] at h; exact h
theorem shape25 : shapeOf Try.prog 3 25 = some (List.replicate 224 (CK.i .u8)) := by kernel_rfl
theorem eqg25 : Try.prog.eqGuardType Try.prog.depth 25 = false := by kernel_rfl
theorem step_neq25 {o : Oper} {t : Nat → V} {x y : Operand} {f : Pf} {cs : List V} {ty2 : TypeId} (ho : o.op = .binOp .neq 25 x y ty2) (hx : ev t x = .agg cs) (hy : ev t y = .agg (pgC f)) (h : cs = pgC f) : StepOK Try.prog o t [] [] (.sc (.bool false)) := by
  subst h
  rw [pgV_c] at hx hy
  exact step_eq_agg ho hx hy shape25 (by omega) ⟨_, Try.underlying25, rfl⟩ eqg25 (pgV_fits f) (pgV_fits f) (.inr ⟨rfl, by unfold pgV; rw [eqCs_refl]; rfl⟩)
end Go.Proofs.Ytjmfdddeoadpaaa
