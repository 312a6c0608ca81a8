/- A logic of values over the model. Part K: cuts of arrays, shifts and bits. -/
import Derived.Test.YtjmfdddeoadpaaaKbVmJ
import Derived.Laws.BitsLemmas
import Derived.Laws.Entries
set_option linter.unusedVariables false
set_option linter.unusedSimpArgs false
namespace Go.Vm
section
variable {P : Program} {o : Oper} {t : Nat → V} {l : List (Nat × V)}
/-- A cut of an array that is a box's; its numbers are told plainly. -/
theorem step_sl_arr {ty el : TypeId} {x : Operand} {lo hi mx : Option Operand} {e k q len a h m q' n' c' : Nat} (ho : o.op = .slice ty x lo hi mx) (hx : ev t x = .ref k q) (hu : P.underlying ty = some (.array len el)) (he : (P.info? el).map (·.size) = some e)
    (hlo : bndLo (lo.map (ev t)) = some a) (hhi : bndHi len (hi.map (ev t)) = some h) (hmx : bndHi len (mx.map (ev t)) = some m) (hmh : mx.isSome = true → hi.isSome = true) (hlh : a ≤ h) (hh : h ≤ m) (hm : m ≤ len)
    (hq : m ≠ a ∧ q + a * e = q' ∨ m = a ∧ q = q') (hn : h - a = n') (hc : m - a = c') : StepOK P o t [] [] (.msl k q' n' c' e) := by
  have := step_slice_arr ho hx hu he hlo hhi hmx hmh hlh hh hm
  rcases hq with ⟨h1, h2⟩ | ⟨h1, h2⟩
  · rw [if_neg h1, h2, hn, hc] at this; exact this
  · rw [if_pos h1, h2, hn, hc] at this; exact this
theorem CellsAt.taken {X : Ctx} : ∀ {vs : List V} {b q : Nat} (i : Nat), CellsAt X vs b q → CellsAt X (vs.take i) b q
  | [], b, q, i, h => by simpa using h
  | v :: vs, b, q, 0, h => by simp [CellsAt]
  | v :: vs, b, q, i + 1, h => by
    simp only [CellsAt, List.take_succ_cons] at h ⊢
    exact ⟨h.1, CellsAt.taken i h.2⟩
theorem bndLo_nat {x : Operand} {k : IntKind} {i : Int} {a : Nat} (h : lko l x = some (.sc (.int k i))) (h0 : i = (a : Int)) : bndLo ((some x).map (ev (mk l))) = some a := by
  rw [bndLo_some h (by omega)]; congr 1; omega
theorem bndHi_nat {x : Operand} {k : IntKind} {i : Int} {m a : Nat} (h : lko l x = some (.sc (.int k i))) (h0 : i = (a : Int)) : bndHi m ((some x).map (ev (mk l))) = some a := by
  rw [bndHi_some h (by omega)]; congr 1; omega
end
end Go.Vm
