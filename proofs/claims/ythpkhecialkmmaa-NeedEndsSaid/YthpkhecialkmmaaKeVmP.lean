/- A logic of values over the model. Part P: numbers as bytes. -/
import Derived.Test.YthpkhecialkmmaaKeVmN
set_option linter.unusedVariables false
set_option linter.unusedSimpArgs false
namespace Go.Vm
theorem tl_eq {b : Box} {m n : Nat} (h : b = .tail m) (e : m = n) : b = .tail n := by rw [h, e]
theorem Does.res {P : Program} {f : FuncId} {vs : List V} {pre up : List (Nat × Box)} {r r' : V} (h : Does P f vs pre up r) (hl : VLe r r') : Does P f vs pre up r' := fun n X args h1 h2 h3 h4 => (h n X args h1 h2 h3 h4).mono fun e w' ⟨X', u, g1, g2, g3, g4, g5, g6⟩ => ⟨X', u, g1, hl _ _ g2, g3, g4, g5, g6⟩
theorem uE {α : Type} {f : Nat → α} {k : Nat} {v : α} : upd f k v k = v := upd_eq f k v
theorem uN {α : Type} {f : Nat → α} {k i : Nat} {v b : α} (h : i ≠ k) (h2 : f i = b) : upd f k v i = b := (upd_ne f k v i h).trans h2
/-- A number's low k Byts, the highest first. -/
def beB : Nat → Int → List Int
  | 0, _ => []
  | k + 1, v => beB k (v / 256) ++ [v % 256]
theorem beB_len : ∀ (k : Nat) (v : Int), (beB k v).length = k
  | 0, _ => rfl
  | k + 1, v => by simp [beB, beB_len k]
end Go.Vm
namespace Go.Vm
end Go.Vm
namespace Go.Vm
end Go.Vm

