/- A logic of values over the model. Part V: ranges told by lists of entries. -/
import Derived.Test.YtggeejghchnpaaaKrVmU
import Derived.Test.YtggeejghchnpaaaKrVmP
set_option linter.unusedVariables false
set_option linter.unusedSimpArgs false
namespace Go.Vm
def AllP {α : Type} (p : α → Prop) : List α → Prop
  | [] => True
  | a :: l => p a ∧ AllP p l
theorem AllP.of {α : Type} {p : α → Prop} : ∀ {l : List α}, (∀ a ∈ l, p a) → AllP p l
  | [], _ => trivial
  | b :: l, h => ⟨h b (List.mem_cons_self ..), AllP.of fun a ha => h a (List.mem_cons_of_mem _ ha)⟩
def lkB : List (Nat × Box) → Nat → Box
  | [], _ => .dead
  | (k, b) :: l, j => if j = k then b else lkB l j
def inK : List Nat → Nat → Bool
  | [], _ => false
  | k :: l, j => Nat.beq j k || inK l j
def eL (El : List (Nat × Box × (Nat → Bool → Box))) : List (Nat × Box) := El.map fun p => (p.1, p.2.1)
def eM (El : List (Nat × Box × (Nat → Bool → Box))) (m : Nat) (b : Bool) : List (Nat × Box) := El.map fun p => (p.1, p.2.2 m b)
/-- An iterator's contract, its own entries told by a list. -/
def DoesL (P : Program) (f : FuncId) (caps : List V) (xs : List (List V)) (El : List (Nat × Box × (Nat → Bool → Box))) : Prop :=
  DoesI P f caps xs (inK (El.map (·.1))) (lkB (eL El)) (fun m b => lkB (eM El m b))
theorem DoesL.le {P : Program} {f : FuncId} {caps caps' : List V} {xs : List (List V)} {El : List (Nat × Box × (Nat → Bool → Box))} (h : DoesL P f caps' xs El) (hl : VLes caps caps') : DoesL P f caps xs El := DoesI.le h hl
theorem AllP.app {α : Type} {p : α → Prop} : ∀ {l l' : List α}, AllP p l → AllP p l' → AllP p (l ++ l')
  | [], _, _, h => h
  | _ :: _, _, h, h' => ⟨h.1, AllP.app h.2 h'⟩
theorem AllP.map {α β : Type} {p : β → Prop} {f : α → β} : ∀ {l : List α}, AllP (fun a => p (f a)) l → AllP p (l.map f)
  | [], _ => trivial
  | _ :: _, h => ⟨h.1, AllP.map h.2⟩
theorem AllP.imp {α : Type} {p q : α → Prop} (hi : ∀ a, p a → q a) : ∀ {l : List α}, AllP p l → AllP q l
  | [], _ => trivial
  | _ :: _, h => ⟨hi _ h.1, AllP.imp hi h.2⟩
section
variable {P : Program} {B : Bas} {N n : Nat} {l : List (Nat × V)} {bx : Nat → Box} {Q : Exit → S → Prop} {g : Operand} {ps : Array Tmp} {assign body : Code} {f : FuncId} {caps : List V} {xs : List (List V)} {fnn : Func} {Dl : List (Nat × (Nat → Box))} {El : List (Nat × Box × (Nat → Bool → Box))} {m : Nat} {brk : Bool} {ex : Exit} {gv : V} {kl : Nat}
end
/-! ### Inside an iterator -/
theorem beq_m {m j : Nat} {brk : Bool} (h : (!(brk && Nat.beq (j + 1) m)) = true) (h1 : j < m) : j + 1 ≤ m ∧ (brk = true → j + 1 < m) := by
  refine ⟨h1, fun hb => ?_⟩
  subst hb
  cases hq : Nat.beq (j + 1) m with
  | true => rw [hq] at h; cases h
  | false =>
    have : j + 1 ≠ m := fun e => by rw [e, Nat.beq_refl] at hq; cases hq
    omega
/-- That so many elements were handed over, and that none is asked for in vain. -/
def OkJ (brk : Bool) (m j : Nat) : Prop := j ≤ m ∧ (brk = true → j < m)
theorem OkJ.zero {brk : Bool} {m : Nat} (h : brk = true → 1 ≤ m) : OkJ brk m 0 := ⟨Nat.zero_le _, fun hb => h hb⟩
theorem OkJ.next {brk : Bool} {m j : Nat} (h : (!(brk && Nat.beq (j + 1) m)) = true) (h1 : j < m) : OkJ brk m (j + 1) := beq_m h h1
theorem OkJ.lt {brk : Bool} {m j N : Nat} (h : OkJ brk m j) (h3 : brk = false → m = N) (hj : j < N) : j < m := by
  cases brk with
  | true => exact h.2 rfl
  | false => rw [h3 rfl]; exact hj
section
variable {P : Program} {o : Oper} {t : Nat → V}
end
section
variable {P : Program} {B : Bas} {N n : Nat} {bx : Nat → Box} {Q : Exit → S → Prop} {ops : Array Oper} {L : List Oper} {l : List (Nat × V)} {o : Oper}
end
section
variable {P : Program} {B : Bas} {N n : Nat} {bx : Nat → Box} {Q : Exit → S → Prop} {ops : Array Oper} {L : List Oper} {l : List (Nat × V)}
end
end Go.Vm
