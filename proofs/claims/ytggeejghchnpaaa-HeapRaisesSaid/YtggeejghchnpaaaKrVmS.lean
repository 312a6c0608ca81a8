/- A logic of values over the model. Part S: ranges over functions: what yield does, what an iterator does, the loop. -/
import Derived.Test.YtggeejghchnpaaaKrVmR
import Derived.RangeFuncIn
import Derived.RangeFuncNested
set_option linter.unusedVariables false
set_option linter.unusedSimpArgs false
namespace Go.Vm
/-! ### Objects as boxes -/
section
variable {n : Nat} {X X' : Ctx} {o : Obj}
end
mutual
theorem V.bd_mono {n m : Nat} (h : n ≤ m) : ∀ v : V, v.bd n → v.bd m
  | .junk, _ => by simp [V.bd]
  | .sc v, _ => by simp [V.bd]
  | .ref k o, hv => by simp only [V.bd] at hv ⊢; omega
  | .ro row, hv => by simp only [V.bd] at hv ⊢; exact bdL_mono h row hv
  | .sl e xs, hv => by simp only [V.bd] at hv ⊢; exact bdR_mono h xs hv
  | .fl e xs, hv => by simp only [V.bd] at hv ⊢; exact bdR_mono h xs hv
  | .own e xs k, hv => by simp only [V.bd] at hv ⊢; exact ⟨bdR_mono h xs hv.1, by omega⟩
  | .msl k o len cap e, hv => by simp only [V.bd] at hv ⊢; omega
  | .gsl k v q len e, hv => by simp only [V.bd] at hv ⊢; omega
  | .gref k v o, hv => by simp only [V.bd] at hv ⊢; omega
  | .fn f cap, hv => by simp only [V.bd] at hv ⊢; exact bdL_mono h cap hv
  | .agg cs, hv => by simp only [V.bd] at hv ⊢; exact bdL_mono h cs hv
  | .tup vs, hv => by simp only [V.bd] at hv ⊢; exact bdL_mono h vs hv
theorem bdL_mono {n m : Nat} (h : n ≤ m) : ∀ vs : List V, bdL n vs → bdL m vs
  | [], _ => trivial
  | v :: vs, hv => by simp only [bdL] at hv ⊢; exact ⟨V.bd_mono h v hv.1, bdL_mono h vs hv.2⟩
theorem bdR_mono {n m : Nat} (h : n ≤ m) : ∀ xs : List (List V), bdR n xs → bdR m xs
  | [], _ => trivial
  | r :: rs, hv => by simp only [bdR] at hv ⊢; exact ⟨bdL_mono h r hv.1, bdR_mono h rs hv.2⟩
end
/-- What an entry holds speaks of entries below n alone. -/
def BdB (n : Nat) (b : Box) : Prop := (∀ cs, b = .cells cs → bdL n cs) ∧ ∀ v e rows, b = .gcells v e rows → bdR n rows
theorem BdB.mono {n m : Nat} {b : Box} (h : BdB n b) (hm : n ≤ m) : BdB m b := ⟨fun cs e => bdL_mono hm _ (h.1 cs e), fun v e rows q => bdR_mono hm _ (h.2 v e rows q)⟩
/-! ### Contracts -/
/-- Entries of which D is so hold what f says. -/
def ov (D : Nat → Bool) (f g : Nat → Box) : Nat → Box := fun k => match D k with
  | true => f k
  | false => g k
/-- A call of loop l's yield at a round: from any state behind Xb in which the caller's entries are as f says, to one in which they are as g says. -/
def DoesY (P : Program) (Xb : Ctx) (l n0 : Nat) (vs : List V) (D E : Nat → Bool) (f g : Nat → Box) (b : Bool) : Prop :=
  ∀ n X (args : List Value), n0 ≤ n → R n X → Ext Xb X → RowRep X vs args → (∀ k, D k = true → k < n ∧ X.bx k = f k) → (∀ k, k < n0 → D k = false → E k = false → X.bx k = Xb.bx k) →
    ∃ fn tmps assign body, (Instr.yield l args.toArray).run P X.w = .ok (.round l fn tmps assign body) X.w ∧
      RoundIn Fence.wide 0 P l fn tmps assign body X.w fun e w' => e = .returned (.bool b) ∧ ∃ X', X'.w = w' ∧ X'.bx = ov D g X.bx ∧ R n X' ∧ Ext X X'
/-- What an iterator does: it hands over xs, as far as it is asked; its own entries (E) go from e0 to what eF says (behind so many, stopped or not). -/
def DoesI (P : Program) (f : FuncId) (caps : List V) (xs : List (List V)) (E : Nat → Bool) (e0 : Nat → Box) (eF : Nat → Bool → Nat → Box) : Prop :=
  ∀ (Xb : Ctx) (l n0 : Nat) (D : Nat → Bool) (σ : Nat → Nat → Box) (m : Nat) (brk : Bool), m ≤ xs.length → (brk = true → 1 ≤ m) → (brk = false → m = xs.length) → (∀ k, D k = true → E k = false) →
    (∀ i v, i < m → xs[i]? = some v → DoesY P Xb l n0 v D E (σ i) (σ (i + 1)) (!(brk && Nat.beq (i + 1) m))) →
    ∀ n X (args : List Value), n0 ≤ n → R n X → Ext Xb X → RowRep X caps args → (∀ k, D k = true → k < n ∧ X.bx k = σ 0 k) → (∀ k, E k = true → k < n ∧ X.bx k = e0 k) → (∀ k, k < n0 → D k = false → E k = false → X.bx k = Xb.bx k) →
      (∀ k, D k = true → BdB n (σ m k)) → (∀ k, E k = true → BdB n (eF m brk k)) →
      Calls P f (Value.func (.yield l) #[] #[] :: args).toArray X.w fun en w' => en = .returned (.tuple #[]) ∧ ∃ X', X'.w = w' ∧ X'.bx = ov D (σ m) (ov E (eF m brk) X.bx) ∧ R n X' ∧ Ext X X'
theorem DoesI.le {P : Program} {f : FuncId} {caps caps' : List V} {xs : List (List V)} {E : Nat → Bool} {e0 : Nat → Box} {eF : Nat → Bool → Nat → Box} (h : DoesI P f caps' xs E e0 eF) (hl : VLes caps caps') : DoesI P f caps xs E e0 eF :=
  fun Xb l n0 D σ m brk h1 h2 h3 h4 h5 n X args k1 k2 k3 k4 k5 k6 k7 k8 k9 => h Xb l n0 D σ m brk h1 h2 h3 h4 h5 n X args k1 k2 k3 (hl.row k4) k5 k6 k7 k8 k9
end Go.Vm
