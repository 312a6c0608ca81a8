/- A logic of values over the model. Part U: the call of yield; the loop over an iterator. -/
import Derived.Test.YtldlmmpniddbcaaKpVmS
set_option linter.unusedVariables false
set_option linter.unusedSimpArgs false
namespace Go.Vm
theorem St.put2 {B : Bas} {N : Nat} {s : S} {X X' : Ctx} {a : Act} {v : V} {u : Value} {bx' : Nat → Box} {n' : Nat} {dst : Option Tmp} (hs : St B N s X a) (hd : okDst N dst = true) (hR : R n' X') (hb : X'.bx = bx') (he : Ext X X') (hv : VRep X' v u) :
    St B N ⟨putS s.t dst v, n', bx'⟩ X' (a.put dst u) := by
  refine ⟨hR, hb, fun i => ?_, ?_, ?_, hs.ext.trans he⟩
  · cases dst with
    | none => exact VRep.mono he _ _ (hs.t i)
    | some d =>
      have hd' : d < a.tmps.size := by rw [hs.N]; exact Nat.blt_eq ▸ (by simpa [okDst] using hd)
      simp only [putS, Act.put]
      by_cases hi : i = d
      · subst hi
        rw [upd_eq]
        simpa [hd'] using hv
      · rw [upd_ne _ _ _ _ hi]
        have := VRep.mono he _ _ (hs.t i)
        simpa [Array.getElem?_setIfInBounds_ne (Ne.symm hi)] using this
  · cases dst <;> simp [Act.put, hs.N]
  · exact hs.defers.mono he (put_defers _ _ _)
theorem wanted_of {N : Nat} {ops : Array Oper} {l : List (Nat × V)} {o : Oper} {B : Bas} {n : Nat} {bx : Nat → Box} {X : Ctx} {a : Act} (hG : GuardOK N ops l o) (hst : St B N ⟨mk l, n, bx⟩ X a) : Region.wanted o (yielded ops a.tmps) = true := by
  rcases hG with hg | ⟨j, w, g, d, b, h1, h2, h3, h4, h5, h6⟩
  · simp [Region.wanted, hg]
  · have hv := hst.t d
    simp only at hv
    rw [lk_mk h4] at hv
    simp only [VRep] at hv
    have hdN' : d < a.tmps.size := by rw [hst.N]; exact Nat.blt_eq ▸ (by simpa using h5)
    have hy : yielded ops a.tmps j = some b := by
      have e1 : a.tmps[d]? = some (.bool b) := by
        rw [Array.getElem?_eq_getElem hdN']
        have : a.tmps.getD d undef = a.tmps[d] := by simp [hdN']
        rw [← this, hv]
      simp [yielded, h2, h3, e1]
    simp only [Region.wanted, h1, hy]
    cases b <;> cases w <;> simp_all
section
variable {P : Program} {B : Bas} {N n : Nat} {l : List (Nat × V)} {bx : Nat → Box} {Q : Exit → S → Prop} {g : Operand} {ps : Array Tmp} {assign body : Code} {f : FuncId} {caps : List V} {xs : List (List V)} {E : Nat → Bool} {e0 : Nat → Box} {eF : Nat → Bool → Nat → Box} {fnn : Func} {Dc : Nat → Bool} {σ : Nat → Nat → Box} {m : Nat} {brk : Bool} {ex : Exit} {gv : V} {kl : Nat}
end
end Go.Vm
