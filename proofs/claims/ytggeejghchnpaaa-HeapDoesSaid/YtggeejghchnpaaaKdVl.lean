/- HeapDoes, of all that a law is handed. -/
import Derived.Test.YtggeejghchnpaaaKdVk
import Derived.Test.YtggeejghchnpaaaKdVmJ
import Derived.Test.YtggeejghchnpaaaKdVmL
namespace Go.Proofs.Ytggeejghchnpaaa.PAll
open Go.Vm Go.ChangeShapes Go.WideShapes Go.ChangeAt Go.RowKit
set_option linter.unusedVariables false
theorem len_ok {n : Nat} (h : n ≤ maxLen) : (n : Int) ≤ 9223372036854775807 := by
  simp only [maxLen] at h; omega
theorem v3 : VOp Try.prog 3 1 (fun n : Int => [.sc (.int .i64 n)]) (fun n => (Lit.int .i64 n).wf = true) := vop_int Try.underlying3 (by kernel_rfl)
theorem vOp : VOp Try.prog 30 3 (fun o : HOp => opR o) (fun _ => True) := by
  have h := vop_struct Try.underlying30 (by kernel_rfl) (vopF_cons rfl v3 (vopF_cons rfl v3 (vopF_one rfl v3)))
  exact vop_iso h (fun a => ⟨a.1, a.2.1, a.2.2⟩) (fun _ => rfl) (fun a h => trivial) (fun _ => rfl)
theorem counterpanelaw26_HeapDoes.walk0 (W : World) (v0 : Value) (xs0 : List HOp) (hV0 : VRep (X0 W) (.sl 3 (xs0.map fun o : HOp => opR o)) v0) (hm0 : xs0.length ≤ maxLen) (hok0 : ∀ x ∈ xs0, True) :
    Calls Try.prog 3 #[v0] W fun e w' => e = .returned (.bool true) ∧ Below W.heap.size W w' := by
  have hr : RowRep (X0 W) [.sl 3 (xs0.map opR)] (#[v0] : Array Value).toList := row_cons hV0 row_nil
  exact (does_c xs0 (len_ok hm0)).law W _ hr
end Go.Proofs.Ytggeejghchnpaaa.PAll
