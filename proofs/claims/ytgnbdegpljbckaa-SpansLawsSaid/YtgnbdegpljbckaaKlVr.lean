/- SpansLaws, of all that a law is handed. -/
import Derived.Test.YtgnbdegpljbckaaKlVm
import Derived.Test.YtgnbdegpljbckaaKlVo
import Derived.Test.YtgnbdegpljbckaaKlVmJ
import Derived.Test.YtgnbdegpljbckaaKlVmL
set_option linter.unusedVariables false
namespace Go.Proofs.Ytgnbdegpljbckaa.PAll
open Go.Vm Go.ChangeShapes Go.WideShapes Go.ChangeAt Go.RowKit
theorem wf_U64 {n : Int} (h : (Lit.int .u64 n).wf = true) : 0 ≤ n ∧ n ≤ 18446744073709551615 := by
  simp [Lit.wf, IntKind.min, IntKind.max, IntKind.signed, IntKind.bits] at h
  omega
theorem v50 : VOp Try.prog 50 1 (fun n : Int => [.sc (.int .u64 n)]) (fun n => (Lit.int .u64 n).wf = true) := vop_int Try.underlying50 (by kernel_rfl)
theorem vSpQ : VOp Try.prog 58 2 (fun y : Sp => spQ y) (fun y => inM 18446744073709551615 y) := by
  have h := vop_struct Try.underlying58 (by kernel_rfl) (vopF_cons rfl v50 (vopF_one rfl v50))
  exact vop_iso h (fun a => ⟨a.1, a.2⟩) (fun _ => rfl) (fun a h => ⟨wf_U64 h.1, wf_U64 h.2⟩) (fun _ => rfl)
theorem counterpanelaw29_SpansLaws.walk0 (W : World) (v0 : Value) (xs0 : List Sp) (hV0 : VRep (X0 W) (.sl 2 (xs0.map fun o : Sp => spQ o)) v0) (hm0 : xs0.length ≤ maxLen) (hok0 : ∀ x ∈ xs0, inM 18446744073709551615 x) (v1 : Value) (xs1 : List Sp) (hV1 : VRep (X0 W) (.sl 2 (xs1.map fun o : Sp => spQ o)) v1) (hm1 : xs1.length ≤ maxLen) (hok1 : ∀ x ∈ xs1, inM 18446744073709551615 x) (a2 : Int) (w2 : (Lit.int .u64 a2).wf = true) :
    Calls Try.prog 5 #[v0, v1, .int .u64 a2] W fun e w' => e = .returned (.bool true) ∧ Below W.heap.size W w' := by
  have hr : RowRep (X0 W) [.sl 2 (xs0.map spQ), .sl 2 (xs1.map spQ), .sc (.int .u64 a2)] (#[v0, v1, Value.int .u64 a2] : Array Value).toList := row_cons hV0 (row_cons hV1 (row_cons (by simp [VRep]) row_nil))
  exact (laws_c xs0 xs1 a2 hok0 hok1 (wf_U64 w2) works_c).law W _ hr
end Go.Proofs.Ytgnbdegpljbckaa.PAll
