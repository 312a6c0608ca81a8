/- SpansMakes, of all that a law is handed. -/
import Derived.Test.YtgnbdegpljbckaaKmVm
import Derived.Test.YtgnbdegpljbckaaKmVn
import Derived.Test.YtgnbdegpljbckaaKmVmJ
import Derived.Test.YtgnbdegpljbckaaKmVmL
set_option linter.unusedVariables false
namespace Go.Proofs.Ytgnbdegpljbckaa.PAll
open Go.Vm Go.ChangeShapes Go.WideShapes Go.ChangeAt Go.RowKit
theorem wf_U8 {n : Int} (h : (Lit.int .u8 n).wf = true) : 0 ≤ n ∧ n ≤ 255 := by
  simp [Lit.wf, IntKind.min, IntKind.max, IntKind.signed, IntKind.bits] at h
  omega
theorem v5 : VOp Try.prog 5 1 (fun n : Int => [.sc (.int .u8 n)]) (fun n => (Lit.int .u8 n).wf = true) := vop_int Try.underlying5 (by kernel_rfl)
theorem vSpB : VOp Try.prog 24 2 (fun y : Sp => spB y) (fun y => inM 255 y) := by
  have h := vop_struct Try.underlying24 (by kernel_rfl) (vopF_cons rfl v5 (vopF_one rfl v5))
  exact vop_iso h (fun a => ⟨a.1, a.2⟩) (fun _ => rfl) (fun a h => ⟨wf_U8 h.1, wf_U8 h.2⟩) (fun _ => rfl)
theorem counterpanelaw29_SpansMakes.walk0 (W : World) (v0 : Value) (xs0 : List Sp) (hV0 : VRep (X0 W) (.sl 2 (xs0.map fun o : Sp => spB o)) v0) (hm0 : xs0.length ≤ maxLen) (hok0 : ∀ x ∈ xs0, inM 255 x) (v1 : Value) (xs1 : List Sp) (hV1 : VRep (X0 W) (.sl 2 (xs1.map fun o : Sp => spB o)) v1) (hm1 : xs1.length ≤ maxLen) (hok1 : ∀ x ∈ xs1, inM 255 x) (v2 : Value) (x2 : Sp) (hV2 : VRep (X0 W) (.agg (spB x2)) v2) (hok2 : inM 255 x2) :
    Calls Try.prog 3 #[v0, v1, v2] W fun e w' => e = .returned (.bool true) ∧ Below W.heap.size W w' := by
  have hr : RowRep (X0 W) [.sl 2 (xs0.map spB), .sl 2 (xs1.map spB), .agg (spB x2)] (#[v0, v1, v2] : Array Value).toList := row_cons hV0 (row_cons hV1 (row_cons hV2 row_nil))
  exact (makes_c xs0 xs1 x2 hok0 hok1 hok2 works_c).law W _ hr
end Go.Proofs.Ytgnbdegpljbckaa.PAll
