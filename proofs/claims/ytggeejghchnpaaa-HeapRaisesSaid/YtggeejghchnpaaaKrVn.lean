/- HeapRaises, of all that a law is handed. -/
import Derived.Test.YtggeejghchnpaaaKrVm
import Derived.Test.YtggeejghchnpaaaKrVmJ
import Derived.Test.YtggeejghchnpaaaKrVmL
namespace Go.Proofs.Ytggeejghchnpaaa.PAll
open Go.Vm Go.ChangeShapes Go.WideShapes Go.ChangeAt Go.RowKit
set_option linter.unusedVariables false
theorem wf_U8 {n : Int} (h : (Lit.int .u8 n).wf = true) : 0 ≤ n ∧ n < 256 := by
  simp [Lit.wf, IntKind.min, IntKind.max, IntKind.signed, IntKind.bits] at h
  omega
theorem len_ok {n : Nat} (h : n ≤ maxLen) : (n : Int) ≤ 9223372036854775807 := by
  simp only [maxLen] at h; omega
theorem v3 : VOp Try.prog 3 1 (fun n : Int => [.sc (.int .i64 n)]) (fun n => (Lit.int .i64 n).wf = true) := vop_int Try.underlying3 (by kernel_rfl)
theorem counterpanelaw26_HeapRaises.walk0 (W : World) (v0 : Value) (xs0 : List Int) (hV0 : VRep (X0 W) (.sl 1 (xs0.map fun n : Int => [V.sc (.int .i64 n)])) v0) (hm0 : xs0.length ≤ maxLen) (hok0 : ∀ x ∈ xs0, (Lit.int .i64 x).wf = true) (a1 : Int) (w1 : (Lit.int .u8 a1).wf = true) (a2 : Bool) :
    Calls Try.prog 4 #[v0, .int .u8 a1, .bool a2] W fun e w' => e = .returned (.bool true) ∧ Below W.heap.size W w' := by
  have hb := wf_U8 w1
  have hr : RowRep (X0 W) [.sl 1 (xs0.map iR), .sc (.int .u8 a1), .sc (.bool a2)] (#[v0, Value.int .u8 a1, Value.bool a2] : Array Value).toList := row_cons hV0 (row_cons (by simp [VRep]) (row_cons (by simp [VRep]) row_nil))
  cases a2 with
  | false => exact (raises_hi xs0 a1 (len_ok hm0) hb).law W _ hr
  | true => exact (raises_lo xs0 a1 (len_ok hm0) hb).law W _ hr
end Go.Proofs.Ytggeejghchnpaaa.PAll
