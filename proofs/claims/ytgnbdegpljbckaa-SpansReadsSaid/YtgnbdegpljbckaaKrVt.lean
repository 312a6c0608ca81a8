/- SpansReads, of all that a law is handed. -/
import Derived.Test.YtgnbdegpljbckaaKrVm
import Derived.Test.YtgnbdegpljbckaaKrVs
import Derived.Test.YtgnbdegpljbckaaKrVmJ
import Derived.Test.YtgnbdegpljbckaaKrVmL
set_option linter.unusedVariables false
namespace Go.Proofs.Ytgnbdegpljbckaa.PAll
open Go.Vm Go.ChangeShapes Go.WideShapes Go.ChangeAt Go.RowKit
theorem wf_U8 {n : Int} (h : (Lit.int .u8 n).wf = true) : 0 ≤ n ∧ n ≤ 255 := by
  simp [Lit.wf, IntKind.min, IntKind.max, IntKind.signed, IntKind.bits] at h
  omega
theorem v5 : VOp Try.prog 5 1 (fun n : Int => [.sc (.int .u8 n)]) (fun n => (Lit.int .u8 n).wf = true) := vop_int Try.underlying5 (by kernel_rfl)
theorem vSpB : VOp Try.prog 24 2 (fun y : Sp => spB y) (fun y => inM 255 y) := by
  have h := vop_struct Try.underlying24 (by kernel_rfl) (vopF_cons rfl v5 (vopF_one rfl v5))
  exact vop_iso h (fun a => ⟨a.1, a.2⟩) (fun _ => rfl) (fun a h => ⟨wf_U8 h.1, wf_U8 h.2⟩) (fun _ => rfl)
theorem counterpanelaw29_SpansReads.walk0 (W : World) (v0 : Value) (xs0 : List Sp) (hV0 : VRep (X0 W) (.sl 2 (xs0.map fun o : Sp => spB o)) v0) (hm0 : xs0.length ≤ maxLen) (hok0 : ∀ x ∈ xs0, inM 255 x) (a1 : Int) (w1 : (Lit.int .u8 a1).wf = true) :
    Calls Try.prog 4 #[v0, .int .u8 a1] W fun e w' => e = .returned (.bool true) ∧ Below W.heap.size W w' := by
  obtain ⟨n, rfl⟩ : ∃ n : Nat, a1 = (n : Int) := ⟨a1.toNat, by have := wf_U8 w1; omega⟩
  have hr : RowRep (X0 W) [.sl 2 (xs0.map spB), .sc (.int .u8 (n : Int))] (#[v0, Value.int .u8 (n : Int)] : Array Value).toList := row_cons hV0 (row_cons (by simp [VRep]) row_nil)
  have hn : n < 256 := by have := wf_U8 w1; omega
  cases hq : nxB (ofL xs0) (n : Int) with
  | true => exact (reads_y xs0 n hok0 hn hq works_c).law W _ hr
  | false => exact (reads_n xs0 n hok0 hn hq works_c).law W _ hr
end Go.Proofs.Ytgnbdegpljbckaa.PAll
