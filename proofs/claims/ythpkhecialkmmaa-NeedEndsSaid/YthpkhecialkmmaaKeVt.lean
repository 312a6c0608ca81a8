/- NeedEnds, of all that a law is handed. -/
import Derived.Test.YthpkhecialkmmaaKeVx
import Derived.Test.YthpkhecialkmmaaKeVmJ
import Derived.Test.YthpkhecialkmmaaKeVmL
namespace Go.Proofs.Ythpkhecialkmmaa.PAll
open Go.Vm Go.ChangeShapes Go.WideShapes Go.ChangeAt Go.RowKit
set_option linter.unusedVariables false
theorem wf_K {n : Int} (h : (Lit.int .u64 n).wf = true) : 0 ≤ n := by
  simp [Lit.wf, IntKind.min, IntKind.max, IntKind.signed, IntKind.bits] at h
  omega
theorem wf_U4 {n : Int} (h : (Lit.int .u32 n).wf = true) : U4 n := by
  simp [Lit.wf, IntKind.min, IntKind.max, IntKind.signed, IntKind.bits] at h
  unfold U4; omega
theorem v3 : VOp Try.prog 3 1 (fun n : Int => [.sc (.int .i64 n)]) (fun n => (Lit.int .i64 n).wf = true) := vop_int Try.underlying3 (by kernel_rfl)
theorem v22 : VOp Try.prog 22 1 (fun n : Int => [.sc (.int .u64 n)]) (fun n => (Lit.int .u64 n).wf = true) := vop_int Try.underlying22 (by kernel_rfl)
theorem v23 : VOp Try.prog 23 1 (fun n : Int => [.sc (.int .u32 n)]) (fun n => (Lit.int .u32 n).wf = true) := vop_int Try.underlying23 (by kernel_rfl)
theorem v9 : VOp Try.prog 9 1 (fun n : ByteArray => [.sc (.string n)]) (fun n => n.size ≤ maxLen) := vop_string Try.underlying9 (by kernel_rfl)
theorem v4 : VOp Try.prog 4 1 (fun n : Bool => [.sc (.bool n)]) (fun _ => True) := vop_bool Try.underlying4 (by kernel_rfl)
def okRK (r : Rc1) : Prop := OkR r ∧ 0 ≤ r.key
def okOK (o : Op1) : Prop := OkO o ∧ 0 ≤ o.key
theorem vRec : VOp Try.prog 29 6 (fun r : Rc1 => rcdC r) okRK := by
  have h := vop_struct Try.underlying29 (by kernel_rfl) (vopF_cons rfl v22 (vopF_cons rfl v22 (vopF_cons rfl v23 (vopF_cons rfl v23 (vopF_cons rfl v9 (vopF_one rfl v4))))))
  exact vop_iso h (fun a => ⟨a.1, a.2.1, a.2.2.1, a.2.2.2.1, a.2.2.2.2.1, a.2.2.2.2.2⟩) (fun _ => rfl) (fun a h => ⟨⟨wf_U4 h.2.2.1, wf_U4 h.2.2.2.1⟩, wf_K h.2.1⟩) (fun _ => rfl)
theorem vRect : VOp Try.prog 25 4 (fun a : Int × Int × Int × Int => [.sc (.int .u32 a.1)] ++ ([.sc (.int .u32 a.2.1)] ++ ([.sc (.int .u32 a.2.2.1)] ++ [.sc (.int .u32 a.2.2.2)]))) (fun a => (Lit.int .u32 a.1).wf = true ∧ (Lit.int .u32 a.2.1).wf = true ∧ (Lit.int .u32 a.2.2.1).wf = true ∧ (Lit.int .u32 a.2.2.2).wf = true) := by
  have h := vop_struct Try.underlying25 (by kernel_rfl) (vopF_cons rfl v23 (vopF_cons rfl v23 (vopF_cons rfl v23 (vopF_one rfl v23))))
  exact h
theorem vOp : VOp Try.prog 27 10 (fun o : Op1 => opC o) okOK := by
  have h := vop_struct Try.underlying27 (by kernel_rfl) (vopF_cons rfl v3 (vopF_cons rfl v22 (vopF_cons rfl v23 (vopF_cons rfl v23 (vopF_cons rfl v9 (vopF_cons rfl vRect (vopF_one rfl v3)))))))
  exact vop_iso h (fun a => ⟨a.1, a.2.1, a.2.2.1, a.2.2.2.1, a.2.2.2.2.1, a.2.2.2.2.2.1.1, a.2.2.2.2.2.1.2.1, a.2.2.2.2.2.1.2.2.1, a.2.2.2.2.2.1.2.2.2, a.2.2.2.2.2.2⟩) (fun _ => rfl)
    (fun a h => ⟨⟨wf_U4 h.2.2.1, wf_U4 h.2.2.2.1, wf_U4 h.2.2.2.2.2.1.1, wf_U4 h.2.2.2.2.2.1.2.1, wf_U4 h.2.2.2.2.2.1.2.2.1, wf_U4 h.2.2.2.2.2.1.2.2.2⟩, wf_K h.2.1⟩) (fun _ => rfl)
theorem counterpanelaw20_NeedEnds.walk0 (W : World) (v0 : Value) (x0 : Op1) (hV0 : VRep (X0 W) (.agg (opC x0)) v0) (hok0 : okOK x0) (v1 : Value) (x1 : Rc1) (hV1 : VRep (X0 W) (.agg (rcdC x1)) v1) (hok1 : okRK x1) (a2 : Bool) :
    Calls Try.prog 5 #[v0, v1, .bool a2] W fun e w' => e = .returned (.bool true) ∧ Below W.heap.size W w' := by
  have hr : RowRep (X0 W) [.agg (opC x0), .agg (rcdC x1), .sc (.bool a2)] (#[v0, v1, Value.bool a2] : Array Value).toList := row_cons hV0 (row_cons hV1 (row_cons (by simp [VRep]) row_nil))
  exact (ends_l x0 x1 a2 hok0.1 hok1.1 hok0.2).law W _ hr
end Go.Proofs.Ythpkhecialkmmaa.PAll

