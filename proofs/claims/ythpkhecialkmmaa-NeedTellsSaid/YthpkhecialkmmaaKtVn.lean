/- NeedTells, of all that a law is handed. -/
import Derived.Test.YthpkhecialkmmaaKtVl
import Derived.Test.YthpkhecialkmmaaKtVmJ
import Derived.Test.YthpkhecialkmmaaKtVmL
namespace Go.Proofs.Ythpkhecialkmmaa.PAll
open Go.Vm Go.ChangeShapes Go.WideShapes Go.ChangeAt Go.RowKit
set_option linter.unusedVariables false
theorem wf_K {n : Int} (h : (Lit.int .u64 n).wf = true) : 0 ≤ n := by
  simp [Lit.wf, IntKind.min, IntKind.max, IntKind.signed, IntKind.bits] at h
  omega
theorem wf_U4 {n : Int} (h : (Lit.int .u32 n).wf = true) : U4 n := by
  simp [Lit.wf, IntKind.min, IntKind.max, IntKind.signed, IntKind.bits] at h
  unfold U4; omega
theorem wf_U8 {n : Int} (h : (Lit.int .u8 n).wf = true) : 0 ≤ n ∧ n < 256 := by
  simp [Lit.wf, IntKind.min, IntKind.max, IntKind.signed, IntKind.bits] at h
  omega
theorem v3 : VOp Try.prog 3 1 (fun n : Int => [.sc (.int .i64 n)]) (fun n => (Lit.int .i64 n).wf = true) := vop_int Try.underlying3 (by kernel_rfl)
theorem v22 : VOp Try.prog 22 1 (fun n : Int => [.sc (.int .u64 n)]) (fun n => (Lit.int .u64 n).wf = true) := vop_int Try.underlying22 (by kernel_rfl)
theorem v23 : VOp Try.prog 23 1 (fun n : Int => [.sc (.int .u32 n)]) (fun n => (Lit.int .u32 n).wf = true) := vop_int Try.underlying23 (by kernel_rfl)
theorem v5 : VOp Try.prog 5 1 (fun n : Int => [.sc (.int .u8 n)]) (fun n => (Lit.int .u8 n).wf = true) := vop_int Try.underlying5 (by kernel_rfl)
theorem v9 : VOp Try.prog 9 1 (fun n : ByteArray => [.sc (.string n)]) (fun n => n.size ≤ maxLen) := vop_string Try.underlying9 (by kernel_rfl)
theorem v4 : VOp Try.prog 4 1 (fun n : Bool => [.sc (.bool n)]) (fun _ => True) := vop_bool Try.underlying4 (by kernel_rfl)
def okRK (r : Rc1) : Prop := OkR r ∧ 0 ≤ r.key
def okOK (o : Op1) : Prop := OkO o ∧ 0 ≤ o.key
theorem vRec : VOp Try.prog 29 6 (fun r : Rc1 => rcdC r) okRK := by
  have h := vop_struct Try.underlying29 (by kernel_rfl) (vopF_cons rfl v22 (vopF_cons rfl v22 (vopF_cons rfl v23 (vopF_cons rfl v23 (vopF_cons rfl v9 (vopF_one rfl v4))))))
  exact vop_iso h (fun a => ⟨a.1, a.2.1, a.2.2.1, a.2.2.2.1, a.2.2.2.2.1, a.2.2.2.2.2⟩) (fun _ => rfl) (fun a h => ⟨⟨wf_U4 h.2.2.1, wf_U4 h.2.2.2.1⟩, wf_K h.2.1⟩) (fun _ => rfl)
theorem vRect : VOp Try.prog 25 4 (fun a : Int × Int × Int × Int => [.sc (.int .u32 a.1)] ++ ([.sc (.int .u32 a.2.1)] ++ ([.sc (.int .u32 a.2.2.1)] ++ [.sc (.int .u32 a.2.2.2)]))) (fun a => (Lit.int .u32 a.1).wf = true ∧ (Lit.int .u32 a.2.1).wf = true ∧ (Lit.int .u32 a.2.2.1).wf = true ∧ (Lit.int .u32 a.2.2.2).wf = true) := by
  have h := vop_struct Try.underlying25 (by kernel_rfl) (vopF_cons rfl v23 (vopF_cons rfl v23 (vopF_cons rfl v23 (vopF_one rfl v23))))
  exact h
theorem vOp : VOp Try.prog 27 10 (fun o : Op1 => opC o) okOK := by
  have h := vop_struct Try.underlying27 (by kernel_rfl) (vopF_cons rfl v3 (vopF_cons rfl v22 (vopF_cons rfl v23 (vopF_cons rfl v23 (vopF_cons rfl v9 (vopF_cons rfl vRect (vopF_one rfl v3)))))))
  exact vop_iso h (fun a => ⟨a.1, a.2.1, a.2.2.1, a.2.2.2.1, a.2.2.2.2.1, a.2.2.2.2.2.1.1, a.2.2.2.2.2.1.2.1, a.2.2.2.2.2.1.2.2.1, a.2.2.2.2.2.1.2.2.2, a.2.2.2.2.2.2⟩) (fun _ => rfl)
    (fun a h => ⟨⟨wf_U4 h.2.2.1, wf_U4 h.2.2.2.1, wf_U4 h.2.2.2.2.2.1.1, wf_U4 h.2.2.2.2.2.1.2.1, wf_U4 h.2.2.2.2.2.1.2.2.1, wf_U4 h.2.2.2.2.2.1.2.2.2⟩, wf_K h.2.1⟩) (fun _ => rfl)
theorem counterpanelaw20_NeedTells.walk0 (W : World) (v0 : Value) (x0 : Op1) (hV0 : VRep (X0 W) (.agg (opC x0)) v0) (hok0 : okOK x0) (v1 : Value) (x1 : Rc1) (hV1 : VRep (X0 W) (.agg (rcdC x1)) v1) (hok1 : okRK x1) (a2 : Bool) (v3_ : Value) (xs3 : List Int) (hV3 : VRep (X0 W) (.sl 1 (xs3.map fun n : Int => [.sc (.int .u8 n)])) v3_) (hm3 : xs3.length ≤ maxLen) (hok3 : ∀ x ∈ xs3, (Lit.int .u8 x).wf = true) :
    Calls Try.prog 3 #[v0, v1, .bool a2, v3_] W fun e w' => e = .returned (.bool true) ∧ Below W.heap.size W w' := by
  have hr : RowRep (X0 W) [.agg (opC x0), .agg (rcdC x1), .sc (.bool a2), .sl 1 (bytesV xs3)] (#[v0, v1, Value.bool a2, v3_] : Array Value).toList := row_cons hV0 (row_cons hV1 (row_cons (by simp [VRep]) (row_cons hV3 row_nil)))
  exact (tells_c x0 x1 a2 xs3 hok0.1 hok1.1 hok0.2 (fun x hx => wf_U8 (hok3 x hx))).law W _ hr
end Go.Proofs.Ythpkhecialkmmaa.PAll

