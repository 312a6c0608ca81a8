/- RegionDoes, of all that a law is handed. -/
import Derived.Test.YtmlhekadnplpcaaKdVn
import Derived.Test.YtmlhekadnplpcaaKdWf
import Derived.Test.YtmlhekadnplpcaaKdVmJ
namespace Go.Proofs.Ytmlhekadnplpcaa.PAll
open Go.Vm Go.ChangeShapes Go.WideShapes Go.ChangeAt Go.RowKit
theorem wf_U8 {n : Int} (h : (Lit.int .u8 n).wf = true) : 0 ≤ n ∧ n < 256 := by
  simp [Lit.wf, IntKind.min, IntKind.max, IntKind.signed, IntKind.bits] at h
  omega
theorem v4 : VOp Try.prog 4 1 (fun n : Bool => [.sc (.bool n)]) (fun _ => True) := vop_bool Try.underlying4 (by kernel_rfl)
theorem v47 : VOp Try.prog 47 1 (fun n : Int => [.sc (.int .u32 n)]) (fun n => (Lit.int .u32 n).wf = true) := vop_int Try.underlying47 (by kernel_rfl)
theorem v48 : VOp Try.prog 48 1 (fun n : Int => [.sc (.int .u64 n)]) (fun n => (Lit.int .u64 n).wf = true) := vop_int Try.underlying48 (by kernel_rfl)
theorem vPt : VOp Try.prog 50 4 (fun p : Pt => ptC p) (fun _ => True) := by
  have h := vop_struct Try.underlying50 (by kernel_rfl) (vopF_cons rfl v47 (vopF_cons rfl v47 (vopF_cons rfl v48 (vopF_one rfl v48))))
  exact vop_iso h (fun a => ⟨a.1, a.2.1, a.2.2.1, a.2.2.2⟩) (fun _ => rfl) (fun a h => trivial) (fun _ => rfl)
theorem counterpanelaw16_RegionDoes.walk0 (W : World) (a0 : Int) (w0 : (Lit.int .u8 a0).wf = true) (v1 : Value) (xs1 : List Pt) (hV1 : VRep (X0 W) (.sl 4 (xs1.map fun p : Pt => ptC p)) v1) (hm1 : xs1.length ≤ maxLen) (hok1 : ∀ x ∈ xs1, True)
    (v2 : Value) (xs2 : List Bool) (hV2 : VRep (X0 W) (.sl 1 (xs2.map fun n : Bool => [V.sc (.bool n)])) v2) (hm2 : xs2.length ≤ maxLen) (hok2 : ∀ x ∈ xs2, True) :
    Calls Try.prog 4 #[.int .u8 a0, v1, v2] W fun e w' => e = .returned (.bool true) ∧ Below W.heap.size W w' := by
  have hr : RowRep (X0 W) [.sc (.int .u8 a0), .sl 4 (xs1.map ptC), .sl 1 (xs2.map trS)] (#[Value.int .u8 a0, v1, v2] : Array Value).toList := row_cons (by simp [VRep]) (row_cons hV1 (row_cons hV2 row_nil))
  have hw := wf_U8 w0
  obtain ⟨np, hnp⟩ : ∃ np : Nat, (np : Int) = 1 + a0 % 4 := ⟨(1 + a0 % 4).toNat, by omega⟩
  by_cases h : 80 < xs1.length
  · exact (does_l a0 np hw hnp xs1 xs2 works_c h).law W _ hr
  · exact (does_c a0 np hw hnp xs1 xs2 works_c (by omega)).law W _ hr
end Go.Proofs.Ytmlhekadnplpcaa.PAll
