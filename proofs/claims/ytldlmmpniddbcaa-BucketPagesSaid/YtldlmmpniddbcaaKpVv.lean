/- BucketPages, of all that a law is handed. -/
import Derived.Test.YtldlmmpniddbcaaKpVl
import Derived.Test.YtldlmmpniddbcaaKpVr
import Derived.Test.YtldlmmpniddbcaaKpVmJ
import Derived.Test.YtldlmmpniddbcaaKpVmL
namespace Go.Proofs.Ytldlmmpniddbcaa.PAll
open Go.Vm Go.ChangeShapes Go.WideShapes Go.ChangeAt Go.RowKit
theorem wf_U64 {n : Int} (h : (Lit.int .u64 n).wf = true) : U64 n := by
  simp [Lit.wf, IntKind.min, IntKind.max, IntKind.signed, IntKind.bits] at h
  unfold U64; omega
theorem wf_U32 {n : Int} (h : (Lit.int .u32 n).wf = true) : U32 n := by
  simp [Lit.wf, IntKind.min, IntKind.max, IntKind.signed, IntKind.bits] at h
  unfold U32; omega
theorem wf_U8 {n : Int} (h : (Lit.int .u8 n).wf = true) : 0 ≤ n ∧ n < 256 := by
  simp [Lit.wf, IntKind.min, IntKind.max, IntKind.signed, IntKind.bits] at h
  omega
theorem len_ok {n : Nat} (h : n ≤ maxLen) : (n : Int) ≤ 9223372036854775807 := by
  simp only [maxLen] at h; omega
theorem v3 : VOp Try.prog 3 1 (fun n : Int => [.sc (.int .i64 n)]) (fun n => (Lit.int .i64 n).wf = true) := vop_int Try.underlying3 (by kernel_rfl)
theorem v23 : VOp Try.prog 23 1 (fun n : Int => [.sc (.int .u64 n)]) (fun n => (Lit.int .u64 n).wf = true) := vop_int Try.underlying23 (by kernel_rfl)
theorem v50 : VOp Try.prog 50 1 (fun n : Int => [.sc (.int .u32 n)]) (fun n => (Lit.int .u32 n).wf = true) := vop_int Try.underlying50 (by kernel_rfl)
theorem v9 : VOp Try.prog 9 1 (fun n : ByteArray => [.sc (.string n)]) (fun n => n.size ≤ maxLen) := vop_string Try.underlying9 (by kernel_rfl)
theorem v4 : VOp Try.prog 4 1 (fun n : Bool => [.sc (.bool n)]) (fun _ => True) := vop_bool Try.underlying4 (by kernel_rfl)
theorem vRc : VOp Try.prog 52 6 rcC okRc := by
  have h := vop_struct Try.underlying52 (by kernel_rfl) (vopF_cons rfl v23 (vopF_cons rfl v23 (vopF_cons rfl v50 (vopF_cons rfl v50 (vopF_cons rfl v9 (vopF_one rfl v4))))))
  exact vop_iso h (fun a => ⟨a.1, a.2.1, a.2.2.1, a.2.2.2.1, a.2.2.2.2.1, a.2.2.2.2.2⟩) (fun _ => rfl) (fun a h => ⟨wf_U64 h.1, wf_U64 h.2.1, wf_U32 h.2.2.1, wf_U32 h.2.2.2.1⟩) (fun _ => rfl)
theorem vOp : VOp Try.prog 59 7 (fun o : Op => opC o) (fun o => okRc o.r) := by
  have h := vop_struct Try.underlying59 (by kernel_rfl) (vopF_cons rfl v3 (vopF_one rfl vRc))
  exact vop_iso h (fun a => ⟨a.1, a.2⟩) (fun _ => rfl) (fun a h => h.2) (fun _ => rfl)
theorem np_of (a : Int) (h : 0 ≤ a ∧ a < 256) : ∃ np : Nat, (np : Int) = 1 + a % 4 := ⟨(1 + a % 4).toNat, by omega⟩
theorem counterpanelaw13_BucketPages.walk0 (W : World) (a0 : Int) (w0 : (Lit.int .u8 a0).wf = true) (a1 : Int) (w1 : (Lit.int .u8 a1).wf = true) (v2 : Value) (xs2 : List Op) (hV2 : VRep (X0 W) (.sl 7 (xs2.map fun o : Op => opC o)) v2) (hm2 : xs2.length ≤ maxLen) (hok2 : ∀ x ∈ xs2, okRc x.r) :
    Calls Try.prog 4 #[.int .u8 a0, .int .u8 a1, v2] W fun e w' => e = .returned (.bool true) ∧ Below W.heap.size W w' := by
  have hr : RowRep (X0 W) [.sc (.int .u8 a0), .sc (.int .u8 a1), .sl 7 (xs2.map opC)] (#[Value.int .u8 a0, Value.int .u8 a1, v2] : Array Value).toList := row_cons (by simp [VRep]) (row_cons (by simp [VRep]) (row_cons hV2 row_nil))
  obtain ⟨np, hnp⟩ := np_of a1 (wf_U8 w1)
  cases hl : ligF xs2 with
  | false => exact (pages_l a0 a1 np (wf_U8 w0) (wf_U8 w1) hnp xs2 (len_ok hm2) hok2 works_c hl).law W _ hr
  | true => exact (pages_c a0 a1 np (wf_U8 w0) (wf_U8 w1) hnp xs2 (len_ok hm2) hok2 works_c hl).law W _ hr
end Go.Proofs.Ytldlmmpniddbcaa.PAll
