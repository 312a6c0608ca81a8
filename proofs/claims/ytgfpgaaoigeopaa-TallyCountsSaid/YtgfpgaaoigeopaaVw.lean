/- TallyWhole, of all that a law is handed. -/
import Derived.Test.YtgfpgaaoigeopaaVf
import Derived.Test.YtgfpgaaoigeopaaVmJ
namespace Go.Proofs.Ytgfpgaaoigeopaa.PAll
open Go.Vm Go.ChangeShapes Go.WideShapes Go.ChangeAt Go.RowKit
theorem wf_U32 {n : Int} (h : (Lit.int .u32 n).wf = true) : U32 n := by
  simp [Lit.wf, IntKind.min, IntKind.max, IntKind.signed, IntKind.bits] at h
  unfold U32; omega
theorem wf_U8 {n : Int} (h : (Lit.int .u8 n).wf = true) : 0 ≤ n ∧ n < 256 := by
  simp [Lit.wf, IntKind.min, IntKind.max, IntKind.signed, IntKind.bits] at h
  omega
theorem len_ok {α : Type} {l : List α} (h : l.length ≤ maxLen) : (l.length : Int) ≤ 9223372036854775807 := by
  simp only [maxLen] at h; omega
theorem vPt : VOp Try.prog 32 4 ptR okPt :=
  vop_iso (vop_struct Try.underlying32 (by kernel_rfl) (vopF_cons rfl (vop_int Try.underlying23 (by kernel_rfl)) (vopF_cons rfl (vop_int Try.underlying23 (by kernel_rfl)) (vopF_cons rfl (vop_int Try.underlying30 (by kernel_rfl)) (vopF_one rfl (vop_int Try.underlying30 (by kernel_rfl)))))))
    (fun a => ⟨a.1, a.2.1, a.2.2.1, a.2.2.2⟩) (fun _ => rfl) (fun a h => ⟨wf_U32 h.1, wf_U32 h.2.1⟩) (fun _ => rfl)
theorem counterpanelaw30_TallyWhole.walk0 (W : World) (v0 : Value) (xs0 : List Pt) (hV0 : VRep (X0 W) (.sl 4 (xs0.map ptR)) v0) (hm0 : xs0.length ≤ maxLen) (hok0 : ∀ x ∈ xs0, okPt x) (a1 : Int) (w1 : (Lit.int .u8 a1).wf = true) :
    Calls Try.prog 5 #[v0, .int .u8 a1] W fun e w' => e = .returned (.bool true) ∧ Below W.heap.size W w' := by
  have hr : RowRep (X0 W) [.sl 4 (xs0.map ptR), .sc (.int .u8 a1)] (#[v0, Value.int .u8 a1] : Array Value).toList := row_cons hV0 (row_cons (by simp [VRep]) row_nil)
  by_cases h : 100 < xs0.length
  · exact (whole_A xs0 (len_ok hm0) a1 h).law W _ hr
  · exact (whole_B xs0 hok0 (by omega) a1 (wf_U8 w1)).law W _ hr
end Go.Proofs.Ytgfpgaaoigeopaa.PAll
