/- TallyCounts, of all that a law is handed. -/
import Derived.Test.YtgfpgaaoigeopaaVx
import Derived.Test.YtgfpgaaoigeopaaVi
namespace Go.Proofs.Ytgfpgaaoigeopaa.PAll
open Go.Vm Go.ChangeShapes Go.WideShapes Go.ChangeAt Go.RowKit
theorem counterpanelaw30_TallyCounts.walk0 (W : World) (v0 : Value) (xs0 : List Pt) (hV0 : VRep (X0 W) (.sl 4 (xs0.map ptR)) v0) (hm0 : xs0.length ≤ maxLen) (hok0 : ∀ x ∈ xs0, okPt x) (a1 : Int) (w1 : (Lit.int .u8 a1).wf = true)
    (v2 : Value) (x2 : Rc) (hV2 : VRep (X0 W) (.agg (rcR x2)) v2) (hok2 : okRc x2) (a3 : Int) (w3 : (Lit.int .i64 a3).wf = true) :
    Calls Try.prog 3 #[v0, .int .u8 a1, v2, .int .i64 a3] W fun e w' => e = .returned (.bool true) ∧ Below W.heap.size W w' := by
  have hr : RowRep (X0 W) [.sl 4 (xs0.map ptR), .sc (.int .u8 a1), .agg (rcB x2.a x2.b x2.c x2.d), .sc (.int .i64 a3)] (#[v0, Value.int .u8 a1, v2, Value.int .i64 a3] : Array Value).toList := row_cons hV0 (row_cons (by simp [VRep]) (row_cons hV2 (row_cons (by simp [VRep]) row_nil)))
  by_cases h : 100 < xs0.length
  · exact (counts_A xs0 (len_ok hm0) a1 x2.a x2.b x2.c x2.d a3 h).law W _ hr
  · exact (counts_B xs0 hok0 (by omega) a1 (wf_U8 w1) x2.a x2.b x2.c x2.d a3 hok2.1 hok2.2.1 hok2.2.2.1 hok2.2.2.2).law W _ hr
end Go.Proofs.Ytgfpgaaoigeopaa.PAll
