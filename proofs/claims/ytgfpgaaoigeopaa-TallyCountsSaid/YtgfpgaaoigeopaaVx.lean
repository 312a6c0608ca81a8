/- TallyAdds, of all that a law is handed. -/
import Derived.Test.YtgfpgaaoigeopaaVw
import Derived.Test.YtgfpgaaoigeopaaVh
namespace Go.Proofs.Ytgfpgaaoigeopaa.PAll
open Go.Vm Go.ChangeShapes Go.WideShapes Go.ChangeAt Go.RowKit
structure Rc where
  a : Int
  b : Int
  c : Int
  d : Int
def rcR (r : Rc) : List V := rcB r.a r.b r.c r.d
def okRc (r : Rc) : Prop := U32 r.a ∧ U32 r.b ∧ U32 r.c ∧ U32 r.d
theorem vRc : VOp Try.prog 25 4 rcR okRc :=
  vop_iso (vop_struct Try.underlying25 (by kernel_rfl) (vopF_cons rfl (vop_int Try.underlying23 (by kernel_rfl)) (vopF_cons rfl (vop_int Try.underlying23 (by kernel_rfl)) (vopF_cons rfl (vop_int Try.underlying23 (by kernel_rfl)) (vopF_one rfl (vop_int Try.underlying23 (by kernel_rfl)))))))
    (fun a => ⟨a.1, a.2.1, a.2.2.1, a.2.2.2⟩) (fun _ => rfl) (fun a h => ⟨wf_U32 h.1, wf_U32 h.2.1, wf_U32 h.2.2.1, wf_U32 h.2.2.2⟩) (fun _ => rfl)
theorem counterpanelaw30_TallyAdds.walk0 (W : World) (v0 : Value) (xs0 : List Pt) (hV0 : VRep (X0 W) (.sl 4 (xs0.map ptR)) v0) (hm0 : xs0.length ≤ maxLen) (hok0 : ∀ x ∈ xs0, okPt x) (v1 : Value) (xs1 : List Pt) (hV1 : VRep (X0 W) (.sl 4 (xs1.map ptR)) v1) (hm1 : xs1.length ≤ maxLen) (hok1 : ∀ x ∈ xs1, okPt x)
    (v2 : Value) (x2 : Rc) (hV2 : VRep (X0 W) (.agg (rcR x2)) v2) (hok2 : okRc x2) :
    Calls Try.prog 4 #[v0, v1, v2] W fun e w' => e = .returned (.bool true) ∧ Below W.heap.size W w' := by
  have hr : RowRep (X0 W) [.sl 4 (xs0.map ptR), .sl 4 (xs1.map ptR), .agg (rcB x2.a x2.b x2.c x2.d)] (#[v0, v1, v2] : Array Value).toList := row_cons hV0 (row_cons hV1 (row_cons hV2 row_nil))
  by_cases h : 100 < xs0.length ∨ 100 < xs1.length
  · exact (adds_A xs0 xs1 (len_ok hm0) (len_ok hm1) x2.a x2.b x2.c x2.d h).law W _ hr
  · exact (adds_B xs0 xs1 hok0 hok1 (by omega) (by omega) x2.a x2.b x2.c x2.d hok2.1 hok2.2.1 hok2.2.2.1 hok2.2.2.2).law W _ hr
end Go.Proofs.Ytgfpgaaoigeopaa.PAll
