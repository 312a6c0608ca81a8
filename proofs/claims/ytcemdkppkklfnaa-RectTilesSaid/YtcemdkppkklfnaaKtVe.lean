/- RectTiles, of all that a law is handed. -/
import Derived.Test.YtcemdkppkklfnaaKtVd
import Derived.Test.YtcemdkppkklfnaaKtVmJ
namespace Go.Proofs.Ytcemdkppkklfnaa.PAll
open Go.Vm Go.ChangeShapes Go.WideShapes Go.ChangeAt Go.RowKit
theorem wf_U32 {n : Int} (h : (Lit.int .u32 n).wf = true) : 0 ≤ n ∧ n ≤ 4294967295 := by
  simp [Lit.wf, IntKind.min, IntKind.max, IntKind.signed, IntKind.bits] at h
  omega
theorem v22 : VOp Try.prog 22 1 (fun n : Int => [.sc (.int .u32 n)]) (fun n => (Lit.int .u32 n).wf = true) := vop_int Try.underlying22 (by kernel_rfl)
structure Rc where
  a : Int
  b : Int
  c : Int
  d : Int
def rcR (r : Rc) : List V := rcC r.a r.b r.c r.d
def okRc (r : Rc) : Prop := (0 ≤ r.a ∧ r.a ≤ 4294967295) ∧ (0 ≤ r.b ∧ r.b ≤ 4294967295) ∧ (0 ≤ r.c ∧ r.c ≤ 4294967295) ∧ (0 ≤ r.d ∧ r.d ≤ 4294967295)
theorem vRc : VOp Try.prog 24 4 rcR okRc := by
  have h := vop_struct Try.underlying24 (by kernel_rfl) (vopF_cons rfl v22 (vopF_cons rfl v22 (vopF_cons rfl v22 (vopF_one rfl v22))))
  exact vop_iso h (fun a => ⟨a.1, a.2.1, a.2.2.1, a.2.2.2⟩) (fun _ => rfl) (fun a h => ⟨wf_U32 h.1, wf_U32 h.2.1, wf_U32 h.2.2.1, wf_U32 h.2.2.2⟩) (fun _ => rfl)
theorem counterpanelaw04_RectTiles.walk0 (W : World) (v0 : Value) (x0 : Rc) (hV0 : VRep (X0 W) (.agg (rcR x0)) v0) (hok0 : okRc x0) (a1 : Int) (w1 : (Lit.int .u32 a1).wf = true) (a2 : Int) (w2 : (Lit.int .u32 a2).wf = true) (a3 : Int) (w3 : (Lit.int .i64 a3).wf = true) :
    Calls Try.prog 5 #[v0, .int .u32 a1, .int .u32 a2, .int .i64 a3] W fun e w' => e = .returned (.bool true) ∧ Below W.heap.size W w' := by
  have hr : RowRep (X0 W) [.agg (rcC x0.a x0.b x0.c x0.d), .sc (.int .u32 a1), .sc (.int .u32 a2), .sc (.int .i64 a3)] (#[v0, Value.int .u32 a1, Value.int .u32 a2, Value.int .i64 a3] : Array Value).toList := row_cons hV0 (row_cons (by simp [VRep]) (row_cons (by simp [VRep]) (row_cons (by simp [VRep]) row_nil)))
  exact (tiles_c hok0.1 hok0.2.1 hok0.2.2.1 hok0.2.2.2 (wf_U32 w1) (wf_U32 w2) works_c).law W _ hr
end Go.Proofs.Ytcemdkppkklfnaa.PAll
