/- RegionBoxes, of all that a law is handed. -/
import Derived.Test.YtmlhekadnplpcaaKbVn
import Derived.Test.YtmlhekadnplpcaaKbVv
import Derived.Test.YtmlhekadnplpcaaKbVw
import Derived.Test.YtmlhekadnplpcaaKbVmJ
namespace Go.Proofs.Ytmlhekadnplpcaa.PAll
open Go.Vm Go.ChangeShapes Go.WideShapes Go.ChangeAt Go.RowKit
theorem v3 : VOp Try.prog 3 1 (fun n : Int => [.sc (.int .i64 n)]) (fun n => (Lit.int .i64 n).wf = true) := vop_int Try.underlying3 (by kernel_rfl)
structure Bx where
  a : Int
  b : Int
  c : Int
  d : Int
def bxR (r : Bx) : List V := bxB r.a r.b r.c r.d
theorem vBx : VOp Try.prog 23 4 bxR (fun _ => True) := by
  have h := vop_struct Try.underlying23 (by kernel_rfl) (vopF_cons rfl v3 (vopF_cons rfl v3 (vopF_cons rfl v3 (vopF_one rfl v3))))
  exact vop_iso h (fun a => ⟨a.1, a.2.1, a.2.2.1, a.2.2.2⟩) (fun _ => rfl) (fun a h => trivial) (fun _ => rfl)
theorem counterpanelaw16_RegionBoxes.walk0 (W : World) (v0 : Value) (x0 : Bx) (hV0 : VRep (X0 W) (.agg (bxR x0)) v0) (hok0 : True) (v1 : Value) (x1 : Bx) (hV1 : VRep (X0 W) (.agg (bxR x1)) v1) (hok1 : True) (a2 : Int) (w2 : (Lit.int .i64 a2).wf = true) (a3 : Int) (w3 : (Lit.int .i64 a3).wf = true) :
    Calls Try.prog 3 #[v0, v1, .int .i64 a2, .int .i64 a3] W fun e w' => e = .returned (.bool true) ∧ Below W.heap.size W w' := by
  have hr : RowRep (X0 W) [.agg (bxB x0.a x0.b x0.c x0.d), .agg (bxB x1.a x1.b x1.c x1.d), .sc (.int .i64 a2), .sc (.int .i64 a3)] (#[v0, v1, Value.int .i64 a2, Value.int .i64 a3] : Array Value).toList := row_cons hV0 (row_cons hV1 (row_cons (by simp [VRep]) (row_cons (by simp [VRep]) row_nil)))
  cases ka : riF x0.a x0.b x0.c x0.d with
  | false => exact (rb_a x0.a x0.b x0.c x0.d x1.a x1.b x1.c x1.d a2 a3 works_c ka).law W _ hr
  | true =>
    cases kb : riF x1.a x1.b x1.c x1.d with
    | false =>
      cases k3 : h3F x0.a x0.b x0.c x0.d with
      | false => exact (rb_b0 x0.a x0.b x0.c x0.d x1.a x1.b x1.c x1.d a2 a3 works_c ka kb k3).law W _ hr
      | true => exact (rb_b1 x0.a x0.b x0.c x0.d x1.a x1.b x1.c x1.d a2 a3 works_c ka kb k3).law W _ hr
    | true =>
      cases kj : joF x0.a x0.b x0.c x0.d x1.a x1.b x1.c x1.d with
      | false =>
        cases k3 : h3F x0.a x0.b x0.c x0.d with
        | false => exact (rb_c00 x0.a x0.b x0.c x0.d x1.a x1.b x1.c x1.d a2 a3 works_c ka kb kj k3).law W _ hr
        | true => exact (rb_c01 x0.a x0.b x0.c x0.d x1.a x1.b x1.c x1.d a2 a3 works_c ka kb kj k3).law W _ hr
      | true =>
        cases k3 : h3F x0.a x0.b x0.c x0.d with
        | false => exact (rb_c10 x0.a x0.b x0.c x0.d x1.a x1.b x1.c x1.d a2 a3 works_c ka kb kj k3).law W _ hr
        | true => exact (rb_c11 x0.a x0.b x0.c x0.d x1.a x1.b x1.c x1.d a2 a3 works_c ka kb kj k3).law W _ hr
end Go.Proofs.Ytmlhekadnplpcaa.PAll
