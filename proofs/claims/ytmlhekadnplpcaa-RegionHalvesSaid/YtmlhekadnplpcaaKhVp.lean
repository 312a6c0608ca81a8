/- RegionHalves, of all that a law is handed. -/
import Derived.Test.YtmlhekadnplpcaaKhVn
import Derived.Test.YtmlhekadnplpcaaKhVq
import Derived.Test.YtmlhekadnplpcaaKhVr
import Derived.Test.YtmlhekadnplpcaaKhVmJ
namespace Go.Proofs.Ytmlhekadnplpcaa.PAll
open Go.Vm Go.ChangeShapes Go.WideShapes Go.ChangeAt Go.RowKit
theorem v3 : VOp Try.prog 3 1 (fun n : Int => [.sc (.int .i64 n)]) (fun n => (Lit.int .i64 n).wf = true) := vop_int Try.underlying3 (by kernel_rfl)
theorem v4 : VOp Try.prog 4 1 (fun n : Bool => [.sc (.bool n)]) (fun _ => True) := vop_bool Try.underlying4 (by kernel_rfl)
structure Bx where
  a : Int
  b : Int
  c : Int
  d : Int
def bxR (r : Bx) : List V := bxB r.a r.b r.c r.d
theorem vBx : VOp Try.prog 23 4 bxR (fun _ => True) := by
  have h := vop_struct Try.underlying23 (by kernel_rfl) (vopF_cons rfl v3 (vopF_cons rfl v3 (vopF_cons rfl v3 (vopF_one rfl v3))))
  exact vop_iso h (fun a => ⟨a.1, a.2.1, a.2.2.1, a.2.2.2⟩) (fun _ => rfl) (fun a h => trivial) (fun _ => rfl)
theorem counterpanelaw16_RegionHalves.walk0 (W : World) (v0 : Value) (x0 : Bx) (hV0 : VRep (X0 W) (.agg (bxR x0)) v0) (hok0 : True) (a1 : Int) (w1 : (Lit.int .i64 a1).wf = true) (a2 : Int) (w2 : (Lit.int .i64 a2).wf = true)
    (v3 : Value) (xs3 : List Bool) (hV3 : VRep (X0 W) (.sl 1 (xs3.map fun n : Bool => [V.sc (.bool n)])) v3) (hm3 : xs3.length ≤ maxLen) (hok3 : ∀ x ∈ xs3, True) :
    Calls Try.prog 7 #[v0, .int .i64 a1, .int .i64 a2, v3] W fun e w' => e = .returned (.bool true) ∧ Below W.heap.size W w' := by
  have hr : RowRep (X0 W) [.agg (bxB x0.a x0.b x0.c x0.d), .sc (.int .i64 a1), .sc (.int .i64 a2), .sl 1 (xs3.map trR)] (#[v0, Value.int .i64 a1, Value.int .i64 a2, v3] : Array Value).toList := row_cons hV0 (row_cons (by simp [VRep]) (row_cons (by simp [VRep]) (row_cons hV3 row_nil)))
  cases h1 : h3F x0.a x0.b x0.c x0.d with
  | false => exact (rhl_0 x0.a x0.b x0.c x0.d a1 a2 xs3 works_c h1).law W _ hr
  | true =>
    cases h2 : haF x0.a x0.b (hU x0.a x0.b x0.c x0.d) (hV x0.a x0.b x0.c x0.d) a1 a2 with
    | true => exact (rhl_1 x0.a x0.b x0.c x0.d a1 a2 xs3 works_c h1 h2).law W _ hr
    | false =>
      cases h3 : haF (hX x0.a x0.b x0.c x0.d) (hY x0.a x0.b x0.c x0.d) x0.c x0.d a1 a2 with
      | true => exact (rhl_2 x0.a x0.b x0.c x0.d a1 a2 xs3 works_c h1 h2 h3).law W _ hr
      | false => exact (rhl_3 x0.a x0.b x0.c x0.d a1 a2 xs3 works_c h1 h2 h3).law W _ hr
end Go.Proofs.Ytmlhekadnplpcaa.PAll
