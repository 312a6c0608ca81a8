/- BucketOne, of all that a law is handed. -/
import Derived.Test.YtldlmmpniddbcaaKoVl
import Derived.Test.YtldlmmpniddbcaaKoVq
import Derived.Test.YtldlmmpniddbcaaKoVmJ
import Derived.Test.YtldlmmpniddbcaaKoVmL
namespace Go.Proofs.Ytldlmmpniddbcaa.PAll
open Go.Vm Go.ChangeShapes Go.WideShapes Go.ChangeAt Go.RowKit
theorem wf_U8 {n : Int} (h : (Lit.int .u8 n).wf = true) : 0 ≤ n ∧ n < 256 := by
  simp [Lit.wf, IntKind.min, IntKind.max, IntKind.signed, IntKind.bits] at h
  omega
theorem v5 : VOp Try.prog 5 1 (fun n : Int => [bV n]) (fun n => (Lit.int .u8 n).wf = true) := vop_int Try.underlying5 (by kernel_rfl)
abbrev Pg := { l : List Int // l.length = 224 }
theorem vPg : VOp Try.prog 39 224 (fun p : Pg => p.1.map bV) (fun p => ∀ x ∈ p.1, (Lit.int .u8 x).wf = true) := vop_array Try.underlying39 (by kernel_rfl) v5
theorem counterpanelaw13_BucketOne.walk0 (W : World) (v0 : Value) (x0 : Pg) (hV0 : VRep (X0 W) (.agg (x0.1.map bV)) v0) (hok0 : ∀ x ∈ x0.1, (Lit.int .u8 x).wf = true) :
    Calls Try.prog 5 #[v0] W fun e w' => e = .returned (.bool true) ∧ Below W.heap.size W w' := by
  have hr : RowRep (X0 W) [.agg (x0.1.map bV)] (#[v0] : Array Value).toList := row_cons hV0 row_nil
  have hb : Byts x0.1 := fun x hx => wf_U8 (hok0 x hx)
  cases hG : getG (fun _ => x0.1) (fun w_ => decide (w_ = 3)) 9 3 0 [] [] with
  | none => exact (one_n x0.1 hb x0.2 works_c hG).law W _ hr
  | some q =>
    obtain ⟨D, G, P⟩ := q
    obtain ⟨rfl, rfl, rfl, ho, hn⟩ := one_some hG
    exact (one_y x0.1 hb x0.2 works_c hG ho hn).law W _ hr
end Go.Proofs.Ytldlmmpniddbcaa.PAll
