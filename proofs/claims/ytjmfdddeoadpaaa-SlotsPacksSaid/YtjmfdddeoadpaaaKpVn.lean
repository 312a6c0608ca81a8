/- SlotsPacks, of all that a law is handed. -/
import Derived.Test.YtjmfdddeoadpaaaKpVj
import Derived.Test.YtjmfdddeoadpaaaKpVm
import Derived.Test.YtjmfdddeoadpaaaKpVmJ
import Derived.Test.YtjmfdddeoadpaaaKpVmL
namespace Go.Proofs.Ytjmfdddeoadpaaa.PAll
open Go.Vm Go.ChangeShapes Go.WideShapes Go.ChangeAt Go.RowKit
theorem wf_U8 {n : Int} (h : (Lit.int .u8 n).wf = true) : 0 ≤ n ∧ n < 256 := by
  simp [Lit.wf, IntKind.min, IntKind.max, IntKind.signed, IntKind.bits] at h
  omega
theorem len_ok {n : Nat} (h : n ≤ maxLen) : (n : Int) ≤ 9223372036854775807 := by
  simp only [maxLen] at h; omega
theorem v3 : VOp Try.prog 3 1 (fun n : Int => [.sc (.int .i64 n)]) (fun n => (Lit.int .i64 n).wf = true) := vop_int Try.underlying3 (by kernel_rfl)
theorem v5 : VOp Try.prog 5 1 (fun n : Int => [bV n]) (fun n => (Lit.int .u8 n).wf = true) := vop_int Try.underlying5 (by kernel_rfl)
theorem v32 : VOp Try.prog 32 1 (fun xs : List Int => [.sl 1 (xs.map fun n : Int => [bV n])]) (fun xs => xs.length ≤ maxLen ∧ ∀ x ∈ xs, (Lit.int .u8 x).wf = true) := vop_slice Try.underlying32 (by kernel_rfl) v5 (by omega)
theorem vOp : VOp Try.prog 34 3 (fun o : Op => opC o) (fun o => Byts o.b) := by
  have h := vop_struct Try.underlying34 (by kernel_rfl) (vopF_cons rfl v3 (vopF_cons rfl v3 (vopF_one rfl v32)))
  exact vop_iso h (fun a => ⟨a.1, a.2.1, a.2.2⟩) (fun _ => rfl) (fun a h x hx => wf_U8 (h.2.2.2 x hx)) (fun _ => rfl)
theorem counterpanelaw27_SlotsPacks.walk0 (W : World) (v0 : Value) (xs0 : List Op) (hV0 : VRep (X0 W) (.sl 3 (xs0.map fun o : Op => opC o)) v0) (hm0 : xs0.length ≤ maxLen) (hok0 : ∀ x ∈ xs0, Byts x.b) :
    Calls Try.prog 5 #[v0] W fun e w' => e = .returned (.bool true) ∧ Below W.heap.size W w' := by
  have hr : RowRep (X0 W) [.sl 3 (xs0.map opC)] (#[v0] : Array Value).toList := row_cons hV0 row_nil
  cases hl : ligF xs0 with
  | false => exact (packs_l xs0 (len_ok hm0) hok0 works_c hl).law W _ hr
  | true => exact (packs_c xs0 (len_ok hm0) hok0 works_c hl).law W _ hr
end Go.Proofs.Ytjmfdddeoadpaaa.PAll
