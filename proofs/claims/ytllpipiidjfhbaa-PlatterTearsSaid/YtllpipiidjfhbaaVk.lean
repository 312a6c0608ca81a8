/- PlatterDoes, of all that a law is handed. -/
import Derived.Test.YtllpipiidjfhbaaVj
import Derived.Test.YtllpipiidjfhbaaVmJ
namespace Go.Proofs.Ytllpipiidjfhbaa.PAll
open Go.Vm Go.ChangeShapes Go.WideShapes Go.ChangeAt Go.RowKit
def okW (o : POp) : Prop := I64 o.a ∧ I64 o.n
theorem wf_I64 {n : Int} (h : (Lit.int .i64 n).wf = true) : I64 n := by
  simp [Lit.wf, IntKind.min, IntKind.max, IntKind.signed, IntKind.bits] at h
  unfold I64; omega
theorem vOp : VOp Try.prog 40 5 opV okW :=
  vop_iso (vop_struct Try.underlying40 (by kernel_rfl) (vopF_cons rfl (vop_int Try.underlying3 (by kernel_rfl)) (vopF_cons rfl (vop_int Try.underlying3 (by kernel_rfl)) (vopF_cons rfl (vop_int Try.underlying3 (by kernel_rfl))
    (vopF_cons rfl (vop_slice Try.underlying38 (by kernel_rfl) (vop_int Try.underlying5 (by kernel_rfl)) (by omega)) (vopF_one rfl (vop_slice Try.underlying30 (by kernel_rfl) (vop_bool Try.underlying4 (by kernel_rfl)) (by omega))))))))
    (fun a => ⟨a.1, a.2.1, a.2.2.1, a.2.2.2.1, a.2.2.2.2⟩) (fun _ => rfl) (fun a h => ⟨wf_I64 h.2.1, wf_I64 h.2.2.1⟩) (fun _ => rfl)
theorem len_ok {α : Type} {l : List α} (h : l.length ≤ maxLen) : (l.length : Int) ≤ 9223372036854775807 := by
  simp only [maxLen] at h; omega
theorem counterpanelaw05_PlatterDoes.walk0 (W : World) (a0 : Int) (w0 : (Lit.int .i64 a0).wf = true) (v1 : Value) (xs1 : List POp) (hV1 : VRep (X0 W) (.sl 5 (xs1.map opV)) v1) (hm1 : xs1.length ≤ maxLen) (hok1 : ∀ x ∈ xs1, okW x) (a2 : Int) (w2 : (Lit.int .i64 a2).wf = true) :
    Calls Try.prog 3 #[.int .i64 a0, v1, .int .i64 a2] W fun e w' => e = .returned (.bool true) ∧ Below W.heap.size W w' := by
  have hl := len_ok hm1
  have h0 := wf_I64 w0
  have hr : RowRep (X0 W) [.sc (.int .i64 a0), .sl 5 (opsV xs1), .sc (.int .i64 a2)] (#[Value.int .i64 a0, v1, .int .i64 a2] : Array Value).toList := row_cons (by simp [VRep]) (row_cons hV1 (row_cons (by simp [VRep]) row_nil))
  cases hq : lightB xs1 with
  | false => exact (doesA a0 xs1 a2 hl hq).law W _ hr
  | true =>
    by_cases h1 : 40 < a0
    · exact (doesB a0 xs1 a2 hl hq h1).law W _ hr
    · by_cases h2 : a0 < 1
      · exact (doesC a0 xs1 a2 hl hq h2).law W _ hr
      · obtain ⟨m, rfl⟩ : ∃ m : Nat, a0 = m := ⟨a0.toNat, by omega⟩
        refine (doesD m xs1 a2 hl hq (by omega) (by omega) (fun o ho => ?_)).law W _ hr
        have h3 := (of_decide_eq_true hq).2 o ho
        exact ⟨(hok1 o ho).1, (hok1 o ho).2, h3.1, h3.2⟩
end Go.Proofs.Ytllpipiidjfhbaa.PAll
