/- PlatterTears, of all that a law is handed. -/
import Derived.Test.YtllpipiidjfhbaaVk
import Derived.Test.YtllpipiidjfhbaaVl
namespace Go.Proofs.Ytllpipiidjfhbaa.PAll
open Go.Vm Go.ChangeShapes Go.WideShapes Go.ChangeAt Go.RowKit
theorem vByte : VOp Try.prog 5 1 (fun x => [bV x]) (fun n => (Lit.int .u8 n).wf = true) := vop_int Try.underlying5 (by kernel_rfl)
theorem vBool : VOp Try.prog 4 1 (fun b => [.sc (.bool b)]) (fun _ => True) := vop_bool Try.underlying4 (by kernel_rfl)
theorem counterpanelaw05_PlatterTears.walk0 (W : World) (v0 : Value) (xs0 : List POp) (hV0 : VRep (X0 W) (.sl 5 (xs0.map opV)) v0) (hm0 : xs0.length ≤ maxLen) (hok0 : ∀ x ∈ xs0, okW x) (a1 : Int) (w1 : (Lit.int .i64 a1).wf = true)
    (v2 : Value) (xs2 : List Int) (hV2 : VRep (X0 W) (.sl 1 (xs2.map fun x => [bV x])) v2) (hm2 : xs2.length ≤ maxLen) (hok2 : ∀ x ∈ xs2, (Lit.int .u8 x).wf = true) (v3 : Value) (xs3 : List Bool) (hV3 : VRep (X0 W) (.sl 1 (xs3.map fun b => [.sc (.bool b)])) v3) (hm3 : xs3.length ≤ maxLen) (hok3 : ∀ x ∈ xs3, True)
    (v4 : Value) (xs4 : List POp) (hV4 : VRep (X0 W) (.sl 5 (xs4.map opV)) v4) (hm4 : xs4.length ≤ maxLen) (hok4 : ∀ x ∈ xs4, okW x) :
    Calls Try.prog 4 #[v0, .int .i64 a1, v2, v3, v4] W fun e w' => e = .returned (.bool true) ∧ Below W.heap.size W w' := by
  have hl0 := len_ok hm0
  have hl4 := len_ok hm4
  have h1 := wf_I64 w1
  have hr : RowRep (X0 W) [.sl 5 (opsV xs0), .sc (.int .i64 a1), .sl 1 (bytesV xs2), .sl 1 (boolsV xs3), .sl 5 (opsV xs4)] (#[v0, Value.int .i64 a1, v2, v3, v4] : Array Value).toList := row_cons hV0 (row_cons (by simp [VRep]) (row_cons hV2 (row_cons hV3 (row_cons hV4 row_nil))))
  by_cases hv : lightB xs0 = false ∨ lightB xs4 = false ∨ 40 < xs2.length ∨ 60 < xs3.length
  · exact (tearsA xs0 xs4 a1 xs2 xs3 hl0 hl4 hv).law W _ hr
  · have q0 : lightB xs0 = true := by cases h : lightB xs0 <;> simp_all
    have q4 : lightB xs4 = true := by cases h : lightB xs4 <;> simp_all
    have hO0 : ∀ o ∈ xs0, okO o := fun o ho => ⟨(hok0 o ho).1, (hok0 o ho).2, ((of_decide_eq_true q0).2 o ho).1, ((of_decide_eq_true q0).2 o ho).2⟩
    have hO4 : ∀ o ∈ xs4, okO o := fun o ho => ⟨(hok4 o ho).1, (hok4 o ho).2, ((of_decide_eq_true q4).2 o ho).1, ((of_decide_eq_true q4).2 o ho).2⟩
    have hb : xs2.length ≤ 40 := Nat.not_lt.1 fun h => hv (.inr (.inr (.inl h)))
    have hk : xs3.length ≤ 60 := Nat.not_lt.1 fun h => hv (.inr (.inr (.inr h)))
    cases hin : insideB 12 a1 xs2.length with
    | false => exact (tearsB xs0 xs4 a1 xs2 xs3 hl0 hl4 q0 q4 hb hk h1 hO0 hO4 hin).law W _ hr
    | true => exact (tearsC xs0 xs4 a1 xs2 xs3 hl0 hl4 q0 q4 hb hk h1 hO0 hO4 hin).law W _ hr
end Go.Proofs.Ytllpipiidjfhbaa.PAll
