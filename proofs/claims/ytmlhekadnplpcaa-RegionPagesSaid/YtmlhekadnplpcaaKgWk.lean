/- RegionPages, of all that a law is handed. -/
import Derived.Test.YtmlhekadnplpcaaKgVn
import Derived.Test.YtmlhekadnplpcaaKgWj
import Derived.Test.YtmlhekadnplpcaaKgVmJ
namespace Go.Proofs.Ytmlhekadnplpcaa.PAll
open Go.Vm Go.ChangeShapes Go.WideShapes Go.ChangeAt Go.RowKit
theorem wf_U8 {n : Int} (h : (Lit.int .u8 n).wf = true) : 0 ≤ n ∧ n < 256 := by
  simp [Lit.wf, IntKind.min, IntKind.max, IntKind.signed, IntKind.bits] at h
  omega
theorem wf_U32 {n : Int} (h : (Lit.int .u32 n).wf = true) : U32 n := by
  simp [Lit.wf, IntKind.min, IntKind.max, IntKind.signed, IntKind.bits] at h
  unfold U32; omega
theorem wf_U64 {n : Int} (h : (Lit.int .u64 n).wf = true) : U64 n := by
  simp [Lit.wf, IntKind.min, IntKind.max, IntKind.signed, IntKind.bits] at h
  unfold U64; omega
theorem v3 : VOp Try.prog 3 1 (fun n : Int => [.sc (.int .i64 n)]) (fun n => (Lit.int .i64 n).wf = true) := vop_int Try.underlying3 (by kernel_rfl)
theorem v47 : VOp Try.prog 47 1 (fun n : Int => [.sc (.int .u32 n)]) (fun n => (Lit.int .u32 n).wf = true) := vop_int Try.underlying47 (by kernel_rfl)
theorem v48 : VOp Try.prog 48 1 (fun n : Int => [.sc (.int .u64 n)]) (fun n => (Lit.int .u64 n).wf = true) := vop_int Try.underlying48 (by kernel_rfl)
structure Bx where
  a : Int
  b : Int
  c : Int
  d : Int
theorem vBx : VOp Try.prog 23 4 (fun p : Bx => bxB p.a p.b p.c p.d) (fun _ => True) := by
  have h := vop_struct Try.underlying23 (by kernel_rfl) (vopF_cons rfl v3 (vopF_cons rfl v3 (vopF_cons rfl v3 (vopF_one rfl v3))))
  exact vop_iso h (fun a => ⟨a.1, a.2.1, a.2.2.1, a.2.2.2⟩) (fun _ => rfl) (fun a h => trivial) (fun _ => rfl)
theorem vPt : VOp Try.prog 50 4 (fun p : Pt => ptC p) okPt := by
  have h := vop_struct Try.underlying50 (by kernel_rfl) (vopF_cons rfl v47 (vopF_cons rfl v47 (vopF_cons rfl v48 (vopF_one rfl v48))))
  exact vop_iso h (fun a => ⟨a.1, a.2.1, a.2.2.1, a.2.2.2⟩) (fun _ => rfl) (fun a h => ⟨wf_U32 h.1, wf_U32 h.2.1, wf_U64 h.2.2.1, wf_U64 h.2.2.2⟩) (fun _ => rfl)
theorem counterpanelaw16_RegionPages.walk0 (W : World) (v0 : Value) (x0 : Bx) (hV0 : VRep (X0 W) (.agg (bxB x0.a x0.b x0.c x0.d)) v0) (hok0 : True) (a1 : Int) (w1 : (Lit.int .u8 a1).wf = true)
    (v2 : Value) (xs2 : List Pt) (hV2 : VRep (X0 W) (.sl 4 (xs2.map fun p : Pt => ptC p)) v2) (hm2 : xs2.length ≤ maxLen) (hok2 : ∀ x ∈ xs2, okPt x) :
    Calls Try.prog 5 #[v0, .int .u8 a1, v2] W fun e w' => e = .returned (.bool true) ∧ Below W.heap.size W w' := by
  have hr : RowRep (X0 W) [.agg (bxB x0.a x0.b x0.c x0.d), .sc (.int .u8 a1), .sl 4 (xs2.map ptC)] (#[v0, Value.int .u8 a1, v2] : Array Value).toList := row_cons hV0 (row_cons (by simp [VRep]) (row_cons hV2 row_nil))
  have hw := wf_U8 w1
  obtain ⟨np, hnp⟩ : ∃ np : Nat, (np : Int) = 1 + a1 % 4 := ⟨(1 + a1 % 4).toNat, by omega⟩
  cases hR : riF x0.a x0.b x0.c x0.d with
  | false => exact (rpg_n _ _ _ _ a1 np hw hnp xs2 hok2 works_c hR).law W _ hr
  | true =>
    by_cases h : 100 < xs2.length
    · exact (rpg_l _ _ _ _ a1 np hw hnp xs2 hok2 works_c hR h).law W _ hr
    · exact (rpg_c _ _ _ _ a1 np hw hnp xs2 hok2 works_c hR (by omega)).law W _ hr
end Go.Proofs.Ytmlhekadnplpcaa.PAll
