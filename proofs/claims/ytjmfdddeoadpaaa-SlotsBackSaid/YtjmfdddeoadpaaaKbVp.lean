/- SlotsBack, of all that a law is handed. -/
import Derived.Test.YtjmfdddeoadpaaaKbVj
import Derived.Test.YtjmfdddeoadpaaaKbVo
import Derived.Test.YtjmfdddeoadpaaaKbVmJ
import Derived.Test.YtjmfdddeoadpaaaKbVmL
namespace Go.Proofs.Ytjmfdddeoadpaaa.PAll
open Go.Vm Go.ChangeShapes Go.WideShapes Go.ChangeAt Go.RowKit
theorem wf_U8 {n : Int} (h : (Lit.int .u8 n).wf = true) : 0 ≤ n ∧ n < 256 := by
  simp [Lit.wf, IntKind.min, IntKind.max, IntKind.signed, IntKind.bits] at h
  omega
theorem len_ok {n : Nat} (h : n ≤ maxLen) : (n : Int) ≤ 9223372036854775807 := by
  simp only [maxLen] at h; omega
theorem v3 : VOp Try.prog 3 1 (fun n : Int => [.sc (.int .i64 n)]) (fun n => (Lit.int .i64 n).wf = true) := vop_int Try.underlying3 (by kernel_rfl)
theorem v5 : VOp Try.prog 5 1 (fun n : Int => [bV n]) (fun n => (Lit.int .u8 n).wf = true) := vop_int Try.underlying5 (by kernel_rfl)
theorem v32 : VOp Try.prog 32 1 (fun xs : List Int => [.sl 1 (xs.map fun n : Int => [bV n])]) (fun xs => xs.length ≤ maxLen ∧ ∀ x ∈ xs, (Lit.int .u8 x).wf = true) := vop_slice Try.underlying32 (by kernel_rfl) v5 (by omega)
theorem vOp : VOp Try.prog 34 3 (fun o : Op => opC o) (fun o => Byts o.b) := by
  have h := vop_struct Try.underlying34 (by kernel_rfl) (vopF_cons rfl v3 (vopF_cons rfl v3 (vopF_one rfl v32)))
  exact vop_iso h (fun a => ⟨a.1, a.2.1, a.2.2⟩) (fun _ => rfl) (fun a h x hx => wf_U8 (h.2.2.2 x hx)) (fun _ => rfl)
abbrev Pg := { l : List Int // l.length = 224 }
theorem vPg : VOp Try.prog 25 224 (fun p : Pg => p.1.map bV) (fun p => ∀ x ∈ p.1, (Lit.int .u8 x).wf = true) := vop_array Try.underlying25 (by kernel_rfl) v5
def pgF (p : Pg) : Pf := fun k => (p.1.getD k 0).toNat
theorem pgF_b {p : Pg} (h : ∀ x ∈ p.1, (Lit.int .u8 x).wf = true) (k : Nat) : pgF p k < 256 := by
  unfold pgF
  rcases Nat.lt_or_ge k p.1.length with hk | hk
  · rw [List.getD_eq_getElem?_getD, List.getElem?_eq_getElem hk]
    have := wf_U8 (h _ (List.getElem_mem hk))
    show (p.1[k]).toNat < 256; omega
  · rw [List.getD_eq_getElem?_getD, List.getElem?_eq_none hk]; show (0 : Int).toNat < 256; omega
theorem pgF_c {p : Pg} (h : ∀ x ∈ p.1, (Lit.int .u8 x).wf = true) : p.1.map bV = pgC (pgF p) := by
  refine pg_of (by rw [List.length_map]; exact p.2) fun k hk => ?_
  have hk' : k < p.1.length := by rw [p.2]; exact hk
  rw [List.getElem?_map, List.getElem?_eq_getElem hk']
  have := wf_U8 (h _ (List.getElem_mem hk'))
  unfold pgF
  rw [List.getD_eq_getElem?_getD, List.getElem?_eq_getElem hk']
  show some (bV p.1[k]) = some (V.sc (.int .u8 (((p.1[k]).toNat : Nat) : Int)))
  rw [Int.toNat_of_nonneg this.1]; rfl
theorem counterpanelaw27_SlotsBack.walk0 (W : World) (v0 : Value) (x0 : Pg) (hV0 : VRep (X0 W) (.agg (x0.1.map bV)) v0) (hok0 : ∀ x ∈ x0.1, (Lit.int .u8 x).wf = true) (v1 : Value) (xs1 : List Op) (hV1 : VRep (X0 W) (.sl 3 (xs1.map fun o : Op => opC o)) v1) (hm1 : xs1.length ≤ maxLen) (hok1 : ∀ x ∈ xs1, Byts x.b) :
    Calls Try.prog 4 #[v0, v1] W fun e w' => e = .returned (.bool true) ∧ Below W.heap.size W w' := by
  rw [pgF_c hok0] at hV0
  have hr : RowRep (X0 W) [.agg (pgC (pgF x0)), .sl 3 (xs1.map opC)] (#[v0, v1] : Array Value).toList := row_cons hV0 (row_cons hV1 row_nil)
  have hb := pgF_b hok0
  cases hl : ligF xs1 with
  | false => exact (back_l _ hb xs1 (len_ok hm1) hok1 works_c hl).law W _ hr
  | true =>
    cases hs : sndF (pgF x0) with
    | false => exact (back_n _ hb xs1 (len_ok hm1) hok1 works_c hl hs).law W _ hr
    | true => exact (back_y _ hb xs1 (len_ok hm1) hok1 works_c hl hs).law W _ hr
end Go.Proofs.Ytjmfdddeoadpaaa.PAll
