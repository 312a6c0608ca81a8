/- EntryPuts, EntryBack and EntryRecs, of all that a law is handed. -/
import Derived.Test.YtgfmjipdegkemaaKrVs
import Derived.Test.YtgfmjipdegkemaaKrVmJ
import Derived.Test.YtgfmjipdegkemaaKrVmL
namespace Go.Proofs.Ytgfmjipdegkemaa.PAll
open Go.Vm Go.Vm.Crc Go.ChangeShapes Go.WideShapes Go.ChangeAt Go.RowKit
theorem wf_U64 {n : Int} (h : (Lit.int .u64 n).wf = true) : U64 n := by
  simp [Lit.wf, IntKind.min, IntKind.max, IntKind.signed, IntKind.bits] at h
  unfold U64; omega
theorem wf_U32 {n : Int} (h : (Lit.int .u32 n).wf = true) : U32 n := by
  simp [Lit.wf, IntKind.min, IntKind.max, IntKind.signed, IntKind.bits] at h
  unfold U32; omega
theorem wf_U8 {n : Int} (h : (Lit.int .u8 n).wf = true) : 0 ≤ n ∧ n < 256 := by
  simp [Lit.wf, IntKind.min, IntKind.max, IntKind.signed, IntKind.bits] at h
  omega
theorem len_ok {n : Nat} (h : n ≤ maxLen) : (n : Int) ≤ 9223372036854775807 := by
  simp only [maxLen] at h; omega
theorem v22 : VOp Try.prog 22 1 (fun n : Int => [.sc (.int .u64 n)]) (fun n => (Lit.int .u64 n).wf = true) := vop_int Try.underlying22 (by kernel_rfl)
theorem v23 : VOp Try.prog 23 1 (fun n : Int => [.sc (.int .u32 n)]) (fun n => (Lit.int .u32 n).wf = true) := vop_int Try.underlying23 (by kernel_rfl)
theorem v5 : VOp Try.prog 5 1 (fun n : Int => [bV n]) (fun n => (Lit.int .u8 n).wf = true) := vop_int Try.underlying5 (by kernel_rfl)
def okR (r : Rc) : Prop := okRc r ∧ r.val.size ≤ maxLen
theorem v9 : VOp Try.prog 9 1 (fun n : ByteArray => [.sc (.string n)]) (fun n => n.size ≤ maxLen) := vop_string Try.underlying9 (by kernel_rfl)
theorem v4 : VOp Try.prog 4 1 (fun n : Bool => [.sc (.bool n)]) (fun _ => True) := vop_bool Try.underlying4 (by kernel_rfl)
theorem vRc : VOp Try.prog 25 6 rcC okR := by
  have h := vop_struct Try.underlying25 (by kernel_rfl) (vopF_cons rfl v22 (vopF_cons rfl v22 (vopF_cons rfl v23 (vopF_cons rfl v23 (vopF_cons rfl v9 (vopF_one rfl v4))))))
  exact vop_iso h (fun a => ⟨a.1, a.2.1, a.2.2.1, a.2.2.2.1, a.2.2.2.2.1, a.2.2.2.2.2⟩) (fun _ => rfl) (fun a h => ⟨⟨wf_U64 h.1, wf_U64 h.2.1, wf_U32 h.2.2.1, wf_U32 h.2.2.2.1⟩, h.2.2.2.2.1⟩) (fun _ => rfl)
theorem bytes_of {l : List Int} (h : ∀ x ∈ l, (Lit.int .u8 x).wf = true) : Byts l := fun x hx => wf_U8 (h x hx)
theorem counterpanelaw08_EntryRecs.walk0 (W : World) (v0 : Value) (r : Rc) (hV0 : VRep (X0 W) (.agg (rcC r)) v0) (hok0 : okR r) (v1 : Value) (b : List Int) (hV1 : VRep (X0 W) (.sl 1 (b.map fun n => [bV n])) v1) (hm1 : b.length ≤ maxLen) (hok1 : ∀ x ∈ b, (Lit.int .u8 x).wf = true) :
    Calls Try.prog 5 #[v0, v1] W fun e w' => e = .returned (.bool true) ∧ Below W.heap.size W w' := by
  have hr : RowRep (X0 W) [.agg (rcC r), .sl 1 (bytesV b)] (#[v0, v1] : Array Value).toList := row_cons hV0 (row_cons hV1 row_nil)
  have hb := bytes_of hok1
  have hlb := len_ok hm1
  have hvl := len_ok hok0.2
  by_cases hl : r.val.size > 15 ∨ b.length > 200
  · exact (erecs_l r hok0.1 hvl b hb hlb hl).law W _ hr
  · have s0 : okS (b, false) := ⟨hb, by show b.length ≤ _; omega⟩
    cases hq : rrOK (b, false) with
    | true =>
      obtain ⟨_, a1, a2, a3, a4⟩ := rec_s s0 hq
      have hg : ∀ kk, Does Try.prog 18 [.ref kk 0] [(kk, .cells (rdB b false))] [(kk, .cells (rdB (q6 (b, false)).1 false))] (.tup [.agg (rcC (rrV (b, false))), .sc (.bool true)]) := fun kk => by
        have := rr_ok kk b false hb (by omega) hq
        rw [a2] at this; exact this
      exact (erecs_0 r hok0.1 hvl b hb hlb (by omega) (by omega) _ a3 a4 _ a1 _ hg).law W _ hr
    | false =>
      exact (erecs_1 r hok0.1 hvl b hb hlb (by omega) (by omega) _ _ (fun kk => rr_no kk b false hb (by omega) hq)).law W _ hr
end Go.Proofs.Ytgfmjipdegkemaa.PAll
