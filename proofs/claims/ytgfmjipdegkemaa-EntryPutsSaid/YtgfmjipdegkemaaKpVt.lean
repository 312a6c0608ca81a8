/- EntryPuts, EntryBack and EntryRecs, of all that a law is handed. -/
import Derived.Test.YtgfmjipdegkemaaKpVs
import Derived.Test.YtgfmjipdegkemaaKpVmJ
import Derived.Test.YtgfmjipdegkemaaKpVmL
namespace Go.Proofs.Ytgfmjipdegkemaa.PAll
open Go.Vm Go.Vm.Crc Go.ChangeShapes Go.WideShapes Go.ChangeAt Go.RowKit
theorem wf_U64 {n : Int} (h : (Lit.int .u64 n).wf = true) : U64 n := by
  simp [Lit.wf, IntKind.min, IntKind.max, IntKind.signed, IntKind.bits] at h
  unfold U64; omega
theorem wf_U32 {n : Int} (h : (Lit.int .u32 n).wf = true) : U32 n := by
  simp [Lit.wf, IntKind.min, IntKind.max, IntKind.signed, IntKind.bits] at h
  unfold U32; omega
theorem wf_U8 {n : Int} (h : (Lit.int .u8 n).wf = true) : 0 ≤ n ∧ n < 256 := by
  simp [Lit.wf, IntKind.min, IntKind.max, IntKind.signed, IntKind.bits] at h
  omega
theorem len_ok {n : Nat} (h : n ≤ maxLen) : (n : Int) ≤ 9223372036854775807 := by
  simp only [maxLen] at h; omega
theorem v3 : VOp Try.prog 3 1 (fun n : Int => [.sc (.int .i64 n)]) (fun n => (Lit.int .i64 n).wf = true) := vop_int Try.underlying3 (by kernel_rfl)
theorem v22 : VOp Try.prog 22 1 (fun n : Int => [.sc (.int .u64 n)]) (fun n => (Lit.int .u64 n).wf = true) := vop_int Try.underlying22 (by kernel_rfl)
theorem v23 : VOp Try.prog 23 1 (fun n : Int => [.sc (.int .u32 n)]) (fun n => (Lit.int .u32 n).wf = true) := vop_int Try.underlying23 (by kernel_rfl)
theorem v5 : VOp Try.prog 5 1 (fun n : Int => [bV n]) (fun n => (Lit.int .u8 n).wf = true) := vop_int Try.underlying5 (by kernel_rfl)
def okR (r : Rc) : Prop := okRc r ∧ r.val.size ≤ maxLen
theorem v9 : VOp Try.prog 9 1 (fun n : ByteArray => [.sc (.string n)]) (fun n => n.size ≤ maxLen) := vop_string Try.underlying9 (by kernel_rfl)
theorem v4 : VOp Try.prog 4 1 (fun n : Bool => [.sc (.bool n)]) (fun _ => True) := vop_bool Try.underlying4 (by kernel_rfl)
theorem vRc : VOp Try.prog 25 6 rcC okR := by
  have h := vop_struct Try.underlying25 (by kernel_rfl) (vopF_cons rfl v22 (vopF_cons rfl v22 (vopF_cons rfl v23 (vopF_cons rfl v23 (vopF_cons rfl v9 (vopF_one rfl v4))))))
  exact vop_iso h (fun a => ⟨a.1, a.2.1, a.2.2.1, a.2.2.2.1, a.2.2.2.2.1, a.2.2.2.2.2⟩) (fun _ => rfl) (fun a h => ⟨⟨wf_U64 h.1, wf_U64 h.2.1, wf_U32 h.2.2.1, wf_U32 h.2.2.2.1⟩, h.2.2.2.2.1⟩) (fun _ => rfl)
abbrev Pg := { l : List Int // l.length = 224 }
theorem vPg : VOp Try.prog 49 224 (fun p : Pg => p.1.map bV) (fun p => ∀ x ∈ p.1, (Lit.int .u8 x).wf = true) := vop_array Try.underlying49 (by kernel_rfl) v5
def toIm (a : Int × Pg) : Im := ⟨a.1, a.2.1⟩
theorem vIm : VOp Try.prog 51 225 (fun a : Int × Pg => [.sc (.int .i64 a.1)] ++ a.2.1.map bV) (fun a => (Lit.int .i64 a.1).wf = true ∧ ∀ x ∈ a.2.1, (Lit.int .u8 x).wf = true) := by
  have h := vop_struct Try.underlying51 (by kernel_rfl) (vopF_cons rfl v3 (vopF_one rfl vPg))
  exact h
def okE (e : En) : Prop := okEn e ∧ e.pages.length ≤ maxLen ∧ e.act.length ≤ maxLen
theorem v26 : VOp Try.prog 26 1 (fun xs : List (Int × Pg) => [.sl 225 (xs.map fun a : Int × Pg => [.sc (.int .i64 a.1)] ++ a.2.1.map bV)]) (fun xs => xs.length ≤ maxLen ∧ ∀ x ∈ xs, (Lit.int .i64 x.1).wf = true ∧ ∀ y ∈ x.2.1, (Lit.int .u8 y).wf = true) := vop_slice Try.underlying26 (by kernel_rfl) vIm (by omega)
theorem v27 : VOp Try.prog 27 1 (fun xs : List Int => [.sl 1 (xs.map fun n : Int => [.sc (.int .u64 n)])]) (fun xs => xs.length ≤ maxLen ∧ ∀ x ∈ xs, (Lit.int .u64 x).wf = true) := vop_slice Try.underlying27 (by kernel_rfl) v22 (by omega)
theorem vEn : VOp Try.prog 29 13 enC okE := by
  have h := vop_struct Try.underlying29 (by kernel_rfl) (vopF_cons rfl v22 (vopF_cons rfl v3 (vopF_cons rfl v22 (vopF_cons rfl v22 (vopF_cons rfl v22 (vopF_cons rfl vRc (vopF_cons rfl v26 (vopF_one rfl v27))))))))
  exact vop_iso h (fun a => ⟨a.1, a.2.1, a.2.2.1, a.2.2.2.1, a.2.2.2.2.1, a.2.2.2.2.2.1, a.2.2.2.2.2.2.1.map toIm, a.2.2.2.2.2.2.2⟩)
    (fun a => by show enC _ = _; unfold enC; rw [List.map_map]; rfl)
    (fun a h => by
      obtain ⟨h1, h2, h3, h4, h5, h6, h7, h8⟩ := h
      refine ⟨⟨wf_U64 h1, wf_U64 h3, wf_U64 h4, wf_U64 h5, h6.1, fun m hm => ?_, fun x hx => wf_U64 (h8.2 x hx)⟩, ?_, h8.1⟩
      · obtain ⟨p, hp, rfl⟩ := List.mem_map.1 hm
        exact ⟨p.2.2, fun x hx => wf_U8 ((h7.2 p hp).2 x hx)⟩
      · show (List.map toIm _).length ≤ maxLen
        rw [List.length_map]; exact h7.1)
    (fun _ => rfl)
theorem counterpanelaw08_EntryPuts.walk0 (W : World) (v0 : Value) (e : En) (hV0 : VRep (X0 W) (.agg (enC e)) v0) (hok0 : okE e) (v1 : Value) (f : En) (hV1 : VRep (X0 W) (.agg (enC f)) v1) (hok1 : okE f) :
    Calls Try.prog 3 #[v0, v1] W fun e w' => e = .returned (.bool true) ∧ Below W.heap.size W w' := by
  have hr : RowRep (X0 W) [.agg (enC e), .agg (enC f)] (#[v0, v1] : Array Value).toList := row_cons hV0 (row_cons hV1 row_nil)
  have he := hok0.1
  have hf := hok1.1
  have hLe := And.intro (len_ok hok0.2.1) (len_ok hok0.2.2)
  have hLf := And.intro (len_ok hok1.2.1) (len_ok hok1.2.2)
  obtain ⟨q, hq⟩ : ∃ q : Bool, q = true ↔ sameQ e f := by
    by_cases h : sameQ e f
    · exact ⟨true, fun _ => h, fun _ => rfl⟩
    · exact ⟨false, (fun h2 => (by cases h2)), fun h2 => absurd h2 h⟩
  by_cases hl : ligF e > 0 ∨ ligF f > 0
  · exact (eputs_l e f he hf hLe hLf q hq hl).law W _ hr
  · have l1 : ¬ ligF e > 0 := fun h => hl (.inl h)
    have l2 : ¬ ligF f > 0 := fun h => hl (.inr h)
    by_cases hc : chkF e = 0
    · exact (eputs_ok e f he hf hLe hLf q hq l1 l2 hc).law W _ hr
    · exact (eputs_no e f he hf hLe hLf q hq l1 l2 hc).law W _ hr
end Go.Proofs.Ytgfmjipdegkemaa.PAll
