import Derived.Test.YtdmkhpnjjpeeaaaKcQq
import Derived.Test.YtdmkhpnjjpeeaaaKcWm
import Derived.Test.YtdmkhpnjjpeeaaaKcVmJ
import Derived.Test.YtdmkhpnjjpeeaaaKcVmL
namespace Go.Proofs.Ytdmkhpnjjpeeaaa.PAll
open Go.Vm Go.ChangeShapes Go.WideShapes Go.ChangeAt Go.RowKit
set_option linter.unusedVariables false
theorem wf_I64 {n : Int} (h : (Lit.int .i64 n).wf = true) : -9223372036854775808 ≤ n ∧ n ≤ 9223372036854775807 := by
  simp [Lit.wf, IntKind.min, IntKind.max, IntKind.signed, IntKind.bits] at h
  omega
theorem len_ok {n : Nat} (h : n ≤ maxLen) : (n : Int) ≤ 9223372036854775807 := by
  simp only [maxLen] at h; omega
open Go.Vm.Crc
theorem wf_U64 {n : Int} (h : (Lit.int .u64 n).wf = true) : U64 n := by
  simp [Lit.wf, IntKind.min, IntKind.max, IntKind.signed, IntKind.bits] at h
  unfold U64; omega
theorem wf_U32 {n : Int} (h : (Lit.int .u32 n).wf = true) : U32 n := by
  simp [Lit.wf, IntKind.min, IntKind.max, IntKind.signed, IntKind.bits] at h
  unfold U32; omega
theorem wf_U8 {n : Int} (h : (Lit.int .u8 n).wf = true) : 0 ≤ n ∧ n < 256 := by
  simp [Lit.wf, IntKind.min, IntKind.max, IntKind.signed, IntKind.bits] at h
  omega
theorem v3 : VOp Try.prog 3 1 (fun n : Int => [.sc (.int .i64 n)]) (fun n => (Lit.int .i64 n).wf = true) := vop_int Try.underlying3 (by kernel_rfl)
theorem v22 : VOp Try.prog 33 1 (fun n : Int => [.sc (.int .u64 n)]) (fun n => (Lit.int .u64 n).wf = true) := vop_int Try.underlying33 (by kernel_rfl)
theorem v23 : VOp Try.prog 34 1 (fun n : Int => [.sc (.int .u32 n)]) (fun n => (Lit.int .u32 n).wf = true) := vop_int Try.underlying34 (by kernel_rfl)
theorem v5 : VOp Try.prog 5 1 (fun n : Int => [bV n]) (fun n => (Lit.int .u8 n).wf = true) := vop_int Try.underlying5 (by kernel_rfl)
def okR (r : Rc) : Prop := okRc r ∧ r.val.size ≤ maxLen
theorem v9 : VOp Try.prog 9 1 (fun n : ByteArray => [.sc (.string n)]) (fun n => n.size ≤ maxLen) := vop_string Try.underlying9 (by kernel_rfl)
theorem v4 : VOp Try.prog 4 1 (fun n : Bool => [.sc (.bool n)]) (fun _ => True) := vop_bool Try.underlying4 (by kernel_rfl)
theorem vRc : VOp Try.prog 36 6 rcC okR := by
  have h := vop_struct Try.underlying36 (by kernel_rfl) (vopF_cons rfl v22 (vopF_cons rfl v22 (vopF_cons rfl v23 (vopF_cons rfl v23 (vopF_cons rfl v9 (vopF_one rfl v4))))))
  exact vop_iso h (fun a => ⟨a.1, a.2.1, a.2.2.1, a.2.2.2.1, a.2.2.2.2.1, a.2.2.2.2.2⟩) (fun _ => rfl) (fun a h => ⟨⟨wf_U64 h.1, wf_U64 h.2.1, wf_U32 h.2.2.1, wf_U32 h.2.2.2.1⟩, h.2.2.2.2.1⟩) (fun _ => rfl)
abbrev Pg := { l : List Int // l.length = 224 }
theorem vPg : VOp Try.prog 84 224 (fun p : Pg => p.1.map bV) (fun p => ∀ x ∈ p.1, (Lit.int .u8 x).wf = true) := vop_array Try.underlying84 (by kernel_rfl) v5
def toIm (a : Int × Pg) : Im := ⟨a.1, a.2.1⟩
theorem vIm : VOp Try.prog 86 225 (fun a : Int × Pg => [.sc (.int .i64 a.1)] ++ a.2.1.map bV) (fun a => (Lit.int .i64 a.1).wf = true ∧ ∀ x ∈ a.2.1, (Lit.int .u8 x).wf = true) := by
  have h := vop_struct Try.underlying86 (by kernel_rfl) (vopF_cons rfl v3 (vopF_one rfl vPg))
  exact h
def okE (e : En) : Prop := okEn e ∧ e.pages.length ≤ maxLen ∧ e.act.length ≤ maxLen
theorem v26 : VOp Try.prog 37 1 (fun xs : List (Int × Pg) => [.sl 225 (xs.map fun a : Int × Pg => [.sc (.int .i64 a.1)] ++ a.2.1.map bV)]) (fun xs => xs.length ≤ maxLen ∧ ∀ x ∈ xs, (Lit.int .i64 x.1).wf = true ∧ ∀ y ∈ x.2.1, (Lit.int .u8 y).wf = true) := vop_slice Try.underlying37 (by kernel_rfl) vIm (by omega)
theorem v27 : VOp Try.prog 38 1 (fun xs : List Int => [.sl 1 (xs.map fun n : Int => [.sc (.int .u64 n)])]) (fun xs => xs.length ≤ maxLen ∧ ∀ x ∈ xs, (Lit.int .u64 x).wf = true) := vop_slice Try.underlying38 (by kernel_rfl) v22 (by omega)
theorem vEn : VOp Try.prog 40 13 enC okE := by
  have h := vop_struct Try.underlying40 (by kernel_rfl) (vopF_cons rfl v22 (vopF_cons rfl v3 (vopF_cons rfl v22 (vopF_cons rfl v22 (vopF_cons rfl v22 (vopF_cons rfl vRc (vopF_cons rfl v26 (vopF_one rfl v27))))))))
  exact vop_iso h (fun a => ⟨a.1, a.2.1, a.2.2.1, a.2.2.2.1, a.2.2.2.2.1, a.2.2.2.2.2.1, a.2.2.2.2.2.2.1.map toIm, a.2.2.2.2.2.2.2⟩)
    (fun a => by show enC _ = _; unfold enC; rw [List.map_map]; rfl)
    (fun a h => by
      obtain ⟨h1, h2, h3, h4, h5, h6, h7, h8⟩ := h
      refine ⟨⟨wf_U64 h1, wf_U64 h3, wf_U64 h4, wf_U64 h5, h6.1, fun m hm => ?_, fun x hx => wf_U64 (h8.2 x hx)⟩, ?_, h8.1⟩
      · obtain ⟨p, hp, rfl⟩ := List.mem_map.1 hm
        exact ⟨p.2.2, fun x hx => wf_U8 ((h7.2 p hp).2 x hx)⟩
      · show (List.map toIm _).length ≤ maxLen
        rw [List.length_map]; exact h7.1)
    (fun _ => rfl)
theorem bytes_of {l : List Int} (h : ∀ x ∈ l, (Lit.int .u8 x).wf = true) : Byts l := fun x hx => wf_U8 (h x hx)
theorem wf_U16 {n : Int} (h : (Lit.int .u16 n).wf = true) : 0 ≤ n ∧ n < 65536 := by
  simp [Lit.wf, IntKind.min, IntKind.max, IntKind.signed, IntKind.bits] at h
  omega
theorem counterpanelaw09_WalCuts.walk0 (W : World) (v0 : Value) (xs0 : List Int) (hV0 : VRep (X0 W) (.sl 1 (xs0.map fun n : Int => [bV n])) v0) (hm0 : xs0.length ≤ maxLen) (hok0 : ∀ x ∈ xs0, (Lit.int .u8 x).wf = true) (a1 : Int) (w1 : (Lit.int .u16 a1).wf = true) (v2 : Value) (xs2 : List En) (hV2 : VRep (X0 W) (.sl 13 (xs2.map enC)) v2) (hm2 : xs2.length ≤ maxLen) (hok2 : ∀ x ∈ xs2, okE x) (a3 : Int) (w3 : (Lit.int .i64 a3).wf = true) (a4 : Int) (w4 : (Lit.int .i64 a4).wf = true) :
    Calls Try.prog 3 #[v0, .int .u16 a1, v2, .int .i64 a3, .int .i64 a4] W fun e w' => e = .returned (.bool true) ∧ Below W.heap.size W w' := by
  have h1 := wf_U16 w1
  have h3 := wf_I64 w3
  have h4 := wf_I64 w4
  obtain ⟨a, rfl⟩ : ∃ a : Nat, a1 = a := ⟨a1.toNat, by omega⟩
  have hr : RowRep (X0 W) [.sl 1 (bytesV xs0), .sc (.int .u16 (a : Int)), .sl 13 (xs2.map enC), .sc (.int .i64 a3), .sc (.int .i64 a4)] (#[v0, Value.int .u16 (a : Int), v2, Value.int .i64 a3, Value.int .i64 a4] : Array Value).toList := row_cons hV0 (row_cons (by simp [VRep]) (row_cons hV2 (row_cons (by simp [VRep]) (row_cons (by simp [VRep]) row_nil))))
  exact (cuts_c xs0 a xs2 a3 a4 (bytes_of hok0) (len_ok hm0) (by omega) (len_ok hm2) (fun e he => ⟨(hok2 e he).1, len_ok (hok2 e he).2.1, len_ok (hok2 e he).2.2⟩) h3 h4).law W _ hr
end Go.Proofs.Ytdmkhpnjjpeeaaa.PAll
