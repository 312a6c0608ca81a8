/- LeafPuts, LeafRoom and LeafTears, of all that a law is handed. -/
import Derived.Test.YtdcmcmgbnkolbaaVo
import Derived.Test.YtdcmcmgbnkolbaaVmJ
import Derived.Test.YtdcmcmgbnkolbaaVmL
namespace Go.Proofs.Ytdcmcmgbnkolbaa.PAll
open Go.Vm Go.ChangeShapes Go.WideShapes Go.ChangeAt Go.RowKit
theorem wf_I64 {n : Int} (h : (Lit.int .i64 n).wf = true) : I64 n := by
  simp [Lit.wf, IntKind.min, IntKind.max, IntKind.signed, IntKind.bits] at h
  unfold I64; omega
theorem wf_U64 {n : Int} (h : (Lit.int .u64 n).wf = true) : U64 n := by
  simp [Lit.wf, IntKind.min, IntKind.max, IntKind.signed, IntKind.bits] at h
  unfold U64; omega
theorem wf_U8 {n : Int} (h : (Lit.int .u8 n).wf = true) : 0 ≤ n ∧ n < 256 := by
  simp [Lit.wf, IntKind.min, IntKind.max, IntKind.signed, IntKind.bits] at h
  omega
theorem len_ok {α : Type} {l : List α} (h : l.length ≤ maxLen) : (l.length : Int) ≤ 9223372036854775807 := by
  simp only [maxLen] at h; omega
abbrev Page := { l : List Int // l.length = 224 }
abbrev Sect := { l : List Int // l.length = 64 }
theorem vByte : VOp Try.prog 5 1 (fun x => [bV x]) (fun n => (Lit.int .u8 n).wf = true) := vop_int Try.underlying5 (by kernel_rfl)
theorem vBool : VOp Try.prog 4 1 (fun b => [.sc (.bool b)]) (fun _ => True) := vop_bool Try.underlying4 (by kernel_rfl)
theorem vPage : VOp Try.prog 22 224 (fun p : Page => p.1.map bV) (fun p => ∀ x ∈ p.1, (Lit.int .u8 x).wf = true) := vop_array Try.underlying22 (by kernel_rfl) vByte
theorem vSect : VOp Try.prog 45 64 (fun p : Sect => p.1.map bV) (fun p => ∀ x ∈ p.1, (Lit.int .u8 x).wf = true) := vop_array Try.underlying45 (by kernel_rfl) vByte
theorem secs_val (xs : List Sect) : xs.map (fun p : Sect => p.1.map bV) = secsV (xs.map (·.1)) := by unfold secsV; rw [List.map_map]; rfl
theorem counterpanelaw06_LeafPuts.walk0 (W : World) (v0 : Value) (x0 : Page) (hV0 : VRep (X0 W) (.agg (x0.1.map bV)) v0) (hok0 : ∀ x ∈ x0.1, (Lit.int .u8 x).wf = true) (a1 : Int) (w1 : (Lit.int .u64 a1).wf = true)
    (v2 : Value) (xs2 : List Sect) (hV2 : VRep (X0 W) (.sl 64 (xs2.map fun p => p.1.map bV)) v2) (hm2 : xs2.length ≤ maxLen) (hok2 : ∀ p ∈ xs2, ∀ x ∈ p.1, (Lit.int .u8 x).wf = true) :
    Calls Try.prog 3 #[v0, .int .u64 a1, v2] W fun e w' => e = .returned (.bool true) ∧ Below W.heap.size W w' := by
  rw [secs_val] at hV2
  have hr : RowRep (X0 W) [.agg (x0.1.map bV), .sc (.int .u64 a1), .sl 64 (secsV (xs2.map (·.1)))] (#[v0, Value.int .u64 a1, v2] : Array Value).toList := row_cons hV0 (row_cons (by simp [VRep]) (row_cons hV2 row_nil))
  have hp : bytes x0.1 := fun x hx => wf_U8 (hok0 x hx)
  have hl : okL (xs2.map (·.1)) := ⟨fun r h => by obtain ⟨p, hp, rfl⟩ := List.mem_map.1 h; exact p.2, fun r h => by obtain ⟨p, hp, rfl⟩ := List.mem_map.1 h; exact fun x hx => wf_U8 (hok2 p hp x hx)⟩
  have hL : ((xs2.map (·.1)).length : Int) ≤ 9223372036854775807 := by rw [List.length_map]; exact len_ok hm2
  by_cases h : 20 < (xs2.map (·.1)).length
  · exact (puts_A x0.1 x0.2 hp a1 (wf_U64 w1) _ hl hL works_c h).law W _ hr
  · exact (puts_B x0.1 x0.2 hp a1 (wf_U64 w1) _ hl hL works_c (by omega)).law W _ hr
end Go.Proofs.Ytdcmcmgbnkolbaa.PAll
