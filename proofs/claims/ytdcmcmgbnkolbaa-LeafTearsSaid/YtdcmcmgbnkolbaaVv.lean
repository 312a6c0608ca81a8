/- LeafPuts, LeafRoom and LeafTears, of all that a law is handed. -/
import Derived.Test.YtdcmcmgbnkolbaaVq
import Derived.Test.YtdcmcmgbnkolbaaVmJ
import Derived.Test.YtdcmcmgbnkolbaaVmL
namespace Go.Proofs.Ytdcmcmgbnkolbaa.PAll
open Go.Vm Go.ChangeShapes Go.WideShapes Go.ChangeAt Go.RowKit
theorem wf_I64 {n : Int} (h : (Lit.int .i64 n).wf = true) : I64 n := by
  simp [Lit.wf, IntKind.min, IntKind.max, IntKind.signed, IntKind.bits] at h
  unfold I64; omega
theorem wf_U64 {n : Int} (h : (Lit.int .u64 n).wf = true) : U64 n := by
  simp [Lit.wf, IntKind.min, IntKind.max, IntKind.signed, IntKind.bits] at h
  unfold U64; omega
theorem wf_U8 {n : Int} (h : (Lit.int .u8 n).wf = true) : 0 ≤ n ∧ n < 256 := by
  simp [Lit.wf, IntKind.min, IntKind.max, IntKind.signed, IntKind.bits] at h
  omega
theorem len_ok {α : Type} {l : List α} (h : l.length ≤ maxLen) : (l.length : Int) ≤ 9223372036854775807 := by
  simp only [maxLen] at h; omega
abbrev Page := { l : List Int // l.length = 224 }
abbrev Sect := { l : List Int // l.length = 64 }
theorem vByte : VOp Try.prog 5 1 (fun x => [bV x]) (fun n => (Lit.int .u8 n).wf = true) := vop_int Try.underlying5 (by kernel_rfl)
theorem vBool : VOp Try.prog 4 1 (fun b => [.sc (.bool b)]) (fun _ => True) := vop_bool Try.underlying4 (by kernel_rfl)
theorem vPage : VOp Try.prog 22 224 (fun p : Page => p.1.map bV) (fun p => ∀ x ∈ p.1, (Lit.int .u8 x).wf = true) := vop_array Try.underlying22 (by kernel_rfl) vByte
theorem vSect : VOp Try.prog 45 64 (fun p : Sect => p.1.map bV) (fun p => ∀ x ∈ p.1, (Lit.int .u8 x).wf = true) := vop_array Try.underlying45 (by kernel_rfl) vByte
theorem secs_val (xs : List Sect) : xs.map (fun p : Sect => p.1.map bV) = secsV (xs.map (·.1)) := by unfold secsV; rw [List.map_map]; rfl
theorem counterpanelaw06_LeafTears.walk0 (W : World) (a0 : Int) (w0 : (Lit.int .i64 a0).wf = true) (a1 : Int) (w1 : (Lit.int .i64 a1).wf = true) (a2 : Int) (w2 : (Lit.int .u8 a2).wf = true) (a3 : Int) (w3 : (Lit.int .u8 a3).wf = true)
    (a4 : Int) (w4 : (Lit.int .u64 a4).wf = true) (a5 : Int) (w5 : (Lit.int .u64 a5).wf = true) (v6 : Value) (xs6 : List Bool) (hV6 : VRep (X0 W) (.sl 1 (xs6.map fun b => [.sc (.bool b)])) v6) (hm6 : xs6.length ≤ maxLen) (hok6 : ∀ x ∈ xs6, True) :
    Calls Try.prog 5 #[.int .i64 a0, .int .i64 a1, .int .u8 a2, .int .u8 a3, .int .u64 a4, .int .u64 a5, v6] W fun e w' => e = .returned (.bool true) ∧ Below W.heap.size W w' := by
  have hr : RowRep (X0 W) [.sc (.int .i64 a0), .sc (.int .i64 a1), .sc (.int .u8 a2), .sc (.int .u8 a3), .sc (.int .u64 a4), .sc (.int .u64 a5), .sl 1 (boolsV xs6)] (#[Value.int .i64 a0, .int .i64 a1, .int .u8 a2, .int .u8 a3, .int .u64 a4, .int .u64 a5, v6] : Array Value).toList :=
    row_cons (by simp [VRep]) (row_cons (by simp [VRep]) (row_cons (by simp [VRep]) (row_cons (by simp [VRep]) (row_cons (by simp [VRep]) (row_cons (by simp [VRep]) (row_cons hV6 row_nil))))))
  have h4 := wf_U64 w4
  have h5 := wf_U64 w5
  have hl := len_ok hm6
  by_cases hb : a0 < 0 ∨ 8 < a0 ∨ a1 < 0 ∨ 3 < a1 ∨ a4 = a5 ∨ 30 < xs6.length
  · exact (tears_A a0 a1 a2 a3 a4 a5 xs6 h4 h5 hl hb).law W _ hr
  · by_cases h0 : cntK xs6 4 = 0
    · exact (tears_0 a0 a1 a2 a3 a4 a5 xs6 h4 h5 hl (wf_U8 w2) (wf_U8 w3) (by omega) (by omega) (by omega) (by omega) h0).law W _ hr
    · by_cases h4' : cntK xs6 4 = 4
      · exact (tears_4 a0 a1 a2 a3 a4 a5 xs6 h4 h5 hl (wf_U8 w2) (wf_U8 w3) (by omega) (by omega) (by omega) (by omega) h4').law W _ hr
      · exact (tears_M a0 a1 a2 a3 a4 a5 xs6 h4 h5 hl (wf_U8 w2) (wf_U8 w3) (by omega) (by omega) (by omega) (by omega) h0 h4').law W _ hr
end Go.Proofs.Ytdcmcmgbnkolbaa.PAll
