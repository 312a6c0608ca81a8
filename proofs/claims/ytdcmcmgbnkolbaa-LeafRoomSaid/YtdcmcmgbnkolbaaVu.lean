/- LeafPuts, LeafRoom and LeafTears, of all that a law is handed. -/
import Derived.Test.YtdcmcmgbnkolbaaVo
import Derived.Test.YtdcmcmgbnkolbaaVs
import Derived.Test.YtdcmcmgbnkolbaaVmJ
import Derived.Test.YtdcmcmgbnkolbaaVmL
namespace Go.Proofs.Ytdcmcmgbnkolbaa.PAll
open Go.Vm Go.ChangeShapes Go.WideShapes Go.ChangeAt Go.RowKit
theorem wf_I64 {n : Int} (h : (Lit.int .i64 n).wf = true) : I64 n := by
  simp [Lit.wf, IntKind.min, IntKind.max, IntKind.signed, IntKind.bits] at h
  unfold I64; omega
theorem wf_U64 {n : Int} (h : (Lit.int .u64 n).wf = true) : U64 n := by
  simp [Lit.wf, IntKind.min, IntKind.max, IntKind.signed, IntKind.bits] at h
  unfold U64; omega
theorem wf_U8 {n : Int} (h : (Lit.int .u8 n).wf = true) : 0 ≤ n ∧ n < 256 := by
  simp [Lit.wf, IntKind.min, IntKind.max, IntKind.signed, IntKind.bits] at h
  omega
theorem len_ok {α : Type} {l : List α} (h : l.length ≤ maxLen) : (l.length : Int) ≤ 9223372036854775807 := by
  simp only [maxLen] at h; omega
abbrev Page := { l : List Int // l.length = 224 }
abbrev Sect := { l : List Int // l.length = 64 }
theorem vByte : VOp Try.prog 5 1 (fun x => [bV x]) (fun n => (Lit.int .u8 n).wf = true) := vop_int Try.underlying5 (by kernel_rfl)
theorem vBool : VOp Try.prog 4 1 (fun b => [.sc (.bool b)]) (fun _ => True) := vop_bool Try.underlying4 (by kernel_rfl)
theorem vPage : VOp Try.prog 22 224 (fun p : Page => p.1.map bV) (fun p => ∀ x ∈ p.1, (Lit.int .u8 x).wf = true) := vop_array Try.underlying22 (by kernel_rfl) vByte
theorem vSect : VOp Try.prog 45 64 (fun p : Sect => p.1.map bV) (fun p => ∀ x ∈ p.1, (Lit.int .u8 x).wf = true) := vop_array Try.underlying45 (by kernel_rfl) vByte
theorem secs_val (xs : List Sect) : xs.map (fun p : Sect => p.1.map bV) = secsV (xs.map (·.1)) := by unfold secsV; rw [List.map_map]; rfl
theorem counterpanelaw06_LeafRoom.walk0 (W : World) (a0 : Int) (w0 : (Lit.int .i64 a0).wf = true) (a1 : Int) (w1 : (Lit.int .i64 a1).wf = true) (a2 : Int) (w2 : (Lit.int .i64 a2).wf = true) :
    Calls Try.prog 4 #[.int .i64 a0, .int .i64 a1, .int .i64 a2] W fun e w' => e = .returned (.bool true) ∧ Below W.heap.size W w' := by
  have h1 := wf_I64 w1
  have h2 := wf_I64 w2
  have hr : RowRep (X0 W) [.sc (.int .i64 a0), .sc (.int .i64 a1), .sc (.int .i64 a2)] (#[Value.int .i64 a0, .int .i64 a1, .int .i64 a2] : Array Value).toList := row_cons (by simp [VRep]) (row_cons (by simp [VRep]) (row_cons (by simp [VRep]) row_nil))
  by_cases hz : a0 < 1 ∨ a0 > 60
  · exact (roomA a0 a1 a2 h1 h2 works_c hz).law W _ hr
  · obtain ⟨m, rfl⟩ : ∃ m : Nat, a0 = m := ⟨a0.toNat, by omega⟩
    by_cases hb : a2 < 0 ∨ a1 < 0 ∨ a2 > m
    · exact (roomB m a1 a2 h1 h2 works_c (by omega) (by omega) hb).law W _ hr
    · by_cases hf : a1 ≤ m - 4 ∧ 4 * a2 ≤ m - 4 - a1
      · exact (roomC m (by omega) a1 a2 h1 h2 (by omega) (by omega) hf works_c (by omega)).law W _ hr
      · exact (roomR m a1 a2 h1 h2 works_c (by omega) (by omega) (by omega) (by omega) (by omega) hf).law W _ hr
end Go.Proofs.Ytdcmcmgbnkolbaa.PAll
