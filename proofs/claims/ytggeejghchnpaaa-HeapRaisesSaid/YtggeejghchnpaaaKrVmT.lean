/- Facts about the types of the program. -/
import Derived.Test.YtggeejghchnpaaaProg
import Derived.Test.YtggeejghchnpaaaKrVmI
import Derived.ProofKit
namespace Go.Proofs.Ytggeejghchnpaaa.F
open Go.Vm
theorem sz3 : (Try.prog.info? 3).map (·.size) = some 1 := by kernel_rfl
theorem one3 : OneT Try.prog 3 := ⟨⟨_, Try.underlying3, rfl⟩, sz3⟩
theorem sz26 : (Try.prog.info? 26).map (·.size) = some 1 := by kernel_rfl
theorem one26 : OneT Try.prog 26 := ⟨⟨_, Try.underlying26, rfl⟩, sz26⟩
theorem sz28 : (Try.prog.info? 28).map (·.size) = some 1 := by kernel_rfl
theorem one28 : OneT Try.prog 28 := ⟨⟨_, Try.underlying28, rfl⟩, sz28⟩
theorem sz33 : (Try.prog.info? 33).map (·.size) = some 2 := by kernel_rfl
theorem agg33 : AggT Try.prog 33 2 := ⟨⟨_, Try.underlying33, rfl⟩, sz33⟩
theorem zero33 : (Try.prog.info? 33).bind (·.zero) = some (.agg #[.int .i64 0, .int .i64 0]) := by kernel_rfl
theorem el33 : ElemT Try.prog 33 2 := elemT_of sz33 zero33 (by kernel_rfl) (by kernel_rfl)
theorem sz34 : (Try.prog.info? 34).map (·.size) = some 1 := by kernel_rfl
theorem one34 : OneT Try.prog 34 := ⟨⟨_, Try.underlying34, rfl⟩, sz34⟩
theorem zero34 : (Try.prog.info? 34).bind (·.zero) = some (.pointer none) := by kernel_rfl
theorem el34 : ElemT Try.prog 34 1 := elemT_of sz34 zero34 (by kernel_rfl) (by kernel_rfl)
theorem zero57 : (Try.prog.info? 57).bind (·.zero) = some (.agg #[.slice none 0 0, .nilFunc, .int .i64 0]) := by kernel_rfl
theorem sz59 : (Try.prog.info? 59).map (·.size) = some 3 := by kernel_rfl
theorem zero59 : (Try.prog.info? 59).bind (·.zero) = some (.agg #[.int .i64 0, .int .i64 0, .int .i64 0]) := by kernel_rfl
end Go.Proofs.Ytggeejghchnpaaa.F
