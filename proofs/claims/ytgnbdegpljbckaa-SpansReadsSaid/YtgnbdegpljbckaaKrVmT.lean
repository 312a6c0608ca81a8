/- Facts about the types of the program. -/
import Derived.Test.YtgnbdegpljbckaaProg
import Derived.Test.YtgnbdegpljbckaaKrVmI
import Derived.ProofKit
namespace Go.Proofs.Ytgnbdegpljbckaa.F
open Go.Vm
theorem sz3 : (Try.prog.info? 3).map (·.size) = some 1 := by kernel_rfl
theorem one3 : OneT Try.prog 3 := ⟨⟨_, Try.underlying3, rfl⟩, sz3⟩
theorem zero3 : (Try.prog.info? 3).bind (·.zero) = some (.int .i64 0) := by kernel_rfl
theorem sz4 : (Try.prog.info? 4).map (·.size) = some 1 := by kernel_rfl
theorem one4 : OneT Try.prog 4 := ⟨⟨_, Try.underlying4, rfl⟩, sz4⟩
theorem zero4 : (Try.prog.info? 4).bind (·.zero) = some (.bool false) := by kernel_rfl
theorem sz5 : (Try.prog.info? 5).map (·.size) = some 1 := by kernel_rfl
theorem one5 : OneT Try.prog 5 := ⟨⟨_, Try.underlying5, rfl⟩, sz5⟩
theorem sz24 : (Try.prog.info? 24).map (·.size) = some 2 := by kernel_rfl
theorem sz26 : (Try.prog.info? 26).map (·.size) = some 1 := by kernel_rfl
theorem one26 : OneT Try.prog 26 := ⟨⟨_, Try.underlying26, rfl⟩, sz26⟩
theorem sz28 : (Try.prog.info? 28).map (·.size) = some 1 := by kernel_rfl
theorem agg28 : AggT Try.prog 28 1 := ⟨⟨_, Try.underlying28, rfl⟩, sz28⟩
theorem zero28 : (Try.prog.info? 28).bind (·.zero) = some (.agg #[.slice none 0 0]) := by kernel_rfl
theorem sz31 : (Try.prog.info? 31).map (·.size) = some 256 := by kernel_rfl
theorem agg31 : AggT Try.prog 31 256 := ⟨⟨_, Try.underlying31, rfl⟩, sz31⟩
theorem zero31 : (Try.prog.info? 31).bind (·.zero) = some (.agg (List.replicate 256 (.bool false)).toArray) := by kernel_rfl
theorem sz37 : (Try.prog.info? 37).map (·.size) = some 2 := by kernel_rfl
theorem agg37 : AggT Try.prog 37 2 := ⟨⟨_, Try.underlying37, rfl⟩, sz37⟩
theorem zero37 : (Try.prog.info? 37).bind (·.zero) = some (.agg #[.int .u8 0, .int .u8 0]) := by kernel_rfl
theorem el37 : ElemT Try.prog 37 2 := elemT_of sz37 zero37 (by kernel_rfl) (by kernel_rfl)
theorem sz49 : (Try.prog.info? 49).map (·.size) = some 1 := by kernel_rfl
theorem one49 : OneT Try.prog 49 := ⟨⟨_, Try.underlying49, rfl⟩, sz49⟩
theorem sz50 : (Try.prog.info? 50).map (·.size) = some 1 := by kernel_rfl
theorem one50 : OneT Try.prog 50 := ⟨⟨_, Try.underlying50, rfl⟩, sz50⟩
theorem sz52 : (Try.prog.info? 52).map (·.size) = some 1 := by kernel_rfl
theorem agg52 : AggT Try.prog 52 1 := ⟨⟨_, Try.underlying52, rfl⟩, sz52⟩
theorem zero52 : (Try.prog.info? 52).bind (·.zero) = some (.agg #[.slice none 0 0]) := by kernel_rfl
theorem sz58 : (Try.prog.info? 58).map (·.size) = some 2 := by kernel_rfl
theorem agg58 : AggT Try.prog 58 2 := ⟨⟨_, Try.underlying58, rfl⟩, sz58⟩
theorem zero58 : (Try.prog.info? 58).bind (·.zero) = some (.agg #[.int .u64 0, .int .u64 0]) := by kernel_rfl
theorem el58 : ElemT Try.prog 58 2 := elemT_of sz58 zero58 (by kernel_rfl) (by kernel_rfl)
end Go.Proofs.Ytgnbdegpljbckaa.F
