/- Facts about the types of the program. -/
import Derived.Test.YthpkhecialkmmaaProg
import Derived.Test.YthpkhecialkmmaaKeVmI
import Derived.ProofKit
namespace Go.Proofs.Ythpkhecialkmmaa.F
open Go.Vm
theorem sz3 : (Try.prog.info? 3).map (·.size) = some 1 := by kernel_rfl
theorem one3 : OneT Try.prog 3 := ⟨⟨_, Try.underlying3, rfl⟩, sz3⟩
theorem zero3 : (Try.prog.info? 3).bind (·.zero) = some (.int .i64 0) := by kernel_rfl
theorem sz4 : (Try.prog.info? 4).map (·.size) = some 1 := by kernel_rfl
theorem one4 : OneT Try.prog 4 := ⟨⟨_, Try.underlying4, rfl⟩, sz4⟩
theorem zero4 : (Try.prog.info? 4).bind (·.zero) = some (.bool false) := by kernel_rfl
theorem sz5 : (Try.prog.info? 5).map (·.size) = some 1 := by kernel_rfl
theorem one5 : OneT Try.prog 5 := ⟨⟨_, Try.underlying5, rfl⟩, sz5⟩
theorem sz22 : (Try.prog.info? 22).map (·.size) = some 1 := by kernel_rfl
theorem one22 : OneT Try.prog 22 := ⟨⟨_, Try.underlying22, rfl⟩, sz22⟩
theorem sz23 : (Try.prog.info? 23).map (·.size) = some 1 := by kernel_rfl
theorem one23 : OneT Try.prog 23 := ⟨⟨_, Try.underlying23, rfl⟩, sz23⟩
theorem sz25 : (Try.prog.info? 25).map (·.size) = some 4 := by kernel_rfl
theorem agg25 : AggT Try.prog 25 4 := ⟨⟨_, Try.underlying25, rfl⟩, sz25⟩
theorem sz27 : (Try.prog.info? 27).map (·.size) = some 10 := by kernel_rfl
theorem agg27 : AggT Try.prog 27 10 := ⟨⟨_, Try.underlying27, rfl⟩, sz27⟩
theorem zero27 : (Try.prog.info? 27).bind (·.zero) = some (.agg #[.int .i64 0, .int .u64 0, .int .u32 0, .int .u32 0, .string ByteArray.empty, .int .u32 0, .int .u32 0, .int .u32 0, .int .u32 0, .int .i64 0]) := by kernel_rfl
theorem sz29 : (Try.prog.info? 29).map (·.size) = some 6 := by kernel_rfl
theorem agg29 : AggT Try.prog 29 6 := ⟨⟨_, Try.underlying29, rfl⟩, sz29⟩
theorem zero29 : (Try.prog.info? 29).bind (·.zero) = some (.agg #[.int .u64 0, .int .u64 0, .int .u32 0, .int .u32 0, .string ByteArray.empty, .bool false]) := by kernel_rfl
theorem sz32 : (Try.prog.info? 32).map (·.size) = some 1 := by kernel_rfl
theorem one32 : OneT Try.prog 32 := ⟨⟨_, Try.underlying32, rfl⟩, sz32⟩
theorem sz39 : (Try.prog.info? 39).map (·.size) = some 2 := by kernel_rfl
theorem agg39 : AggT Try.prog 39 2 := ⟨⟨_, Try.underlying39, rfl⟩, sz39⟩
theorem zero39 : (Try.prog.info? 39).bind (·.zero) = some (.agg #[.int .i64 0, .int .u64 0]) := by kernel_rfl
theorem sz41 : (Try.prog.info? 41).map (·.size) = some 3 := by kernel_rfl
theorem agg41 : AggT Try.prog 41 3 := ⟨⟨_, Try.underlying41, rfl⟩, sz41⟩
theorem zero41 : (Try.prog.info? 41).bind (·.zero) = some (.agg #[.int .i64 0, .int .u64 0, .int .i64 0]) := by kernel_rfl
theorem el41 : ElemT Try.prog 41 3 := elemT_of sz41 zero41 (by kernel_rfl) (by kernel_rfl)
theorem sz44 : (Try.prog.info? 44).map (·.size) = some 1 := by kernel_rfl
theorem one44 : OneT Try.prog 44 := ⟨⟨_, Try.underlying44, rfl⟩, sz44⟩
theorem sz53 : (Try.prog.info? 53).map (·.size) = some 1 := by kernel_rfl
theorem one53 : OneT Try.prog 53 := ⟨⟨_, Try.underlying53, rfl⟩, sz53⟩
theorem zero53 : (Try.prog.info? 53).bind (·.zero) = some (.slice none 0 0) := by kernel_rfl
theorem sz59 : (Try.prog.info? 59).map (·.size) = some 1 := by kernel_rfl
theorem one59 : OneT Try.prog 59 := ⟨⟨_, Try.underlying59, rfl⟩, sz59⟩
theorem sz74 : (Try.prog.info? 74).map (·.size) = some 6 := by kernel_rfl
theorem agg74 : AggT Try.prog 74 6 := ⟨⟨_, Try.underlying74, rfl⟩, sz74⟩
theorem zero74 : (Try.prog.info? 74).bind (·.zero) = some (.agg #[.int .u8 0, .int .u8 0, .int .u8 0, .int .u8 0, .int .u8 0, .int .u8 0]) := by kernel_rfl
end Go.Proofs.Ythpkhecialkmmaa.F

