/- Facts about the types of the program. -/
import Derived.Test.YtldlmmpniddbcaaProg
import Derived.Test.YtldlmmpniddbcaaKpVmI
import Derived.ProofKit
namespace Go.Proofs.Ytldlmmpniddbcaa.F
open Go.Vm
theorem sz3 : (Try.prog.info? 3).map (·.size) = some 1 := by kernel_rfl
theorem one3 : OneT Try.prog 3 := ⟨⟨_, Try.underlying3, rfl⟩, sz3⟩
theorem zero3 : (Try.prog.info? 3).bind (·.zero) = some (.int .i64 0) := by kernel_rfl
theorem el3 : ElemT Try.prog 3 1 := elemT_of sz3 zero3 (by kernel_rfl) (by kernel_rfl)
theorem sz4 : (Try.prog.info? 4).map (·.size) = some 1 := by kernel_rfl
theorem one4 : OneT Try.prog 4 := ⟨⟨_, Try.underlying4, rfl⟩, sz4⟩
theorem sz5 : (Try.prog.info? 5).map (·.size) = some 1 := by kernel_rfl
theorem one5 : OneT Try.prog 5 := ⟨⟨_, Try.underlying5, rfl⟩, sz5⟩
theorem zero5 : (Try.prog.info? 5).bind (·.zero) = some (.int .u8 0) := by kernel_rfl
theorem el5 : ElemT Try.prog 5 1 := elemT_of sz5 zero5 (by kernel_rfl) (by kernel_rfl)
theorem sz9 : (Try.prog.info? 9).map (·.size) = some 1 := by kernel_rfl
theorem one9 : OneT Try.prog 9 := ⟨⟨_, Try.underlying9, rfl⟩, sz9⟩
theorem sz23 : (Try.prog.info? 23).map (·.size) = some 1 := by kernel_rfl
theorem one23 : OneT Try.prog 23 := ⟨⟨_, Try.underlying23, rfl⟩, sz23⟩
theorem sz26 : (Try.prog.info? 26).map (·.size) = some 1 := by kernel_rfl
theorem one26 : OneT Try.prog 26 := ⟨⟨_, Try.underlying26, rfl⟩, sz26⟩
theorem sz27 : (Try.prog.info? 27).map (·.size) = some 1 := by kernel_rfl
theorem one27 : OneT Try.prog 27 := ⟨⟨_, Try.underlying27, rfl⟩, sz27⟩
theorem sz29 : (Try.prog.info? 29).map (·.size) = some 3 := by kernel_rfl
theorem agg29 : AggT Try.prog 29 3 := ⟨⟨_, Try.underlying29, rfl⟩, sz29⟩
theorem zero29 : (Try.prog.info? 29).bind (·.zero) = some (.agg #[.int .i64 0, .slice none 0 0, .slice none 0 0]) := by kernel_rfl
theorem sz37 : (Try.prog.info? 37).map (·.size) = some 1 := by kernel_rfl
theorem one37 : OneT Try.prog 37 := ⟨⟨_, Try.underlying37, rfl⟩, sz37⟩
theorem zero37 : (Try.prog.info? 37).bind (·.zero) = some (.slice none 0 0) := by kernel_rfl
theorem sz39 : (Try.prog.info? 39).map (·.size) = some 224 := by kernel_rfl
theorem agg39 : AggT Try.prog 39 224 := ⟨⟨_, Try.underlying39, rfl⟩, sz39⟩
theorem zero39 : (Try.prog.info? 39).bind (·.zero) = some (.agg (List.replicate 224 (.int .u8 0)).toArray) := by kernel_rfl
theorem sz41 : (Try.prog.info? 41).map (·.size) = some 225 := by kernel_rfl
theorem zero41 : (Try.prog.info? 41).bind (·.zero) = some (.agg (((.int .i64 0) :: List.replicate 224 (.int .u8 0))).toArray) := by kernel_rfl
theorem el41 : ElemT Try.prog 41 225 := elemT_of sz41 zero41 (by kernel_rfl) (by kernel_rfl)
theorem sz50 : (Try.prog.info? 50).map (·.size) = some 1 := by kernel_rfl
theorem one50 : OneT Try.prog 50 := ⟨⟨_, Try.underlying50, rfl⟩, sz50⟩
theorem sz52 : (Try.prog.info? 52).map (·.size) = some 6 := by kernel_rfl
theorem agg52 : AggT Try.prog 52 6 := ⟨⟨_, Try.underlying52, rfl⟩, sz52⟩
theorem zero52 : (Try.prog.info? 52).bind (·.zero) = some (.agg #[.int .u64 0, .int .u64 0, .int .u32 0, .int .u32 0, .string ByteArray.empty, .bool false]) := by kernel_rfl
theorem el52 : ElemT Try.prog 52 6 := elemT_of sz52 zero52 (by kernel_rfl) (by kernel_rfl)
theorem sz59 : (Try.prog.info? 59).map (·.size) = some 7 := by kernel_rfl
theorem sz67 : (Try.prog.info? 67).map (·.size) = some 1 := by kernel_rfl
theorem one67 : OneT Try.prog 67 := ⟨⟨_, Try.underlying67, rfl⟩, sz67⟩
theorem zero87 : (Try.prog.info? 87).bind (·.zero) = some (.agg #[.slice none 0 0, .bool false]) := by kernel_rfl
end Go.Proofs.Ytldlmmpniddbcaa.F
