/- Facts about the types of the program. -/
import Derived.Test.YtgfmjipdegkemaaProg
import Derived.Test.YtgfmjipdegkemaaKpVmI
import Derived.ProofKit
namespace Go.Proofs.Ytgfmjipdegkemaa.F
open Go.Vm
theorem sz3 : (Try.prog.info? 3).map (·.size) = some 1 := by kernel_rfl
theorem one3 : OneT Try.prog 3 := ⟨⟨_, Try.underlying3, rfl⟩, sz3⟩
theorem sz4 : (Try.prog.info? 4).map (·.size) = some 1 := by kernel_rfl
theorem one4 : OneT Try.prog 4 := ⟨⟨_, Try.underlying4, rfl⟩, sz4⟩
theorem sz5 : (Try.prog.info? 5).map (·.size) = some 1 := by kernel_rfl
theorem one5 : OneT Try.prog 5 := ⟨⟨_, Try.underlying5, rfl⟩, sz5⟩
theorem zero5 : (Try.prog.info? 5).bind (·.zero) = some (.int .u8 0) := by kernel_rfl
theorem el5 : ElemT Try.prog 5 1 := elemT_of sz5 zero5 (by kernel_rfl) (by kernel_rfl)
theorem sz9 : (Try.prog.info? 9).map (·.size) = some 1 := by kernel_rfl
theorem one9 : OneT Try.prog 9 := ⟨⟨_, Try.underlying9, rfl⟩, sz9⟩
theorem sz22 : (Try.prog.info? 22).map (·.size) = some 1 := by kernel_rfl
theorem one22 : OneT Try.prog 22 := ⟨⟨_, Try.underlying22, rfl⟩, sz22⟩
theorem zero22 : (Try.prog.info? 22).bind (·.zero) = some (.int .u64 0) := by kernel_rfl
theorem el22 : ElemT Try.prog 22 1 := elemT_of sz22 zero22 (by kernel_rfl) (by kernel_rfl)
theorem sz23 : (Try.prog.info? 23).map (·.size) = some 1 := by kernel_rfl
theorem one23 : OneT Try.prog 23 := ⟨⟨_, Try.underlying23, rfl⟩, sz23⟩
theorem sz25 : (Try.prog.info? 25).map (·.size) = some 6 := by kernel_rfl
theorem agg25 : AggT Try.prog 25 6 := ⟨⟨_, Try.underlying25, rfl⟩, sz25⟩
theorem zero25 : (Try.prog.info? 25).bind (·.zero) = some (.agg #[.int .u64 0, .int .u64 0, .int .u32 0, .int .u32 0, .string ByteArray.empty, .bool false]) := by kernel_rfl
theorem sz26 : (Try.prog.info? 26).map (·.size) = some 1 := by kernel_rfl
theorem one26 : OneT Try.prog 26 := ⟨⟨_, Try.underlying26, rfl⟩, sz26⟩
theorem sz27 : (Try.prog.info? 27).map (·.size) = some 1 := by kernel_rfl
theorem one27 : OneT Try.prog 27 := ⟨⟨_, Try.underlying27, rfl⟩, sz27⟩
theorem sz29 : (Try.prog.info? 29).map (·.size) = some 13 := by kernel_rfl
theorem agg29 : AggT Try.prog 29 13 := ⟨⟨_, Try.underlying29, rfl⟩, sz29⟩
theorem zero29 : (Try.prog.info? 29).bind (·.zero) = some (.agg #[.int .u64 0, .int .i64 0, .int .u64 0, .int .u64 0, .int .u64 0, .int .u64 0, .int .u64 0, .int .u32 0, .int .u32 0, .string ByteArray.empty, .bool false, .slice none 0 0, .slice none 0 0]) := by kernel_rfl
theorem sz32 : (Try.prog.info? 32).map (·.size) = some 1 := by kernel_rfl
theorem one32 : OneT Try.prog 32 := ⟨⟨_, Try.underlying32, rfl⟩, sz32⟩
theorem sz33 : (Try.prog.info? 33).map (·.size) = some 1 := by kernel_rfl
theorem one33 : OneT Try.prog 33 := ⟨⟨_, Try.underlying33, rfl⟩, sz33⟩
theorem zero33 : (Try.prog.info? 33).bind (·.zero) = some (.int .i64 0) := by kernel_rfl
theorem sz49 : (Try.prog.info? 49).map (·.size) = some 224 := by kernel_rfl
theorem agg49 : AggT Try.prog 49 224 := ⟨⟨_, Try.underlying49, rfl⟩, sz49⟩
theorem zero49 : (Try.prog.info? 49).bind (·.zero) = some (.agg (List.replicate 224 (.int .u8 0)).toArray) := by kernel_rfl
theorem sz51 : (Try.prog.info? 51).map (·.size) = some 225 := by kernel_rfl
theorem agg51 : AggT Try.prog 51 225 := ⟨⟨_, Try.underlying51, rfl⟩, sz51⟩
theorem zero51 : (Try.prog.info? 51).bind (·.zero) = some (.agg (((.int .i64 0) :: List.replicate 224 (.int .u8 0))).toArray) := by kernel_rfl
theorem el51 : ElemT Try.prog 51 225 := elemT_of sz51 zero51 (by kernel_rfl) (by kernel_rfl)
theorem zero52 : (Try.prog.info? 52).bind (·.zero) = some (.agg #[.int .u64 0, .int .u64 0, .int .u64 0, .int .u64 0]) := by kernel_rfl
theorem zero68 : (Try.prog.info? 68).bind (·.zero) = some (.agg #[.slice none 0 0, .bool false]) := by kernel_rfl
theorem sz75 : (Try.prog.info? 75).map (·.size) = some 16 := by kernel_rfl
theorem agg75 : AggT Try.prog 75 16 := ⟨⟨_, Try.underlying75, rfl⟩, sz75⟩
theorem zero75 : (Try.prog.info? 75).bind (·.zero) = some (.agg #[.int .u32 0, .int .u32 0, .int .u32 0, .int .u32 0, .int .u32 0, .int .u32 0, .int .u32 0, .int .u32 0, .int .u32 0, .int .u32 0, .int .u32 0, .int .u32 0, .int .u32 0, .int .u32 0, .int .u32 0, .int .u32 0]) := by kernel_rfl
end Go.Proofs.Ytgfmjipdegkemaa.F
