/- Facts about the types of the program. -/
import Derived.Test.YtjmfdddeoadpaaaProg
import Derived.Test.YtjmfdddeoadpaaaKbVmI
import Derived.ProofKit
namespace Go.Proofs.Ytjmfdddeoadpaaa.F
open Go.Vm
theorem sz3 : (Try.prog.info? 3).map (·.size) = some 1 := by kernel_rfl
theorem one3 : OneT Try.prog 3 := ⟨⟨_, Try.underlying3, rfl⟩, sz3⟩
theorem zero3 : (Try.prog.info? 3).bind (·.zero) = some (.int .i64 0) := by kernel_rfl
theorem sz4 : (Try.prog.info? 4).map (·.size) = some 1 := by kernel_rfl
theorem one4 : OneT Try.prog 4 := ⟨⟨_, Try.underlying4, rfl⟩, sz4⟩
theorem zero4 : (Try.prog.info? 4).bind (·.zero) = some (.bool false) := by kernel_rfl
theorem sz5 : (Try.prog.info? 5).map (·.size) = some 1 := by kernel_rfl
theorem one5 : OneT Try.prog 5 := ⟨⟨_, Try.underlying5, rfl⟩, sz5⟩
theorem zero5 : (Try.prog.info? 5).bind (·.zero) = some (.int .u8 0) := by kernel_rfl
theorem el5 : ElemT Try.prog 5 1 := elemT_of sz5 zero5 (by kernel_rfl) (by kernel_rfl)
theorem sz25 : (Try.prog.info? 25).map (·.size) = some 224 := by kernel_rfl
theorem agg25 : AggT Try.prog 25 224 := ⟨⟨_, Try.underlying25, rfl⟩, sz25⟩
theorem zero25 : (Try.prog.info? 25).bind (·.zero) = some (.agg (List.replicate 224 (.int .u8 0)).toArray) := by kernel_rfl
theorem sz27 : (Try.prog.info? 27).map (·.size) = some 224 := by kernel_rfl
theorem agg27 : AggT Try.prog 27 224 := ⟨⟨_, Try.underlying27, rfl⟩, sz27⟩
theorem zero27 : (Try.prog.info? 27).bind (·.zero) = some (.agg (List.replicate 224 (.int .u8 0)).toArray) := by kernel_rfl
theorem sz29 : (Try.prog.info? 29).map (·.size) = some 1 := by kernel_rfl
theorem one29 : OneT Try.prog 29 := ⟨⟨_, Try.underlying29, rfl⟩, sz29⟩
theorem sz32 : (Try.prog.info? 32).map (·.size) = some 1 := by kernel_rfl
theorem one32 : OneT Try.prog 32 := ⟨⟨_, Try.underlying32, rfl⟩, sz32⟩
theorem sz34 : (Try.prog.info? 34).map (·.size) = some 3 := by kernel_rfl
theorem agg34 : AggT Try.prog 34 3 := ⟨⟨_, Try.underlying34, rfl⟩, sz34⟩
theorem sz44 : (Try.prog.info? 44).map (·.size) = some 2 := by kernel_rfl
theorem agg44 : AggT Try.prog 44 2 := ⟨⟨_, Try.underlying44, rfl⟩, sz44⟩
theorem zero44 : (Try.prog.info? 44).bind (·.zero) = some (.agg #[.bool false, .slice none 0 0]) := by kernel_rfl
theorem el44 : ElemT Try.prog 44 2 := elemT_of sz44 zero44 (by kernel_rfl) (by kernel_rfl)
theorem zero64 : (Try.prog.info? 64).bind (·.zero) = some (.agg (List.replicate 224 (.int .i64 0)).toArray) := by kernel_rfl
end Go.Proofs.Ytjmfdddeoadpaaa.F
