/- Facts about the types of the program. -/
import Derived.Test.YtmlhekadnplpcaaProg
import Derived.Test.YtmlhekadnplpcaaKgVmI
import Derived.ProofKit
namespace Go.Proofs.Ytmlhekadnplpcaa.F
open Go.Vm
theorem sz3 : (Try.prog.info? 3).map (·.size) = some 1 := by kernel_rfl
theorem one3 : OneT Try.prog 3 := ⟨⟨_, Try.underlying3, rfl⟩, sz3⟩
theorem zero3 : (Try.prog.info? 3).bind (·.zero) = some (.int .i64 0) := by kernel_rfl
theorem el3 : ElemT Try.prog 3 1 := elemT_of sz3 zero3 (by kernel_rfl) (by kernel_rfl)
theorem sz4 : (Try.prog.info? 4).map (·.size) = some 1 := by kernel_rfl
theorem one4 : OneT Try.prog 4 := ⟨⟨_, Try.underlying4, rfl⟩, sz4⟩
theorem sz5 : (Try.prog.info? 5).map (·.size) = some 1 := by kernel_rfl
theorem one5 : OneT Try.prog 5 := ⟨⟨_, Try.underlying5, rfl⟩, sz5⟩
theorem zero5 : (Try.prog.info? 5).bind (·.zero) = some (.int .u8 0) := by kernel_rfl
theorem el5 : ElemT Try.prog 5 1 := elemT_of sz5 zero5 (by kernel_rfl) (by kernel_rfl)
theorem sz23 : (Try.prog.info? 23).map (·.size) = some 4 := by kernel_rfl
theorem agg23 : AggT Try.prog 23 4 := ⟨⟨_, Try.underlying23, rfl⟩, sz23⟩
theorem zero23 : (Try.prog.info? 23).bind (·.zero) = some (.agg #[.int .i64 0, .int .i64 0, .int .i64 0, .int .i64 0]) := by kernel_rfl
theorem sz40 : (Try.prog.info? 40).map (·.size) = some 1 := by kernel_rfl
theorem one40 : OneT Try.prog 40 := ⟨⟨_, Try.underlying40, rfl⟩, sz40⟩
theorem sz42 : (Try.prog.info? 42).map (·.size) = some 1 := by kernel_rfl
theorem one42 : OneT Try.prog 42 := ⟨⟨_, Try.underlying42, rfl⟩, sz42⟩
theorem sz44 : (Try.prog.info? 44).map (·.size) = some 6 := by kernel_rfl
theorem agg44 : AggT Try.prog 44 6 := ⟨⟨_, Try.underlying44, rfl⟩, sz44⟩
theorem zero44 : (Try.prog.info? 44).bind (·.zero) = some (.agg #[.int .i64 0, .int .i64 0, .int .i64 0, .int .i64 0, .slice none 0 0, .slice none 0 0]) := by kernel_rfl
theorem sz47 : (Try.prog.info? 47).map (·.size) = some 1 := by kernel_rfl
theorem one47 : OneT Try.prog 47 := ⟨⟨_, Try.underlying47, rfl⟩, sz47⟩
theorem sz48 : (Try.prog.info? 48).map (·.size) = some 1 := by kernel_rfl
theorem one48 : OneT Try.prog 48 := ⟨⟨_, Try.underlying48, rfl⟩, sz48⟩
theorem sz50 : (Try.prog.info? 50).map (·.size) = some 4 := by kernel_rfl
theorem agg50 : AggT Try.prog 50 4 := ⟨⟨_, Try.underlying50, rfl⟩, sz50⟩
theorem zero50 : (Try.prog.info? 50).bind (·.zero) = some (.agg #[.int .u32 0, .int .u32 0, .int .u64 0, .int .u64 0]) := by kernel_rfl
theorem el50 : ElemT Try.prog 50 4 := elemT_of sz50 zero50 (by kernel_rfl) (by kernel_rfl)
theorem sz60 : (Try.prog.info? 60).map (·.size) = some 1 := by kernel_rfl
theorem one60 : OneT Try.prog 60 := ⟨⟨_, Try.underlying60, rfl⟩, sz60⟩
theorem zero60 : (Try.prog.info? 60).bind (·.zero) = some (.slice none 0 0) := by kernel_rfl
theorem sz62 : (Try.prog.info? 62).map (·.size) = some 224 := by kernel_rfl
theorem agg62 : AggT Try.prog 62 224 := ⟨⟨_, Try.underlying62, rfl⟩, sz62⟩
theorem zero62 : (Try.prog.info? 62).bind (·.zero) = some (.agg (List.replicate 224 (.int .u8 0)).toArray) := by kernel_rfl
theorem sz64 : (Try.prog.info? 64).map (·.size) = some 225 := by kernel_rfl
theorem zero64 : (Try.prog.info? 64).bind (·.zero) = some (.agg (((.int .i64 0) :: List.replicate 224 (.int .u8 0))).toArray) := by kernel_rfl
theorem el64 : ElemT Try.prog 64 225 := elemT_of sz64 zero64 (by kernel_rfl) (by kernel_rfl)
theorem sz76 : (Try.prog.info? 76).map (·.size) = some 1 := by kernel_rfl
theorem one76 : OneT Try.prog 76 := ⟨⟨_, Try.underlying76, rfl⟩, sz76⟩
theorem zero88 : (Try.prog.info? 88).bind (·.zero) = some (.agg #[.slice none 0 0, .bool false]) := by kernel_rfl
end Go.Proofs.Ytmlhekadnplpcaa.F
