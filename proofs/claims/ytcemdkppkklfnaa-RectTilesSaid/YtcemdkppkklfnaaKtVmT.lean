/- Facts about the types of the program. -/
import Derived.Test.YtcemdkppkklfnaaProg
import Derived.Test.YtcemdkppkklfnaaKtVmI
import Derived.ProofKit
namespace Go.Proofs.Ytcemdkppkklfnaa.F
open Go.Vm
theorem sz3 : (Try.prog.info? 3).map (·.size) = some 1 := by kernel_rfl
theorem one3 : OneT Try.prog 3 := ⟨⟨_, Try.underlying3, rfl⟩, sz3⟩
theorem zero3 : (Try.prog.info? 3).bind (·.zero) = some (.int .i64 0) := by kernel_rfl
theorem el3 : ElemT Try.prog 3 1 := elemT_of sz3 zero3 (by kernel_rfl) (by kernel_rfl)
theorem sz4 : (Try.prog.info? 4).map (·.size) = some 1 := by kernel_rfl
theorem one4 : OneT Try.prog 4 := ⟨⟨_, Try.underlying4, rfl⟩, sz4⟩
theorem zero4 : (Try.prog.info? 4).bind (·.zero) = some (.bool false) := by kernel_rfl
theorem sz22 : (Try.prog.info? 22).map (·.size) = some 1 := by kernel_rfl
theorem one22 : OneT Try.prog 22 := ⟨⟨_, Try.underlying22, rfl⟩, sz22⟩
theorem sz24 : (Try.prog.info? 24).map (·.size) = some 4 := by kernel_rfl
theorem agg24 : AggT Try.prog 24 4 := ⟨⟨_, Try.underlying24, rfl⟩, sz24⟩
theorem zero24 : (Try.prog.info? 24).bind (·.zero) = some (.agg #[.int .u32 0, .int .u32 0, .int .u32 0, .int .u32 0]) := by kernel_rfl
theorem sz35 : (Try.prog.info? 35).map (·.size) = some 1 := by kernel_rfl
theorem one35 : OneT Try.prog 35 := ⟨⟨_, Try.underlying35, rfl⟩, sz35⟩
theorem zero35 : (Try.prog.info? 35).bind (·.zero) = some (.slice none 0 0) := by kernel_rfl
end Go.Proofs.Ytcemdkppkklfnaa.F
