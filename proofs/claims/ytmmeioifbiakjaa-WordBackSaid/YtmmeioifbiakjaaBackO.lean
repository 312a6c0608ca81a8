/- A field that is handed in, opened. -/
import Derived.Test.YtmmeioifbiakjaaOpens2
import Derived.Test.YtmmeioifbiakjaaBackX
namespace Go.Proofs.Ytmmeioifbiakjaa.PAll
open Go.RowKit Go.Proofs.YtmmeioifbiakjaaW.PrintWords Go.Proofs.Ytmmeioifbiakjaa.Opens2
theorem opFld : Go.Proofs.Ytmmeioifbiakjaa.Opens2.Op Try.prog 38 kFld okFld := by
  refine op_mono (op_struct Try.underlying38 (by kernel_rfl)
    (opF_cons rfl (op_bool Try.underlying4 (by kernel_rfl)) (opF_cons rfl (op_int Try.underlying5 (by kernel_rfl)) (opF_cons rfl (op_int Try.underlying36 (by kernel_rfl)) (opF_one rfl (op_string Try.underlying9 (by kernel_rfl))))))) ?_
  rintro ⟨a, b, c, d⟩ ⟨_, h1, h2, h3⟩
  simp only [Lit.wf, IntKind.min, IntKind.max, IntKind.signed, IntKind.bits] at h1 h2
  simp at h1 h2
  exact ⟨by simp only; omega, by simp only; omega, h3⟩
end Go.Proofs.Ytmmeioifbiakjaa.PAll
