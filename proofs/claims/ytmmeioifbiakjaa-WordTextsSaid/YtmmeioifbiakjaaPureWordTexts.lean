import Derived.Test.YtmmeioifbiakjaaPAllx15
namespace Go.Proofs.Ytmmeioifbiakjaa.Pure
open Go.RowKit Go.Proofs.Ytmmeioifbiakjaa.PAll Go.Proofs.YtmmeioifbiakjaaW.PrintWords Go.Proofs.YtmmeioifbiakjaaW.PrintLast

theorem u8_of {a : Int} (h : (Lit.int .u8 a).wf = true) : 0 ≤ a ∧ a < 256 := by
  simp [Lit.wf, IntKind.min, IntKind.max, IntKind.signed, IntKind.bits] at h
  omega
theorem WordTexts : counterpanelaw01_WordTexts.Pure := by
  intro l0 a1 a2 l3 h1 h2 h3 h4 h5 h6 h7 h8
  unfold counterpanelaw01_WordTexts.f
  rw [if_pos ⟨fun x hx => u8_of (h8 x hx), by simp [Lit.wf, IntKind.min, IntKind.max, IntKind.signed, IntKind.bits] at h5; omega⟩]

end Go.Proofs.Ytmmeioifbiakjaa.Pure
