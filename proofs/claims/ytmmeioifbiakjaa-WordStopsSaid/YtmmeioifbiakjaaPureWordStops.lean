import Derived.Test.YtmmeioifbiakjaaPAllx20
namespace Go.Proofs.Ytmmeioifbiakjaa.Pure
open Go.RowKit Go.Proofs.Ytmmeioifbiakjaa.PAll Go.Proofs.YtmmeioifbiakjaaW.PrintWords Go.Proofs.YtmmeioifbiakjaaW.PrintLast

theorem u8_of {a : Int} (h : (Lit.int .u8 a).wf = true) : 0 ≤ a ∧ a < 256 := by
  simp [Lit.wf, IntKind.min, IntKind.max, IntKind.signed, IntKind.bits] at h
  omega
theorem WordStops : counterpanelaw01_WordStops.Pure := by
  intro l0 a1 l2 h1 h2 h3 h4 h5 h6 h7
  unfold counterpanelaw01_WordStops.f
  rw [if_pos (show Bytes l0 from fun x hx => u8_of (h3 x hx))]

end Go.Proofs.Ytmmeioifbiakjaa.Pure
