/- The functions that the laws of this seat reach, as plain functions with proofs that the calls answer just so (written by a program of this session on the kit's print). -/
import Derived.Test.YtbmkkehbmkcinaaPAllx0
namespace Go.Proofs.Ytbmkkehbmkcinaa.PAll
open Go.RowKit Go.Proofs.YtbmkkehbmkcinaaW.PrintWords Go.Proofs.YtbmkkehbmkcinaaW.PrintLast Go.Proofs.YtbmkkehbmkcinaaW.PrintMore
attribute [local go_sem] max2_int min2_int max_two min_two max_three min_three max_four min_four   -- for this text's walks alone
set_option linter.unusedVariables false
set_option linter.unusedSimpArgs false

/-! ### counterpaneref03_over: function 19 -/
def counterpaneref03_over.f (a0 : Int) (a1 : Int) : Option (Int) := if a1 = 0 then (none) else (some (Go.bits .xor .u64 a0 (IntKind.u64.wrap (Int.tdiv a0 a1))))
set_option maxHeartbeats 8000000 in
set_option maxRecDepth 100000 in
theorem counterpaneref03_over.calls (a0 : Int) (a1 : Int) (r : Int) (w : World) (h : counterpaneref03_over.f a0 a1 = some r) :
    Calls Try.prog 19 #[.int .u64 a0, .int .u64 a1] w fun e w' => e = .returned (.int .u64 r) ∧ Drawn0 w w' := by
  have H : (if a1 = 0 then (none) else (some (Go.bits .xor .u64 a0 (IntKind.u64.wrap (Int.tdiv a0 a1))))) = some r := h
  clear h
  by_cases c3 : a1 = 0
  · rw [if_pos c3] at H
    exact absurd H (by simp)
  · rw [if_neg c3] at H
    have c3b0 : (a1 == 0) = false := beq_eq_false_iff_ne.mpr c3
    have c3b1 : (a1 != 0) = true := bne_iff_ne.mpr c3
    obtain rfl := Option.some.inj H
    go_enter Try.func19, Try.ntmps19
    go_wp2
    go_ret
    exact ⟨by first | rfl | (simp; done) | (simp [*]; done), by repeat (first | exact Drawn0.refl _ | apply Drawn0.step)⟩

end Go.Proofs.Ytbmkkehbmkcinaa.PAll
