/- The functions that the laws of this seat reach, as plain functions with proofs that the calls answer just so (written by a program of this session on the kit's print). -/
import Derived.Test.YtabkoclmhdnjfaaPAllx0
namespace Go.Proofs.Ytabkoclmhdnjfaa.PAll
open Go.RowKit Go.Proofs.YtabkoclmhdnjfaaW.PrintWords Go.Proofs.YtabkoclmhdnjfaaW.PrintLast Go.Proofs.YtabkoclmhdnjfaaW.PrintMore
attribute [local go_sem] max2_int min2_int max_two min_two max_three min_three max_four min_four   -- for this text's walks alone
set_option linter.unusedVariables false
set_option linter.unusedSimpArgs false

/-! ### zcode_Less: function 13 -/
def zcode_Less.f (a0 : Int) (a1 : Int) (a2 : Int) (a3 : Int) : Option (Bool) := if (Go.bits .xor .u32 a1 a3) < (Go.bits .xor .u32 a0 a2) then (if (Go.bits .xor .u32 a1 a3) < (Go.bits .xor .u32 (Go.bits .xor .u32 a0 a2) (Go.bits .xor .u32 a1 a3)) then (some (decide (a0 < a2))) else (some (decide (a1 < a3)))) else (some (decide (a1 < a3)))
set_option maxHeartbeats 8000000 in
set_option maxRecDepth 100000 in
theorem zcode_Less.calls (a0 : Int) (a1 : Int) (a2 : Int) (a3 : Int) (r : Bool) (w : World) (h : zcode_Less.f a0 a1 a2 a3 = some r) :
    Calls Try.prog 13 #[.int .u32 a0, .int .u32 a1, .int .u32 a2, .int .u32 a3] w fun e w' => e = .returned (.bool r) ∧ Drawn0 w w' := by
  have H : (if (Go.bits .xor .u32 a1 a3) < (Go.bits .xor .u32 a0 a2) then (if (Go.bits .xor .u32 a1 a3) < (Go.bits .xor .u32 (Go.bits .xor .u32 a0 a2) (Go.bits .xor .u32 a1 a3)) then (some (decide (a0 < a2))) else (some (decide (a1 < a3)))) else (some (decide (a1 < a3)))) = some r := h
  clear h
  by_cases c5 : (Go.bits .xor .u32 a1 a3) < (Go.bits .xor .u32 a0 a2)
  · rw [if_pos c5] at H
    have c5b0 : decide ((Go.bits .xor .u32 a1 a3) < (Go.bits .xor .u32 a0 a2)) = true := decide_eq_true c5
    clear c5
    by_cases c6 : (Go.bits .xor .u32 a1 a3) < (Go.bits .xor .u32 (Go.bits .xor .u32 a0 a2) (Go.bits .xor .u32 a1 a3))
    · rw [if_pos c6] at H
      have c6b0 : decide ((Go.bits .xor .u32 a1 a3) < (Go.bits .xor .u32 (Go.bits .xor .u32 a0 a2) (Go.bits .xor .u32 a1 a3))) = true := decide_eq_true c6
      clear c6
      obtain rfl := Option.some.inj H
      go_enter Try.func13, Try.ntmps13
      go_wp2
      go_ret
      exact ⟨by first | rfl | (simp; done) | (simp [*]; done), by repeat (first | exact Drawn0.refl _ | apply Drawn0.step)⟩
    · rw [if_neg c6] at H
      have c6b0 : decide ((Go.bits .xor .u32 a1 a3) < (Go.bits .xor .u32 (Go.bits .xor .u32 a0 a2) (Go.bits .xor .u32 a1 a3))) = false := decide_eq_false c6
      clear c6
      obtain rfl := Option.some.inj H
      go_enter Try.func13, Try.ntmps13
      go_wp2
      go_ret
      exact ⟨by first | rfl | (simp; done) | (simp [*]; done), by repeat (first | exact Drawn0.refl _ | apply Drawn0.step)⟩
  · rw [if_neg c5] at H
    have c5b0 : decide ((Go.bits .xor .u32 a1 a3) < (Go.bits .xor .u32 a0 a2)) = false := decide_eq_false c5
    clear c5
    obtain rfl := Option.some.inj H
    go_enter Try.func13, Try.ntmps13
    go_wp2
    go_ret
    exact ⟨by first | rfl | (simp; done) | (simp [*]; done), by repeat (first | exact Drawn0.refl _ | apply Drawn0.step)⟩

end Go.Proofs.Ytabkoclmhdnjfaa.PAll
