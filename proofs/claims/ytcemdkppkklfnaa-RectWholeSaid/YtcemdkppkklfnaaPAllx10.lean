/- The functions that the laws of this seat reach, as plain functions with proofs that the calls answer just so (written by a program of this session on the kit's print). -/
import Derived.Test.YtcemdkppkklfnaaPAllx0
namespace Go.Proofs.Ytcemdkppkklfnaa.PAll
open Go.RowKit Go.Proofs.YtcemdkppkklfnaaW.PrintWords Go.Proofs.YtcemdkppkklfnaaW.PrintLast Go.Proofs.YtcemdkppkklfnaaW.PrintMore
attribute [local go_sem] max2_int min2_int max_two min_two max_three min_three max_four min_four   -- for this text's walks alone
set_option linter.unusedVariables false
set_option linter.unusedSimpArgs false

/-! ### rect_Tile: function 15 -/
def rect_Tile.f (a0 : Int) (a1 : Int) : Option (Int) := some (wrap64 ((wrap64 ((wrap64 (a1 / 536870912)) * 8)) + (wrap64 (a0 / 536870912))))
set_option maxHeartbeats 8000000 in
set_option maxRecDepth 100000 in
theorem rect_Tile.calls (a0 : Int) (a1 : Int) (r : Int) (w : World) (h : rect_Tile.f a0 a1 = some r) :
    Calls Try.prog 15 #[.int .u32 a0, .int .u32 a1] w fun e w' => e = .returned (.int .i64 r) ∧ Drawn0 w w' := by
  have H : (some (wrap64 ((wrap64 ((wrap64 (a1 / 536870912)) * 8)) + (wrap64 (a0 / 536870912))))) = some r := h
  clear h
  obtain rfl := Option.some.inj H
  go_enter Try.func15, Try.ntmps15
  go_wp2
  go_ret
  exact ⟨by first | rfl | (simp; done) | (simp [*]; done), by repeat (first | exact Drawn0.refl _ | apply Drawn0.step)⟩

end Go.Proofs.Ytcemdkppkklfnaa.PAll
