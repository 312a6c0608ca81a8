/- The functions that the laws of this seat reach, as plain functions with proofs that the calls answer just so (written by a program of this session on the kit's print). -/
import Derived.Test.YtbmkkehbmkcinaaPAllx0
import Derived.Test.YtbmkkehbmkcinaaPAllx11
namespace Go.Proofs.Ytbmkkehbmkcinaa.PAll
open Go.RowKit Go.Proofs.YtbmkkehbmkcinaaW.PrintWords Go.Proofs.YtbmkkehbmkcinaaW.PrintLast Go.Proofs.YtbmkkehbmkcinaaW.PrintMore
attribute [local go_sem] max2_int min2_int max_two min_two max_three min_three max_four min_four   -- for this text's walks alone
set_option linter.unusedVariables false
set_option linter.unusedSimpArgs false

/-! ### counterpaneref03_Mix: function 18 -/
def counterpaneref03_Mix.f (a0 : Int) : Option (Int) := (counterpaneref03_over.f (IntKind.u64.wrap (a0 + 11400714819323198485)) 1073741824).bind fun t131 => ((counterpaneref03_over.f (IntKind.u64.wrap (t131 * 13787848793156543929)) 134217728).bind fun t132 => ((counterpaneref03_over.f (IntKind.u64.wrap (t132 * 10723151780598845931)) 2147483648).bind fun t133 => (some t133)))
set_option maxHeartbeats 8000000 in
set_option maxRecDepth 100000 in
theorem counterpaneref03_Mix.calls (a0 : Int) (r : Int) (w : World) (h : counterpaneref03_Mix.f a0 = some r) :
    Calls Try.prog 18 #[.int .u64 a0] w fun e w' => e = .returned (.int .u64 r) ∧ Drawn0 w w' := by
  have H : ((counterpaneref03_over.f (IntKind.u64.wrap (a0 + 11400714819323198485)) 1073741824).bind fun t131 => ((counterpaneref03_over.f (IntKind.u64.wrap (t131 * 13787848793156543929)) 134217728).bind fun t132 => ((counterpaneref03_over.f (IntKind.u64.wrap (t132 * 10723151780598845931)) 2147483648).bind fun t133 => (some t133)))) = some r := h
  clear h
  replace H := Option.bind_eq_some_iff.mp H
  obtain ⟨t131, A20, H⟩ := H
  replace H : ((counterpaneref03_over.f (IntKind.u64.wrap (t131 * 13787848793156543929)) 134217728).bind fun t132 => ((counterpaneref03_over.f (IntKind.u64.wrap (t132 * 10723151780598845931)) 2147483648).bind fun t133 => (some t133))) = some r := H
  have A2 := Aside0.mk A20
  clear A20
  replace H := Option.bind_eq_some_iff.mp H
  obtain ⟨t132, A30, H⟩ := H
  replace H : ((counterpaneref03_over.f (IntKind.u64.wrap (t132 * 10723151780598845931)) 2147483648).bind fun t133 => (some t133)) = some r := H
  have A3 := Aside0.mk A30
  clear A30
  replace H := Option.bind_eq_some_iff.mp H
  obtain ⟨t133, A40, H⟩ := H
  replace H : (some t133) = some r := H
  have A4 := Aside0.mk A40
  clear A40
  obtain rfl := Option.some.inj H
  go_enter Try.func18, Try.ntmps18
  go_wp2_with (first | ((with_reducible refine gate_callee (f := 19) rfl ?_); refine goesL_ (some 9) rfl rfl Try.func19 (by kernel_rfl) rfl #[.int .u64 (IntKind.u64.wrap (a0 + 11400714819323198485)), .int .u64 1073741824] rfl (by (try simp only [List.map_toArray, List.map_cons, List.map_nil]); first | done | rfl | (simp only [List.length_drop, List.length_take]; rfl)) ?_; (with_reducible refine (counterpaneref03_over.calls (IntKind.u64.wrap (a0 + 11400714819323198485)) 1073741824 t131 _ A2.out).mono ?_); rintro e w' ⟨rfl, ⟨nd, rfl⟩⟩; refine ⟨_, rfl, ?_⟩) | ((with_reducible refine gate_callee (f := 19) rfl ?_); refine goesL_ (some 12) rfl rfl Try.func19 (by kernel_rfl) rfl #[.int .u64 (IntKind.u64.wrap (t131 * 13787848793156543929)), .int .u64 134217728] rfl (by (try simp only [List.map_toArray, List.map_cons, List.map_nil]); first | done | rfl | (simp only [List.length_drop, List.length_take]; rfl)) ?_; (with_reducible refine (counterpaneref03_over.calls (IntKind.u64.wrap (t131 * 13787848793156543929)) 134217728 t132 _ A3.out).mono ?_); rintro e w' ⟨rfl, ⟨nd, rfl⟩⟩; refine ⟨_, rfl, ?_⟩) | ((with_reducible refine gate_callee (f := 19) rfl ?_); refine goesL_ (some 15) rfl rfl Try.func19 (by kernel_rfl) rfl #[.int .u64 (IntKind.u64.wrap (t132 * 10723151780598845931)), .int .u64 2147483648] rfl (by (try simp only [List.map_toArray, List.map_cons, List.map_nil]); first | done | rfl | (simp only [List.length_drop, List.length_take]; rfl)) ?_; (with_reducible refine (counterpaneref03_over.calls (IntKind.u64.wrap (t132 * 10723151780598845931)) 2147483648 t133 _ A4.out).mono ?_); rintro e w' ⟨rfl, ⟨nd, rfl⟩⟩; refine ⟨_, rfl, ?_⟩))
  go_ret
  exact ⟨by first | rfl | (simp; done) | (simp [*]; done), by repeat (first | exact Drawn0.refl _ | apply Drawn0.step)⟩

end Go.Proofs.Ytbmkkehbmkcinaa.PAll
