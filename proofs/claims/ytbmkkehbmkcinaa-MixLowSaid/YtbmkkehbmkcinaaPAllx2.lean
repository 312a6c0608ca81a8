/- The functions that the laws of this seat reach, as plain functions with proofs that the calls answer just so (written by a program of this session on the kit's print). -/
import Derived.Test.YtbmkkehbmkcinaaPAllx0
import Derived.Test.YtbmkkehbmkcinaaPAllx1
namespace Go.Proofs.Ytbmkkehbmkcinaa.PAll
open Go.RowKit Go.Proofs.YtbmkkehbmkcinaaW.PrintWords Go.Proofs.YtbmkkehbmkcinaaW.PrintLast Go.Proofs.YtbmkkehbmkcinaaW.PrintMore
attribute [local go_sem] max2_int min2_int max_two min_two max_three min_three max_four min_four   -- for this text's walks alone
set_option linter.unusedVariables false
set_option linter.unusedSimpArgs false

/-! ### mix_Unmix: function 6 -/
def mix_Unmix.f (k : Nat) (a0 : Int) : Option (Int) := (mix_unshift.f k a0 31).bind fun t101 => ((mix_unshift.f k (IntKind.u64.wrap (t101 * 3573116690164977347)) 27).bind fun t102 => ((mix_unshift.f k (IntKind.u64.wrap (t102 * 10871156337175269513)) 30).bind fun t103 => (some (IntKind.u64.wrap (t103 - 11400714819323198485)))))
theorem mix_Unmix.mono : ∀ a0 k, LeO (mix_Unmix.f k a0) (mix_Unmix.f (k + 1) a0) := by
  intro a0 k
  unfold mix_Unmix.f
  repeat' first
      | (with_reducible exact mix_unshift.mono _ _ _)
      | (with_reducible exact LeO.refl _)
      | (with_reducible exact LeO.none _)
      | (with_reducible refine LeO.ite ?_ ?_)
      | (with_reducible refine LeO.bind ?_ (fun _ => ?_))
      | exact mix_unshift.mono _ _ _
      | exact LeO.none _
      | refine LeO.ite ?_ ?_
      | refine LeO.bind ?_ (fun _ => ?_)
set_option maxHeartbeats 8000000 in
set_option maxRecDepth 100000 in
theorem mix_Unmix.calls (k : Nat) (a0 : Int) (r : Int) (w : World) (h : mix_Unmix.f k a0 = some r) :
    Calls Try.prog 6 #[.int .u64 a0] w fun e w' => e = .returned (.int .u64 r) ∧ Drawn0 w w' := by
  have H : ((mix_unshift.f k a0 31).bind fun t101 => ((mix_unshift.f k (IntKind.u64.wrap (t101 * 3573116690164977347)) 27).bind fun t102 => ((mix_unshift.f k (IntKind.u64.wrap (t102 * 10871156337175269513)) 30).bind fun t103 => (some (IntKind.u64.wrap (t103 - 11400714819323198485)))))) = some r := h
  clear h
  replace H := Option.bind_eq_some_iff.mp H
  obtain ⟨t101, A20, H⟩ := H
  replace H : ((mix_unshift.f k (IntKind.u64.wrap (t101 * 3573116690164977347)) 27).bind fun t102 => ((mix_unshift.f k (IntKind.u64.wrap (t102 * 10871156337175269513)) 30).bind fun t103 => (some (IntKind.u64.wrap (t103 - 11400714819323198485))))) = some r := H
  have A2 := Aside0.mk A20
  clear A20
  replace H := Option.bind_eq_some_iff.mp H
  obtain ⟨t102, A30, H⟩ := H
  replace H : ((mix_unshift.f k (IntKind.u64.wrap (t102 * 10871156337175269513)) 30).bind fun t103 => (some (IntKind.u64.wrap (t103 - 11400714819323198485)))) = some r := H
  have A3 := Aside0.mk A30
  clear A30
  replace H := Option.bind_eq_some_iff.mp H
  obtain ⟨t103, A40, H⟩ := H
  replace H : (some (IntKind.u64.wrap (t103 - 11400714819323198485))) = some r := H
  have A4 := Aside0.mk A40
  clear A40
  obtain rfl := Option.some.inj H
  go_enter Try.func6, Try.ntmps6
  go_wp2_with (first | ((with_reducible refine gate_callee (f := 15) rfl ?_); refine goesL_ (some 4) rfl rfl Try.func15 (by kernel_rfl) rfl #[.int .u64 a0, .int .i64 31] rfl (by (try simp only [List.map_toArray, List.map_cons, List.map_nil]); first | done | rfl | (simp only [List.length_drop, List.length_take]; rfl)) ?_; (with_reducible refine (mix_unshift.calls k a0 31 t101 _ A2.out).mono ?_); rintro e w' ⟨rfl, ⟨nd, rfl⟩⟩; refine ⟨_, rfl, ?_⟩) | ((with_reducible refine gate_callee (f := 15) rfl ?_); refine goesL_ (some 7) rfl rfl Try.func15 (by kernel_rfl) rfl #[.int .u64 (IntKind.u64.wrap (t101 * 3573116690164977347)), .int .i64 27] rfl (by (try simp only [List.map_toArray, List.map_cons, List.map_nil]); first | done | rfl | (simp only [List.length_drop, List.length_take]; rfl)) ?_; (with_reducible refine (mix_unshift.calls k (IntKind.u64.wrap (t101 * 3573116690164977347)) 27 t102 _ A3.out).mono ?_); rintro e w' ⟨rfl, ⟨nd, rfl⟩⟩; refine ⟨_, rfl, ?_⟩) | ((with_reducible refine gate_callee (f := 15) rfl ?_); refine goesL_ (some 10) rfl rfl Try.func15 (by kernel_rfl) rfl #[.int .u64 (IntKind.u64.wrap (t102 * 10871156337175269513)), .int .i64 30] rfl (by (try simp only [List.map_toArray, List.map_cons, List.map_nil]); first | done | rfl | (simp only [List.length_drop, List.length_take]; rfl)) ?_; (with_reducible refine (mix_unshift.calls k (IntKind.u64.wrap (t102 * 10871156337175269513)) 30 t103 _ A4.out).mono ?_); rintro e w' ⟨rfl, ⟨nd, rfl⟩⟩; refine ⟨_, rfl, ?_⟩))
  go_ret
  exact ⟨by first | rfl | (simp; done) | (simp [*]; done), by repeat (first | exact Drawn0.refl _ | apply Drawn0.step)⟩

end Go.Proofs.Ytbmkkehbmkcinaa.PAll
