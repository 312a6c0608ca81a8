/- The functions that the laws of this seat reach, as plain functions with proofs that the calls answer just so (written by a program of this session on the kit's print). -/
import Derived.Test.YtbmkkehbmkcinaaPAllx0
import Derived.Test.YtbmkkehbmkcinaaPAllx2
import Derived.Test.YtbmkkehbmkcinaaPAllx3
import Derived.Test.YtbmkkehbmkcinaaPAllx8
namespace Go.Proofs.Ytbmkkehbmkcinaa.PAll
open Go.RowKit Go.Proofs.YtbmkkehbmkcinaaW.PrintWords Go.Proofs.YtbmkkehbmkcinaaW.PrintLast Go.Proofs.YtbmkkehbmkcinaaW.PrintMore
attribute [local go_sem] max2_int min2_int max_two min_two max_three min_three max_four min_four   -- for this text's walks alone
set_option linter.unusedVariables false
set_option linter.unusedSimpArgs false

/-! ### counterpanelaw03_MixBack: function 3 -/
def counterpanelaw03_MixBack.f (k : Nat) (a0 : Int) (a1 : Int) : Option (Bool) := (mix_Mix.f a0).bind fun t124 => ((mix_Unmix.f k t124).bind fun t125 => (if t125 = a0 then ((mix_Unmix.f k a0).bind fun t126 => ((mix_Mix.f t126).bind fun t127 => (if t127 = a0 then ((mix_Mix.f a0).bind fun t128 => ((mix_Mix.f a1).bind fun t129 => (if ((t128 == t129) == (a0 == a1)) = true then ((counterpanelaw03_works.f k).bind fun t130 => (some t130)) else (none)))) else (none)))) else (none)))
theorem counterpanelaw03_MixBack.mono : ∀ a0 a1 k, LeO (counterpanelaw03_MixBack.f k a0 a1) (counterpanelaw03_MixBack.f (k + 1) a0 a1) := by
  intro a0 a1 k
  unfold counterpanelaw03_MixBack.f
  repeat' first
      | (with_reducible exact counterpanelaw03_works.mono _)
      | (with_reducible exact mix_Unmix.mono _ _)
      | (with_reducible exact LeO.refl _)
      | (with_reducible exact LeO.none _)
      | (with_reducible refine LeO.ite ?_ ?_)
      | (with_reducible refine LeO.bind ?_ (fun _ => ?_))
      | exact counterpanelaw03_works.mono _
      | exact mix_Unmix.mono _ _
      | exact LeO.none _
      | refine LeO.ite ?_ ?_
      | refine LeO.bind ?_ (fun _ => ?_)
set_option maxHeartbeats 8000000 in
set_option maxRecDepth 100000 in
theorem counterpanelaw03_MixBack.calls (k : Nat) (a0 : Int) (a1 : Int) (r : Bool) (w : World) (h : counterpanelaw03_MixBack.f k a0 a1 = some r) :
    Calls Try.prog 3 #[.int .u64 a0, .int .u64 a1] w fun e w' => e = .returned (.bool r) ∧ Below w.heap.size w w' := by
  have HB := Aside0.mk (Below.refl w.heap.size w)
  have H : ((mix_Mix.f a0).bind fun t124 => ((mix_Unmix.f k t124).bind fun t125 => (if t125 = a0 then ((mix_Unmix.f k a0).bind fun t126 => ((mix_Mix.f t126).bind fun t127 => (if t127 = a0 then ((mix_Mix.f a0).bind fun t128 => ((mix_Mix.f a1).bind fun t129 => (if ((t128 == t129) == (a0 == a1)) = true then ((counterpanelaw03_works.f k).bind fun t130 => (some t130)) else (none)))) else (none)))) else (none)))) = some r := h
  clear h
  replace H := Option.bind_eq_some_iff.mp H
  obtain ⟨t124, A30, H⟩ := H
  replace H : ((mix_Unmix.f k t124).bind fun t125 => (if t125 = a0 then ((mix_Unmix.f k a0).bind fun t126 => ((mix_Mix.f t126).bind fun t127 => (if t127 = a0 then ((mix_Mix.f a0).bind fun t128 => ((mix_Mix.f a1).bind fun t129 => (if ((t128 == t129) == (a0 == a1)) = true then ((counterpanelaw03_works.f k).bind fun t130 => (some t130)) else (none)))) else (none)))) else (none))) = some r := H
  have A3 := Aside0.mk A30
  clear A30
  replace H := Option.bind_eq_some_iff.mp H
  obtain ⟨t125, A40, H⟩ := H
  replace H : (if t125 = a0 then ((mix_Unmix.f k a0).bind fun t126 => ((mix_Mix.f t126).bind fun t127 => (if t127 = a0 then ((mix_Mix.f a0).bind fun t128 => ((mix_Mix.f a1).bind fun t129 => (if ((t128 == t129) == (a0 == a1)) = true then ((counterpanelaw03_works.f k).bind fun t130 => (some t130)) else (none)))) else (none)))) else (none)) = some r := H
  have A4 := Aside0.mk A40
  clear A40
  by_cases c5 : t125 = a0
  · rw [if_pos c5] at H
    have c5b0 : (t125 == a0) = true := beq_iff_eq.mpr c5
    have c5b1 : (t125 != a0) = false := bne_eq_false_iff_eq.mpr c5
    clear c5
    replace H := Option.bind_eq_some_iff.mp H
    obtain ⟨t126, A60, H⟩ := H
    replace H : ((mix_Mix.f t126).bind fun t127 => (if t127 = a0 then ((mix_Mix.f a0).bind fun t128 => ((mix_Mix.f a1).bind fun t129 => (if ((t128 == t129) == (a0 == a1)) = true then ((counterpanelaw03_works.f k).bind fun t130 => (some t130)) else (none)))) else (none))) = some r := H
    have A6 := Aside0.mk A60
    clear A60
    replace H := Option.bind_eq_some_iff.mp H
    obtain ⟨t127, A70, H⟩ := H
    replace H : (if t127 = a0 then ((mix_Mix.f a0).bind fun t128 => ((mix_Mix.f a1).bind fun t129 => (if ((t128 == t129) == (a0 == a1)) = true then ((counterpanelaw03_works.f k).bind fun t130 => (some t130)) else (none)))) else (none)) = some r := H
    have A7 := Aside0.mk A70
    clear A70
    by_cases c8 : t127 = a0
    · rw [if_pos c8] at H
      have c8b0 : (t127 == a0) = true := beq_iff_eq.mpr c8
      have c8b1 : (t127 != a0) = false := bne_eq_false_iff_eq.mpr c8
      clear c8
      replace H := Option.bind_eq_some_iff.mp H
      obtain ⟨t128, A90, H⟩ := H
      replace H : ((mix_Mix.f a1).bind fun t129 => (if ((t128 == t129) == (a0 == a1)) = true then ((counterpanelaw03_works.f k).bind fun t130 => (some t130)) else (none))) = some r := H
      have A9 := Aside0.mk A90
      clear A90
      replace H := Option.bind_eq_some_iff.mp H
      obtain ⟨t129, A100, H⟩ := H
      replace H : (if ((t128 == t129) == (a0 == a1)) = true then ((counterpanelaw03_works.f k).bind fun t130 => (some t130)) else (none)) = some r := H
      have A10 := Aside0.mk A100
      clear A100
      by_cases c11 : ((t128 == t129) == (a0 == a1)) = true
      · rw [if_pos c11] at H
        have c11b0 : ((t128 == t129) == (a0 == a1)) = true := c11
        (try (have c11b1 : decide ((t128 == t129) = (a0 == a1)) = true := by simpa using c11))
        (try (have c11b2 : ((t128 == t129) == (a0 == a1)) = true := by simpa using c11))
        clear c11
        replace H := Option.bind_eq_some_iff.mp H
        obtain ⟨t130, A120, H⟩ := H
        replace H : (some t130) = some r := H
        have A12 := Aside0.mk A120
        clear A120
        obtain rfl := Option.some.inj H
        go_enter Try.func3, Try.ntmps3
        go_wp2_with (first | ((with_reducible refine gate_callee (f := 7) rfl ?_); refine goesL_ (some 6) rfl rfl Try.func7 (by kernel_rfl) rfl #[.int .u64 a0] rfl (by (try simp only [List.map_toArray, List.map_cons, List.map_nil]); first | done | rfl | (simp only [List.length_drop, List.length_take]; rfl)) ?_; (with_reducible refine (mix_Mix.calls a0 t124 _ A3.out).mono ?_); rintro e w' ⟨rfl, ⟨nd, rfl⟩⟩; refine ⟨_, rfl, ?_⟩) | ((with_reducible refine gate_callee (f := 6) rfl ?_); refine goesL_ (some 7) rfl rfl Try.func6 (by kernel_rfl) rfl #[.int .u64 t124] rfl (by (try simp only [List.map_toArray, List.map_cons, List.map_nil]); first | done | rfl | (simp only [List.length_drop, List.length_take]; rfl)) ?_; (with_reducible refine (mix_Unmix.calls k t124 t125 _ A4.out).mono ?_); rintro e w' ⟨rfl, ⟨nd, rfl⟩⟩; refine ⟨_, rfl, ?_⟩) | (go_at_call 6; (with_reducible refine (mix_Unmix.calls k a0 t126 _ A6.out).mono ?_); rintro e w' ⟨rfl, ⟨nd, rfl⟩⟩) | (go_at_call 7; (with_reducible refine (mix_Mix.calls t126 t127 _ A7.out).mono ?_); rintro e w' ⟨rfl, ⟨nd, rfl⟩⟩) | (go_at_call 7; (with_reducible refine (mix_Mix.calls a0 t128 _ A9.out).mono ?_); rintro e w' ⟨rfl, ⟨nd, rfl⟩⟩) | (go_at_call 7; (with_reducible refine (mix_Mix.calls a1 t129 _ A10.out).mono ?_); rintro e w' ⟨rfl, ⟨nd, rfl⟩⟩) | (go_at_call 8; (with_reducible refine (counterpanelaw03_works.calls k  t130 _ A12.out).mono ?_); rintro e w13 ⟨rfl, hb⟩; have n0_ := Aside0.mk (below_step (by repeat (first | (with_reducible first | exact HB.out | apply below_alloc | apply pw_below_drewN | apply below_drew1) | exact HB.out)) hb); clear HB; have HB := n0_; clear n0_; (try clear hb); (try clear hb2); (try clear hk); (try clear hi)))
        go_ret
        exact ⟨by first | rfl | (simp [errW_none, errW_some] <;> rfl) | (simp [*, errW_none, errW_some] <;> rfl), by repeat (first | (with_reducible first | exact HB.out | apply below_alloc | apply pw_below_drewN | apply below_drew1) | exact HB.out)⟩
      · rw [if_neg c11] at H
        exact absurd H (by simp)
    · rw [if_neg c8] at H
      exact absurd H (by simp)
  · rw [if_neg c5] at H
    exact absurd H (by simp)

/-- THE ONE PURE STATEMENT of counterpanelaw03_MixBack: yours. -/
def counterpanelaw03_MixBack.Pure : Prop := ∀ (a0 : Int) (a1 : Int), (Lit.int .u64 a0).wf = true → (Lit.int .u64 a1).wf = true → ∃ k, counterpanelaw03_MixBack.f k a0 a1 = some true
theorem counterpanelaw03_MixBack.walk (P : counterpanelaw03_MixBack.Pure) (a0 : Int) (a1 : Int) (w : World) (w0 : (Lit.int .u64 a0).wf = true) (w1 : (Lit.int .u64 a1).wf = true) :
    Calls Try.prog 3 #[.int .u64 a0, .int .u64 a1] w fun e w' => e = .returned (.bool true) ∧ Below w.heap.size w w' := by
  obtain ⟨k, h⟩ := P a0 a1 w0 w1
  refine (counterpanelaw03_MixBack.calls k a0 a1 true w h).mono ?_
  rintro e w' ⟨rfl, hd⟩
  exact ⟨rfl, hd⟩

end Go.Proofs.Ytbmkkehbmkcinaa.PAll
