/- The functions that the laws of this seat reach, as plain functions with proofs that the calls answer just so (written by a program of this session on the kit's print). -/
import Derived.Test.YtabkoclmhdnjfaaPAllx0
import Derived.Test.YtabkoclmhdnjfaaPAllx4
namespace Go.Proofs.Ytabkoclmhdnjfaa.PAll
open Go.RowKit Go.Proofs.YtabkoclmhdnjfaaW.PrintWords Go.Proofs.YtabkoclmhdnjfaaW.PrintLast Go.Proofs.YtabkoclmhdnjfaaW.PrintMore
attribute [local go_sem] max2_int min2_int max_two min_two max_three min_three max_four min_four   -- for this text's walks alone
set_option linter.unusedVariables false
set_option linter.unusedSimpArgs false

/-! ### counterpaneref24_Point: function 9 -/
def counterpaneref24_Point.l0 : Nat → Int → Int → Int → Int → Option (Int × Int)
  | 0, _, _, _, _ => none
  | k + 1, x0, x4, x5, x6 => if x6 ≥ 0 then ((counterpaneref24_bit.f x0 (wrap64 (2 * x6))).bind fun t103 => ((counterpaneref24_bit.f x0 (wrap64 ((wrap64 (2 * x6)) + 1))).bind fun t104 => (counterpaneref24_Point.l0 k x0 (IntKind.u64.wrap ((IntKind.u64.wrap (2 * x4)) + t103)) (IntKind.u64.wrap ((IntKind.u64.wrap (2 * x5)) + t104)) (wrap64 (x6 - 1))))) else (some (cvt .u32 x4, cvt .u32 x5))
def counterpaneref24_Point.f (k : Nat) (a0 : Int) : Option (Int × Int) := counterpaneref24_Point.l0 k a0 0 0 31
theorem counterpaneref24_Point.mono_l : ∀ k, (∀ y0 y1 y2 y3, LeO (counterpaneref24_Point.l0 k y0 y1 y2 y3) (counterpaneref24_Point.l0 (k + 1) y0 y1 y2 y3))
  | 0 => fun _ _ _ _ r h => by simp [counterpaneref24_Point.l0] at h
  | k + 1 => by
    have ih0 := counterpaneref24_Point.mono_l k
    · intro y0 y1 y2 y3
      unfold counterpaneref24_Point.l0
      repeat' first
      | (with_reducible exact ih0 _ _ _ _)
      | (with_reducible exact LeO.refl _)
      | (with_reducible exact LeO.none _)
      | (with_reducible refine LeO.ite ?_ ?_)
      | (with_reducible refine LeO.bind ?_ (fun _ => ?_))
      | exact ih0 _ _ _ _
      | exact LeO.none _
      | refine LeO.ite ?_ ?_
      | refine LeO.bind ?_ (fun _ => ?_)
theorem counterpaneref24_Point.mono : ∀ a0 k, LeO (counterpaneref24_Point.f k a0) (counterpaneref24_Point.f (k + 1) a0) := by
  intro a0 k
  have ih0 := counterpaneref24_Point.mono_l k
  unfold counterpaneref24_Point.f
  repeat' first
      | (with_reducible exact ih0 _ _ _ _)
      | (with_reducible exact LeO.refl _)
      | (with_reducible exact LeO.none _)
      | (with_reducible refine LeO.ite ?_ ?_)
      | (with_reducible refine LeO.bind ?_ (fun _ => ?_))
      | exact ih0 _ _ _ _
      | exact LeO.none _
      | refine LeO.ite ?_ ?_
      | refine LeO.bind ?_ (fun _ => ?_)
set_option maxHeartbeats 8000000 in
set_option maxRecDepth 100000 in
theorem counterpaneref24_Point.calls (k : Nat) (a0 : Int) (r1 : Int) (r2 : Int) (w : World) (h : counterpaneref24_Point.f k a0 = some (r1, r2)) :
    Calls Try.prog 9 #[.int .u64 a0] w fun e w' => e = .returned (.tuple #[.int .u32 r1, .int .u32 r2]) ∧ Drawn0 w w' := by
  have H : (counterpaneref24_Point.l0 k a0 0 0 31) = some (r1, r2) := h
  clear h
  have H' := Aside0.mk H
  clear H
  go_enter Try.func9, Try.ntmps9
  go_wp2
  go_loopg [4, 5, 6] k (fun kq v4 v5 v6 w' => ∃ (x4_1 : Int) (x5_1 : Int) (x6_1 : Int), v4 = .int .u64 x4_1 ∧ v5 = .int .u64 x5_1 ∧ v6 = .int .i64 x6_1 ∧ Aside0 (counterpaneref24_Point.l0 kq a0 x4_1 x5_1 x6_1 = some (r1, r2)) ∧ Aside0 (kq ≤ k) ∧ Drawn0 w w')
  case atStart => exact ⟨(0), (0), (31), (by first | rfl | (simp; done) | (simp [*]; done)), (by first | rfl | (simp; done) | (simp [*]; done)), (by first | rfl | (simp; done) | (simp [*]; done)), H', ⟨Nat.le_refl _⟩, by repeat (first | exact Drawn0.refl _ | apply Drawn0.step)⟩
  case round =>
    clear H'
    obtain ⟨x4_1, x5_1, x6_1, rfl, rfl, rfl, HA, HK1, ⟨m1, rfl⟩⟩ := hrel
    cases gk with
    | zero => exact absurd HA.out (by simp [counterpaneref24_Point.l0])
    | succ k1 =>
      have H := HA.out
      clear HA
      simp only [counterpaneref24_Point.l0] at H
      by_cases c2 : x6_1 ≥ 0
      · rw [if_pos c2] at H
        have c2b0 : decide (0 ≤ x6_1) = true := decide_eq_true c2
        clear c2
        replace H := Option.bind_eq_some_iff.mp H
        obtain ⟨t103, A30, H⟩ := H
        replace H : ((counterpaneref24_bit.f a0 (wrap64 ((wrap64 (2 * x6_1)) + 1))).bind fun t104 => (counterpaneref24_Point.l0 k1 a0 (IntKind.u64.wrap ((IntKind.u64.wrap (2 * x4_1)) + t103)) (IntKind.u64.wrap ((IntKind.u64.wrap (2 * x5_1)) + t104)) (wrap64 (x6_1 - 1)))) = some (r1, r2) := H
        have A3 := Aside0.mk A30
        clear A30
        replace H := Option.bind_eq_some_iff.mp H
        obtain ⟨t104, A40, H⟩ := H
        replace H : (counterpaneref24_Point.l0 k1 a0 (IntKind.u64.wrap ((IntKind.u64.wrap (2 * x4_1)) + t103)) (IntKind.u64.wrap ((IntKind.u64.wrap (2 * x5_1)) + t104)) (wrap64 (x6_1 - 1))) = some (r1, r2) := H
        have A4 := Aside0.mk A40
        clear A40
        have H' := Aside0.mk H
        clear H
        go_wp2_with (first | ((with_reducible refine gate_callee (f := 17) rfl ?_); refine goesL_ (some 16) rfl rfl Try.func17 (by kernel_rfl) rfl #[.int .u64 a0, .int .i64 (wrap64 (2 * x6_1))] rfl (by (try simp only [List.map_toArray, List.map_cons, List.map_nil]); first | done | rfl | (simp only [List.length_drop, List.length_take]; rfl) | (simp; done)) ?_; (with_reducible refine (counterpaneref24_bit.calls a0 (wrap64 (2 * x6_1)) t103 _ A3.out).mono ?_); rintro e w' ⟨rfl, ⟨nd, rfl⟩⟩; refine ⟨_, rfl, ?_⟩) | ((with_reducible refine gate_callee (f := 17) rfl ?_); refine goesL_ (some 24) rfl rfl Try.func17 (by kernel_rfl) rfl #[.int .u64 a0, .int .i64 (wrap64 ((wrap64 (2 * x6_1)) + 1))] rfl (by (try simp only [List.map_toArray, List.map_cons, List.map_nil]); first | done | rfl | (simp only [List.length_drop, List.length_take]; rfl) | (simp; done)) ?_; (with_reducible refine (counterpaneref24_bit.calls a0 (wrap64 ((wrap64 (2 * x6_1)) + 1)) t104 _ A4.out).mono ?_); rintro e w' ⟨rfl, ⟨nd, rfl⟩⟩; refine ⟨_, rfl, ?_⟩))
        go_roundg k1
        case measure => have := HK1.out; omega
        case rel => exact ⟨(IntKind.u64.wrap ((IntKind.u64.wrap (2 * x4_1)) + t103)), (IntKind.u64.wrap ((IntKind.u64.wrap (2 * x5_1)) + t104)), (wrap64 (x6_1 - 1)), (by first | rfl | (simp; done) | (simp [*]; done)), (by first | rfl | (simp; done) | (simp [*]; done)), (by first | rfl | (simp; done) | (simp [*]; done)), H', ⟨by have := HK1.out; omega⟩, by repeat (first | exact Drawn0.refl _ | apply Drawn0.step)⟩
      · rw [if_neg c2] at H
        have c2b0 : decide (0 ≤ x6_1) = false := decide_eq_false c2
        clear c2
        obtain ⟨ji5, hji5⟩ : ∃ j_ : Int, (cvt .u32 x4_1) = j_ := ⟨_, rfl⟩
        replace H : (some (ji5, cvt .u32 x5_1)) = some (r1, r2) := by first | (rw [hji5] at H; exact H) | (simp only [hji5] at H ⊢; exact H)
        have hji5_ : (x4_1 % 4294967296) = ji5 := hji5
        obtain ⟨ji6, hji6⟩ : ∃ j_ : Int, (cvt .u32 x5_1) = j_ := ⟨_, rfl⟩
        replace H : (some (ji5, ji6)) = some (r1, r2) := by first | (rw [hji6] at H; exact H) | (simp only [hji6] at H ⊢; exact H)
        have hji6_ : (x5_1 % 4294967296) = ji6 := hji6
        simp only [Option.some.injEq, Prod.mk.injEq] at H
        obtain ⟨rfl, rfl⟩ := H
        go_wp2
        go_ret2
        exact ⟨by first | rfl | (simp; done) | (simp only [← hji5, ← hji6] <;> (first | rfl | simp)) | (simp [*]; done), by repeat (first | exact Drawn0.refl _ | apply Drawn0.step)⟩

end Go.Proofs.Ytabkoclmhdnjfaa.PAll
