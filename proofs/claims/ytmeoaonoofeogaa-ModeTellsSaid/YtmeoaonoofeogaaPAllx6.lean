/- The functions that the laws of this seat reach, as plain functions with proofs that the calls answer just so (written by a program of this session on the kit's print). -/
import Derived.Test.YtmeoaonoofeogaaPAllx0
import Derived.Test.YtmeoaonoofeogaaPAllx1
import Derived.Test.YtmeoaonoofeogaaPAllx2
import Derived.Test.YtmeoaonoofeogaaPAllx3
import Derived.Test.YtmeoaonoofeogaaPAllx4
import Derived.Test.YtmeoaonoofeogaaPAllx5
namespace Go.Proofs.Ytmeoaonoofeogaa.PAll
open Go.RowKit Go.Proofs.YtmeoaonoofeogaaW.PrintWords Go.Proofs.YtmeoaonoofeogaaW.PrintLast Go.Proofs.YtmeoaonoofeogaaW.PrintMore
attribute [local go_sem] max2_int min2_int max_two min_two max_three min_three max_four min_four   -- for this text's walks alone
set_option linter.unusedVariables false
set_option linter.unusedSimpArgs false

/-! ### counterpanelaw10_ModeTells: function 3 -/
def counterpanelaw10_ModeTells.j0 : Nat → Int → Int → Bool → Option (Bool)
  | 0, _, _, _ => none
  | k + 1, x0, x1, x31 => if x31 = true then (some false) else ((mode_Join.f k x0 x1).bind fun t145 => ((counterpaneref10_Join.f k x0 x1).bind fun t146 => (if t145 = t146 then ((mode_Above.f x0).bind fun t147 => ((counterpaneref10_Above.f x0).bind fun t148 => (if t147 = t148 then ((mode_Name.f x0).bind fun t149 => ((mode_Right.f x0).bind fun t150 => (if ((t149.toList == ([] : List UInt8)) == (!t150)) = true then ((counterpanelaw10_works.f k).bind fun t151 => (some t151)) else (some false)))) else (some false)))) else (some false))))
def counterpanelaw10_ModeTells.f (k : Nat) (a0 : Int) (a1 : Int) : Option (Bool) := (mode_Right.f a0).bind fun t136 => (if a0 ≥ 0 then (if (t136 != (decide (a0 ≤ 5))) = true then (counterpanelaw10_ModeTells.j0 k a0 a1 true) else ((mode_Together.f a0 a1).bind fun t137 => ((counterpaneref10_Together.f k a0 a1).bind fun t138 => (if (t137 != t138) = true then (counterpanelaw10_ModeTells.j0 k a0 a1 true) else ((mode_Covers.f a0 a1).bind fun t139 => ((counterpaneref10_Covers.f k a0 a1).bind fun t140 => (counterpanelaw10_ModeTells.j0 k a0 a1 (t139 != t140)))))))) else (if (t136 != false) = true then (counterpanelaw10_ModeTells.j0 k a0 a1 true) else ((mode_Together.f a0 a1).bind fun t141 => ((counterpaneref10_Together.f k a0 a1).bind fun t142 => (if (t141 != t142) = true then (counterpanelaw10_ModeTells.j0 k a0 a1 true) else ((mode_Covers.f a0 a1).bind fun t143 => ((counterpaneref10_Covers.f k a0 a1).bind fun t144 => (counterpanelaw10_ModeTells.j0 k a0 a1 (t143 != t144)))))))))
theorem counterpanelaw10_ModeTells.mono_l : ∀ k, (∀ y0 y1 y2, LeO (counterpanelaw10_ModeTells.j0 k y0 y1 y2) (counterpanelaw10_ModeTells.j0 (k + 1) y0 y1 y2))
  | 0 => fun _ _ _ r h => by simp [counterpanelaw10_ModeTells.j0] at h
  | k + 1 => by
    have ih0 := counterpanelaw10_ModeTells.mono_l k
    · intro y0 y1 y2
      unfold counterpanelaw10_ModeTells.j0
      repeat' first
      | (with_reducible exact ih0 _ _ _)
      | (with_reducible exact counterpanelaw10_works.mono _)
      | (with_reducible exact counterpaneref10_Covers.mono _ _ _)
      | (with_reducible exact counterpaneref10_Join.mono _ _ _)
      | (with_reducible exact counterpaneref10_Together.mono _ _ _)
      | (with_reducible exact mode_Join.mono _ _ _)
      | (with_reducible exact LeO.refl _)
      | (with_reducible exact LeO.none _)
      | (with_reducible refine LeO.ite ?_ ?_)
      | (with_reducible refine LeO.bind ?_ (fun _ => ?_))
      | exact ih0 _ _ _
      | exact counterpanelaw10_works.mono _
      | exact counterpaneref10_Covers.mono _ _ _
      | exact counterpaneref10_Join.mono _ _ _
      | exact counterpaneref10_Together.mono _ _ _
      | exact mode_Join.mono _ _ _
      | exact LeO.none _
      | refine LeO.ite ?_ ?_
      | refine LeO.bind ?_ (fun _ => ?_)
theorem counterpanelaw10_ModeTells.mono : ∀ a0 a1 k, LeO (counterpanelaw10_ModeTells.f k a0 a1) (counterpanelaw10_ModeTells.f (k + 1) a0 a1) := by
  intro a0 a1 k
  have ih0 := counterpanelaw10_ModeTells.mono_l k
  unfold counterpanelaw10_ModeTells.f
  repeat' first
      | (with_reducible exact ih0 _ _ _)
      | (with_reducible exact counterpanelaw10_works.mono _)
      | (with_reducible exact counterpaneref10_Covers.mono _ _ _)
      | (with_reducible exact counterpaneref10_Join.mono _ _ _)
      | (with_reducible exact counterpaneref10_Together.mono _ _ _)
      | (with_reducible exact mode_Join.mono _ _ _)
      | (with_reducible exact LeO.refl _)
      | (with_reducible exact LeO.none _)
      | (with_reducible refine LeO.ite ?_ ?_)
      | (with_reducible refine LeO.bind ?_ (fun _ => ?_))
      | exact ih0 _ _ _
      | exact counterpanelaw10_works.mono _
      | exact counterpaneref10_Covers.mono _ _ _
      | exact counterpaneref10_Join.mono _ _ _
      | exact counterpaneref10_Together.mono _ _ _
      | exact mode_Join.mono _ _ _
      | exact LeO.none _
      | refine LeO.ite ?_ ?_
      | refine LeO.bind ?_ (fun _ => ?_)
set_option maxHeartbeats 8000000 in
set_option maxRecDepth 100000 in
theorem counterpanelaw10_ModeTells.calls (k : Nat) (a0 : Int) (a1 : Int) (r : Bool) (w : World) (h : counterpanelaw10_ModeTells.f k a0 a1 = some r) :
    Calls Try.prog 3 #[.int .i64 a0, .int .i64 a1] w fun e w' => e = .returned (.bool r) ∧ Below w.heap.size w w' := by
  have HB := Aside0.mk (Below.refl w.heap.size w)
  have H : ((mode_Right.f a0).bind fun t136 => (if a0 ≥ 0 then (if (t136 != (decide (a0 ≤ 5))) = true then (counterpanelaw10_ModeTells.j0 k a0 a1 true) else ((mode_Together.f a0 a1).bind fun t137 => ((counterpaneref10_Together.f k a0 a1).bind fun t138 => (if (t137 != t138) = true then (counterpanelaw10_ModeTells.j0 k a0 a1 true) else ((mode_Covers.f a0 a1).bind fun t139 => ((counterpaneref10_Covers.f k a0 a1).bind fun t140 => (counterpanelaw10_ModeTells.j0 k a0 a1 (t139 != t140)))))))) else (if (t136 != false) = true then (counterpanelaw10_ModeTells.j0 k a0 a1 true) else ((mode_Together.f a0 a1).bind fun t141 => ((counterpaneref10_Together.f k a0 a1).bind fun t142 => (if (t141 != t142) = true then (counterpanelaw10_ModeTells.j0 k a0 a1 true) else ((mode_Covers.f a0 a1).bind fun t143 => ((counterpaneref10_Covers.f k a0 a1).bind fun t144 => (counterpanelaw10_ModeTells.j0 k a0 a1 (t143 != t144)))))))))) = some r := h
  clear h
  have HC3 := Aside0.mk H
  clear H
  go_enter Try.func3, Try.ntmps3
  go_upto_region 1 with (fail)
  go_cut [31] (fun v31 wc => ∃ (kq : Nat) (x31_2 : Bool), v31 = .bool x31_2 ∧ Aside0 (counterpanelaw10_ModeTells.j0 kq a0 a1 x31_2 = some r) ∧ Aside0 (kq ≤ k) ∧ Aside0 (Below w.heap.size w wc))
  case first =>
    have H := HC3.out
    clear HC3
    replace H := Option.bind_eq_some_iff.mp H
    obtain ⟨t136, A40, H⟩ := H
    replace H : (if a0 ≥ 0 then (if (t136 != (decide (a0 ≤ 5))) = true then (counterpanelaw10_ModeTells.j0 k a0 a1 true) else ((mode_Together.f a0 a1).bind fun t137 => ((counterpaneref10_Together.f k a0 a1).bind fun t138 => (if (t137 != t138) = true then (counterpanelaw10_ModeTells.j0 k a0 a1 true) else ((mode_Covers.f a0 a1).bind fun t139 => ((counterpaneref10_Covers.f k a0 a1).bind fun t140 => (counterpanelaw10_ModeTells.j0 k a0 a1 (t139 != t140)))))))) else (if (t136 != false) = true then (counterpanelaw10_ModeTells.j0 k a0 a1 true) else ((mode_Together.f a0 a1).bind fun t141 => ((counterpaneref10_Together.f k a0 a1).bind fun t142 => (if (t141 != t142) = true then (counterpanelaw10_ModeTells.j0 k a0 a1 true) else ((mode_Covers.f a0 a1).bind fun t143 => ((counterpaneref10_Covers.f k a0 a1).bind fun t144 => (counterpanelaw10_ModeTells.j0 k a0 a1 (t143 != t144))))))))) = some r := H
    have A4 := Aside0.mk A40
    clear A40
    by_cases c5 : a0 ≥ 0
    · rw [if_pos c5] at H
      have c5b0 : decide (0 ≤ a0) = true := decide_eq_true c5
      clear c5
      (first | rw [c5b0] | (simp only [i64_w, i32_w]; rw [c5b0]) | skip)
      by_cases c6 : (t136 != (decide (a0 ≤ 5))) = true
      · rw [if_pos c6] at H
        have c6b0 : (t136 != (decide (a0 ≤ 5))) = true := c6
        (try (have c6b1 : decide (t136 = (decide (a0 ≤ 5))) = false := by simpa using c6))
        (try (have c6b2 : (t136 == (decide (a0 ≤ 5))) = false := by simpa using c6))
        (try (have c6b3 : ¬ (t136 = (decide (a0 ≤ 5))) := by simpa using c6))
        clear c6
        have H' := Aside0.mk H
        clear H
        go_wp2_with (first | ((with_reducible refine gate_callee (f := 5) rfl ?_); refine goesL_ (some 6) rfl rfl Try.func5 (by kernel_rfl) rfl #[.int .i64 a0] rfl (by (try simp only [List.map_toArray, List.map_cons, List.map_nil]); first | done | rfl | (simp only [List.length_drop, List.length_take]; rfl)) ?_; (with_reducible refine (mode_Right.calls a0 t136 _ A4.out).mono ?_); rintro e w' ⟨rfl, ⟨nd, rfl⟩⟩; refine ⟨_, rfl, ?_⟩))
        go_meet
        case rel => exact ⟨_, (true), (by first | rfl | (simp; done) | (simp [*]; done)), H', ⟨by first | omega | exact Nat.le_refl _⟩, ⟨by repeat (first | (with_reducible first | exact HB.out | apply below_alloc | apply pw_below_drewN | apply below_drew1) | exact HB.out)⟩⟩
      · rw [if_neg c6] at H
        have c6b0 : (t136 != (decide (a0 ≤ 5))) = false := by simpa using c6
        (try (have c6b1 : decide (t136 = (decide (a0 ≤ 5))) = true := by simpa using c6))
        (try (have c6b2 : (t136 == (decide (a0 ≤ 5))) = true := by simpa using c6))
        clear c6
        replace H := Option.bind_eq_some_iff.mp H
        obtain ⟨t137, A70, H⟩ := H
        replace H : ((counterpaneref10_Together.f k a0 a1).bind fun t138 => (if (t137 != t138) = true then (counterpanelaw10_ModeTells.j0 k a0 a1 true) else ((mode_Covers.f a0 a1).bind fun t139 => ((counterpaneref10_Covers.f k a0 a1).bind fun t140 => (counterpanelaw10_ModeTells.j0 k a0 a1 (t139 != t140)))))) = some r := H
        have A7 := Aside0.mk A70
        clear A70
        replace H := Option.bind_eq_some_iff.mp H
        obtain ⟨t138, A80, H⟩ := H
        replace H : (if (t137 != t138) = true then (counterpanelaw10_ModeTells.j0 k a0 a1 true) else ((mode_Covers.f a0 a1).bind fun t139 => ((counterpaneref10_Covers.f k a0 a1).bind fun t140 => (counterpanelaw10_ModeTells.j0 k a0 a1 (t139 != t140))))) = some r := H
        have A8 := Aside0.mk A80
        clear A80
        by_cases c9 : (t137 != t138) = true
        · rw [if_pos c9] at H
          have c9b0 : (t137 != t138) = true := c9
          (try (have c9b1 : decide (t137 = t138) = false := by simpa using c9))
          (try (have c9b2 : (t137 == t138) = false := by simpa using c9))
          (try (have c9b3 : ¬ (t137 = t138) := by simpa using c9))
          clear c9
          have H' := Aside0.mk H
          clear H
          go_wp2_with (first | ((with_reducible refine gate_callee (f := 5) rfl ?_); refine goesL_ (some 6) rfl rfl Try.func5 (by kernel_rfl) rfl #[.int .i64 a0] rfl (by (try simp only [List.map_toArray, List.map_cons, List.map_nil]); first | done | rfl | (simp only [List.length_drop, List.length_take]; rfl)) ?_; (with_reducible refine (mode_Right.calls a0 t136 _ A4.out).mono ?_); rintro e w' ⟨rfl, ⟨nd, rfl⟩⟩; refine ⟨_, rfl, ?_⟩) | (go_at_call 6; (with_reducible refine (mode_Together.calls a0 a1 t137 _ A7.out).mono ?_); rintro e w10 ⟨rfl, hb⟩; have n0_ := Aside0.mk (below_step (by repeat (first | (with_reducible first | exact HB.out | apply below_alloc | apply pw_below_drewN | apply below_drew1) | exact HB.out)) hb); clear HB; have HB := n0_; clear n0_; (try clear hb); (try clear hb2); (try clear hk); (try clear hi)) | (go_at_call 7; (with_reducible refine (counterpaneref10_Together.calls k a0 a1 t138 _ A8.out).mono ?_); rintro e w' ⟨rfl, ⟨nd, rfl⟩⟩))
          go_meet
          case rel => exact ⟨_, (true), (by first | rfl | (simp; done) | (simp [*]; done)), H', ⟨by first | omega | exact Nat.le_refl _⟩, ⟨by repeat (first | (with_reducible first | exact HB.out | apply below_alloc | apply pw_below_drewN | apply below_drew1) | exact HB.out)⟩⟩
        · rw [if_neg c9] at H
          have c9b0 : (t137 != t138) = false := by simpa using c9
          (try (have c9b1 : decide (t137 = t138) = true := by simpa using c9))
          (try (have c9b2 : (t137 == t138) = true := by simpa using c9))
          clear c9
          replace H := Option.bind_eq_some_iff.mp H
          obtain ⟨t139, A110, H⟩ := H
          replace H : ((counterpaneref10_Covers.f k a0 a1).bind fun t140 => (counterpanelaw10_ModeTells.j0 k a0 a1 (t139 != t140))) = some r := H
          have A11 := Aside0.mk A110
          clear A110
          replace H := Option.bind_eq_some_iff.mp H
          obtain ⟨t140, A120, H⟩ := H
          replace H : (counterpanelaw10_ModeTells.j0 k a0 a1 (t139 != t140)) = some r := H
          have A12 := Aside0.mk A120
          clear A120
          have H' := Aside0.mk H
          clear H
          go_wp2_with (first | ((with_reducible refine gate_callee (f := 5) rfl ?_); refine goesL_ (some 6) rfl rfl Try.func5 (by kernel_rfl) rfl #[.int .i64 a0] rfl (by (try simp only [List.map_toArray, List.map_cons, List.map_nil]); first | done | rfl | (simp only [List.length_drop, List.length_take]; rfl)) ?_; (with_reducible refine (mode_Right.calls a0 t136 _ A4.out).mono ?_); rintro e w' ⟨rfl, ⟨nd, rfl⟩⟩; refine ⟨_, rfl, ?_⟩) | (go_at_call 6; (with_reducible refine (mode_Together.calls a0 a1 t137 _ A7.out).mono ?_); rintro e w13 ⟨rfl, hb⟩; have n0_ := Aside0.mk (below_step (by repeat (first | (with_reducible first | exact HB.out | apply below_alloc | apply pw_below_drewN | apply below_drew1) | exact HB.out)) hb); clear HB; have HB := n0_; clear n0_; (try clear hb); (try clear hb2); (try clear hk); (try clear hi)) | (go_at_call 7; (with_reducible refine (counterpaneref10_Together.calls k a0 a1 t138 _ A8.out).mono ?_); rintro e w' ⟨rfl, ⟨nd, rfl⟩⟩) | (go_at_call 8; (with_reducible refine (mode_Covers.calls a0 a1 t139 _ A11.out).mono ?_); rintro e w14 ⟨rfl, hb⟩; have n0_ := Aside0.mk (below_step (by repeat (first | (with_reducible first | exact HB.out | apply below_alloc | apply pw_below_drewN | apply below_drew1) | exact HB.out)) hb); clear HB; have HB := n0_; clear n0_; (try clear hb); (try clear hb2); (try clear hk); (try clear hi)) | (go_at_call 9; (with_reducible refine (counterpaneref10_Covers.calls k a0 a1 t140 _ A12.out).mono ?_); rintro e w' ⟨rfl, ⟨nd, rfl⟩⟩))
          go_meet
          case rel => exact ⟨_, ((t139 != t140)), (by first | rfl | (simp; done) | (simp [*]; done)), H', ⟨by first | omega | exact Nat.le_refl _⟩, ⟨by repeat (first | (with_reducible first | exact HB.out | apply below_alloc | apply pw_below_drewN | apply below_drew1) | exact HB.out)⟩⟩
    · rw [if_neg c5] at H
      have c5b0 : decide (0 ≤ a0) = false := decide_eq_false c5
      clear c5
      (first | rw [c5b0] | (simp only [i64_w, i32_w]; rw [c5b0]) | skip)
      by_cases c15 : (t136 != false) = true
      · rw [if_pos c15] at H
        have c15b0 : (t136 != false) = true := c15
        (try (have c15b1 : decide (t136 = false) = false := by simpa using c15))
        (try (have c15b2 : (t136 == false) = false := by simpa using c15))
        (try (have c15b3 : ¬ (t136 = false) := by simpa using c15))
        clear c15
        have H' := Aside0.mk H
        clear H
        go_wp2_with (first | ((with_reducible refine gate_callee (f := 5) rfl ?_); refine goesL_ (some 6) rfl rfl Try.func5 (by kernel_rfl) rfl #[.int .i64 a0] rfl (by (try simp only [List.map_toArray, List.map_cons, List.map_nil]); first | done | rfl | (simp only [List.length_drop, List.length_take]; rfl)) ?_; (with_reducible refine (mode_Right.calls a0 t136 _ A4.out).mono ?_); rintro e w' ⟨rfl, ⟨nd, rfl⟩⟩; refine ⟨_, rfl, ?_⟩))
        go_meet
        case rel => exact ⟨_, (true), (by first | rfl | (simp; done) | (simp [*]; done)), H', ⟨by first | omega | exact Nat.le_refl _⟩, ⟨by repeat (first | (with_reducible first | exact HB.out | apply below_alloc | apply pw_below_drewN | apply below_drew1) | exact HB.out)⟩⟩
      · rw [if_neg c15] at H
        have c15b0 : (t136 != false) = false := by simpa using c15
        (try (have c15b1 : decide (t136 = false) = true := by simpa using c15))
        (try (have c15b2 : (t136 == false) = true := by simpa using c15))
        clear c15
        replace H := Option.bind_eq_some_iff.mp H
        obtain ⟨t141, A160, H⟩ := H
        replace H : ((counterpaneref10_Together.f k a0 a1).bind fun t142 => (if (t141 != t142) = true then (counterpanelaw10_ModeTells.j0 k a0 a1 true) else ((mode_Covers.f a0 a1).bind fun t143 => ((counterpaneref10_Covers.f k a0 a1).bind fun t144 => (counterpanelaw10_ModeTells.j0 k a0 a1 (t143 != t144)))))) = some r := H
        have A16 := Aside0.mk A160
        clear A160
        replace H := Option.bind_eq_some_iff.mp H
        obtain ⟨t142, A170, H⟩ := H
        replace H : (if (t141 != t142) = true then (counterpanelaw10_ModeTells.j0 k a0 a1 true) else ((mode_Covers.f a0 a1).bind fun t143 => ((counterpaneref10_Covers.f k a0 a1).bind fun t144 => (counterpanelaw10_ModeTells.j0 k a0 a1 (t143 != t144))))) = some r := H
        have A17 := Aside0.mk A170
        clear A170
        by_cases c18 : (t141 != t142) = true
        · rw [if_pos c18] at H
          have c18b0 : (t141 != t142) = true := c18
          (try (have c18b1 : decide (t141 = t142) = false := by simpa using c18))
          (try (have c18b2 : (t141 == t142) = false := by simpa using c18))
          (try (have c18b3 : ¬ (t141 = t142) := by simpa using c18))
          clear c18
          have H' := Aside0.mk H
          clear H
          go_wp2_with (first | ((with_reducible refine gate_callee (f := 5) rfl ?_); refine goesL_ (some 6) rfl rfl Try.func5 (by kernel_rfl) rfl #[.int .i64 a0] rfl (by (try simp only [List.map_toArray, List.map_cons, List.map_nil]); first | done | rfl | (simp only [List.length_drop, List.length_take]; rfl)) ?_; (with_reducible refine (mode_Right.calls a0 t136 _ A4.out).mono ?_); rintro e w' ⟨rfl, ⟨nd, rfl⟩⟩; refine ⟨_, rfl, ?_⟩) | (go_at_call 6; (with_reducible refine (mode_Together.calls a0 a1 t141 _ A16.out).mono ?_); rintro e w19 ⟨rfl, hb⟩; have n0_ := Aside0.mk (below_step (by repeat (first | (with_reducible first | exact HB.out | apply below_alloc | apply pw_below_drewN | apply below_drew1) | exact HB.out)) hb); clear HB; have HB := n0_; clear n0_; (try clear hb); (try clear hb2); (try clear hk); (try clear hi)) | (go_at_call 7; (with_reducible refine (counterpaneref10_Together.calls k a0 a1 t142 _ A17.out).mono ?_); rintro e w' ⟨rfl, ⟨nd, rfl⟩⟩))
          go_meet
          case rel => exact ⟨_, (true), (by first | rfl | (simp; done) | (simp [*]; done)), H', ⟨by first | omega | exact Nat.le_refl _⟩, ⟨by repeat (first | (with_reducible first | exact HB.out | apply below_alloc | apply pw_below_drewN | apply below_drew1) | exact HB.out)⟩⟩
        · rw [if_neg c18] at H
          have c18b0 : (t141 != t142) = false := by simpa using c18
          (try (have c18b1 : decide (t141 = t142) = true := by simpa using c18))
          (try (have c18b2 : (t141 == t142) = true := by simpa using c18))
          clear c18
          replace H := Option.bind_eq_some_iff.mp H
          obtain ⟨t143, A200, H⟩ := H
          replace H : ((counterpaneref10_Covers.f k a0 a1).bind fun t144 => (counterpanelaw10_ModeTells.j0 k a0 a1 (t143 != t144))) = some r := H
          have A20 := Aside0.mk A200
          clear A200
          replace H := Option.bind_eq_some_iff.mp H
          obtain ⟨t144, A210, H⟩ := H
          replace H : (counterpanelaw10_ModeTells.j0 k a0 a1 (t143 != t144)) = some r := H
          have A21 := Aside0.mk A210
          clear A210
          have H' := Aside0.mk H
          clear H
          go_wp2_with (first | ((with_reducible refine gate_callee (f := 5) rfl ?_); refine goesL_ (some 6) rfl rfl Try.func5 (by kernel_rfl) rfl #[.int .i64 a0] rfl (by (try simp only [List.map_toArray, List.map_cons, List.map_nil]); first | done | rfl | (simp only [List.length_drop, List.length_take]; rfl)) ?_; (with_reducible refine (mode_Right.calls a0 t136 _ A4.out).mono ?_); rintro e w' ⟨rfl, ⟨nd, rfl⟩⟩; refine ⟨_, rfl, ?_⟩) | (go_at_call 6; (with_reducible refine (mode_Together.calls a0 a1 t141 _ A16.out).mono ?_); rintro e w22 ⟨rfl, hb⟩; have n0_ := Aside0.mk (below_step (by repeat (first | (with_reducible first | exact HB.out | apply below_alloc | apply pw_below_drewN | apply below_drew1) | exact HB.out)) hb); clear HB; have HB := n0_; clear n0_; (try clear hb); (try clear hb2); (try clear hk); (try clear hi)) | (go_at_call 7; (with_reducible refine (counterpaneref10_Together.calls k a0 a1 t142 _ A17.out).mono ?_); rintro e w' ⟨rfl, ⟨nd, rfl⟩⟩) | (go_at_call 8; (with_reducible refine (mode_Covers.calls a0 a1 t143 _ A20.out).mono ?_); rintro e w23 ⟨rfl, hb⟩; have n0_ := Aside0.mk (below_step (by repeat (first | (with_reducible first | exact HB.out | apply below_alloc | apply pw_below_drewN | apply below_drew1) | exact HB.out)) hb); clear HB; have HB := n0_; clear n0_; (try clear hb); (try clear hb2); (try clear hk); (try clear hi)) | (go_at_call 9; (with_reducible refine (counterpaneref10_Covers.calls k a0 a1 t144 _ A21.out).mono ?_); rintro e w' ⟨rfl, ⟨nd, rfl⟩⟩))
          go_meet
          case rel => exact ⟨_, ((t143 != t144)), (by first | rfl | (simp; done) | (simp [*]; done)), H', ⟨by first | omega | exact Nat.le_refl _⟩, ⟨by repeat (first | (with_reducible first | exact HB.out | apply below_alloc | apply pw_below_drewN | apply below_drew1) | exact HB.out)⟩⟩
  case rest =>
    clear HC3
    try clear c1
    try clear p2
    try clear c3
    try clear c5
    try clear c5b0
    try clear c6
    try clear c6b0
    try clear c6b1
    try clear c6b2
    try clear c9
    try clear c9b0
    try clear c9b1
    try clear c9b2
    try clear c15
    try clear c15b0
    try clear c15b1
    try clear c15b2
    try clear c18
    try clear c18b0
    try clear c18b1
    try clear c18b2
    obtain ⟨kq, x31_2, rfl, HA, HJ2, HB⟩ := hcut
    cases kq with
    | zero => exact absurd HA.out (by simp [counterpanelaw10_ModeTells.j0])
    | succ kj2 =>
      have H := HA.out
      clear HA
      simp only [counterpanelaw10_ModeTells.j0] at H
      by_cases c24 : x31_2 = true
      · subst c24
        have H1 : (some false) = some r := by rw [if_pos rfl] at H; exact H
        clear H
        have H := H1
        clear H1
        obtain rfl := Option.some.inj H
        go_wp2
        go_ret
        exact ⟨by first | rfl | (simp [errW_none, errW_some] <;> rfl) | (simp [*, errW_none, errW_some] <;> rfl), by repeat (first | (with_reducible first | exact HB.out | apply below_alloc | apply pw_below_drewN | apply below_drew1) | exact HB.out)⟩
      · replace c24 := Bool.eq_false_iff.mpr c24
        subst c24
        have H1 : ((mode_Join.f kj2 a0 a1).bind fun t145 => ((counterpaneref10_Join.f kj2 a0 a1).bind fun t146 => (if t145 = t146 then ((mode_Above.f a0).bind fun t147 => ((counterpaneref10_Above.f a0).bind fun t148 => (if t147 = t148 then ((mode_Name.f a0).bind fun t149 => ((mode_Right.f a0).bind fun t150 => (if ((t149.toList == ([] : List UInt8)) == (!t150)) = true then ((counterpanelaw10_works.f kj2).bind fun t151 => (some t151)) else (some false)))) else (some false)))) else (some false)))) = some r := by rw [if_neg (show ¬ (false = true) by decide)] at H; exact H
        clear H
        have H := H1
        clear H1
        replace H := Option.bind_eq_some_iff.mp H
        obtain ⟨t145, A250, H⟩ := H
        replace H : ((counterpaneref10_Join.f kj2 a0 a1).bind fun t146 => (if t145 = t146 then ((mode_Above.f a0).bind fun t147 => ((counterpaneref10_Above.f a0).bind fun t148 => (if t147 = t148 then ((mode_Name.f a0).bind fun t149 => ((mode_Right.f a0).bind fun t150 => (if ((t149.toList == ([] : List UInt8)) == (!t150)) = true then ((counterpanelaw10_works.f kj2).bind fun t151 => (some t151)) else (some false)))) else (some false)))) else (some false))) = some r := H
        have A25 := Aside0.mk A250
        clear A250
        replace H := Option.bind_eq_some_iff.mp H
        obtain ⟨t146, A260, H⟩ := H
        replace H : (if t145 = t146 then ((mode_Above.f a0).bind fun t147 => ((counterpaneref10_Above.f a0).bind fun t148 => (if t147 = t148 then ((mode_Name.f a0).bind fun t149 => ((mode_Right.f a0).bind fun t150 => (if ((t149.toList == ([] : List UInt8)) == (!t150)) = true then ((counterpanelaw10_works.f kj2).bind fun t151 => (some t151)) else (some false)))) else (some false)))) else (some false)) = some r := H
        have A26 := Aside0.mk A260
        clear A260
        by_cases c27 : t145 = t146
        · rw [if_pos c27] at H
          have c27b0 : (t145 == t146) = true := beq_iff_eq.mpr c27
          have c27b1 : (t145 != t146) = false := bne_eq_false_iff_eq.mpr c27
          clear c27
          replace H := Option.bind_eq_some_iff.mp H
          obtain ⟨t147, A280, H⟩ := H
          replace H : ((counterpaneref10_Above.f a0).bind fun t148 => (if t147 = t148 then ((mode_Name.f a0).bind fun t149 => ((mode_Right.f a0).bind fun t150 => (if ((t149.toList == ([] : List UInt8)) == (!t150)) = true then ((counterpanelaw10_works.f kj2).bind fun t151 => (some t151)) else (some false)))) else (some false))) = some r := H
          have A28 := Aside0.mk A280
          clear A280
          replace H := Option.bind_eq_some_iff.mp H
          obtain ⟨t148, A290, H⟩ := H
          replace H : (if t147 = t148 then ((mode_Name.f a0).bind fun t149 => ((mode_Right.f a0).bind fun t150 => (if ((t149.toList == ([] : List UInt8)) == (!t150)) = true then ((counterpanelaw10_works.f kj2).bind fun t151 => (some t151)) else (some false)))) else (some false)) = some r := H
          have A29 := Aside0.mk A290
          clear A290
          by_cases c30 : t147 = t148
          · rw [if_pos c30] at H
            have c30b0 : (t147 == t148) = true := beq_iff_eq.mpr c30
            have c30b1 : (t147 != t148) = false := bne_eq_false_iff_eq.mpr c30
            clear c30
            replace H := Option.bind_eq_some_iff.mp H
            obtain ⟨t149, A310, H⟩ := H
            replace H : ((mode_Right.f a0).bind fun t150 => (if ((t149.toList == ([] : List UInt8)) == (!t150)) = true then ((counterpanelaw10_works.f kj2).bind fun t151 => (some t151)) else (some false))) = some r := H
            have A31 := Aside0.mk A310
            clear A310
            replace H := Option.bind_eq_some_iff.mp H
            obtain ⟨t150, A320, H⟩ := H
            replace H : (if ((t149.toList == ([] : List UInt8)) == (!t150)) = true then ((counterpanelaw10_works.f kj2).bind fun t151 => (some t151)) else (some false)) = some r := H
            have A32 := Aside0.mk A320
            clear A320
            by_cases c33 : ((t149.toList == ([] : List UInt8)) == (!t150)) = true
            · rw [if_pos c33] at H
              have c33b0 : ((t149.toList == ([] : List UInt8)) == (!t150)) = true := c33
              (try (have c33b1 : decide ((t149.toList == ([] : List UInt8)) = (!t150)) = true := by simpa using c33))
              (try (have c33b2 : ((t149.toList == ([] : List UInt8)) == (!t150)) = true := by simpa using c33))
              (try (have c33b3 : t149.toList.isEmpty = (!t150) := by simpa using c33))
              clear c33
              replace H := Option.bind_eq_some_iff.mp H
              obtain ⟨t151, A340, H⟩ := H
              replace H : (some t151) = some r := H
              have A34 := Aside0.mk A340
              clear A340
              obtain rfl := Option.some.inj H
              go_wp2_with (first | ((with_reducible refine gate_callee (f := 10) rfl ?_); refine goesL_ (some 34) rfl rfl Try.func10 (by kernel_rfl) rfl #[.int .i64 a0, .int .i64 a1] rfl (by (try simp only [List.map_toArray, List.map_cons, List.map_nil]); first | done | rfl | (simp only [List.length_drop, List.length_take]; rfl)) ?_; (with_reducible refine (mode_Join.calls kj2 a0 a1 t145 _ A25.out).mono ?_); rintro e w35 ⟨rfl, hb⟩; refine ⟨_, rfl, ?_⟩; have n0_ := Aside0.mk (below_step (by repeat (first | (with_reducible first | exact HB.out | apply below_alloc | apply pw_below_drewN | apply below_drew1) | exact HB.out)) hb); clear HB; have HB := n0_; clear n0_; (try clear hb); (try clear hb2); (try clear hk); (try clear hi)) | ((with_reducible refine gate_callee (f := 11) rfl ?_); refine goesL_ (some 37) rfl rfl Try.func11 (by kernel_rfl) rfl #[.int .i64 a0, .int .i64 a1] rfl (by (try simp only [List.map_toArray, List.map_cons, List.map_nil]); first | done | rfl | (simp only [List.length_drop, List.length_take]; rfl)) ?_; (with_reducible refine (counterpaneref10_Join.calls kj2 a0 a1 t146 _ A26.out).mono ?_); rintro e w' ⟨rfl, ⟨nd, rfl⟩⟩; refine ⟨_, rfl, ?_⟩) | (go_at_call 12; (with_reducible refine (mode_Above.calls a0 t147 _ A28.out).mono ?_); rintro e w' ⟨rfl, ⟨nd, rfl⟩⟩) | (go_at_call 13; (with_reducible refine (counterpaneref10_Above.calls a0 t148 _ A29.out).mono ?_); rintro e w' ⟨rfl, ⟨nd, rfl⟩⟩) | (go_at_call 14; (with_reducible refine (mode_Name.calls a0 t149 _ A31.out).mono ?_); rintro e w36 ⟨rfl, hb⟩; have n0_ := Aside0.mk (below_step (by repeat (first | (with_reducible first | exact HB.out | apply below_alloc | apply pw_below_drewN | apply below_drew1) | exact HB.out)) hb); clear HB; have HB := n0_; clear n0_; (try clear hb); (try clear hb2); (try clear hk); (try clear hi)) | (go_at_call 5; (with_reducible refine (mode_Right.calls a0 t150 _ A32.out).mono ?_); rintro e w' ⟨rfl, ⟨nd, rfl⟩⟩) | (go_at_call 15; (with_reducible refine (counterpanelaw10_works.calls kj2  t151 _ A34.out).mono ?_); rintro e w37 ⟨rfl, hb⟩; have n0_ := Aside0.mk (below_step (by repeat (first | (with_reducible first | exact HB.out | apply below_alloc | apply pw_below_drewN | apply below_drew1) | exact HB.out)) hb); clear HB; have HB := n0_; clear n0_; (try clear hb); (try clear hb2); (try clear hk); (try clear hi)))
              go_ret
              exact ⟨by first | rfl | (simp [errW_none, errW_some] <;> rfl) | (simp [*, errW_none, errW_some] <;> rfl), by repeat (first | (with_reducible first | exact HB.out | apply below_alloc | apply pw_below_drewN | apply below_drew1) | exact HB.out)⟩
            · rw [if_neg c33] at H
              have c33b0 : ((t149.toList == ([] : List UInt8)) == (!t150)) = false := by simpa using c33
              (try (have c33b1 : decide ((t149.toList == ([] : List UInt8)) = (!t150)) = false := by simpa using c33))
              (try (have c33b2 : ((t149.toList == ([] : List UInt8)) == (!t150)) = false := by simpa using c33))
              (try (have c33b3 : ¬ ((t149.toList == ([] : List UInt8)) = (!t150)) := by simpa using c33))
              (try (have c33b4 : ¬ (t149.toList.isEmpty = (!t150)) := by simpa using c33))
              clear c33
              obtain rfl := Option.some.inj H
              go_wp2_with (first | ((with_reducible refine gate_callee (f := 10) rfl ?_); refine goesL_ (some 34) rfl rfl Try.func10 (by kernel_rfl) rfl #[.int .i64 a0, .int .i64 a1] rfl (by (try simp only [List.map_toArray, List.map_cons, List.map_nil]); first | done | rfl | (simp only [List.length_drop, List.length_take]; rfl)) ?_; (with_reducible refine (mode_Join.calls kj2 a0 a1 t145 _ A25.out).mono ?_); rintro e w38 ⟨rfl, hb⟩; refine ⟨_, rfl, ?_⟩; have n0_ := Aside0.mk (below_step (by repeat (first | (with_reducible first | exact HB.out | apply below_alloc | apply pw_below_drewN | apply below_drew1) | exact HB.out)) hb); clear HB; have HB := n0_; clear n0_; (try clear hb); (try clear hb2); (try clear hk); (try clear hi)) | ((with_reducible refine gate_callee (f := 11) rfl ?_); refine goesL_ (some 37) rfl rfl Try.func11 (by kernel_rfl) rfl #[.int .i64 a0, .int .i64 a1] rfl (by (try simp only [List.map_toArray, List.map_cons, List.map_nil]); first | done | rfl | (simp only [List.length_drop, List.length_take]; rfl)) ?_; (with_reducible refine (counterpaneref10_Join.calls kj2 a0 a1 t146 _ A26.out).mono ?_); rintro e w' ⟨rfl, ⟨nd, rfl⟩⟩; refine ⟨_, rfl, ?_⟩) | (go_at_call 12; (with_reducible refine (mode_Above.calls a0 t147 _ A28.out).mono ?_); rintro e w' ⟨rfl, ⟨nd, rfl⟩⟩) | (go_at_call 13; (with_reducible refine (counterpaneref10_Above.calls a0 t148 _ A29.out).mono ?_); rintro e w' ⟨rfl, ⟨nd, rfl⟩⟩) | (go_at_call 14; (with_reducible refine (mode_Name.calls a0 t149 _ A31.out).mono ?_); rintro e w39 ⟨rfl, hb⟩; have n0_ := Aside0.mk (below_step (by repeat (first | (with_reducible first | exact HB.out | apply below_alloc | apply pw_below_drewN | apply below_drew1) | exact HB.out)) hb); clear HB; have HB := n0_; clear n0_; (try clear hb); (try clear hb2); (try clear hk); (try clear hi)) | (go_at_call 5; (with_reducible refine (mode_Right.calls a0 t150 _ A32.out).mono ?_); rintro e w' ⟨rfl, ⟨nd, rfl⟩⟩))
              go_ret
              exact ⟨by first | rfl | (simp [errW_none, errW_some] <;> rfl) | (simp [*, errW_none, errW_some] <;> rfl), by repeat (first | (with_reducible first | exact HB.out | apply below_alloc | apply pw_below_drewN | apply below_drew1) | exact HB.out)⟩
          · rw [if_neg c30] at H
            have c30b0 : (t147 == t148) = false := beq_eq_false_iff_ne.mpr c30
            have c30b1 : (t147 != t148) = true := bne_iff_ne.mpr c30
            obtain rfl := Option.some.inj H
            go_wp2_with (first | ((with_reducible refine gate_callee (f := 10) rfl ?_); refine goesL_ (some 34) rfl rfl Try.func10 (by kernel_rfl) rfl #[.int .i64 a0, .int .i64 a1] rfl (by (try simp only [List.map_toArray, List.map_cons, List.map_nil]); first | done | rfl | (simp only [List.length_drop, List.length_take]; rfl)) ?_; (with_reducible refine (mode_Join.calls kj2 a0 a1 t145 _ A25.out).mono ?_); rintro e w40 ⟨rfl, hb⟩; refine ⟨_, rfl, ?_⟩; have n0_ := Aside0.mk (below_step (by repeat (first | (with_reducible first | exact HB.out | apply below_alloc | apply pw_below_drewN | apply below_drew1) | exact HB.out)) hb); clear HB; have HB := n0_; clear n0_; (try clear hb); (try clear hb2); (try clear hk); (try clear hi)) | ((with_reducible refine gate_callee (f := 11) rfl ?_); refine goesL_ (some 37) rfl rfl Try.func11 (by kernel_rfl) rfl #[.int .i64 a0, .int .i64 a1] rfl (by (try simp only [List.map_toArray, List.map_cons, List.map_nil]); first | done | rfl | (simp only [List.length_drop, List.length_take]; rfl)) ?_; (with_reducible refine (counterpaneref10_Join.calls kj2 a0 a1 t146 _ A26.out).mono ?_); rintro e w' ⟨rfl, ⟨nd, rfl⟩⟩; refine ⟨_, rfl, ?_⟩) | (go_at_call 12; (with_reducible refine (mode_Above.calls a0 t147 _ A28.out).mono ?_); rintro e w' ⟨rfl, ⟨nd, rfl⟩⟩) | (go_at_call 13; (with_reducible refine (counterpaneref10_Above.calls a0 t148 _ A29.out).mono ?_); rintro e w' ⟨rfl, ⟨nd, rfl⟩⟩))
            go_ret
            exact ⟨by first | rfl | (simp [errW_none, errW_some] <;> rfl) | (simp [*, errW_none, errW_some] <;> rfl), by repeat (first | (with_reducible first | exact HB.out | apply below_alloc | apply pw_below_drewN | apply below_drew1) | exact HB.out)⟩
        · rw [if_neg c27] at H
          have c27b0 : (t145 == t146) = false := beq_eq_false_iff_ne.mpr c27
          have c27b1 : (t145 != t146) = true := bne_iff_ne.mpr c27
          obtain rfl := Option.some.inj H
          go_wp2_with (first | ((with_reducible refine gate_callee (f := 10) rfl ?_); refine goesL_ (some 34) rfl rfl Try.func10 (by kernel_rfl) rfl #[.int .i64 a0, .int .i64 a1] rfl (by (try simp only [List.map_toArray, List.map_cons, List.map_nil]); first | done | rfl | (simp only [List.length_drop, List.length_take]; rfl)) ?_; (with_reducible refine (mode_Join.calls kj2 a0 a1 t145 _ A25.out).mono ?_); rintro e w41 ⟨rfl, hb⟩; refine ⟨_, rfl, ?_⟩; have n0_ := Aside0.mk (below_step (by repeat (first | (with_reducible first | exact HB.out | apply below_alloc | apply pw_below_drewN | apply below_drew1) | exact HB.out)) hb); clear HB; have HB := n0_; clear n0_; (try clear hb); (try clear hb2); (try clear hk); (try clear hi)) | ((with_reducible refine gate_callee (f := 11) rfl ?_); refine goesL_ (some 37) rfl rfl Try.func11 (by kernel_rfl) rfl #[.int .i64 a0, .int .i64 a1] rfl (by (try simp only [List.map_toArray, List.map_cons, List.map_nil]); first | done | rfl | (simp only [List.length_drop, List.length_take]; rfl)) ?_; (with_reducible refine (counterpaneref10_Join.calls kj2 a0 a1 t146 _ A26.out).mono ?_); rintro e w' ⟨rfl, ⟨nd, rfl⟩⟩; refine ⟨_, rfl, ?_⟩))
          go_ret
          exact ⟨by first | rfl | (simp [errW_none, errW_some] <;> rfl) | (simp [*, errW_none, errW_some] <;> rfl), by repeat (first | (with_reducible first | exact HB.out | apply below_alloc | apply pw_below_drewN | apply below_drew1) | exact HB.out)⟩

/-- THE ONE PURE STATEMENT of counterpanelaw10_ModeTells: yours. -/
def counterpanelaw10_ModeTells.Pure : Prop := ∀ (a0 : Int) (a1 : Int), (Lit.int .i64 a0).wf = true → (Lit.int .i64 a1).wf = true → ∃ k, counterpanelaw10_ModeTells.f k a0 a1 = some true
theorem counterpanelaw10_ModeTells.walk (P : counterpanelaw10_ModeTells.Pure) (a0 : Int) (a1 : Int) (w : World) (w0 : (Lit.int .i64 a0).wf = true) (w1 : (Lit.int .i64 a1).wf = true) :
    Calls Try.prog 3 #[.int .i64 a0, .int .i64 a1] w fun e w' => e = .returned (.bool true) ∧ Below w.heap.size w w' := by
  obtain ⟨k, h⟩ := P a0 a1 w0 w1
  refine (counterpanelaw10_ModeTells.calls k a0 a1 true w h).mono ?_
  rintro e w' ⟨rfl, hd⟩
  exact ⟨rfl, hd⟩

end Go.Proofs.Ytmeoaonoofeogaa.PAll
