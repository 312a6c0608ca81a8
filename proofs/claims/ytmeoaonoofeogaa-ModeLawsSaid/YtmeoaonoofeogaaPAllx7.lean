/- The functions that the laws of this seat reach, as plain functions with proofs that the calls answer just so (written by a program of this session on the kit's print). -/
import Derived.Test.YtmeoaonoofeogaaPAllx0
import Derived.Test.YtmeoaonoofeogaaPAllx1
import Derived.Test.YtmeoaonoofeogaaPAllx3
import Derived.Test.YtmeoaonoofeogaaPAllx4
import Derived.Test.YtmeoaonoofeogaaPAllx5
namespace Go.Proofs.Ytmeoaonoofeogaa.PAll
open Go.RowKit Go.Proofs.YtmeoaonoofeogaaW.PrintWords Go.Proofs.YtmeoaonoofeogaaW.PrintLast Go.Proofs.YtmeoaonoofeogaaW.PrintMore
attribute [local go_sem] max2_int min2_int max_two min_two max_three min_three max_four min_four   -- for this text's walks alone
set_option linter.unusedVariables false
set_option linter.unusedSimpArgs false

/-! ### counterpanelaw10_ModeLaws: function 4 -/
mutual
def counterpanelaw10_ModeLaws.j0 : Nat → Int → Int → Int → Bool → Option (Bool)
  | 0, _, _, _, _ => none
  | k + 1, x0, x1, x2, x20 => if x20 = true then ((counterpanelaw10_works.f k).bind fun t155 => (some t155)) else ((mode_Join.f k x0 x1).bind fun t156 => ((mode_Together.f x0 x1).bind fun t157 => ((mode_Together.f x1 x0).bind fun t158 => (if (t157 != t158) = true then (counterpanelaw10_ModeLaws.j1 k x0 x1 x2 t156 true) else ((mode_Covers.f x0 x0).bind fun t159 => (if t159 = true then ((mode_Covers.f t156 x0).bind fun t160 => (if t160 = true then ((mode_Covers.f t156 x1).bind fun t161 => (if t161 = true then ((mode_Join.f k x1 x0).bind fun t162 => (if t156 = t162 then ((mode_Join.f k t156 x2).bind fun t163 => ((mode_Join.f k x1 x2).bind fun t164 => ((mode_Join.f k x0 t164).bind fun t165 => (counterpanelaw10_ModeLaws.j1 k x0 x1 x2 t156 (t163 != t165))))) else (counterpanelaw10_ModeLaws.j1 k x0 x1 x2 t156 true))) else (counterpanelaw10_ModeLaws.j1 k x0 x1 x2 t156 true))) else (counterpanelaw10_ModeLaws.j1 k x0 x1 x2 t156 true))) else (counterpanelaw10_ModeLaws.j1 k x0 x1 x2 t156 true)))))))
def counterpanelaw10_ModeLaws.j1 : Nat → Int → Int → Int → Int → Bool → Option (Bool)
  | 0, _, _, _, _, _ => none
  | k + 1, x0, x1, x2, x7, x67 => if x67 = true then (some false) else ((mode_Covers.f x0 x1).bind fun t166 => (if t166 = true then ((mode_Covers.f x1 x2).bind fun t167 => (if t167 = true then ((mode_Covers.f x0 x2).bind fun t168 => (if t168 = true then ((mode_Covers.f x0 x1).bind fun t169 => (if t169 = true then ((mode_Covers.f x1 x0).bind fun t170 => (if t170 = true then (counterpanelaw10_ModeLaws.j2 k x0 x1 x2 x7 (x0 != x1)) else (counterpanelaw10_ModeLaws.j2 k x0 x1 x2 x7 false))) else (counterpanelaw10_ModeLaws.j2 k x0 x1 x2 x7 false))) else (counterpanelaw10_ModeLaws.j2 k x0 x1 x2 x7 true))) else ((mode_Covers.f x0 x1).bind fun t171 => (if t171 = true then ((mode_Covers.f x1 x0).bind fun t172 => (if t172 = true then (counterpanelaw10_ModeLaws.j2 k x0 x1 x2 x7 (x0 != x1)) else (counterpanelaw10_ModeLaws.j2 k x0 x1 x2 x7 false))) else (counterpanelaw10_ModeLaws.j2 k x0 x1 x2 x7 false))))) else ((mode_Covers.f x0 x1).bind fun t173 => (if t173 = true then ((mode_Covers.f x1 x0).bind fun t174 => (if t174 = true then (counterpanelaw10_ModeLaws.j2 k x0 x1 x2 x7 (x0 != x1)) else (counterpanelaw10_ModeLaws.j2 k x0 x1 x2 x7 false))) else (counterpanelaw10_ModeLaws.j2 k x0 x1 x2 x7 false)))))
def counterpanelaw10_ModeLaws.j2 : Nat → Int → Int → Int → Int → Bool → Option (Bool)
  | 0, _, _, _, _, _ => none
  | k + 1, x0, x1, x2, x7, x96 => if x96 = true then (some false) else ((mode_Covers.f x0 x1).bind fun t175 => (if t175 = true then ((mode_Together.f x0 x2).bind fun t176 => (if t176 = true then ((mode_Together.f x1 x2).bind fun t177 => (if t177 = true then ((mode_Covers.f x2 x0).bind fun t178 => (if t178 = true then ((mode_Covers.f x2 x1).bind fun t179 => (if t179 = true then ((mode_Covers.f x2 x7).bind fun t180 => (counterpanelaw10_ModeLaws.j3 k x0 x1 (!t180))) else (counterpanelaw10_ModeLaws.j3 k x0 x1 false))) else (counterpanelaw10_ModeLaws.j3 k x0 x1 false))) else (counterpanelaw10_ModeLaws.j3 k x0 x1 true))) else ((mode_Covers.f x2 x0).bind fun t181 => (if t181 = true then ((mode_Covers.f x2 x1).bind fun t182 => (if t182 = true then ((mode_Covers.f x2 x7).bind fun t183 => (counterpanelaw10_ModeLaws.j3 k x0 x1 (!t183))) else (counterpanelaw10_ModeLaws.j3 k x0 x1 false))) else (counterpanelaw10_ModeLaws.j3 k x0 x1 false))))) else ((mode_Covers.f x2 x0).bind fun t184 => (if t184 = true then ((mode_Covers.f x2 x1).bind fun t185 => (if t185 = true then ((mode_Covers.f x2 x7).bind fun t186 => (counterpanelaw10_ModeLaws.j3 k x0 x1 (!t186))) else (counterpanelaw10_ModeLaws.j3 k x0 x1 false))) else (counterpanelaw10_ModeLaws.j3 k x0 x1 false)))))
def counterpanelaw10_ModeLaws.j3 : Nat → Int → Int → Bool → Option (Bool)
  | 0, _, _, _ => none
  | k + 1, x0, x1, x126 => if x126 = true then (some false) else ((mode_Covers.f x0 x1).bind fun t187 => (if t187 = true then ((mode_Above.f x0).bind fun t188 => ((mode_Above.f x1).bind fun t189 => ((mode_Covers.f t188 t189).bind fun t190 => (if t190 = true then ((counterpanelaw10_works.f k).bind fun t191 => (some t191)) else (some false))))) else ((counterpanelaw10_works.f k).bind fun t192 => (some t192))))
end
def counterpanelaw10_ModeLaws.f (k : Nat) (a0 : Int) (a1 : Int) (a2 : Int) : Option (Bool) := (mode_Right.f a0).bind fun t152 => (if t152 = true then ((mode_Right.f a1).bind fun t153 => (if t153 = true then ((mode_Right.f a2).bind fun t154 => (counterpanelaw10_ModeLaws.j0 k a0 a1 a2 (!t154))) else (counterpanelaw10_ModeLaws.j0 k a0 a1 a2 true))) else (counterpanelaw10_ModeLaws.j0 k a0 a1 a2 true))
theorem counterpanelaw10_ModeLaws.mono_l : ∀ k, (∀ y0 y1 y2 y3, LeO (counterpanelaw10_ModeLaws.j0 k y0 y1 y2 y3) (counterpanelaw10_ModeLaws.j0 (k + 1) y0 y1 y2 y3)) ∧ (∀ y0 y1 y2 y3 y4, LeO (counterpanelaw10_ModeLaws.j1 k y0 y1 y2 y3 y4) (counterpanelaw10_ModeLaws.j1 (k + 1) y0 y1 y2 y3 y4)) ∧ (∀ y0 y1 y2 y3 y4, LeO (counterpanelaw10_ModeLaws.j2 k y0 y1 y2 y3 y4) (counterpanelaw10_ModeLaws.j2 (k + 1) y0 y1 y2 y3 y4)) ∧ (∀ y0 y1 y2, LeO (counterpanelaw10_ModeLaws.j3 k y0 y1 y2) (counterpanelaw10_ModeLaws.j3 (k + 1) y0 y1 y2))
  | 0 => ⟨fun _ _ _ _ r h => by simp [counterpanelaw10_ModeLaws.j0] at h, fun _ _ _ _ _ r h => by simp [counterpanelaw10_ModeLaws.j1] at h, fun _ _ _ _ _ r h => by simp [counterpanelaw10_ModeLaws.j2] at h, fun _ _ _ r h => by simp [counterpanelaw10_ModeLaws.j3] at h⟩
  | k + 1 => by
    obtain ⟨ih0, ih1, ih2, ih3⟩ := counterpanelaw10_ModeLaws.mono_l k
    refine ⟨?_, ?_, ?_, ?_⟩
    · intro y0 y1 y2 y3
      unfold counterpanelaw10_ModeLaws.j0
      repeat' first
      | (with_reducible exact ih0 _ _ _ _)
      | (with_reducible exact ih1 _ _ _ _ _)
      | (with_reducible exact ih2 _ _ _ _ _)
      | (with_reducible exact ih3 _ _ _)
      | (with_reducible exact counterpanelaw10_works.mono _)
      | (with_reducible exact mode_Join.mono _ _ _)
      | (with_reducible exact LeO.refl _)
      | (with_reducible exact LeO.none _)
      | (with_reducible refine LeO.ite ?_ ?_)
      | (with_reducible refine LeO.bind ?_ (fun _ => ?_))
      | exact ih0 _ _ _ _
      | exact ih1 _ _ _ _ _
      | exact ih2 _ _ _ _ _
      | exact ih3 _ _ _
      | exact counterpanelaw10_works.mono _
      | exact mode_Join.mono _ _ _
      | exact LeO.none _
      | refine LeO.ite ?_ ?_
      | refine LeO.bind ?_ (fun _ => ?_)
    · intro y0 y1 y2 y3 y4
      unfold counterpanelaw10_ModeLaws.j1
      repeat' first
      | (with_reducible exact ih0 _ _ _ _)
      | (with_reducible exact ih1 _ _ _ _ _)
      | (with_reducible exact ih2 _ _ _ _ _)
      | (with_reducible exact ih3 _ _ _)
      | (with_reducible exact counterpanelaw10_works.mono _)
      | (with_reducible exact mode_Join.mono _ _ _)
      | (with_reducible exact LeO.refl _)
      | (with_reducible exact LeO.none _)
      | (with_reducible refine LeO.ite ?_ ?_)
      | (with_reducible refine LeO.bind ?_ (fun _ => ?_))
      | exact ih0 _ _ _ _
      | exact ih1 _ _ _ _ _
      | exact ih2 _ _ _ _ _
      | exact ih3 _ _ _
      | exact counterpanelaw10_works.mono _
      | exact mode_Join.mono _ _ _
      | exact LeO.none _
      | refine LeO.ite ?_ ?_
      | refine LeO.bind ?_ (fun _ => ?_)
    · intro y0 y1 y2 y3 y4
      unfold counterpanelaw10_ModeLaws.j2
      repeat' first
      | (with_reducible exact ih0 _ _ _ _)
      | (with_reducible exact ih1 _ _ _ _ _)
      | (with_reducible exact ih2 _ _ _ _ _)
      | (with_reducible exact ih3 _ _ _)
      | (with_reducible exact counterpanelaw10_works.mono _)
      | (with_reducible exact mode_Join.mono _ _ _)
      | (with_reducible exact LeO.refl _)
      | (with_reducible exact LeO.none _)
      | (with_reducible refine LeO.ite ?_ ?_)
      | (with_reducible refine LeO.bind ?_ (fun _ => ?_))
      | exact ih0 _ _ _ _
      | exact ih1 _ _ _ _ _
      | exact ih2 _ _ _ _ _
      | exact ih3 _ _ _
      | exact counterpanelaw10_works.mono _
      | exact mode_Join.mono _ _ _
      | exact LeO.none _
      | refine LeO.ite ?_ ?_
      | refine LeO.bind ?_ (fun _ => ?_)
    · intro y0 y1 y2
      unfold counterpanelaw10_ModeLaws.j3
      repeat' first
      | (with_reducible exact ih0 _ _ _ _)
      | (with_reducible exact ih1 _ _ _ _ _)
      | (with_reducible exact ih2 _ _ _ _ _)
      | (with_reducible exact ih3 _ _ _)
      | (with_reducible exact counterpanelaw10_works.mono _)
      | (with_reducible exact mode_Join.mono _ _ _)
      | (with_reducible exact LeO.refl _)
      | (with_reducible exact LeO.none _)
      | (with_reducible refine LeO.ite ?_ ?_)
      | (with_reducible refine LeO.bind ?_ (fun _ => ?_))
      | exact ih0 _ _ _ _
      | exact ih1 _ _ _ _ _
      | exact ih2 _ _ _ _ _
      | exact ih3 _ _ _
      | exact counterpanelaw10_works.mono _
      | exact mode_Join.mono _ _ _
      | exact LeO.none _
      | refine LeO.ite ?_ ?_
      | refine LeO.bind ?_ (fun _ => ?_)
theorem counterpanelaw10_ModeLaws.mono : ∀ a0 a1 a2 k, LeO (counterpanelaw10_ModeLaws.f k a0 a1 a2) (counterpanelaw10_ModeLaws.f (k + 1) a0 a1 a2) := by
  intro a0 a1 a2 k
  obtain ⟨ih0, ih1, ih2, ih3⟩ := counterpanelaw10_ModeLaws.mono_l k
  unfold counterpanelaw10_ModeLaws.f
  repeat' first
      | (with_reducible exact ih0 _ _ _ _)
      | (with_reducible exact ih1 _ _ _ _ _)
      | (with_reducible exact ih2 _ _ _ _ _)
      | (with_reducible exact ih3 _ _ _)
      | (with_reducible exact counterpanelaw10_works.mono _)
      | (with_reducible exact mode_Join.mono _ _ _)
      | (with_reducible exact LeO.refl _)
      | (with_reducible exact LeO.none _)
      | (with_reducible refine LeO.ite ?_ ?_)
      | (with_reducible refine LeO.bind ?_ (fun _ => ?_))
      | exact ih0 _ _ _ _
      | exact ih1 _ _ _ _ _
      | exact ih2 _ _ _ _ _
      | exact ih3 _ _ _
      | exact counterpanelaw10_works.mono _
      | exact mode_Join.mono _ _ _
      | exact LeO.none _
      | refine LeO.ite ?_ ?_
      | refine LeO.bind ?_ (fun _ => ?_)
set_option maxHeartbeats 8000000 in
set_option maxRecDepth 100000 in
theorem counterpanelaw10_ModeLaws.calls (k : Nat) (a0 : Int) (a1 : Int) (a2 : Int) (r : Bool) (w : World) (h : counterpanelaw10_ModeLaws.f k a0 a1 a2 = some r) :
    Calls Try.prog 4 #[.int .i64 a0, .int .i64 a1, .int .i64 a2] w fun e w' => e = .returned (.bool r) ∧ Below w.heap.size w w' := by
  have HB := Aside0.mk (Below.refl w.heap.size w)
  have H : ((mode_Right.f a0).bind fun t152 => (if t152 = true then ((mode_Right.f a1).bind fun t153 => (if t153 = true then ((mode_Right.f a2).bind fun t154 => (counterpanelaw10_ModeLaws.j0 k a0 a1 a2 (!t154))) else (counterpanelaw10_ModeLaws.j0 k a0 a1 a2 true))) else (counterpanelaw10_ModeLaws.j0 k a0 a1 a2 true))) = some r := h
  clear h
  have HC4 := Aside0.mk H
  clear H
  go_enter Try.func4, Try.ntmps4
  go_upto_region 1 with (fail)
  go_cut [20] (fun v20 wc => ∃ (kq : Nat) (x20_3 : Bool), v20 = .bool x20_3 ∧ Aside0 (counterpanelaw10_ModeLaws.j0 kq a0 a1 a2 x20_3 = some r) ∧ Aside0 (kq ≤ k) ∧ Aside0 (Below w.heap.size w wc))
  case first =>
    have H := HC4.out
    clear HC4
    replace H := Option.bind_eq_some_iff.mp H
    obtain ⟨t152, A50, H⟩ := H
    replace H : (if t152 = true then ((mode_Right.f a1).bind fun t153 => (if t153 = true then ((mode_Right.f a2).bind fun t154 => (counterpanelaw10_ModeLaws.j0 k a0 a1 a2 (!t154))) else (counterpanelaw10_ModeLaws.j0 k a0 a1 a2 true))) else (counterpanelaw10_ModeLaws.j0 k a0 a1 a2 true)) = some r := H
    have A5 := Aside0.mk A50
    clear A50
    by_cases c6 : t152 = true
    · subst c6
      have H1 : ((mode_Right.f a1).bind fun t153 => (if t153 = true then ((mode_Right.f a2).bind fun t154 => (counterpanelaw10_ModeLaws.j0 k a0 a1 a2 (!t154))) else (counterpanelaw10_ModeLaws.j0 k a0 a1 a2 true))) = some r := by rw [if_pos rfl] at H; exact H
      clear H
      have H := H1
      clear H1
      replace H := Option.bind_eq_some_iff.mp H
      obtain ⟨t153, A70, H⟩ := H
      replace H : (if t153 = true then ((mode_Right.f a2).bind fun t154 => (counterpanelaw10_ModeLaws.j0 k a0 a1 a2 (!t154))) else (counterpanelaw10_ModeLaws.j0 k a0 a1 a2 true)) = some r := H
      have A7 := Aside0.mk A70
      clear A70
      by_cases c8 : t153 = true
      · subst c8
        have H1 : ((mode_Right.f a2).bind fun t154 => (counterpanelaw10_ModeLaws.j0 k a0 a1 a2 (!t154))) = some r := by rw [if_pos rfl] at H; exact H
        clear H
        have H := H1
        clear H1
        replace H := Option.bind_eq_some_iff.mp H
        obtain ⟨t154, A90, H⟩ := H
        replace H : (counterpanelaw10_ModeLaws.j0 k a0 a1 a2 (!t154)) = some r := H
        have A9 := Aside0.mk A90
        clear A90
        have H' := Aside0.mk H
        clear H
        go_wp2_with (first | ((with_reducible refine gate_callee (f := 5) rfl ?_); refine goesL_ (some 9) rfl rfl Try.func5 (by kernel_rfl) rfl #[.int .i64 a0] rfl (by (try simp only [List.map_toArray, List.map_cons, List.map_nil]); first | done | rfl | (simp only [List.length_drop, List.length_take]; rfl)) ?_; (with_reducible refine (mode_Right.calls a0 true _ A5.out).mono ?_); rintro e w' ⟨rfl, ⟨nd, rfl⟩⟩; refine ⟨_, rfl, ?_⟩) | (go_at_call 5; (with_reducible refine (mode_Right.calls a1 true _ A7.out).mono ?_); rintro e w' ⟨rfl, ⟨nd, rfl⟩⟩) | (go_at_call 5; (with_reducible refine (mode_Right.calls a2 t154 _ A9.out).mono ?_); rintro e w' ⟨rfl, ⟨nd, rfl⟩⟩))
        go_meet
        case rel => exact ⟨_, (!t154), (by first | rfl | (simp; done) | (simp [*]; done)), H', ⟨by first | omega | exact Nat.le_refl _⟩, ⟨by repeat (first | (with_reducible first | exact HB.out | apply below_alloc | apply pw_below_drewN | apply below_drew1) | exact HB.out)⟩⟩
      · replace c8 := Bool.eq_false_iff.mpr c8
        subst c8
        have H1 : (counterpanelaw10_ModeLaws.j0 k a0 a1 a2 true) = some r := by rw [if_neg (show ¬ (false = true) by decide)] at H; exact H
        clear H
        have H := H1
        clear H1
        have H' := Aside0.mk H
        clear H
        go_wp2_with (first | ((with_reducible refine gate_callee (f := 5) rfl ?_); refine goesL_ (some 9) rfl rfl Try.func5 (by kernel_rfl) rfl #[.int .i64 a0] rfl (by (try simp only [List.map_toArray, List.map_cons, List.map_nil]); first | done | rfl | (simp only [List.length_drop, List.length_take]; rfl)) ?_; (with_reducible refine (mode_Right.calls a0 true _ A5.out).mono ?_); rintro e w' ⟨rfl, ⟨nd, rfl⟩⟩; refine ⟨_, rfl, ?_⟩) | (go_at_call 5; (with_reducible refine (mode_Right.calls a1 false _ A7.out).mono ?_); rintro e w' ⟨rfl, ⟨nd, rfl⟩⟩))
        go_meet
        case rel => exact ⟨_, (true), (by first | rfl | (simp; done) | (simp [*]; done)), H', ⟨by first | omega | exact Nat.le_refl _⟩, ⟨by repeat (first | (with_reducible first | exact HB.out | apply below_alloc | apply pw_below_drewN | apply below_drew1) | exact HB.out)⟩⟩
    · replace c6 := Bool.eq_false_iff.mpr c6
      subst c6
      have H1 : (counterpanelaw10_ModeLaws.j0 k a0 a1 a2 true) = some r := by rw [if_neg (show ¬ (false = true) by decide)] at H; exact H
      clear H
      have H := H1
      clear H1
      have H' := Aside0.mk H
      clear H
      go_wp2_with (first | ((with_reducible refine gate_callee (f := 5) rfl ?_); refine goesL_ (some 9) rfl rfl Try.func5 (by kernel_rfl) rfl #[.int .i64 a0] rfl (by (try simp only [List.map_toArray, List.map_cons, List.map_nil]); first | done | rfl | (simp only [List.length_drop, List.length_take]; rfl)) ?_; (with_reducible refine (mode_Right.calls a0 false _ A5.out).mono ?_); rintro e w' ⟨rfl, ⟨nd, rfl⟩⟩; refine ⟨_, rfl, ?_⟩))
      go_meet
      case rel => exact ⟨_, (true), (by first | rfl | (simp; done) | (simp [*]; done)), H', ⟨by first | omega | exact Nat.le_refl _⟩, ⟨by repeat (first | (with_reducible first | exact HB.out | apply below_alloc | apply pw_below_drewN | apply below_drew1) | exact HB.out)⟩⟩
  case rest =>
    clear HC4
    try clear p2
    try clear c4
    try clear c5
    try clear c6
    try clear c8
    obtain ⟨kq, x20_3, rfl, HA, HJ3, HB⟩ := hcut
    cases kq with
    | zero => exact absurd HA.out (by simp [counterpanelaw10_ModeLaws.j0])
    | succ kj3 =>
      have H := HA.out
      clear HA
      simp only [counterpanelaw10_ModeLaws.j0] at H
      by_cases c10 : x20_3 = true
      · subst c10
        have H1 : ((counterpanelaw10_works.f kj3).bind fun t155 => (some t155)) = some r := by rw [if_pos rfl] at H; exact H
        clear H
        have H := H1
        clear H1
        replace H := Option.bind_eq_some_iff.mp H
        obtain ⟨t155, A110, H⟩ := H
        replace H : (some t155) = some r := H
        have A11 := Aside0.mk A110
        clear A110
        obtain rfl := Option.some.inj H
        go_wp2_with (first | ((with_reducible refine gate_callee (f := 15) rfl ?_); refine goesL_ (some 21) rfl rfl Try.func15 (by kernel_rfl) rfl #[] rfl (by (try simp only [List.map_toArray, List.map_cons, List.map_nil]); first | done | rfl | (simp only [List.length_drop, List.length_take]; rfl)) ?_; (with_reducible refine (counterpanelaw10_works.calls kj3  t155 _ A11.out).mono ?_); rintro e w12 ⟨rfl, hb⟩; refine ⟨_, rfl, ?_⟩; have n0_ := Aside0.mk (below_step (by repeat (first | (with_reducible first | exact HB.out | apply below_alloc | apply pw_below_drewN | apply below_drew1) | exact HB.out)) hb); clear HB; have HB := n0_; clear n0_; (try clear hb); (try clear hb2); (try clear hk); (try clear hi)))
        go_ret
        exact ⟨by first | rfl | (simp [errW_none, errW_some] <;> rfl) | (simp [*, errW_none, errW_some] <;> rfl), by repeat (first | (with_reducible first | exact HB.out | apply below_alloc | apply pw_below_drewN | apply below_drew1) | exact HB.out)⟩
      · replace c10 := Bool.eq_false_iff.mpr c10
        subst c10
        have H1 : ((mode_Join.f kj3 a0 a1).bind fun t156 => ((mode_Together.f a0 a1).bind fun t157 => ((mode_Together.f a1 a0).bind fun t158 => (if (t157 != t158) = true then (counterpanelaw10_ModeLaws.j1 kj3 a0 a1 a2 t156 true) else ((mode_Covers.f a0 a0).bind fun t159 => (if t159 = true then ((mode_Covers.f t156 a0).bind fun t160 => (if t160 = true then ((mode_Covers.f t156 a1).bind fun t161 => (if t161 = true then ((mode_Join.f kj3 a1 a0).bind fun t162 => (if t156 = t162 then ((mode_Join.f kj3 t156 a2).bind fun t163 => ((mode_Join.f kj3 a1 a2).bind fun t164 => ((mode_Join.f kj3 a0 t164).bind fun t165 => (counterpanelaw10_ModeLaws.j1 kj3 a0 a1 a2 t156 (t163 != t165))))) else (counterpanelaw10_ModeLaws.j1 kj3 a0 a1 a2 t156 true))) else (counterpanelaw10_ModeLaws.j1 kj3 a0 a1 a2 t156 true))) else (counterpanelaw10_ModeLaws.j1 kj3 a0 a1 a2 t156 true))) else (counterpanelaw10_ModeLaws.j1 kj3 a0 a1 a2 t156 true))))))) = some r := by rw [if_neg (show ¬ (false = true) by decide)] at H; exact H
        clear H
        have H := H1
        clear H1
        replace H := Option.bind_eq_some_iff.mp H
        obtain ⟨t156, A130, H⟩ := H
        replace H : ((mode_Together.f a0 a1).bind fun t157 => ((mode_Together.f a1 a0).bind fun t158 => (if (t157 != t158) = true then (counterpanelaw10_ModeLaws.j1 kj3 a0 a1 a2 t156 true) else ((mode_Covers.f a0 a0).bind fun t159 => (if t159 = true then ((mode_Covers.f t156 a0).bind fun t160 => (if t160 = true then ((mode_Covers.f t156 a1).bind fun t161 => (if t161 = true then ((mode_Join.f kj3 a1 a0).bind fun t162 => (if t156 = t162 then ((mode_Join.f kj3 t156 a2).bind fun t163 => ((mode_Join.f kj3 a1 a2).bind fun t164 => ((mode_Join.f kj3 a0 t164).bind fun t165 => (counterpanelaw10_ModeLaws.j1 kj3 a0 a1 a2 t156 (t163 != t165))))) else (counterpanelaw10_ModeLaws.j1 kj3 a0 a1 a2 t156 true))) else (counterpanelaw10_ModeLaws.j1 kj3 a0 a1 a2 t156 true))) else (counterpanelaw10_ModeLaws.j1 kj3 a0 a1 a2 t156 true))) else (counterpanelaw10_ModeLaws.j1 kj3 a0 a1 a2 t156 true)))))) = some r := H
        have A13 := Aside0.mk A130
        clear A130
        have HC14 := Aside0.mk H
        clear H
        go_upto_region 4 with (first | ((with_reducible refine gate_callee (f := 10) rfl ?_); refine goesL_ (some 24) rfl rfl Try.func10 (by kernel_rfl) rfl #[.int .i64 a0, .int .i64 a1] rfl (by (try simp only [List.map_toArray, List.map_cons, List.map_nil]); first | done | rfl | (simp only [List.length_drop, List.length_take]; rfl)) ?_; (with_reducible refine (mode_Join.calls kj3 a0 a1 t156 _ A13.out).mono ?_); rintro e w15 ⟨rfl, hb⟩; refine ⟨_, rfl, ?_⟩; have n0_ := Aside0.mk (below_step (by repeat (first | (with_reducible first | exact HB.out | apply below_alloc | apply pw_below_drewN | apply below_drew1) | exact HB.out)) hb); clear HB; have HB := n0_; clear n0_; (try clear hb); (try clear hb2); (try clear hk); (try clear hi)))
        (try simp only [Act.put, List.setIfInBounds_toArray, List.set_cons_zero, List.set_cons_succ])
        go_cut [67] (fun v67 wc => ∃ (kq : Nat) (x67_13 : Bool), v67 = .bool x67_13 ∧ Aside0 (counterpanelaw10_ModeLaws.j1 kq a0 a1 a2 t156 x67_13 = some r) ∧ Aside0 (kq ≤ kj3) ∧ Aside0 (Below w.heap.size w wc))
        case first =>
          have H := HC14.out
          clear HC14
          replace H := Option.bind_eq_some_iff.mp H
          obtain ⟨t157, A160, H⟩ := H
          replace H : ((mode_Together.f a1 a0).bind fun t158 => (if (t157 != t158) = true then (counterpanelaw10_ModeLaws.j1 kj3 a0 a1 a2 t156 true) else ((mode_Covers.f a0 a0).bind fun t159 => (if t159 = true then ((mode_Covers.f t156 a0).bind fun t160 => (if t160 = true then ((mode_Covers.f t156 a1).bind fun t161 => (if t161 = true then ((mode_Join.f kj3 a1 a0).bind fun t162 => (if t156 = t162 then ((mode_Join.f kj3 t156 a2).bind fun t163 => ((mode_Join.f kj3 a1 a2).bind fun t164 => ((mode_Join.f kj3 a0 t164).bind fun t165 => (counterpanelaw10_ModeLaws.j1 kj3 a0 a1 a2 t156 (t163 != t165))))) else (counterpanelaw10_ModeLaws.j1 kj3 a0 a1 a2 t156 true))) else (counterpanelaw10_ModeLaws.j1 kj3 a0 a1 a2 t156 true))) else (counterpanelaw10_ModeLaws.j1 kj3 a0 a1 a2 t156 true))) else (counterpanelaw10_ModeLaws.j1 kj3 a0 a1 a2 t156 true))))) = some r := H
          have A16 := Aside0.mk A160
          clear A160
          replace H := Option.bind_eq_some_iff.mp H
          obtain ⟨t158, A170, H⟩ := H
          replace H : (if (t157 != t158) = true then (counterpanelaw10_ModeLaws.j1 kj3 a0 a1 a2 t156 true) else ((mode_Covers.f a0 a0).bind fun t159 => (if t159 = true then ((mode_Covers.f t156 a0).bind fun t160 => (if t160 = true then ((mode_Covers.f t156 a1).bind fun t161 => (if t161 = true then ((mode_Join.f kj3 a1 a0).bind fun t162 => (if t156 = t162 then ((mode_Join.f kj3 t156 a2).bind fun t163 => ((mode_Join.f kj3 a1 a2).bind fun t164 => ((mode_Join.f kj3 a0 t164).bind fun t165 => (counterpanelaw10_ModeLaws.j1 kj3 a0 a1 a2 t156 (t163 != t165))))) else (counterpanelaw10_ModeLaws.j1 kj3 a0 a1 a2 t156 true))) else (counterpanelaw10_ModeLaws.j1 kj3 a0 a1 a2 t156 true))) else (counterpanelaw10_ModeLaws.j1 kj3 a0 a1 a2 t156 true))) else (counterpanelaw10_ModeLaws.j1 kj3 a0 a1 a2 t156 true)))) = some r := H
          have A17 := Aside0.mk A170
          clear A170
          by_cases c18 : (t157 != t158) = true
          · rw [if_pos c18] at H
            have c18b0 : (t157 != t158) = true := c18
            (try (have c18b1 : decide (t157 = t158) = false := by simpa using c18))
            (try (have c18b2 : (t157 == t158) = false := by simpa using c18))
            (try (have c18b3 : ¬ (t157 = t158) := by simpa using c18))
            clear c18
            (first | rw [c18b0] | (simp only [i64_w, i32_w]; rw [c18b0]) | skip)
            have H' := Aside0.mk H
            clear H
            go_wp2_with (first | ((with_reducible refine gate_callee (f := 6) rfl ?_); refine goesL_ (some 27) rfl rfl Try.func6 (by kernel_rfl) rfl #[.int .i64 a0, .int .i64 a1] rfl (by (try simp only [List.map_toArray, List.map_cons, List.map_nil]); first | done | rfl | (simp only [List.length_drop, List.length_take]; rfl)) ?_; (with_reducible refine (mode_Together.calls a0 a1 t157 _ A16.out).mono ?_); rintro e w19 ⟨rfl, hb⟩; refine ⟨_, rfl, ?_⟩; have n0_ := Aside0.mk (below_step (by repeat (first | (with_reducible first | exact HB.out | apply below_alloc | apply pw_below_drewN | apply below_drew1) | exact HB.out)) hb); clear HB; have HB := n0_; clear n0_; (try clear hb); (try clear hb2); (try clear hk); (try clear hi)) | ((with_reducible refine gate_callee (f := 6) rfl ?_); refine goesL_ (some 30) rfl rfl Try.func6 (by kernel_rfl) rfl #[.int .i64 a1, .int .i64 a0] rfl (by (try simp only [List.map_toArray, List.map_cons, List.map_nil]); first | done | rfl | (simp only [List.length_drop, List.length_take]; rfl)) ?_; (with_reducible refine (mode_Together.calls a1 a0 t158 _ A17.out).mono ?_); rintro e w20 ⟨rfl, hb⟩; refine ⟨_, rfl, ?_⟩; have n0_ := Aside0.mk (below_step (by repeat (first | (with_reducible first | exact HB.out | apply below_alloc | apply pw_below_drewN | apply below_drew1) | exact HB.out)) hb); clear HB; have HB := n0_; clear n0_; (try clear hb); (try clear hb2); (try clear hk); (try clear hi)))
            go_meet
            case rel => exact ⟨_, (true), (by first | rfl | (simp; done) | (simp [*]; done)), H', ⟨by have := HJ3.out; first | omega | exact Nat.le_refl _⟩, ⟨by repeat (first | (with_reducible first | exact HB.out | apply below_alloc | apply pw_below_drewN | apply below_drew1) | exact HB.out)⟩⟩
          · rw [if_neg c18] at H
            have c18b0 : (t157 != t158) = false := by simpa using c18
            (try (have c18b1 : decide (t157 = t158) = true := by simpa using c18))
            (try (have c18b2 : (t157 == t158) = true := by simpa using c18))
            clear c18
            (first | rw [c18b0] | (simp only [i64_w, i32_w]; rw [c18b0]) | skip)
            replace H := Option.bind_eq_some_iff.mp H
            obtain ⟨t159, A210, H⟩ := H
            replace H : (if t159 = true then ((mode_Covers.f t156 a0).bind fun t160 => (if t160 = true then ((mode_Covers.f t156 a1).bind fun t161 => (if t161 = true then ((mode_Join.f kj3 a1 a0).bind fun t162 => (if t156 = t162 then ((mode_Join.f kj3 t156 a2).bind fun t163 => ((mode_Join.f kj3 a1 a2).bind fun t164 => ((mode_Join.f kj3 a0 t164).bind fun t165 => (counterpanelaw10_ModeLaws.j1 kj3 a0 a1 a2 t156 (t163 != t165))))) else (counterpanelaw10_ModeLaws.j1 kj3 a0 a1 a2 t156 true))) else (counterpanelaw10_ModeLaws.j1 kj3 a0 a1 a2 t156 true))) else (counterpanelaw10_ModeLaws.j1 kj3 a0 a1 a2 t156 true))) else (counterpanelaw10_ModeLaws.j1 kj3 a0 a1 a2 t156 true)) = some r := H
            have A21 := Aside0.mk A210
            clear A210
            by_cases c22 : t159 = true
            · subst c22
              have H1 : ((mode_Covers.f t156 a0).bind fun t160 => (if t160 = true then ((mode_Covers.f t156 a1).bind fun t161 => (if t161 = true then ((mode_Join.f kj3 a1 a0).bind fun t162 => (if t156 = t162 then ((mode_Join.f kj3 t156 a2).bind fun t163 => ((mode_Join.f kj3 a1 a2).bind fun t164 => ((mode_Join.f kj3 a0 t164).bind fun t165 => (counterpanelaw10_ModeLaws.j1 kj3 a0 a1 a2 t156 (t163 != t165))))) else (counterpanelaw10_ModeLaws.j1 kj3 a0 a1 a2 t156 true))) else (counterpanelaw10_ModeLaws.j1 kj3 a0 a1 a2 t156 true))) else (counterpanelaw10_ModeLaws.j1 kj3 a0 a1 a2 t156 true))) = some r := by rw [if_pos rfl] at H; exact H
              clear H
              have H := H1
              clear H1
              replace H := Option.bind_eq_some_iff.mp H
              obtain ⟨t160, A230, H⟩ := H
              replace H : (if t160 = true then ((mode_Covers.f t156 a1).bind fun t161 => (if t161 = true then ((mode_Join.f kj3 a1 a0).bind fun t162 => (if t156 = t162 then ((mode_Join.f kj3 t156 a2).bind fun t163 => ((mode_Join.f kj3 a1 a2).bind fun t164 => ((mode_Join.f kj3 a0 t164).bind fun t165 => (counterpanelaw10_ModeLaws.j1 kj3 a0 a1 a2 t156 (t163 != t165))))) else (counterpanelaw10_ModeLaws.j1 kj3 a0 a1 a2 t156 true))) else (counterpanelaw10_ModeLaws.j1 kj3 a0 a1 a2 t156 true))) else (counterpanelaw10_ModeLaws.j1 kj3 a0 a1 a2 t156 true)) = some r := H
              have A23 := Aside0.mk A230
              clear A230
              by_cases c24 : t160 = true
              · subst c24
                have H1 : ((mode_Covers.f t156 a1).bind fun t161 => (if t161 = true then ((mode_Join.f kj3 a1 a0).bind fun t162 => (if t156 = t162 then ((mode_Join.f kj3 t156 a2).bind fun t163 => ((mode_Join.f kj3 a1 a2).bind fun t164 => ((mode_Join.f kj3 a0 t164).bind fun t165 => (counterpanelaw10_ModeLaws.j1 kj3 a0 a1 a2 t156 (t163 != t165))))) else (counterpanelaw10_ModeLaws.j1 kj3 a0 a1 a2 t156 true))) else (counterpanelaw10_ModeLaws.j1 kj3 a0 a1 a2 t156 true))) = some r := by rw [if_pos rfl] at H; exact H
                clear H
                have H := H1
                clear H1
                replace H := Option.bind_eq_some_iff.mp H
                obtain ⟨t161, A250, H⟩ := H
                replace H : (if t161 = true then ((mode_Join.f kj3 a1 a0).bind fun t162 => (if t156 = t162 then ((mode_Join.f kj3 t156 a2).bind fun t163 => ((mode_Join.f kj3 a1 a2).bind fun t164 => ((mode_Join.f kj3 a0 t164).bind fun t165 => (counterpanelaw10_ModeLaws.j1 kj3 a0 a1 a2 t156 (t163 != t165))))) else (counterpanelaw10_ModeLaws.j1 kj3 a0 a1 a2 t156 true))) else (counterpanelaw10_ModeLaws.j1 kj3 a0 a1 a2 t156 true)) = some r := H
                have A25 := Aside0.mk A250
                clear A250
                by_cases c26 : t161 = true
                · subst c26
                  have H1 : ((mode_Join.f kj3 a1 a0).bind fun t162 => (if t156 = t162 then ((mode_Join.f kj3 t156 a2).bind fun t163 => ((mode_Join.f kj3 a1 a2).bind fun t164 => ((mode_Join.f kj3 a0 t164).bind fun t165 => (counterpanelaw10_ModeLaws.j1 kj3 a0 a1 a2 t156 (t163 != t165))))) else (counterpanelaw10_ModeLaws.j1 kj3 a0 a1 a2 t156 true))) = some r := by rw [if_pos rfl] at H; exact H
                  clear H
                  have H := H1
                  clear H1
                  replace H := Option.bind_eq_some_iff.mp H
                  obtain ⟨t162, A270, H⟩ := H
                  replace H : (if t156 = t162 then ((mode_Join.f kj3 t156 a2).bind fun t163 => ((mode_Join.f kj3 a1 a2).bind fun t164 => ((mode_Join.f kj3 a0 t164).bind fun t165 => (counterpanelaw10_ModeLaws.j1 kj3 a0 a1 a2 t156 (t163 != t165))))) else (counterpanelaw10_ModeLaws.j1 kj3 a0 a1 a2 t156 true)) = some r := H
                  have A27 := Aside0.mk A270
                  clear A270
                  by_cases c28 : t156 = t162
                  · rw [if_pos c28] at H
                    have c28b0 : (t156 == t162) = true := beq_iff_eq.mpr c28
                    have c28b1 : (t156 != t162) = false := bne_eq_false_iff_eq.mpr c28
                    clear c28
                    replace H := Option.bind_eq_some_iff.mp H
                    obtain ⟨t163, A290, H⟩ := H
                    replace H : ((mode_Join.f kj3 a1 a2).bind fun t164 => ((mode_Join.f kj3 a0 t164).bind fun t165 => (counterpanelaw10_ModeLaws.j1 kj3 a0 a1 a2 t156 (t163 != t165)))) = some r := H
                    have A29 := Aside0.mk A290
                    clear A290
                    replace H := Option.bind_eq_some_iff.mp H
                    obtain ⟨t164, A300, H⟩ := H
                    replace H : ((mode_Join.f kj3 a0 t164).bind fun t165 => (counterpanelaw10_ModeLaws.j1 kj3 a0 a1 a2 t156 (t163 != t165))) = some r := H
                    have A30 := Aside0.mk A300
                    clear A300
                    replace H := Option.bind_eq_some_iff.mp H
                    obtain ⟨t165, A310, H⟩ := H
                    replace H : (counterpanelaw10_ModeLaws.j1 kj3 a0 a1 a2 t156 (t163 != t165)) = some r := H
                    have A31 := Aside0.mk A310
                    clear A310
                    have H' := Aside0.mk H
                    clear H
                    go_wp2_with (first | ((with_reducible refine gate_callee (f := 6) rfl ?_); refine goesL_ (some 27) rfl rfl Try.func6 (by kernel_rfl) rfl #[.int .i64 a0, .int .i64 a1] rfl (by (try simp only [List.map_toArray, List.map_cons, List.map_nil]); first | done | rfl | (simp only [List.length_drop, List.length_take]; rfl)) ?_; (with_reducible refine (mode_Together.calls a0 a1 t157 _ A16.out).mono ?_); rintro e w32 ⟨rfl, hb⟩; refine ⟨_, rfl, ?_⟩; have n0_ := Aside0.mk (below_step (by repeat (first | (with_reducible first | exact HB.out | apply below_alloc | apply pw_below_drewN | apply below_drew1) | exact HB.out)) hb); clear HB; have HB := n0_; clear n0_; (try clear hb); (try clear hb2); (try clear hk); (try clear hi)) | ((with_reducible refine gate_callee (f := 6) rfl ?_); refine goesL_ (some 30) rfl rfl Try.func6 (by kernel_rfl) rfl #[.int .i64 a1, .int .i64 a0] rfl (by (try simp only [List.map_toArray, List.map_cons, List.map_nil]); first | done | rfl | (simp only [List.length_drop, List.length_take]; rfl)) ?_; (with_reducible refine (mode_Together.calls a1 a0 t158 _ A17.out).mono ?_); rintro e w33 ⟨rfl, hb⟩; refine ⟨_, rfl, ?_⟩; have n0_ := Aside0.mk (below_step (by repeat (first | (with_reducible first | exact HB.out | apply below_alloc | apply pw_below_drewN | apply below_drew1) | exact HB.out)) hb); clear HB; have HB := n0_; clear n0_; (try clear hb); (try clear hb2); (try clear hk); (try clear hi)) | (go_at_call 8; (with_reducible refine (mode_Covers.calls a0 a0 true _ A21.out).mono ?_); rintro e w34 ⟨rfl, hb⟩; have n0_ := Aside0.mk (below_step (by repeat (first | (with_reducible first | exact HB.out | apply below_alloc | apply pw_below_drewN | apply below_drew1) | exact HB.out)) hb); clear HB; have HB := n0_; clear n0_; (try clear hb); (try clear hb2); (try clear hk); (try clear hi)) | (go_at_call 8; (with_reducible refine (mode_Covers.calls t156 a0 true _ A23.out).mono ?_); rintro e w35 ⟨rfl, hb⟩; have n0_ := Aside0.mk (below_step (by repeat (first | (with_reducible first | exact HB.out | apply below_alloc | apply pw_below_drewN | apply below_drew1) | exact HB.out)) hb); clear HB; have HB := n0_; clear n0_; (try clear hb); (try clear hb2); (try clear hk); (try clear hi)) | (go_at_call 8; (with_reducible refine (mode_Covers.calls t156 a1 true _ A25.out).mono ?_); rintro e w36 ⟨rfl, hb⟩; have n0_ := Aside0.mk (below_step (by repeat (first | (with_reducible first | exact HB.out | apply below_alloc | apply pw_below_drewN | apply below_drew1) | exact HB.out)) hb); clear HB; have HB := n0_; clear n0_; (try clear hb); (try clear hb2); (try clear hk); (try clear hi)) | (go_at_call 10; (with_reducible refine (mode_Join.calls kj3 a1 a0 t162 _ A27.out).mono ?_); rintro e w37 ⟨rfl, hb⟩; have n0_ := Aside0.mk (below_step (by repeat (first | (with_reducible first | exact HB.out | apply below_alloc | apply pw_below_drewN | apply below_drew1) | exact HB.out)) hb); clear HB; have HB := n0_; clear n0_; (try clear hb); (try clear hb2); (try clear hk); (try clear hi)) | (go_at_call 10; (with_reducible refine (mode_Join.calls kj3 t156 a2 t163 _ A29.out).mono ?_); rintro e w38 ⟨rfl, hb⟩; have n0_ := Aside0.mk (below_step (by repeat (first | (with_reducible first | exact HB.out | apply below_alloc | apply pw_below_drewN | apply below_drew1) | exact HB.out)) hb); clear HB; have HB := n0_; clear n0_; (try clear hb); (try clear hb2); (try clear hk); (try clear hi)) | (go_at_call 10; (with_reducible refine (mode_Join.calls kj3 a1 a2 t164 _ A30.out).mono ?_); rintro e w39 ⟨rfl, hb⟩; have n0_ := Aside0.mk (below_step (by repeat (first | (with_reducible first | exact HB.out | apply below_alloc | apply pw_below_drewN | apply below_drew1) | exact HB.out)) hb); clear HB; have HB := n0_; clear n0_; (try clear hb); (try clear hb2); (try clear hk); (try clear hi)) | (go_at_call 10; (with_reducible refine (mode_Join.calls kj3 a0 t164 t165 _ A31.out).mono ?_); rintro e w40 ⟨rfl, hb⟩; have n0_ := Aside0.mk (below_step (by repeat (first | (with_reducible first | exact HB.out | apply below_alloc | apply pw_below_drewN | apply below_drew1) | exact HB.out)) hb); clear HB; have HB := n0_; clear n0_; (try clear hb); (try clear hb2); (try clear hk); (try clear hi)))
                    go_meet
                    case rel => exact ⟨_, ((t163 != t165)), (by first | rfl | (simp; done) | (simp [*]; done)), H', ⟨by have := HJ3.out; first | omega | exact Nat.le_refl _⟩, ⟨by repeat (first | (with_reducible first | exact HB.out | apply below_alloc | apply pw_below_drewN | apply below_drew1) | exact HB.out)⟩⟩
                  · rw [if_neg c28] at H
                    have c28b0 : (t156 == t162) = false := beq_eq_false_iff_ne.mpr c28
                    have c28b1 : (t156 != t162) = true := bne_iff_ne.mpr c28
                    have H' := Aside0.mk H
                    clear H
                    go_wp2_with (first | ((with_reducible refine gate_callee (f := 6) rfl ?_); refine goesL_ (some 27) rfl rfl Try.func6 (by kernel_rfl) rfl #[.int .i64 a0, .int .i64 a1] rfl (by (try simp only [List.map_toArray, List.map_cons, List.map_nil]); first | done | rfl | (simp only [List.length_drop, List.length_take]; rfl)) ?_; (with_reducible refine (mode_Together.calls a0 a1 t157 _ A16.out).mono ?_); rintro e w41 ⟨rfl, hb⟩; refine ⟨_, rfl, ?_⟩; have n0_ := Aside0.mk (below_step (by repeat (first | (with_reducible first | exact HB.out | apply below_alloc | apply pw_below_drewN | apply below_drew1) | exact HB.out)) hb); clear HB; have HB := n0_; clear n0_; (try clear hb); (try clear hb2); (try clear hk); (try clear hi)) | ((with_reducible refine gate_callee (f := 6) rfl ?_); refine goesL_ (some 30) rfl rfl Try.func6 (by kernel_rfl) rfl #[.int .i64 a1, .int .i64 a0] rfl (by (try simp only [List.map_toArray, List.map_cons, List.map_nil]); first | done | rfl | (simp only [List.length_drop, List.length_take]; rfl)) ?_; (with_reducible refine (mode_Together.calls a1 a0 t158 _ A17.out).mono ?_); rintro e w42 ⟨rfl, hb⟩; refine ⟨_, rfl, ?_⟩; have n0_ := Aside0.mk (below_step (by repeat (first | (with_reducible first | exact HB.out | apply below_alloc | apply pw_below_drewN | apply below_drew1) | exact HB.out)) hb); clear HB; have HB := n0_; clear n0_; (try clear hb); (try clear hb2); (try clear hk); (try clear hi)) | (go_at_call 8; (with_reducible refine (mode_Covers.calls a0 a0 true _ A21.out).mono ?_); rintro e w43 ⟨rfl, hb⟩; have n0_ := Aside0.mk (below_step (by repeat (first | (with_reducible first | exact HB.out | apply below_alloc | apply pw_below_drewN | apply below_drew1) | exact HB.out)) hb); clear HB; have HB := n0_; clear n0_; (try clear hb); (try clear hb2); (try clear hk); (try clear hi)) | (go_at_call 8; (with_reducible refine (mode_Covers.calls t156 a0 true _ A23.out).mono ?_); rintro e w44 ⟨rfl, hb⟩; have n0_ := Aside0.mk (below_step (by repeat (first | (with_reducible first | exact HB.out | apply below_alloc | apply pw_below_drewN | apply below_drew1) | exact HB.out)) hb); clear HB; have HB := n0_; clear n0_; (try clear hb); (try clear hb2); (try clear hk); (try clear hi)) | (go_at_call 8; (with_reducible refine (mode_Covers.calls t156 a1 true _ A25.out).mono ?_); rintro e w45 ⟨rfl, hb⟩; have n0_ := Aside0.mk (below_step (by repeat (first | (with_reducible first | exact HB.out | apply below_alloc | apply pw_below_drewN | apply below_drew1) | exact HB.out)) hb); clear HB; have HB := n0_; clear n0_; (try clear hb); (try clear hb2); (try clear hk); (try clear hi)) | (go_at_call 10; (with_reducible refine (mode_Join.calls kj3 a1 a0 t162 _ A27.out).mono ?_); rintro e w46 ⟨rfl, hb⟩; have n0_ := Aside0.mk (below_step (by repeat (first | (with_reducible first | exact HB.out | apply below_alloc | apply pw_below_drewN | apply below_drew1) | exact HB.out)) hb); clear HB; have HB := n0_; clear n0_; (try clear hb); (try clear hb2); (try clear hk); (try clear hi)))
                    go_meet
                    case rel => exact ⟨_, (true), (by first | rfl | (simp; done) | (simp [*]; done)), H', ⟨by have := HJ3.out; first | omega | exact Nat.le_refl _⟩, ⟨by repeat (first | (with_reducible first | exact HB.out | apply below_alloc | apply pw_below_drewN | apply below_drew1) | exact HB.out)⟩⟩
                · replace c26 := Bool.eq_false_iff.mpr c26
                  subst c26
                  have H1 : (counterpanelaw10_ModeLaws.j1 kj3 a0 a1 a2 t156 true) = some r := by rw [if_neg (show ¬ (false = true) by decide)] at H; exact H
                  clear H
                  have H := H1
                  clear H1
                  have H' := Aside0.mk H
                  clear H
                  go_wp2_with (first | ((with_reducible refine gate_callee (f := 6) rfl ?_); refine goesL_ (some 27) rfl rfl Try.func6 (by kernel_rfl) rfl #[.int .i64 a0, .int .i64 a1] rfl (by (try simp only [List.map_toArray, List.map_cons, List.map_nil]); first | done | rfl | (simp only [List.length_drop, List.length_take]; rfl)) ?_; (with_reducible refine (mode_Together.calls a0 a1 t157 _ A16.out).mono ?_); rintro e w47 ⟨rfl, hb⟩; refine ⟨_, rfl, ?_⟩; have n0_ := Aside0.mk (below_step (by repeat (first | (with_reducible first | exact HB.out | apply below_alloc | apply pw_below_drewN | apply below_drew1) | exact HB.out)) hb); clear HB; have HB := n0_; clear n0_; (try clear hb); (try clear hb2); (try clear hk); (try clear hi)) | ((with_reducible refine gate_callee (f := 6) rfl ?_); refine goesL_ (some 30) rfl rfl Try.func6 (by kernel_rfl) rfl #[.int .i64 a1, .int .i64 a0] rfl (by (try simp only [List.map_toArray, List.map_cons, List.map_nil]); first | done | rfl | (simp only [List.length_drop, List.length_take]; rfl)) ?_; (with_reducible refine (mode_Together.calls a1 a0 t158 _ A17.out).mono ?_); rintro e w48 ⟨rfl, hb⟩; refine ⟨_, rfl, ?_⟩; have n0_ := Aside0.mk (below_step (by repeat (first | (with_reducible first | exact HB.out | apply below_alloc | apply pw_below_drewN | apply below_drew1) | exact HB.out)) hb); clear HB; have HB := n0_; clear n0_; (try clear hb); (try clear hb2); (try clear hk); (try clear hi)) | (go_at_call 8; (with_reducible refine (mode_Covers.calls a0 a0 true _ A21.out).mono ?_); rintro e w49 ⟨rfl, hb⟩; have n0_ := Aside0.mk (below_step (by repeat (first | (with_reducible first | exact HB.out | apply below_alloc | apply pw_below_drewN | apply below_drew1) | exact HB.out)) hb); clear HB; have HB := n0_; clear n0_; (try clear hb); (try clear hb2); (try clear hk); (try clear hi)) | (go_at_call 8; (with_reducible refine (mode_Covers.calls t156 a0 true _ A23.out).mono ?_); rintro e w50 ⟨rfl, hb⟩; have n0_ := Aside0.mk (below_step (by repeat (first | (with_reducible first | exact HB.out | apply below_alloc | apply pw_below_drewN | apply below_drew1) | exact HB.out)) hb); clear HB; have HB := n0_; clear n0_; (try clear hb); (try clear hb2); (try clear hk); (try clear hi)) | (go_at_call 8; (with_reducible refine (mode_Covers.calls t156 a1 false _ A25.out).mono ?_); rintro e w51 ⟨rfl, hb⟩; have n0_ := Aside0.mk (below_step (by repeat (first | (with_reducible first | exact HB.out | apply below_alloc | apply pw_below_drewN | apply below_drew1) | exact HB.out)) hb); clear HB; have HB := n0_; clear n0_; (try clear hb); (try clear hb2); (try clear hk); (try clear hi)))
                  go_meet
                  case rel => exact ⟨_, (true), (by first | rfl | (simp; done) | (simp [*]; done)), H', ⟨by have := HJ3.out; first | omega | exact Nat.le_refl _⟩, ⟨by repeat (first | (with_reducible first | exact HB.out | apply below_alloc | apply pw_below_drewN | apply below_drew1) | exact HB.out)⟩⟩
              · replace c24 := Bool.eq_false_iff.mpr c24
                subst c24
                have H1 : (counterpanelaw10_ModeLaws.j1 kj3 a0 a1 a2 t156 true) = some r := by rw [if_neg (show ¬ (false = true) by decide)] at H; exact H
                clear H
                have H := H1
                clear H1
                have H' := Aside0.mk H
                clear H
                go_wp2_with (first | ((with_reducible refine gate_callee (f := 6) rfl ?_); refine goesL_ (some 27) rfl rfl Try.func6 (by kernel_rfl) rfl #[.int .i64 a0, .int .i64 a1] rfl (by (try simp only [List.map_toArray, List.map_cons, List.map_nil]); first | done | rfl | (simp only [List.length_drop, List.length_take]; rfl)) ?_; (with_reducible refine (mode_Together.calls a0 a1 t157 _ A16.out).mono ?_); rintro e w52 ⟨rfl, hb⟩; refine ⟨_, rfl, ?_⟩; have n0_ := Aside0.mk (below_step (by repeat (first | (with_reducible first | exact HB.out | apply below_alloc | apply pw_below_drewN | apply below_drew1) | exact HB.out)) hb); clear HB; have HB := n0_; clear n0_; (try clear hb); (try clear hb2); (try clear hk); (try clear hi)) | ((with_reducible refine gate_callee (f := 6) rfl ?_); refine goesL_ (some 30) rfl rfl Try.func6 (by kernel_rfl) rfl #[.int .i64 a1, .int .i64 a0] rfl (by (try simp only [List.map_toArray, List.map_cons, List.map_nil]); first | done | rfl | (simp only [List.length_drop, List.length_take]; rfl)) ?_; (with_reducible refine (mode_Together.calls a1 a0 t158 _ A17.out).mono ?_); rintro e w53 ⟨rfl, hb⟩; refine ⟨_, rfl, ?_⟩; have n0_ := Aside0.mk (below_step (by repeat (first | (with_reducible first | exact HB.out | apply below_alloc | apply pw_below_drewN | apply below_drew1) | exact HB.out)) hb); clear HB; have HB := n0_; clear n0_; (try clear hb); (try clear hb2); (try clear hk); (try clear hi)) | (go_at_call 8; (with_reducible refine (mode_Covers.calls a0 a0 true _ A21.out).mono ?_); rintro e w54 ⟨rfl, hb⟩; have n0_ := Aside0.mk (below_step (by repeat (first | (with_reducible first | exact HB.out | apply below_alloc | apply pw_below_drewN | apply below_drew1) | exact HB.out)) hb); clear HB; have HB := n0_; clear n0_; (try clear hb); (try clear hb2); (try clear hk); (try clear hi)) | (go_at_call 8; (with_reducible refine (mode_Covers.calls t156 a0 false _ A23.out).mono ?_); rintro e w55 ⟨rfl, hb⟩; have n0_ := Aside0.mk (below_step (by repeat (first | (with_reducible first | exact HB.out | apply below_alloc | apply pw_below_drewN | apply below_drew1) | exact HB.out)) hb); clear HB; have HB := n0_; clear n0_; (try clear hb); (try clear hb2); (try clear hk); (try clear hi)))
                go_meet
                case rel => exact ⟨_, (true), (by first | rfl | (simp; done) | (simp [*]; done)), H', ⟨by have := HJ3.out; first | omega | exact Nat.le_refl _⟩, ⟨by repeat (first | (with_reducible first | exact HB.out | apply below_alloc | apply pw_below_drewN | apply below_drew1) | exact HB.out)⟩⟩
            · replace c22 := Bool.eq_false_iff.mpr c22
              subst c22
              have H1 : (counterpanelaw10_ModeLaws.j1 kj3 a0 a1 a2 t156 true) = some r := by rw [if_neg (show ¬ (false = true) by decide)] at H; exact H
              clear H
              have H := H1
              clear H1
              have H' := Aside0.mk H
              clear H
              go_wp2_with (first | ((with_reducible refine gate_callee (f := 6) rfl ?_); refine goesL_ (some 27) rfl rfl Try.func6 (by kernel_rfl) rfl #[.int .i64 a0, .int .i64 a1] rfl (by (try simp only [List.map_toArray, List.map_cons, List.map_nil]); first | done | rfl | (simp only [List.length_drop, List.length_take]; rfl)) ?_; (with_reducible refine (mode_Together.calls a0 a1 t157 _ A16.out).mono ?_); rintro e w56 ⟨rfl, hb⟩; refine ⟨_, rfl, ?_⟩; have n0_ := Aside0.mk (below_step (by repeat (first | (with_reducible first | exact HB.out | apply below_alloc | apply pw_below_drewN | apply below_drew1) | exact HB.out)) hb); clear HB; have HB := n0_; clear n0_; (try clear hb); (try clear hb2); (try clear hk); (try clear hi)) | ((with_reducible refine gate_callee (f := 6) rfl ?_); refine goesL_ (some 30) rfl rfl Try.func6 (by kernel_rfl) rfl #[.int .i64 a1, .int .i64 a0] rfl (by (try simp only [List.map_toArray, List.map_cons, List.map_nil]); first | done | rfl | (simp only [List.length_drop, List.length_take]; rfl)) ?_; (with_reducible refine (mode_Together.calls a1 a0 t158 _ A17.out).mono ?_); rintro e w57 ⟨rfl, hb⟩; refine ⟨_, rfl, ?_⟩; have n0_ := Aside0.mk (below_step (by repeat (first | (with_reducible first | exact HB.out | apply below_alloc | apply pw_below_drewN | apply below_drew1) | exact HB.out)) hb); clear HB; have HB := n0_; clear n0_; (try clear hb); (try clear hb2); (try clear hk); (try clear hi)) | (go_at_call 8; (with_reducible refine (mode_Covers.calls a0 a0 false _ A21.out).mono ?_); rintro e w58 ⟨rfl, hb⟩; have n0_ := Aside0.mk (below_step (by repeat (first | (with_reducible first | exact HB.out | apply below_alloc | apply pw_below_drewN | apply below_drew1) | exact HB.out)) hb); clear HB; have HB := n0_; clear n0_; (try clear hb); (try clear hb2); (try clear hk); (try clear hi)))
              go_meet
              case rel => exact ⟨_, (true), (by first | rfl | (simp; done) | (simp [*]; done)), H', ⟨by have := HJ3.out; first | omega | exact Nat.le_refl _⟩, ⟨by repeat (first | (with_reducible first | exact HB.out | apply below_alloc | apply pw_below_drewN | apply below_drew1) | exact HB.out)⟩⟩
        case rest =>
          clear HC14
          try clear c1
          try clear c2
          try clear p2
          try clear c4
          try clear c5
          try clear c6
          try clear c8
          try clear c10
          try clear c15
          try clear c18
          try clear c18b0
          try clear c18b1
          try clear c18b2
          try clear c22
          try clear c24
          try clear c26
          try clear c28
          try clear c28b0
          try clear c28b1
          try clear p2
          obtain ⟨kq, x67_13, rfl, HA, HJ13, HB⟩ := hcut
          cases kq with
          | zero => exact absurd HA.out (by simp [counterpanelaw10_ModeLaws.j1])
          | succ kj13 =>
            have H := HA.out
            clear HA
            simp only [counterpanelaw10_ModeLaws.j1] at H
            by_cases c59 : x67_13 = true
            · subst c59
              have H1 : (some false) = some r := by rw [if_pos rfl] at H; exact H
              clear H
              have H := H1
              clear H1
              obtain rfl := Option.some.inj H
              go_wp2
              go_ret
              exact ⟨by first | rfl | (simp [errW_none, errW_some] <;> rfl) | (simp [*, errW_none, errW_some] <;> rfl), by repeat (first | (with_reducible first | exact HB.out | apply below_alloc | apply pw_below_drewN | apply below_drew1) | exact HB.out)⟩
            · replace c59 := Bool.eq_false_iff.mpr c59
              subst c59
              have H1 : ((mode_Covers.f a0 a1).bind fun t166 => (if t166 = true then ((mode_Covers.f a1 a2).bind fun t167 => (if t167 = true then ((mode_Covers.f a0 a2).bind fun t168 => (if t168 = true then ((mode_Covers.f a0 a1).bind fun t169 => (if t169 = true then ((mode_Covers.f a1 a0).bind fun t170 => (if t170 = true then (counterpanelaw10_ModeLaws.j2 kj13 a0 a1 a2 t156 (a0 != a1)) else (counterpanelaw10_ModeLaws.j2 kj13 a0 a1 a2 t156 false))) else (counterpanelaw10_ModeLaws.j2 kj13 a0 a1 a2 t156 false))) else (counterpanelaw10_ModeLaws.j2 kj13 a0 a1 a2 t156 true))) else ((mode_Covers.f a0 a1).bind fun t171 => (if t171 = true then ((mode_Covers.f a1 a0).bind fun t172 => (if t172 = true then (counterpanelaw10_ModeLaws.j2 kj13 a0 a1 a2 t156 (a0 != a1)) else (counterpanelaw10_ModeLaws.j2 kj13 a0 a1 a2 t156 false))) else (counterpanelaw10_ModeLaws.j2 kj13 a0 a1 a2 t156 false))))) else ((mode_Covers.f a0 a1).bind fun t173 => (if t173 = true then ((mode_Covers.f a1 a0).bind fun t174 => (if t174 = true then (counterpanelaw10_ModeLaws.j2 kj13 a0 a1 a2 t156 (a0 != a1)) else (counterpanelaw10_ModeLaws.j2 kj13 a0 a1 a2 t156 false))) else (counterpanelaw10_ModeLaws.j2 kj13 a0 a1 a2 t156 false))))) = some r := by rw [if_neg (show ¬ (false = true) by decide)] at H; exact H
              clear H
              have H := H1
              clear H1
              have HC60 := Aside0.mk H
              clear H
              go_upto_region 6 with (fail)
              go_cut [96] (fun v96 wc => ∃ (kq : Nat) (x96_59 : Bool), v96 = .bool x96_59 ∧ Aside0 (counterpanelaw10_ModeLaws.j2 kq a0 a1 a2 t156 x96_59 = some r) ∧ Aside0 (kq ≤ kj13) ∧ Aside0 (Below w.heap.size w wc))
              case first =>
                have H := HC60.out
                clear HC60
                replace H := Option.bind_eq_some_iff.mp H
                obtain ⟨t166, A610, H⟩ := H
                replace H : (if t166 = true then ((mode_Covers.f a1 a2).bind fun t167 => (if t167 = true then ((mode_Covers.f a0 a2).bind fun t168 => (if t168 = true then ((mode_Covers.f a0 a1).bind fun t169 => (if t169 = true then ((mode_Covers.f a1 a0).bind fun t170 => (if t170 = true then (counterpanelaw10_ModeLaws.j2 kj13 a0 a1 a2 t156 (a0 != a1)) else (counterpanelaw10_ModeLaws.j2 kj13 a0 a1 a2 t156 false))) else (counterpanelaw10_ModeLaws.j2 kj13 a0 a1 a2 t156 false))) else (counterpanelaw10_ModeLaws.j2 kj13 a0 a1 a2 t156 true))) else ((mode_Covers.f a0 a1).bind fun t171 => (if t171 = true then ((mode_Covers.f a1 a0).bind fun t172 => (if t172 = true then (counterpanelaw10_ModeLaws.j2 kj13 a0 a1 a2 t156 (a0 != a1)) else (counterpanelaw10_ModeLaws.j2 kj13 a0 a1 a2 t156 false))) else (counterpanelaw10_ModeLaws.j2 kj13 a0 a1 a2 t156 false))))) else ((mode_Covers.f a0 a1).bind fun t173 => (if t173 = true then ((mode_Covers.f a1 a0).bind fun t174 => (if t174 = true then (counterpanelaw10_ModeLaws.j2 kj13 a0 a1 a2 t156 (a0 != a1)) else (counterpanelaw10_ModeLaws.j2 kj13 a0 a1 a2 t156 false))) else (counterpanelaw10_ModeLaws.j2 kj13 a0 a1 a2 t156 false)))) = some r := H
                have A61 := Aside0.mk A610
                clear A610
                by_cases c62 : t166 = true
                · subst c62
                  have H1 : ((mode_Covers.f a1 a2).bind fun t167 => (if t167 = true then ((mode_Covers.f a0 a2).bind fun t168 => (if t168 = true then ((mode_Covers.f a0 a1).bind fun t169 => (if t169 = true then ((mode_Covers.f a1 a0).bind fun t170 => (if t170 = true then (counterpanelaw10_ModeLaws.j2 kj13 a0 a1 a2 t156 (a0 != a1)) else (counterpanelaw10_ModeLaws.j2 kj13 a0 a1 a2 t156 false))) else (counterpanelaw10_ModeLaws.j2 kj13 a0 a1 a2 t156 false))) else (counterpanelaw10_ModeLaws.j2 kj13 a0 a1 a2 t156 true))) else ((mode_Covers.f a0 a1).bind fun t171 => (if t171 = true then ((mode_Covers.f a1 a0).bind fun t172 => (if t172 = true then (counterpanelaw10_ModeLaws.j2 kj13 a0 a1 a2 t156 (a0 != a1)) else (counterpanelaw10_ModeLaws.j2 kj13 a0 a1 a2 t156 false))) else (counterpanelaw10_ModeLaws.j2 kj13 a0 a1 a2 t156 false))))) = some r := by rw [if_pos rfl] at H; exact H
                  clear H
                  have H := H1
                  clear H1
                  replace H := Option.bind_eq_some_iff.mp H
                  obtain ⟨t167, A630, H⟩ := H
                  replace H : (if t167 = true then ((mode_Covers.f a0 a2).bind fun t168 => (if t168 = true then ((mode_Covers.f a0 a1).bind fun t169 => (if t169 = true then ((mode_Covers.f a1 a0).bind fun t170 => (if t170 = true then (counterpanelaw10_ModeLaws.j2 kj13 a0 a1 a2 t156 (a0 != a1)) else (counterpanelaw10_ModeLaws.j2 kj13 a0 a1 a2 t156 false))) else (counterpanelaw10_ModeLaws.j2 kj13 a0 a1 a2 t156 false))) else (counterpanelaw10_ModeLaws.j2 kj13 a0 a1 a2 t156 true))) else ((mode_Covers.f a0 a1).bind fun t171 => (if t171 = true then ((mode_Covers.f a1 a0).bind fun t172 => (if t172 = true then (counterpanelaw10_ModeLaws.j2 kj13 a0 a1 a2 t156 (a0 != a1)) else (counterpanelaw10_ModeLaws.j2 kj13 a0 a1 a2 t156 false))) else (counterpanelaw10_ModeLaws.j2 kj13 a0 a1 a2 t156 false)))) = some r := H
                  have A63 := Aside0.mk A630
                  clear A630
                  by_cases c64 : t167 = true
                  · subst c64
                    have H1 : ((mode_Covers.f a0 a2).bind fun t168 => (if t168 = true then ((mode_Covers.f a0 a1).bind fun t169 => (if t169 = true then ((mode_Covers.f a1 a0).bind fun t170 => (if t170 = true then (counterpanelaw10_ModeLaws.j2 kj13 a0 a1 a2 t156 (a0 != a1)) else (counterpanelaw10_ModeLaws.j2 kj13 a0 a1 a2 t156 false))) else (counterpanelaw10_ModeLaws.j2 kj13 a0 a1 a2 t156 false))) else (counterpanelaw10_ModeLaws.j2 kj13 a0 a1 a2 t156 true))) = some r := by rw [if_pos rfl] at H; exact H
                    clear H
                    have H := H1
                    clear H1
                    replace H := Option.bind_eq_some_iff.mp H
                    obtain ⟨t168, A650, H⟩ := H
                    replace H : (if t168 = true then ((mode_Covers.f a0 a1).bind fun t169 => (if t169 = true then ((mode_Covers.f a1 a0).bind fun t170 => (if t170 = true then (counterpanelaw10_ModeLaws.j2 kj13 a0 a1 a2 t156 (a0 != a1)) else (counterpanelaw10_ModeLaws.j2 kj13 a0 a1 a2 t156 false))) else (counterpanelaw10_ModeLaws.j2 kj13 a0 a1 a2 t156 false))) else (counterpanelaw10_ModeLaws.j2 kj13 a0 a1 a2 t156 true)) = some r := H
                    have A65 := Aside0.mk A650
                    clear A650
                    by_cases c66 : t168 = true
                    · subst c66
                      have H1 : ((mode_Covers.f a0 a1).bind fun t169 => (if t169 = true then ((mode_Covers.f a1 a0).bind fun t170 => (if t170 = true then (counterpanelaw10_ModeLaws.j2 kj13 a0 a1 a2 t156 (a0 != a1)) else (counterpanelaw10_ModeLaws.j2 kj13 a0 a1 a2 t156 false))) else (counterpanelaw10_ModeLaws.j2 kj13 a0 a1 a2 t156 false))) = some r := by rw [if_pos rfl] at H; exact H
                      clear H
                      have H := H1
                      clear H1
                      replace H := Option.bind_eq_some_iff.mp H
                      obtain ⟨t169, A670, H⟩ := H
                      replace H : (if t169 = true then ((mode_Covers.f a1 a0).bind fun t170 => (if t170 = true then (counterpanelaw10_ModeLaws.j2 kj13 a0 a1 a2 t156 (a0 != a1)) else (counterpanelaw10_ModeLaws.j2 kj13 a0 a1 a2 t156 false))) else (counterpanelaw10_ModeLaws.j2 kj13 a0 a1 a2 t156 false)) = some r := H
                      have A67 := Aside0.mk A670
                      clear A670
                      by_cases c68 : t169 = true
                      · subst c68
                        have H1 : ((mode_Covers.f a1 a0).bind fun t170 => (if t170 = true then (counterpanelaw10_ModeLaws.j2 kj13 a0 a1 a2 t156 (a0 != a1)) else (counterpanelaw10_ModeLaws.j2 kj13 a0 a1 a2 t156 false))) = some r := by rw [if_pos rfl] at H; exact H
                        clear H
                        have H := H1
                        clear H1
                        replace H := Option.bind_eq_some_iff.mp H
                        obtain ⟨t170, A690, H⟩ := H
                        replace H : (if t170 = true then (counterpanelaw10_ModeLaws.j2 kj13 a0 a1 a2 t156 (a0 != a1)) else (counterpanelaw10_ModeLaws.j2 kj13 a0 a1 a2 t156 false)) = some r := H
                        have A69 := Aside0.mk A690
                        clear A690
                        by_cases c70 : t170 = true
                        · subst c70
                          have H1 : (counterpanelaw10_ModeLaws.j2 kj13 a0 a1 a2 t156 (a0 != a1)) = some r := by rw [if_pos rfl] at H; exact H
                          clear H
                          have H := H1
                          clear H1
                          have H' := Aside0.mk H
                          clear H
                          go_wp2_with (first | ((with_reducible refine gate_callee (f := 8) rfl ?_); refine goesL_ (some 70) rfl rfl Try.func8 (by kernel_rfl) rfl #[.int .i64 a0, .int .i64 a1] rfl (by (try simp only [List.map_toArray, List.map_cons, List.map_nil]); first | done | rfl | (simp only [List.length_drop, List.length_take]; rfl)) ?_; (with_reducible refine (mode_Covers.calls a0 a1 true _ A61.out).mono ?_); rintro e w71 ⟨rfl, hb⟩; refine ⟨_, rfl, ?_⟩; have n0_ := Aside0.mk (below_step (by repeat (first | (with_reducible first | exact HB.out | apply below_alloc | apply pw_below_drewN | apply below_drew1) | exact HB.out)) hb); clear HB; have HB := n0_; clear n0_; (try clear hb); (try clear hb2); (try clear hk); (try clear hi)) | (go_at_call 8; (with_reducible refine (mode_Covers.calls a1 a2 true _ A63.out).mono ?_); rintro e w72 ⟨rfl, hb⟩; have n0_ := Aside0.mk (below_step (by repeat (first | (with_reducible first | exact HB.out | apply below_alloc | apply pw_below_drewN | apply below_drew1) | exact HB.out)) hb); clear HB; have HB := n0_; clear n0_; (try clear hb); (try clear hb2); (try clear hk); (try clear hi)) | (go_at_call 8; (with_reducible refine (mode_Covers.calls a0 a2 true _ A65.out).mono ?_); rintro e w73 ⟨rfl, hb⟩; have n0_ := Aside0.mk (below_step (by repeat (first | (with_reducible first | exact HB.out | apply below_alloc | apply pw_below_drewN | apply below_drew1) | exact HB.out)) hb); clear HB; have HB := n0_; clear n0_; (try clear hb); (try clear hb2); (try clear hk); (try clear hi)) | (go_at_call 8; (with_reducible refine (mode_Covers.calls a0 a1 true _ A67.out).mono ?_); rintro e w74 ⟨rfl, hb⟩; have n0_ := Aside0.mk (below_step (by repeat (first | (with_reducible first | exact HB.out | apply below_alloc | apply pw_below_drewN | apply below_drew1) | exact HB.out)) hb); clear HB; have HB := n0_; clear n0_; (try clear hb); (try clear hb2); (try clear hk); (try clear hi)) | (go_at_call 8; (with_reducible refine (mode_Covers.calls a1 a0 true _ A69.out).mono ?_); rintro e w75 ⟨rfl, hb⟩; have n0_ := Aside0.mk (below_step (by repeat (first | (with_reducible first | exact HB.out | apply below_alloc | apply pw_below_drewN | apply below_drew1) | exact HB.out)) hb); clear HB; have HB := n0_; clear n0_; (try clear hb); (try clear hb2); (try clear hk); (try clear hi)))
                          go_meet
                          case rel => exact ⟨_, ((a0 != a1)), (by first | rfl | (simp; done) | (simp [*]; done)), H', ⟨by have := HJ3.out; have := HJ13.out; first | omega | exact Nat.le_refl _⟩, ⟨by repeat (first | (with_reducible first | exact HB.out | apply below_alloc | apply pw_below_drewN | apply below_drew1) | exact HB.out)⟩⟩
                        · replace c70 := Bool.eq_false_iff.mpr c70
                          subst c70
                          have H1 : (counterpanelaw10_ModeLaws.j2 kj13 a0 a1 a2 t156 false) = some r := by rw [if_neg (show ¬ (false = true) by decide)] at H; exact H
                          clear H
                          have H := H1
                          clear H1
                          have H' := Aside0.mk H
                          clear H
                          go_wp2_with (first | ((with_reducible refine gate_callee (f := 8) rfl ?_); refine goesL_ (some 70) rfl rfl Try.func8 (by kernel_rfl) rfl #[.int .i64 a0, .int .i64 a1] rfl (by (try simp only [List.map_toArray, List.map_cons, List.map_nil]); first | done | rfl | (simp only [List.length_drop, List.length_take]; rfl)) ?_; (with_reducible refine (mode_Covers.calls a0 a1 true _ A61.out).mono ?_); rintro e w76 ⟨rfl, hb⟩; refine ⟨_, rfl, ?_⟩; have n0_ := Aside0.mk (below_step (by repeat (first | (with_reducible first | exact HB.out | apply below_alloc | apply pw_below_drewN | apply below_drew1) | exact HB.out)) hb); clear HB; have HB := n0_; clear n0_; (try clear hb); (try clear hb2); (try clear hk); (try clear hi)) | (go_at_call 8; (with_reducible refine (mode_Covers.calls a1 a2 true _ A63.out).mono ?_); rintro e w77 ⟨rfl, hb⟩; have n0_ := Aside0.mk (below_step (by repeat (first | (with_reducible first | exact HB.out | apply below_alloc | apply pw_below_drewN | apply below_drew1) | exact HB.out)) hb); clear HB; have HB := n0_; clear n0_; (try clear hb); (try clear hb2); (try clear hk); (try clear hi)) | (go_at_call 8; (with_reducible refine (mode_Covers.calls a0 a2 true _ A65.out).mono ?_); rintro e w78 ⟨rfl, hb⟩; have n0_ := Aside0.mk (below_step (by repeat (first | (with_reducible first | exact HB.out | apply below_alloc | apply pw_below_drewN | apply below_drew1) | exact HB.out)) hb); clear HB; have HB := n0_; clear n0_; (try clear hb); (try clear hb2); (try clear hk); (try clear hi)) | (go_at_call 8; (with_reducible refine (mode_Covers.calls a0 a1 true _ A67.out).mono ?_); rintro e w79 ⟨rfl, hb⟩; have n0_ := Aside0.mk (below_step (by repeat (first | (with_reducible first | exact HB.out | apply below_alloc | apply pw_below_drewN | apply below_drew1) | exact HB.out)) hb); clear HB; have HB := n0_; clear n0_; (try clear hb); (try clear hb2); (try clear hk); (try clear hi)) | (go_at_call 8; (with_reducible refine (mode_Covers.calls a1 a0 false _ A69.out).mono ?_); rintro e w80 ⟨rfl, hb⟩; have n0_ := Aside0.mk (below_step (by repeat (first | (with_reducible first | exact HB.out | apply below_alloc | apply pw_below_drewN | apply below_drew1) | exact HB.out)) hb); clear HB; have HB := n0_; clear n0_; (try clear hb); (try clear hb2); (try clear hk); (try clear hi)))
                          go_meet
                          case rel => exact ⟨_, (false), (by first | rfl | (simp; done) | (simp [*]; done)), H', ⟨by have := HJ3.out; have := HJ13.out; first | omega | exact Nat.le_refl _⟩, ⟨by repeat (first | (with_reducible first | exact HB.out | apply below_alloc | apply pw_below_drewN | apply below_drew1) | exact HB.out)⟩⟩
                      · replace c68 := Bool.eq_false_iff.mpr c68
                        subst c68
                        have H1 : (counterpanelaw10_ModeLaws.j2 kj13 a0 a1 a2 t156 false) = some r := by rw [if_neg (show ¬ (false = true) by decide)] at H; exact H
                        clear H
                        have H := H1
                        clear H1
                        have H' := Aside0.mk H
                        clear H
                        go_wp2_with (first | ((with_reducible refine gate_callee (f := 8) rfl ?_); refine goesL_ (some 70) rfl rfl Try.func8 (by kernel_rfl) rfl #[.int .i64 a0, .int .i64 a1] rfl (by (try simp only [List.map_toArray, List.map_cons, List.map_nil]); first | done | rfl | (simp only [List.length_drop, List.length_take]; rfl)) ?_; (with_reducible refine (mode_Covers.calls a0 a1 true _ A61.out).mono ?_); rintro e w81 ⟨rfl, hb⟩; refine ⟨_, rfl, ?_⟩; have n0_ := Aside0.mk (below_step (by repeat (first | (with_reducible first | exact HB.out | apply below_alloc | apply pw_below_drewN | apply below_drew1) | exact HB.out)) hb); clear HB; have HB := n0_; clear n0_; (try clear hb); (try clear hb2); (try clear hk); (try clear hi)) | (go_at_call 8; (with_reducible refine (mode_Covers.calls a1 a2 true _ A63.out).mono ?_); rintro e w82 ⟨rfl, hb⟩; have n0_ := Aside0.mk (below_step (by repeat (first | (with_reducible first | exact HB.out | apply below_alloc | apply pw_below_drewN | apply below_drew1) | exact HB.out)) hb); clear HB; have HB := n0_; clear n0_; (try clear hb); (try clear hb2); (try clear hk); (try clear hi)) | (go_at_call 8; (with_reducible refine (mode_Covers.calls a0 a2 true _ A65.out).mono ?_); rintro e w83 ⟨rfl, hb⟩; have n0_ := Aside0.mk (below_step (by repeat (first | (with_reducible first | exact HB.out | apply below_alloc | apply pw_below_drewN | apply below_drew1) | exact HB.out)) hb); clear HB; have HB := n0_; clear n0_; (try clear hb); (try clear hb2); (try clear hk); (try clear hi)) | (go_at_call 8; (with_reducible refine (mode_Covers.calls a0 a1 false _ A67.out).mono ?_); rintro e w84 ⟨rfl, hb⟩; have n0_ := Aside0.mk (below_step (by repeat (first | (with_reducible first | exact HB.out | apply below_alloc | apply pw_below_drewN | apply below_drew1) | exact HB.out)) hb); clear HB; have HB := n0_; clear n0_; (try clear hb); (try clear hb2); (try clear hk); (try clear hi)))
                        go_meet
                        case rel => exact ⟨_, (false), (by first | rfl | (simp; done) | (simp [*]; done)), H', ⟨by have := HJ3.out; have := HJ13.out; first | omega | exact Nat.le_refl _⟩, ⟨by repeat (first | (with_reducible first | exact HB.out | apply below_alloc | apply pw_below_drewN | apply below_drew1) | exact HB.out)⟩⟩
                    · replace c66 := Bool.eq_false_iff.mpr c66
                      subst c66
                      have H1 : (counterpanelaw10_ModeLaws.j2 kj13 a0 a1 a2 t156 true) = some r := by rw [if_neg (show ¬ (false = true) by decide)] at H; exact H
                      clear H
                      have H := H1
                      clear H1
                      have H' := Aside0.mk H
                      clear H
                      go_wp2_with (first | ((with_reducible refine gate_callee (f := 8) rfl ?_); refine goesL_ (some 70) rfl rfl Try.func8 (by kernel_rfl) rfl #[.int .i64 a0, .int .i64 a1] rfl (by (try simp only [List.map_toArray, List.map_cons, List.map_nil]); first | done | rfl | (simp only [List.length_drop, List.length_take]; rfl)) ?_; (with_reducible refine (mode_Covers.calls a0 a1 true _ A61.out).mono ?_); rintro e w85 ⟨rfl, hb⟩; refine ⟨_, rfl, ?_⟩; have n0_ := Aside0.mk (below_step (by repeat (first | (with_reducible first | exact HB.out | apply below_alloc | apply pw_below_drewN | apply below_drew1) | exact HB.out)) hb); clear HB; have HB := n0_; clear n0_; (try clear hb); (try clear hb2); (try clear hk); (try clear hi)) | (go_at_call 8; (with_reducible refine (mode_Covers.calls a1 a2 true _ A63.out).mono ?_); rintro e w86 ⟨rfl, hb⟩; have n0_ := Aside0.mk (below_step (by repeat (first | (with_reducible first | exact HB.out | apply below_alloc | apply pw_below_drewN | apply below_drew1) | exact HB.out)) hb); clear HB; have HB := n0_; clear n0_; (try clear hb); (try clear hb2); (try clear hk); (try clear hi)) | (go_at_call 8; (with_reducible refine (mode_Covers.calls a0 a2 false _ A65.out).mono ?_); rintro e w87 ⟨rfl, hb⟩; have n0_ := Aside0.mk (below_step (by repeat (first | (with_reducible first | exact HB.out | apply below_alloc | apply pw_below_drewN | apply below_drew1) | exact HB.out)) hb); clear HB; have HB := n0_; clear n0_; (try clear hb); (try clear hb2); (try clear hk); (try clear hi)))
                      go_meet
                      case rel => exact ⟨_, (true), (by first | rfl | (simp; done) | (simp [*]; done)), H', ⟨by have := HJ3.out; have := HJ13.out; first | omega | exact Nat.le_refl _⟩, ⟨by repeat (first | (with_reducible first | exact HB.out | apply below_alloc | apply pw_below_drewN | apply below_drew1) | exact HB.out)⟩⟩
                  · replace c64 := Bool.eq_false_iff.mpr c64
                    subst c64
                    have H1 : ((mode_Covers.f a0 a1).bind fun t171 => (if t171 = true then ((mode_Covers.f a1 a0).bind fun t172 => (if t172 = true then (counterpanelaw10_ModeLaws.j2 kj13 a0 a1 a2 t156 (a0 != a1)) else (counterpanelaw10_ModeLaws.j2 kj13 a0 a1 a2 t156 false))) else (counterpanelaw10_ModeLaws.j2 kj13 a0 a1 a2 t156 false))) = some r := by rw [if_neg (show ¬ (false = true) by decide)] at H; exact H
                    clear H
                    have H := H1
                    clear H1
                    replace H := Option.bind_eq_some_iff.mp H
                    obtain ⟨t171, A880, H⟩ := H
                    replace H : (if t171 = true then ((mode_Covers.f a1 a0).bind fun t172 => (if t172 = true then (counterpanelaw10_ModeLaws.j2 kj13 a0 a1 a2 t156 (a0 != a1)) else (counterpanelaw10_ModeLaws.j2 kj13 a0 a1 a2 t156 false))) else (counterpanelaw10_ModeLaws.j2 kj13 a0 a1 a2 t156 false)) = some r := H
                    have A88 := Aside0.mk A880
                    clear A880
                    by_cases c89 : t171 = true
                    · subst c89
                      have H1 : ((mode_Covers.f a1 a0).bind fun t172 => (if t172 = true then (counterpanelaw10_ModeLaws.j2 kj13 a0 a1 a2 t156 (a0 != a1)) else (counterpanelaw10_ModeLaws.j2 kj13 a0 a1 a2 t156 false))) = some r := by rw [if_pos rfl] at H; exact H
                      clear H
                      have H := H1
                      clear H1
                      replace H := Option.bind_eq_some_iff.mp H
                      obtain ⟨t172, A900, H⟩ := H
                      replace H : (if t172 = true then (counterpanelaw10_ModeLaws.j2 kj13 a0 a1 a2 t156 (a0 != a1)) else (counterpanelaw10_ModeLaws.j2 kj13 a0 a1 a2 t156 false)) = some r := H
                      have A90 := Aside0.mk A900
                      clear A900
                      by_cases c91 : t172 = true
                      · subst c91
                        have H1 : (counterpanelaw10_ModeLaws.j2 kj13 a0 a1 a2 t156 (a0 != a1)) = some r := by rw [if_pos rfl] at H; exact H
                        clear H
                        have H := H1
                        clear H1
                        have H' := Aside0.mk H
                        clear H
                        go_wp2_with (first | ((with_reducible refine gate_callee (f := 8) rfl ?_); refine goesL_ (some 70) rfl rfl Try.func8 (by kernel_rfl) rfl #[.int .i64 a0, .int .i64 a1] rfl (by (try simp only [List.map_toArray, List.map_cons, List.map_nil]); first | done | rfl | (simp only [List.length_drop, List.length_take]; rfl)) ?_; (with_reducible refine (mode_Covers.calls a0 a1 true _ A61.out).mono ?_); rintro e w92 ⟨rfl, hb⟩; refine ⟨_, rfl, ?_⟩; have n0_ := Aside0.mk (below_step (by repeat (first | (with_reducible first | exact HB.out | apply below_alloc | apply pw_below_drewN | apply below_drew1) | exact HB.out)) hb); clear HB; have HB := n0_; clear n0_; (try clear hb); (try clear hb2); (try clear hk); (try clear hi)) | (go_at_call 8; (with_reducible refine (mode_Covers.calls a1 a2 false _ A63.out).mono ?_); rintro e w93 ⟨rfl, hb⟩; have n0_ := Aside0.mk (below_step (by repeat (first | (with_reducible first | exact HB.out | apply below_alloc | apply pw_below_drewN | apply below_drew1) | exact HB.out)) hb); clear HB; have HB := n0_; clear n0_; (try clear hb); (try clear hb2); (try clear hk); (try clear hi)) | (go_at_call 8; (with_reducible refine (mode_Covers.calls a0 a1 true _ A88.out).mono ?_); rintro e w94 ⟨rfl, hb⟩; have n0_ := Aside0.mk (below_step (by repeat (first | (with_reducible first | exact HB.out | apply below_alloc | apply pw_below_drewN | apply below_drew1) | exact HB.out)) hb); clear HB; have HB := n0_; clear n0_; (try clear hb); (try clear hb2); (try clear hk); (try clear hi)) | (go_at_call 8; (with_reducible refine (mode_Covers.calls a1 a0 true _ A90.out).mono ?_); rintro e w95 ⟨rfl, hb⟩; have n0_ := Aside0.mk (below_step (by repeat (first | (with_reducible first | exact HB.out | apply below_alloc | apply pw_below_drewN | apply below_drew1) | exact HB.out)) hb); clear HB; have HB := n0_; clear n0_; (try clear hb); (try clear hb2); (try clear hk); (try clear hi)))
                        go_meet
                        case rel => exact ⟨_, ((a0 != a1)), (by first | rfl | (simp; done) | (simp [*]; done)), H', ⟨by have := HJ3.out; have := HJ13.out; first | omega | exact Nat.le_refl _⟩, ⟨by repeat (first | (with_reducible first | exact HB.out | apply below_alloc | apply pw_below_drewN | apply below_drew1) | exact HB.out)⟩⟩
                      · replace c91 := Bool.eq_false_iff.mpr c91
                        subst c91
                        have H1 : (counterpanelaw10_ModeLaws.j2 kj13 a0 a1 a2 t156 false) = some r := by rw [if_neg (show ¬ (false = true) by decide)] at H; exact H
                        clear H
                        have H := H1
                        clear H1
                        have H' := Aside0.mk H
                        clear H
                        go_wp2_with (first | ((with_reducible refine gate_callee (f := 8) rfl ?_); refine goesL_ (some 70) rfl rfl Try.func8 (by kernel_rfl) rfl #[.int .i64 a0, .int .i64 a1] rfl (by (try simp only [List.map_toArray, List.map_cons, List.map_nil]); first | done | rfl | (simp only [List.length_drop, List.length_take]; rfl)) ?_; (with_reducible refine (mode_Covers.calls a0 a1 true _ A61.out).mono ?_); rintro e w96 ⟨rfl, hb⟩; refine ⟨_, rfl, ?_⟩; have n0_ := Aside0.mk (below_step (by repeat (first | (with_reducible first | exact HB.out | apply below_alloc | apply pw_below_drewN | apply below_drew1) | exact HB.out)) hb); clear HB; have HB := n0_; clear n0_; (try clear hb); (try clear hb2); (try clear hk); (try clear hi)) | (go_at_call 8; (with_reducible refine (mode_Covers.calls a1 a2 false _ A63.out).mono ?_); rintro e w97 ⟨rfl, hb⟩; have n0_ := Aside0.mk (below_step (by repeat (first | (with_reducible first | exact HB.out | apply below_alloc | apply pw_below_drewN | apply below_drew1) | exact HB.out)) hb); clear HB; have HB := n0_; clear n0_; (try clear hb); (try clear hb2); (try clear hk); (try clear hi)) | (go_at_call 8; (with_reducible refine (mode_Covers.calls a0 a1 true _ A88.out).mono ?_); rintro e w98 ⟨rfl, hb⟩; have n0_ := Aside0.mk (below_step (by repeat (first | (with_reducible first | exact HB.out | apply below_alloc | apply pw_below_drewN | apply below_drew1) | exact HB.out)) hb); clear HB; have HB := n0_; clear n0_; (try clear hb); (try clear hb2); (try clear hk); (try clear hi)) | (go_at_call 8; (with_reducible refine (mode_Covers.calls a1 a0 false _ A90.out).mono ?_); rintro e w99 ⟨rfl, hb⟩; have n0_ := Aside0.mk (below_step (by repeat (first | (with_reducible first | exact HB.out | apply below_alloc | apply pw_below_drewN | apply below_drew1) | exact HB.out)) hb); clear HB; have HB := n0_; clear n0_; (try clear hb); (try clear hb2); (try clear hk); (try clear hi)))
                        go_meet
                        case rel => exact ⟨_, (false), (by first | rfl | (simp; done) | (simp [*]; done)), H', ⟨by have := HJ3.out; have := HJ13.out; first | omega | exact Nat.le_refl _⟩, ⟨by repeat (first | (with_reducible first | exact HB.out | apply below_alloc | apply pw_below_drewN | apply below_drew1) | exact HB.out)⟩⟩
                    · replace c89 := Bool.eq_false_iff.mpr c89
                      subst c89
                      have H1 : (counterpanelaw10_ModeLaws.j2 kj13 a0 a1 a2 t156 false) = some r := by rw [if_neg (show ¬ (false = true) by decide)] at H; exact H
                      clear H
                      have H := H1
                      clear H1
                      have H' := Aside0.mk H
                      clear H
                      go_wp2_with (first | ((with_reducible refine gate_callee (f := 8) rfl ?_); refine goesL_ (some 70) rfl rfl Try.func8 (by kernel_rfl) rfl #[.int .i64 a0, .int .i64 a1] rfl (by (try simp only [List.map_toArray, List.map_cons, List.map_nil]); first | done | rfl | (simp only [List.length_drop, List.length_take]; rfl)) ?_; (with_reducible refine (mode_Covers.calls a0 a1 true _ A61.out).mono ?_); rintro e w100 ⟨rfl, hb⟩; refine ⟨_, rfl, ?_⟩; have n0_ := Aside0.mk (below_step (by repeat (first | (with_reducible first | exact HB.out | apply below_alloc | apply pw_below_drewN | apply below_drew1) | exact HB.out)) hb); clear HB; have HB := n0_; clear n0_; (try clear hb); (try clear hb2); (try clear hk); (try clear hi)) | (go_at_call 8; (with_reducible refine (mode_Covers.calls a1 a2 false _ A63.out).mono ?_); rintro e w101 ⟨rfl, hb⟩; have n0_ := Aside0.mk (below_step (by repeat (first | (with_reducible first | exact HB.out | apply below_alloc | apply pw_below_drewN | apply below_drew1) | exact HB.out)) hb); clear HB; have HB := n0_; clear n0_; (try clear hb); (try clear hb2); (try clear hk); (try clear hi)) | (go_at_call 8; (with_reducible refine (mode_Covers.calls a0 a1 false _ A88.out).mono ?_); rintro e w102 ⟨rfl, hb⟩; have n0_ := Aside0.mk (below_step (by repeat (first | (with_reducible first | exact HB.out | apply below_alloc | apply pw_below_drewN | apply below_drew1) | exact HB.out)) hb); clear HB; have HB := n0_; clear n0_; (try clear hb); (try clear hb2); (try clear hk); (try clear hi)))
                      go_meet
                      case rel => exact ⟨_, (false), (by first | rfl | (simp; done) | (simp [*]; done)), H', ⟨by have := HJ3.out; have := HJ13.out; first | omega | exact Nat.le_refl _⟩, ⟨by repeat (first | (with_reducible first | exact HB.out | apply below_alloc | apply pw_below_drewN | apply below_drew1) | exact HB.out)⟩⟩
                · replace c62 := Bool.eq_false_iff.mpr c62
                  subst c62
                  have H1 : ((mode_Covers.f a0 a1).bind fun t173 => (if t173 = true then ((mode_Covers.f a1 a0).bind fun t174 => (if t174 = true then (counterpanelaw10_ModeLaws.j2 kj13 a0 a1 a2 t156 (a0 != a1)) else (counterpanelaw10_ModeLaws.j2 kj13 a0 a1 a2 t156 false))) else (counterpanelaw10_ModeLaws.j2 kj13 a0 a1 a2 t156 false))) = some r := by rw [if_neg (show ¬ (false = true) by decide)] at H; exact H
                  clear H
                  have H := H1
                  clear H1
                  replace H := Option.bind_eq_some_iff.mp H
                  obtain ⟨t173, A1030, H⟩ := H
                  replace H : (if t173 = true then ((mode_Covers.f a1 a0).bind fun t174 => (if t174 = true then (counterpanelaw10_ModeLaws.j2 kj13 a0 a1 a2 t156 (a0 != a1)) else (counterpanelaw10_ModeLaws.j2 kj13 a0 a1 a2 t156 false))) else (counterpanelaw10_ModeLaws.j2 kj13 a0 a1 a2 t156 false)) = some r := H
                  have A103 := Aside0.mk A1030
                  clear A1030
                  by_cases c104 : t173 = true
                  · subst c104
                    have H1 : ((mode_Covers.f a1 a0).bind fun t174 => (if t174 = true then (counterpanelaw10_ModeLaws.j2 kj13 a0 a1 a2 t156 (a0 != a1)) else (counterpanelaw10_ModeLaws.j2 kj13 a0 a1 a2 t156 false))) = some r := by rw [if_pos rfl] at H; exact H
                    clear H
                    have H := H1
                    clear H1
                    replace H := Option.bind_eq_some_iff.mp H
                    obtain ⟨t174, A1050, H⟩ := H
                    replace H : (if t174 = true then (counterpanelaw10_ModeLaws.j2 kj13 a0 a1 a2 t156 (a0 != a1)) else (counterpanelaw10_ModeLaws.j2 kj13 a0 a1 a2 t156 false)) = some r := H
                    have A105 := Aside0.mk A1050
                    clear A1050
                    by_cases c106 : t174 = true
                    · subst c106
                      have H1 : (counterpanelaw10_ModeLaws.j2 kj13 a0 a1 a2 t156 (a0 != a1)) = some r := by rw [if_pos rfl] at H; exact H
                      clear H
                      have H := H1
                      clear H1
                      have H' := Aside0.mk H
                      clear H
                      go_wp2_with (first | ((with_reducible refine gate_callee (f := 8) rfl ?_); refine goesL_ (some 70) rfl rfl Try.func8 (by kernel_rfl) rfl #[.int .i64 a0, .int .i64 a1] rfl (by (try simp only [List.map_toArray, List.map_cons, List.map_nil]); first | done | rfl | (simp only [List.length_drop, List.length_take]; rfl)) ?_; (with_reducible refine (mode_Covers.calls a0 a1 false _ A61.out).mono ?_); rintro e w107 ⟨rfl, hb⟩; refine ⟨_, rfl, ?_⟩; have n0_ := Aside0.mk (below_step (by repeat (first | (with_reducible first | exact HB.out | apply below_alloc | apply pw_below_drewN | apply below_drew1) | exact HB.out)) hb); clear HB; have HB := n0_; clear n0_; (try clear hb); (try clear hb2); (try clear hk); (try clear hi)) | (go_at_call 8; (with_reducible refine (mode_Covers.calls a0 a1 true _ A103.out).mono ?_); rintro e w108 ⟨rfl, hb⟩; have n0_ := Aside0.mk (below_step (by repeat (first | (with_reducible first | exact HB.out | apply below_alloc | apply pw_below_drewN | apply below_drew1) | exact HB.out)) hb); clear HB; have HB := n0_; clear n0_; (try clear hb); (try clear hb2); (try clear hk); (try clear hi)) | (go_at_call 8; (with_reducible refine (mode_Covers.calls a1 a0 true _ A105.out).mono ?_); rintro e w109 ⟨rfl, hb⟩; have n0_ := Aside0.mk (below_step (by repeat (first | (with_reducible first | exact HB.out | apply below_alloc | apply pw_below_drewN | apply below_drew1) | exact HB.out)) hb); clear HB; have HB := n0_; clear n0_; (try clear hb); (try clear hb2); (try clear hk); (try clear hi)))
                      go_meet
                      case rel => exact ⟨_, ((a0 != a1)), (by first | rfl | (simp; done) | (simp [*]; done)), H', ⟨by have := HJ3.out; have := HJ13.out; first | omega | exact Nat.le_refl _⟩, ⟨by repeat (first | (with_reducible first | exact HB.out | apply below_alloc | apply pw_below_drewN | apply below_drew1) | exact HB.out)⟩⟩
                    · replace c106 := Bool.eq_false_iff.mpr c106
                      subst c106
                      have H1 : (counterpanelaw10_ModeLaws.j2 kj13 a0 a1 a2 t156 false) = some r := by rw [if_neg (show ¬ (false = true) by decide)] at H; exact H
                      clear H
                      have H := H1
                      clear H1
                      have H' := Aside0.mk H
                      clear H
                      go_wp2_with (first | ((with_reducible refine gate_callee (f := 8) rfl ?_); refine goesL_ (some 70) rfl rfl Try.func8 (by kernel_rfl) rfl #[.int .i64 a0, .int .i64 a1] rfl (by (try simp only [List.map_toArray, List.map_cons, List.map_nil]); first | done | rfl | (simp only [List.length_drop, List.length_take]; rfl)) ?_; (with_reducible refine (mode_Covers.calls a0 a1 false _ A61.out).mono ?_); rintro e w110 ⟨rfl, hb⟩; refine ⟨_, rfl, ?_⟩; have n0_ := Aside0.mk (below_step (by repeat (first | (with_reducible first | exact HB.out | apply below_alloc | apply pw_below_drewN | apply below_drew1) | exact HB.out)) hb); clear HB; have HB := n0_; clear n0_; (try clear hb); (try clear hb2); (try clear hk); (try clear hi)) | (go_at_call 8; (with_reducible refine (mode_Covers.calls a0 a1 true _ A103.out).mono ?_); rintro e w111 ⟨rfl, hb⟩; have n0_ := Aside0.mk (below_step (by repeat (first | (with_reducible first | exact HB.out | apply below_alloc | apply pw_below_drewN | apply below_drew1) | exact HB.out)) hb); clear HB; have HB := n0_; clear n0_; (try clear hb); (try clear hb2); (try clear hk); (try clear hi)) | (go_at_call 8; (with_reducible refine (mode_Covers.calls a1 a0 false _ A105.out).mono ?_); rintro e w112 ⟨rfl, hb⟩; have n0_ := Aside0.mk (below_step (by repeat (first | (with_reducible first | exact HB.out | apply below_alloc | apply pw_below_drewN | apply below_drew1) | exact HB.out)) hb); clear HB; have HB := n0_; clear n0_; (try clear hb); (try clear hb2); (try clear hk); (try clear hi)))
                      go_meet
                      case rel => exact ⟨_, (false), (by first | rfl | (simp; done) | (simp [*]; done)), H', ⟨by have := HJ3.out; have := HJ13.out; first | omega | exact Nat.le_refl _⟩, ⟨by repeat (first | (with_reducible first | exact HB.out | apply below_alloc | apply pw_below_drewN | apply below_drew1) | exact HB.out)⟩⟩
                  · replace c104 := Bool.eq_false_iff.mpr c104
                    subst c104
                    have H1 : (counterpanelaw10_ModeLaws.j2 kj13 a0 a1 a2 t156 false) = some r := by rw [if_neg (show ¬ (false = true) by decide)] at H; exact H
                    clear H
                    have H := H1
                    clear H1
                    have H' := Aside0.mk H
                    clear H
                    go_wp2_with (first | ((with_reducible refine gate_callee (f := 8) rfl ?_); refine goesL_ (some 70) rfl rfl Try.func8 (by kernel_rfl) rfl #[.int .i64 a0, .int .i64 a1] rfl (by (try simp only [List.map_toArray, List.map_cons, List.map_nil]); first | done | rfl | (simp only [List.length_drop, List.length_take]; rfl)) ?_; (with_reducible refine (mode_Covers.calls a0 a1 false _ A61.out).mono ?_); rintro e w113 ⟨rfl, hb⟩; refine ⟨_, rfl, ?_⟩; have n0_ := Aside0.mk (below_step (by repeat (first | (with_reducible first | exact HB.out | apply below_alloc | apply pw_below_drewN | apply below_drew1) | exact HB.out)) hb); clear HB; have HB := n0_; clear n0_; (try clear hb); (try clear hb2); (try clear hk); (try clear hi)) | (go_at_call 8; (with_reducible refine (mode_Covers.calls a0 a1 false _ A103.out).mono ?_); rintro e w114 ⟨rfl, hb⟩; have n0_ := Aside0.mk (below_step (by repeat (first | (with_reducible first | exact HB.out | apply below_alloc | apply pw_below_drewN | apply below_drew1) | exact HB.out)) hb); clear HB; have HB := n0_; clear n0_; (try clear hb); (try clear hb2); (try clear hk); (try clear hi)))
                    go_meet
                    case rel => exact ⟨_, (false), (by first | rfl | (simp; done) | (simp [*]; done)), H', ⟨by have := HJ3.out; have := HJ13.out; first | omega | exact Nat.le_refl _⟩, ⟨by repeat (first | (with_reducible first | exact HB.out | apply below_alloc | apply pw_below_drewN | apply below_drew1) | exact HB.out)⟩⟩
              case rest =>
                clear HC60
                try clear c1
                try clear c2
                try clear p2
                try clear c4
                try clear c5
                try clear c6
                try clear c7
                try clear c8
                try clear c9
                try clear c10
                try clear c15
                try clear c18
                try clear c18b0
                try clear c18b1
                try clear c18b2
                try clear c22
                try clear c24
                try clear c26
                try clear c28
                try clear c28b0
                try clear c28b1
                try clear c59
                try clear c62
                try clear c64
                try clear c66
                try clear c68
                try clear c70
                try clear c89
                try clear c91
                try clear c104
                try clear c106
                try clear p2
                obtain ⟨kq, x96_59, rfl, HA, HJ59, HB⟩ := hcut
                cases kq with
                | zero => exact absurd HA.out (by simp [counterpanelaw10_ModeLaws.j2])
                | succ kj59 =>
                  have H := HA.out
                  clear HA
                  simp only [counterpanelaw10_ModeLaws.j2] at H
                  by_cases c115 : x96_59 = true
                  · subst c115
                    have H1 : (some false) = some r := by rw [if_pos rfl] at H; exact H
                    clear H
                    have H := H1
                    clear H1
                    obtain rfl := Option.some.inj H
                    go_wp2
                    go_ret
                    exact ⟨by first | rfl | (simp [errW_none, errW_some] <;> rfl) | (simp [*, errW_none, errW_some] <;> rfl), by repeat (first | (with_reducible first | exact HB.out | apply below_alloc | apply pw_below_drewN | apply below_drew1) | exact HB.out)⟩
                  · replace c115 := Bool.eq_false_iff.mpr c115
                    subst c115
                    have H1 : ((mode_Covers.f a0 a1).bind fun t175 => (if t175 = true then ((mode_Together.f a0 a2).bind fun t176 => (if t176 = true then ((mode_Together.f a1 a2).bind fun t177 => (if t177 = true then ((mode_Covers.f a2 a0).bind fun t178 => (if t178 = true then ((mode_Covers.f a2 a1).bind fun t179 => (if t179 = true then ((mode_Covers.f a2 t156).bind fun t180 => (counterpanelaw10_ModeLaws.j3 kj59 a0 a1 (!t180))) else (counterpanelaw10_ModeLaws.j3 kj59 a0 a1 false))) else (counterpanelaw10_ModeLaws.j3 kj59 a0 a1 false))) else (counterpanelaw10_ModeLaws.j3 kj59 a0 a1 true))) else ((mode_Covers.f a2 a0).bind fun t181 => (if t181 = true then ((mode_Covers.f a2 a1).bind fun t182 => (if t182 = true then ((mode_Covers.f a2 t156).bind fun t183 => (counterpanelaw10_ModeLaws.j3 kj59 a0 a1 (!t183))) else (counterpanelaw10_ModeLaws.j3 kj59 a0 a1 false))) else (counterpanelaw10_ModeLaws.j3 kj59 a0 a1 false))))) else ((mode_Covers.f a2 a0).bind fun t184 => (if t184 = true then ((mode_Covers.f a2 a1).bind fun t185 => (if t185 = true then ((mode_Covers.f a2 t156).bind fun t186 => (counterpanelaw10_ModeLaws.j3 kj59 a0 a1 (!t186))) else (counterpanelaw10_ModeLaws.j3 kj59 a0 a1 false))) else (counterpanelaw10_ModeLaws.j3 kj59 a0 a1 false))))) = some r := by rw [if_neg (show ¬ (false = true) by decide)] at H; exact H
                    clear H
                    have H := H1
                    clear H1
                    have HC116 := Aside0.mk H
                    clear H
                    go_upto_region 8 with (fail)
                    go_cut [126] (fun v126 wc => ∃ (kq : Nat) (x126_115 : Bool), v126 = .bool x126_115 ∧ Aside0 (counterpanelaw10_ModeLaws.j3 kq a0 a1 x126_115 = some r) ∧ Aside0 (kq ≤ kj59) ∧ Aside0 (Below w.heap.size w wc))
                    case first =>
                      have H := HC116.out
                      clear HC116
                      replace H := Option.bind_eq_some_iff.mp H
                      obtain ⟨t175, A1170, H⟩ := H
                      replace H : (if t175 = true then ((mode_Together.f a0 a2).bind fun t176 => (if t176 = true then ((mode_Together.f a1 a2).bind fun t177 => (if t177 = true then ((mode_Covers.f a2 a0).bind fun t178 => (if t178 = true then ((mode_Covers.f a2 a1).bind fun t179 => (if t179 = true then ((mode_Covers.f a2 t156).bind fun t180 => (counterpanelaw10_ModeLaws.j3 kj59 a0 a1 (!t180))) else (counterpanelaw10_ModeLaws.j3 kj59 a0 a1 false))) else (counterpanelaw10_ModeLaws.j3 kj59 a0 a1 false))) else (counterpanelaw10_ModeLaws.j3 kj59 a0 a1 true))) else ((mode_Covers.f a2 a0).bind fun t181 => (if t181 = true then ((mode_Covers.f a2 a1).bind fun t182 => (if t182 = true then ((mode_Covers.f a2 t156).bind fun t183 => (counterpanelaw10_ModeLaws.j3 kj59 a0 a1 (!t183))) else (counterpanelaw10_ModeLaws.j3 kj59 a0 a1 false))) else (counterpanelaw10_ModeLaws.j3 kj59 a0 a1 false))))) else ((mode_Covers.f a2 a0).bind fun t184 => (if t184 = true then ((mode_Covers.f a2 a1).bind fun t185 => (if t185 = true then ((mode_Covers.f a2 t156).bind fun t186 => (counterpanelaw10_ModeLaws.j3 kj59 a0 a1 (!t186))) else (counterpanelaw10_ModeLaws.j3 kj59 a0 a1 false))) else (counterpanelaw10_ModeLaws.j3 kj59 a0 a1 false)))) = some r := H
                      have A117 := Aside0.mk A1170
                      clear A1170
                      by_cases c118 : t175 = true
                      · subst c118
                        have H1 : ((mode_Together.f a0 a2).bind fun t176 => (if t176 = true then ((mode_Together.f a1 a2).bind fun t177 => (if t177 = true then ((mode_Covers.f a2 a0).bind fun t178 => (if t178 = true then ((mode_Covers.f a2 a1).bind fun t179 => (if t179 = true then ((mode_Covers.f a2 t156).bind fun t180 => (counterpanelaw10_ModeLaws.j3 kj59 a0 a1 (!t180))) else (counterpanelaw10_ModeLaws.j3 kj59 a0 a1 false))) else (counterpanelaw10_ModeLaws.j3 kj59 a0 a1 false))) else (counterpanelaw10_ModeLaws.j3 kj59 a0 a1 true))) else ((mode_Covers.f a2 a0).bind fun t181 => (if t181 = true then ((mode_Covers.f a2 a1).bind fun t182 => (if t182 = true then ((mode_Covers.f a2 t156).bind fun t183 => (counterpanelaw10_ModeLaws.j3 kj59 a0 a1 (!t183))) else (counterpanelaw10_ModeLaws.j3 kj59 a0 a1 false))) else (counterpanelaw10_ModeLaws.j3 kj59 a0 a1 false))))) = some r := by rw [if_pos rfl] at H; exact H
                        clear H
                        have H := H1
                        clear H1
                        replace H := Option.bind_eq_some_iff.mp H
                        obtain ⟨t176, A1190, H⟩ := H
                        replace H : (if t176 = true then ((mode_Together.f a1 a2).bind fun t177 => (if t177 = true then ((mode_Covers.f a2 a0).bind fun t178 => (if t178 = true then ((mode_Covers.f a2 a1).bind fun t179 => (if t179 = true then ((mode_Covers.f a2 t156).bind fun t180 => (counterpanelaw10_ModeLaws.j3 kj59 a0 a1 (!t180))) else (counterpanelaw10_ModeLaws.j3 kj59 a0 a1 false))) else (counterpanelaw10_ModeLaws.j3 kj59 a0 a1 false))) else (counterpanelaw10_ModeLaws.j3 kj59 a0 a1 true))) else ((mode_Covers.f a2 a0).bind fun t181 => (if t181 = true then ((mode_Covers.f a2 a1).bind fun t182 => (if t182 = true then ((mode_Covers.f a2 t156).bind fun t183 => (counterpanelaw10_ModeLaws.j3 kj59 a0 a1 (!t183))) else (counterpanelaw10_ModeLaws.j3 kj59 a0 a1 false))) else (counterpanelaw10_ModeLaws.j3 kj59 a0 a1 false)))) = some r := H
                        have A119 := Aside0.mk A1190
                        clear A1190
                        by_cases c120 : t176 = true
                        · subst c120
                          have H1 : ((mode_Together.f a1 a2).bind fun t177 => (if t177 = true then ((mode_Covers.f a2 a0).bind fun t178 => (if t178 = true then ((mode_Covers.f a2 a1).bind fun t179 => (if t179 = true then ((mode_Covers.f a2 t156).bind fun t180 => (counterpanelaw10_ModeLaws.j3 kj59 a0 a1 (!t180))) else (counterpanelaw10_ModeLaws.j3 kj59 a0 a1 false))) else (counterpanelaw10_ModeLaws.j3 kj59 a0 a1 false))) else (counterpanelaw10_ModeLaws.j3 kj59 a0 a1 true))) = some r := by rw [if_pos rfl] at H; exact H
                          clear H
                          have H := H1
                          clear H1
                          replace H := Option.bind_eq_some_iff.mp H
                          obtain ⟨t177, A1210, H⟩ := H
                          replace H : (if t177 = true then ((mode_Covers.f a2 a0).bind fun t178 => (if t178 = true then ((mode_Covers.f a2 a1).bind fun t179 => (if t179 = true then ((mode_Covers.f a2 t156).bind fun t180 => (counterpanelaw10_ModeLaws.j3 kj59 a0 a1 (!t180))) else (counterpanelaw10_ModeLaws.j3 kj59 a0 a1 false))) else (counterpanelaw10_ModeLaws.j3 kj59 a0 a1 false))) else (counterpanelaw10_ModeLaws.j3 kj59 a0 a1 true)) = some r := H
                          have A121 := Aside0.mk A1210
                          clear A1210
                          by_cases c122 : t177 = true
                          · subst c122
                            have H1 : ((mode_Covers.f a2 a0).bind fun t178 => (if t178 = true then ((mode_Covers.f a2 a1).bind fun t179 => (if t179 = true then ((mode_Covers.f a2 t156).bind fun t180 => (counterpanelaw10_ModeLaws.j3 kj59 a0 a1 (!t180))) else (counterpanelaw10_ModeLaws.j3 kj59 a0 a1 false))) else (counterpanelaw10_ModeLaws.j3 kj59 a0 a1 false))) = some r := by rw [if_pos rfl] at H; exact H
                            clear H
                            have H := H1
                            clear H1
                            replace H := Option.bind_eq_some_iff.mp H
                            obtain ⟨t178, A1230, H⟩ := H
                            replace H : (if t178 = true then ((mode_Covers.f a2 a1).bind fun t179 => (if t179 = true then ((mode_Covers.f a2 t156).bind fun t180 => (counterpanelaw10_ModeLaws.j3 kj59 a0 a1 (!t180))) else (counterpanelaw10_ModeLaws.j3 kj59 a0 a1 false))) else (counterpanelaw10_ModeLaws.j3 kj59 a0 a1 false)) = some r := H
                            have A123 := Aside0.mk A1230
                            clear A1230
                            by_cases c124 : t178 = true
                            · subst c124
                              have H1 : ((mode_Covers.f a2 a1).bind fun t179 => (if t179 = true then ((mode_Covers.f a2 t156).bind fun t180 => (counterpanelaw10_ModeLaws.j3 kj59 a0 a1 (!t180))) else (counterpanelaw10_ModeLaws.j3 kj59 a0 a1 false))) = some r := by rw [if_pos rfl] at H; exact H
                              clear H
                              have H := H1
                              clear H1
                              replace H := Option.bind_eq_some_iff.mp H
                              obtain ⟨t179, A1250, H⟩ := H
                              replace H : (if t179 = true then ((mode_Covers.f a2 t156).bind fun t180 => (counterpanelaw10_ModeLaws.j3 kj59 a0 a1 (!t180))) else (counterpanelaw10_ModeLaws.j3 kj59 a0 a1 false)) = some r := H
                              have A125 := Aside0.mk A1250
                              clear A1250
                              by_cases c126 : t179 = true
                              · subst c126
                                have H1 : ((mode_Covers.f a2 t156).bind fun t180 => (counterpanelaw10_ModeLaws.j3 kj59 a0 a1 (!t180))) = some r := by rw [if_pos rfl] at H; exact H
                                clear H
                                have H := H1
                                clear H1
                                replace H := Option.bind_eq_some_iff.mp H
                                obtain ⟨t180, A1270, H⟩ := H
                                replace H : (counterpanelaw10_ModeLaws.j3 kj59 a0 a1 (!t180)) = some r := H
                                have A127 := Aside0.mk A1270
                                clear A1270
                                have H' := Aside0.mk H
                                clear H
                                go_wp2_with (first | ((with_reducible refine gate_callee (f := 8) rfl ?_); refine goesL_ (some 99) rfl rfl Try.func8 (by kernel_rfl) rfl #[.int .i64 a0, .int .i64 a1] rfl (by (try simp only [List.map_toArray, List.map_cons, List.map_nil]); first | done | rfl | (simp only [List.length_drop, List.length_take]; rfl)) ?_; (with_reducible refine (mode_Covers.calls a0 a1 true _ A117.out).mono ?_); rintro e w128 ⟨rfl, hb⟩; refine ⟨_, rfl, ?_⟩; have n0_ := Aside0.mk (below_step (by repeat (first | (with_reducible first | exact HB.out | apply below_alloc | apply pw_below_drewN | apply below_drew1) | exact HB.out)) hb); clear HB; have HB := n0_; clear n0_; (try clear hb); (try clear hb2); (try clear hk); (try clear hi)) | (go_at_call 6; (with_reducible refine (mode_Together.calls a0 a2 true _ A119.out).mono ?_); rintro e w129 ⟨rfl, hb⟩; have n0_ := Aside0.mk (below_step (by repeat (first | (with_reducible first | exact HB.out | apply below_alloc | apply pw_below_drewN | apply below_drew1) | exact HB.out)) hb); clear HB; have HB := n0_; clear n0_; (try clear hb); (try clear hb2); (try clear hk); (try clear hi)) | (go_at_call 6; (with_reducible refine (mode_Together.calls a1 a2 true _ A121.out).mono ?_); rintro e w130 ⟨rfl, hb⟩; have n0_ := Aside0.mk (below_step (by repeat (first | (with_reducible first | exact HB.out | apply below_alloc | apply pw_below_drewN | apply below_drew1) | exact HB.out)) hb); clear HB; have HB := n0_; clear n0_; (try clear hb); (try clear hb2); (try clear hk); (try clear hi)) | (go_at_call 8; (with_reducible refine (mode_Covers.calls a2 a0 true _ A123.out).mono ?_); rintro e w131 ⟨rfl, hb⟩; have n0_ := Aside0.mk (below_step (by repeat (first | (with_reducible first | exact HB.out | apply below_alloc | apply pw_below_drewN | apply below_drew1) | exact HB.out)) hb); clear HB; have HB := n0_; clear n0_; (try clear hb); (try clear hb2); (try clear hk); (try clear hi)) | (go_at_call 8; (with_reducible refine (mode_Covers.calls a2 a1 true _ A125.out).mono ?_); rintro e w132 ⟨rfl, hb⟩; have n0_ := Aside0.mk (below_step (by repeat (first | (with_reducible first | exact HB.out | apply below_alloc | apply pw_below_drewN | apply below_drew1) | exact HB.out)) hb); clear HB; have HB := n0_; clear n0_; (try clear hb); (try clear hb2); (try clear hk); (try clear hi)) | (go_at_call 8; (with_reducible refine (mode_Covers.calls a2 t156 t180 _ A127.out).mono ?_); rintro e w133 ⟨rfl, hb⟩; have n0_ := Aside0.mk (below_step (by repeat (first | (with_reducible first | exact HB.out | apply below_alloc | apply pw_below_drewN | apply below_drew1) | exact HB.out)) hb); clear HB; have HB := n0_; clear n0_; (try clear hb); (try clear hb2); (try clear hk); (try clear hi)))
                                go_meet
                                case rel => exact ⟨_, (!t180), (by first | rfl | (simp; done) | (simp [*]; done)), H', ⟨by have := HJ3.out; have := HJ13.out; have := HJ59.out; first | omega | exact Nat.le_refl _⟩, ⟨by repeat (first | (with_reducible first | exact HB.out | apply below_alloc | apply pw_below_drewN | apply below_drew1) | exact HB.out)⟩⟩
                              · replace c126 := Bool.eq_false_iff.mpr c126
                                subst c126
                                have H1 : (counterpanelaw10_ModeLaws.j3 kj59 a0 a1 false) = some r := by rw [if_neg (show ¬ (false = true) by decide)] at H; exact H
                                clear H
                                have H := H1
                                clear H1
                                have H' := Aside0.mk H
                                clear H
                                go_wp2_with (first | ((with_reducible refine gate_callee (f := 8) rfl ?_); refine goesL_ (some 99) rfl rfl Try.func8 (by kernel_rfl) rfl #[.int .i64 a0, .int .i64 a1] rfl (by (try simp only [List.map_toArray, List.map_cons, List.map_nil]); first | done | rfl | (simp only [List.length_drop, List.length_take]; rfl)) ?_; (with_reducible refine (mode_Covers.calls a0 a1 true _ A117.out).mono ?_); rintro e w134 ⟨rfl, hb⟩; refine ⟨_, rfl, ?_⟩; have n0_ := Aside0.mk (below_step (by repeat (first | (with_reducible first | exact HB.out | apply below_alloc | apply pw_below_drewN | apply below_drew1) | exact HB.out)) hb); clear HB; have HB := n0_; clear n0_; (try clear hb); (try clear hb2); (try clear hk); (try clear hi)) | (go_at_call 6; (with_reducible refine (mode_Together.calls a0 a2 true _ A119.out).mono ?_); rintro e w135 ⟨rfl, hb⟩; have n0_ := Aside0.mk (below_step (by repeat (first | (with_reducible first | exact HB.out | apply below_alloc | apply pw_below_drewN | apply below_drew1) | exact HB.out)) hb); clear HB; have HB := n0_; clear n0_; (try clear hb); (try clear hb2); (try clear hk); (try clear hi)) | (go_at_call 6; (with_reducible refine (mode_Together.calls a1 a2 true _ A121.out).mono ?_); rintro e w136 ⟨rfl, hb⟩; have n0_ := Aside0.mk (below_step (by repeat (first | (with_reducible first | exact HB.out | apply below_alloc | apply pw_below_drewN | apply below_drew1) | exact HB.out)) hb); clear HB; have HB := n0_; clear n0_; (try clear hb); (try clear hb2); (try clear hk); (try clear hi)) | (go_at_call 8; (with_reducible refine (mode_Covers.calls a2 a0 true _ A123.out).mono ?_); rintro e w137 ⟨rfl, hb⟩; have n0_ := Aside0.mk (below_step (by repeat (first | (with_reducible first | exact HB.out | apply below_alloc | apply pw_below_drewN | apply below_drew1) | exact HB.out)) hb); clear HB; have HB := n0_; clear n0_; (try clear hb); (try clear hb2); (try clear hk); (try clear hi)) | (go_at_call 8; (with_reducible refine (mode_Covers.calls a2 a1 false _ A125.out).mono ?_); rintro e w138 ⟨rfl, hb⟩; have n0_ := Aside0.mk (below_step (by repeat (first | (with_reducible first | exact HB.out | apply below_alloc | apply pw_below_drewN | apply below_drew1) | exact HB.out)) hb); clear HB; have HB := n0_; clear n0_; (try clear hb); (try clear hb2); (try clear hk); (try clear hi)))
                                go_meet
                                case rel => exact ⟨_, (false), (by first | rfl | (simp; done) | (simp [*]; done)), H', ⟨by have := HJ3.out; have := HJ13.out; have := HJ59.out; first | omega | exact Nat.le_refl _⟩, ⟨by repeat (first | (with_reducible first | exact HB.out | apply below_alloc | apply pw_below_drewN | apply below_drew1) | exact HB.out)⟩⟩
                            · replace c124 := Bool.eq_false_iff.mpr c124
                              subst c124
                              have H1 : (counterpanelaw10_ModeLaws.j3 kj59 a0 a1 false) = some r := by rw [if_neg (show ¬ (false = true) by decide)] at H; exact H
                              clear H
                              have H := H1
                              clear H1
                              have H' := Aside0.mk H
                              clear H
                              go_wp2_with (first | ((with_reducible refine gate_callee (f := 8) rfl ?_); refine goesL_ (some 99) rfl rfl Try.func8 (by kernel_rfl) rfl #[.int .i64 a0, .int .i64 a1] rfl (by (try simp only [List.map_toArray, List.map_cons, List.map_nil]); first | done | rfl | (simp only [List.length_drop, List.length_take]; rfl)) ?_; (with_reducible refine (mode_Covers.calls a0 a1 true _ A117.out).mono ?_); rintro e w139 ⟨rfl, hb⟩; refine ⟨_, rfl, ?_⟩; have n0_ := Aside0.mk (below_step (by repeat (first | (with_reducible first | exact HB.out | apply below_alloc | apply pw_below_drewN | apply below_drew1) | exact HB.out)) hb); clear HB; have HB := n0_; clear n0_; (try clear hb); (try clear hb2); (try clear hk); (try clear hi)) | (go_at_call 6; (with_reducible refine (mode_Together.calls a0 a2 true _ A119.out).mono ?_); rintro e w140 ⟨rfl, hb⟩; have n0_ := Aside0.mk (below_step (by repeat (first | (with_reducible first | exact HB.out | apply below_alloc | apply pw_below_drewN | apply below_drew1) | exact HB.out)) hb); clear HB; have HB := n0_; clear n0_; (try clear hb); (try clear hb2); (try clear hk); (try clear hi)) | (go_at_call 6; (with_reducible refine (mode_Together.calls a1 a2 true _ A121.out).mono ?_); rintro e w141 ⟨rfl, hb⟩; have n0_ := Aside0.mk (below_step (by repeat (first | (with_reducible first | exact HB.out | apply below_alloc | apply pw_below_drewN | apply below_drew1) | exact HB.out)) hb); clear HB; have HB := n0_; clear n0_; (try clear hb); (try clear hb2); (try clear hk); (try clear hi)) | (go_at_call 8; (with_reducible refine (mode_Covers.calls a2 a0 false _ A123.out).mono ?_); rintro e w142 ⟨rfl, hb⟩; have n0_ := Aside0.mk (below_step (by repeat (first | (with_reducible first | exact HB.out | apply below_alloc | apply pw_below_drewN | apply below_drew1) | exact HB.out)) hb); clear HB; have HB := n0_; clear n0_; (try clear hb); (try clear hb2); (try clear hk); (try clear hi)))
                              go_meet
                              case rel => exact ⟨_, (false), (by first | rfl | (simp; done) | (simp [*]; done)), H', ⟨by have := HJ3.out; have := HJ13.out; have := HJ59.out; first | omega | exact Nat.le_refl _⟩, ⟨by repeat (first | (with_reducible first | exact HB.out | apply below_alloc | apply pw_below_drewN | apply below_drew1) | exact HB.out)⟩⟩
                          · replace c122 := Bool.eq_false_iff.mpr c122
                            subst c122
                            have H1 : (counterpanelaw10_ModeLaws.j3 kj59 a0 a1 true) = some r := by rw [if_neg (show ¬ (false = true) by decide)] at H; exact H
                            clear H
                            have H := H1
                            clear H1
                            have H' := Aside0.mk H
                            clear H
                            go_wp2_with (first | ((with_reducible refine gate_callee (f := 8) rfl ?_); refine goesL_ (some 99) rfl rfl Try.func8 (by kernel_rfl) rfl #[.int .i64 a0, .int .i64 a1] rfl (by (try simp only [List.map_toArray, List.map_cons, List.map_nil]); first | done | rfl | (simp only [List.length_drop, List.length_take]; rfl)) ?_; (with_reducible refine (mode_Covers.calls a0 a1 true _ A117.out).mono ?_); rintro e w143 ⟨rfl, hb⟩; refine ⟨_, rfl, ?_⟩; have n0_ := Aside0.mk (below_step (by repeat (first | (with_reducible first | exact HB.out | apply below_alloc | apply pw_below_drewN | apply below_drew1) | exact HB.out)) hb); clear HB; have HB := n0_; clear n0_; (try clear hb); (try clear hb2); (try clear hk); (try clear hi)) | (go_at_call 6; (with_reducible refine (mode_Together.calls a0 a2 true _ A119.out).mono ?_); rintro e w144 ⟨rfl, hb⟩; have n0_ := Aside0.mk (below_step (by repeat (first | (with_reducible first | exact HB.out | apply below_alloc | apply pw_below_drewN | apply below_drew1) | exact HB.out)) hb); clear HB; have HB := n0_; clear n0_; (try clear hb); (try clear hb2); (try clear hk); (try clear hi)) | (go_at_call 6; (with_reducible refine (mode_Together.calls a1 a2 false _ A121.out).mono ?_); rintro e w145 ⟨rfl, hb⟩; have n0_ := Aside0.mk (below_step (by repeat (first | (with_reducible first | exact HB.out | apply below_alloc | apply pw_below_drewN | apply below_drew1) | exact HB.out)) hb); clear HB; have HB := n0_; clear n0_; (try clear hb); (try clear hb2); (try clear hk); (try clear hi)))
                            go_meet
                            case rel => exact ⟨_, (true), (by first | rfl | (simp; done) | (simp [*]; done)), H', ⟨by have := HJ3.out; have := HJ13.out; have := HJ59.out; first | omega | exact Nat.le_refl _⟩, ⟨by repeat (first | (with_reducible first | exact HB.out | apply below_alloc | apply pw_below_drewN | apply below_drew1) | exact HB.out)⟩⟩
                        · replace c120 := Bool.eq_false_iff.mpr c120
                          subst c120
                          have H1 : ((mode_Covers.f a2 a0).bind fun t181 => (if t181 = true then ((mode_Covers.f a2 a1).bind fun t182 => (if t182 = true then ((mode_Covers.f a2 t156).bind fun t183 => (counterpanelaw10_ModeLaws.j3 kj59 a0 a1 (!t183))) else (counterpanelaw10_ModeLaws.j3 kj59 a0 a1 false))) else (counterpanelaw10_ModeLaws.j3 kj59 a0 a1 false))) = some r := by rw [if_neg (show ¬ (false = true) by decide)] at H; exact H
                          clear H
                          have H := H1
                          clear H1
                          replace H := Option.bind_eq_some_iff.mp H
                          obtain ⟨t181, A1460, H⟩ := H
                          replace H : (if t181 = true then ((mode_Covers.f a2 a1).bind fun t182 => (if t182 = true then ((mode_Covers.f a2 t156).bind fun t183 => (counterpanelaw10_ModeLaws.j3 kj59 a0 a1 (!t183))) else (counterpanelaw10_ModeLaws.j3 kj59 a0 a1 false))) else (counterpanelaw10_ModeLaws.j3 kj59 a0 a1 false)) = some r := H
                          have A146 := Aside0.mk A1460
                          clear A1460
                          by_cases c147 : t181 = true
                          · subst c147
                            have H1 : ((mode_Covers.f a2 a1).bind fun t182 => (if t182 = true then ((mode_Covers.f a2 t156).bind fun t183 => (counterpanelaw10_ModeLaws.j3 kj59 a0 a1 (!t183))) else (counterpanelaw10_ModeLaws.j3 kj59 a0 a1 false))) = some r := by rw [if_pos rfl] at H; exact H
                            clear H
                            have H := H1
                            clear H1
                            replace H := Option.bind_eq_some_iff.mp H
                            obtain ⟨t182, A1480, H⟩ := H
                            replace H : (if t182 = true then ((mode_Covers.f a2 t156).bind fun t183 => (counterpanelaw10_ModeLaws.j3 kj59 a0 a1 (!t183))) else (counterpanelaw10_ModeLaws.j3 kj59 a0 a1 false)) = some r := H
                            have A148 := Aside0.mk A1480
                            clear A1480
                            by_cases c149 : t182 = true
                            · subst c149
                              have H1 : ((mode_Covers.f a2 t156).bind fun t183 => (counterpanelaw10_ModeLaws.j3 kj59 a0 a1 (!t183))) = some r := by rw [if_pos rfl] at H; exact H
                              clear H
                              have H := H1
                              clear H1
                              replace H := Option.bind_eq_some_iff.mp H
                              obtain ⟨t183, A1500, H⟩ := H
                              replace H : (counterpanelaw10_ModeLaws.j3 kj59 a0 a1 (!t183)) = some r := H
                              have A150 := Aside0.mk A1500
                              clear A1500
                              have H' := Aside0.mk H
                              clear H
                              go_wp2_with (first | ((with_reducible refine gate_callee (f := 8) rfl ?_); refine goesL_ (some 99) rfl rfl Try.func8 (by kernel_rfl) rfl #[.int .i64 a0, .int .i64 a1] rfl (by (try simp only [List.map_toArray, List.map_cons, List.map_nil]); first | done | rfl | (simp only [List.length_drop, List.length_take]; rfl)) ?_; (with_reducible refine (mode_Covers.calls a0 a1 true _ A117.out).mono ?_); rintro e w151 ⟨rfl, hb⟩; refine ⟨_, rfl, ?_⟩; have n0_ := Aside0.mk (below_step (by repeat (first | (with_reducible first | exact HB.out | apply below_alloc | apply pw_below_drewN | apply below_drew1) | exact HB.out)) hb); clear HB; have HB := n0_; clear n0_; (try clear hb); (try clear hb2); (try clear hk); (try clear hi)) | (go_at_call 6; (with_reducible refine (mode_Together.calls a0 a2 false _ A119.out).mono ?_); rintro e w152 ⟨rfl, hb⟩; have n0_ := Aside0.mk (below_step (by repeat (first | (with_reducible first | exact HB.out | apply below_alloc | apply pw_below_drewN | apply below_drew1) | exact HB.out)) hb); clear HB; have HB := n0_; clear n0_; (try clear hb); (try clear hb2); (try clear hk); (try clear hi)) | (go_at_call 8; (with_reducible refine (mode_Covers.calls a2 a0 true _ A146.out).mono ?_); rintro e w153 ⟨rfl, hb⟩; have n0_ := Aside0.mk (below_step (by repeat (first | (with_reducible first | exact HB.out | apply below_alloc | apply pw_below_drewN | apply below_drew1) | exact HB.out)) hb); clear HB; have HB := n0_; clear n0_; (try clear hb); (try clear hb2); (try clear hk); (try clear hi)) | (go_at_call 8; (with_reducible refine (mode_Covers.calls a2 a1 true _ A148.out).mono ?_); rintro e w154 ⟨rfl, hb⟩; have n0_ := Aside0.mk (below_step (by repeat (first | (with_reducible first | exact HB.out | apply below_alloc | apply pw_below_drewN | apply below_drew1) | exact HB.out)) hb); clear HB; have HB := n0_; clear n0_; (try clear hb); (try clear hb2); (try clear hk); (try clear hi)) | (go_at_call 8; (with_reducible refine (mode_Covers.calls a2 t156 t183 _ A150.out).mono ?_); rintro e w155 ⟨rfl, hb⟩; have n0_ := Aside0.mk (below_step (by repeat (first | (with_reducible first | exact HB.out | apply below_alloc | apply pw_below_drewN | apply below_drew1) | exact HB.out)) hb); clear HB; have HB := n0_; clear n0_; (try clear hb); (try clear hb2); (try clear hk); (try clear hi)))
                              go_meet
                              case rel => exact ⟨_, (!t183), (by first | rfl | (simp; done) | (simp [*]; done)), H', ⟨by have := HJ3.out; have := HJ13.out; have := HJ59.out; first | omega | exact Nat.le_refl _⟩, ⟨by repeat (first | (with_reducible first | exact HB.out | apply below_alloc | apply pw_below_drewN | apply below_drew1) | exact HB.out)⟩⟩
                            · replace c149 := Bool.eq_false_iff.mpr c149
                              subst c149
                              have H1 : (counterpanelaw10_ModeLaws.j3 kj59 a0 a1 false) = some r := by rw [if_neg (show ¬ (false = true) by decide)] at H; exact H
                              clear H
                              have H := H1
                              clear H1
                              have H' := Aside0.mk H
                              clear H
                              go_wp2_with (first | ((with_reducible refine gate_callee (f := 8) rfl ?_); refine goesL_ (some 99) rfl rfl Try.func8 (by kernel_rfl) rfl #[.int .i64 a0, .int .i64 a1] rfl (by (try simp only [List.map_toArray, List.map_cons, List.map_nil]); first | done | rfl | (simp only [List.length_drop, List.length_take]; rfl)) ?_; (with_reducible refine (mode_Covers.calls a0 a1 true _ A117.out).mono ?_); rintro e w156 ⟨rfl, hb⟩; refine ⟨_, rfl, ?_⟩; have n0_ := Aside0.mk (below_step (by repeat (first | (with_reducible first | exact HB.out | apply below_alloc | apply pw_below_drewN | apply below_drew1) | exact HB.out)) hb); clear HB; have HB := n0_; clear n0_; (try clear hb); (try clear hb2); (try clear hk); (try clear hi)) | (go_at_call 6; (with_reducible refine (mode_Together.calls a0 a2 false _ A119.out).mono ?_); rintro e w157 ⟨rfl, hb⟩; have n0_ := Aside0.mk (below_step (by repeat (first | (with_reducible first | exact HB.out | apply below_alloc | apply pw_below_drewN | apply below_drew1) | exact HB.out)) hb); clear HB; have HB := n0_; clear n0_; (try clear hb); (try clear hb2); (try clear hk); (try clear hi)) | (go_at_call 8; (with_reducible refine (mode_Covers.calls a2 a0 true _ A146.out).mono ?_); rintro e w158 ⟨rfl, hb⟩; have n0_ := Aside0.mk (below_step (by repeat (first | (with_reducible first | exact HB.out | apply below_alloc | apply pw_below_drewN | apply below_drew1) | exact HB.out)) hb); clear HB; have HB := n0_; clear n0_; (try clear hb); (try clear hb2); (try clear hk); (try clear hi)) | (go_at_call 8; (with_reducible refine (mode_Covers.calls a2 a1 false _ A148.out).mono ?_); rintro e w159 ⟨rfl, hb⟩; have n0_ := Aside0.mk (below_step (by repeat (first | (with_reducible first | exact HB.out | apply below_alloc | apply pw_below_drewN | apply below_drew1) | exact HB.out)) hb); clear HB; have HB := n0_; clear n0_; (try clear hb); (try clear hb2); (try clear hk); (try clear hi)))
                              go_meet
                              case rel => exact ⟨_, (false), (by first | rfl | (simp; done) | (simp [*]; done)), H', ⟨by have := HJ3.out; have := HJ13.out; have := HJ59.out; first | omega | exact Nat.le_refl _⟩, ⟨by repeat (first | (with_reducible first | exact HB.out | apply below_alloc | apply pw_below_drewN | apply below_drew1) | exact HB.out)⟩⟩
                          · replace c147 := Bool.eq_false_iff.mpr c147
                            subst c147
                            have H1 : (counterpanelaw10_ModeLaws.j3 kj59 a0 a1 false) = some r := by rw [if_neg (show ¬ (false = true) by decide)] at H; exact H
                            clear H
                            have H := H1
                            clear H1
                            have H' := Aside0.mk H
                            clear H
                            go_wp2_with (first | ((with_reducible refine gate_callee (f := 8) rfl ?_); refine goesL_ (some 99) rfl rfl Try.func8 (by kernel_rfl) rfl #[.int .i64 a0, .int .i64 a1] rfl (by (try simp only [List.map_toArray, List.map_cons, List.map_nil]); first | done | rfl | (simp only [List.length_drop, List.length_take]; rfl)) ?_; (with_reducible refine (mode_Covers.calls a0 a1 true _ A117.out).mono ?_); rintro e w160 ⟨rfl, hb⟩; refine ⟨_, rfl, ?_⟩; have n0_ := Aside0.mk (below_step (by repeat (first | (with_reducible first | exact HB.out | apply below_alloc | apply pw_below_drewN | apply below_drew1) | exact HB.out)) hb); clear HB; have HB := n0_; clear n0_; (try clear hb); (try clear hb2); (try clear hk); (try clear hi)) | (go_at_call 6; (with_reducible refine (mode_Together.calls a0 a2 false _ A119.out).mono ?_); rintro e w161 ⟨rfl, hb⟩; have n0_ := Aside0.mk (below_step (by repeat (first | (with_reducible first | exact HB.out | apply below_alloc | apply pw_below_drewN | apply below_drew1) | exact HB.out)) hb); clear HB; have HB := n0_; clear n0_; (try clear hb); (try clear hb2); (try clear hk); (try clear hi)) | (go_at_call 8; (with_reducible refine (mode_Covers.calls a2 a0 false _ A146.out).mono ?_); rintro e w162 ⟨rfl, hb⟩; have n0_ := Aside0.mk (below_step (by repeat (first | (with_reducible first | exact HB.out | apply below_alloc | apply pw_below_drewN | apply below_drew1) | exact HB.out)) hb); clear HB; have HB := n0_; clear n0_; (try clear hb); (try clear hb2); (try clear hk); (try clear hi)))
                            go_meet
                            case rel => exact ⟨_, (false), (by first | rfl | (simp; done) | (simp [*]; done)), H', ⟨by have := HJ3.out; have := HJ13.out; have := HJ59.out; first | omega | exact Nat.le_refl _⟩, ⟨by repeat (first | (with_reducible first | exact HB.out | apply below_alloc | apply pw_below_drewN | apply below_drew1) | exact HB.out)⟩⟩
                      · replace c118 := Bool.eq_false_iff.mpr c118
                        subst c118
                        have H1 : ((mode_Covers.f a2 a0).bind fun t184 => (if t184 = true then ((mode_Covers.f a2 a1).bind fun t185 => (if t185 = true then ((mode_Covers.f a2 t156).bind fun t186 => (counterpanelaw10_ModeLaws.j3 kj59 a0 a1 (!t186))) else (counterpanelaw10_ModeLaws.j3 kj59 a0 a1 false))) else (counterpanelaw10_ModeLaws.j3 kj59 a0 a1 false))) = some r := by rw [if_neg (show ¬ (false = true) by decide)] at H; exact H
                        clear H
                        have H := H1
                        clear H1
                        replace H := Option.bind_eq_some_iff.mp H
                        obtain ⟨t184, A1630, H⟩ := H
                        replace H : (if t184 = true then ((mode_Covers.f a2 a1).bind fun t185 => (if t185 = true then ((mode_Covers.f a2 t156).bind fun t186 => (counterpanelaw10_ModeLaws.j3 kj59 a0 a1 (!t186))) else (counterpanelaw10_ModeLaws.j3 kj59 a0 a1 false))) else (counterpanelaw10_ModeLaws.j3 kj59 a0 a1 false)) = some r := H
                        have A163 := Aside0.mk A1630
                        clear A1630
                        by_cases c164 : t184 = true
                        · subst c164
                          have H1 : ((mode_Covers.f a2 a1).bind fun t185 => (if t185 = true then ((mode_Covers.f a2 t156).bind fun t186 => (counterpanelaw10_ModeLaws.j3 kj59 a0 a1 (!t186))) else (counterpanelaw10_ModeLaws.j3 kj59 a0 a1 false))) = some r := by rw [if_pos rfl] at H; exact H
                          clear H
                          have H := H1
                          clear H1
                          replace H := Option.bind_eq_some_iff.mp H
                          obtain ⟨t185, A1650, H⟩ := H
                          replace H : (if t185 = true then ((mode_Covers.f a2 t156).bind fun t186 => (counterpanelaw10_ModeLaws.j3 kj59 a0 a1 (!t186))) else (counterpanelaw10_ModeLaws.j3 kj59 a0 a1 false)) = some r := H
                          have A165 := Aside0.mk A1650
                          clear A1650
                          by_cases c166 : t185 = true
                          · subst c166
                            have H1 : ((mode_Covers.f a2 t156).bind fun t186 => (counterpanelaw10_ModeLaws.j3 kj59 a0 a1 (!t186))) = some r := by rw [if_pos rfl] at H; exact H
                            clear H
                            have H := H1
                            clear H1
                            replace H := Option.bind_eq_some_iff.mp H
                            obtain ⟨t186, A1670, H⟩ := H
                            replace H : (counterpanelaw10_ModeLaws.j3 kj59 a0 a1 (!t186)) = some r := H
                            have A167 := Aside0.mk A1670
                            clear A1670
                            have H' := Aside0.mk H
                            clear H
                            go_wp2_with (first | ((with_reducible refine gate_callee (f := 8) rfl ?_); refine goesL_ (some 99) rfl rfl Try.func8 (by kernel_rfl) rfl #[.int .i64 a0, .int .i64 a1] rfl (by (try simp only [List.map_toArray, List.map_cons, List.map_nil]); first | done | rfl | (simp only [List.length_drop, List.length_take]; rfl)) ?_; (with_reducible refine (mode_Covers.calls a0 a1 false _ A117.out).mono ?_); rintro e w168 ⟨rfl, hb⟩; refine ⟨_, rfl, ?_⟩; have n0_ := Aside0.mk (below_step (by repeat (first | (with_reducible first | exact HB.out | apply below_alloc | apply pw_below_drewN | apply below_drew1) | exact HB.out)) hb); clear HB; have HB := n0_; clear n0_; (try clear hb); (try clear hb2); (try clear hk); (try clear hi)) | (go_at_call 8; (with_reducible refine (mode_Covers.calls a2 a0 true _ A163.out).mono ?_); rintro e w169 ⟨rfl, hb⟩; have n0_ := Aside0.mk (below_step (by repeat (first | (with_reducible first | exact HB.out | apply below_alloc | apply pw_below_drewN | apply below_drew1) | exact HB.out)) hb); clear HB; have HB := n0_; clear n0_; (try clear hb); (try clear hb2); (try clear hk); (try clear hi)) | (go_at_call 8; (with_reducible refine (mode_Covers.calls a2 a1 true _ A165.out).mono ?_); rintro e w170 ⟨rfl, hb⟩; have n0_ := Aside0.mk (below_step (by repeat (first | (with_reducible first | exact HB.out | apply below_alloc | apply pw_below_drewN | apply below_drew1) | exact HB.out)) hb); clear HB; have HB := n0_; clear n0_; (try clear hb); (try clear hb2); (try clear hk); (try clear hi)) | (go_at_call 8; (with_reducible refine (mode_Covers.calls a2 t156 t186 _ A167.out).mono ?_); rintro e w171 ⟨rfl, hb⟩; have n0_ := Aside0.mk (below_step (by repeat (first | (with_reducible first | exact HB.out | apply below_alloc | apply pw_below_drewN | apply below_drew1) | exact HB.out)) hb); clear HB; have HB := n0_; clear n0_; (try clear hb); (try clear hb2); (try clear hk); (try clear hi)))
                            go_meet
                            case rel => exact ⟨_, (!t186), (by first | rfl | (simp; done) | (simp [*]; done)), H', ⟨by have := HJ3.out; have := HJ13.out; have := HJ59.out; first | omega | exact Nat.le_refl _⟩, ⟨by repeat (first | (with_reducible first | exact HB.out | apply below_alloc | apply pw_below_drewN | apply below_drew1) | exact HB.out)⟩⟩
                          · replace c166 := Bool.eq_false_iff.mpr c166
                            subst c166
                            have H1 : (counterpanelaw10_ModeLaws.j3 kj59 a0 a1 false) = some r := by rw [if_neg (show ¬ (false = true) by decide)] at H; exact H
                            clear H
                            have H := H1
                            clear H1
                            have H' := Aside0.mk H
                            clear H
                            go_wp2_with (first | ((with_reducible refine gate_callee (f := 8) rfl ?_); refine goesL_ (some 99) rfl rfl Try.func8 (by kernel_rfl) rfl #[.int .i64 a0, .int .i64 a1] rfl (by (try simp only [List.map_toArray, List.map_cons, List.map_nil]); first | done | rfl | (simp only [List.length_drop, List.length_take]; rfl)) ?_; (with_reducible refine (mode_Covers.calls a0 a1 false _ A117.out).mono ?_); rintro e w172 ⟨rfl, hb⟩; refine ⟨_, rfl, ?_⟩; have n0_ := Aside0.mk (below_step (by repeat (first | (with_reducible first | exact HB.out | apply below_alloc | apply pw_below_drewN | apply below_drew1) | exact HB.out)) hb); clear HB; have HB := n0_; clear n0_; (try clear hb); (try clear hb2); (try clear hk); (try clear hi)) | (go_at_call 8; (with_reducible refine (mode_Covers.calls a2 a0 true _ A163.out).mono ?_); rintro e w173 ⟨rfl, hb⟩; have n0_ := Aside0.mk (below_step (by repeat (first | (with_reducible first | exact HB.out | apply below_alloc | apply pw_below_drewN | apply below_drew1) | exact HB.out)) hb); clear HB; have HB := n0_; clear n0_; (try clear hb); (try clear hb2); (try clear hk); (try clear hi)) | (go_at_call 8; (with_reducible refine (mode_Covers.calls a2 a1 false _ A165.out).mono ?_); rintro e w174 ⟨rfl, hb⟩; have n0_ := Aside0.mk (below_step (by repeat (first | (with_reducible first | exact HB.out | apply below_alloc | apply pw_below_drewN | apply below_drew1) | exact HB.out)) hb); clear HB; have HB := n0_; clear n0_; (try clear hb); (try clear hb2); (try clear hk); (try clear hi)))
                            go_meet
                            case rel => exact ⟨_, (false), (by first | rfl | (simp; done) | (simp [*]; done)), H', ⟨by have := HJ3.out; have := HJ13.out; have := HJ59.out; first | omega | exact Nat.le_refl _⟩, ⟨by repeat (first | (with_reducible first | exact HB.out | apply below_alloc | apply pw_below_drewN | apply below_drew1) | exact HB.out)⟩⟩
                        · replace c164 := Bool.eq_false_iff.mpr c164
                          subst c164
                          have H1 : (counterpanelaw10_ModeLaws.j3 kj59 a0 a1 false) = some r := by rw [if_neg (show ¬ (false = true) by decide)] at H; exact H
                          clear H
                          have H := H1
                          clear H1
                          have H' := Aside0.mk H
                          clear H
                          go_wp2_with (first | ((with_reducible refine gate_callee (f := 8) rfl ?_); refine goesL_ (some 99) rfl rfl Try.func8 (by kernel_rfl) rfl #[.int .i64 a0, .int .i64 a1] rfl (by (try simp only [List.map_toArray, List.map_cons, List.map_nil]); first | done | rfl | (simp only [List.length_drop, List.length_take]; rfl)) ?_; (with_reducible refine (mode_Covers.calls a0 a1 false _ A117.out).mono ?_); rintro e w175 ⟨rfl, hb⟩; refine ⟨_, rfl, ?_⟩; have n0_ := Aside0.mk (below_step (by repeat (first | (with_reducible first | exact HB.out | apply below_alloc | apply pw_below_drewN | apply below_drew1) | exact HB.out)) hb); clear HB; have HB := n0_; clear n0_; (try clear hb); (try clear hb2); (try clear hk); (try clear hi)) | (go_at_call 8; (with_reducible refine (mode_Covers.calls a2 a0 false _ A163.out).mono ?_); rintro e w176 ⟨rfl, hb⟩; have n0_ := Aside0.mk (below_step (by repeat (first | (with_reducible first | exact HB.out | apply below_alloc | apply pw_below_drewN | apply below_drew1) | exact HB.out)) hb); clear HB; have HB := n0_; clear n0_; (try clear hb); (try clear hb2); (try clear hk); (try clear hi)))
                          go_meet
                          case rel => exact ⟨_, (false), (by first | rfl | (simp; done) | (simp [*]; done)), H', ⟨by have := HJ3.out; have := HJ13.out; have := HJ59.out; first | omega | exact Nat.le_refl _⟩, ⟨by repeat (first | (with_reducible first | exact HB.out | apply below_alloc | apply pw_below_drewN | apply below_drew1) | exact HB.out)⟩⟩
                    case rest =>
                      clear HC116
                      try clear c1
                      try clear c2
                      try clear p2
                      try clear c4
                      try clear c5
                      try clear c6
                      try clear c7
                      try clear c8
                      try clear c9
                      try clear c10
                      try clear c11
                      try clear c12
                      try clear c14
                      try clear c15
                      try clear c16
                      try clear c18
                      try clear c18b0
                      try clear c18b1
                      try clear c18b2
                      try clear c22
                      try clear c24
                      try clear c26
                      try clear c28
                      try clear c28b0
                      try clear c28b1
                      try clear c59
                      try clear c62
                      try clear c64
                      try clear c66
                      try clear c68
                      try clear c70
                      try clear c89
                      try clear c91
                      try clear c104
                      try clear c106
                      try clear c115
                      try clear c118
                      try clear c120
                      try clear c122
                      try clear c124
                      try clear c126
                      try clear c147
                      try clear c149
                      try clear c164
                      try clear c166
                      try clear p2
                      obtain ⟨kq, x126_115, rfl, HA, HJ115, HB⟩ := hcut
                      cases kq with
                      | zero => exact absurd HA.out (by simp [counterpanelaw10_ModeLaws.j3])
                      | succ kj115 =>
                        have H := HA.out
                        clear HA
                        simp only [counterpanelaw10_ModeLaws.j3] at H
                        by_cases c177 : x126_115 = true
                        · subst c177
                          have H1 : (some false) = some r := by rw [if_pos rfl] at H; exact H
                          clear H
                          have H := H1
                          clear H1
                          obtain rfl := Option.some.inj H
                          go_wp2
                          go_ret
                          exact ⟨by first | rfl | (simp [errW_none, errW_some] <;> rfl) | (simp [*, errW_none, errW_some] <;> rfl), by repeat (first | (with_reducible first | exact HB.out | apply below_alloc | apply pw_below_drewN | apply below_drew1) | exact HB.out)⟩
                        · replace c177 := Bool.eq_false_iff.mpr c177
                          subst c177
                          have H1 : ((mode_Covers.f a0 a1).bind fun t187 => (if t187 = true then ((mode_Above.f a0).bind fun t188 => ((mode_Above.f a1).bind fun t189 => ((mode_Covers.f t188 t189).bind fun t190 => (if t190 = true then ((counterpanelaw10_works.f kj115).bind fun t191 => (some t191)) else (some false))))) else ((counterpanelaw10_works.f kj115).bind fun t192 => (some t192)))) = some r := by rw [if_neg (show ¬ (false = true) by decide)] at H; exact H
                          clear H
                          have H := H1
                          clear H1
                          replace H := Option.bind_eq_some_iff.mp H
                          obtain ⟨t187, A1780, H⟩ := H
                          replace H : (if t187 = true then ((mode_Above.f a0).bind fun t188 => ((mode_Above.f a1).bind fun t189 => ((mode_Covers.f t188 t189).bind fun t190 => (if t190 = true then ((counterpanelaw10_works.f kj115).bind fun t191 => (some t191)) else (some false))))) else ((counterpanelaw10_works.f kj115).bind fun t192 => (some t192))) = some r := H
                          have A178 := Aside0.mk A1780
                          clear A1780
                          by_cases c179 : t187 = true
                          · subst c179
                            have H1 : ((mode_Above.f a0).bind fun t188 => ((mode_Above.f a1).bind fun t189 => ((mode_Covers.f t188 t189).bind fun t190 => (if t190 = true then ((counterpanelaw10_works.f kj115).bind fun t191 => (some t191)) else (some false))))) = some r := by rw [if_pos rfl] at H; exact H
                            clear H
                            have H := H1
                            clear H1
                            replace H := Option.bind_eq_some_iff.mp H
                            obtain ⟨t188, A1800, H⟩ := H
                            replace H : ((mode_Above.f a1).bind fun t189 => ((mode_Covers.f t188 t189).bind fun t190 => (if t190 = true then ((counterpanelaw10_works.f kj115).bind fun t191 => (some t191)) else (some false)))) = some r := H
                            have A180 := Aside0.mk A1800
                            clear A1800
                            replace H := Option.bind_eq_some_iff.mp H
                            obtain ⟨t189, A1810, H⟩ := H
                            replace H : ((mode_Covers.f t188 t189).bind fun t190 => (if t190 = true then ((counterpanelaw10_works.f kj115).bind fun t191 => (some t191)) else (some false))) = some r := H
                            have A181 := Aside0.mk A1810
                            clear A1810
                            replace H := Option.bind_eq_some_iff.mp H
                            obtain ⟨t190, A1820, H⟩ := H
                            replace H : (if t190 = true then ((counterpanelaw10_works.f kj115).bind fun t191 => (some t191)) else (some false)) = some r := H
                            have A182 := Aside0.mk A1820
                            clear A1820
                            by_cases c183 : t190 = true
                            · subst c183
                              have H1 : ((counterpanelaw10_works.f kj115).bind fun t191 => (some t191)) = some r := by rw [if_pos rfl] at H; exact H
                              clear H
                              have H := H1
                              clear H1
                              replace H := Option.bind_eq_some_iff.mp H
                              obtain ⟨t191, A1840, H⟩ := H
                              replace H : (some t191) = some r := H
                              have A184 := Aside0.mk A1840
                              clear A1840
                              obtain rfl := Option.some.inj H
                              go_wp2_with (first | ((with_reducible refine gate_callee (f := 8) rfl ?_); refine goesL_ (some 129) rfl rfl Try.func8 (by kernel_rfl) rfl #[.int .i64 a0, .int .i64 a1] rfl (by (try simp only [List.map_toArray, List.map_cons, List.map_nil]); first | done | rfl | (simp only [List.length_drop, List.length_take]; rfl)) ?_; (with_reducible refine (mode_Covers.calls a0 a1 true _ A178.out).mono ?_); rintro e w185 ⟨rfl, hb⟩; refine ⟨_, rfl, ?_⟩; have n0_ := Aside0.mk (below_step (by repeat (first | (with_reducible first | exact HB.out | apply below_alloc | apply pw_below_drewN | apply below_drew1) | exact HB.out)) hb); clear HB; have HB := n0_; clear n0_; (try clear hb); (try clear hb2); (try clear hk); (try clear hi)) | (go_at_call 12; (with_reducible refine (mode_Above.calls a0 t188 _ A180.out).mono ?_); rintro e w' ⟨rfl, ⟨nd, rfl⟩⟩) | (go_at_call 12; (with_reducible refine (mode_Above.calls a1 t189 _ A181.out).mono ?_); rintro e w' ⟨rfl, ⟨nd, rfl⟩⟩) | (go_at_call 8; (with_reducible refine (mode_Covers.calls t188 t189 true _ A182.out).mono ?_); rintro e w186 ⟨rfl, hb⟩; have n0_ := Aside0.mk (below_step (by repeat (first | (with_reducible first | exact HB.out | apply below_alloc | apply pw_below_drewN | apply below_drew1) | exact HB.out)) hb); clear HB; have HB := n0_; clear n0_; (try clear hb); (try clear hb2); (try clear hk); (try clear hi)) | (go_at_call 15; (with_reducible refine (counterpanelaw10_works.calls kj115  t191 _ A184.out).mono ?_); rintro e w187 ⟨rfl, hb⟩; have n0_ := Aside0.mk (below_step (by repeat (first | (with_reducible first | exact HB.out | apply below_alloc | apply pw_below_drewN | apply below_drew1) | exact HB.out)) hb); clear HB; have HB := n0_; clear n0_; (try clear hb); (try clear hb2); (try clear hk); (try clear hi)))
                              go_ret
                              exact ⟨by first | rfl | (simp [errW_none, errW_some] <;> rfl) | (simp [*, errW_none, errW_some] <;> rfl), by repeat (first | (with_reducible first | exact HB.out | apply below_alloc | apply pw_below_drewN | apply below_drew1) | exact HB.out)⟩
                            · replace c183 := Bool.eq_false_iff.mpr c183
                              subst c183
                              have H1 : (some false) = some r := by rw [if_neg (show ¬ (false = true) by decide)] at H; exact H
                              clear H
                              have H := H1
                              clear H1
                              obtain rfl := Option.some.inj H
                              go_wp2_with (first | ((with_reducible refine gate_callee (f := 8) rfl ?_); refine goesL_ (some 129) rfl rfl Try.func8 (by kernel_rfl) rfl #[.int .i64 a0, .int .i64 a1] rfl (by (try simp only [List.map_toArray, List.map_cons, List.map_nil]); first | done | rfl | (simp only [List.length_drop, List.length_take]; rfl)) ?_; (with_reducible refine (mode_Covers.calls a0 a1 true _ A178.out).mono ?_); rintro e w188 ⟨rfl, hb⟩; refine ⟨_, rfl, ?_⟩; have n0_ := Aside0.mk (below_step (by repeat (first | (with_reducible first | exact HB.out | apply below_alloc | apply pw_below_drewN | apply below_drew1) | exact HB.out)) hb); clear HB; have HB := n0_; clear n0_; (try clear hb); (try clear hb2); (try clear hk); (try clear hi)) | (go_at_call 12; (with_reducible refine (mode_Above.calls a0 t188 _ A180.out).mono ?_); rintro e w' ⟨rfl, ⟨nd, rfl⟩⟩) | (go_at_call 12; (with_reducible refine (mode_Above.calls a1 t189 _ A181.out).mono ?_); rintro e w' ⟨rfl, ⟨nd, rfl⟩⟩) | (go_at_call 8; (with_reducible refine (mode_Covers.calls t188 t189 false _ A182.out).mono ?_); rintro e w189 ⟨rfl, hb⟩; have n0_ := Aside0.mk (below_step (by repeat (first | (with_reducible first | exact HB.out | apply below_alloc | apply pw_below_drewN | apply below_drew1) | exact HB.out)) hb); clear HB; have HB := n0_; clear n0_; (try clear hb); (try clear hb2); (try clear hk); (try clear hi)))
                              go_ret
                              exact ⟨by first | rfl | (simp [errW_none, errW_some] <;> rfl) | (simp [*, errW_none, errW_some] <;> rfl), by repeat (first | (with_reducible first | exact HB.out | apply below_alloc | apply pw_below_drewN | apply below_drew1) | exact HB.out)⟩
                          · replace c179 := Bool.eq_false_iff.mpr c179
                            subst c179
                            have H1 : ((counterpanelaw10_works.f kj115).bind fun t192 => (some t192)) = some r := by rw [if_neg (show ¬ (false = true) by decide)] at H; exact H
                            clear H
                            have H := H1
                            clear H1
                            replace H := Option.bind_eq_some_iff.mp H
                            obtain ⟨t192, A1900, H⟩ := H
                            replace H : (some t192) = some r := H
                            have A190 := Aside0.mk A1900
                            clear A1900
                            obtain rfl := Option.some.inj H
                            go_wp2_with (first | ((with_reducible refine gate_callee (f := 8) rfl ?_); refine goesL_ (some 129) rfl rfl Try.func8 (by kernel_rfl) rfl #[.int .i64 a0, .int .i64 a1] rfl (by (try simp only [List.map_toArray, List.map_cons, List.map_nil]); first | done | rfl | (simp only [List.length_drop, List.length_take]; rfl)) ?_; (with_reducible refine (mode_Covers.calls a0 a1 false _ A178.out).mono ?_); rintro e w191 ⟨rfl, hb⟩; refine ⟨_, rfl, ?_⟩; have n0_ := Aside0.mk (below_step (by repeat (first | (with_reducible first | exact HB.out | apply below_alloc | apply pw_below_drewN | apply below_drew1) | exact HB.out)) hb); clear HB; have HB := n0_; clear n0_; (try clear hb); (try clear hb2); (try clear hk); (try clear hi)) | (go_at_call 15; (with_reducible refine (counterpanelaw10_works.calls kj115  t192 _ A190.out).mono ?_); rintro e w192 ⟨rfl, hb⟩; have n0_ := Aside0.mk (below_step (by repeat (first | (with_reducible first | exact HB.out | apply below_alloc | apply pw_below_drewN | apply below_drew1) | exact HB.out)) hb); clear HB; have HB := n0_; clear n0_; (try clear hb); (try clear hb2); (try clear hk); (try clear hi)))
                            go_ret
                            exact ⟨by first | rfl | (simp [errW_none, errW_some] <;> rfl) | (simp [*, errW_none, errW_some] <;> rfl), by repeat (first | (with_reducible first | exact HB.out | apply below_alloc | apply pw_below_drewN | apply below_drew1) | exact HB.out)⟩

/-- THE ONE PURE STATEMENT of counterpanelaw10_ModeLaws: yours. -/
def counterpanelaw10_ModeLaws.Pure : Prop := ∀ (a0 : Int) (a1 : Int) (a2 : Int), (Lit.int .i64 a0).wf = true → (Lit.int .i64 a1).wf = true → (Lit.int .i64 a2).wf = true → ∃ k, counterpanelaw10_ModeLaws.f k a0 a1 a2 = some true
theorem counterpanelaw10_ModeLaws.walk (P : counterpanelaw10_ModeLaws.Pure) (a0 : Int) (a1 : Int) (a2 : Int) (w : World) (w0 : (Lit.int .i64 a0).wf = true) (w1 : (Lit.int .i64 a1).wf = true) (w2 : (Lit.int .i64 a2).wf = true) :
    Calls Try.prog 4 #[.int .i64 a0, .int .i64 a1, .int .i64 a2] w fun e w' => e = .returned (.bool true) ∧ Below w.heap.size w w' := by
  obtain ⟨k, h⟩ := P a0 a1 a2 w0 w1 w2
  refine (counterpanelaw10_ModeLaws.calls k a0 a1 a2 true w h).mono ?_
  rintro e w' ⟨rfl, hd⟩
  exact ⟨rfl, hd⟩

end Go.Proofs.Ytmeoaonoofeogaa.PAll
