/- The functions that the laws of this seat reach, as plain functions with proofs that the calls answer just so (written by a program of this session on the kit's print). -/
import Derived.Test.YtabkoclmhdnjfaaPAllx0
import Derived.Test.YtabkoclmhdnjfaaPAllx3
import Derived.Test.YtabkoclmhdnjfaaPAllx5
import Derived.Test.YtabkoclmhdnjfaaPAllx7
import Derived.Test.YtabkoclmhdnjfaaPAllx8
import Derived.Test.YtabkoclmhdnjfaaPAllx17
namespace Go.Proofs.Ytabkoclmhdnjfaa.PAll
open Go.RowKit Go.Proofs.YtabkoclmhdnjfaaW.PrintWords Go.Proofs.YtabkoclmhdnjfaaW.PrintLast Go.Proofs.YtabkoclmhdnjfaaW.PrintMore
attribute [local go_sem] max2_int min2_int max_two min_two max_three min_three max_four min_four   -- for this text's walks alone
set_option linter.unusedVariables false
set_option linter.unusedSimpArgs false

/-! ### counterpanelaw24_ZcodeBack: function 3 -/
def counterpanelaw24_ZcodeBack.j0 : Nat → Int → Int → Bool → Option (Bool)
  | 0, _, _, _ => none
  | k + 1, x0, x1, x46 => if x46 = true then (none) else ((zcode_Code.f x0 x1).bind fun t144 => ((zcode_Point.f t144).bind fun bt145 => (if bt145.1 = x0 then (if bt145.2 = x1 then ((counterpanelaw24_works.f k).bind fun t147 => (some t147)) else (none)) else (none))))
def counterpanelaw24_ZcodeBack.f (k : Nat) (a0 : Int) (a1 : Int) (a2 : Int) : Option (Bool) := (zcode_Point.f a2).bind fun bt137 => ((counterpaneref24_Point.f k a2).bind fun bt139 => (if bt137.1 = bt139.1 then (if bt137.2 = bt139.2 then ((zcode_Code.f bt137.1 bt137.2).bind fun t141 => (if t141 = a2 then ((zcode_Code.f a0 a1).bind fun t142 => ((counterpaneref24_Code.f k a0 a1).bind fun t143 => (counterpanelaw24_ZcodeBack.j0 k a0 a1 (t142 != t143)))) else (counterpanelaw24_ZcodeBack.j0 k a0 a1 true))) else (counterpanelaw24_ZcodeBack.j0 k a0 a1 true)) else (counterpanelaw24_ZcodeBack.j0 k a0 a1 true)))
theorem counterpanelaw24_ZcodeBack.mono_l : ∀ k, (∀ y0 y1 y2, LeO (counterpanelaw24_ZcodeBack.j0 k y0 y1 y2) (counterpanelaw24_ZcodeBack.j0 (k + 1) y0 y1 y2))
  | 0 => fun _ _ _ r h => by simp [counterpanelaw24_ZcodeBack.j0] at h
  | k + 1 => by
    have ih0 := counterpanelaw24_ZcodeBack.mono_l k
    · intro y0 y1 y2
      unfold counterpanelaw24_ZcodeBack.j0
      repeat' first
      | (with_reducible exact ih0 _ _ _)
      | (with_reducible exact counterpanelaw24_works.mono _)
      | (with_reducible exact counterpaneref24_Code.mono _ _ _)
      | (with_reducible exact counterpaneref24_Point.mono _ _)
      | (with_reducible exact LeO.refl _)
      | (with_reducible exact LeO.none _)
      | (with_reducible refine LeO.ite ?_ ?_)
      | (with_reducible refine LeO.bind ?_ (fun _ => ?_))
      | exact ih0 _ _ _
      | exact counterpanelaw24_works.mono _
      | exact counterpaneref24_Code.mono _ _ _
      | exact counterpaneref24_Point.mono _ _
      | exact LeO.none _
      | refine LeO.ite ?_ ?_
      | refine LeO.bind ?_ (fun _ => ?_)
theorem counterpanelaw24_ZcodeBack.mono : ∀ a0 a1 a2 k, LeO (counterpanelaw24_ZcodeBack.f k a0 a1 a2) (counterpanelaw24_ZcodeBack.f (k + 1) a0 a1 a2) := by
  intro a0 a1 a2 k
  have ih0 := counterpanelaw24_ZcodeBack.mono_l k
  unfold counterpanelaw24_ZcodeBack.f
  repeat' first
      | (with_reducible exact ih0 _ _ _)
      | (with_reducible exact counterpanelaw24_works.mono _)
      | (with_reducible exact counterpaneref24_Code.mono _ _ _)
      | (with_reducible exact counterpaneref24_Point.mono _ _)
      | (with_reducible exact LeO.refl _)
      | (with_reducible exact LeO.none _)
      | (with_reducible refine LeO.ite ?_ ?_)
      | (with_reducible refine LeO.bind ?_ (fun _ => ?_))
      | exact ih0 _ _ _
      | exact counterpanelaw24_works.mono _
      | exact counterpaneref24_Code.mono _ _ _
      | exact counterpaneref24_Point.mono _ _
      | exact LeO.none _
      | refine LeO.ite ?_ ?_
      | refine LeO.bind ?_ (fun _ => ?_)
set_option maxHeartbeats 8000000 in
set_option maxRecDepth 100000 in
theorem counterpanelaw24_ZcodeBack.calls (k : Nat) (a0 : Int) (a1 : Int) (a2 : Int) (r : Bool) (w : World) (h : counterpanelaw24_ZcodeBack.f k a0 a1 a2 = some r) :
    Calls Try.prog 3 #[.int .u32 a0, .int .u32 a1, .int .u64 a2] w fun e w' => e = .returned (.bool r) ∧ Below w.heap.size w w' := by
  have HB := Aside0.mk (Below.refl w.heap.size w)
  have H : ((zcode_Point.f a2).bind fun bt137 => ((counterpaneref24_Point.f k a2).bind fun bt139 => (if bt137.1 = bt139.1 then (if bt137.2 = bt139.2 then ((zcode_Code.f bt137.1 bt137.2).bind fun t141 => (if t141 = a2 then ((zcode_Code.f a0 a1).bind fun t142 => ((counterpaneref24_Code.f k a0 a1).bind fun t143 => (counterpanelaw24_ZcodeBack.j0 k a0 a1 (t142 != t143)))) else (counterpanelaw24_ZcodeBack.j0 k a0 a1 true))) else (counterpanelaw24_ZcodeBack.j0 k a0 a1 true)) else (counterpanelaw24_ZcodeBack.j0 k a0 a1 true)))) = some r := h
  clear h
  replace H := Option.bind_eq_some_iff.mp H
  obtain ⟨⟨t137, t138⟩, A40, H⟩ := H
  replace H : ((counterpaneref24_Point.f k a2).bind fun bt139 => (if t137 = bt139.1 then (if t138 = bt139.2 then ((zcode_Code.f t137 t138).bind fun t141 => (if t141 = a2 then ((zcode_Code.f a0 a1).bind fun t142 => ((counterpaneref24_Code.f k a0 a1).bind fun t143 => (counterpanelaw24_ZcodeBack.j0 k a0 a1 (t142 != t143)))) else (counterpanelaw24_ZcodeBack.j0 k a0 a1 true))) else (counterpanelaw24_ZcodeBack.j0 k a0 a1 true)) else (counterpanelaw24_ZcodeBack.j0 k a0 a1 true))) = some r := H
  have A4 := Aside0.mk A40
  clear A40
  replace H := Option.bind_eq_some_iff.mp H
  obtain ⟨⟨t139, t140⟩, A50, H⟩ := H
  replace H : (if t137 = t139 then (if t138 = t140 then ((zcode_Code.f t137 t138).bind fun t141 => (if t141 = a2 then ((zcode_Code.f a0 a1).bind fun t142 => ((counterpaneref24_Code.f k a0 a1).bind fun t143 => (counterpanelaw24_ZcodeBack.j0 k a0 a1 (t142 != t143)))) else (counterpanelaw24_ZcodeBack.j0 k a0 a1 true))) else (counterpanelaw24_ZcodeBack.j0 k a0 a1 true)) else (counterpanelaw24_ZcodeBack.j0 k a0 a1 true)) = some r := H
  have A5 := Aside0.mk A50
  clear A50
  have HC6 := Aside0.mk H
  clear H
  go_enter Try.func3, Try.ntmps3
  go_upto_region 3 with (first | ((with_reducible refine gate_callee (f := 8) rfl ?_); refine goesL_ (some 15) rfl rfl Try.func8 (by kernel_rfl) rfl #[.int .u64 a2] rfl (by (try simp only [List.map_toArray, List.map_cons, List.map_nil]); first | done | rfl | (simp only [List.length_drop, List.length_take]; rfl) | (simp; done)) ?_; (with_reducible refine (zcode_Point.calls a2 t137 t138 _ A4.out).mono ?_); rintro e w7 ⟨rfl, hb⟩; refine ⟨_, rfl, ?_⟩; have n0_ := Aside0.mk (below_step (by repeat (first | (with_reducible first | exact HB.out | apply below_alloc | apply pw_below_drewN | apply below_drew1) | exact HB.out)) hb); clear HB; have HB := n0_; clear n0_; (try clear hb); (try clear hb2); (try clear hk); (try clear hi)) | ((with_reducible refine gate_callee (f := 9) rfl ?_); refine goesL_ (some 20) rfl rfl Try.func9 (by kernel_rfl) rfl #[.int .u64 a2] rfl (by (try simp only [List.map_toArray, List.map_cons, List.map_nil]); first | done | rfl | (simp only [List.length_drop, List.length_take]; rfl) | (simp; done)) ?_; (with_reducible refine (counterpaneref24_Point.calls k a2 t139 t140 _ A5.out).mono ?_); rintro e w' ⟨rfl, ⟨nd, rfl⟩⟩; refine ⟨_, rfl, ?_⟩))
  (try simp only [Act.put, List.setIfInBounds_toArray, List.set_cons_zero, List.set_cons_succ])
  go_cut [46] (fun v46 wc => ∃ (kq : Nat) (x46_5 : Bool), v46 = .bool x46_5 ∧ Aside0 (counterpanelaw24_ZcodeBack.j0 kq a0 a1 x46_5 = some r) ∧ Aside0 (kq ≤ k) ∧ Aside0 (Below w.heap.size w wc))
  case first =>
    have H := HC6.out
    clear HC6
    by_cases c8 : t137 = t139
    · rw [if_pos c8] at H
      have c8b0 : (t137 == t139) = true := beq_iff_eq.mpr c8
      have c8b1 : (t137 != t139) = false := bne_eq_false_iff_eq.mpr c8
      clear c8
      (first | rw [c8b0] | (simp only [i64_w, i32_w]; rw [c8b0]) | skip)
      by_cases c9 : t138 = t140
      · rw [if_pos c9] at H
        have c9b0 : (t138 == t140) = true := beq_iff_eq.mpr c9
        have c9b1 : (t138 != t140) = false := bne_eq_false_iff_eq.mpr c9
        clear c9
        replace H := Option.bind_eq_some_iff.mp H
        obtain ⟨t141, A100, H⟩ := H
        replace H : (if t141 = a2 then ((zcode_Code.f a0 a1).bind fun t142 => ((counterpaneref24_Code.f k a0 a1).bind fun t143 => (counterpanelaw24_ZcodeBack.j0 k a0 a1 (t142 != t143)))) else (counterpanelaw24_ZcodeBack.j0 k a0 a1 true)) = some r := H
        have A10 := Aside0.mk A100
        clear A100
        by_cases c11 : t141 = a2
        · rw [if_pos c11] at H
          have c11b0 : (t141 == a2) = true := beq_iff_eq.mpr c11
          have c11b1 : (t141 != a2) = false := bne_eq_false_iff_eq.mpr c11
          clear c11
          replace H := Option.bind_eq_some_iff.mp H
          obtain ⟨t142, A120, H⟩ := H
          replace H : ((counterpaneref24_Code.f k a0 a1).bind fun t143 => (counterpanelaw24_ZcodeBack.j0 k a0 a1 (t142 != t143))) = some r := H
          have A12 := Aside0.mk A120
          clear A120
          replace H := Option.bind_eq_some_iff.mp H
          obtain ⟨t143, A130, H⟩ := H
          replace H : (counterpanelaw24_ZcodeBack.j0 k a0 a1 (t142 != t143)) = some r := H
          have A13 := Aside0.mk A130
          clear A130
          have H' := Aside0.mk H
          clear H
          go_wp2_with (first | (go_at_call 10; (with_reducible refine (zcode_Code.calls t137 t138 t141 _ A10.out).mono ?_); rintro e w14 ⟨rfl, hb⟩; have n0_ := Aside0.mk (below_step (by repeat (first | (with_reducible first | exact HB.out | apply below_alloc | apply pw_below_drewN | apply below_drew1) | exact HB.out)) hb); clear HB; have HB := n0_; clear n0_; (try clear hb); (try clear hb2); (try clear hk); (try clear hi)) | (go_at_call 10; (with_reducible refine (zcode_Code.calls a0 a1 t142 _ A12.out).mono ?_); rintro e w15 ⟨rfl, hb⟩; have n0_ := Aside0.mk (below_step (by repeat (first | (with_reducible first | exact HB.out | apply below_alloc | apply pw_below_drewN | apply below_drew1) | exact HB.out)) hb); clear HB; have HB := n0_; clear n0_; (try clear hb); (try clear hb2); (try clear hk); (try clear hi)) | (go_at_call 11; (with_reducible refine (counterpaneref24_Code.calls k a0 a1 t143 _ A13.out).mono ?_); rintro e w' ⟨rfl, ⟨nd, rfl⟩⟩))
          go_meet
          case rel => exact ⟨_, ((t142 != t143)), (by first | rfl | (simp; done) | (simp [*]; done)), H', ⟨by first | omega | exact Nat.le_refl _⟩, ⟨by repeat (first | (with_reducible first | exact HB.out | apply below_alloc | apply pw_below_drewN | apply below_drew1) | exact HB.out)⟩⟩
        · rw [if_neg c11] at H
          have c11b0 : (t141 == a2) = false := beq_eq_false_iff_ne.mpr c11
          have c11b1 : (t141 != a2) = true := bne_iff_ne.mpr c11
          have H' := Aside0.mk H
          clear H
          go_wp2_with (first | (go_at_call 10; (with_reducible refine (zcode_Code.calls t137 t138 t141 _ A10.out).mono ?_); rintro e w16 ⟨rfl, hb⟩; have n0_ := Aside0.mk (below_step (by repeat (first | (with_reducible first | exact HB.out | apply below_alloc | apply pw_below_drewN | apply below_drew1) | exact HB.out)) hb); clear HB; have HB := n0_; clear n0_; (try clear hb); (try clear hb2); (try clear hk); (try clear hi)))
          go_meet
          case rel => exact ⟨_, (true), (by first | rfl | (simp; done) | (simp [*]; done)), H', ⟨by first | omega | exact Nat.le_refl _⟩, ⟨by repeat (first | (with_reducible first | exact HB.out | apply below_alloc | apply pw_below_drewN | apply below_drew1) | exact HB.out)⟩⟩
      · rw [if_neg c9] at H
        have c9b0 : (t138 == t140) = false := beq_eq_false_iff_ne.mpr c9
        have c9b1 : (t138 != t140) = true := bne_iff_ne.mpr c9
        have H' := Aside0.mk H
        clear H
        go_wp2
        go_meet
        case rel => exact ⟨_, (true), (by first | rfl | (simp; done) | (simp [*]; done)), H', ⟨by first | omega | exact Nat.le_refl _⟩, ⟨by repeat (first | (with_reducible first | exact HB.out | apply below_alloc | apply pw_below_drewN | apply below_drew1) | exact HB.out)⟩⟩
    · rw [if_neg c8] at H
      have c8b0 : (t137 == t139) = false := beq_eq_false_iff_ne.mpr c8
      have c8b1 : (t137 != t139) = true := bne_iff_ne.mpr c8
      (first | rw [c8b0] | (simp only [i64_w, i32_w]; rw [c8b0]) | skip)
      have H' := Aside0.mk H
      clear H
      go_wp2
      go_meet
      case rel => exact ⟨_, (true), (by first | rfl | (simp; done) | (simp [*]; done)), H', ⟨by first | omega | exact Nat.le_refl _⟩, ⟨by repeat (first | (with_reducible first | exact HB.out | apply below_alloc | apply pw_below_drewN | apply below_drew1) | exact HB.out)⟩⟩
  case rest =>
    clear HC6
    try clear c1
    try clear p2
    try clear c3
    try clear c8
    try clear c8b0
    try clear c8b1
    try clear c9
    try clear c9b0
    try clear c9b1
    try clear c11
    try clear c11b0
    try clear c11b1
    obtain ⟨kq, x46_5, rfl, HA, HJ5, HB⟩ := hcut
    cases kq with
    | zero => exact absurd HA.out (by simp [counterpanelaw24_ZcodeBack.j0])
    | succ kj5 =>
      have H := HA.out
      clear HA
      simp only [counterpanelaw24_ZcodeBack.j0] at H
      by_cases c17 : x46_5 = true
      · subst c17
        have H1 : (none) = some r := by rw [if_pos rfl] at H; exact H
        clear H
        have H := H1
        clear H1
        exact absurd H (by simp)
      · replace c17 := Bool.eq_false_iff.mpr c17
        subst c17
        have H1 : ((zcode_Code.f a0 a1).bind fun t144 => ((zcode_Point.f t144).bind fun bt145 => (if bt145.1 = a0 then (if bt145.2 = a1 then ((counterpanelaw24_works.f kj5).bind fun t147 => (some t147)) else (none)) else (none)))) = some r := by rw [if_neg (show ¬ (false = true) by decide)] at H; exact H
        clear H
        have H := H1
        clear H1
        replace H := Option.bind_eq_some_iff.mp H
        obtain ⟨t144, A180, H⟩ := H
        replace H : ((zcode_Point.f t144).bind fun bt145 => (if bt145.1 = a0 then (if bt145.2 = a1 then ((counterpanelaw24_works.f kj5).bind fun t147 => (some t147)) else (none)) else (none))) = some r := H
        have A18 := Aside0.mk A180
        clear A180
        replace H := Option.bind_eq_some_iff.mp H
        obtain ⟨⟨t145, t146⟩, A190, H⟩ := H
        replace H : (if t145 = a0 then (if t146 = a1 then ((counterpanelaw24_works.f kj5).bind fun t147 => (some t147)) else (none)) else (none)) = some r := H
        have A19 := Aside0.mk A190
        clear A190
        by_cases c20 : t145 = a0
        · rw [if_pos c20] at H
          have c20b0 : (t145 == a0) = true := beq_iff_eq.mpr c20
          have c20b1 : (t145 != a0) = false := bne_eq_false_iff_eq.mpr c20
          clear c20
          by_cases c21 : t146 = a1
          · rw [if_pos c21] at H
            have c21b0 : (t146 == a1) = true := beq_iff_eq.mpr c21
            have c21b1 : (t146 != a1) = false := bne_eq_false_iff_eq.mpr c21
            clear c21
            replace H := Option.bind_eq_some_iff.mp H
            obtain ⟨t147, A220, H⟩ := H
            replace H : (some t147) = some r := H
            have A22 := Aside0.mk A220
            clear A220
            obtain rfl := Option.some.inj H
            go_wp2_with (first | ((with_reducible refine gate_callee (f := 10) rfl ?_); refine goesL_ (some 50) rfl rfl Try.func10 (by kernel_rfl) rfl #[.int .u32 a0, .int .u32 a1] rfl (by (try simp only [List.map_toArray, List.map_cons, List.map_nil]); first | done | rfl | (simp only [List.length_drop, List.length_take]; rfl) | (simp; done)) ?_; (with_reducible refine (zcode_Code.calls a0 a1 t144 _ A18.out).mono ?_); rintro e w23 ⟨rfl, hb⟩; refine ⟨_, rfl, ?_⟩; have n0_ := Aside0.mk (below_step (by repeat (first | (with_reducible first | exact HB.out | apply below_alloc | apply pw_below_drewN | apply below_drew1) | exact HB.out)) hb); clear HB; have HB := n0_; clear n0_; (try clear hb); (try clear hb2); (try clear hk); (try clear hi)) | ((with_reducible refine gate_callee (f := 8) rfl ?_); refine goesL_ (some 51) rfl rfl Try.func8 (by kernel_rfl) rfl #[.int .u64 t144] rfl (by (try simp only [List.map_toArray, List.map_cons, List.map_nil]); first | done | rfl | (simp only [List.length_drop, List.length_take]; rfl) | (simp; done)) ?_; (with_reducible refine (zcode_Point.calls t144 t145 t146 _ A19.out).mono ?_); rintro e w24 ⟨rfl, hb⟩; refine ⟨_, rfl, ?_⟩; have n0_ := Aside0.mk (below_step (by repeat (first | (with_reducible first | exact HB.out | apply below_alloc | apply pw_below_drewN | apply below_drew1) | exact HB.out)) hb); clear HB; have HB := n0_; clear n0_; (try clear hb); (try clear hb2); (try clear hk); (try clear hi)) | (go_at_call 12; (with_reducible refine (counterpanelaw24_works.calls kj5  t147 _ A22.out).mono ?_); rintro e w25 ⟨rfl, hb⟩; have n0_ := Aside0.mk (below_step (by repeat (first | (with_reducible first | exact HB.out | apply below_alloc | apply pw_below_drewN | apply below_drew1) | exact HB.out)) hb); clear HB; have HB := n0_; clear n0_; (try clear hb); (try clear hb2); (try clear hk); (try clear hi)))
            go_ret
            exact ⟨by first | rfl | (simp [errW_none, errW_some] <;> rfl) | (simp [*, errW_none, errW_some] <;> rfl), by repeat (first | (with_reducible first | exact HB.out | apply below_alloc | apply pw_below_drewN | apply below_drew1) | exact HB.out)⟩
          · rw [if_neg c21] at H
            exact absurd H (by simp)
        · rw [if_neg c20] at H
          exact absurd H (by simp)

/-- THE ONE PURE STATEMENT of counterpanelaw24_ZcodeBack: yours. -/
def counterpanelaw24_ZcodeBack.Pure : Prop := ∀ (a0 : Int) (a1 : Int) (a2 : Int), (Lit.int .u32 a0).wf = true → (Lit.int .u32 a1).wf = true → (Lit.int .u64 a2).wf = true → ∃ k, counterpanelaw24_ZcodeBack.f k a0 a1 a2 = some true
theorem counterpanelaw24_ZcodeBack.walk (P : counterpanelaw24_ZcodeBack.Pure) (a0 : Int) (a1 : Int) (a2 : Int) (w : World) (w0 : (Lit.int .u32 a0).wf = true) (w1 : (Lit.int .u32 a1).wf = true) (w2 : (Lit.int .u64 a2).wf = true) :
    Calls Try.prog 3 #[.int .u32 a0, .int .u32 a1, .int .u64 a2] w fun e w' => e = .returned (.bool true) ∧ Below w.heap.size w w' := by
  obtain ⟨k, h⟩ := P a0 a1 a2 w0 w1 w2
  refine (counterpanelaw24_ZcodeBack.calls k a0 a1 a2 true w h).mono ?_
  rintro e w' ⟨rfl, hd⟩
  exact ⟨rfl, hd⟩

end Go.Proofs.Ytabkoclmhdnjfaa.PAll
