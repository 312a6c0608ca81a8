/- The functions that the laws of this seat reach, as plain functions with proofs that the calls answer just so (written by a program of this session on the kit's print). -/
import Derived.Test.YtmeoaonoofeogaaPAllx0
import Derived.Test.YtmeoaonoofeogaaPAllx1
namespace Go.Proofs.Ytmeoaonoofeogaa.PAll
open Go.RowKit Go.Proofs.YtmeoaonoofeogaaW.PrintWords Go.Proofs.YtmeoaonoofeogaaW.PrintLast Go.Proofs.YtmeoaonoofeogaaW.PrintMore
attribute [local go_sem] max2_int min2_int max_two min_two max_three min_three max_four min_four   -- for this text's walks alone
set_option linter.unusedVariables false
set_option linter.unusedSimpArgs false

/-! ### mode_Covers: function 8 -/
-- GIVEN rounds=0 making=1
def mode_Covers.t (a : Int) : Int := if a = 0 then 1 else if a = 1 then 3 else if a = 2 then 7 else if a = 3 then 11 else if a = 4 then 31 else 63
def mode_Covers.in6 (a : Int) : Bool := decide (0 ≤ a ∧ a ≤ 5)
def mode_Covers.b (a0 a1 : Int) : Bool := mode_Covers.in6 a0 && mode_Covers.in6 a1 && decide (mode_Covers.t a0 / 2 ^ a1.toNat % 2 = 1)
def mode_Covers.f (a0 : Int) (a1 : Int) : Option (Bool) := some (mode_Covers.b a0 a1)
theorem mode_Covers.six {a : Int} (h : mode_Covers.in6 a = true) : a = 0 ∨ a = 1 ∨ a = 2 ∨ a = 3 ∨ a = 4 ∨ a = 5 := by simp [mode_Covers.in6] at h; omega
theorem mode_Covers.right (a : Int) (w : World) : Calls Try.prog 5 #[.int .i64 a] w fun e w' => e = .returned (.bool (mode_Covers.in6 a)) ∧ Drawn0 w w' :=
  mode_Right.calls a _ w (by unfold mode_Right.f mode_Covers.in6; by_cases h : 0 ≤ a <;> simp [h])
theorem mode_Covers.tab (w : World) : Calls Try.prog 20 #[] w fun e w' => e = .returned (.agg #[.int .u8 1, .int .u8 3, .int .u8 7, .int .u8 11, .int .u8 31, .int .u8 63]) ∧ Below w.heap.size w w' := by
  go_enter Try.func20, Try.ntmps20
  go_wp2
  exact bodyPost_ret (v := .agg #[.int .u8 1, .int .u8 3, .int .u8 7, .int .u8 11, .int .u8 31, .int .u8 63]) (by simp [results, Try.results20, go_sem]) rfl ⟨rfl, by repeat (first | exact Below.refl _ _ | apply below_alloc)⟩
theorem mode_Covers.i0 (w : World) : (Instr.index 29 (.agg #[.int .u8 1, .int .u8 3, .int .u8 7, .int .u8 11, .int .u8 31, .int .u8 63]) (.int .i64 0)).run Try.prog w = .ok (.int .u8 1) w := by kernel_rfl
theorem mode_Covers.i1 (w : World) : (Instr.index 29 (.agg #[.int .u8 1, .int .u8 3, .int .u8 7, .int .u8 11, .int .u8 31, .int .u8 63]) (.int .i64 1)).run Try.prog w = .ok (.int .u8 3) w := by kernel_rfl
theorem mode_Covers.i2 (w : World) : (Instr.index 29 (.agg #[.int .u8 1, .int .u8 3, .int .u8 7, .int .u8 11, .int .u8 31, .int .u8 63]) (.int .i64 2)).run Try.prog w = .ok (.int .u8 7) w := by kernel_rfl
theorem mode_Covers.i3 (w : World) : (Instr.index 29 (.agg #[.int .u8 1, .int .u8 3, .int .u8 7, .int .u8 11, .int .u8 31, .int .u8 63]) (.int .i64 3)).run Try.prog w = .ok (.int .u8 11) w := by kernel_rfl
theorem mode_Covers.i4 (w : World) : (Instr.index 29 (.agg #[.int .u8 1, .int .u8 3, .int .u8 7, .int .u8 11, .int .u8 31, .int .u8 63]) (.int .i64 4)).run Try.prog w = .ok (.int .u8 31) w := by kernel_rfl
theorem mode_Covers.i5 (w : World) : (Instr.index 29 (.agg #[.int .u8 1, .int .u8 3, .int .u8 7, .int .u8 11, .int .u8 31, .int .u8 63]) (.int .i64 5)).run Try.prog w = .ok (.int .u8 63) w := by kernel_rfl
theorem mode_Covers.ret_bool {a b : Bool} (h : a = b) : Ending.returned (.bool a) = .returned (.bool b) := by rw [h]
theorem mode_Covers.bel {w w1 : World} {n : Nat} (h : Below (w.drewN n).heap.size (w.drewN n) w1) : Below w.heap.size w w1 :=
  (Drawn0.below ⟨⟨n, rfl⟩⟩).trans (h.mono (by simp))
set_option maxHeartbeats 8000000 in
theorem mode_Covers.calls (a0 : Int) (a1 : Int) (r : Bool) (w : World) (h : mode_Covers.f a0 a1 = some r) :
    Calls Try.prog 8 #[.int .i64 a0, .int .i64 a1] w fun e w' => e = .returned (.bool r) ∧ Below w.heap.size w w' := by
  obtain rfl := Option.some.inj h
  clear h
  by_cases ha : mode_Covers.in6 a0 = true
  · by_cases hb : mode_Covers.in6 a1 = true
    · have i0 := mode_Covers.i0
      have i1 := mode_Covers.i1
      have i2 := mode_Covers.i2
      have i3 := mode_Covers.i3
      have i4 := mode_Covers.i4
      have i5 := mode_Covers.i5
      rcases mode_Covers.six ha with rfl | rfl | rfl | rfl | rfl | rfl <;> rcases mode_Covers.six hb with rfl | rfl | rfl | rfl | rfl | rfl
      all_goals
        go_enter Try.func8, Try.ntmps8
        go_wp2_with (first | (go_at_call 5; (with_reducible refine (mode_Covers.right _ _).mono ?_); rintro e w1 ⟨rfl, ⟨⟨n1, rfl⟩⟩⟩; first | rw [ha] | rw [hb]) | (go_at_call 20; (with_reducible refine (mode_Covers.tab _).mono ?_); rintro e w1 ⟨rfl, hbe⟩))
        go_ret
        exact ⟨mode_Covers.ret_bool (by kernel_rfl), by first | exact mode_Covers.bel hbe⟩
    · simp only [Bool.not_eq_true] at hb
      have he : mode_Covers.b a0 a1 = false := by simp [mode_Covers.b, hb]
      rw [he]
      clear he
      go_enter Try.func8, Try.ntmps8
      go_wp2_with (first | (go_at_call 5; (with_reducible refine (mode_Covers.right a0 _).mono ?_); rintro e w1 ⟨rfl, ⟨⟨n1, rfl⟩⟩⟩; rw [ha]) | (go_at_call 5; (with_reducible refine (mode_Covers.right a1 _).mono ?_); rintro e w1 ⟨rfl, ⟨⟨n1, rfl⟩⟩⟩; rw [hb]))
      go_ret
      exact ⟨rfl, Drawn0.below (by repeat (first | exact Drawn0.refl _ | apply Drawn0.step))⟩
  · simp only [Bool.not_eq_true] at ha
    have he : mode_Covers.b a0 a1 = false := by simp [mode_Covers.b, ha]
    rw [he]
    clear he
    go_enter Try.func8, Try.ntmps8
    go_wp2_with (first | (go_at_call 5; (with_reducible refine (mode_Covers.right a0 _).mono ?_); rintro e w1 ⟨rfl, ⟨⟨n1, rfl⟩⟩⟩; rw [ha]))
    go_ret
    exact ⟨rfl, Drawn0.below (by repeat (first | exact Drawn0.refl _ | apply Drawn0.step))⟩

/-! ### counterpaneref10_Covers: function 9 -/
def counterpaneref10_Covers.f (k : Nat) (a0 : Int) (a1 : Int) : Option (Bool) := (counterpaneref10_right.f a0).bind fun t112 => (if t112 = true then ((counterpaneref10_right.f a1).bind fun t113 => (if t113 = true then ((counterpaneref10_reads.f k a0).bind fun t114 => ((counterpaneref10_reads.f k a1).bind fun t115 => (if t114 ≥ t115 then ((counterpaneref10_writes.f a0).bind fun t116 => ((counterpaneref10_writes.f a1).bind fun t117 => (some (decide (t116 ≥ t117))))) else (some false)))) else (some false))) else (some false))
theorem counterpaneref10_Covers.mono : ∀ a0 a1 k, LeO (counterpaneref10_Covers.f k a0 a1) (counterpaneref10_Covers.f (k + 1) a0 a1) := by
  intro a0 a1 k
  unfold counterpaneref10_Covers.f
  repeat' first
      | (with_reducible exact counterpaneref10_reads.mono _ _)
      | (with_reducible exact LeO.refl _)
      | (with_reducible exact LeO.none _)
      | (with_reducible refine LeO.ite ?_ ?_)
      | (with_reducible refine LeO.bind ?_ (fun _ => ?_))
      | exact counterpaneref10_reads.mono _ _
      | exact LeO.none _
      | refine LeO.ite ?_ ?_
      | refine LeO.bind ?_ (fun _ => ?_)
set_option maxHeartbeats 8000000 in
set_option maxRecDepth 100000 in
theorem counterpaneref10_Covers.calls (k : Nat) (a0 : Int) (a1 : Int) (r : Bool) (w : World) (h : counterpaneref10_Covers.f k a0 a1 = some r) :
    Calls Try.prog 9 #[.int .i64 a0, .int .i64 a1] w fun e w' => e = .returned (.bool r) ∧ Drawn0 w w' := by
  have H : ((counterpaneref10_right.f a0).bind fun t112 => (if t112 = true then ((counterpaneref10_right.f a1).bind fun t113 => (if t113 = true then ((counterpaneref10_reads.f k a0).bind fun t114 => ((counterpaneref10_reads.f k a1).bind fun t115 => (if t114 ≥ t115 then ((counterpaneref10_writes.f a0).bind fun t116 => ((counterpaneref10_writes.f a1).bind fun t117 => (some (decide (t116 ≥ t117))))) else (some false)))) else (some false))) else (some false))) = some r := h
  clear h
  replace H := Option.bind_eq_some_iff.mp H
  obtain ⟨t112, A30, H⟩ := H
  replace H : (if t112 = true then ((counterpaneref10_right.f a1).bind fun t113 => (if t113 = true then ((counterpaneref10_reads.f k a0).bind fun t114 => ((counterpaneref10_reads.f k a1).bind fun t115 => (if t114 ≥ t115 then ((counterpaneref10_writes.f a0).bind fun t116 => ((counterpaneref10_writes.f a1).bind fun t117 => (some (decide (t116 ≥ t117))))) else (some false)))) else (some false))) else (some false)) = some r := H
  have A3 := Aside0.mk A30
  clear A30
  by_cases c4 : t112 = true
  · subst c4
    have H1 : ((counterpaneref10_right.f a1).bind fun t113 => (if t113 = true then ((counterpaneref10_reads.f k a0).bind fun t114 => ((counterpaneref10_reads.f k a1).bind fun t115 => (if t114 ≥ t115 then ((counterpaneref10_writes.f a0).bind fun t116 => ((counterpaneref10_writes.f a1).bind fun t117 => (some (decide (t116 ≥ t117))))) else (some false)))) else (some false))) = some r := by rw [if_pos rfl] at H; exact H
    clear H
    have H := H1
    clear H1
    replace H := Option.bind_eq_some_iff.mp H
    obtain ⟨t113, A50, H⟩ := H
    replace H : (if t113 = true then ((counterpaneref10_reads.f k a0).bind fun t114 => ((counterpaneref10_reads.f k a1).bind fun t115 => (if t114 ≥ t115 then ((counterpaneref10_writes.f a0).bind fun t116 => ((counterpaneref10_writes.f a1).bind fun t117 => (some (decide (t116 ≥ t117))))) else (some false)))) else (some false)) = some r := H
    have A5 := Aside0.mk A50
    clear A50
    by_cases c6 : t113 = true
    · subst c6
      have H1 : ((counterpaneref10_reads.f k a0).bind fun t114 => ((counterpaneref10_reads.f k a1).bind fun t115 => (if t114 ≥ t115 then ((counterpaneref10_writes.f a0).bind fun t116 => ((counterpaneref10_writes.f a1).bind fun t117 => (some (decide (t116 ≥ t117))))) else (some false)))) = some r := by rw [if_pos rfl] at H; exact H
      clear H
      have H := H1
      clear H1
      replace H := Option.bind_eq_some_iff.mp H
      obtain ⟨t114, A70, H⟩ := H
      replace H : ((counterpaneref10_reads.f k a1).bind fun t115 => (if t114 ≥ t115 then ((counterpaneref10_writes.f a0).bind fun t116 => ((counterpaneref10_writes.f a1).bind fun t117 => (some (decide (t116 ≥ t117))))) else (some false))) = some r := H
      have A7 := Aside0.mk A70
      clear A70
      replace H := Option.bind_eq_some_iff.mp H
      obtain ⟨t115, A80, H⟩ := H
      replace H : (if t114 ≥ t115 then ((counterpaneref10_writes.f a0).bind fun t116 => ((counterpaneref10_writes.f a1).bind fun t117 => (some (decide (t116 ≥ t117))))) else (some false)) = some r := H
      have A8 := Aside0.mk A80
      clear A80
      by_cases c9 : t114 ≥ t115
      · rw [if_pos c9] at H
        have c9b0 : decide (t115 ≤ t114) = true := decide_eq_true c9
        clear c9
        replace H := Option.bind_eq_some_iff.mp H
        obtain ⟨t116, A100, H⟩ := H
        replace H : ((counterpaneref10_writes.f a1).bind fun t117 => (some (decide (t116 ≥ t117)))) = some r := H
        have A10 := Aside0.mk A100
        clear A100
        replace H := Option.bind_eq_some_iff.mp H
        obtain ⟨t117, A110, H⟩ := H
        replace H : (some (decide (t116 ≥ t117))) = some r := H
        have A11 := Aside0.mk A110
        clear A110
        obtain rfl := Option.some.inj H
        go_enter Try.func9, Try.ntmps9
        go_wp2_with (first | ((with_reducible refine gate_callee (f := 17) rfl ?_); refine goesL_ (some 6) rfl rfl Try.func17 (by kernel_rfl) rfl #[.int .i64 a0] rfl (by (try simp only [List.map_toArray, List.map_cons, List.map_nil]); first | done | rfl | (simp only [List.length_drop, List.length_take]; rfl)) ?_; (with_reducible refine (counterpaneref10_right.calls a0 true _ A3.out).mono ?_); rintro e w' ⟨rfl, ⟨nd, rfl⟩⟩; refine ⟨_, rfl, ?_⟩) | (go_at_call 17; (with_reducible refine (counterpaneref10_right.calls a1 true _ A5.out).mono ?_); rintro e w' ⟨rfl, ⟨nd, rfl⟩⟩) | (go_at_call 19; (with_reducible refine (counterpaneref10_reads.calls k a0 t114 _ A7.out).mono ?_); rintro e w' ⟨rfl, ⟨nd, rfl⟩⟩) | (go_at_call 19; (with_reducible refine (counterpaneref10_reads.calls k a1 t115 _ A8.out).mono ?_); rintro e w' ⟨rfl, ⟨nd, rfl⟩⟩) | (go_at_call 18; (with_reducible refine (counterpaneref10_writes.calls a0 t116 _ A10.out).mono ?_); rintro e w' ⟨rfl, ⟨nd, rfl⟩⟩) | (go_at_call 18; (with_reducible refine (counterpaneref10_writes.calls a1 t117 _ A11.out).mono ?_); rintro e w' ⟨rfl, ⟨nd, rfl⟩⟩))
        go_ret
        exact ⟨by first | rfl | (simp; done) | (simp [*]; done), by repeat (first | exact Drawn0.refl _ | apply Drawn0.step)⟩
      · rw [if_neg c9] at H
        have c9b0 : decide (t115 ≤ t114) = false := decide_eq_false c9
        clear c9
        obtain rfl := Option.some.inj H
        go_enter Try.func9, Try.ntmps9
        go_wp2_with (first | ((with_reducible refine gate_callee (f := 17) rfl ?_); refine goesL_ (some 6) rfl rfl Try.func17 (by kernel_rfl) rfl #[.int .i64 a0] rfl (by (try simp only [List.map_toArray, List.map_cons, List.map_nil]); first | done | rfl | (simp only [List.length_drop, List.length_take]; rfl)) ?_; (with_reducible refine (counterpaneref10_right.calls a0 true _ A3.out).mono ?_); rintro e w' ⟨rfl, ⟨nd, rfl⟩⟩; refine ⟨_, rfl, ?_⟩) | (go_at_call 17; (with_reducible refine (counterpaneref10_right.calls a1 true _ A5.out).mono ?_); rintro e w' ⟨rfl, ⟨nd, rfl⟩⟩) | (go_at_call 19; (with_reducible refine (counterpaneref10_reads.calls k a0 t114 _ A7.out).mono ?_); rintro e w' ⟨rfl, ⟨nd, rfl⟩⟩) | (go_at_call 19; (with_reducible refine (counterpaneref10_reads.calls k a1 t115 _ A8.out).mono ?_); rintro e w' ⟨rfl, ⟨nd, rfl⟩⟩))
        go_ret
        exact ⟨by first | rfl | (simp; done) | (simp [*]; done), by repeat (first | exact Drawn0.refl _ | apply Drawn0.step)⟩
    · replace c6 := Bool.eq_false_iff.mpr c6
      subst c6
      have H1 : (some false) = some r := by rw [if_neg (show ¬ (false = true) by decide)] at H; exact H
      clear H
      have H := H1
      clear H1
      obtain rfl := Option.some.inj H
      go_enter Try.func9, Try.ntmps9
      go_wp2_with (first | ((with_reducible refine gate_callee (f := 17) rfl ?_); refine goesL_ (some 6) rfl rfl Try.func17 (by kernel_rfl) rfl #[.int .i64 a0] rfl (by (try simp only [List.map_toArray, List.map_cons, List.map_nil]); first | done | rfl | (simp only [List.length_drop, List.length_take]; rfl)) ?_; (with_reducible refine (counterpaneref10_right.calls a0 true _ A3.out).mono ?_); rintro e w' ⟨rfl, ⟨nd, rfl⟩⟩; refine ⟨_, rfl, ?_⟩) | (go_at_call 17; (with_reducible refine (counterpaneref10_right.calls a1 false _ A5.out).mono ?_); rintro e w' ⟨rfl, ⟨nd, rfl⟩⟩))
      go_ret
      exact ⟨by first | rfl | (simp; done) | (simp [*]; done), by repeat (first | exact Drawn0.refl _ | apply Drawn0.step)⟩
  · replace c4 := Bool.eq_false_iff.mpr c4
    subst c4
    have H1 : (some false) = some r := by rw [if_neg (show ¬ (false = true) by decide)] at H; exact H
    clear H
    have H := H1
    clear H1
    obtain rfl := Option.some.inj H
    go_enter Try.func9, Try.ntmps9
    go_wp2_with (first | ((with_reducible refine gate_callee (f := 17) rfl ?_); refine goesL_ (some 6) rfl rfl Try.func17 (by kernel_rfl) rfl #[.int .i64 a0] rfl (by (try simp only [List.map_toArray, List.map_cons, List.map_nil]); first | done | rfl | (simp only [List.length_drop, List.length_take]; rfl)) ?_; (with_reducible refine (counterpaneref10_right.calls a0 false _ A3.out).mono ?_); rintro e w' ⟨rfl, ⟨nd, rfl⟩⟩; refine ⟨_, rfl, ?_⟩))
    go_ret
    exact ⟨by first | rfl | (simp; done) | (simp [*]; done), by repeat (first | exact Drawn0.refl _ | apply Drawn0.step)⟩

/-! ### mode_Join: function 10 -/
def mode_Join.j0 : Nat → Int → Int → Bool → Option (Int)
  | 0, _, _, _ => none
  | k + 1, x0, x1, x5 => if x5 = true then (some 5) else ((mode_Covers.f x0 x1).bind fun t120 => (if t120 = true then (some x0) else ((mode_Covers.f x1 x0).bind fun t121 => (if t121 = true then (some x1) else (some 4)))))
def mode_Join.f (k : Nat) (a0 : Int) (a1 : Int) : Option (Int) := (mode_Right.f a0).bind fun t118 => (if t118 = true then ((mode_Right.f a1).bind fun t119 => (mode_Join.j0 k a0 a1 (!t119))) else (mode_Join.j0 k a0 a1 true))
theorem mode_Join.mono_l : ∀ k, (∀ y0 y1 y2, LeO (mode_Join.j0 k y0 y1 y2) (mode_Join.j0 (k + 1) y0 y1 y2))
  | 0 => fun _ _ _ r h => by simp [mode_Join.j0] at h
  | k + 1 => by
    have ih0 := mode_Join.mono_l k
    · intro y0 y1 y2
      unfold mode_Join.j0
      repeat' first
      | (with_reducible exact ih0 _ _ _)
      | (with_reducible exact LeO.refl _)
      | (with_reducible exact LeO.none _)
      | (with_reducible refine LeO.ite ?_ ?_)
      | (with_reducible refine LeO.bind ?_ (fun _ => ?_))
      | exact ih0 _ _ _
      | exact LeO.none _
      | refine LeO.ite ?_ ?_
      | refine LeO.bind ?_ (fun _ => ?_)
theorem mode_Join.mono : ∀ a0 a1 k, LeO (mode_Join.f k a0 a1) (mode_Join.f (k + 1) a0 a1) := by
  intro a0 a1 k
  have ih0 := mode_Join.mono_l k
  unfold mode_Join.f
  repeat' first
      | (with_reducible exact ih0 _ _ _)
      | (with_reducible exact LeO.refl _)
      | (with_reducible exact LeO.none _)
      | (with_reducible refine LeO.ite ?_ ?_)
      | (with_reducible refine LeO.bind ?_ (fun _ => ?_))
      | exact ih0 _ _ _
      | exact LeO.none _
      | refine LeO.ite ?_ ?_
      | refine LeO.bind ?_ (fun _ => ?_)
set_option maxHeartbeats 8000000 in
set_option maxRecDepth 100000 in
theorem mode_Join.calls (k : Nat) (a0 : Int) (a1 : Int) (r : Int) (w : World) (h : mode_Join.f k a0 a1 = some r) :
    Calls Try.prog 10 #[.int .i64 a0, .int .i64 a1] w fun e w' => e = .returned (.int .i64 r) ∧ Below w.heap.size w w' := by
  have HB := Aside0.mk (Below.refl w.heap.size w)
  have H : ((mode_Right.f a0).bind fun t118 => (if t118 = true then ((mode_Right.f a1).bind fun t119 => (mode_Join.j0 k a0 a1 (!t119))) else (mode_Join.j0 k a0 a1 true))) = some r := h
  clear h
  have HC3 := Aside0.mk H
  clear H
  go_enter Try.func10, Try.ntmps10
  go_upto_region 1 with (fail)
  go_cut [5] (fun v5 wc => ∃ (kq : Nat) (x5_2 : Bool), v5 = .bool x5_2 ∧ Aside0 (mode_Join.j0 kq a0 a1 x5_2 = some r) ∧ Aside0 (kq ≤ k) ∧ Aside0 (Below w.heap.size w wc))
  case first =>
    have H := HC3.out
    clear HC3
    replace H := Option.bind_eq_some_iff.mp H
    obtain ⟨t118, A40, H⟩ := H
    replace H : (if t118 = true then ((mode_Right.f a1).bind fun t119 => (mode_Join.j0 k a0 a1 (!t119))) else (mode_Join.j0 k a0 a1 true)) = some r := H
    have A4 := Aside0.mk A40
    clear A40
    by_cases c5 : t118 = true
    · subst c5
      have H1 : ((mode_Right.f a1).bind fun t119 => (mode_Join.j0 k a0 a1 (!t119))) = some r := by rw [if_pos rfl] at H; exact H
      clear H
      have H := H1
      clear H1
      replace H := Option.bind_eq_some_iff.mp H
      obtain ⟨t119, A60, H⟩ := H
      replace H : (mode_Join.j0 k a0 a1 (!t119)) = some r := H
      have A6 := Aside0.mk A60
      clear A60
      have H' := Aside0.mk H
      clear H
      go_wp2_with (first | ((with_reducible refine gate_callee (f := 5) rfl ?_); refine goesL_ (some 7) rfl rfl Try.func5 (by kernel_rfl) rfl #[.int .i64 a0] rfl (by (try simp only [List.map_toArray, List.map_cons, List.map_nil]); first | done | rfl | (simp only [List.length_drop, List.length_take]; rfl)) ?_; (with_reducible refine (mode_Right.calls a0 true _ A4.out).mono ?_); rintro e w' ⟨rfl, ⟨nd, rfl⟩⟩; refine ⟨_, rfl, ?_⟩) | (go_at_call 5; (with_reducible refine (mode_Right.calls a1 t119 _ A6.out).mono ?_); rintro e w' ⟨rfl, ⟨nd, rfl⟩⟩))
      go_meet
      case rel => exact ⟨_, (!t119), (by first | rfl | (simp; done) | (simp [*]; done)), H', ⟨by first | omega | exact Nat.le_refl _⟩, ⟨by repeat (first | (with_reducible first | exact HB.out | apply below_alloc | apply pw_below_drewN | apply below_drew1) | exact HB.out)⟩⟩
    · replace c5 := Bool.eq_false_iff.mpr c5
      subst c5
      have H1 : (mode_Join.j0 k a0 a1 true) = some r := by rw [if_neg (show ¬ (false = true) by decide)] at H; exact H
      clear H
      have H := H1
      clear H1
      have H' := Aside0.mk H
      clear H
      go_wp2_with (first | ((with_reducible refine gate_callee (f := 5) rfl ?_); refine goesL_ (some 7) rfl rfl Try.func5 (by kernel_rfl) rfl #[.int .i64 a0] rfl (by (try simp only [List.map_toArray, List.map_cons, List.map_nil]); first | done | rfl | (simp only [List.length_drop, List.length_take]; rfl)) ?_; (with_reducible refine (mode_Right.calls a0 false _ A4.out).mono ?_); rintro e w' ⟨rfl, ⟨nd, rfl⟩⟩; refine ⟨_, rfl, ?_⟩))
      go_meet
      case rel => exact ⟨_, (true), (by first | rfl | (simp; done) | (simp [*]; done)), H', ⟨by first | omega | exact Nat.le_refl _⟩, ⟨by repeat (first | (with_reducible first | exact HB.out | apply below_alloc | apply pw_below_drewN | apply below_drew1) | exact HB.out)⟩⟩
  case rest =>
    clear HC3
    try clear c1
    try clear p2
    try clear c5
    obtain ⟨kq, x5_2, rfl, HA, HJ2, HB⟩ := hcut
    cases kq with
    | zero => exact absurd HA.out (by simp [mode_Join.j0])
    | succ kj2 =>
      have H := HA.out
      clear HA
      simp only [mode_Join.j0] at H
      by_cases c7 : x5_2 = true
      · subst c7
        have H1 : (some 5) = some r := by rw [if_pos rfl] at H; exact H
        clear H
        have H := H1
        clear H1
        obtain rfl := Option.some.inj H
        go_wp2
        go_ret
        exact ⟨by first | rfl | (simp [errW_none, errW_some] <;> rfl) | (simp [*, errW_none, errW_some] <;> rfl), by repeat (first | (with_reducible first | exact HB.out | apply below_alloc | apply pw_below_drewN | apply below_drew1) | exact HB.out)⟩
      · replace c7 := Bool.eq_false_iff.mpr c7
        subst c7
        have H1 : ((mode_Covers.f a0 a1).bind fun t120 => (if t120 = true then (some a0) else ((mode_Covers.f a1 a0).bind fun t121 => (if t121 = true then (some a1) else (some 4))))) = some r := by rw [if_neg (show ¬ (false = true) by decide)] at H; exact H
        clear H
        have H := H1
        clear H1
        replace H := Option.bind_eq_some_iff.mp H
        obtain ⟨t120, A80, H⟩ := H
        replace H : (if t120 = true then (some a0) else ((mode_Covers.f a1 a0).bind fun t121 => (if t121 = true then (some a1) else (some 4)))) = some r := H
        have A8 := Aside0.mk A80
        clear A80
        by_cases c9 : t120 = true
        · subst c9
          have H1 : (some a0) = some r := by rw [if_pos rfl] at H; exact H
          clear H
          have H := H1
          clear H1
          obtain rfl := Option.some.inj H
          go_wp2_with (first | ((with_reducible refine gate_callee (f := 8) rfl ?_); refine goesL_ (some 17) rfl rfl Try.func8 (by kernel_rfl) rfl #[.int .i64 a0, .int .i64 a1] rfl (by (try simp only [List.map_toArray, List.map_cons, List.map_nil]); first | done | rfl | (simp only [List.length_drop, List.length_take]; rfl)) ?_; (with_reducible refine (mode_Covers.calls a0 a1 true _ A8.out).mono ?_); rintro e w10 ⟨rfl, hb⟩; refine ⟨_, rfl, ?_⟩; have n0_ := Aside0.mk (below_step (by repeat (first | (with_reducible first | exact HB.out | apply below_alloc | apply pw_below_drewN | apply below_drew1) | exact HB.out)) hb); clear HB; have HB := n0_; clear n0_; (try clear hb); (try clear hb2); (try clear hk); (try clear hi)))
          go_ret
          exact ⟨by first | rfl | (simp [errW_none, errW_some] <;> rfl) | (simp [*, errW_none, errW_some] <;> rfl), by repeat (first | (with_reducible first | exact HB.out | apply below_alloc | apply pw_below_drewN | apply below_drew1) | exact HB.out)⟩
        · replace c9 := Bool.eq_false_iff.mpr c9
          subst c9
          have H1 : ((mode_Covers.f a1 a0).bind fun t121 => (if t121 = true then (some a1) else (some 4))) = some r := by rw [if_neg (show ¬ (false = true) by decide)] at H; exact H
          clear H
          have H := H1
          clear H1
          replace H := Option.bind_eq_some_iff.mp H
          obtain ⟨t121, A110, H⟩ := H
          replace H : (if t121 = true then (some a1) else (some 4)) = some r := H
          have A11 := Aside0.mk A110
          clear A110
          by_cases c12 : t121 = true
          · subst c12
            have H1 : (some a1) = some r := by rw [if_pos rfl] at H; exact H
            clear H
            have H := H1
            clear H1
            obtain rfl := Option.some.inj H
            go_wp2_with (first | ((with_reducible refine gate_callee (f := 8) rfl ?_); refine goesL_ (some 17) rfl rfl Try.func8 (by kernel_rfl) rfl #[.int .i64 a0, .int .i64 a1] rfl (by (try simp only [List.map_toArray, List.map_cons, List.map_nil]); first | done | rfl | (simp only [List.length_drop, List.length_take]; rfl)) ?_; (with_reducible refine (mode_Covers.calls a0 a1 false _ A8.out).mono ?_); rintro e w13 ⟨rfl, hb⟩; refine ⟨_, rfl, ?_⟩; have n0_ := Aside0.mk (below_step (by repeat (first | (with_reducible first | exact HB.out | apply below_alloc | apply pw_below_drewN | apply below_drew1) | exact HB.out)) hb); clear HB; have HB := n0_; clear n0_; (try clear hb); (try clear hb2); (try clear hk); (try clear hi)) | ((with_reducible refine gate_callee (f := 8) rfl ?_); refine goesL_ (some 22) rfl rfl Try.func8 (by kernel_rfl) rfl #[.int .i64 a1, .int .i64 a0] rfl (by (try simp only [List.map_toArray, List.map_cons, List.map_nil]); first | done | rfl | (simp only [List.length_drop, List.length_take]; rfl)) ?_; (with_reducible refine (mode_Covers.calls a1 a0 true _ A11.out).mono ?_); rintro e w14 ⟨rfl, hb⟩; refine ⟨_, rfl, ?_⟩; have n0_ := Aside0.mk (below_step (by repeat (first | (with_reducible first | exact HB.out | apply below_alloc | apply pw_below_drewN | apply below_drew1) | exact HB.out)) hb); clear HB; have HB := n0_; clear n0_; (try clear hb); (try clear hb2); (try clear hk); (try clear hi)))
            go_ret
            exact ⟨by first | rfl | (simp [errW_none, errW_some] <;> rfl) | (simp [*, errW_none, errW_some] <;> rfl), by repeat (first | (with_reducible first | exact HB.out | apply below_alloc | apply pw_below_drewN | apply below_drew1) | exact HB.out)⟩
          · replace c12 := Bool.eq_false_iff.mpr c12
            subst c12
            have H1 : (some 4) = some r := by rw [if_neg (show ¬ (false = true) by decide)] at H; exact H
            clear H
            have H := H1
            clear H1
            obtain rfl := Option.some.inj H
            go_wp2_with (first | ((with_reducible refine gate_callee (f := 8) rfl ?_); refine goesL_ (some 17) rfl rfl Try.func8 (by kernel_rfl) rfl #[.int .i64 a0, .int .i64 a1] rfl (by (try simp only [List.map_toArray, List.map_cons, List.map_nil]); first | done | rfl | (simp only [List.length_drop, List.length_take]; rfl)) ?_; (with_reducible refine (mode_Covers.calls a0 a1 false _ A8.out).mono ?_); rintro e w15 ⟨rfl, hb⟩; refine ⟨_, rfl, ?_⟩; have n0_ := Aside0.mk (below_step (by repeat (first | (with_reducible first | exact HB.out | apply below_alloc | apply pw_below_drewN | apply below_drew1) | exact HB.out)) hb); clear HB; have HB := n0_; clear n0_; (try clear hb); (try clear hb2); (try clear hk); (try clear hi)) | ((with_reducible refine gate_callee (f := 8) rfl ?_); refine goesL_ (some 22) rfl rfl Try.func8 (by kernel_rfl) rfl #[.int .i64 a1, .int .i64 a0] rfl (by (try simp only [List.map_toArray, List.map_cons, List.map_nil]); first | done | rfl | (simp only [List.length_drop, List.length_take]; rfl)) ?_; (with_reducible refine (mode_Covers.calls a1 a0 false _ A11.out).mono ?_); rintro e w16 ⟨rfl, hb⟩; refine ⟨_, rfl, ?_⟩; have n0_ := Aside0.mk (below_step (by repeat (first | (with_reducible first | exact HB.out | apply below_alloc | apply pw_below_drewN | apply below_drew1) | exact HB.out)) hb); clear HB; have HB := n0_; clear n0_; (try clear hb); (try clear hb2); (try clear hk); (try clear hi)))
            go_ret
            exact ⟨by first | rfl | (simp [errW_none, errW_some] <;> rfl) | (simp [*, errW_none, errW_some] <;> rfl), by repeat (first | (with_reducible first | exact HB.out | apply below_alloc | apply pw_below_drewN | apply below_drew1) | exact HB.out)⟩

end Go.Proofs.Ytmeoaonoofeogaa.PAll
