/- The functions that the laws of this seat reach, as plain functions with proofs that the calls answer just so (written by a program of this session on the kit's print). -/
import Derived.Test.YtmeoaonoofeogaaPAllx0
namespace Go.Proofs.Ytmeoaonoofeogaa.PAll
open Go.RowKit Go.Proofs.YtmeoaonoofeogaaW.PrintWords Go.Proofs.YtmeoaonoofeogaaW.PrintLast Go.Proofs.YtmeoaonoofeogaaW.PrintMore
attribute [local go_sem] max2_int min2_int max_two min_two max_three min_three max_four min_four   -- for this text's walks alone
set_option linter.unusedVariables false
set_option linter.unusedSimpArgs false

/-! ### mode_Right: function 5 -/
def mode_Right.f (a0 : Int) : Option (Bool) := if a0 ≥ 0 then (some (decide (a0 ≤ 5))) else (some false)
set_option maxHeartbeats 8000000 in
set_option maxRecDepth 100000 in
theorem mode_Right.calls (a0 : Int) (r : Bool) (w : World) (h : mode_Right.f a0 = some r) :
    Calls Try.prog 5 #[.int .i64 a0] w fun e w' => e = .returned (.bool r) ∧ Drawn0 w w' := by
  have H : (if a0 ≥ 0 then (some (decide (a0 ≤ 5))) else (some false)) = some r := h
  clear h
  by_cases c2 : a0 ≥ 0
  · rw [if_pos c2] at H
    have c2b0 : decide (0 ≤ a0) = true := decide_eq_true c2
    clear c2
    obtain rfl := Option.some.inj H
    go_enter Try.func5, Try.ntmps5
    go_wp2
    go_ret
    exact ⟨by first | rfl | (simp; done) | (simp [*]; done), by repeat (first | exact Drawn0.refl _ | apply Drawn0.step)⟩
  · rw [if_neg c2] at H
    have c2b0 : decide (0 ≤ a0) = false := decide_eq_false c2
    clear c2
    obtain rfl := Option.some.inj H
    go_enter Try.func5, Try.ntmps5
    go_wp2
    go_ret
    exact ⟨by first | rfl | (simp; done) | (simp [*]; done), by repeat (first | exact Drawn0.refl _ | apply Drawn0.step)⟩

-- NOT PRINTED: function 16 (mode_together)

/-! ### mode_Together: function 6 -/
-- GIVEN rounds=0 making=1
def mode_Together.t (a : Int) : Int := if a = 0 then 63 else if a = 1 then 31 else if a = 2 then 7 else if a = 3 then 11 else if a = 4 then 3 else 1
def mode_Together.in6 (a : Int) : Bool := decide (0 ≤ a ∧ a ≤ 5)
def mode_Together.b (a0 a1 : Int) : Bool := mode_Together.in6 a0 && mode_Together.in6 a1 && decide (mode_Together.t a0 / 2 ^ a1.toNat % 2 = 1)
def mode_Together.f (a0 : Int) (a1 : Int) : Option (Bool) := some (mode_Together.b a0 a1)
theorem mode_Together.six {a : Int} (h : mode_Together.in6 a = true) : a = 0 ∨ a = 1 ∨ a = 2 ∨ a = 3 ∨ a = 4 ∨ a = 5 := by simp [mode_Together.in6] at h; omega
theorem mode_Together.right (a : Int) (w : World) : Calls Try.prog 5 #[.int .i64 a] w fun e w' => e = .returned (.bool (mode_Together.in6 a)) ∧ Drawn0 w w' :=
  mode_Right.calls a _ w (by unfold mode_Right.f mode_Together.in6; by_cases h : 0 ≤ a <;> simp [h])
theorem mode_Together.tab (w : World) : Calls Try.prog 16 #[] w fun e w' => e = .returned (.agg #[.int .u8 63, .int .u8 31, .int .u8 7, .int .u8 11, .int .u8 3, .int .u8 1]) ∧ Below w.heap.size w w' := by
  go_enter Try.func16, Try.ntmps16
  go_wp2
  exact bodyPost_ret (v := .agg #[.int .u8 63, .int .u8 31, .int .u8 7, .int .u8 11, .int .u8 3, .int .u8 1]) (by simp [results, Try.results16, go_sem]) rfl ⟨rfl, by repeat (first | exact Below.refl _ _ | apply below_alloc)⟩
theorem mode_Together.i0 (w : World) : (Instr.index 29 (.agg #[.int .u8 63, .int .u8 31, .int .u8 7, .int .u8 11, .int .u8 3, .int .u8 1]) (.int .i64 0)).run Try.prog w = .ok (.int .u8 63) w := by kernel_rfl
theorem mode_Together.i1 (w : World) : (Instr.index 29 (.agg #[.int .u8 63, .int .u8 31, .int .u8 7, .int .u8 11, .int .u8 3, .int .u8 1]) (.int .i64 1)).run Try.prog w = .ok (.int .u8 31) w := by kernel_rfl
theorem mode_Together.i2 (w : World) : (Instr.index 29 (.agg #[.int .u8 63, .int .u8 31, .int .u8 7, .int .u8 11, .int .u8 3, .int .u8 1]) (.int .i64 2)).run Try.prog w = .ok (.int .u8 7) w := by kernel_rfl
theorem mode_Together.i3 (w : World) : (Instr.index 29 (.agg #[.int .u8 63, .int .u8 31, .int .u8 7, .int .u8 11, .int .u8 3, .int .u8 1]) (.int .i64 3)).run Try.prog w = .ok (.int .u8 11) w := by kernel_rfl
theorem mode_Together.i4 (w : World) : (Instr.index 29 (.agg #[.int .u8 63, .int .u8 31, .int .u8 7, .int .u8 11, .int .u8 3, .int .u8 1]) (.int .i64 4)).run Try.prog w = .ok (.int .u8 3) w := by kernel_rfl
theorem mode_Together.i5 (w : World) : (Instr.index 29 (.agg #[.int .u8 63, .int .u8 31, .int .u8 7, .int .u8 11, .int .u8 3, .int .u8 1]) (.int .i64 5)).run Try.prog w = .ok (.int .u8 1) w := by kernel_rfl
theorem mode_Together.ret_bool {a b : Bool} (h : a = b) : Ending.returned (.bool a) = .returned (.bool b) := by rw [h]
theorem mode_Together.bel {w w1 : World} {n : Nat} (h : Below (w.drewN n).heap.size (w.drewN n) w1) : Below w.heap.size w w1 :=
  (Drawn0.below ⟨⟨n, rfl⟩⟩).trans (h.mono (by simp))
set_option maxHeartbeats 8000000 in
theorem mode_Together.calls (a0 : Int) (a1 : Int) (r : Bool) (w : World) (h : mode_Together.f a0 a1 = some r) :
    Calls Try.prog 6 #[.int .i64 a0, .int .i64 a1] w fun e w' => e = .returned (.bool r) ∧ Below w.heap.size w w' := by
  obtain rfl := Option.some.inj h
  clear h
  by_cases ha : mode_Together.in6 a0 = true
  · by_cases hb : mode_Together.in6 a1 = true
    · have i0 := mode_Together.i0
      have i1 := mode_Together.i1
      have i2 := mode_Together.i2
      have i3 := mode_Together.i3
      have i4 := mode_Together.i4
      have i5 := mode_Together.i5
      rcases mode_Together.six ha with rfl | rfl | rfl | rfl | rfl | rfl <;> rcases mode_Together.six hb with rfl | rfl | rfl | rfl | rfl | rfl
      all_goals
        go_enter Try.func6, Try.ntmps6
        go_wp2_with (first | (go_at_call 5; (with_reducible refine (mode_Together.right _ _).mono ?_); rintro e w1 ⟨rfl, ⟨⟨n1, rfl⟩⟩⟩; first | rw [ha] | rw [hb]) | (go_at_call 16; (with_reducible refine (mode_Together.tab _).mono ?_); rintro e w1 ⟨rfl, hbe⟩))
        go_ret
        exact ⟨mode_Together.ret_bool (by kernel_rfl), by first | exact mode_Together.bel hbe⟩
    · simp only [Bool.not_eq_true] at hb
      have he : mode_Together.b a0 a1 = false := by simp [mode_Together.b, hb]
      rw [he]
      clear he
      go_enter Try.func6, Try.ntmps6
      go_wp2_with (first | (go_at_call 5; (with_reducible refine (mode_Together.right a0 _).mono ?_); rintro e w1 ⟨rfl, ⟨⟨n1, rfl⟩⟩⟩; rw [ha]) | (go_at_call 5; (with_reducible refine (mode_Together.right a1 _).mono ?_); rintro e w1 ⟨rfl, ⟨⟨n1, rfl⟩⟩⟩; rw [hb]))
      go_ret
      exact ⟨rfl, Drawn0.below (by repeat (first | exact Drawn0.refl _ | apply Drawn0.step))⟩
  · simp only [Bool.not_eq_true] at ha
    have he : mode_Together.b a0 a1 = false := by simp [mode_Together.b, ha]
    rw [he]
    clear he
    go_enter Try.func6, Try.ntmps6
    go_wp2_with (first | (go_at_call 5; (with_reducible refine (mode_Together.right a0 _).mono ?_); rintro e w1 ⟨rfl, ⟨⟨n1, rfl⟩⟩⟩; rw [ha]))
    go_ret
    exact ⟨rfl, Drawn0.below (by repeat (first | exact Drawn0.refl _ | apply Drawn0.step))⟩

/-! ### counterpaneref10_right: function 17 -/
def counterpaneref10_right.f (a0 : Int) : Option (Bool) := if a0 ≥ 0 then (some (decide (a0 ≤ 5))) else (some false)
set_option maxHeartbeats 8000000 in
set_option maxRecDepth 100000 in
theorem counterpaneref10_right.calls (a0 : Int) (r : Bool) (w : World) (h : counterpaneref10_right.f a0 = some r) :
    Calls Try.prog 17 #[.int .i64 a0] w fun e w' => e = .returned (.bool r) ∧ Drawn0 w w' := by
  have H : (if a0 ≥ 0 then (some (decide (a0 ≤ 5))) else (some false)) = some r := h
  clear h
  by_cases c2 : a0 ≥ 0
  · rw [if_pos c2] at H
    have c2b0 : decide (0 ≤ a0) = true := decide_eq_true c2
    clear c2
    obtain rfl := Option.some.inj H
    go_enter Try.func17, Try.ntmps17
    go_wp2
    go_ret
    exact ⟨by first | rfl | (simp; done) | (simp [*]; done), by repeat (first | exact Drawn0.refl _ | apply Drawn0.step)⟩
  · rw [if_neg c2] at H
    have c2b0 : decide (0 ≤ a0) = false := decide_eq_false c2
    clear c2
    obtain rfl := Option.some.inj H
    go_enter Try.func17, Try.ntmps17
    go_wp2
    go_ret
    exact ⟨by first | rfl | (simp; done) | (simp [*]; done), by repeat (first | exact Drawn0.refl _ | apply Drawn0.step)⟩

/-! ### counterpaneref10_writes: function 18 -/
def counterpaneref10_writes.f (a0 : Int) : Option (Int) := if a0 = 5 then (some 2) else (if a0 = 2 then (some 1) else (if a0 = 4 then (some 1) else (some 0)))
set_option maxHeartbeats 8000000 in
set_option maxRecDepth 100000 in
theorem counterpaneref10_writes.calls (a0 : Int) (r : Int) (w : World) (h : counterpaneref10_writes.f a0 = some r) :
    Calls Try.prog 18 #[.int .i64 a0] w fun e w' => e = .returned (.int .i64 r) ∧ Drawn0 w w' := by
  have H : (if a0 = 5 then (some 2) else (if a0 = 2 then (some 1) else (if a0 = 4 then (some 1) else (some 0)))) = some r := h
  clear h
  by_cases c2 : a0 = 5
  · rw [if_pos c2] at H
    have c2b0 : (a0 == 5) = true := beq_iff_eq.mpr c2
    have c2b1 : (a0 != 5) = false := bne_eq_false_iff_eq.mpr c2
    clear c2
    obtain rfl := Option.some.inj H
    go_enter Try.func18, Try.ntmps18
    go_wp2
    go_ret
    exact ⟨by first | rfl | (simp; done) | (simp [*]; done), by repeat (first | exact Drawn0.refl _ | apply Drawn0.step)⟩
  · rw [if_neg c2] at H
    have c2b0 : (a0 == 5) = false := beq_eq_false_iff_ne.mpr c2
    have c2b1 : (a0 != 5) = true := bne_iff_ne.mpr c2
    by_cases c3 : a0 = 2
    · rw [if_pos c3] at H
      have c3b0 : (a0 == 2) = true := beq_iff_eq.mpr c3
      have c3b1 : (a0 != 2) = false := bne_eq_false_iff_eq.mpr c3
      clear c3
      obtain rfl := Option.some.inj H
      go_enter Try.func18, Try.ntmps18
      go_wp2
      go_ret
      exact ⟨by first | rfl | (simp; done) | (simp [*]; done), by repeat (first | exact Drawn0.refl _ | apply Drawn0.step)⟩
    · rw [if_neg c3] at H
      have c3b0 : (a0 == 2) = false := beq_eq_false_iff_ne.mpr c3
      have c3b1 : (a0 != 2) = true := bne_iff_ne.mpr c3
      by_cases c4 : a0 = 4
      · rw [if_pos c4] at H
        have c4b0 : (a0 == 4) = true := beq_iff_eq.mpr c4
        have c4b1 : (a0 != 4) = false := bne_eq_false_iff_eq.mpr c4
        clear c4
        obtain rfl := Option.some.inj H
        go_enter Try.func18, Try.ntmps18
        go_wp2
        go_ret
        exact ⟨by first | rfl | (simp; done) | (simp [*]; done), by repeat (first | exact Drawn0.refl _ | apply Drawn0.step)⟩
      · rw [if_neg c4] at H
        have c4b0 : (a0 == 4) = false := beq_eq_false_iff_ne.mpr c4
        have c4b1 : (a0 != 4) = true := bne_iff_ne.mpr c4
        obtain rfl := Option.some.inj H
        go_enter Try.func18, Try.ntmps18
        go_wp2
        go_ret
        exact ⟨by first | rfl | (simp; done) | (simp [*]; done), by repeat (first | exact Drawn0.refl _ | apply Drawn0.step)⟩

/-! ### counterpaneref10_reads: function 19 -/
def counterpaneref10_reads.j0 : Nat → Int → Bool → Option (Int)
  | 0, _, _ => none
  | k + 1, x0, x12 => if x12 = true then (some 2) else (if x0 = 1 then (some 1) else (if x0 = 2 then (some 1) else (some 0)))
def counterpaneref10_reads.f (k : Nat) (a0 : Int) : Option (Int) := if a0 = 3 then (counterpaneref10_reads.j0 k a0 true) else (if a0 = 4 then (counterpaneref10_reads.j0 k a0 true) else (counterpaneref10_reads.j0 k a0 (a0 == 5)))
theorem counterpaneref10_reads.mono_l : ∀ k, (∀ y0 y1, LeO (counterpaneref10_reads.j0 k y0 y1) (counterpaneref10_reads.j0 (k + 1) y0 y1))
  | 0 => fun _ _ r h => by simp [counterpaneref10_reads.j0] at h
  | k + 1 => by
    have ih0 := counterpaneref10_reads.mono_l k
    · intro y0 y1
      unfold counterpaneref10_reads.j0
      repeat' first
      | (with_reducible exact ih0 _ _)
      | (with_reducible exact LeO.refl _)
      | (with_reducible exact LeO.none _)
      | (with_reducible refine LeO.ite ?_ ?_)
      | (with_reducible refine LeO.bind ?_ (fun _ => ?_))
      | exact ih0 _ _
      | exact LeO.none _
      | refine LeO.ite ?_ ?_
      | refine LeO.bind ?_ (fun _ => ?_)
theorem counterpaneref10_reads.mono : ∀ a0 k, LeO (counterpaneref10_reads.f k a0) (counterpaneref10_reads.f (k + 1) a0) := by
  intro a0 k
  have ih0 := counterpaneref10_reads.mono_l k
  unfold counterpaneref10_reads.f
  repeat' first
      | (with_reducible exact ih0 _ _)
      | (with_reducible exact LeO.refl _)
      | (with_reducible exact LeO.none _)
      | (with_reducible refine LeO.ite ?_ ?_)
      | (with_reducible refine LeO.bind ?_ (fun _ => ?_))
      | exact ih0 _ _
      | exact LeO.none _
      | refine LeO.ite ?_ ?_
      | refine LeO.bind ?_ (fun _ => ?_)
set_option maxHeartbeats 8000000 in
set_option maxRecDepth 100000 in
theorem counterpaneref10_reads.calls (k : Nat) (a0 : Int) (r : Int) (w : World) (h : counterpaneref10_reads.f k a0 = some r) :
    Calls Try.prog 19 #[.int .i64 a0] w fun e w' => e = .returned (.int .i64 r) ∧ Drawn0 w w' := by
  have H : (if a0 = 3 then (counterpaneref10_reads.j0 k a0 true) else (if a0 = 4 then (counterpaneref10_reads.j0 k a0 true) else (counterpaneref10_reads.j0 k a0 (a0 == 5)))) = some r := h
  clear h
  have HC2 := Aside0.mk H
  clear H
  go_enter Try.func19, Try.ntmps19
  go_upto_region 1 with (fail)
  go_cut [12] (fun v12 wc => ∃ (kq : Nat) (x12_1 : Bool), v12 = .bool x12_1 ∧ Aside0 (counterpaneref10_reads.j0 kq a0 x12_1 = some r) ∧ Aside0 (kq ≤ k) ∧ Drawn0 w wc)
  case first =>
    have H := HC2.out
    clear HC2
    by_cases c3 : a0 = 3
    · rw [if_pos c3] at H
      have c3b0 : (a0 == 3) = true := beq_iff_eq.mpr c3
      have c3b1 : (a0 != 3) = false := bne_eq_false_iff_eq.mpr c3
      clear c3
      (first | rw [c3b0] | (simp only [i64_w, i32_w]; rw [c3b0]) | skip)
      have H' := Aside0.mk H
      clear H
      go_wp2
      go_meet
      case rel => exact ⟨_, (true), (by first | rfl | (simp; done) | (simp [*]; done)), H', ⟨by first | omega | exact Nat.le_refl _⟩, by repeat (first | exact Drawn0.refl _ | apply Drawn0.step)⟩
    · rw [if_neg c3] at H
      have c3b0 : (a0 == 3) = false := beq_eq_false_iff_ne.mpr c3
      have c3b1 : (a0 != 3) = true := bne_iff_ne.mpr c3
      (first | rw [c3b0] | (simp only [i64_w, i32_w]; rw [c3b0]) | skip)
      by_cases c4 : a0 = 4
      · rw [if_pos c4] at H
        have c4b0 : (a0 == 4) = true := beq_iff_eq.mpr c4
        have c4b1 : (a0 != 4) = false := bne_eq_false_iff_eq.mpr c4
        clear c4
        have H' := Aside0.mk H
        clear H
        go_wp2
        go_meet
        case rel => exact ⟨_, (true), (by first | rfl | (simp; done) | (simp [*]; done)), H', ⟨by first | omega | exact Nat.le_refl _⟩, by repeat (first | exact Drawn0.refl _ | apply Drawn0.step)⟩
      · rw [if_neg c4] at H
        have c4b0 : (a0 == 4) = false := beq_eq_false_iff_ne.mpr c4
        have c4b1 : (a0 != 4) = true := bne_iff_ne.mpr c4
        have H' := Aside0.mk H
        clear H
        go_wp2
        go_meet
        case rel => exact ⟨_, ((a0 == 5)), (by first | rfl | (simp; done) | (simp [*]; done)), H', ⟨by first | omega | exact Nat.le_refl _⟩, by repeat (first | exact Drawn0.refl _ | apply Drawn0.step)⟩
  case rest =>
    clear HC2
    try clear c1
    try clear p2
    try clear c3
    try clear c3b0
    try clear c3b1
    try clear c4
    try clear c4b0
    try clear c4b1
    obtain ⟨kq, x12_1, rfl, HA, HJ1, ⟨mc1, rfl⟩⟩ := hcut
    cases kq with
    | zero => exact absurd HA.out (by simp [counterpaneref10_reads.j0])
    | succ kj1 =>
      have H := HA.out
      clear HA
      simp only [counterpaneref10_reads.j0] at H
      by_cases c5 : x12_1 = true
      · subst c5
        have H1 : (some 2) = some r := by rw [if_pos rfl] at H; exact H
        clear H
        have H := H1
        clear H1
        obtain rfl := Option.some.inj H
        go_wp2
        go_ret
        exact ⟨by first | rfl | (simp; done) | (simp [*]; done), by repeat (first | exact Drawn0.refl _ | apply Drawn0.step)⟩
      · replace c5 := Bool.eq_false_iff.mpr c5
        subst c5
        have H1 : (if a0 = 1 then (some 1) else (if a0 = 2 then (some 1) else (some 0))) = some r := by rw [if_neg (show ¬ (false = true) by decide)] at H; exact H
        clear H
        have H := H1
        clear H1
        by_cases c6 : a0 = 1
        · rw [if_pos c6] at H
          have c6b0 : (a0 == 1) = true := beq_iff_eq.mpr c6
          have c6b1 : (a0 != 1) = false := bne_eq_false_iff_eq.mpr c6
          clear c6
          obtain rfl := Option.some.inj H
          go_wp2
          go_ret
          exact ⟨by first | rfl | (simp; done) | (simp [*]; done), by repeat (first | exact Drawn0.refl _ | apply Drawn0.step)⟩
        · rw [if_neg c6] at H
          have c6b0 : (a0 == 1) = false := beq_eq_false_iff_ne.mpr c6
          have c6b1 : (a0 != 1) = true := bne_iff_ne.mpr c6
          by_cases c7 : a0 = 2
          · rw [if_pos c7] at H
            have c7b0 : (a0 == 2) = true := beq_iff_eq.mpr c7
            have c7b1 : (a0 != 2) = false := bne_eq_false_iff_eq.mpr c7
            clear c7
            obtain rfl := Option.some.inj H
            go_wp2
            go_ret
            exact ⟨by first | rfl | (simp; done) | (simp [*]; done), by repeat (first | exact Drawn0.refl _ | apply Drawn0.step)⟩
          · rw [if_neg c7] at H
            have c7b0 : (a0 == 2) = false := beq_eq_false_iff_ne.mpr c7
            have c7b1 : (a0 != 2) = true := bne_iff_ne.mpr c7
            obtain rfl := Option.some.inj H
            go_wp2
            go_ret
            exact ⟨by first | rfl | (simp; done) | (simp [*]; done), by repeat (first | exact Drawn0.refl _ | apply Drawn0.step)⟩

end Go.Proofs.Ytmeoaonoofeogaa.PAll
