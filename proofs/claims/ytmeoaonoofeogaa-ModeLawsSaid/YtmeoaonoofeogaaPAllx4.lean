/- The functions that the laws of this seat reach, as plain functions with proofs that the calls answer just so (written by a program of this session on the kit's print). -/
import Derived.Test.YtmeoaonoofeogaaPAllx0
import Derived.Test.YtmeoaonoofeogaaPAllx1
import Derived.Test.YtmeoaonoofeogaaPAllx3
namespace Go.Proofs.Ytmeoaonoofeogaa.PAll
open Go.RowKit Go.Proofs.YtmeoaonoofeogaaW.PrintWords Go.Proofs.YtmeoaonoofeogaaW.PrintLast Go.Proofs.YtmeoaonoofeogaaW.PrintMore
attribute [local go_sem] max2_int min2_int max_two min_two max_three min_three max_four min_four   -- for this text's walks alone
set_option linter.unusedVariables false
set_option linter.unusedSimpArgs false

/-! ### counterpaneref10_Join: function 11 -/
def counterpaneref10_Join.l0 : Nat → Int → Int → Int → Option (Int)
  | 0, _, _, _ => none
  | k + 1, x0, x1, x5 => if x5 < 6 then ((counterpaneref10_Covers.f k x5 x0).bind fun t122 => (if t122 = true then ((counterpaneref10_Covers.f k x5 x1).bind fun t123 => (if t123 = true then (some x5) else (counterpaneref10_Join.l0 k x0 x1 (wrap64 (x5 + 1))))) else (counterpaneref10_Join.l0 k x0 x1 (wrap64 (x5 + 1))))) else (some 5)
def counterpaneref10_Join.f (k : Nat) (a0 : Int) (a1 : Int) : Option (Int) := counterpaneref10_Join.l0 k a0 a1 0
theorem counterpaneref10_Join.mono_l : ∀ k, (∀ y0 y1 y2, LeO (counterpaneref10_Join.l0 k y0 y1 y2) (counterpaneref10_Join.l0 (k + 1) y0 y1 y2))
  | 0 => fun _ _ _ r h => by simp [counterpaneref10_Join.l0] at h
  | k + 1 => by
    have ih0 := counterpaneref10_Join.mono_l k
    · intro y0 y1 y2
      unfold counterpaneref10_Join.l0
      repeat' first
      | (with_reducible exact ih0 _ _ _)
      | (with_reducible exact counterpaneref10_Covers.mono _ _ _)
      | (with_reducible exact LeO.refl _)
      | (with_reducible exact LeO.none _)
      | (with_reducible refine LeO.ite ?_ ?_)
      | (with_reducible refine LeO.bind ?_ (fun _ => ?_))
      | exact ih0 _ _ _
      | exact counterpaneref10_Covers.mono _ _ _
      | exact LeO.none _
      | refine LeO.ite ?_ ?_
      | refine LeO.bind ?_ (fun _ => ?_)
theorem counterpaneref10_Join.mono : ∀ a0 a1 k, LeO (counterpaneref10_Join.f k a0 a1) (counterpaneref10_Join.f (k + 1) a0 a1) := by
  intro a0 a1 k
  have ih0 := counterpaneref10_Join.mono_l k
  unfold counterpaneref10_Join.f
  repeat' first
      | (with_reducible exact ih0 _ _ _)
      | (with_reducible exact counterpaneref10_Covers.mono _ _ _)
      | (with_reducible exact LeO.refl _)
      | (with_reducible exact LeO.none _)
      | (with_reducible refine LeO.ite ?_ ?_)
      | (with_reducible refine LeO.bind ?_ (fun _ => ?_))
      | exact ih0 _ _ _
      | exact counterpaneref10_Covers.mono _ _ _
      | exact LeO.none _
      | refine LeO.ite ?_ ?_
      | refine LeO.bind ?_ (fun _ => ?_)
set_option maxHeartbeats 8000000 in
set_option maxRecDepth 100000 in
theorem counterpaneref10_Join.calls (k : Nat) (a0 : Int) (a1 : Int) (r : Int) (w : World) (h : counterpaneref10_Join.f k a0 a1 = some r) :
    Calls Try.prog 11 #[.int .i64 a0, .int .i64 a1] w fun e w' => e = .returned (.int .i64 r) ∧ Drawn0 w w' := by
  have H : (counterpaneref10_Join.l0 k a0 a1 0) = some r := h
  clear h
  have H' := Aside0.mk H
  clear H
  go_enter Try.func11, Try.ntmps11
  go_wp2
  go_loopg [5] k (fun kq v5 w' => ∃ (x5_1 : Int), v5 = .int .i64 x5_1 ∧ Aside0 (counterpaneref10_Join.l0 kq a0 a1 x5_1 = some r) ∧ Aside0 (kq ≤ k) ∧ Drawn0 w w')
  case atStart => exact ⟨(0), (by first | rfl | (simp; done) | (simp [*]; done)), H', ⟨Nat.le_refl _⟩, by repeat (first | exact Drawn0.refl _ | apply Drawn0.step)⟩
  case round =>
    clear H'
    try clear c1
    try clear p2
    obtain ⟨x5_1, rfl, HA, HK1, ⟨m1, rfl⟩⟩ := hrel
    cases gk with
    | zero => exact absurd HA.out (by simp [counterpaneref10_Join.l0])
    | succ k1 =>
      have H := HA.out
      clear HA
      simp only [counterpaneref10_Join.l0] at H
      by_cases c3 : x5_1 < 6
      · rw [if_pos c3] at H
        have c3b0 : decide (x5_1 < 6) = true := decide_eq_true c3
        clear c3
        replace H := Option.bind_eq_some_iff.mp H
        obtain ⟨t122, A40, H⟩ := H
        replace H : (if t122 = true then ((counterpaneref10_Covers.f k1 x5_1 a1).bind fun t123 => (if t123 = true then (some x5_1) else (counterpaneref10_Join.l0 k1 a0 a1 (wrap64 (x5_1 + 1))))) else (counterpaneref10_Join.l0 k1 a0 a1 (wrap64 (x5_1 + 1)))) = some r := H
        have A4 := Aside0.mk A40
        clear A40
        by_cases c5 : t122 = true
        · subst c5
          have H1 : ((counterpaneref10_Covers.f k1 x5_1 a1).bind fun t123 => (if t123 = true then (some x5_1) else (counterpaneref10_Join.l0 k1 a0 a1 (wrap64 (x5_1 + 1))))) = some r := by rw [if_pos rfl] at H; exact H
          clear H
          have H := H1
          clear H1
          replace H := Option.bind_eq_some_iff.mp H
          obtain ⟨t123, A60, H⟩ := H
          replace H : (if t123 = true then (some x5_1) else (counterpaneref10_Join.l0 k1 a0 a1 (wrap64 (x5_1 + 1)))) = some r := H
          have A6 := Aside0.mk A60
          clear A60
          by_cases c7 : t123 = true
          · subst c7
            have H1 : (some x5_1) = some r := by rw [if_pos rfl] at H; exact H
            clear H
            have H := H1
            clear H1
            obtain rfl := Option.some.inj H
            go_wp2_with (first | ((with_reducible refine gate_callee (f := 9) rfl ?_); refine goesL_ (some 12) rfl rfl Try.func9 (by kernel_rfl) rfl #[.int .i64 x5_1, .int .i64 a0] rfl (by (try simp only [List.map_toArray, List.map_cons, List.map_nil]); first | done | rfl | (simp only [List.length_drop, List.length_take]; rfl)) ?_; (with_reducible refine (counterpaneref10_Covers.calls k1 x5_1 a0 true _ A4.out).mono ?_); rintro e w' ⟨rfl, ⟨nd, rfl⟩⟩; refine ⟨_, rfl, ?_⟩) | (go_at_call 9; (with_reducible refine (counterpaneref10_Covers.calls k1 x5_1 a1 true _ A6.out).mono ?_); rintro e w' ⟨rfl, ⟨nd, rfl⟩⟩))
            go_ret
            exact ⟨by first | rfl | (simp; done) | (simp [*]; done), by repeat (first | exact Drawn0.refl _ | apply Drawn0.step)⟩
          · replace c7 := Bool.eq_false_iff.mpr c7
            subst c7
            have H1 : (counterpaneref10_Join.l0 k1 a0 a1 (wrap64 (x5_1 + 1))) = some r := by rw [if_neg (show ¬ (false = true) by decide)] at H; exact H
            clear H
            have H := H1
            clear H1
            have H' := Aside0.mk H
            clear H
            go_wp2_with (first | ((with_reducible refine gate_callee (f := 9) rfl ?_); refine goesL_ (some 12) rfl rfl Try.func9 (by kernel_rfl) rfl #[.int .i64 x5_1, .int .i64 a0] rfl (by (try simp only [List.map_toArray, List.map_cons, List.map_nil]); first | done | rfl | (simp only [List.length_drop, List.length_take]; rfl)) ?_; (with_reducible refine (counterpaneref10_Covers.calls k1 x5_1 a0 true _ A4.out).mono ?_); rintro e w' ⟨rfl, ⟨nd, rfl⟩⟩; refine ⟨_, rfl, ?_⟩) | (go_at_call 9; (with_reducible refine (counterpaneref10_Covers.calls k1 x5_1 a1 false _ A6.out).mono ?_); rintro e w' ⟨rfl, ⟨nd, rfl⟩⟩))
            go_roundg k1
            case measure => have := HK1.out; omega
            case rel => exact ⟨(wrap64 (x5_1 + 1)), (by first | rfl | (simp; done) | (simp [*]; done)), H', ⟨by have := HK1.out; omega⟩, by repeat (first | exact Drawn0.refl _ | apply Drawn0.step)⟩
        · replace c5 := Bool.eq_false_iff.mpr c5
          subst c5
          have H1 : (counterpaneref10_Join.l0 k1 a0 a1 (wrap64 (x5_1 + 1))) = some r := by rw [if_neg (show ¬ (false = true) by decide)] at H; exact H
          clear H
          have H := H1
          clear H1
          have H' := Aside0.mk H
          clear H
          go_wp2_with (first | ((with_reducible refine gate_callee (f := 9) rfl ?_); refine goesL_ (some 12) rfl rfl Try.func9 (by kernel_rfl) rfl #[.int .i64 x5_1, .int .i64 a0] rfl (by (try simp only [List.map_toArray, List.map_cons, List.map_nil]); first | done | rfl | (simp only [List.length_drop, List.length_take]; rfl)) ?_; (with_reducible refine (counterpaneref10_Covers.calls k1 x5_1 a0 false _ A4.out).mono ?_); rintro e w' ⟨rfl, ⟨nd, rfl⟩⟩; refine ⟨_, rfl, ?_⟩))
          go_roundg k1
          case measure => have := HK1.out; omega
          case rel => exact ⟨(wrap64 (x5_1 + 1)), (by first | rfl | (simp; done) | (simp [*]; done)), H', ⟨by have := HK1.out; omega⟩, by repeat (first | exact Drawn0.refl _ | apply Drawn0.step)⟩
      · rw [if_neg c3] at H
        have c3b0 : decide (x5_1 < 6) = false := decide_eq_false c3
        clear c3
        obtain rfl := Option.some.inj H
        go_wp2
        go_ret
        exact ⟨by first | rfl | (simp; done) | (simp [*]; done), by repeat (first | exact Drawn0.refl _ | apply Drawn0.step)⟩

/-! ### mode_Above: function 12 -/
def mode_Above.f (a0 : Int) : Option (Int) := if a0 = 0 then (some 0) else (if a0 = 1 then (some 1) else (if a0 = 3 then (some 1) else (some 2)))
set_option maxHeartbeats 8000000 in
set_option maxRecDepth 100000 in
theorem mode_Above.calls (a0 : Int) (r : Int) (w : World) (h : mode_Above.f a0 = some r) :
    Calls Try.prog 12 #[.int .i64 a0] w fun e w' => e = .returned (.int .i64 r) ∧ Drawn0 w w' := by
  have H : (if a0 = 0 then (some 0) else (if a0 = 1 then (some 1) else (if a0 = 3 then (some 1) else (some 2)))) = some r := h
  clear h
  by_cases c2 : a0 = 0
  · rw [if_pos c2] at H
    have c2b0 : (a0 == 0) = true := beq_iff_eq.mpr c2
    have c2b1 : (a0 != 0) = false := bne_eq_false_iff_eq.mpr c2
    clear c2
    obtain rfl := Option.some.inj H
    go_enter Try.func12, Try.ntmps12
    go_wp2
    go_ret
    exact ⟨by first | rfl | (simp; done) | (simp [*]; done), by repeat (first | exact Drawn0.refl _ | apply Drawn0.step)⟩
  · rw [if_neg c2] at H
    have c2b0 : (a0 == 0) = false := beq_eq_false_iff_ne.mpr c2
    have c2b1 : (a0 != 0) = true := bne_iff_ne.mpr c2
    by_cases c3 : a0 = 1
    · rw [if_pos c3] at H
      have c3b0 : (a0 == 1) = true := beq_iff_eq.mpr c3
      have c3b1 : (a0 != 1) = false := bne_eq_false_iff_eq.mpr c3
      clear c3
      obtain rfl := Option.some.inj H
      go_enter Try.func12, Try.ntmps12
      go_wp2
      go_ret
      exact ⟨by first | rfl | (simp; done) | (simp [*]; done), by repeat (first | exact Drawn0.refl _ | apply Drawn0.step)⟩
    · rw [if_neg c3] at H
      have c3b0 : (a0 == 1) = false := beq_eq_false_iff_ne.mpr c3
      have c3b1 : (a0 != 1) = true := bne_iff_ne.mpr c3
      by_cases c4 : a0 = 3
      · rw [if_pos c4] at H
        have c4b0 : (a0 == 3) = true := beq_iff_eq.mpr c4
        have c4b1 : (a0 != 3) = false := bne_eq_false_iff_eq.mpr c4
        clear c4
        obtain rfl := Option.some.inj H
        go_enter Try.func12, Try.ntmps12
        go_wp2
        go_ret
        exact ⟨by first | rfl | (simp; done) | (simp [*]; done), by repeat (first | exact Drawn0.refl _ | apply Drawn0.step)⟩
      · rw [if_neg c4] at H
        have c4b0 : (a0 == 3) = false := beq_eq_false_iff_ne.mpr c4
        have c4b1 : (a0 != 3) = true := bne_iff_ne.mpr c4
        obtain rfl := Option.some.inj H
        go_enter Try.func12, Try.ntmps12
        go_wp2
        go_ret
        exact ⟨by first | rfl | (simp; done) | (simp [*]; done), by repeat (first | exact Drawn0.refl _ | apply Drawn0.step)⟩

/-! ### counterpaneref10_Above: function 13 -/
def counterpaneref10_Above.f (a0 : Int) : Option (Int) := if a0 = 0 then (some 0) else (if a0 = 1 then (some 1) else (if a0 = 3 then (some 1) else (some 2)))
set_option maxHeartbeats 8000000 in
set_option maxRecDepth 100000 in
theorem counterpaneref10_Above.calls (a0 : Int) (r : Int) (w : World) (h : counterpaneref10_Above.f a0 = some r) :
    Calls Try.prog 13 #[.int .i64 a0] w fun e w' => e = .returned (.int .i64 r) ∧ Drawn0 w w' := by
  have H : (if a0 = 0 then (some 0) else (if a0 = 1 then (some 1) else (if a0 = 3 then (some 1) else (some 2)))) = some r := h
  clear h
  by_cases c2 : a0 = 0
  · rw [if_pos c2] at H
    have c2b0 : (a0 == 0) = true := beq_iff_eq.mpr c2
    have c2b1 : (a0 != 0) = false := bne_eq_false_iff_eq.mpr c2
    clear c2
    obtain rfl := Option.some.inj H
    go_enter Try.func13, Try.ntmps13
    go_wp2
    go_ret
    exact ⟨by first | rfl | (simp; done) | (simp [*]; done), by repeat (first | exact Drawn0.refl _ | apply Drawn0.step)⟩
  · rw [if_neg c2] at H
    have c2b0 : (a0 == 0) = false := beq_eq_false_iff_ne.mpr c2
    have c2b1 : (a0 != 0) = true := bne_iff_ne.mpr c2
    by_cases c3 : a0 = 1
    · rw [if_pos c3] at H
      have c3b0 : (a0 == 1) = true := beq_iff_eq.mpr c3
      have c3b1 : (a0 != 1) = false := bne_eq_false_iff_eq.mpr c3
      clear c3
      obtain rfl := Option.some.inj H
      go_enter Try.func13, Try.ntmps13
      go_wp2
      go_ret
      exact ⟨by first | rfl | (simp; done) | (simp [*]; done), by repeat (first | exact Drawn0.refl _ | apply Drawn0.step)⟩
    · rw [if_neg c3] at H
      have c3b0 : (a0 == 1) = false := beq_eq_false_iff_ne.mpr c3
      have c3b1 : (a0 != 1) = true := bne_iff_ne.mpr c3
      by_cases c4 : a0 = 3
      · rw [if_pos c4] at H
        have c4b0 : (a0 == 3) = true := beq_iff_eq.mpr c4
        have c4b1 : (a0 != 3) = false := bne_eq_false_iff_eq.mpr c4
        clear c4
        obtain rfl := Option.some.inj H
        go_enter Try.func13, Try.ntmps13
        go_wp2
        go_ret
        exact ⟨by first | rfl | (simp; done) | (simp [*]; done), by repeat (first | exact Drawn0.refl _ | apply Drawn0.step)⟩
      · rw [if_neg c4] at H
        have c4b0 : (a0 == 3) = false := beq_eq_false_iff_ne.mpr c4
        have c4b1 : (a0 != 3) = true := bne_iff_ne.mpr c4
        obtain rfl := Option.some.inj H
        go_enter Try.func13, Try.ntmps13
        go_wp2
        go_ret
        exact ⟨by first | rfl | (simp; done) | (simp [*]; done), by repeat (first | exact Drawn0.refl _ | apply Drawn0.step)⟩

/-! ### mode_Name: function 14 -/
-- GIVEN rounds=0 making=1
def mode_Name.in6 (a : Int) : Bool := decide (0 ≤ a ∧ a ≤ 5)
def mode_Name.s (a : Int) : ByteArray := if mode_Name.in6 a = true then (if a = 0 then (⟨#[110, 111, 110, 101]⟩ : ByteArray) else if a = 1 then (⟨#[105, 115]⟩ : ByteArray) else if a = 2 then (⟨#[105, 120]⟩ : ByteArray) else if a = 3 then (⟨#[115]⟩ : ByteArray) else if a = 4 then (⟨#[115, 105, 120]⟩ : ByteArray) else (⟨#[120]⟩ : ByteArray)) else (⟨#[]⟩ : ByteArray)
def mode_Name.f (a0 : Int) : Option (ByteArray) := some (mode_Name.s a0)
theorem mode_Name.six {a : Int} (h : mode_Name.in6 a = true) : a = 0 ∨ a = 1 ∨ a = 2 ∨ a = 3 ∨ a = 4 ∨ a = 5 := by simp [mode_Name.in6] at h; omega
theorem mode_Name.right (a : Int) (w : World) : Calls Try.prog 5 #[.int .i64 a] w fun e w' => e = .returned (.bool (mode_Name.in6 a)) ∧ Drawn0 w w' :=
  mode_Right.calls a _ w (by unfold mode_Right.f mode_Name.in6; by_cases h : 0 ≤ a <;> simp [h])
theorem mode_Name.i0 (w : World) : (Instr.index 31 (.agg #[.string (⟨#[110, 111, 110, 101]⟩ : ByteArray), .string (⟨#[105, 115]⟩ : ByteArray), .string (⟨#[105, 120]⟩ : ByteArray), .string (⟨#[115]⟩ : ByteArray), .string (⟨#[115, 105, 120]⟩ : ByteArray), .string (⟨#[120]⟩ : ByteArray)]) (.int .i64 0)).run Try.prog w = .ok (.string (⟨#[110, 111, 110, 101]⟩ : ByteArray)) w := by kernel_rfl
theorem mode_Name.i1 (w : World) : (Instr.index 31 (.agg #[.string (⟨#[110, 111, 110, 101]⟩ : ByteArray), .string (⟨#[105, 115]⟩ : ByteArray), .string (⟨#[105, 120]⟩ : ByteArray), .string (⟨#[115]⟩ : ByteArray), .string (⟨#[115, 105, 120]⟩ : ByteArray), .string (⟨#[120]⟩ : ByteArray)]) (.int .i64 1)).run Try.prog w = .ok (.string (⟨#[105, 115]⟩ : ByteArray)) w := by kernel_rfl
theorem mode_Name.i2 (w : World) : (Instr.index 31 (.agg #[.string (⟨#[110, 111, 110, 101]⟩ : ByteArray), .string (⟨#[105, 115]⟩ : ByteArray), .string (⟨#[105, 120]⟩ : ByteArray), .string (⟨#[115]⟩ : ByteArray), .string (⟨#[115, 105, 120]⟩ : ByteArray), .string (⟨#[120]⟩ : ByteArray)]) (.int .i64 2)).run Try.prog w = .ok (.string (⟨#[105, 120]⟩ : ByteArray)) w := by kernel_rfl
theorem mode_Name.i3 (w : World) : (Instr.index 31 (.agg #[.string (⟨#[110, 111, 110, 101]⟩ : ByteArray), .string (⟨#[105, 115]⟩ : ByteArray), .string (⟨#[105, 120]⟩ : ByteArray), .string (⟨#[115]⟩ : ByteArray), .string (⟨#[115, 105, 120]⟩ : ByteArray), .string (⟨#[120]⟩ : ByteArray)]) (.int .i64 3)).run Try.prog w = .ok (.string (⟨#[115]⟩ : ByteArray)) w := by kernel_rfl
theorem mode_Name.i4 (w : World) : (Instr.index 31 (.agg #[.string (⟨#[110, 111, 110, 101]⟩ : ByteArray), .string (⟨#[105, 115]⟩ : ByteArray), .string (⟨#[105, 120]⟩ : ByteArray), .string (⟨#[115]⟩ : ByteArray), .string (⟨#[115, 105, 120]⟩ : ByteArray), .string (⟨#[120]⟩ : ByteArray)]) (.int .i64 4)).run Try.prog w = .ok (.string (⟨#[115, 105, 120]⟩ : ByteArray)) w := by kernel_rfl
theorem mode_Name.i5 (w : World) : (Instr.index 31 (.agg #[.string (⟨#[110, 111, 110, 101]⟩ : ByteArray), .string (⟨#[105, 115]⟩ : ByteArray), .string (⟨#[105, 120]⟩ : ByteArray), .string (⟨#[115]⟩ : ByteArray), .string (⟨#[115, 105, 120]⟩ : ByteArray), .string (⟨#[120]⟩ : ByteArray)]) (.int .i64 5)).run Try.prog w = .ok (.string (⟨#[120]⟩ : ByteArray)) w := by kernel_rfl
set_option maxHeartbeats 8000000 in
theorem mode_Name.calls (a0 : Int) (r : ByteArray) (w : World) (h : mode_Name.f a0 = some r) :
    Calls Try.prog 14 #[.int .i64 a0] w fun e w' => e = .returned (.string r) ∧ Below w.heap.size w w' := by
  obtain rfl := Option.some.inj h
  clear h
  by_cases ha : mode_Name.in6 a0 = true
  · have i0 := mode_Name.i0
    have i1 := mode_Name.i1
    have i2 := mode_Name.i2
    have i3 := mode_Name.i3
    have i4 := mode_Name.i4
    have i5 := mode_Name.i5
    rcases mode_Name.six ha with rfl | rfl | rfl | rfl | rfl | rfl
    all_goals
      go_enter Try.func14, Try.ntmps14
      go_wp2_with (first | (go_at_call 5; (with_reducible refine (mode_Name.right _ _).mono ?_); rintro e w1 ⟨rfl, ⟨⟨n1, rfl⟩⟩⟩; rw [ha]))
      go_ret
      exact ⟨by first | rfl | kernel_rfl, by repeat (first | exact Below.refl _ _ | apply below_alloc | apply pw_below_drewN)⟩
  · simp only [Bool.not_eq_true] at ha
    have he : mode_Name.s a0 = (⟨#[]⟩ : ByteArray) := by simp [mode_Name.s, ha]
    rw [he]
    clear he
    go_enter Try.func14, Try.ntmps14
    go_wp2_with (first | (go_at_call 5; (with_reducible refine (mode_Name.right a0 _).mono ?_); rintro e w1 ⟨rfl, ⟨⟨n1, rfl⟩⟩⟩; rw [ha]))
    go_ret
    exact ⟨rfl, Drawn0.below (by repeat (first | exact Drawn0.refl _ | apply Drawn0.step))⟩

end Go.Proofs.Ytmeoaonoofeogaa.PAll
