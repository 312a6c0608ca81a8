/- The functions that the laws of this seat reach, as plain functions with proofs that the calls answer just so (written by a program of this session on the kit's print). -/
import Derived.Test.YtmeoaonoofeogaaPAllx0
import Derived.Test.YtmeoaonoofeogaaPAllx1
namespace Go.Proofs.Ytmeoaonoofeogaa.PAll
open Go.RowKit Go.Proofs.YtmeoaonoofeogaaW.PrintWords Go.Proofs.YtmeoaonoofeogaaW.PrintLast Go.Proofs.YtmeoaonoofeogaaW.PrintMore
attribute [local go_sem] max2_int min2_int max_two min_two max_three min_three max_four min_four   -- for this text's walks alone
set_option linter.unusedVariables false
set_option linter.unusedSimpArgs false

/-! ### counterpaneref10_Together: function 7 -/
mutual
def counterpaneref10_Together.j0 : Nat → Int → Int → Bool → Option (Bool)
  | 0, _, _, _ => none
  | k + 1, x0, x1, x12 => if x12 = true then (some false) else ((counterpaneref10_writes.f x0).bind fun t103 => (if t103 = 2 then (if x1 = 0 then ((counterpaneref10_writes.f x1).bind fun t104 => (if t104 = 2 then (counterpaneref10_Together.j1 k x0 x1 (x0 != 0)) else (counterpaneref10_Together.j1 k x0 x1 false))) else (counterpaneref10_Together.j1 k x0 x1 true)) else ((counterpaneref10_writes.f x1).bind fun t105 => (if t105 = 2 then (counterpaneref10_Together.j1 k x0 x1 (x0 != 0)) else (counterpaneref10_Together.j1 k x0 x1 false)))))
def counterpaneref10_Together.j1 : Nat → Int → Int → Bool → Option (Bool)
  | 0, _, _, _ => none
  | k + 1, x0, x1, x28 => if x28 = true then (some false) else ((counterpaneref10_writes.f x0).bind fun t106 => (if t106 = 1 then ((counterpaneref10_reads.f k x1).bind fun t107 => (if t107 = 2 then (some false) else ((counterpaneref10_writes.f x1).bind fun t108 => (if t108 = 1 then ((counterpaneref10_reads.f k x0).bind fun t109 => (some (!(t109 == 2)))) else (some (!false)))))) else ((counterpaneref10_writes.f x1).bind fun t110 => (if t110 = 1 then ((counterpaneref10_reads.f k x0).bind fun t111 => (some (!(t111 == 2)))) else (some (!false))))))
end
def counterpaneref10_Together.f (k : Nat) (a0 : Int) (a1 : Int) : Option (Bool) := (counterpaneref10_right.f a0).bind fun t101 => (if t101 = true then ((counterpaneref10_right.f a1).bind fun t102 => (counterpaneref10_Together.j0 k a0 a1 (!t102))) else (counterpaneref10_Together.j0 k a0 a1 true))
theorem counterpaneref10_Together.mono_l : ∀ k, (∀ y0 y1 y2, LeO (counterpaneref10_Together.j0 k y0 y1 y2) (counterpaneref10_Together.j0 (k + 1) y0 y1 y2)) ∧ (∀ y0 y1 y2, LeO (counterpaneref10_Together.j1 k y0 y1 y2) (counterpaneref10_Together.j1 (k + 1) y0 y1 y2))
  | 0 => ⟨fun _ _ _ r h => by simp [counterpaneref10_Together.j0] at h, fun _ _ _ r h => by simp [counterpaneref10_Together.j1] at h⟩
  | k + 1 => by
    obtain ⟨ih0, ih1⟩ := counterpaneref10_Together.mono_l k
    refine ⟨?_, ?_⟩
    · intro y0 y1 y2
      unfold counterpaneref10_Together.j0
      repeat' first
      | (with_reducible exact ih0 _ _ _)
      | (with_reducible exact ih1 _ _ _)
      | (with_reducible exact counterpaneref10_reads.mono _ _)
      | (with_reducible exact LeO.refl _)
      | (with_reducible exact LeO.none _)
      | (with_reducible refine LeO.ite ?_ ?_)
      | (with_reducible refine LeO.bind ?_ (fun _ => ?_))
      | exact ih0 _ _ _
      | exact ih1 _ _ _
      | exact counterpaneref10_reads.mono _ _
      | exact LeO.none _
      | refine LeO.ite ?_ ?_
      | refine LeO.bind ?_ (fun _ => ?_)
    · intro y0 y1 y2
      unfold counterpaneref10_Together.j1
      repeat' first
      | (with_reducible exact ih0 _ _ _)
      | (with_reducible exact ih1 _ _ _)
      | (with_reducible exact counterpaneref10_reads.mono _ _)
      | (with_reducible exact LeO.refl _)
      | (with_reducible exact LeO.none _)
      | (with_reducible refine LeO.ite ?_ ?_)
      | (with_reducible refine LeO.bind ?_ (fun _ => ?_))
      | exact ih0 _ _ _
      | exact ih1 _ _ _
      | exact counterpaneref10_reads.mono _ _
      | exact LeO.none _
      | refine LeO.ite ?_ ?_
      | refine LeO.bind ?_ (fun _ => ?_)
theorem counterpaneref10_Together.mono : ∀ a0 a1 k, LeO (counterpaneref10_Together.f k a0 a1) (counterpaneref10_Together.f (k + 1) a0 a1) := by
  intro a0 a1 k
  obtain ⟨ih0, ih1⟩ := counterpaneref10_Together.mono_l k
  unfold counterpaneref10_Together.f
  repeat' first
      | (with_reducible exact ih0 _ _ _)
      | (with_reducible exact ih1 _ _ _)
      | (with_reducible exact counterpaneref10_reads.mono _ _)
      | (with_reducible exact LeO.refl _)
      | (with_reducible exact LeO.none _)
      | (with_reducible refine LeO.ite ?_ ?_)
      | (with_reducible refine LeO.bind ?_ (fun _ => ?_))
      | exact ih0 _ _ _
      | exact ih1 _ _ _
      | exact counterpaneref10_reads.mono _ _
      | exact LeO.none _
      | refine LeO.ite ?_ ?_
      | refine LeO.bind ?_ (fun _ => ?_)
set_option maxHeartbeats 8000000 in
set_option maxRecDepth 100000 in
theorem counterpaneref10_Together.calls (k : Nat) (a0 : Int) (a1 : Int) (r : Bool) (w : World) (h : counterpaneref10_Together.f k a0 a1 = some r) :
    Calls Try.prog 7 #[.int .i64 a0, .int .i64 a1] w fun e w' => e = .returned (.bool r) ∧ Drawn0 w w' := by
  have H : ((counterpaneref10_right.f a0).bind fun t101 => (if t101 = true then ((counterpaneref10_right.f a1).bind fun t102 => (counterpaneref10_Together.j0 k a0 a1 (!t102))) else (counterpaneref10_Together.j0 k a0 a1 true))) = some r := h
  clear h
  have HC3 := Aside0.mk H
  clear H
  go_enter Try.func7, Try.ntmps7
  go_upto_region 1 with (fail)
  go_cut [12] (fun v12 wc => ∃ (kq : Nat) (x12_2 : Bool), v12 = .bool x12_2 ∧ Aside0 (counterpaneref10_Together.j0 kq a0 a1 x12_2 = some r) ∧ Aside0 (kq ≤ k) ∧ Drawn0 w wc)
  case first =>
    have H := HC3.out
    clear HC3
    replace H := Option.bind_eq_some_iff.mp H
    obtain ⟨t101, A40, H⟩ := H
    replace H : (if t101 = true then ((counterpaneref10_right.f a1).bind fun t102 => (counterpaneref10_Together.j0 k a0 a1 (!t102))) else (counterpaneref10_Together.j0 k a0 a1 true)) = some r := H
    have A4 := Aside0.mk A40
    clear A40
    by_cases c5 : t101 = true
    · subst c5
      have H1 : ((counterpaneref10_right.f a1).bind fun t102 => (counterpaneref10_Together.j0 k a0 a1 (!t102))) = some r := by rw [if_pos rfl] at H; exact H
      clear H
      have H := H1
      clear H1
      replace H := Option.bind_eq_some_iff.mp H
      obtain ⟨t102, A60, H⟩ := H
      replace H : (counterpaneref10_Together.j0 k a0 a1 (!t102)) = some r := H
      have A6 := Aside0.mk A60
      clear A60
      have H' := Aside0.mk H
      clear H
      go_wp2_with (first | ((with_reducible refine gate_callee (f := 17) rfl ?_); refine goesL_ (some 6) rfl rfl Try.func17 (by kernel_rfl) rfl #[.int .i64 a0] rfl (by (try simp only [List.map_toArray, List.map_cons, List.map_nil]); first | done | rfl | (simp only [List.length_drop, List.length_take]; rfl)) ?_; (with_reducible refine (counterpaneref10_right.calls a0 true _ A4.out).mono ?_); rintro e w' ⟨rfl, ⟨nd, rfl⟩⟩; refine ⟨_, rfl, ?_⟩) | (go_at_call 17; (with_reducible refine (counterpaneref10_right.calls a1 t102 _ A6.out).mono ?_); rintro e w' ⟨rfl, ⟨nd, rfl⟩⟩))
      go_meet
      case rel => exact ⟨_, (!t102), (by first | rfl | (simp; done) | (simp [*]; done)), H', ⟨by first | omega | exact Nat.le_refl _⟩, by repeat (first | exact Drawn0.refl _ | apply Drawn0.step)⟩
    · replace c5 := Bool.eq_false_iff.mpr c5
      subst c5
      have H1 : (counterpaneref10_Together.j0 k a0 a1 true) = some r := by rw [if_neg (show ¬ (false = true) by decide)] at H; exact H
      clear H
      have H := H1
      clear H1
      have H' := Aside0.mk H
      clear H
      go_wp2_with (first | ((with_reducible refine gate_callee (f := 17) rfl ?_); refine goesL_ (some 6) rfl rfl Try.func17 (by kernel_rfl) rfl #[.int .i64 a0] rfl (by (try simp only [List.map_toArray, List.map_cons, List.map_nil]); first | done | rfl | (simp only [List.length_drop, List.length_take]; rfl)) ?_; (with_reducible refine (counterpaneref10_right.calls a0 false _ A4.out).mono ?_); rintro e w' ⟨rfl, ⟨nd, rfl⟩⟩; refine ⟨_, rfl, ?_⟩))
      go_meet
      case rel => exact ⟨_, (true), (by first | rfl | (simp; done) | (simp [*]; done)), H', ⟨by first | omega | exact Nat.le_refl _⟩, by repeat (first | exact Drawn0.refl _ | apply Drawn0.step)⟩
  case rest =>
    clear HC3
    try clear c1
    try clear p2
    try clear c5
    obtain ⟨kq, x12_2, rfl, HA, HJ2, ⟨mc2, rfl⟩⟩ := hcut
    cases kq with
    | zero => exact absurd HA.out (by simp [counterpaneref10_Together.j0])
    | succ kj2 =>
      have H := HA.out
      clear HA
      simp only [counterpaneref10_Together.j0] at H
      by_cases c7 : x12_2 = true
      · subst c7
        have H1 : (some false) = some r := by rw [if_pos rfl] at H; exact H
        clear H
        have H := H1
        clear H1
        obtain rfl := Option.some.inj H
        go_wp2
        go_ret
        exact ⟨by first | rfl | (simp; done) | (simp [*]; done), by repeat (first | exact Drawn0.refl _ | apply Drawn0.step)⟩
      · replace c7 := Bool.eq_false_iff.mpr c7
        subst c7
        have H1 : ((counterpaneref10_writes.f a0).bind fun t103 => (if t103 = 2 then (if a1 = 0 then ((counterpaneref10_writes.f a1).bind fun t104 => (if t104 = 2 then (counterpaneref10_Together.j1 kj2 a0 a1 (a0 != 0)) else (counterpaneref10_Together.j1 kj2 a0 a1 false))) else (counterpaneref10_Together.j1 kj2 a0 a1 true)) else ((counterpaneref10_writes.f a1).bind fun t105 => (if t105 = 2 then (counterpaneref10_Together.j1 kj2 a0 a1 (a0 != 0)) else (counterpaneref10_Together.j1 kj2 a0 a1 false))))) = some r := by rw [if_neg (show ¬ (false = true) by decide)] at H; exact H
        clear H
        have H := H1
        clear H1
        have HC8 := Aside0.mk H
        clear H
        go_upto_region 3 with (fail)
        go_cut [28] (fun v28 wc => ∃ (kq : Nat) (x28_7 : Bool), v28 = .bool x28_7 ∧ Aside0 (counterpaneref10_Together.j1 kq a0 a1 x28_7 = some r) ∧ Aside0 (kq ≤ kj2) ∧ Drawn0 w wc)
        case first =>
          have H := HC8.out
          clear HC8
          replace H := Option.bind_eq_some_iff.mp H
          obtain ⟨t103, A90, H⟩ := H
          replace H : (if t103 = 2 then (if a1 = 0 then ((counterpaneref10_writes.f a1).bind fun t104 => (if t104 = 2 then (counterpaneref10_Together.j1 kj2 a0 a1 (a0 != 0)) else (counterpaneref10_Together.j1 kj2 a0 a1 false))) else (counterpaneref10_Together.j1 kj2 a0 a1 true)) else ((counterpaneref10_writes.f a1).bind fun t105 => (if t105 = 2 then (counterpaneref10_Together.j1 kj2 a0 a1 (a0 != 0)) else (counterpaneref10_Together.j1 kj2 a0 a1 false)))) = some r := H
          have A9 := Aside0.mk A90
          clear A90
          by_cases c10 : t103 = 2
          · rw [if_pos c10] at H
            have c10b0 : (t103 == 2) = true := beq_iff_eq.mpr c10
            have c10b1 : (t103 != 2) = false := bne_eq_false_iff_eq.mpr c10
            clear c10
            (first | rw [c10b0] | (simp only [i64_w, i32_w]; rw [c10b0]) | skip)
            by_cases c11 : a1 = 0
            · rw [if_pos c11] at H
              have c11b0 : (a1 == 0) = true := beq_iff_eq.mpr c11
              have c11b1 : (a1 != 0) = false := bne_eq_false_iff_eq.mpr c11
              clear c11
              replace H := Option.bind_eq_some_iff.mp H
              obtain ⟨t104, A120, H⟩ := H
              replace H : (if t104 = 2 then (counterpaneref10_Together.j1 kj2 a0 a1 (a0 != 0)) else (counterpaneref10_Together.j1 kj2 a0 a1 false)) = some r := H
              have A12 := Aside0.mk A120
              clear A120
              by_cases c13 : t104 = 2
              · rw [if_pos c13] at H
                have c13b0 : (t104 == 2) = true := beq_iff_eq.mpr c13
                have c13b1 : (t104 != 2) = false := bne_eq_false_iff_eq.mpr c13
                clear c13
                have H' := Aside0.mk H
                clear H
                go_wp2_with (first | ((with_reducible refine gate_callee (f := 18) rfl ?_); refine goesL_ (some 14) rfl rfl Try.func18 (by kernel_rfl) rfl #[.int .i64 a0] rfl (by (try simp only [List.map_toArray, List.map_cons, List.map_nil]); first | done | rfl | (simp only [List.length_drop, List.length_take]; rfl)) ?_; (with_reducible refine (counterpaneref10_writes.calls a0 t103 _ A9.out).mono ?_); rintro e w' ⟨rfl, ⟨nd, rfl⟩⟩; refine ⟨_, rfl, ?_⟩) | (go_at_call 18; (with_reducible refine (counterpaneref10_writes.calls a1 t104 _ A12.out).mono ?_); rintro e w' ⟨rfl, ⟨nd, rfl⟩⟩))
                go_meet
                case rel => exact ⟨_, ((a0 != 0)), (by first | rfl | (simp; done) | (simp [*]; done)), H', ⟨by have := HJ2.out; first | omega | exact Nat.le_refl _⟩, by repeat (first | exact Drawn0.refl _ | apply Drawn0.step)⟩
              · rw [if_neg c13] at H
                have c13b0 : (t104 == 2) = false := beq_eq_false_iff_ne.mpr c13
                have c13b1 : (t104 != 2) = true := bne_iff_ne.mpr c13
                have H' := Aside0.mk H
                clear H
                go_wp2_with (first | ((with_reducible refine gate_callee (f := 18) rfl ?_); refine goesL_ (some 14) rfl rfl Try.func18 (by kernel_rfl) rfl #[.int .i64 a0] rfl (by (try simp only [List.map_toArray, List.map_cons, List.map_nil]); first | done | rfl | (simp only [List.length_drop, List.length_take]; rfl)) ?_; (with_reducible refine (counterpaneref10_writes.calls a0 t103 _ A9.out).mono ?_); rintro e w' ⟨rfl, ⟨nd, rfl⟩⟩; refine ⟨_, rfl, ?_⟩) | (go_at_call 18; (with_reducible refine (counterpaneref10_writes.calls a1 t104 _ A12.out).mono ?_); rintro e w' ⟨rfl, ⟨nd, rfl⟩⟩))
                go_meet
                case rel => exact ⟨_, (false), (by first | rfl | (simp; done) | (simp [*]; done)), H', ⟨by have := HJ2.out; first | omega | exact Nat.le_refl _⟩, by repeat (first | exact Drawn0.refl _ | apply Drawn0.step)⟩
            · rw [if_neg c11] at H
              have c11b0 : (a1 == 0) = false := beq_eq_false_iff_ne.mpr c11
              have c11b1 : (a1 != 0) = true := bne_iff_ne.mpr c11
              have H' := Aside0.mk H
              clear H
              go_wp2_with (first | ((with_reducible refine gate_callee (f := 18) rfl ?_); refine goesL_ (some 14) rfl rfl Try.func18 (by kernel_rfl) rfl #[.int .i64 a0] rfl (by (try simp only [List.map_toArray, List.map_cons, List.map_nil]); first | done | rfl | (simp only [List.length_drop, List.length_take]; rfl)) ?_; (with_reducible refine (counterpaneref10_writes.calls a0 t103 _ A9.out).mono ?_); rintro e w' ⟨rfl, ⟨nd, rfl⟩⟩; refine ⟨_, rfl, ?_⟩))
              go_meet
              case rel => exact ⟨_, (true), (by first | rfl | (simp; done) | (simp [*]; done)), H', ⟨by have := HJ2.out; first | omega | exact Nat.le_refl _⟩, by repeat (first | exact Drawn0.refl _ | apply Drawn0.step)⟩
          · rw [if_neg c10] at H
            have c10b0 : (t103 == 2) = false := beq_eq_false_iff_ne.mpr c10
            have c10b1 : (t103 != 2) = true := bne_iff_ne.mpr c10
            (first | rw [c10b0] | (simp only [i64_w, i32_w]; rw [c10b0]) | skip)
            replace H := Option.bind_eq_some_iff.mp H
            obtain ⟨t105, A140, H⟩ := H
            replace H : (if t105 = 2 then (counterpaneref10_Together.j1 kj2 a0 a1 (a0 != 0)) else (counterpaneref10_Together.j1 kj2 a0 a1 false)) = some r := H
            have A14 := Aside0.mk A140
            clear A140
            by_cases c15 : t105 = 2
            · rw [if_pos c15] at H
              have c15b0 : (t105 == 2) = true := beq_iff_eq.mpr c15
              have c15b1 : (t105 != 2) = false := bne_eq_false_iff_eq.mpr c15
              clear c15
              have H' := Aside0.mk H
              clear H
              go_wp2_with (first | ((with_reducible refine gate_callee (f := 18) rfl ?_); refine goesL_ (some 14) rfl rfl Try.func18 (by kernel_rfl) rfl #[.int .i64 a0] rfl (by (try simp only [List.map_toArray, List.map_cons, List.map_nil]); first | done | rfl | (simp only [List.length_drop, List.length_take]; rfl)) ?_; (with_reducible refine (counterpaneref10_writes.calls a0 t103 _ A9.out).mono ?_); rintro e w' ⟨rfl, ⟨nd, rfl⟩⟩; refine ⟨_, rfl, ?_⟩) | (go_at_call 18; (with_reducible refine (counterpaneref10_writes.calls a1 t105 _ A14.out).mono ?_); rintro e w' ⟨rfl, ⟨nd, rfl⟩⟩))
              go_meet
              case rel => exact ⟨_, ((a0 != 0)), (by first | rfl | (simp; done) | (simp [*]; done)), H', ⟨by have := HJ2.out; first | omega | exact Nat.le_refl _⟩, by repeat (first | exact Drawn0.refl _ | apply Drawn0.step)⟩
            · rw [if_neg c15] at H
              have c15b0 : (t105 == 2) = false := beq_eq_false_iff_ne.mpr c15
              have c15b1 : (t105 != 2) = true := bne_iff_ne.mpr c15
              have H' := Aside0.mk H
              clear H
              go_wp2_with (first | ((with_reducible refine gate_callee (f := 18) rfl ?_); refine goesL_ (some 14) rfl rfl Try.func18 (by kernel_rfl) rfl #[.int .i64 a0] rfl (by (try simp only [List.map_toArray, List.map_cons, List.map_nil]); first | done | rfl | (simp only [List.length_drop, List.length_take]; rfl)) ?_; (with_reducible refine (counterpaneref10_writes.calls a0 t103 _ A9.out).mono ?_); rintro e w' ⟨rfl, ⟨nd, rfl⟩⟩; refine ⟨_, rfl, ?_⟩) | (go_at_call 18; (with_reducible refine (counterpaneref10_writes.calls a1 t105 _ A14.out).mono ?_); rintro e w' ⟨rfl, ⟨nd, rfl⟩⟩))
              go_meet
              case rel => exact ⟨_, (false), (by first | rfl | (simp; done) | (simp [*]; done)), H', ⟨by have := HJ2.out; first | omega | exact Nat.le_refl _⟩, by repeat (first | exact Drawn0.refl _ | apply Drawn0.step)⟩
        case rest =>
          clear HC8
          try clear c1
          try clear c2
          try clear p2
          try clear c5
          try clear c7
          try clear c10
          try clear c10b0
          try clear c10b1
          try clear c11
          try clear c11b0
          try clear c11b1
          try clear c13
          try clear c13b0
          try clear c13b1
          try clear c15
          try clear c15b0
          try clear c15b1
          try clear p2
          obtain ⟨kq, x28_7, rfl, HA, HJ7, ⟨mc7, rfl⟩⟩ := hcut
          cases kq with
          | zero => exact absurd HA.out (by simp [counterpaneref10_Together.j1])
          | succ kj7 =>
            have H := HA.out
            clear HA
            simp only [counterpaneref10_Together.j1] at H
            by_cases c16 : x28_7 = true
            · subst c16
              have H1 : (some false) = some r := by rw [if_pos rfl] at H; exact H
              clear H
              have H := H1
              clear H1
              obtain rfl := Option.some.inj H
              go_wp2
              go_ret
              exact ⟨by first | rfl | (simp; done) | (simp [*]; done), by repeat (first | exact Drawn0.refl _ | apply Drawn0.step)⟩
            · replace c16 := Bool.eq_false_iff.mpr c16
              subst c16
              have H1 : ((counterpaneref10_writes.f a0).bind fun t106 => (if t106 = 1 then ((counterpaneref10_reads.f kj7 a1).bind fun t107 => (if t107 = 2 then (some false) else ((counterpaneref10_writes.f a1).bind fun t108 => (if t108 = 1 then ((counterpaneref10_reads.f kj7 a0).bind fun t109 => (some (!(t109 == 2)))) else (some (!false)))))) else ((counterpaneref10_writes.f a1).bind fun t110 => (if t110 = 1 then ((counterpaneref10_reads.f kj7 a0).bind fun t111 => (some (!(t111 == 2)))) else (some (!false)))))) = some r := by rw [if_neg (show ¬ (false = true) by decide)] at H; exact H
              clear H
              have H := H1
              clear H1
              replace H := Option.bind_eq_some_iff.mp H
              obtain ⟨t106, A170, H⟩ := H
              replace H : (if t106 = 1 then ((counterpaneref10_reads.f kj7 a1).bind fun t107 => (if t107 = 2 then (some false) else ((counterpaneref10_writes.f a1).bind fun t108 => (if t108 = 1 then ((counterpaneref10_reads.f kj7 a0).bind fun t109 => (some (!(t109 == 2)))) else (some (!false)))))) else ((counterpaneref10_writes.f a1).bind fun t110 => (if t110 = 1 then ((counterpaneref10_reads.f kj7 a0).bind fun t111 => (some (!(t111 == 2)))) else (some (!false))))) = some r := H
              have A17 := Aside0.mk A170
              clear A170
              by_cases c18 : t106 = 1
              · rw [if_pos c18] at H
                have c18b0 : (t106 == 1) = true := beq_iff_eq.mpr c18
                have c18b1 : (t106 != 1) = false := bne_eq_false_iff_eq.mpr c18
                clear c18
                replace H := Option.bind_eq_some_iff.mp H
                obtain ⟨t107, A190, H⟩ := H
                replace H : (if t107 = 2 then (some false) else ((counterpaneref10_writes.f a1).bind fun t108 => (if t108 = 1 then ((counterpaneref10_reads.f kj7 a0).bind fun t109 => (some (!(t109 == 2)))) else (some (!false))))) = some r := H
                have A19 := Aside0.mk A190
                clear A190
                by_cases c20 : t107 = 2
                · rw [if_pos c20] at H
                  have c20b0 : (t107 == 2) = true := beq_iff_eq.mpr c20
                  have c20b1 : (t107 != 2) = false := bne_eq_false_iff_eq.mpr c20
                  clear c20
                  obtain rfl := Option.some.inj H
                  go_wp2_with (first | ((with_reducible refine gate_callee (f := 18) rfl ?_); refine goesL_ (some 30) rfl rfl Try.func18 (by kernel_rfl) rfl #[.int .i64 a0] rfl (by (try simp only [List.map_toArray, List.map_cons, List.map_nil]); first | done | rfl | (simp only [List.length_drop, List.length_take]; rfl)) ?_; (with_reducible refine (counterpaneref10_writes.calls a0 t106 _ A17.out).mono ?_); rintro e w' ⟨rfl, ⟨nd, rfl⟩⟩; refine ⟨_, rfl, ?_⟩) | (go_at_call 19; (with_reducible refine (counterpaneref10_reads.calls kj7 a1 t107 _ A19.out).mono ?_); rintro e w' ⟨rfl, ⟨nd, rfl⟩⟩))
                  go_ret
                  exact ⟨by first | rfl | (simp; done) | (simp [*]; done), by repeat (first | exact Drawn0.refl _ | apply Drawn0.step)⟩
                · rw [if_neg c20] at H
                  have c20b0 : (t107 == 2) = false := beq_eq_false_iff_ne.mpr c20
                  have c20b1 : (t107 != 2) = true := bne_iff_ne.mpr c20
                  replace H := Option.bind_eq_some_iff.mp H
                  obtain ⟨t108, A210, H⟩ := H
                  replace H : (if t108 = 1 then ((counterpaneref10_reads.f kj7 a0).bind fun t109 => (some (!(t109 == 2)))) else (some (!false))) = some r := H
                  have A21 := Aside0.mk A210
                  clear A210
                  by_cases c22 : t108 = 1
                  · rw [if_pos c22] at H
                    have c22b0 : (t108 == 1) = true := beq_iff_eq.mpr c22
                    have c22b1 : (t108 != 1) = false := bne_eq_false_iff_eq.mpr c22
                    clear c22
                    replace H := Option.bind_eq_some_iff.mp H
                    obtain ⟨t109, A230, H⟩ := H
                    replace H : (some (!(t109 == 2))) = some r := H
                    have A23 := Aside0.mk A230
                    clear A230
                    obtain rfl := Option.some.inj H
                    go_wp2_with (first | ((with_reducible refine gate_callee (f := 18) rfl ?_); refine goesL_ (some 30) rfl rfl Try.func18 (by kernel_rfl) rfl #[.int .i64 a0] rfl (by (try simp only [List.map_toArray, List.map_cons, List.map_nil]); first | done | rfl | (simp only [List.length_drop, List.length_take]; rfl)) ?_; (with_reducible refine (counterpaneref10_writes.calls a0 t106 _ A17.out).mono ?_); rintro e w' ⟨rfl, ⟨nd, rfl⟩⟩; refine ⟨_, rfl, ?_⟩) | (go_at_call 19; (with_reducible refine (counterpaneref10_reads.calls kj7 a1 t107 _ A19.out).mono ?_); rintro e w' ⟨rfl, ⟨nd, rfl⟩⟩) | (go_at_call 18; (with_reducible refine (counterpaneref10_writes.calls a1 t108 _ A21.out).mono ?_); rintro e w' ⟨rfl, ⟨nd, rfl⟩⟩) | (go_at_call 19; (with_reducible refine (counterpaneref10_reads.calls kj7 a0 t109 _ A23.out).mono ?_); rintro e w' ⟨rfl, ⟨nd, rfl⟩⟩))
                    go_ret
                    exact ⟨by first | rfl | (simp; done) | (simp [*]; done), by repeat (first | exact Drawn0.refl _ | apply Drawn0.step)⟩
                  · rw [if_neg c22] at H
                    have c22b0 : (t108 == 1) = false := beq_eq_false_iff_ne.mpr c22
                    have c22b1 : (t108 != 1) = true := bne_iff_ne.mpr c22
                    obtain rfl := Option.some.inj H
                    go_wp2_with (first | ((with_reducible refine gate_callee (f := 18) rfl ?_); refine goesL_ (some 30) rfl rfl Try.func18 (by kernel_rfl) rfl #[.int .i64 a0] rfl (by (try simp only [List.map_toArray, List.map_cons, List.map_nil]); first | done | rfl | (simp only [List.length_drop, List.length_take]; rfl)) ?_; (with_reducible refine (counterpaneref10_writes.calls a0 t106 _ A17.out).mono ?_); rintro e w' ⟨rfl, ⟨nd, rfl⟩⟩; refine ⟨_, rfl, ?_⟩) | (go_at_call 19; (with_reducible refine (counterpaneref10_reads.calls kj7 a1 t107 _ A19.out).mono ?_); rintro e w' ⟨rfl, ⟨nd, rfl⟩⟩) | (go_at_call 18; (with_reducible refine (counterpaneref10_writes.calls a1 t108 _ A21.out).mono ?_); rintro e w' ⟨rfl, ⟨nd, rfl⟩⟩))
                    go_ret
                    exact ⟨by first | rfl | (simp; done) | (simp [*]; done), by repeat (first | exact Drawn0.refl _ | apply Drawn0.step)⟩
              · rw [if_neg c18] at H
                have c18b0 : (t106 == 1) = false := beq_eq_false_iff_ne.mpr c18
                have c18b1 : (t106 != 1) = true := bne_iff_ne.mpr c18
                replace H := Option.bind_eq_some_iff.mp H
                obtain ⟨t110, A240, H⟩ := H
                replace H : (if t110 = 1 then ((counterpaneref10_reads.f kj7 a0).bind fun t111 => (some (!(t111 == 2)))) else (some (!false))) = some r := H
                have A24 := Aside0.mk A240
                clear A240
                by_cases c25 : t110 = 1
                · rw [if_pos c25] at H
                  have c25b0 : (t110 == 1) = true := beq_iff_eq.mpr c25
                  have c25b1 : (t110 != 1) = false := bne_eq_false_iff_eq.mpr c25
                  clear c25
                  replace H := Option.bind_eq_some_iff.mp H
                  obtain ⟨t111, A260, H⟩ := H
                  replace H : (some (!(t111 == 2))) = some r := H
                  have A26 := Aside0.mk A260
                  clear A260
                  obtain rfl := Option.some.inj H
                  go_wp2_with (first | ((with_reducible refine gate_callee (f := 18) rfl ?_); refine goesL_ (some 30) rfl rfl Try.func18 (by kernel_rfl) rfl #[.int .i64 a0] rfl (by (try simp only [List.map_toArray, List.map_cons, List.map_nil]); first | done | rfl | (simp only [List.length_drop, List.length_take]; rfl)) ?_; (with_reducible refine (counterpaneref10_writes.calls a0 t106 _ A17.out).mono ?_); rintro e w' ⟨rfl, ⟨nd, rfl⟩⟩; refine ⟨_, rfl, ?_⟩) | (go_at_call 18; (with_reducible refine (counterpaneref10_writes.calls a1 t110 _ A24.out).mono ?_); rintro e w' ⟨rfl, ⟨nd, rfl⟩⟩) | (go_at_call 19; (with_reducible refine (counterpaneref10_reads.calls kj7 a0 t111 _ A26.out).mono ?_); rintro e w' ⟨rfl, ⟨nd, rfl⟩⟩))
                  go_ret
                  exact ⟨by first | rfl | (simp; done) | (simp [*]; done), by repeat (first | exact Drawn0.refl _ | apply Drawn0.step)⟩
                · rw [if_neg c25] at H
                  have c25b0 : (t110 == 1) = false := beq_eq_false_iff_ne.mpr c25
                  have c25b1 : (t110 != 1) = true := bne_iff_ne.mpr c25
                  obtain rfl := Option.some.inj H
                  go_wp2_with (first | ((with_reducible refine gate_callee (f := 18) rfl ?_); refine goesL_ (some 30) rfl rfl Try.func18 (by kernel_rfl) rfl #[.int .i64 a0] rfl (by (try simp only [List.map_toArray, List.map_cons, List.map_nil]); first | done | rfl | (simp only [List.length_drop, List.length_take]; rfl)) ?_; (with_reducible refine (counterpaneref10_writes.calls a0 t106 _ A17.out).mono ?_); rintro e w' ⟨rfl, ⟨nd, rfl⟩⟩; refine ⟨_, rfl, ?_⟩) | (go_at_call 18; (with_reducible refine (counterpaneref10_writes.calls a1 t110 _ A24.out).mono ?_); rintro e w' ⟨rfl, ⟨nd, rfl⟩⟩))
                  go_ret
                  exact ⟨by first | rfl | (simp; done) | (simp [*]; done), by repeat (first | exact Drawn0.refl _ | apply Drawn0.step)⟩

-- NOT PRINTED: function 20 (mode_covered)

end Go.Proofs.Ytmeoaonoofeogaa.PAll
