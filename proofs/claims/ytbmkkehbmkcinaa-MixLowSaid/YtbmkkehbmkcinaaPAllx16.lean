/- The functions that the laws of this seat reach, as plain functions with proofs that the calls answer just so (written by a program of this session on the kit's print). -/
import Derived.Test.YtbmkkehbmkcinaaPAllx0
import Derived.Test.YtbmkkehbmkcinaaPAllx5
import Derived.Test.YtbmkkehbmkcinaaPAllx6
import Derived.Test.YtbmkkehbmkcinaaPAllx7
import Derived.Test.YtbmkkehbmkcinaaPAllx8
namespace Go.Proofs.Ytbmkkehbmkcinaa.PAll
open Go.RowKit Go.Proofs.YtbmkkehbmkcinaaW.PrintWords Go.Proofs.YtbmkkehbmkcinaaW.PrintLast Go.Proofs.YtbmkkehbmkcinaaW.PrintMore
attribute [local go_sem] max2_int min2_int max_two min_two max_three min_three max_four min_four   -- for this text's walks alone
set_option linter.unusedVariables false
set_option linter.unusedSimpArgs false

/-! ### counterpanelaw03_MixLow: function 5 -/
mutual
def counterpanelaw03_MixLow.j0 : Nat → Int → Int → Int → Bool → Option (Bool)
  | 0, _, _, _, _ => none
  | k + 1, x0, x1, x2, x15 => if x15 = true then ((counterpanelaw03_works.f k).bind fun t156 => (some t156)) else ((mix_Low.f x0 x2).bind fun t157 => ((mix_Low.f x0 (wrap64 (x2 + 1))).bind fun t158 => ((mix_Bit.f x0 x2).bind fun t159 => (if t159 = true then (if 0 ≤ x2 then (counterpanelaw03_MixLow.j1 k x0 x1 x2 t157 t158 (shl .i64 1 x2)) else (none)) else (counterpanelaw03_MixLow.j1 k x0 x1 x2 t157 t158 0)))))
def counterpanelaw03_MixLow.j1 : Nat → Int → Int → Int → Int → Int → Int → Option (Bool)
  | 0, _, _, _, _, _, _ => none
  | k + 1, x0, x1, x2, x7, x8, x9 => if x8 = (wrap64 (x7 + x9)) then (if x7 ≥ 0 then (if 0 ≤ x2 then (if x7 < (shl .i64 1 x2) then ((mix_Low.f x0 x2).bind fun t160 => ((mix_Low.f x1 x2).bind fun t161 => ((mix_Alike.f k x0 x1).bind fun t162 => (if ((t160 == t161) == (decide (t162 ≥ x2))) = true then ((counterpanelaw03_works.f k).bind fun t163 => (some t163)) else (none))))) else (none)) else (none)) else (none)) else (none)
end
def counterpanelaw03_MixLow.f (k : Nat) (a0 : Int) (a1 : Int) (a2 : Int) : Option (Bool) := if a2 < 0 then (counterpanelaw03_MixLow.j0 k a0 a1 a2 true) else (counterpanelaw03_MixLow.j0 k a0 a1 a2 (decide (a2 > 31)))
theorem counterpanelaw03_MixLow.mono_l : ∀ k, (∀ y0 y1 y2 y3, LeO (counterpanelaw03_MixLow.j0 k y0 y1 y2 y3) (counterpanelaw03_MixLow.j0 (k + 1) y0 y1 y2 y3)) ∧ (∀ y0 y1 y2 y3 y4 y5, LeO (counterpanelaw03_MixLow.j1 k y0 y1 y2 y3 y4 y5) (counterpanelaw03_MixLow.j1 (k + 1) y0 y1 y2 y3 y4 y5))
  | 0 => ⟨fun _ _ _ _ r h => by simp [counterpanelaw03_MixLow.j0] at h, fun _ _ _ _ _ _ r h => by simp [counterpanelaw03_MixLow.j1] at h⟩
  | k + 1 => by
    obtain ⟨ih0, ih1⟩ := counterpanelaw03_MixLow.mono_l k
    refine ⟨?_, ?_⟩
    · intro y0 y1 y2 y3
      unfold counterpanelaw03_MixLow.j0
      repeat' first
      | (with_reducible exact ih0 _ _ _ _)
      | (with_reducible exact ih1 _ _ _ _ _ _)
      | (with_reducible exact counterpanelaw03_works.mono _)
      | (with_reducible exact mix_Alike.mono _ _ _)
      | (with_reducible exact LeO.refl _)
      | (with_reducible exact LeO.none _)
      | (with_reducible refine LeO.ite ?_ ?_)
      | (with_reducible refine LeO.bind ?_ (fun _ => ?_))
      | exact ih0 _ _ _ _
      | exact ih1 _ _ _ _ _ _
      | exact counterpanelaw03_works.mono _
      | exact mix_Alike.mono _ _ _
      | exact LeO.none _
      | refine LeO.ite ?_ ?_
      | refine LeO.bind ?_ (fun _ => ?_)
    · intro y0 y1 y2 y3 y4 y5
      unfold counterpanelaw03_MixLow.j1
      repeat' first
      | (with_reducible exact ih0 _ _ _ _)
      | (with_reducible exact ih1 _ _ _ _ _ _)
      | (with_reducible exact counterpanelaw03_works.mono _)
      | (with_reducible exact mix_Alike.mono _ _ _)
      | (with_reducible exact LeO.refl _)
      | (with_reducible exact LeO.none _)
      | (with_reducible refine LeO.ite ?_ ?_)
      | (with_reducible refine LeO.bind ?_ (fun _ => ?_))
      | exact ih0 _ _ _ _
      | exact ih1 _ _ _ _ _ _
      | exact counterpanelaw03_works.mono _
      | exact mix_Alike.mono _ _ _
      | exact LeO.none _
      | refine LeO.ite ?_ ?_
      | refine LeO.bind ?_ (fun _ => ?_)
theorem counterpanelaw03_MixLow.mono : ∀ a0 a1 a2 k, LeO (counterpanelaw03_MixLow.f k a0 a1 a2) (counterpanelaw03_MixLow.f (k + 1) a0 a1 a2) := by
  intro a0 a1 a2 k
  obtain ⟨ih0, ih1⟩ := counterpanelaw03_MixLow.mono_l k
  unfold counterpanelaw03_MixLow.f
  repeat' first
      | (with_reducible exact ih0 _ _ _ _)
      | (with_reducible exact ih1 _ _ _ _ _ _)
      | (with_reducible exact counterpanelaw03_works.mono _)
      | (with_reducible exact mix_Alike.mono _ _ _)
      | (with_reducible exact LeO.refl _)
      | (with_reducible exact LeO.none _)
      | (with_reducible refine LeO.ite ?_ ?_)
      | (with_reducible refine LeO.bind ?_ (fun _ => ?_))
      | exact ih0 _ _ _ _
      | exact ih1 _ _ _ _ _ _
      | exact counterpanelaw03_works.mono _
      | exact mix_Alike.mono _ _ _
      | exact LeO.none _
      | refine LeO.ite ?_ ?_
      | refine LeO.bind ?_ (fun _ => ?_)
set_option maxHeartbeats 8000000 in
set_option maxRecDepth 100000 in
theorem counterpanelaw03_MixLow.calls (k : Nat) (a0 : Int) (a1 : Int) (a2 : Int) (r : Bool) (w : World) (h : counterpanelaw03_MixLow.f k a0 a1 a2 = some r) :
    Calls Try.prog 5 #[.int .u64 a0, .int .u64 a1, .int .i64 a2] w fun e w' => e = .returned (.bool r) ∧ Below w.heap.size w w' := by
  have HB := Aside0.mk (Below.refl w.heap.size w)
  have H : (if a2 < 0 then (counterpanelaw03_MixLow.j0 k a0 a1 a2 true) else (counterpanelaw03_MixLow.j0 k a0 a1 a2 (decide (a2 > 31)))) = some r := h
  clear h
  have HC4 := Aside0.mk H
  clear H
  go_enter Try.func5, Try.ntmps5
  go_upto_region 1 with (fail)
  go_cut [15] (fun v15 wc => ∃ (kq : Nat) (x15_3 : Bool), v15 = .bool x15_3 ∧ Aside0 (counterpanelaw03_MixLow.j0 kq a0 a1 a2 x15_3 = some r) ∧ Aside0 (kq ≤ k) ∧ Aside0 (Below w.heap.size w wc))
  case first =>
    have H := HC4.out
    clear HC4
    by_cases c5 : a2 < 0
    · rw [if_pos c5] at H
      have c5b0 : decide (a2 < 0) = true := decide_eq_true c5
      clear c5
      (first | rw [c5b0] | (simp only [i64_w, i32_w]; rw [c5b0]) | skip)
      have H' := Aside0.mk H
      clear H
      go_wp2
      go_meet
      case rel => exact ⟨_, (true), (by first | rfl | (simp; done) | (simp [*]; done)), H', ⟨by first | omega | exact Nat.le_refl _⟩, ⟨by repeat (first | (with_reducible first | exact HB.out | apply below_alloc | apply pw_below_drewN | apply below_drew1) | exact HB.out)⟩⟩
    · rw [if_neg c5] at H
      have c5b0 : decide (a2 < 0) = false := decide_eq_false c5
      clear c5
      (first | rw [c5b0] | (simp only [i64_w, i32_w]; rw [c5b0]) | skip)
      have H' := Aside0.mk H
      clear H
      go_wp2
      go_meet
      case rel => exact ⟨_, (decide (a2 > 31)), (by first | rfl | (simp; done) | (simp [*]; done)), H', ⟨by first | omega | exact Nat.le_refl _⟩, ⟨by repeat (first | (with_reducible first | exact HB.out | apply below_alloc | apply pw_below_drewN | apply below_drew1) | exact HB.out)⟩⟩
  case rest =>
    clear HC4
    try clear p2
    try clear c5
    try clear c5b0
    obtain ⟨kq, x15_3, rfl, HA, HJ3, HB⟩ := hcut
    cases kq with
    | zero => exact absurd HA.out (by simp [counterpanelaw03_MixLow.j0])
    | succ kj3 =>
      have H := HA.out
      clear HA
      simp only [counterpanelaw03_MixLow.j0] at H
      by_cases c6 : x15_3 = true
      · subst c6
        have H1 : ((counterpanelaw03_works.f kj3).bind fun t156 => (some t156)) = some r := by rw [if_pos rfl] at H; exact H
        clear H
        have H := H1
        clear H1
        replace H := Option.bind_eq_some_iff.mp H
        obtain ⟨t156, A70, H⟩ := H
        replace H : (some t156) = some r := H
        have A7 := Aside0.mk A70
        clear A70
        obtain rfl := Option.some.inj H
        go_wp2_with (first | ((with_reducible refine gate_callee (f := 8) rfl ?_); refine goesL_ (some 16) rfl rfl Try.func8 (by kernel_rfl) rfl #[] rfl (by (try simp only [List.map_toArray, List.map_cons, List.map_nil]); first | done | rfl | (simp only [List.length_drop, List.length_take]; rfl)) ?_; (with_reducible refine (counterpanelaw03_works.calls kj3  t156 _ A7.out).mono ?_); rintro e w8 ⟨rfl, hb⟩; refine ⟨_, rfl, ?_⟩; have n0_ := Aside0.mk (below_step (by repeat (first | (with_reducible first | exact HB.out | apply below_alloc | apply pw_below_drewN | apply below_drew1) | exact HB.out)) hb); clear HB; have HB := n0_; clear n0_; (try clear hb); (try clear hb2); (try clear hk); (try clear hi)))
        go_ret
        exact ⟨by first | rfl | (simp [errW_none, errW_some] <;> rfl) | (simp [*, errW_none, errW_some] <;> rfl), by repeat (first | (with_reducible first | exact HB.out | apply below_alloc | apply pw_below_drewN | apply below_drew1) | exact HB.out)⟩
      · replace c6 := Bool.eq_false_iff.mpr c6
        subst c6
        have H1 : ((mix_Low.f a0 a2).bind fun t157 => ((mix_Low.f a0 (wrap64 (a2 + 1))).bind fun t158 => ((mix_Bit.f a0 a2).bind fun t159 => (if t159 = true then (if 0 ≤ a2 then (counterpanelaw03_MixLow.j1 kj3 a0 a1 a2 t157 t158 (shl .i64 1 a2)) else (none)) else (counterpanelaw03_MixLow.j1 kj3 a0 a1 a2 t157 t158 0))))) = some r := by rw [if_neg (show ¬ (false = true) by decide)] at H; exact H
        clear H
        have H := H1
        clear H1
        replace H := Option.bind_eq_some_iff.mp H
        obtain ⟨t157, A90, H⟩ := H
        replace H : ((mix_Low.f a0 (wrap64 (a2 + 1))).bind fun t158 => ((mix_Bit.f a0 a2).bind fun t159 => (if t159 = true then (if 0 ≤ a2 then (counterpanelaw03_MixLow.j1 kj3 a0 a1 a2 t157 t158 (shl .i64 1 a2)) else (none)) else (counterpanelaw03_MixLow.j1 kj3 a0 a1 a2 t157 t158 0)))) = some r := H
        have A9 := Aside0.mk A90
        clear A90
        replace H := Option.bind_eq_some_iff.mp H
        obtain ⟨t158, A100, H⟩ := H
        replace H : ((mix_Bit.f a0 a2).bind fun t159 => (if t159 = true then (if 0 ≤ a2 then (counterpanelaw03_MixLow.j1 kj3 a0 a1 a2 t157 t158 (shl .i64 1 a2)) else (none)) else (counterpanelaw03_MixLow.j1 kj3 a0 a1 a2 t157 t158 0))) = some r := H
        have A10 := Aside0.mk A100
        clear A100
        replace H := Option.bind_eq_some_iff.mp H
        obtain ⟨t159, A110, H⟩ := H
        replace H : (if t159 = true then (if 0 ≤ a2 then (counterpanelaw03_MixLow.j1 kj3 a0 a1 a2 t157 t158 (shl .i64 1 a2)) else (none)) else (counterpanelaw03_MixLow.j1 kj3 a0 a1 a2 t157 t158 0)) = some r := H
        have A11 := Aside0.mk A110
        clear A110
        have HC12 := Aside0.mk H
        clear H
        go_upto_if 26 with (first | ((with_reducible refine gate_callee (f := 14) rfl ?_); refine goesL_ (some 19) rfl rfl Try.func14 (by kernel_rfl) rfl #[.int .u64 a0, .int .i64 a2] rfl (by (try simp only [List.map_toArray, List.map_cons, List.map_nil]); first | done | rfl | (simp only [List.length_drop, List.length_take]; rfl)) ?_; (with_reducible refine (mix_Low.calls a0 a2 t157 _ A9.out).mono ?_); rintro e w13 ⟨rfl, hb⟩; refine ⟨_, rfl, ?_⟩; have n0_ := Aside0.mk (below_step (by repeat (first | (with_reducible first | exact HB.out | apply below_alloc | apply pw_below_drewN | apply below_drew1) | exact HB.out)) hb); clear HB; have HB := n0_; clear n0_; (try clear hb); (try clear hb2); (try clear hk); (try clear hi)) | ((with_reducible refine gate_callee (f := 14) rfl ?_); refine goesL_ (some 23) rfl rfl Try.func14 (by kernel_rfl) rfl #[.int .u64 a0, .int .i64 (wrap64 (a2 + 1))] rfl (by (try simp only [List.map_toArray, List.map_cons, List.map_nil]); first | done | rfl | (simp only [List.length_drop, List.length_take]; rfl)) ?_; (with_reducible refine (mix_Low.calls a0 (wrap64 (a2 + 1)) t158 _ A10.out).mono ?_); rintro e w14 ⟨rfl, hb⟩; refine ⟨_, rfl, ?_⟩; have n0_ := Aside0.mk (below_step (by repeat (first | (with_reducible first | exact HB.out | apply below_alloc | apply pw_below_drewN | apply below_drew1) | exact HB.out)) hb); clear HB; have HB := n0_; clear n0_; (try clear hb); (try clear hb2); (try clear hk); (try clear hi)) | ((with_reducible refine gate_callee (f := 13) rfl ?_); refine goesL_ (some 26) rfl rfl Try.func13 (by kernel_rfl) rfl #[.int .u64 a0, .int .i64 a2] rfl (by (try simp only [List.map_toArray, List.map_cons, List.map_nil]); first | done | rfl | (simp only [List.length_drop, List.length_take]; rfl)) ?_; (with_reducible refine (mix_Bit.calls a0 a2 t159 _ A11.out).mono ?_); rintro e w' ⟨rfl, ⟨nd, rfl⟩⟩; refine ⟨_, rfl, ?_⟩))
        (try simp only [Act.put, List.setIfInBounds_toArray, List.set_cons_zero, List.set_cons_succ])
        go_cut [9] (fun v9 wc => ∃ (kq : Nat) (x9_11 : Int), v9 = .int .i64 x9_11 ∧ Aside0 (counterpanelaw03_MixLow.j1 kq a0 a1 a2 t157 t158 x9_11 = some r) ∧ Aside0 (kq ≤ kj3) ∧ Aside0 (Below w.heap.size w wc))
        case first =>
          have H := HC12.out
          clear HC12
          by_cases c15 : t159 = true
          · subst c15
            have H1 : (if 0 ≤ a2 then (counterpanelaw03_MixLow.j1 kj3 a0 a1 a2 t157 t158 (shl .i64 1 a2)) else (none)) = some r := by rw [if_pos rfl] at H; exact H
            clear H
            have H := H1
            clear H1
            by_cases c16 : 0 ≤ a2
            · rw [if_pos c16] at H
              have c16b0 := eq_true c16
              have c16b1 : decide (0 ≤ a2) = true := decide_eq_true c16
              clear c16
              obtain ⟨ji17, hji17⟩ : ∃ j_ : Int, (shl .i64 1 a2) = j_ := ⟨_, rfl⟩
              replace H : (counterpanelaw03_MixLow.j1 kj3 a0 a1 a2 t157 t158 ji17) = some r := by first | (rw [hji17] at H; exact H) | (simp only [hji17] at H ⊢; exact H)
              have hji17_ : (IntKind.i64.wrap (1 * 2 ^ min a2.toNat 64)) = ji17 := hji17
              have hji17z : a2 ≤ 64 → (IntKind.i64.wrap (1 * 2 ^ a2.toNat)) = ji17 := shl_small hji17
              have hji17u : (IntKind.i64.wrap (2 ^ min a2.toNat 64)) = ji17 := by have h_ := hji17_; rw [Int.one_mul] at h_; exact h_
              have hji17v : a2 ≤ 64 → (IntKind.i64.wrap (2 ^ a2.toNat)) = ji17 := fun hle_ => by have h_ := hji17z hle_; rw [Int.one_mul] at h_; exact h_
              have hji17y : (wrap64 (1 * 2 ^ min a2.toNat 64)) = ji17 := (i64_w _).symm.trans hji17_
              have hji17x : a2 ≤ 64 → (wrap64 (1 * 2 ^ a2.toNat)) = ji17 := fun h_ => (i64_w _).symm.trans (hji17z h_)
              have H' := Aside0.mk H
              clear H
              go_wp2
              go_meet
              case rel => exact ⟨_, (ji17), (by first | rfl | (simp; done) | (simp only [← hji17] <;> (first | rfl | simp)) | (simp [*]; done)), H', ⟨by have := HJ3.out; first | omega | exact Nat.le_refl _⟩, ⟨by repeat (first | (with_reducible first | exact HB.out | apply below_alloc | apply pw_below_drewN | apply below_drew1) | exact HB.out)⟩⟩
            · rw [if_neg c16] at H
              exact absurd H (by simp)
          · replace c15 := Bool.eq_false_iff.mpr c15
            subst c15
            have H1 : (counterpanelaw03_MixLow.j1 kj3 a0 a1 a2 t157 t158 0) = some r := by rw [if_neg (show ¬ (false = true) by decide)] at H; exact H
            clear H
            have H := H1
            clear H1
            have H' := Aside0.mk H
            clear H
            go_wp2
            go_meet
            case rel => exact ⟨_, (0), (by first | rfl | (simp; done) | (simp [*]; done)), H', ⟨by have := HJ3.out; first | omega | exact Nat.le_refl _⟩, ⟨by repeat (first | (with_reducible first | exact HB.out | apply below_alloc | apply pw_below_drewN | apply below_drew1) | exact HB.out)⟩⟩
        case rest =>
          clear HC12
          try clear c1
          try clear p2
          try clear c5
          try clear c5b0
          try clear c6
          try clear p6
          try clear c8
          try clear c13
          try clear c14
          try clear c15
          try clear c16
          try clear c16b0
          try clear c16b1
          try clear p2
          obtain ⟨kq, x9_11, rfl, HA, HJ11, HB⟩ := hcut
          cases kq with
          | zero => exact absurd HA.out (by simp [counterpanelaw03_MixLow.j1])
          | succ kj11 =>
            have H := HA.out
            clear HA
            simp only [counterpanelaw03_MixLow.j1] at H
            by_cases c18 : t158 = (wrap64 (t157 + x9_11))
            · rw [if_pos c18] at H
              have c18b0 : (t158 == (wrap64 (t157 + x9_11))) = true := beq_iff_eq.mpr c18
              have c18b1 : (t158 != (wrap64 (t157 + x9_11))) = false := bne_eq_false_iff_eq.mpr c18
              clear c18
              by_cases c19 : t157 ≥ 0
              · rw [if_pos c19] at H
                have c19b0 : decide (0 ≤ t157) = true := decide_eq_true c19
                clear c19
                by_cases c20 : 0 ≤ a2
                · rw [if_pos c20] at H
                  have c20b0 := eq_true c20
                  have c20b1 : decide (0 ≤ a2) = true := decide_eq_true c20
                  clear c20
                  obtain ⟨ji21, hji21⟩ : ∃ j_ : Int, (shl .i64 1 a2) = j_ := ⟨_, rfl⟩
                  replace H : (if t157 < (ji21) then ((mix_Low.f a0 a2).bind fun t160 => ((mix_Low.f a1 a2).bind fun t161 => ((mix_Alike.f kj11 a0 a1).bind fun t162 => (if ((t160 == t161) == (decide (t162 ≥ a2))) = true then ((counterpanelaw03_works.f kj11).bind fun t163 => (some t163)) else (none))))) else (none)) = some r := by first | (rw [hji21] at H; exact H) | (simp only [hji21] at H ⊢; exact H)
                  have hji21_ : (IntKind.i64.wrap (1 * 2 ^ min a2.toNat 64)) = ji21 := hji21
                  have hji21z : a2 ≤ 64 → (IntKind.i64.wrap (1 * 2 ^ a2.toNat)) = ji21 := shl_small hji21
                  have hji21u : (IntKind.i64.wrap (2 ^ min a2.toNat 64)) = ji21 := by have h_ := hji21_; rw [Int.one_mul] at h_; exact h_
                  have hji21v : a2 ≤ 64 → (IntKind.i64.wrap (2 ^ a2.toNat)) = ji21 := fun hle_ => by have h_ := hji21z hle_; rw [Int.one_mul] at h_; exact h_
                  have hji21y : (wrap64 (1 * 2 ^ min a2.toNat 64)) = ji21 := (i64_w _).symm.trans hji21_
                  have hji21x : a2 ≤ 64 → (wrap64 (1 * 2 ^ a2.toNat)) = ji21 := fun h_ => (i64_w _).symm.trans (hji21z h_)
                  by_cases c22 : t157 < (ji21)
                  · rw [if_pos c22] at H
                    have c22b0 : decide (t157 < (ji21)) = true := decide_eq_true c22
                    clear c22
                    replace H := Option.bind_eq_some_iff.mp H
                    obtain ⟨t160, A230, H⟩ := H
                    replace H : ((mix_Low.f a1 a2).bind fun t161 => ((mix_Alike.f kj11 a0 a1).bind fun t162 => (if ((t160 == t161) == (decide (t162 ≥ a2))) = true then ((counterpanelaw03_works.f kj11).bind fun t163 => (some t163)) else (none)))) = some r := H
                    have A23 := Aside0.mk A230
                    clear A230
                    replace H := Option.bind_eq_some_iff.mp H
                    obtain ⟨t161, A240, H⟩ := H
                    replace H : ((mix_Alike.f kj11 a0 a1).bind fun t162 => (if ((t160 == t161) == (decide (t162 ≥ a2))) = true then ((counterpanelaw03_works.f kj11).bind fun t163 => (some t163)) else (none))) = some r := H
                    have A24 := Aside0.mk A240
                    clear A240
                    replace H := Option.bind_eq_some_iff.mp H
                    obtain ⟨t162, A250, H⟩ := H
                    replace H : (if ((t160 == t161) == (decide (t162 ≥ a2))) = true then ((counterpanelaw03_works.f kj11).bind fun t163 => (some t163)) else (none)) = some r := H
                    have A25 := Aside0.mk A250
                    clear A250
                    by_cases c26 : ((t160 == t161) == (decide (t162 ≥ a2))) = true
                    · rw [if_pos c26] at H
                      have c26b0 : ((t160 == t161) == (decide (t162 ≥ a2))) = true := c26
                      (try (have c26b1 : decide ((t160 == t161) = (decide (t162 ≥ a2))) = true := by simpa using c26))
                      (try (have c26b2 : ((t160 == t161) == (decide (t162 ≥ a2))) = true := by simpa using c26))
                      clear c26
                      replace H := Option.bind_eq_some_iff.mp H
                      obtain ⟨t163, A270, H⟩ := H
                      replace H : (some t163) = some r := H
                      have A27 := Aside0.mk A270
                      clear A270
                      obtain rfl := Option.some.inj H
                      go_wp2_with (first | (go_at_call 14; (with_reducible refine (mix_Low.calls a0 a2 t160 _ A23.out).mono ?_); rintro e w28 ⟨rfl, hb⟩; have n0_ := Aside0.mk (below_step (by repeat (first | (with_reducible first | exact HB.out | apply below_alloc | apply pw_below_drewN | apply below_drew1) | exact HB.out)) hb); clear HB; have HB := n0_; clear n0_; (try clear hb); (try clear hb2); (try clear hk); (try clear hi)) | (go_at_call 14; (with_reducible refine (mix_Low.calls a1 a2 t161 _ A24.out).mono ?_); rintro e w29 ⟨rfl, hb⟩; have n0_ := Aside0.mk (below_step (by repeat (first | (with_reducible first | exact HB.out | apply below_alloc | apply pw_below_drewN | apply below_drew1) | exact HB.out)) hb); clear HB; have HB := n0_; clear n0_; (try clear hb); (try clear hb2); (try clear hk); (try clear hi)) | (go_at_call 11; (with_reducible refine (mix_Alike.calls kj11 a0 a1 t162 _ A25.out).mono ?_); rintro e w' ⟨rfl, ⟨nd, rfl⟩⟩) | (go_at_call 8; (with_reducible refine (counterpanelaw03_works.calls kj11  t163 _ A27.out).mono ?_); rintro e w30 ⟨rfl, hb⟩; have n0_ := Aside0.mk (below_step (by repeat (first | (with_reducible first | exact HB.out | apply below_alloc | apply pw_below_drewN | apply below_drew1) | exact HB.out)) hb); clear HB; have HB := n0_; clear n0_; (try clear hb); (try clear hb2); (try clear hk); (try clear hi)))
                      go_ret
                      exact ⟨by first | rfl | (simp [errW_none, errW_some] <;> rfl) | (simp only [← hji21]; first | rfl | (simp [errW_none, errW_some] <;> rfl)) | (simp [*, errW_none, errW_some] <;> rfl), by repeat (first | (with_reducible first | exact HB.out | apply below_alloc | apply pw_below_drewN | apply below_drew1) | exact HB.out)⟩
                    · rw [if_neg c26] at H
                      exact absurd H (by simp)
                  · rw [if_neg c22] at H
                    exact absurd H (by simp)
                · rw [if_neg c20] at H
                  exact absurd H (by simp)
              · rw [if_neg c19] at H
                exact absurd H (by simp)
            · rw [if_neg c18] at H
              exact absurd H (by simp)

/-- THE ONE PURE STATEMENT of counterpanelaw03_MixLow: yours. -/
def counterpanelaw03_MixLow.Pure : Prop := ∀ (a0 : Int) (a1 : Int) (a2 : Int), (Lit.int .u64 a0).wf = true → (Lit.int .u64 a1).wf = true → (Lit.int .i64 a2).wf = true → ∃ k, counterpanelaw03_MixLow.f k a0 a1 a2 = some true
theorem counterpanelaw03_MixLow.walk (P : counterpanelaw03_MixLow.Pure) (a0 : Int) (a1 : Int) (a2 : Int) (w : World) (w0 : (Lit.int .u64 a0).wf = true) (w1 : (Lit.int .u64 a1).wf = true) (w2 : (Lit.int .i64 a2).wf = true) :
    Calls Try.prog 5 #[.int .u64 a0, .int .u64 a1, .int .i64 a2] w fun e w' => e = .returned (.bool true) ∧ Below w.heap.size w w' := by
  obtain ⟨k, h⟩ := P a0 a1 a2 w0 w1 w2
  refine (counterpanelaw03_MixLow.calls k a0 a1 a2 true w h).mono ?_
  rintro e w' ⟨rfl, hd⟩
  exact ⟨rfl, hd⟩

end Go.Proofs.Ytbmkkehbmkcinaa.PAll
