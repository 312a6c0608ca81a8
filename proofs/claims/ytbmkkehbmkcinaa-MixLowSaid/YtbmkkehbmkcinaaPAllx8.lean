/- The functions that the laws of this seat reach, as plain functions with proofs that the calls answer just so (written by a program of this session on the kit's print). -/
import Derived.Test.YtbmkkehbmkcinaaPAllx0
import Derived.Test.YtbmkkehbmkcinaaPAllx2
import Derived.Test.YtbmkkehbmkcinaaPAllx3
import Derived.Test.YtbmkkehbmkcinaaPAllx4
import Derived.Test.YtbmkkehbmkcinaaPAllx5
import Derived.Test.YtbmkkehbmkcinaaPAllx6
import Derived.Test.YtbmkkehbmkcinaaPAllx7
namespace Go.Proofs.Ytbmkkehbmkcinaa.PAll
open Go.RowKit Go.Proofs.YtbmkkehbmkcinaaW.PrintWords Go.Proofs.YtbmkkehbmkcinaaW.PrintLast Go.Proofs.YtbmkkehbmkcinaaW.PrintMore
attribute [local go_sem] max2_int min2_int max_two min_two max_three min_three max_four min_four   -- for this text's walks alone
set_option linter.unusedVariables false
set_option linter.unusedSimpArgs false

/-! ### counterpanelaw03_works: function 8 -/
def counterpanelaw03_works.f (k : Nat)  : Option (Bool) := (mix_Split.f (([1, 2, 3, 4, 5, 6, 7, 8] : List Int)) 0).bind fun bt111 => ((mix_Mix.f 0).bind fun t117 => (if t117 = 16294208416658607535 then ((mix_Unmix.f k 16294208416658607535).bind fun t118 => (if t118 = 0 then ((mix_Low.f 0 8).bind fun t119 => (if t119 = 175 then ((mix_Low.f 0 0).bind fun t120 => (if t120 = 0 then ((mix_Bit.f 0 0).bind fun t121 => (if t121 = true then ((mix_Bit.f 0 64).bind fun t122 => (if t122 = true then (none) else (if (wrap64 ((bt111.1.length : Int) + (bt111.2.length : Int))) = 8 then ((mix_Alike.f k 5 5).bind fun t123 => (some (t123 == 64))) else (none)))) else (none))) else (none))) else (none))) else (none))) else (none)))
theorem counterpanelaw03_works.mono : ∀ k, LeO (counterpanelaw03_works.f k ) (counterpanelaw03_works.f (k + 1) ) := by
  intro  k
  unfold counterpanelaw03_works.f
  repeat' first
      | (with_reducible exact mix_Alike.mono _ _ _)
      | (with_reducible exact mix_Unmix.mono _ _)
      | (with_reducible exact LeO.refl _)
      | (with_reducible exact LeO.none _)
      | (with_reducible refine LeO.ite ?_ ?_)
      | (with_reducible refine LeO.bind ?_ (fun _ => ?_))
      | exact mix_Alike.mono _ _ _
      | exact mix_Unmix.mono _ _
      | exact LeO.none _
      | refine LeO.ite ?_ ?_
      | refine LeO.bind ?_ (fun _ => ?_)
set_option maxHeartbeats 8000000 in
set_option maxRecDepth 100000 in
theorem counterpanelaw03_works.calls (k : Nat)  (r : Bool) (w : World) (h : counterpanelaw03_works.f k  = some r) :
    Calls Try.prog 8 #[] w fun e w' => e = .returned (.bool r) ∧ Below w.heap.size w w' := by
  have HB := Aside0.mk (Below.refl w.heap.size w)
  have H : ((mix_Split.f (([1, 2, 3, 4, 5, 6, 7, 8] : List Int)) 0).bind fun bt111 => ((mix_Mix.f 0).bind fun t117 => (if t117 = 16294208416658607535 then ((mix_Unmix.f k 16294208416658607535).bind fun t118 => (if t118 = 0 then ((mix_Low.f 0 8).bind fun t119 => (if t119 = 175 then ((mix_Low.f 0 0).bind fun t120 => (if t120 = 0 then ((mix_Bit.f 0 0).bind fun t121 => (if t121 = true then ((mix_Bit.f 0 64).bind fun t122 => (if t122 = true then (none) else (if (wrap64 ((bt111.1.length : Int) + (bt111.2.length : Int))) = 8 then ((mix_Alike.f k 5 5).bind fun t123 => (some (t123 == 64))) else (none)))) else (none))) else (none))) else (none))) else (none))) else (none)))) = some r := h
  clear h
  obtain ⟨y108, hy108⟩ : ∃ y_ : List Int, y_ = (([1, 2, 3, 4, 5, 6, 7, 8] : List Int)) := ⟨_, rfl⟩
  replace H : ((mix_Split.f y108 0).bind fun bt111 => ((mix_Mix.f 0).bind fun t117 => (if t117 = 16294208416658607535 then ((mix_Unmix.f k 16294208416658607535).bind fun t118 => (if t118 = 0 then ((mix_Low.f 0 8).bind fun t119 => (if t119 = 175 then ((mix_Low.f 0 0).bind fun t120 => (if t120 = 0 then ((mix_Bit.f 0 0).bind fun t121 => (if t121 = true then ((mix_Bit.f 0 64).bind fun t122 => (if t122 = true then (none) else (if (wrap64 ((bt111.1.length : Int) + (bt111.2.length : Int))) = 8 then ((mix_Alike.f k 5 5).bind fun t123 => (some (t123 == 64))) else (none)))) else (none))) else (none))) else (none))) else (none))) else (none)))) = some r := by first | (rw [hy108]; with_reducible exact H) | (have H2_ := (Option.bind_some _ _).symm.trans H; rw [hy108]; with_reducible exact H2_) | (have H2_ := (Option.bind_some _ _).symm.trans H; with_reducible exact H2_) | with_reducible exact H | (rw [hy108]; exact H) | exact H
  have Ny108 := Aside0.mk hy108
  clear hy108
  replace H := Option.bind_eq_some_iff.mp H
  obtain ⟨⟨t111, t112⟩, A10, H⟩ := H
  replace H : ((mix_Mix.f 0).bind fun t117 => (if t117 = 16294208416658607535 then ((mix_Unmix.f k 16294208416658607535).bind fun t118 => (if t118 = 0 then ((mix_Low.f 0 8).bind fun t119 => (if t119 = 175 then ((mix_Low.f 0 0).bind fun t120 => (if t120 = 0 then ((mix_Bit.f 0 0).bind fun t121 => (if t121 = true then ((mix_Bit.f 0 64).bind fun t122 => (if t122 = true then (none) else (if (wrap64 ((t111.length : Int) + (t112.length : Int))) = 8 then ((mix_Alike.f k 5 5).bind fun t123 => (some (t123 == 64))) else (none)))) else (none))) else (none))) else (none))) else (none))) else (none))) = some r := H
  have A1 := Aside0.mk A10
  clear A10
  replace H := Option.bind_eq_some_iff.mp H
  obtain ⟨t117, A20, H⟩ := H
  replace H : (if t117 = 16294208416658607535 then ((mix_Unmix.f k 16294208416658607535).bind fun t118 => (if t118 = 0 then ((mix_Low.f 0 8).bind fun t119 => (if t119 = 175 then ((mix_Low.f 0 0).bind fun t120 => (if t120 = 0 then ((mix_Bit.f 0 0).bind fun t121 => (if t121 = true then ((mix_Bit.f 0 64).bind fun t122 => (if t122 = true then (none) else (if (wrap64 ((t111.length : Int) + (t112.length : Int))) = 8 then ((mix_Alike.f k 5 5).bind fun t123 => (some (t123 == 64))) else (none)))) else (none))) else (none))) else (none))) else (none))) else (none)) = some r := H
  have A2 := Aside0.mk A20
  clear A20
  by_cases c3 : t117 = 16294208416658607535
  · rw [if_pos c3] at H
    have c3b0 : (t117 == 16294208416658607535) = true := beq_iff_eq.mpr c3
    have c3b1 : (t117 != 16294208416658607535) = false := bne_eq_false_iff_eq.mpr c3
    clear c3
    replace H := Option.bind_eq_some_iff.mp H
    obtain ⟨t118, A40, H⟩ := H
    replace H : (if t118 = 0 then ((mix_Low.f 0 8).bind fun t119 => (if t119 = 175 then ((mix_Low.f 0 0).bind fun t120 => (if t120 = 0 then ((mix_Bit.f 0 0).bind fun t121 => (if t121 = true then ((mix_Bit.f 0 64).bind fun t122 => (if t122 = true then (none) else (if (wrap64 ((t111.length : Int) + (t112.length : Int))) = 8 then ((mix_Alike.f k 5 5).bind fun t123 => (some (t123 == 64))) else (none)))) else (none))) else (none))) else (none))) else (none)) = some r := H
    have A4 := Aside0.mk A40
    clear A40
    by_cases c5 : t118 = 0
    · rw [if_pos c5] at H
      have c5b0 : (t118 == 0) = true := beq_iff_eq.mpr c5
      have c5b1 : (t118 != 0) = false := bne_eq_false_iff_eq.mpr c5
      clear c5
      replace H := Option.bind_eq_some_iff.mp H
      obtain ⟨t119, A60, H⟩ := H
      replace H : (if t119 = 175 then ((mix_Low.f 0 0).bind fun t120 => (if t120 = 0 then ((mix_Bit.f 0 0).bind fun t121 => (if t121 = true then ((mix_Bit.f 0 64).bind fun t122 => (if t122 = true then (none) else (if (wrap64 ((t111.length : Int) + (t112.length : Int))) = 8 then ((mix_Alike.f k 5 5).bind fun t123 => (some (t123 == 64))) else (none)))) else (none))) else (none))) else (none)) = some r := H
      have A6 := Aside0.mk A60
      clear A60
      by_cases c7 : t119 = 175
      · rw [if_pos c7] at H
        have c7b0 : (t119 == 175) = true := beq_iff_eq.mpr c7
        have c7b1 : (t119 != 175) = false := bne_eq_false_iff_eq.mpr c7
        clear c7
        replace H := Option.bind_eq_some_iff.mp H
        obtain ⟨t120, A80, H⟩ := H
        replace H : (if t120 = 0 then ((mix_Bit.f 0 0).bind fun t121 => (if t121 = true then ((mix_Bit.f 0 64).bind fun t122 => (if t122 = true then (none) else (if (wrap64 ((t111.length : Int) + (t112.length : Int))) = 8 then ((mix_Alike.f k 5 5).bind fun t123 => (some (t123 == 64))) else (none)))) else (none))) else (none)) = some r := H
        have A8 := Aside0.mk A80
        clear A80
        by_cases c9 : t120 = 0
        · rw [if_pos c9] at H
          have c9b0 : (t120 == 0) = true := beq_iff_eq.mpr c9
          have c9b1 : (t120 != 0) = false := bne_eq_false_iff_eq.mpr c9
          clear c9
          replace H := Option.bind_eq_some_iff.mp H
          obtain ⟨t121, A100, H⟩ := H
          replace H : (if t121 = true then ((mix_Bit.f 0 64).bind fun t122 => (if t122 = true then (none) else (if (wrap64 ((t111.length : Int) + (t112.length : Int))) = 8 then ((mix_Alike.f k 5 5).bind fun t123 => (some (t123 == 64))) else (none)))) else (none)) = some r := H
          have A10 := Aside0.mk A100
          clear A100
          by_cases c11 : t121 = true
          · subst c11
            have H1 : ((mix_Bit.f 0 64).bind fun t122 => (if t122 = true then (none) else (if (wrap64 ((t111.length : Int) + (t112.length : Int))) = 8 then ((mix_Alike.f k 5 5).bind fun t123 => (some (t123 == 64))) else (none)))) = some r := by rw [if_pos rfl] at H; exact H
            clear H
            have H := H1
            clear H1
            replace H := Option.bind_eq_some_iff.mp H
            obtain ⟨t122, A120, H⟩ := H
            replace H : (if t122 = true then (none) else (if (wrap64 ((t111.length : Int) + (t112.length : Int))) = 8 then ((mix_Alike.f k 5 5).bind fun t123 => (some (t123 == 64))) else (none))) = some r := H
            have A12 := Aside0.mk A120
            clear A120
            by_cases c13 : t122 = true
            · subst c13
              have H1 : (none) = some r := by rw [if_pos rfl] at H; exact H
              clear H
              have H := H1
              clear H1
              exact absurd H (by simp)
            · replace c13 := Bool.eq_false_iff.mpr c13
              subst c13
              have H1 : (if (wrap64 ((t111.length : Int) + (t112.length : Int))) = 8 then ((mix_Alike.f k 5 5).bind fun t123 => (some (t123 == 64))) else (none)) = some r := by rw [if_neg (show ¬ (false = true) by decide)] at H; exact H
              clear H
              have H := H1
              clear H1
              by_cases c14 : (wrap64 ((t111.length : Int) + (t112.length : Int))) = 8
              · rw [if_pos c14] at H
                have c14b0 : ((wrap64 ((t111.length : Int) + (t112.length : Int))) == 8) = true := beq_iff_eq.mpr c14
                have c14b1 : ((wrap64 ((t111.length : Int) + (t112.length : Int))) != 8) = false := bne_eq_false_iff_eq.mpr c14
                clear c14
                replace H := Option.bind_eq_some_iff.mp H
                obtain ⟨t123, A150, H⟩ := H
                replace H : (some (t123 == 64)) = some r := H
                have A15 := Aside0.mk A150
                clear A150
                obtain rfl := Option.some.inj H
                go_enter Try.func8, Try.ntmps8
                go_wp2_with (first | ((with_reducible refine gate_dst (N := 4) rfl ?_); (try (refine gate_guard (by rfl) ?_; dsimp only)); refine Kd.R_lit (Kd.int .u64) _ 22 ?hg (N := 4) ?hd (xs := ([1, 2, 3, 4, 5, 6, 7, 8] : List Int)) (inner := [.int .u64 1, .int .u64 2, .int .u64 3, .int .u64 4, .int .u64 5, .int .u64 6, .int .u64 7, .int .u64 8]) (ok := fun _ => True) (okp := fun _ => True) ?hr ?hp (fun _ hk => hk) trivial (Below.refl _ _) (Nat.le_refl _) (by simp) ?_; (case hd => rfl); (case hg => rfl); (case hr => first | (go_simp; done) | (go_simp; rfl)); (case hp => exact (Reps.one (show Kd.M (Kd.int .u64) _ _ _ 1 [.int .u64 1] from rfl) (Reps.one (show Kd.M (Kd.int .u64) _ _ _ 2 [.int .u64 2] from rfl) (Reps.one (show Kd.M (Kd.int .u64) _ _ _ 3 [.int .u64 3] from rfl) (Reps.one (show Kd.M (Kd.int .u64) _ _ _ 4 [.int .u64 4] from rfl) (Reps.one (show Kd.M (Kd.int .u64) _ _ _ 5 [.int .u64 5] from rfl) (Reps.one (show Kd.M (Kd.int .u64) _ _ _ 6 [.int .u64 6] from rfl) (Reps.one (show Kd.M (Kd.int .u64) _ _ _ 7 [.int .u64 7] from rfl) (Reps.one (show Kd.M (Kd.int .u64) _ _ _ 8 [.int .u64 8] from rfl) (Reps.none _ _)))))))))); intro v109 w16 ho17 hb hg_ hnew_; clear hg_ hnew_; (first | rw [← Ny108.out] at ho17 | (simp only [Int.reduceToNat] at ho17; rw [← Ny108.out] at ho17)); have n0_ := Aside0.mk (Kd.R_lower ho17 (below_size (by repeat (first | (with_reducible first | exact HB.out | apply below_alloc | apply pw_below_drewN | apply below_drew1) | exact HB.out)))); have n1_ := Aside0.mk (below_step (by repeat (first | (with_reducible first | exact HB.out | apply below_alloc | apply pw_below_drewN | apply below_drew1) | exact HB.out)) hb); clear HB; have HO110 := n0_; have HB := n1_; clear n0_ n1_; clear hb ho17; obtain ⟨Ao18, co18, eo18⟩ := Kd.R_slice HO110.out; subst eo18) | ((with_reducible refine gate_callee (f := 9) rfl ?_); refine goesL_ (some 5) rfl rfl Try.func9 (by kernel_rfl) rfl #[.slice Ao18 y108.length co18, .int .i64 0] rfl (by (try simp only [List.map_toArray, List.map_cons, List.map_nil]); first | done | rfl | (simp only [List.length_drop, List.length_take]; rfl)) ?_; (with_reducible refine (mix_Split.calls _ _ y108 0 t111 t112 _ ?side1 ?side2 A1.out).mono ?_); (case side1 => repeat (first | exact (Kd.R_reads' HO110.out).2.2 | (with_reducible refine Kd.C_alloc ?_ _) | (with_reducible refine Kd.C_drewN ?_ _) | (with_reducible refine Kd.C_drew ?_))); (case side2 => exact (Kd.R_reads' HO110.out).2.1); rintro e w19 ⟨v113, v115, rfl, ho0, ho1, hb⟩; refine ⟨_, rfl, ?_⟩; have n0_ := Aside0.mk (Kd.R_mono (Kd.R_told (Kd.R_told (Kd.R_old (by (with_reducible repeat (first | apply Kd.R_alloc | apply Kd.R_drewN | apply Kd.R_drew)); exact HO110.out) hb) (Kd.R_base ho0)) (Kd.R_base ho1)) (fun _ h_ => h_.1)); have n1_ := Aside0.mk (Kd.R_lower (Kd.R_new' ho0 (Kd.R_lt (by (with_reducible repeat (first | apply Kd.R_alloc | apply Kd.R_drewN | apply Kd.R_drew)); exact HO110.out))) (below_size (by repeat (first | (with_reducible first | exact HB.out | apply below_alloc | apply pw_below_drewN | apply below_drew1) | exact HB.out)))); have n2_ := Aside0.mk (Kd.R_lower (Kd.R_new' ho1 (Kd.R_lt (by (with_reducible repeat (first | apply Kd.R_alloc | apply Kd.R_drewN | apply Kd.R_drew)); exact HO110.out))) (below_size (by repeat (first | (with_reducible first | exact HB.out | apply below_alloc | apply pw_below_drewN | apply below_drew1) | exact HB.out)))); have n3_ := Aside0.mk (below_step (by repeat (first | (with_reducible first | exact HB.out | apply below_alloc | apply pw_below_drewN | apply below_drew1) | exact HB.out)) hb); clear HO110; clear HB; have HO110 := n0_; have HO114 := n1_; have HO116 := n2_; have HB := n3_; clear n0_ n1_ n2_ n3_; (try clear hb); (try clear hb2); (try clear hk); (try clear hi); (try clear ho0); (try clear ho1)) | ((with_reducible refine gate_callee (f := 7) rfl ?_); refine goesL_ (some 8) rfl rfl Try.func7 (by kernel_rfl) rfl #[.int .u64 0] rfl (by (try simp only [List.map_toArray, List.map_cons, List.map_nil]); first | done | rfl | (simp only [List.length_drop, List.length_take]; rfl)) ?_; (with_reducible refine (mix_Mix.calls 0 t117 _ A2.out).mono ?_); rintro e w' ⟨rfl, ⟨nd, rfl⟩⟩; refine ⟨_, rfl, ?_⟩) | (go_at_call 6; (with_reducible refine (mix_Unmix.calls k 16294208416658607535 t118 _ A4.out).mono ?_); rintro e w' ⟨rfl, ⟨nd, rfl⟩⟩) | (go_at_call 14; (with_reducible refine (mix_Low.calls 0 8 t119 _ A6.out).mono ?_); rintro e w20 ⟨rfl, hb⟩; have n0_ := Aside0.mk (Kd.R_below (by (with_reducible repeat (first | apply Kd.R_alloc | apply Kd.R_drewN | apply Kd.R_drew)); exact HO110.out) hb); have n1_ := Aside0.mk (Kd.R_below (by (with_reducible repeat (first | apply Kd.R_alloc | apply Kd.R_drewN | apply Kd.R_drew)); exact HO114.out) hb); have n2_ := Aside0.mk (Kd.R_below (by (with_reducible repeat (first | apply Kd.R_alloc | apply Kd.R_drewN | apply Kd.R_drew)); exact HO116.out) hb); have n3_ := Aside0.mk (below_step (by repeat (first | (with_reducible first | exact HB.out | apply below_alloc | apply pw_below_drewN | apply below_drew1) | exact HB.out)) hb); clear HO110; clear HO114; clear HO116; clear HB; have HO110 := n0_; have HO114 := n1_; have HO116 := n2_; have HB := n3_; clear n0_ n1_ n2_ n3_; (try clear hb); (try clear hb2); (try clear hk); (try clear hi)) | (go_at_call 14; (with_reducible refine (mix_Low.calls 0 0 t120 _ A8.out).mono ?_); rintro e w21 ⟨rfl, hb⟩; have n0_ := Aside0.mk (Kd.R_below (by (with_reducible repeat (first | apply Kd.R_alloc | apply Kd.R_drewN | apply Kd.R_drew)); exact HO110.out) hb); have n1_ := Aside0.mk (Kd.R_below (by (with_reducible repeat (first | apply Kd.R_alloc | apply Kd.R_drewN | apply Kd.R_drew)); exact HO114.out) hb); have n2_ := Aside0.mk (Kd.R_below (by (with_reducible repeat (first | apply Kd.R_alloc | apply Kd.R_drewN | apply Kd.R_drew)); exact HO116.out) hb); have n3_ := Aside0.mk (below_step (by repeat (first | (with_reducible first | exact HB.out | apply below_alloc | apply pw_below_drewN | apply below_drew1) | exact HB.out)) hb); clear HO110; clear HO114; clear HO116; clear HB; have HO110 := n0_; have HO114 := n1_; have HO116 := n2_; have HB := n3_; clear n0_ n1_ n2_ n3_; (try clear hb); (try clear hb2); (try clear hk); (try clear hi)) | (go_at_call 13; (with_reducible refine (mix_Bit.calls 0 0 true _ A10.out).mono ?_); rintro e w' ⟨rfl, ⟨nd, rfl⟩⟩) | (go_at_call 13; (with_reducible refine (mix_Bit.calls 0 64 false _ A12.out).mono ?_); rintro e w' ⟨rfl, ⟨nd, rfl⟩⟩; obtain ⟨Ao22, co22, eo22⟩ := Kd.R_slice HO114.out; subst eo22; obtain ⟨Ao23, co23, eo23⟩ := Kd.R_slice HO116.out; subst eo23) | (go_at_call 11; (with_reducible refine (mix_Alike.calls k 5 5 t123 _ A15.out).mono ?_); rintro e w' ⟨rfl, ⟨nd, rfl⟩⟩))
                go_ret
                exact ⟨by first | rfl | (simp [errW_none, errW_some] <;> rfl) | (simp [*, errW_none, errW_some] <;> rfl), by repeat (first | (with_reducible first | exact HB.out | apply below_alloc | apply pw_below_drewN | apply below_drew1) | exact HB.out)⟩
              · rw [if_neg c14] at H
                exact absurd H (by simp)
          · replace c11 := Bool.eq_false_iff.mpr c11
            subst c11
            have H1 : (none) = some r := by rw [if_neg (show ¬ (false = true) by decide)] at H; exact H
            clear H
            have H := H1
            clear H1
            exact absurd H (by simp)
        · rw [if_neg c9] at H
          exact absurd H (by simp)
      · rw [if_neg c7] at H
        exact absurd H (by simp)
    · rw [if_neg c5] at H
      exact absurd H (by simp)
  · rw [if_neg c3] at H
    exact absurd H (by simp)

end Go.Proofs.Ytbmkkehbmkcinaa.PAll
