/- The functions that the laws of this seat reach, as plain functions with proofs that the calls answer just so (written by a program of this session on the kit's print). -/
import Derived.Test.YtabkoclmhdnjfaaPAllx0
import Derived.Test.YtabkoclmhdnjfaaPAllx3
import Derived.Test.YtabkoclmhdnjfaaPAllx7
import Derived.Test.YtabkoclmhdnjfaaPAllx9
import Derived.Test.YtabkoclmhdnjfaaPAllx15
import Derived.Test.YtabkoclmhdnjfaaPAllx16
namespace Go.Proofs.Ytabkoclmhdnjfaa.PAll
open Go.RowKit Go.Proofs.YtabkoclmhdnjfaaW.PrintWords Go.Proofs.YtabkoclmhdnjfaaW.PrintLast Go.Proofs.YtabkoclmhdnjfaaW.PrintMore
attribute [local go_sem] max2_int min2_int max_two min_two max_three min_three max_four min_four   -- for this text's walks alone
set_option linter.unusedVariables false
set_option linter.unusedSimpArgs false

/-! ### counterpanelaw24_works: function 12 -/
def counterpanelaw24_works.f (k : Nat)  : Option (Bool) := (zcode_Point.f 11).bind fun bt127 => ((zcode_Next.f k 1 1 2 2 4).bind fun bt129 => ((zcode_Next.f k 1 1 2 2 13).bind fun bt131 => ((zcode_Code.f 1 3).bind fun t133 => (if t133 = 11 then (if bt127.1 = 1 then (if bt127.2 = 3 then (if bt129.2 = true then (if bt129.1 = 6 then (if bt131.2 = true then (none) else ((zcode_Count.f k 1 1 2 2 10 9).bind fun t134 => (if t134 = 3 then ((zcode_Less.f 1 0 0 1).bind fun t135 => (if t135 = true then ((zcode_Less.f 0 1 1 0).bind fun t136 => (some (!t136))) else (none))) else (none)))) else (none)) else (none)) else (none)) else (none)) else (none)))))
theorem counterpanelaw24_works.mono : ∀ k, LeO (counterpanelaw24_works.f k ) (counterpanelaw24_works.f (k + 1) ) := by
  intro  k
  unfold counterpanelaw24_works.f
  repeat' first
      | (with_reducible exact zcode_Count.mono _ _ _ _ _ _ _)
      | (with_reducible exact zcode_Next.mono _ _ _ _ _ _)
      | (with_reducible exact LeO.refl _)
      | (with_reducible exact LeO.none _)
      | (with_reducible refine LeO.ite ?_ ?_)
      | (with_reducible refine LeO.bind ?_ (fun _ => ?_))
      | exact zcode_Count.mono _ _ _ _ _ _ _
      | exact zcode_Next.mono _ _ _ _ _ _
      | exact LeO.none _
      | refine LeO.ite ?_ ?_
      | refine LeO.bind ?_ (fun _ => ?_)
set_option maxHeartbeats 8000000 in
set_option maxRecDepth 100000 in
theorem counterpanelaw24_works.calls (k : Nat)  (r : Bool) (w : World) (h : counterpanelaw24_works.f k  = some r) :
    Calls Try.prog 12 #[] w fun e w' => e = .returned (.bool r) ∧ Below w.heap.size w w' := by
  have hu31 := Try.underlying31
  have HB := Aside0.mk (Below.refl w.heap.size w)
  have H : ((zcode_Point.f 11).bind fun bt127 => ((zcode_Next.f k 1 1 2 2 4).bind fun bt129 => ((zcode_Next.f k 1 1 2 2 13).bind fun bt131 => ((zcode_Code.f 1 3).bind fun t133 => (if t133 = 11 then (if bt127.1 = 1 then (if bt127.2 = 3 then (if bt129.2 = true then (if bt129.1 = 6 then (if bt131.2 = true then (none) else ((zcode_Count.f k 1 1 2 2 10 9).bind fun t134 => (if t134 = 3 then ((zcode_Less.f 1 0 0 1).bind fun t135 => (if t135 = true then ((zcode_Less.f 0 1 1 0).bind fun t136 => (some (!t136))) else (none))) else (none)))) else (none)) else (none)) else (none)) else (none)) else (none)))))) = some r := h
  clear h
  replace H := Option.bind_eq_some_iff.mp H
  obtain ⟨⟨t127, t128⟩, A10, H⟩ := H
  replace H : ((zcode_Next.f k 1 1 2 2 4).bind fun bt129 => ((zcode_Next.f k 1 1 2 2 13).bind fun bt131 => ((zcode_Code.f 1 3).bind fun t133 => (if t133 = 11 then (if t127 = 1 then (if t128 = 3 then (if bt129.2 = true then (if bt129.1 = 6 then (if bt131.2 = true then (none) else ((zcode_Count.f k 1 1 2 2 10 9).bind fun t134 => (if t134 = 3 then ((zcode_Less.f 1 0 0 1).bind fun t135 => (if t135 = true then ((zcode_Less.f 0 1 1 0).bind fun t136 => (some (!t136))) else (none))) else (none)))) else (none)) else (none)) else (none)) else (none)) else (none))))) = some r := H
  have A1 := Aside0.mk A10
  clear A10
  replace H := Option.bind_eq_some_iff.mp H
  obtain ⟨⟨t129, t130⟩, A20, H⟩ := H
  replace H : ((zcode_Next.f k 1 1 2 2 13).bind fun bt131 => ((zcode_Code.f 1 3).bind fun t133 => (if t133 = 11 then (if t127 = 1 then (if t128 = 3 then (if t130 = true then (if t129 = 6 then (if bt131.2 = true then (none) else ((zcode_Count.f k 1 1 2 2 10 9).bind fun t134 => (if t134 = 3 then ((zcode_Less.f 1 0 0 1).bind fun t135 => (if t135 = true then ((zcode_Less.f 0 1 1 0).bind fun t136 => (some (!t136))) else (none))) else (none)))) else (none)) else (none)) else (none)) else (none)) else (none)))) = some r := H
  have A2 := Aside0.mk A20
  clear A20
  replace H := Option.bind_eq_some_iff.mp H
  obtain ⟨⟨t131, t132⟩, A30, H⟩ := H
  replace H : ((zcode_Code.f 1 3).bind fun t133 => (if t133 = 11 then (if t127 = 1 then (if t128 = 3 then (if t130 = true then (if t129 = 6 then (if t132 = true then (none) else ((zcode_Count.f k 1 1 2 2 10 9).bind fun t134 => (if t134 = 3 then ((zcode_Less.f 1 0 0 1).bind fun t135 => (if t135 = true then ((zcode_Less.f 0 1 1 0).bind fun t136 => (some (!t136))) else (none))) else (none)))) else (none)) else (none)) else (none)) else (none)) else (none))) = some r := H
  have A3 := Aside0.mk A30
  clear A30
  replace H := Option.bind_eq_some_iff.mp H
  obtain ⟨t133, A40, H⟩ := H
  replace H : (if t133 = 11 then (if t127 = 1 then (if t128 = 3 then (if t130 = true then (if t129 = 6 then (if t132 = true then (none) else ((zcode_Count.f k 1 1 2 2 10 9).bind fun t134 => (if t134 = 3 then ((zcode_Less.f 1 0 0 1).bind fun t135 => (if t135 = true then ((zcode_Less.f 0 1 1 0).bind fun t136 => (some (!t136))) else (none))) else (none)))) else (none)) else (none)) else (none)) else (none)) else (none)) = some r := H
  have A4 := Aside0.mk A40
  clear A40
  by_cases c5 : t133 = 11
  · rw [if_pos c5] at H
    have c5b0 : (t133 == 11) = true := beq_iff_eq.mpr c5
    have c5b1 : (t133 != 11) = false := bne_eq_false_iff_eq.mpr c5
    clear c5
    by_cases c6 : t127 = 1
    · rw [if_pos c6] at H
      have c6b0 : (t127 == 1) = true := beq_iff_eq.mpr c6
      have c6b1 : (t127 != 1) = false := bne_eq_false_iff_eq.mpr c6
      clear c6
      by_cases c7 : t128 = 3
      · rw [if_pos c7] at H
        have c7b0 : (t128 == 3) = true := beq_iff_eq.mpr c7
        have c7b1 : (t128 != 3) = false := bne_eq_false_iff_eq.mpr c7
        clear c7
        by_cases c8 : t130 = true
        · subst c8
          have H1 : (if t129 = 6 then (if t132 = true then (none) else ((zcode_Count.f k 1 1 2 2 10 9).bind fun t134 => (if t134 = 3 then ((zcode_Less.f 1 0 0 1).bind fun t135 => (if t135 = true then ((zcode_Less.f 0 1 1 0).bind fun t136 => (some (!t136))) else (none))) else (none)))) else (none)) = some r := by rw [if_pos rfl] at H; exact H
          clear H
          have H := H1
          clear H1
          by_cases c9 : t129 = 6
          · rw [if_pos c9] at H
            have c9b0 : (t129 == 6) = true := beq_iff_eq.mpr c9
            have c9b1 : (t129 != 6) = false := bne_eq_false_iff_eq.mpr c9
            clear c9
            by_cases c10 : t132 = true
            · subst c10
              have H1 : (none) = some r := by rw [if_pos rfl] at H; exact H
              clear H
              have H := H1
              clear H1
              exact absurd H (by simp)
            · replace c10 := Bool.eq_false_iff.mpr c10
              subst c10
              have H1 : ((zcode_Count.f k 1 1 2 2 10 9).bind fun t134 => (if t134 = 3 then ((zcode_Less.f 1 0 0 1).bind fun t135 => (if t135 = true then ((zcode_Less.f 0 1 1 0).bind fun t136 => (some (!t136))) else (none))) else (none))) = some r := by rw [if_neg (show ¬ (false = true) by decide)] at H; exact H
              clear H
              have H := H1
              clear H1
              replace H := Option.bind_eq_some_iff.mp H
              obtain ⟨t134, A110, H⟩ := H
              replace H : (if t134 = 3 then ((zcode_Less.f 1 0 0 1).bind fun t135 => (if t135 = true then ((zcode_Less.f 0 1 1 0).bind fun t136 => (some (!t136))) else (none))) else (none)) = some r := H
              have A11 := Aside0.mk A110
              clear A110
              by_cases c12 : t134 = 3
              · rw [if_pos c12] at H
                have c12b0 : (t134 == 3) = true := beq_iff_eq.mpr c12
                have c12b1 : (t134 != 3) = false := bne_eq_false_iff_eq.mpr c12
                clear c12
                replace H := Option.bind_eq_some_iff.mp H
                obtain ⟨t135, A130, H⟩ := H
                replace H : (if t135 = true then ((zcode_Less.f 0 1 1 0).bind fun t136 => (some (!t136))) else (none)) = some r := H
                have A13 := Aside0.mk A130
                clear A130
                by_cases c14 : t135 = true
                · subst c14
                  have H1 : ((zcode_Less.f 0 1 1 0).bind fun t136 => (some (!t136))) = some r := by rw [if_pos rfl] at H; exact H
                  clear H
                  have H := H1
                  clear H1
                  replace H := Option.bind_eq_some_iff.mp H
                  obtain ⟨t136, A150, H⟩ := H
                  replace H : (some (!t136)) = some r := H
                  have A15 := Aside0.mk A150
                  clear A150
                  obtain rfl := Option.some.inj H
                  go_enter Try.func12, Try.ntmps12
                  go_wp2_with (first | ((with_reducible refine gate_callee (f := 8) rfl ?_); refine goesL_ (some 8) rfl rfl Try.func8 (by kernel_rfl) rfl #[.int .u64 11] rfl (by (try simp only [List.map_toArray, List.map_cons, List.map_nil]); first | done | rfl | (simp only [List.length_drop, List.length_take]; rfl) | (simp; done)) ?_; (with_reducible refine (zcode_Point.calls 11 t127 t128 _ A1.out).mono ?_); rintro e w16 ⟨rfl, hb⟩; refine ⟨_, rfl, ?_⟩; have n0_ := Aside0.mk (below_step (by repeat (first | (with_reducible first | exact HB.out | apply below_alloc | apply pw_below_drewN | apply below_drew1) | exact HB.out)) hb); clear HB; have HB := n0_; clear n0_; (try clear hb); (try clear hb2); (try clear hk); (try clear hi)) | ((with_reducible refine gate_callee (f := 14) rfl ?_); refine goesL_ (some 13) rfl rfl Try.func14 (by kernel_rfl) rfl #[.agg #[.int .u32 1, .int .u32 1, .int .u32 2, .int .u32 2], .int .u64 4] rfl (by (try simp only [List.map_toArray, List.map_cons, List.map_nil]); first | done | rfl | (simp only [List.length_drop, List.length_take]; rfl) | (simp; done)) ?_; (with_reducible refine (zcode_Next.calls k 1 1 2 2 4 t129 true _ A2.out).mono ?_); rintro e w17 ⟨rfl, hb⟩; refine ⟨_, rfl, ?_⟩; have n0_ := Aside0.mk (below_step (by repeat (first | (with_reducible first | exact HB.out | apply below_alloc | apply pw_below_drewN | apply below_drew1) | exact HB.out)) hb); clear HB; have HB := n0_; clear n0_; (try clear hb); (try clear hb2); (try clear hk); (try clear hi)) | ((with_reducible refine gate_callee (f := 14) rfl ?_); refine goesL_ (some 18) rfl rfl Try.func14 (by kernel_rfl) rfl #[.agg #[.int .u32 1, .int .u32 1, .int .u32 2, .int .u32 2], .int .u64 13] rfl (by (try simp only [List.map_toArray, List.map_cons, List.map_nil]); first | done | rfl | (simp only [List.length_drop, List.length_take]; rfl) | (simp; done)) ?_; (with_reducible refine (zcode_Next.calls k 1 1 2 2 13 t131 false _ A3.out).mono ?_); rintro e w18 ⟨rfl, hb⟩; refine ⟨_, rfl, ?_⟩; have n0_ := Aside0.mk (below_step (by repeat (first | (with_reducible first | exact HB.out | apply below_alloc | apply pw_below_drewN | apply below_drew1) | exact HB.out)) hb); clear HB; have HB := n0_; clear n0_; (try clear hb); (try clear hb2); (try clear hk); (try clear hi)) | ((with_reducible refine gate_callee (f := 10) rfl ?_); refine goesL_ (some 21) rfl rfl Try.func10 (by kernel_rfl) rfl #[.int .u32 1, .int .u32 3] rfl (by (try simp only [List.map_toArray, List.map_cons, List.map_nil]); first | done | rfl | (simp only [List.length_drop, List.length_take]; rfl) | (simp; done)) ?_; (with_reducible refine (zcode_Code.calls 1 3 t133 _ A4.out).mono ?_); rintro e w19 ⟨rfl, hb⟩; refine ⟨_, rfl, ?_⟩; have n0_ := Aside0.mk (below_step (by repeat (first | (with_reducible first | exact HB.out | apply below_alloc | apply pw_below_drewN | apply below_drew1) | exact HB.out)) hb); clear HB; have HB := n0_; clear n0_; (try clear hb); (try clear hb2); (try clear hk); (try clear hi)) | (go_at_call 15; (with_reducible refine (zcode_Count.calls k 1 1 2 2 10 9 t134 _ A11.out).mono ?_); rintro e w20 ⟨rfl, hb⟩; have n0_ := Aside0.mk (below_step (by repeat (first | (with_reducible first | exact HB.out | apply below_alloc | apply pw_below_drewN | apply below_drew1) | exact HB.out)) hb); clear HB; have HB := n0_; clear n0_; (try clear hb); (try clear hb2); (try clear hk); (try clear hi)) | (go_at_call 13; (with_reducible refine (zcode_Less.calls 1 0 0 1 true _ A13.out).mono ?_); rintro e w' ⟨rfl, ⟨nd, rfl⟩⟩) | (go_at_call 13; (with_reducible refine (zcode_Less.calls 0 1 1 0 t136 _ A15.out).mono ?_); rintro e w' ⟨rfl, ⟨nd, rfl⟩⟩))
                  go_ret
                  exact ⟨by first | rfl | (simp [errW_none, errW_some] <;> rfl) | (simp [*, errW_none, errW_some] <;> rfl), by repeat (first | (with_reducible first | exact HB.out | apply below_alloc | apply pw_below_drewN | apply below_drew1) | exact HB.out)⟩
                · replace c14 := Bool.eq_false_iff.mpr c14
                  subst c14
                  have H1 : (none) = some r := by rw [if_neg (show ¬ (false = true) by decide)] at H; exact H
                  clear H
                  have H := H1
                  clear H1
                  exact absurd H (by simp)
              · rw [if_neg c12] at H
                exact absurd H (by simp)
          · rw [if_neg c9] at H
            exact absurd H (by simp)
        · replace c8 := Bool.eq_false_iff.mpr c8
          subst c8
          have H1 : (none) = some r := by rw [if_neg (show ¬ (false = true) by decide)] at H; exact H
          clear H
          have H := H1
          clear H1
          exact absurd H (by simp)
      · rw [if_neg c7] at H
        exact absurd H (by simp)
    · rw [if_neg c6] at H
      exact absurd H (by simp)
  · rw [if_neg c5] at H
    exact absurd H (by simp)

end Go.Proofs.Ytabkoclmhdnjfaa.PAll
