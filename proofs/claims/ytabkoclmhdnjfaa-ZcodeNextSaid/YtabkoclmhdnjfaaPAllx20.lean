/- The functions that the laws of this seat reach, as plain functions with proofs that the calls answer just so (written by a program of this session on the kit's print). -/
import Derived.Test.YtabkoclmhdnjfaaPAllx0
import Derived.Test.YtabkoclmhdnjfaaPAllx5
import Derived.Test.YtabkoclmhdnjfaaPAllx8
import Derived.Test.YtabkoclmhdnjfaaPAllx15
import Derived.Test.YtabkoclmhdnjfaaPAllx17
namespace Go.Proofs.Ytabkoclmhdnjfaa.PAll
open Go.RowKit Go.Proofs.YtabkoclmhdnjfaaW.PrintWords Go.Proofs.YtabkoclmhdnjfaaW.PrintLast Go.Proofs.YtabkoclmhdnjfaaW.PrintMore
attribute [local go_sem] max2_int min2_int max_two min_two max_three min_three max_four min_four   -- for this text's walks alone
set_option linter.unusedVariables false
set_option linter.unusedSimpArgs false

/-! ### counterpanelaw24_ZcodeNext: function 5 -/
def counterpanelaw24_ZcodeNext.j0 : Nat → Int → Int → Int → Int → Bool → Bool → Int → Int → Int → Int → Option (Bool)
  | 0, _, _, _, _, _, _, _, _, _, _ => none
  | k + 1, x1, x2, x3, x9, x10, x11, x155000, x155001, x155002, x155003 => (counterpaneref24_Code.f k x2 x3).bind fun t157 => (if x10 = true then ((counterpaneref24_Point.f k x9).bind fun bt158 => (if x9 ≥ x1 then (if x155000 ≤ bt158.1 then (if bt158.1 ≤ x155002 then (if x155001 ≤ bt158.2 then (if bt158.2 ≤ x155003 then (if x11 = true then (if t157 < x1 then ((counterpanelaw24_works.f k).bind fun t160 => (some t160)) else (if t157 ≥ x9 then ((counterpanelaw24_works.f k).bind fun t161 => (some t161)) else (none))) else ((counterpanelaw24_works.f k).bind fun t162 => (some t162))) else (none)) else (none)) else (none)) else (none)) else (none))) else (if x9 = 0 then (if x11 = true then (if t157 < x1 then ((counterpanelaw24_works.f k).bind fun t163 => (some t163)) else (none)) else ((counterpanelaw24_works.f k).bind fun t164 => (some t164))) else (none)))
def counterpanelaw24_ZcodeNext.f (k : Nat) (a0_0 : Int) (a0_1 : Int) (a0_2 : Int) (a0_3 : Int) (a1 : Int) (a2 : Int) (a3 : Int) : Option (Bool) := (zcode_Next.f k a0_0 a0_1 a0_2 a0_3 a1).bind fun bt155 => (if a0_0 ≤ a2 then (if a2 ≤ a0_2 then (if a0_1 ≤ a3 then (counterpanelaw24_ZcodeNext.j0 k a1 a2 a3 bt155.1 bt155.2 (decide (a3 ≤ a0_3)) a0_0 a0_1 a0_2 a0_3) else (counterpanelaw24_ZcodeNext.j0 k a1 a2 a3 bt155.1 bt155.2 false a0_0 a0_1 a0_2 a0_3)) else (counterpanelaw24_ZcodeNext.j0 k a1 a2 a3 bt155.1 bt155.2 false a0_0 a0_1 a0_2 a0_3)) else (counterpanelaw24_ZcodeNext.j0 k a1 a2 a3 bt155.1 bt155.2 false a0_0 a0_1 a0_2 a0_3))
theorem counterpanelaw24_ZcodeNext.mono_l : ∀ k, (∀ y0 y1 y2 y3 y4 y5 y6 y7 y8 y9, LeO (counterpanelaw24_ZcodeNext.j0 k y0 y1 y2 y3 y4 y5 y6 y7 y8 y9) (counterpanelaw24_ZcodeNext.j0 (k + 1) y0 y1 y2 y3 y4 y5 y6 y7 y8 y9))
  | 0 => fun _ _ _ _ _ _ _ _ _ _ r h => by simp [counterpanelaw24_ZcodeNext.j0] at h
  | k + 1 => by
    have ih0 := counterpanelaw24_ZcodeNext.mono_l k
    · intro y0 y1 y2 y3 y4 y5 y6 y7 y8 y9
      unfold counterpanelaw24_ZcodeNext.j0
      repeat' first
      | (with_reducible exact ih0 _ _ _ _ _ _ _ _ _ _)
      | (with_reducible exact counterpanelaw24_works.mono _)
      | (with_reducible exact counterpaneref24_Code.mono _ _ _)
      | (with_reducible exact counterpaneref24_Point.mono _ _)
      | (with_reducible exact zcode_Next.mono _ _ _ _ _ _)
      | (with_reducible exact LeO.refl _)
      | (with_reducible exact LeO.none _)
      | (with_reducible refine LeO.ite ?_ ?_)
      | (with_reducible refine LeO.bind ?_ (fun _ => ?_))
      | exact ih0 _ _ _ _ _ _ _ _ _ _
      | exact counterpanelaw24_works.mono _
      | exact counterpaneref24_Code.mono _ _ _
      | exact counterpaneref24_Point.mono _ _
      | exact zcode_Next.mono _ _ _ _ _ _
      | exact LeO.none _
      | refine LeO.ite ?_ ?_
      | refine LeO.bind ?_ (fun _ => ?_)
theorem counterpanelaw24_ZcodeNext.mono : ∀ a0 a1 a2 a3 a4 a5 a6 k, LeO (counterpanelaw24_ZcodeNext.f k a0 a1 a2 a3 a4 a5 a6) (counterpanelaw24_ZcodeNext.f (k + 1) a0 a1 a2 a3 a4 a5 a6) := by
  intro a0 a1 a2 a3 a4 a5 a6 k
  have ih0 := counterpanelaw24_ZcodeNext.mono_l k
  unfold counterpanelaw24_ZcodeNext.f
  repeat' first
      | (with_reducible exact ih0 _ _ _ _ _ _ _ _ _ _)
      | (with_reducible exact counterpanelaw24_works.mono _)
      | (with_reducible exact counterpaneref24_Code.mono _ _ _)
      | (with_reducible exact counterpaneref24_Point.mono _ _)
      | (with_reducible exact zcode_Next.mono _ _ _ _ _ _)
      | (with_reducible exact LeO.refl _)
      | (with_reducible exact LeO.none _)
      | (with_reducible refine LeO.ite ?_ ?_)
      | (with_reducible refine LeO.bind ?_ (fun _ => ?_))
      | exact ih0 _ _ _ _ _ _ _ _ _ _
      | exact counterpanelaw24_works.mono _
      | exact counterpaneref24_Code.mono _ _ _
      | exact counterpaneref24_Point.mono _ _
      | exact zcode_Next.mono _ _ _ _ _ _
      | exact LeO.none _
      | refine LeO.ite ?_ ?_
      | refine LeO.bind ?_ (fun _ => ?_)
set_option maxHeartbeats 8000000 in
set_option maxRecDepth 100000 in
theorem counterpanelaw24_ZcodeNext.calls (k : Nat) (a0_0 : Int) (a0_1 : Int) (a0_2 : Int) (a0_3 : Int) (a1 : Int) (a2 : Int) (a3 : Int) (r : Bool) (w : World) (h : counterpanelaw24_ZcodeNext.f k a0_0 a0_1 a0_2 a0_3 a1 a2 a3 = some r) :
    Calls Try.prog 5 #[.agg #[.int .u32 a0_0, .int .u32 a0_1, .int .u32 a0_2, .int .u32 a0_3], .int .u64 a1, .int .u32 a2, .int .u32 a3] w fun e w' => e = .returned (.bool r) ∧ Below w.heap.size w w' := by
  have hu31 := Try.underlying31
  have HB := Aside0.mk (Below.refl w.heap.size w)
  have H : ((zcode_Next.f k a0_0 a0_1 a0_2 a0_3 a1).bind fun bt155 => (if a0_0 ≤ a2 then (if a2 ≤ a0_2 then (if a0_1 ≤ a3 then (counterpanelaw24_ZcodeNext.j0 k a1 a2 a3 bt155.1 bt155.2 (decide (a3 ≤ a0_3)) a0_0 a0_1 a0_2 a0_3) else (counterpanelaw24_ZcodeNext.j0 k a1 a2 a3 bt155.1 bt155.2 false a0_0 a0_1 a0_2 a0_3)) else (counterpanelaw24_ZcodeNext.j0 k a1 a2 a3 bt155.1 bt155.2 false a0_0 a0_1 a0_2 a0_3)) else (counterpanelaw24_ZcodeNext.j0 k a1 a2 a3 bt155.1 bt155.2 false a0_0 a0_1 a0_2 a0_3))) = some r := h
  clear h
  replace H := Option.bind_eq_some_iff.mp H
  obtain ⟨⟨t155, t156⟩, A50, H⟩ := H
  replace H : (if a0_0 ≤ a2 then (if a2 ≤ a0_2 then (if a0_1 ≤ a3 then (counterpanelaw24_ZcodeNext.j0 k a1 a2 a3 t155 t156 (decide (a3 ≤ a0_3)) a0_0 a0_1 a0_2 a0_3) else (counterpanelaw24_ZcodeNext.j0 k a1 a2 a3 t155 t156 false a0_0 a0_1 a0_2 a0_3)) else (counterpanelaw24_ZcodeNext.j0 k a1 a2 a3 t155 t156 false a0_0 a0_1 a0_2 a0_3)) else (counterpanelaw24_ZcodeNext.j0 k a1 a2 a3 t155 t156 false a0_0 a0_1 a0_2 a0_3)) = some r := H
  have A5 := Aside0.mk A50
  clear A50
  have HC6 := Aside0.mk H
  clear H
  go_enter Try.func5, Try.ntmps5
  go_upto_region 2 with (first | ((with_reducible refine gate_dst (N := 4) rfl ?_); refine box_event ?hg (N := 4) ?hd (cs := #[.int .u32 a0_0, .int .u32 a0_1, .int .u32 a0_2, .int .u32 a0_3]) (t := 31) ?hr ?_; (case hd => rfl); (case hg => rfl); (case hr => first | (go_simp; done) | (go_simp; rfl)); intro gb154 hg w7 hbox hb; have n0_ := Aside0.mk (below_step (by repeat (first | (with_reducible first | exact HB.out | apply below_alloc | apply pw_below_drewN | apply below_drew1) | exact HB.out)) hb); have n1_ := Aside0.mk (hbox); have n2_ := Aside0.mk ((by rw [hg]; exact (below_size (by repeat (first | (with_reducible first | exact HB.out | apply below_alloc | apply pw_below_drewN | apply below_drew1) | exact HB.out))) : w.heap.size ≤ gb154)); have n3_ := Aside0.mk ((by rw [hg]; exact (below_size (by repeat (first | (with_reducible first | exact HB.out | apply below_alloc | apply pw_below_drewN | apply below_drew1) | exact HB.out))) : w.heap.size ≤ gb154)); clear HB; have HB := n0_; have BK154 := n1_; have GW154 := n2_; have GE154 := n3_; clear n0_ n1_ n2_ n3_; clear hb hbox hg; have hcz8_0 : w7.cell? ⟨gb154, 0, none⟩ = some (.int .u32 a0_0) := (blk_cell BK154.out 0).trans rfl; have hcz8_1 : w7.cell? ⟨gb154, 1, none⟩ = some (.int .u32 a0_1) := (blk_cell BK154.out 1).trans rfl; have hcz8_2 : w7.cell? ⟨gb154, 2, none⟩ = some (.int .u32 a0_2) := (blk_cell BK154.out 2).trans rfl; have hcz8_3 : w7.cell? ⟨gb154, 3, none⟩ = some (.int .u32 a0_3) := (blk_cell BK154.out 3).trans rfl; have hfz8_0 := blk_frozen BK154.out 0; have hfz8_1 := blk_frozen BK154.out 1; have hfz8_2 := blk_frozen BK154.out 2; have hfz8_3 := blk_frozen BK154.out 3) | ((with_reducible refine gate_callee (f := 14) rfl ?_); refine goesL_ (some 18) rfl rfl Try.func14 (by kernel_rfl) rfl #[.agg #[.int .u32 a0_0, .int .u32 a0_1, .int .u32 a0_2, .int .u32 a0_3], .int .u64 a1] rfl (by (try simp only [List.map_toArray, List.map_cons, List.map_nil]); first | done | rfl | (simp only [List.length_drop, List.length_take]; rfl) | (simp; done)) ?_; (with_reducible refine (zcode_Next.calls k a0_0 a0_1 a0_2 a0_3 a1 t155 t156 _ A5.out).mono ?_); rintro e w9 ⟨rfl, hb⟩; refine ⟨_, rfl, ?_⟩; have n0_ := Aside0.mk (blk_below (g := gb154) (o := .cells #[.int .u32 a0_0, .int .u32 a0_1, .int .u32 a0_2, .int .u32 a0_3] 31 (0, 0)) (by (with_reducible repeat (first | refine blk_drewN ?_ _ | refine blk_drew ?_ | refine blk_alloc ?_ _)); exact BK154.out) hb); have n1_ := Aside0.mk (below_step (by repeat (first | (with_reducible first | exact HB.out | apply below_alloc | apply pw_below_drewN | apply below_drew1 | refine below_set ?_ GE154.out) | exact HB.out)) hb); clear BK154; clear HB; have BK154 := n0_; have HB := n1_; clear n0_ n1_; (try clear hb); (try clear hb2); (try clear hk); (try clear hi)))
  (try simp only [Act.put, List.setIfInBounds_toArray, List.set_cons_zero, List.set_cons_succ])
  go_cut [11] (fun v11 wc => ∃ (kq : Nat) (x11_5 : Bool), v11 = .bool x11_5 ∧ Aside0 (counterpanelaw24_ZcodeNext.j0 kq a1 a2 a3 t155 t156 x11_5 a0_0 a0_1 a0_2 a0_3 = some r) ∧ Aside0 (kq ≤ k) ∧ Aside0 (wc.heap[gb154]? = some (.cells #[.int .u32 a0_0, .int .u32 a0_1, .int .u32 a0_2, .int .u32 a0_3] 31 (0, 0))) ∧ Aside0 (Below w.heap.size w wc))
  case first =>
    have H := HC6.out
    clear HC6
    by_cases c10 : a0_0 ≤ a2
    · rw [if_pos c10] at H
      have c10b0 : decide (a0_0 ≤ a2) = true := decide_eq_true c10
      clear c10
      (first | rw [c10b0] | (simp only [i64_w, i32_w]; rw [c10b0]) | skip)
      by_cases c11 : a2 ≤ a0_2
      · rw [if_pos c11] at H
        have c11b0 : decide (a2 ≤ a0_2) = true := decide_eq_true c11
        clear c11
        by_cases c12 : a0_1 ≤ a3
        · rw [if_pos c12] at H
          have c12b0 : decide (a0_1 ≤ a3) = true := decide_eq_true c12
          clear c12
          have H' := Aside0.mk H
          clear H
          have hcz13_0 : w9.cell? ⟨gb154, 0, none⟩ = some (.int .u32 a0_0) := (blk_cell BK154.out 0).trans rfl
          have hcz13_1 : w9.cell? ⟨gb154, 1, none⟩ = some (.int .u32 a0_1) := (blk_cell BK154.out 1).trans rfl
          have hcz13_2 : w9.cell? ⟨gb154, 2, none⟩ = some (.int .u32 a0_2) := (blk_cell BK154.out 2).trans rfl
          have hcz13_3 : w9.cell? ⟨gb154, 3, none⟩ = some (.int .u32 a0_3) := (blk_cell BK154.out 3).trans rfl
          have hfz13_0 := blk_frozen BK154.out 0
          have hfz13_1 := blk_frozen BK154.out 1
          have hfz13_2 := blk_frozen BK154.out 2
          have hfz13_3 := blk_frozen BK154.out 3
          go_wp2
          go_meet
          case rel => exact ⟨_, (decide (a3 ≤ a0_3)), (by first | rfl | (simp; done) | (simp [*]; done)), H', ⟨by first | omega | exact Nat.le_refl _⟩, ⟨by (with_reducible repeat (first | refine blk_drewN ?_ _ | refine blk_drew ?_ | refine blk_alloc ?_ _)); exact BK154.out⟩, ⟨by repeat (first | (with_reducible first | exact HB.out | apply below_alloc | apply pw_below_drewN | apply below_drew1 | refine below_set ?_ GE154.out) | exact HB.out)⟩⟩
        · rw [if_neg c12] at H
          have c12b0 : decide (a0_1 ≤ a3) = false := decide_eq_false c12
          clear c12
          have H' := Aside0.mk H
          clear H
          have hcz14_0 : w9.cell? ⟨gb154, 0, none⟩ = some (.int .u32 a0_0) := (blk_cell BK154.out 0).trans rfl
          have hcz14_1 : w9.cell? ⟨gb154, 1, none⟩ = some (.int .u32 a0_1) := (blk_cell BK154.out 1).trans rfl
          have hcz14_2 : w9.cell? ⟨gb154, 2, none⟩ = some (.int .u32 a0_2) := (blk_cell BK154.out 2).trans rfl
          have hcz14_3 : w9.cell? ⟨gb154, 3, none⟩ = some (.int .u32 a0_3) := (blk_cell BK154.out 3).trans rfl
          have hfz14_0 := blk_frozen BK154.out 0
          have hfz14_1 := blk_frozen BK154.out 1
          have hfz14_2 := blk_frozen BK154.out 2
          have hfz14_3 := blk_frozen BK154.out 3
          go_wp2
          go_meet
          case rel => exact ⟨_, (false), (by first | rfl | (simp; done) | (simp [*]; done)), H', ⟨by first | omega | exact Nat.le_refl _⟩, ⟨by (with_reducible repeat (first | refine blk_drewN ?_ _ | refine blk_drew ?_ | refine blk_alloc ?_ _)); exact BK154.out⟩, ⟨by repeat (first | (with_reducible first | exact HB.out | apply below_alloc | apply pw_below_drewN | apply below_drew1 | refine below_set ?_ GE154.out) | exact HB.out)⟩⟩
      · rw [if_neg c11] at H
        have c11b0 : decide (a2 ≤ a0_2) = false := decide_eq_false c11
        clear c11
        have H' := Aside0.mk H
        clear H
        have hcz15_0 : w9.cell? ⟨gb154, 0, none⟩ = some (.int .u32 a0_0) := (blk_cell BK154.out 0).trans rfl
        have hcz15_1 : w9.cell? ⟨gb154, 1, none⟩ = some (.int .u32 a0_1) := (blk_cell BK154.out 1).trans rfl
        have hcz15_2 : w9.cell? ⟨gb154, 2, none⟩ = some (.int .u32 a0_2) := (blk_cell BK154.out 2).trans rfl
        have hcz15_3 : w9.cell? ⟨gb154, 3, none⟩ = some (.int .u32 a0_3) := (blk_cell BK154.out 3).trans rfl
        have hfz15_0 := blk_frozen BK154.out 0
        have hfz15_1 := blk_frozen BK154.out 1
        have hfz15_2 := blk_frozen BK154.out 2
        have hfz15_3 := blk_frozen BK154.out 3
        go_wp2
        go_meet
        case rel => exact ⟨_, (false), (by first | rfl | (simp; done) | (simp [*]; done)), H', ⟨by first | omega | exact Nat.le_refl _⟩, ⟨by (with_reducible repeat (first | refine blk_drewN ?_ _ | refine blk_drew ?_ | refine blk_alloc ?_ _)); exact BK154.out⟩, ⟨by repeat (first | (with_reducible first | exact HB.out | apply below_alloc | apply pw_below_drewN | apply below_drew1 | refine below_set ?_ GE154.out) | exact HB.out)⟩⟩
    · rw [if_neg c10] at H
      have c10b0 : decide (a0_0 ≤ a2) = false := decide_eq_false c10
      clear c10
      (first | rw [c10b0] | (simp only [i64_w, i32_w]; rw [c10b0]) | skip)
      have H' := Aside0.mk H
      clear H
      have hcz16_0 : w9.cell? ⟨gb154, 0, none⟩ = some (.int .u32 a0_0) := (blk_cell BK154.out 0).trans rfl
      have hcz16_1 : w9.cell? ⟨gb154, 1, none⟩ = some (.int .u32 a0_1) := (blk_cell BK154.out 1).trans rfl
      have hcz16_2 : w9.cell? ⟨gb154, 2, none⟩ = some (.int .u32 a0_2) := (blk_cell BK154.out 2).trans rfl
      have hcz16_3 : w9.cell? ⟨gb154, 3, none⟩ = some (.int .u32 a0_3) := (blk_cell BK154.out 3).trans rfl
      have hfz16_0 := blk_frozen BK154.out 0
      have hfz16_1 := blk_frozen BK154.out 1
      have hfz16_2 := blk_frozen BK154.out 2
      have hfz16_3 := blk_frozen BK154.out 3
      go_wp2
      go_meet
      case rel => exact ⟨_, (false), (by first | rfl | (simp; done) | (simp [*]; done)), H', ⟨by first | omega | exact Nat.le_refl _⟩, ⟨by (with_reducible repeat (first | refine blk_drewN ?_ _ | refine blk_drew ?_ | refine blk_alloc ?_ _)); exact BK154.out⟩, ⟨by repeat (first | (with_reducible first | exact HB.out | apply below_alloc | apply pw_below_drewN | apply below_drew1 | refine below_set ?_ GE154.out) | exact HB.out)⟩⟩
  case rest =>
    clear HC6
    try clear c1
    try clear p2
    try clear c5
    try clear c10
    try clear c10b0
    try clear c11
    try clear c11b0
    try clear c12
    try clear c12b0
    try clear c14
    try clear hcz13_0
    try clear hcz13_1
    try clear hcz13_2
    try clear hcz13_3
    try clear hcz14_0
    try clear hcz14_1
    try clear hcz14_2
    try clear hcz14_3
    try clear hcz15_0
    try clear hcz15_1
    try clear hcz15_2
    try clear hcz15_3
    try clear hcz16_0
    try clear hcz16_1
    try clear hcz16_2
    try clear hcz16_3
    try clear hcz8_0
    try clear hcz8_1
    try clear hcz8_2
    try clear hcz8_3
    try clear hfz13_0
    try clear hfz13_1
    try clear hfz13_2
    try clear hfz13_3
    try clear hfz14_0
    try clear hfz14_1
    try clear hfz14_2
    try clear hfz14_3
    try clear hfz15_0
    try clear hfz15_1
    try clear hfz15_2
    try clear hfz15_3
    try clear hfz16_0
    try clear hfz16_1
    try clear hfz16_2
    try clear hfz16_3
    try clear hfz8_0
    try clear hfz8_1
    try clear hfz8_2
    try clear hfz8_3
    obtain ⟨kq, x11_5, rfl, HA, HJ5, BK154, HB⟩ := hcut
    cases kq with
    | zero => exact absurd HA.out (by simp [counterpanelaw24_ZcodeNext.j0])
    | succ kj5 =>
      have H := HA.out
      clear HA
      simp only [counterpanelaw24_ZcodeNext.j0] at H
      replace H := Option.bind_eq_some_iff.mp H
      obtain ⟨t157, A170, H⟩ := H
      replace H : (if t156 = true then ((counterpaneref24_Point.f kj5 t155).bind fun bt158 => (if t155 ≥ a1 then (if a0_0 ≤ bt158.1 then (if bt158.1 ≤ a0_2 then (if a0_1 ≤ bt158.2 then (if bt158.2 ≤ a0_3 then (if x11_5 = true then (if t157 < a1 then ((counterpanelaw24_works.f kj5).bind fun t160 => (some t160)) else (if t157 ≥ t155 then ((counterpanelaw24_works.f kj5).bind fun t161 => (some t161)) else (none))) else ((counterpanelaw24_works.f kj5).bind fun t162 => (some t162))) else (none)) else (none)) else (none)) else (none)) else (none))) else (if t155 = 0 then (if x11_5 = true then (if t157 < a1 then ((counterpanelaw24_works.f kj5).bind fun t163 => (some t163)) else (none)) else ((counterpanelaw24_works.f kj5).bind fun t164 => (some t164))) else (none))) = some r := H
      have A17 := Aside0.mk A170
      clear A170
      by_cases c18 : t156 = true
      · subst c18
        have H1 : ((counterpaneref24_Point.f kj5 t155).bind fun bt158 => (if t155 ≥ a1 then (if a0_0 ≤ bt158.1 then (if bt158.1 ≤ a0_2 then (if a0_1 ≤ bt158.2 then (if bt158.2 ≤ a0_3 then (if x11_5 = true then (if t157 < a1 then ((counterpanelaw24_works.f kj5).bind fun t160 => (some t160)) else (if t157 ≥ t155 then ((counterpanelaw24_works.f kj5).bind fun t161 => (some t161)) else (none))) else ((counterpanelaw24_works.f kj5).bind fun t162 => (some t162))) else (none)) else (none)) else (none)) else (none)) else (none))) = some r := by rw [if_pos rfl] at H; exact H
        clear H
        have H := H1
        clear H1
        replace H := Option.bind_eq_some_iff.mp H
        obtain ⟨⟨t158, t159⟩, A190, H⟩ := H
        replace H : (if t155 ≥ a1 then (if a0_0 ≤ t158 then (if t158 ≤ a0_2 then (if a0_1 ≤ t159 then (if t159 ≤ a0_3 then (if x11_5 = true then (if t157 < a1 then ((counterpanelaw24_works.f kj5).bind fun t160 => (some t160)) else (if t157 ≥ t155 then ((counterpanelaw24_works.f kj5).bind fun t161 => (some t161)) else (none))) else ((counterpanelaw24_works.f kj5).bind fun t162 => (some t162))) else (none)) else (none)) else (none)) else (none)) else (none)) = some r := H
        have A19 := Aside0.mk A190
        clear A190
        by_cases c20 : t155 ≥ a1
        · rw [if_pos c20] at H
          have c20b0 : decide (a1 ≤ t155) = true := decide_eq_true c20
          clear c20
          by_cases c21 : a0_0 ≤ t158
          · rw [if_pos c21] at H
            have c21b0 : decide (a0_0 ≤ t158) = true := decide_eq_true c21
            clear c21
            by_cases c22 : t158 ≤ a0_2
            · rw [if_pos c22] at H
              have c22b0 : decide (t158 ≤ a0_2) = true := decide_eq_true c22
              clear c22
              by_cases c23 : a0_1 ≤ t159
              · rw [if_pos c23] at H
                have c23b0 : decide (a0_1 ≤ t159) = true := decide_eq_true c23
                clear c23
                by_cases c24 : t159 ≤ a0_3
                · rw [if_pos c24] at H
                  have c24b0 : decide (t159 ≤ a0_3) = true := decide_eq_true c24
                  clear c24
                  by_cases c25 : x11_5 = true
                  · subst c25
                    have H1 : (if t157 < a1 then ((counterpanelaw24_works.f kj5).bind fun t160 => (some t160)) else (if t157 ≥ t155 then ((counterpanelaw24_works.f kj5).bind fun t161 => (some t161)) else (none))) = some r := by rw [if_pos rfl] at H; exact H
                    clear H
                    have H := H1
                    clear H1
                    by_cases c26 : t157 < a1
                    · rw [if_pos c26] at H
                      have c26b0 : decide (t157 < a1) = true := decide_eq_true c26
                      clear c26
                      replace H := Option.bind_eq_some_iff.mp H
                      obtain ⟨t160, A270, H⟩ := H
                      replace H : (some t160) = some r := H
                      have A27 := Aside0.mk A270
                      clear A270
                      obtain rfl := Option.some.inj H
                      go_wp2_with (first | ((with_reducible refine gate_callee (f := 11) rfl ?_); refine goesL_ (some 45) rfl rfl Try.func11 (by kernel_rfl) rfl #[.int .u32 a2, .int .u32 a3] rfl (by (try simp only [List.map_toArray, List.map_cons, List.map_nil]); first | done | rfl | (simp only [List.length_drop, List.length_take]; rfl) | (simp; done)) ?_; (with_reducible refine (counterpaneref24_Code.calls kj5 a2 a3 t157 _ A17.out).mono ?_); rintro e w' ⟨rfl, ⟨nd, rfl⟩⟩; refine ⟨_, rfl, ?_⟩) | ((with_reducible refine gate_callee (f := 9) rfl ?_); refine goesL_ (some 64) rfl rfl Try.func9 (by kernel_rfl) rfl #[.int .u64 t155] rfl (by (try simp only [List.map_toArray, List.map_cons, List.map_nil]); first | done | rfl | (simp only [List.length_drop, List.length_take]; rfl) | (simp; done)) ?_; (with_reducible refine (counterpaneref24_Point.calls kj5 t155 t158 t159 _ A19.out).mono ?_); rintro e w' ⟨rfl, ⟨nd, rfl⟩⟩; refine ⟨_, rfl, ?_⟩; have hcz28_0 : wc.cell? ⟨gb154, 0, none⟩ = some (.int .u32 a0_0) := (blk_cell BK154.out 0).trans rfl; have hcz28_1 : wc.cell? ⟨gb154, 1, none⟩ = some (.int .u32 a0_1) := (blk_cell BK154.out 1).trans rfl; have hcz28_2 : wc.cell? ⟨gb154, 2, none⟩ = some (.int .u32 a0_2) := (blk_cell BK154.out 2).trans rfl; have hcz28_3 : wc.cell? ⟨gb154, 3, none⟩ = some (.int .u32 a0_3) := (blk_cell BK154.out 3).trans rfl; have hfz28_0 := blk_frozen BK154.out 0; have hfz28_1 := blk_frozen BK154.out 1; have hfz28_2 := blk_frozen BK154.out 2; have hfz28_3 := blk_frozen BK154.out 3) | (go_at_call 12; (with_reducible refine (counterpanelaw24_works.calls kj5  t160 _ A27.out).mono ?_); rintro e w29 ⟨rfl, hb⟩; have n0_ := Aside0.mk (blk_below (g := gb154) (o := .cells #[.int .u32 a0_0, .int .u32 a0_1, .int .u32 a0_2, .int .u32 a0_3] 31 (0, 0)) (by (with_reducible repeat (first | refine blk_drewN ?_ _ | refine blk_drew ?_ | refine blk_alloc ?_ _)); exact BK154.out) hb); have n1_ := Aside0.mk (below_step (by repeat (first | (with_reducible first | exact HB.out | apply below_alloc | apply pw_below_drewN | apply below_drew1 | refine below_set ?_ GE154.out) | exact HB.out)) hb); clear BK154; clear HB; have BK154 := n0_; have HB := n1_; clear n0_ n1_; (try clear hb); (try clear hb2); (try clear hk); (try clear hi)))
                      go_ret
                      exact ⟨by first | rfl | (simp [errW_none, errW_some] <;> rfl) | (simp [*, errW_none, errW_some] <;> rfl), by repeat (first | (with_reducible first | exact HB.out | apply below_alloc | apply pw_below_drewN | apply below_drew1 | refine below_set ?_ GE154.out) | exact HB.out)⟩
                    · rw [if_neg c26] at H
                      have c26b0 : decide (t157 < a1) = false := decide_eq_false c26
                      clear c26
                      by_cases c30 : t157 ≥ t155
                      · rw [if_pos c30] at H
                        have c30b0 : decide (t155 ≤ t157) = true := decide_eq_true c30
                        clear c30
                        replace H := Option.bind_eq_some_iff.mp H
                        obtain ⟨t161, A310, H⟩ := H
                        replace H : (some t161) = some r := H
                        have A31 := Aside0.mk A310
                        clear A310
                        obtain rfl := Option.some.inj H
                        go_wp2_with (first | ((with_reducible refine gate_callee (f := 11) rfl ?_); refine goesL_ (some 45) rfl rfl Try.func11 (by kernel_rfl) rfl #[.int .u32 a2, .int .u32 a3] rfl (by (try simp only [List.map_toArray, List.map_cons, List.map_nil]); first | done | rfl | (simp only [List.length_drop, List.length_take]; rfl) | (simp; done)) ?_; (with_reducible refine (counterpaneref24_Code.calls kj5 a2 a3 t157 _ A17.out).mono ?_); rintro e w' ⟨rfl, ⟨nd, rfl⟩⟩; refine ⟨_, rfl, ?_⟩) | ((with_reducible refine gate_callee (f := 9) rfl ?_); refine goesL_ (some 64) rfl rfl Try.func9 (by kernel_rfl) rfl #[.int .u64 t155] rfl (by (try simp only [List.map_toArray, List.map_cons, List.map_nil]); first | done | rfl | (simp only [List.length_drop, List.length_take]; rfl) | (simp; done)) ?_; (with_reducible refine (counterpaneref24_Point.calls kj5 t155 t158 t159 _ A19.out).mono ?_); rintro e w' ⟨rfl, ⟨nd, rfl⟩⟩; refine ⟨_, rfl, ?_⟩; have hcz32_0 : wc.cell? ⟨gb154, 0, none⟩ = some (.int .u32 a0_0) := (blk_cell BK154.out 0).trans rfl; have hcz32_1 : wc.cell? ⟨gb154, 1, none⟩ = some (.int .u32 a0_1) := (blk_cell BK154.out 1).trans rfl; have hcz32_2 : wc.cell? ⟨gb154, 2, none⟩ = some (.int .u32 a0_2) := (blk_cell BK154.out 2).trans rfl; have hcz32_3 : wc.cell? ⟨gb154, 3, none⟩ = some (.int .u32 a0_3) := (blk_cell BK154.out 3).trans rfl; have hfz32_0 := blk_frozen BK154.out 0; have hfz32_1 := blk_frozen BK154.out 1; have hfz32_2 := blk_frozen BK154.out 2; have hfz32_3 := blk_frozen BK154.out 3) | (go_at_call 12; (with_reducible refine (counterpanelaw24_works.calls kj5  t161 _ A31.out).mono ?_); rintro e w33 ⟨rfl, hb⟩; have n0_ := Aside0.mk (blk_below (g := gb154) (o := .cells #[.int .u32 a0_0, .int .u32 a0_1, .int .u32 a0_2, .int .u32 a0_3] 31 (0, 0)) (by (with_reducible repeat (first | refine blk_drewN ?_ _ | refine blk_drew ?_ | refine blk_alloc ?_ _)); exact BK154.out) hb); have n1_ := Aside0.mk (below_step (by repeat (first | (with_reducible first | exact HB.out | apply below_alloc | apply pw_below_drewN | apply below_drew1 | refine below_set ?_ GE154.out) | exact HB.out)) hb); clear BK154; clear HB; have BK154 := n0_; have HB := n1_; clear n0_ n1_; (try clear hb); (try clear hb2); (try clear hk); (try clear hi)))
                        go_ret
                        exact ⟨by first | rfl | (simp [errW_none, errW_some] <;> rfl) | (simp [*, errW_none, errW_some] <;> rfl), by repeat (first | (with_reducible first | exact HB.out | apply below_alloc | apply pw_below_drewN | apply below_drew1 | refine below_set ?_ GE154.out) | exact HB.out)⟩
                      · rw [if_neg c30] at H
                        exact absurd H (by simp)
                  · replace c25 := Bool.eq_false_iff.mpr c25
                    subst c25
                    have H1 : ((counterpanelaw24_works.f kj5).bind fun t162 => (some t162)) = some r := by rw [if_neg (show ¬ (false = true) by decide)] at H; exact H
                    clear H
                    have H := H1
                    clear H1
                    replace H := Option.bind_eq_some_iff.mp H
                    obtain ⟨t162, A340, H⟩ := H
                    replace H : (some t162) = some r := H
                    have A34 := Aside0.mk A340
                    clear A340
                    obtain rfl := Option.some.inj H
                    go_wp2_with (first | ((with_reducible refine gate_callee (f := 11) rfl ?_); refine goesL_ (some 45) rfl rfl Try.func11 (by kernel_rfl) rfl #[.int .u32 a2, .int .u32 a3] rfl (by (try simp only [List.map_toArray, List.map_cons, List.map_nil]); first | done | rfl | (simp only [List.length_drop, List.length_take]; rfl) | (simp; done)) ?_; (with_reducible refine (counterpaneref24_Code.calls kj5 a2 a3 t157 _ A17.out).mono ?_); rintro e w' ⟨rfl, ⟨nd, rfl⟩⟩; refine ⟨_, rfl, ?_⟩) | ((with_reducible refine gate_callee (f := 9) rfl ?_); refine goesL_ (some 64) rfl rfl Try.func9 (by kernel_rfl) rfl #[.int .u64 t155] rfl (by (try simp only [List.map_toArray, List.map_cons, List.map_nil]); first | done | rfl | (simp only [List.length_drop, List.length_take]; rfl) | (simp; done)) ?_; (with_reducible refine (counterpaneref24_Point.calls kj5 t155 t158 t159 _ A19.out).mono ?_); rintro e w' ⟨rfl, ⟨nd, rfl⟩⟩; refine ⟨_, rfl, ?_⟩; have hcz35_0 : wc.cell? ⟨gb154, 0, none⟩ = some (.int .u32 a0_0) := (blk_cell BK154.out 0).trans rfl; have hcz35_1 : wc.cell? ⟨gb154, 1, none⟩ = some (.int .u32 a0_1) := (blk_cell BK154.out 1).trans rfl; have hcz35_2 : wc.cell? ⟨gb154, 2, none⟩ = some (.int .u32 a0_2) := (blk_cell BK154.out 2).trans rfl; have hcz35_3 : wc.cell? ⟨gb154, 3, none⟩ = some (.int .u32 a0_3) := (blk_cell BK154.out 3).trans rfl; have hfz35_0 := blk_frozen BK154.out 0; have hfz35_1 := blk_frozen BK154.out 1; have hfz35_2 := blk_frozen BK154.out 2; have hfz35_3 := blk_frozen BK154.out 3) | (go_at_call 12; (with_reducible refine (counterpanelaw24_works.calls kj5  t162 _ A34.out).mono ?_); rintro e w36 ⟨rfl, hb⟩; have n0_ := Aside0.mk (blk_below (g := gb154) (o := .cells #[.int .u32 a0_0, .int .u32 a0_1, .int .u32 a0_2, .int .u32 a0_3] 31 (0, 0)) (by (with_reducible repeat (first | refine blk_drewN ?_ _ | refine blk_drew ?_ | refine blk_alloc ?_ _)); exact BK154.out) hb); have n1_ := Aside0.mk (below_step (by repeat (first | (with_reducible first | exact HB.out | apply below_alloc | apply pw_below_drewN | apply below_drew1 | refine below_set ?_ GE154.out) | exact HB.out)) hb); clear BK154; clear HB; have BK154 := n0_; have HB := n1_; clear n0_ n1_; (try clear hb); (try clear hb2); (try clear hk); (try clear hi)))
                    go_ret
                    exact ⟨by first | rfl | (simp [errW_none, errW_some] <;> rfl) | (simp [*, errW_none, errW_some] <;> rfl), by repeat (first | (with_reducible first | exact HB.out | apply below_alloc | apply pw_below_drewN | apply below_drew1 | refine below_set ?_ GE154.out) | exact HB.out)⟩
                · rw [if_neg c24] at H
                  exact absurd H (by simp)
              · rw [if_neg c23] at H
                exact absurd H (by simp)
            · rw [if_neg c22] at H
              exact absurd H (by simp)
          · rw [if_neg c21] at H
            exact absurd H (by simp)
        · rw [if_neg c20] at H
          exact absurd H (by simp)
      · replace c18 := Bool.eq_false_iff.mpr c18
        subst c18
        have H1 : (if t155 = 0 then (if x11_5 = true then (if t157 < a1 then ((counterpanelaw24_works.f kj5).bind fun t163 => (some t163)) else (none)) else ((counterpanelaw24_works.f kj5).bind fun t164 => (some t164))) else (none)) = some r := by rw [if_neg (show ¬ (false = true) by decide)] at H; exact H
        clear H
        have H := H1
        clear H1
        by_cases c37 : t155 = 0
        · rw [if_pos c37] at H
          have c37b0 : (t155 == 0) = true := beq_iff_eq.mpr c37
          have c37b1 : (t155 != 0) = false := bne_eq_false_iff_eq.mpr c37
          clear c37
          by_cases c38 : x11_5 = true
          · subst c38
            have H1 : (if t157 < a1 then ((counterpanelaw24_works.f kj5).bind fun t163 => (some t163)) else (none)) = some r := by rw [if_pos rfl] at H; exact H
            clear H
            have H := H1
            clear H1
            by_cases c39 : t157 < a1
            · rw [if_pos c39] at H
              have c39b0 : decide (t157 < a1) = true := decide_eq_true c39
              clear c39
              replace H := Option.bind_eq_some_iff.mp H
              obtain ⟨t163, A400, H⟩ := H
              replace H : (some t163) = some r := H
              have A40 := Aside0.mk A400
              clear A400
              obtain rfl := Option.some.inj H
              go_wp2_with (first | ((with_reducible refine gate_callee (f := 11) rfl ?_); refine goesL_ (some 45) rfl rfl Try.func11 (by kernel_rfl) rfl #[.int .u32 a2, .int .u32 a3] rfl (by (try simp only [List.map_toArray, List.map_cons, List.map_nil]); first | done | rfl | (simp only [List.length_drop, List.length_take]; rfl) | (simp; done)) ?_; (with_reducible refine (counterpaneref24_Code.calls kj5 a2 a3 t157 _ A17.out).mono ?_); rintro e w' ⟨rfl, ⟨nd, rfl⟩⟩; refine ⟨_, rfl, ?_⟩) | (go_at_call 12; (with_reducible refine (counterpanelaw24_works.calls kj5  t163 _ A40.out).mono ?_); rintro e w41 ⟨rfl, hb⟩; have n0_ := Aside0.mk (blk_below (g := gb154) (o := .cells #[.int .u32 a0_0, .int .u32 a0_1, .int .u32 a0_2, .int .u32 a0_3] 31 (0, 0)) (by (with_reducible repeat (first | refine blk_drewN ?_ _ | refine blk_drew ?_ | refine blk_alloc ?_ _)); exact BK154.out) hb); have n1_ := Aside0.mk (below_step (by repeat (first | (with_reducible first | exact HB.out | apply below_alloc | apply pw_below_drewN | apply below_drew1 | refine below_set ?_ GE154.out) | exact HB.out)) hb); clear BK154; clear HB; have BK154 := n0_; have HB := n1_; clear n0_ n1_; (try clear hb); (try clear hb2); (try clear hk); (try clear hi)))
              go_ret
              exact ⟨by first | rfl | (simp [errW_none, errW_some] <;> rfl) | (simp [*, errW_none, errW_some] <;> rfl), by repeat (first | (with_reducible first | exact HB.out | apply below_alloc | apply pw_below_drewN | apply below_drew1 | refine below_set ?_ GE154.out) | exact HB.out)⟩
            · rw [if_neg c39] at H
              exact absurd H (by simp)
          · replace c38 := Bool.eq_false_iff.mpr c38
            subst c38
            have H1 : ((counterpanelaw24_works.f kj5).bind fun t164 => (some t164)) = some r := by rw [if_neg (show ¬ (false = true) by decide)] at H; exact H
            clear H
            have H := H1
            clear H1
            replace H := Option.bind_eq_some_iff.mp H
            obtain ⟨t164, A420, H⟩ := H
            replace H : (some t164) = some r := H
            have A42 := Aside0.mk A420
            clear A420
            obtain rfl := Option.some.inj H
            go_wp2_with (first | ((with_reducible refine gate_callee (f := 11) rfl ?_); refine goesL_ (some 45) rfl rfl Try.func11 (by kernel_rfl) rfl #[.int .u32 a2, .int .u32 a3] rfl (by (try simp only [List.map_toArray, List.map_cons, List.map_nil]); first | done | rfl | (simp only [List.length_drop, List.length_take]; rfl) | (simp; done)) ?_; (with_reducible refine (counterpaneref24_Code.calls kj5 a2 a3 t157 _ A17.out).mono ?_); rintro e w' ⟨rfl, ⟨nd, rfl⟩⟩; refine ⟨_, rfl, ?_⟩) | (go_at_call 12; (with_reducible refine (counterpanelaw24_works.calls kj5  t164 _ A42.out).mono ?_); rintro e w43 ⟨rfl, hb⟩; have n0_ := Aside0.mk (blk_below (g := gb154) (o := .cells #[.int .u32 a0_0, .int .u32 a0_1, .int .u32 a0_2, .int .u32 a0_3] 31 (0, 0)) (by (with_reducible repeat (first | refine blk_drewN ?_ _ | refine blk_drew ?_ | refine blk_alloc ?_ _)); exact BK154.out) hb); have n1_ := Aside0.mk (below_step (by repeat (first | (with_reducible first | exact HB.out | apply below_alloc | apply pw_below_drewN | apply below_drew1 | refine below_set ?_ GE154.out) | exact HB.out)) hb); clear BK154; clear HB; have BK154 := n0_; have HB := n1_; clear n0_ n1_; (try clear hb); (try clear hb2); (try clear hk); (try clear hi)))
            go_ret
            exact ⟨by first | rfl | (simp [errW_none, errW_some] <;> rfl) | (simp [*, errW_none, errW_some] <;> rfl), by repeat (first | (with_reducible first | exact HB.out | apply below_alloc | apply pw_below_drewN | apply below_drew1 | refine below_set ?_ GE154.out) | exact HB.out)⟩
        · rw [if_neg c37] at H
          exact absurd H (by simp)

/-- THE ONE PURE STATEMENT of counterpanelaw24_ZcodeNext: yours. -/
def counterpanelaw24_ZcodeNext.Pure : Prop := ∀ (a0_0 : Int) (a0_1 : Int) (a0_2 : Int) (a0_3 : Int) (a1 : Int) (a2 : Int) (a3 : Int), (Lit.int .u32 a0_0).wf = true → (Lit.int .u32 a0_1).wf = true → (Lit.int .u32 a0_2).wf = true → (Lit.int .u32 a0_3).wf = true → (Lit.int .u64 a1).wf = true → (Lit.int .u32 a2).wf = true → (Lit.int .u32 a3).wf = true → ∃ k, counterpanelaw24_ZcodeNext.f k a0_0 a0_1 a0_2 a0_3 a1 a2 a3 = some true
theorem counterpanelaw24_ZcodeNext.walk (P : counterpanelaw24_ZcodeNext.Pure) (a0_0 : Int) (a0_1 : Int) (a0_2 : Int) (a0_3 : Int) (a1 : Int) (a2 : Int) (a3 : Int) (w : World) (w0_0 : (Lit.int .u32 a0_0).wf = true) (w0_1 : (Lit.int .u32 a0_1).wf = true) (w0_2 : (Lit.int .u32 a0_2).wf = true) (w0_3 : (Lit.int .u32 a0_3).wf = true) (w1 : (Lit.int .u64 a1).wf = true) (w2 : (Lit.int .u32 a2).wf = true) (w3 : (Lit.int .u32 a3).wf = true) :
    Calls Try.prog 5 #[.agg #[.int .u32 a0_0, .int .u32 a0_1, .int .u32 a0_2, .int .u32 a0_3], .int .u64 a1, .int .u32 a2, .int .u32 a3] w fun e w' => e = .returned (.bool true) ∧ Below w.heap.size w w' := by
  obtain ⟨k, h⟩ := P a0_0 a0_1 a0_2 a0_3 a1 a2 a3 w0_0 w0_1 w0_2 w0_3 w1 w2 w3
  refine (counterpanelaw24_ZcodeNext.calls k a0_0 a0_1 a0_2 a0_3 a1 a2 a3 true w h).mono ?_
  rintro e w' ⟨rfl, hd⟩
  exact ⟨rfl, hd⟩

end Go.Proofs.Ytabkoclmhdnjfaa.PAll
