/- The functions that the laws of this seat reach, as plain functions with proofs that the calls answer just so (written by a program of this session on the kit's print). -/
import Derived.Test.YtabkoclmhdnjfaaPAllx0
import Derived.Test.YtabkoclmhdnjfaaPAllx1
import Derived.Test.YtabkoclmhdnjfaaPAllx10
import Derived.Test.YtabkoclmhdnjfaaPAllx11
import Derived.Test.YtabkoclmhdnjfaaPAllx13
import Derived.Test.YtabkoclmhdnjfaaPAllx14
namespace Go.Proofs.Ytabkoclmhdnjfaa.PAll
open Go.RowKit Go.Proofs.YtabkoclmhdnjfaaW.PrintWords Go.Proofs.YtabkoclmhdnjfaaW.PrintLast Go.Proofs.YtabkoclmhdnjfaaW.PrintMore
attribute [local go_sem] max2_int min2_int max_two min_two max_three min_three max_four min_four   -- for this text's walks alone
set_option linter.unusedVariables false
set_option linter.unusedSimpArgs false

attribute [local go_sem high] eqA45
/-! ### zcode_Next: function 14 -/
mutual
def zcode_Next.j0 : Nat → Int → Bool → Int → Int → Int → Int → Option (Int × Bool)
  | 0, _, _, _, _, _, _ => none
  | k + 1, x1, x23, x118000, x118001, x118002, x118003 => if x23 = true then (some (0, false)) else ((zcode_has.f x118000 x118001 x118002 x118003 x1).bind fun t118 => (if t118 = true then (some (x1, true)) else ((zcode_bounds.f x118000 x118001 x118002 x118003).bind fun bt119 => (zcode_Next.l0 k x1 bt119.1 bt119.2 0 false 0))))
def zcode_Next.l0 : Nat → Int → Int → Int → Int → Bool → Int → Option (Int × Bool)
  | 0, _, _, _, _, _, _ => none
  | k + 1, x1, x6, x7, x8, x9, x33 => if x33 < 64 then (if 0 ≤ (wrap64 (63 - x33)) then (if ((Go.bits .and .u64 (shr .u64 x1 (wrap64 (63 - x33))) 1) == 0 && ((Go.bits .and .u64 (shr .u64 x6 (wrap64 (63 - x33))) 1) == 0 && ((Go.bits .and .u64 (shr .u64 x7 (wrap64 (63 - x33))) 1) == 1))) = true then ((zcode_raise.f x6 (wrap64 (63 - x33))).bind fun t121 => ((zcode_lower.f x7 (wrap64 (63 - x33))).bind fun t122 => (zcode_Next.l0 k x1 x6 t122 t121 true (wrap64 (x33 + 1))))) else (if ((Go.bits .and .u64 (shr .u64 x1 (wrap64 (63 - x33))) 1) == 0 && ((Go.bits .and .u64 (shr .u64 x6 (wrap64 (63 - x33))) 1) == 1 && ((Go.bits .and .u64 (shr .u64 x7 (wrap64 (63 - x33))) 1) == 1))) = true then (some (x6, true)) else (if ((Go.bits .and .u64 (shr .u64 x1 (wrap64 (63 - x33))) 1) == 1 && ((Go.bits .and .u64 (shr .u64 x6 (wrap64 (63 - x33))) 1) == 0 && ((Go.bits .and .u64 (shr .u64 x7 (wrap64 (63 - x33))) 1) == 0))) = true then (some (x8, x9)) else (if ((Go.bits .and .u64 (shr .u64 x1 (wrap64 (63 - x33))) 1) == 1 && ((Go.bits .and .u64 (shr .u64 x6 (wrap64 (63 - x33))) 1) == 0 && ((Go.bits .and .u64 (shr .u64 x7 (wrap64 (63 - x33))) 1) == 1))) = true then ((zcode_raise.f x6 (wrap64 (63 - x33))).bind fun t123 => (zcode_Next.l0 k x1 t123 x7 x8 x9 (wrap64 (x33 + 1)))) else (zcode_Next.l0 k x1 x6 x7 x8 x9 (wrap64 (x33 + 1))))))) else (none)) else (some (x8, x9))
end
def zcode_Next.f (k : Nat) (a0_0 : Int) (a0_1 : Int) (a0_2 : Int) (a0_3 : Int) (a1 : Int) : Option (Int × Bool) := if a0_0 > a0_2 then (zcode_Next.j0 k a1 true a0_0 a0_1 a0_2 a0_3) else (zcode_Next.j0 k a1 (decide (a0_1 > a0_3)) a0_0 a0_1 a0_2 a0_3)
theorem zcode_Next.mono_l : ∀ k, (∀ y0 y1 y2 y3 y4 y5, LeO (zcode_Next.j0 k y0 y1 y2 y3 y4 y5) (zcode_Next.j0 (k + 1) y0 y1 y2 y3 y4 y5)) ∧ (∀ y0 y1 y2 y3 y4 y5, LeO (zcode_Next.l0 k y0 y1 y2 y3 y4 y5) (zcode_Next.l0 (k + 1) y0 y1 y2 y3 y4 y5))
  | 0 => ⟨fun _ _ _ _ _ _ r h => by simp [zcode_Next.j0] at h, fun _ _ _ _ _ _ r h => by simp [zcode_Next.l0] at h⟩
  | k + 1 => by
    obtain ⟨ih0, ih1⟩ := zcode_Next.mono_l k
    refine ⟨?_, ?_⟩
    · intro y0 y1 y2 y3 y4 y5
      unfold zcode_Next.j0
      repeat' first
      | (with_reducible exact ih0 _ _ _ _ _ _)
      | (with_reducible exact ih1 _ _ _ _ _ _)
      | (with_reducible exact LeO.refl _)
      | (with_reducible exact LeO.none _)
      | (with_reducible refine LeO.ite ?_ ?_)
      | (with_reducible refine LeO.bind ?_ (fun _ => ?_))
      | exact ih0 _ _ _ _ _ _
      | exact ih1 _ _ _ _ _ _
      | exact LeO.none _
      | refine LeO.ite ?_ ?_
      | refine LeO.bind ?_ (fun _ => ?_)
    · intro y0 y1 y2 y3 y4 y5
      unfold zcode_Next.l0
      repeat' first
      | (with_reducible exact ih0 _ _ _ _ _ _)
      | (with_reducible exact ih1 _ _ _ _ _ _)
      | (with_reducible exact LeO.refl _)
      | (with_reducible exact LeO.none _)
      | (with_reducible refine LeO.ite ?_ ?_)
      | (with_reducible refine LeO.bind ?_ (fun _ => ?_))
      | exact ih0 _ _ _ _ _ _
      | exact ih1 _ _ _ _ _ _
      | exact LeO.none _
      | refine LeO.ite ?_ ?_
      | refine LeO.bind ?_ (fun _ => ?_)
theorem zcode_Next.mono : ∀ a0 a1 a2 a3 a4 k, LeO (zcode_Next.f k a0 a1 a2 a3 a4) (zcode_Next.f (k + 1) a0 a1 a2 a3 a4) := by
  intro a0 a1 a2 a3 a4 k
  obtain ⟨ih0, ih1⟩ := zcode_Next.mono_l k
  unfold zcode_Next.f
  repeat' first
      | (with_reducible exact ih0 _ _ _ _ _ _)
      | (with_reducible exact ih1 _ _ _ _ _ _)
      | (with_reducible exact LeO.refl _)
      | (with_reducible exact LeO.none _)
      | (with_reducible refine LeO.ite ?_ ?_)
      | (with_reducible refine LeO.bind ?_ (fun _ => ?_))
      | exact ih0 _ _ _ _ _ _
      | exact ih1 _ _ _ _ _ _
      | exact LeO.none _
      | refine LeO.ite ?_ ?_
      | refine LeO.bind ?_ (fun _ => ?_)
set_option maxHeartbeats 8000000 in
set_option maxRecDepth 100000 in
theorem zcode_Next.calls (k : Nat) (a0_0 : Int) (a0_1 : Int) (a0_2 : Int) (a0_3 : Int) (a1 : Int) (r1 : Int) (r2 : Bool) (w : World) (h : zcode_Next.f k a0_0 a0_1 a0_2 a0_3 a1 = some (r1, r2)) :
    Calls Try.prog 14 #[.agg #[.int .u32 a0_0, .int .u32 a0_1, .int .u32 a0_2, .int .u32 a0_3], .int .u64 a1] w fun e w' => e = .returned (.tuple #[.int .u64 r1, .bool r2]) ∧ Below w.heap.size w w' := by
  have hu31 := Try.underlying31
  have hu45 := Try.underlying45
  have HB := Aside0.mk (Below.refl w.heap.size w)
  have H : (if a0_0 > a0_2 then (zcode_Next.j0 k a1 true a0_0 a0_1 a0_2 a0_3) else (zcode_Next.j0 k a1 (decide (a0_1 > a0_3)) a0_0 a0_1 a0_2 a0_3)) = some (r1, r2) := h
  clear h
  have HC3 := Aside0.mk H
  clear H
  go_enter Try.func14, Try.ntmps14
  go_upto_region 1 with (first | ((with_reducible refine gate_dst (N := 2) rfl ?_); refine box_event ?hg (N := 2) ?hd (cs := #[.int .u32 a0_0, .int .u32 a0_1, .int .u32 a0_2, .int .u32 a0_3]) (t := 31) ?hr ?_; (case hd => rfl); (case hg => rfl); (case hr => first | (go_simp; done) | (go_simp; rfl)); intro gb117 hg w4 hbox hb; have n0_ := Aside0.mk (below_step (by repeat (first | (with_reducible first | exact HB.out | apply below_alloc | apply pw_below_drewN | apply below_drew1) | exact HB.out)) hb); have n1_ := Aside0.mk (hbox); have n2_ := Aside0.mk ((by rw [hg]; exact (below_size (by repeat (first | (with_reducible first | exact HB.out | apply below_alloc | apply pw_below_drewN | apply below_drew1) | exact HB.out))) : w.heap.size ≤ gb117)); have n3_ := Aside0.mk ((by rw [hg]; exact (below_size (by repeat (first | (with_reducible first | exact HB.out | apply below_alloc | apply pw_below_drewN | apply below_drew1) | exact HB.out))) : w.heap.size ≤ gb117)); clear HB; have HB := n0_; have BK117 := n1_; have GW117 := n2_; have GE117 := n3_; clear n0_ n1_ n2_ n3_; clear hb hbox hg))
  repeat (go_quiet (first | ((with_reducible refine gate_dst (N := 2) rfl ?_); refine box_event ?hg (N := 2) ?hd (cs := #[.int .u32 a0_0, .int .u32 a0_1, .int .u32 a0_2, .int .u32 a0_3]) (t := 31) ?hr ?_; (case hd => rfl); (case hg => rfl); (case hr => first | (go_simp; done) | (go_simp; rfl)); intro gb117 hg w4 hbox hb; have n0_ := Aside0.mk (below_step (by repeat (first | (with_reducible first | exact HB.out | apply below_alloc | apply pw_below_drewN | apply below_drew1) | exact HB.out)) hb); have n1_ := Aside0.mk (hbox); have n2_ := Aside0.mk ((by rw [hg]; exact (below_size (by repeat (first | (with_reducible first | exact HB.out | apply below_alloc | apply pw_below_drewN | apply below_drew1) | exact HB.out))) : w.heap.size ≤ gb117)); have n3_ := Aside0.mk ((by rw [hg]; exact (below_size (by repeat (first | (with_reducible first | exact HB.out | apply below_alloc | apply pw_below_drewN | apply below_drew1) | exact HB.out))) : w.heap.size ≤ gb117)); clear HB; have HB := n0_; have BK117 := n1_; have GW117 := n2_; have GE117 := n3_; clear n0_ n1_ n2_ n3_; clear hb hbox hg)); go_upto_region 1 with (first | ((with_reducible refine gate_dst (N := 2) rfl ?_); refine box_event ?hg (N := 2) ?hd (cs := #[.int .u32 a0_0, .int .u32 a0_1, .int .u32 a0_2, .int .u32 a0_3]) (t := 31) ?hr ?_; (case hd => rfl); (case hg => rfl); (case hr => first | (go_simp; done) | (go_simp; rfl)); intro gb117 hg w4 hbox hb; have n0_ := Aside0.mk (below_step (by repeat (first | (with_reducible first | exact HB.out | apply below_alloc | apply pw_below_drewN | apply below_drew1) | exact HB.out)) hb); have n1_ := Aside0.mk (hbox); have n2_ := Aside0.mk ((by rw [hg]; exact (below_size (by repeat (first | (with_reducible first | exact HB.out | apply below_alloc | apply pw_below_drewN | apply below_drew1) | exact HB.out))) : w.heap.size ≤ gb117)); have n3_ := Aside0.mk ((by rw [hg]; exact (below_size (by repeat (first | (with_reducible first | exact HB.out | apply below_alloc | apply pw_below_drewN | apply below_drew1) | exact HB.out))) : w.heap.size ≤ gb117)); clear HB; have HB := n0_; have BK117 := n1_; have GW117 := n2_; have GE117 := n3_; clear n0_ n1_ n2_ n3_; clear hb hbox hg)))
  (try simp only [Act.put, List.setIfInBounds_toArray, List.set_cons_zero, List.set_cons_succ])
  go_cut [23] (fun v23 wc => ∃ (kq : Nat) (x23_2 : Bool), v23 = .bool x23_2 ∧ Aside0 (zcode_Next.j0 kq a1 x23_2 a0_0 a0_1 a0_2 a0_3 = some (r1, r2)) ∧ Aside0 (kq ≤ k) ∧ Aside0 (wc.heap[gb117]? = some (.cells #[.int .u32 a0_0, .int .u32 a0_1, .int .u32 a0_2, .int .u32 a0_3] 31 (0, 0))) ∧ Aside0 (Below w.heap.size w wc))
  case first =>
    have H := HC3.out
    clear HC3
    by_cases c5 : a0_0 > a0_2
    · rw [if_pos c5] at H
      have c5b0 : decide (a0_2 < a0_0) = true := decide_eq_true c5
      clear c5
      (first | rw [c5b0] | (simp only [i64_w, i32_w]; rw [c5b0]) | skip)
      have H' := Aside0.mk H
      clear H
      have hcz6_0 : w4.cell? ⟨gb117, 0, none⟩ = some (.int .u32 a0_0) := (blk_cell BK117.out 0).trans rfl
      have hcz6_1 : w4.cell? ⟨gb117, 1, none⟩ = some (.int .u32 a0_1) := (blk_cell BK117.out 1).trans rfl
      have hcz6_2 : w4.cell? ⟨gb117, 2, none⟩ = some (.int .u32 a0_2) := (blk_cell BK117.out 2).trans rfl
      have hcz6_3 : w4.cell? ⟨gb117, 3, none⟩ = some (.int .u32 a0_3) := (blk_cell BK117.out 3).trans rfl
      have hfz6_0 := blk_frozen BK117.out 0
      have hfz6_1 := blk_frozen BK117.out 1
      have hfz6_2 := blk_frozen BK117.out 2
      have hfz6_3 := blk_frozen BK117.out 3
      go_wp2
      repeat (go_quiet (fail); try go_wp2)
      go_meet
      case rel => exact ⟨_, (true), (by first | rfl | (simp; done) | (simp [*]; done)), H', ⟨by first | omega | exact Nat.le_refl _⟩, ⟨by (with_reducible repeat (first | refine blk_drewN ?_ _ | refine blk_drew ?_ | refine blk_alloc ?_ _)); exact BK117.out⟩, ⟨by repeat (first | (with_reducible first | exact HB.out | apply below_alloc | apply pw_below_drewN | apply below_drew1 | refine below_set ?_ GE117.out) | exact HB.out)⟩⟩
    · rw [if_neg c5] at H
      have c5b0 : decide (a0_2 < a0_0) = false := decide_eq_false c5
      clear c5
      (first | rw [c5b0] | (simp only [i64_w, i32_w]; rw [c5b0]) | skip)
      have H' := Aside0.mk H
      clear H
      have hcz7_0 : w4.cell? ⟨gb117, 0, none⟩ = some (.int .u32 a0_0) := (blk_cell BK117.out 0).trans rfl
      have hcz7_1 : w4.cell? ⟨gb117, 1, none⟩ = some (.int .u32 a0_1) := (blk_cell BK117.out 1).trans rfl
      have hcz7_2 : w4.cell? ⟨gb117, 2, none⟩ = some (.int .u32 a0_2) := (blk_cell BK117.out 2).trans rfl
      have hcz7_3 : w4.cell? ⟨gb117, 3, none⟩ = some (.int .u32 a0_3) := (blk_cell BK117.out 3).trans rfl
      have hfz7_0 := blk_frozen BK117.out 0
      have hfz7_1 := blk_frozen BK117.out 1
      have hfz7_2 := blk_frozen BK117.out 2
      have hfz7_3 := blk_frozen BK117.out 3
      go_wp2
      repeat (go_quiet (fail); try go_wp2)
      go_meet
      case rel => exact ⟨_, (decide (a0_1 > a0_3)), (by first | rfl | (simp; done) | (simp [*]; done)), H', ⟨by first | omega | exact Nat.le_refl _⟩, ⟨by (with_reducible repeat (first | refine blk_drewN ?_ _ | refine blk_drew ?_ | refine blk_alloc ?_ _)); exact BK117.out⟩, ⟨by repeat (first | (with_reducible first | exact HB.out | apply below_alloc | apply pw_below_drewN | apply below_drew1 | refine below_set ?_ GE117.out) | exact HB.out)⟩⟩
  case rest =>
    clear HC3
    try clear c1
    try clear p2
    try clear c5
    try clear c5b0
    try clear hcz6_0
    try clear hcz6_1
    try clear hcz6_2
    try clear hcz6_3
    try clear hcz7_0
    try clear hcz7_1
    try clear hcz7_2
    try clear hcz7_3
    try clear hfz6_0
    try clear hfz6_1
    try clear hfz6_2
    try clear hfz6_3
    try clear hfz7_0
    try clear hfz7_1
    try clear hfz7_2
    try clear hfz7_3
    obtain ⟨kq, x23_2, rfl, HA, HJ2, BK117, HB⟩ := hcut
    cases kq with
    | zero => exact absurd HA.out (by simp [zcode_Next.j0])
    | succ kj2 =>
      have H := HA.out
      clear HA
      simp only [zcode_Next.j0] at H
      by_cases c8 : x23_2 = true
      · subst c8
        have H1 : (some (0, false)) = some (r1, r2) := by rw [if_pos rfl] at H; exact H
        clear H
        have H := H1
        clear H1
        simp only [Option.some.injEq, Prod.mk.injEq] at H
        obtain ⟨rfl, rfl⟩ := H
        go_wp2
        repeat (go_quiet (fail); try go_wp2)
        go_ret2
        exact ⟨by first | rfl | (simp [errW_none, errW_some] <;> rfl) | (simp [*, errW_none, errW_some] <;> rfl), by repeat (first | (with_reducible first | exact HB.out | apply below_alloc | apply pw_below_drewN | apply below_drew1 | refine below_set ?_ GE117.out) | exact HB.out)⟩
      · replace c8 := Bool.eq_false_iff.mpr c8
        subst c8
        have H1 : ((zcode_has.f a0_0 a0_1 a0_2 a0_3 a1).bind fun t118 => (if t118 = true then (some (a1, true)) else ((zcode_bounds.f a0_0 a0_1 a0_2 a0_3).bind fun bt119 => (zcode_Next.l0 kj2 a1 bt119.1 bt119.2 0 false 0)))) = some (r1, r2) := by rw [if_neg (show ¬ (false = true) by decide)] at H; exact H
        clear H
        have H := H1
        clear H1
        replace H := Option.bind_eq_some_iff.mp H
        obtain ⟨t118, A90, H⟩ := H
        replace H : (if t118 = true then (some (a1, true)) else ((zcode_bounds.f a0_0 a0_1 a0_2 a0_3).bind fun bt119 => (zcode_Next.l0 kj2 a1 bt119.1 bt119.2 0 false 0))) = some (r1, r2) := H
        have A9 := Aside0.mk A90
        clear A90
        by_cases c10 : t118 = true
        · subst c10
          have H1 : (some (a1, true)) = some (r1, r2) := by rw [if_pos rfl] at H; exact H
          clear H
          have H := H1
          clear H1
          simp only [Option.some.injEq, Prod.mk.injEq] at H
          obtain ⟨rfl, rfl⟩ := H
          have hcz11_0 : wc.cell? ⟨gb117, 0, none⟩ = some (.int .u32 a0_0) := (blk_cell BK117.out 0).trans rfl
          have hcz11_1 : wc.cell? ⟨gb117, 1, none⟩ = some (.int .u32 a0_1) := (blk_cell BK117.out 1).trans rfl
          have hcz11_2 : wc.cell? ⟨gb117, 2, none⟩ = some (.int .u32 a0_2) := (blk_cell BK117.out 2).trans rfl
          have hcz11_3 : wc.cell? ⟨gb117, 3, none⟩ = some (.int .u32 a0_3) := (blk_cell BK117.out 3).trans rfl
          have hfz11_0 := blk_frozen BK117.out 0
          have hfz11_1 := blk_frozen BK117.out 1
          have hfz11_2 := blk_frozen BK117.out 2
          have hfz11_3 := blk_frozen BK117.out 3
          go_wp2_with (first | (go_at_call 19; (with_reducible refine (zcode_has.calls a0_0 a0_1 a0_2 a0_3 a1 true _ A9.out).mono ?_); rintro e w12 ⟨rfl, hb⟩; have n0_ := Aside0.mk (blk_below (g := gb117) (o := .cells #[.int .u32 a0_0, .int .u32 a0_1, .int .u32 a0_2, .int .u32 a0_3] 31 (0, 0)) (by (with_reducible repeat (first | refine blk_drewN ?_ _ | refine blk_drew ?_ | refine blk_alloc ?_ _)); exact BK117.out) hb); have n1_ := Aside0.mk (below_step (by repeat (first | (with_reducible first | exact HB.out | apply below_alloc | apply pw_below_drewN | apply below_drew1 | refine below_set ?_ GE117.out) | exact HB.out)) hb); clear BK117; clear HB; have BK117 := n0_; have HB := n1_; clear n0_ n1_; (try clear hb); (try clear hb2); (try clear hk); (try clear hi)))
          repeat (go_quiet (first | (go_at_call 19; (with_reducible refine (zcode_has.calls a0_0 a0_1 a0_2 a0_3 a1 true _ A9.out).mono ?_); rintro e w12 ⟨rfl, hb⟩; have n0_ := Aside0.mk (blk_below (g := gb117) (o := .cells #[.int .u32 a0_0, .int .u32 a0_1, .int .u32 a0_2, .int .u32 a0_3] 31 (0, 0)) (by (with_reducible repeat (first | refine blk_drewN ?_ _ | refine blk_drew ?_ | refine blk_alloc ?_ _)); exact BK117.out) hb); have n1_ := Aside0.mk (below_step (by repeat (first | (with_reducible first | exact HB.out | apply below_alloc | apply pw_below_drewN | apply below_drew1 | refine below_set ?_ GE117.out) | exact HB.out)) hb); clear BK117; clear HB; have BK117 := n0_; have HB := n1_; clear n0_ n1_; (try clear hb); (try clear hb2); (try clear hk); (try clear hi))); try go_wp2_with (first | (go_at_call 19; (with_reducible refine (zcode_has.calls a0_0 a0_1 a0_2 a0_3 a1 true _ A9.out).mono ?_); rintro e w12 ⟨rfl, hb⟩; have n0_ := Aside0.mk (blk_below (g := gb117) (o := .cells #[.int .u32 a0_0, .int .u32 a0_1, .int .u32 a0_2, .int .u32 a0_3] 31 (0, 0)) (by (with_reducible repeat (first | refine blk_drewN ?_ _ | refine blk_drew ?_ | refine blk_alloc ?_ _)); exact BK117.out) hb); have n1_ := Aside0.mk (below_step (by repeat (first | (with_reducible first | exact HB.out | apply below_alloc | apply pw_below_drewN | apply below_drew1 | refine below_set ?_ GE117.out) | exact HB.out)) hb); clear BK117; clear HB; have BK117 := n0_; have HB := n1_; clear n0_ n1_; (try clear hb); (try clear hb2); (try clear hk); (try clear hi))))
          go_ret2
          exact ⟨by first | rfl | (simp [errW_none, errW_some] <;> rfl) | (simp [*, errW_none, errW_some] <;> rfl), by repeat (first | (with_reducible first | exact HB.out | apply below_alloc | apply pw_below_drewN | apply below_drew1 | refine below_set ?_ GE117.out) | exact HB.out)⟩
        · replace c10 := Bool.eq_false_iff.mpr c10
          subst c10
          have H1 : ((zcode_bounds.f a0_0 a0_1 a0_2 a0_3).bind fun bt119 => (zcode_Next.l0 kj2 a1 bt119.1 bt119.2 0 false 0)) = some (r1, r2) := by rw [if_neg (show ¬ (false = true) by decide)] at H; exact H
          clear H
          have H := H1
          clear H1
          replace H := Option.bind_eq_some_iff.mp H
          obtain ⟨⟨t119, t120⟩, A130, H⟩ := H
          replace H : (zcode_Next.l0 kj2 a1 t119 t120 0 false 0) = some (r1, r2) := H
          have A13 := Aside0.mk A130
          clear A130
          have H' := Aside0.mk H
          clear H
          have hcz14_0 : wc.cell? ⟨gb117, 0, none⟩ = some (.int .u32 a0_0) := (blk_cell BK117.out 0).trans rfl
          have hcz14_1 : wc.cell? ⟨gb117, 1, none⟩ = some (.int .u32 a0_1) := (blk_cell BK117.out 1).trans rfl
          have hcz14_2 : wc.cell? ⟨gb117, 2, none⟩ = some (.int .u32 a0_2) := (blk_cell BK117.out 2).trans rfl
          have hcz14_3 : wc.cell? ⟨gb117, 3, none⟩ = some (.int .u32 a0_3) := (blk_cell BK117.out 3).trans rfl
          have hfz14_0 := blk_frozen BK117.out 0
          have hfz14_1 := blk_frozen BK117.out 1
          have hfz14_2 := blk_frozen BK117.out 2
          have hfz14_3 := blk_frozen BK117.out 3
          go_wp2_with (first | (go_at_call 19; (with_reducible refine (zcode_has.calls a0_0 a0_1 a0_2 a0_3 a1 false _ A9.out).mono ?_); rintro e w15 ⟨rfl, hb⟩; have n0_ := Aside0.mk (blk_below (g := gb117) (o := .cells #[.int .u32 a0_0, .int .u32 a0_1, .int .u32 a0_2, .int .u32 a0_3] 31 (0, 0)) (by (with_reducible repeat (first | refine blk_drewN ?_ _ | refine blk_drew ?_ | refine blk_alloc ?_ _)); exact BK117.out) hb); have n1_ := Aside0.mk (below_step (by repeat (first | (with_reducible first | exact HB.out | apply below_alloc | apply pw_below_drewN | apply below_drew1 | refine below_set ?_ GE117.out) | exact HB.out)) hb); clear BK117; clear HB; have BK117 := n0_; have HB := n1_; clear n0_ n1_; (try clear hb); (try clear hb2); (try clear hk); (try clear hi); have hcz16_0 : w15.cell? ⟨gb117, 0, none⟩ = some (.int .u32 a0_0) := (blk_cell BK117.out 0).trans rfl; have hcz16_1 : w15.cell? ⟨gb117, 1, none⟩ = some (.int .u32 a0_1) := (blk_cell BK117.out 1).trans rfl; have hcz16_2 : w15.cell? ⟨gb117, 2, none⟩ = some (.int .u32 a0_2) := (blk_cell BK117.out 2).trans rfl; have hcz16_3 : w15.cell? ⟨gb117, 3, none⟩ = some (.int .u32 a0_3) := (blk_cell BK117.out 3).trans rfl; have hfz16_0 := blk_frozen BK117.out 0; have hfz16_1 := blk_frozen BK117.out 1; have hfz16_2 := blk_frozen BK117.out 2; have hfz16_3 := blk_frozen BK117.out 3) | (go_at_call 20; (with_reducible refine (zcode_bounds.calls a0_0 a0_1 a0_2 a0_3 t119 t120 _ A13.out).mono ?_); rintro e w17 ⟨rfl, hb⟩; have n0_ := Aside0.mk (blk_below (g := gb117) (o := .cells #[.int .u32 a0_0, .int .u32 a0_1, .int .u32 a0_2, .int .u32 a0_3] 31 (0, 0)) (by (with_reducible repeat (first | refine blk_drewN ?_ _ | refine blk_drew ?_ | refine blk_alloc ?_ _)); exact BK117.out) hb); have n1_ := Aside0.mk (below_step (by repeat (first | (with_reducible first | exact HB.out | apply below_alloc | apply pw_below_drewN | apply below_drew1 | refine below_set ?_ GE117.out) | exact HB.out)) hb); clear BK117; clear HB; have BK117 := n0_; have HB := n1_; clear n0_ n1_; (try clear hb); (try clear hb2); (try clear hk); (try clear hi)))
          repeat (go_quiet (first | (go_at_call 19; (with_reducible refine (zcode_has.calls a0_0 a0_1 a0_2 a0_3 a1 false _ A9.out).mono ?_); rintro e w15 ⟨rfl, hb⟩; have n0_ := Aside0.mk (blk_below (g := gb117) (o := .cells #[.int .u32 a0_0, .int .u32 a0_1, .int .u32 a0_2, .int .u32 a0_3] 31 (0, 0)) (by (with_reducible repeat (first | refine blk_drewN ?_ _ | refine blk_drew ?_ | refine blk_alloc ?_ _)); exact BK117.out) hb); have n1_ := Aside0.mk (below_step (by repeat (first | (with_reducible first | exact HB.out | apply below_alloc | apply pw_below_drewN | apply below_drew1 | refine below_set ?_ GE117.out) | exact HB.out)) hb); clear BK117; clear HB; have BK117 := n0_; have HB := n1_; clear n0_ n1_; (try clear hb); (try clear hb2); (try clear hk); (try clear hi); have hcz16_0 : w15.cell? ⟨gb117, 0, none⟩ = some (.int .u32 a0_0) := (blk_cell BK117.out 0).trans rfl; have hcz16_1 : w15.cell? ⟨gb117, 1, none⟩ = some (.int .u32 a0_1) := (blk_cell BK117.out 1).trans rfl; have hcz16_2 : w15.cell? ⟨gb117, 2, none⟩ = some (.int .u32 a0_2) := (blk_cell BK117.out 2).trans rfl; have hcz16_3 : w15.cell? ⟨gb117, 3, none⟩ = some (.int .u32 a0_3) := (blk_cell BK117.out 3).trans rfl; have hfz16_0 := blk_frozen BK117.out 0; have hfz16_1 := blk_frozen BK117.out 1; have hfz16_2 := blk_frozen BK117.out 2; have hfz16_3 := blk_frozen BK117.out 3) | (go_at_call 20; (with_reducible refine (zcode_bounds.calls a0_0 a0_1 a0_2 a0_3 t119 t120 _ A13.out).mono ?_); rintro e w17 ⟨rfl, hb⟩; have n0_ := Aside0.mk (blk_below (g := gb117) (o := .cells #[.int .u32 a0_0, .int .u32 a0_1, .int .u32 a0_2, .int .u32 a0_3] 31 (0, 0)) (by (with_reducible repeat (first | refine blk_drewN ?_ _ | refine blk_drew ?_ | refine blk_alloc ?_ _)); exact BK117.out) hb); have n1_ := Aside0.mk (below_step (by repeat (first | (with_reducible first | exact HB.out | apply below_alloc | apply pw_below_drewN | apply below_drew1 | refine below_set ?_ GE117.out) | exact HB.out)) hb); clear BK117; clear HB; have BK117 := n0_; have HB := n1_; clear n0_ n1_; (try clear hb); (try clear hb2); (try clear hk); (try clear hi))); try go_wp2_with (first | (go_at_call 19; (with_reducible refine (zcode_has.calls a0_0 a0_1 a0_2 a0_3 a1 false _ A9.out).mono ?_); rintro e w15 ⟨rfl, hb⟩; have n0_ := Aside0.mk (blk_below (g := gb117) (o := .cells #[.int .u32 a0_0, .int .u32 a0_1, .int .u32 a0_2, .int .u32 a0_3] 31 (0, 0)) (by (with_reducible repeat (first | refine blk_drewN ?_ _ | refine blk_drew ?_ | refine blk_alloc ?_ _)); exact BK117.out) hb); have n1_ := Aside0.mk (below_step (by repeat (first | (with_reducible first | exact HB.out | apply below_alloc | apply pw_below_drewN | apply below_drew1 | refine below_set ?_ GE117.out) | exact HB.out)) hb); clear BK117; clear HB; have BK117 := n0_; have HB := n1_; clear n0_ n1_; (try clear hb); (try clear hb2); (try clear hk); (try clear hi); have hcz16_0 : w15.cell? ⟨gb117, 0, none⟩ = some (.int .u32 a0_0) := (blk_cell BK117.out 0).trans rfl; have hcz16_1 : w15.cell? ⟨gb117, 1, none⟩ = some (.int .u32 a0_1) := (blk_cell BK117.out 1).trans rfl; have hcz16_2 : w15.cell? ⟨gb117, 2, none⟩ = some (.int .u32 a0_2) := (blk_cell BK117.out 2).trans rfl; have hcz16_3 : w15.cell? ⟨gb117, 3, none⟩ = some (.int .u32 a0_3) := (blk_cell BK117.out 3).trans rfl; have hfz16_0 := blk_frozen BK117.out 0; have hfz16_1 := blk_frozen BK117.out 1; have hfz16_2 := blk_frozen BK117.out 2; have hfz16_3 := blk_frozen BK117.out 3) | (go_at_call 20; (with_reducible refine (zcode_bounds.calls a0_0 a0_1 a0_2 a0_3 t119 t120 _ A13.out).mono ?_); rintro e w17 ⟨rfl, hb⟩; have n0_ := Aside0.mk (blk_below (g := gb117) (o := .cells #[.int .u32 a0_0, .int .u32 a0_1, .int .u32 a0_2, .int .u32 a0_3] 31 (0, 0)) (by (with_reducible repeat (first | refine blk_drewN ?_ _ | refine blk_drew ?_ | refine blk_alloc ?_ _)); exact BK117.out) hb); have n1_ := Aside0.mk (below_step (by repeat (first | (with_reducible first | exact HB.out | apply below_alloc | apply pw_below_drewN | apply below_drew1 | refine below_set ?_ GE117.out) | exact HB.out)) hb); clear BK117; clear HB; have BK117 := n0_; have HB := n1_; clear n0_ n1_; (try clear hb); (try clear hb2); (try clear hk); (try clear hi))))
          go_loopg [6, 7, 8, 9, 33] kj2 (fun kq v6 v7 v8 v9 v33 w' => ∃ (x6_2 : Int) (x7_2 : Int) (x8_2 : Int) (x9_2 : Bool) (x33_2 : Int), v6 = .int .u64 x6_2 ∧ v7 = .int .u64 x7_2 ∧ v8 = .int .u64 x8_2 ∧ v9 = .bool x9_2 ∧ v33 = .int .i64 x33_2 ∧ Aside0 (zcode_Next.l0 kq a1 x6_2 x7_2 x8_2 x9_2 x33_2 = some (r1, r2)) ∧ Aside0 (kq ≤ kj2) ∧ Aside0 (w'.heap[gb117]? = some (.cells #[.int .u32 a0_0, .int .u32 a0_1, .int .u32 a0_2, .int .u32 a0_3] 31 (0, 0))) ∧ Aside0 (Below w.heap.size w w'))
          case atStart => exact ⟨(t119), (t120), (0), (false), (0), (by first | rfl | (simp; done) | (simp [*]; done)), (by first | rfl | (simp; done) | (simp [*]; done)), (by first | rfl | (simp; done) | (simp [*]; done)), (by first | rfl | (simp; done) | (simp [*]; done)), (by first | rfl | (simp; done) | (simp [*]; done)), H', ⟨Nat.le_refl _⟩, ⟨by (with_reducible repeat (first | refine blk_drewN ?_ _ | refine blk_drew ?_ | refine blk_alloc ?_ _)); exact BK117.out⟩, ⟨by repeat (first | (with_reducible first | exact HB.out | apply below_alloc | apply pw_below_drewN | apply below_drew1 | refine below_set ?_ GE117.out) | exact HB.out)⟩⟩
          case round =>
            clear H'
            try clear c1
            try clear p2
            try clear c5
            try clear c5b0
            try clear c8
            try clear c10
            try clear c14
            try clear hcz11_0
            try clear hcz11_1
            try clear hcz11_2
            try clear hcz11_3
            try clear hcz14_0
            try clear hcz14_1
            try clear hcz14_2
            try clear hcz14_3
            try clear hcz16_0
            try clear hcz16_1
            try clear hcz16_2
            try clear hcz16_3
            try clear hcz6_0
            try clear hcz6_1
            try clear hcz6_2
            try clear hcz6_3
            try clear hcz7_0
            try clear hcz7_1
            try clear hcz7_2
            try clear hcz7_3
            try clear hfz11_0
            try clear hfz11_1
            try clear hfz11_2
            try clear hfz11_3
            try clear hfz14_0
            try clear hfz14_1
            try clear hfz14_2
            try clear hfz14_3
            try clear hfz16_0
            try clear hfz16_1
            try clear hfz16_2
            try clear hfz16_3
            try clear hfz6_0
            try clear hfz6_1
            try clear hfz6_2
            try clear hfz6_3
            try clear hfz7_0
            try clear hfz7_1
            try clear hfz7_2
            try clear hfz7_3
            try clear p2
            obtain ⟨x6_2, x7_2, x8_2, x9_2, x33_2, rfl, rfl, rfl, rfl, rfl, HA, HK2, BK117, HB⟩ := hrel
            cases gk with
            | zero => exact absurd HA.out (by simp [zcode_Next.l0])
            | succ k2 =>
              have H := HA.out
              clear HA
              simp only [zcode_Next.l0] at H
              by_cases c18 : x33_2 < 64
              · rw [if_pos c18] at H
                have c18b0 : decide (x33_2 < 64) = true := decide_eq_true c18
                clear c18
                obtain ⟨ji19, hji19⟩ : ∃ j_ : Int, (wrap64 (63 - x33_2)) = j_ := ⟨_, rfl⟩
                replace H : (if 0 ≤ (ji19) then (if ((Go.bits .and .u64 (shr .u64 a1 (ji19)) 1) == 0 && ((Go.bits .and .u64 (shr .u64 x6_2 (ji19)) 1) == 0 && ((Go.bits .and .u64 (shr .u64 x7_2 (ji19)) 1) == 1))) = true then ((zcode_raise.f x6_2 (ji19)).bind fun t121 => ((zcode_lower.f x7_2 (ji19)).bind fun t122 => (zcode_Next.l0 k2 a1 x6_2 t122 t121 true (wrap64 (x33_2 + 1))))) else (if ((Go.bits .and .u64 (shr .u64 a1 (ji19)) 1) == 0 && ((Go.bits .and .u64 (shr .u64 x6_2 (ji19)) 1) == 1 && ((Go.bits .and .u64 (shr .u64 x7_2 (ji19)) 1) == 1))) = true then (some (x6_2, true)) else (if ((Go.bits .and .u64 (shr .u64 a1 (ji19)) 1) == 1 && ((Go.bits .and .u64 (shr .u64 x6_2 (ji19)) 1) == 0 && ((Go.bits .and .u64 (shr .u64 x7_2 (ji19)) 1) == 0))) = true then (some (x8_2, x9_2)) else (if ((Go.bits .and .u64 (shr .u64 a1 (ji19)) 1) == 1 && ((Go.bits .and .u64 (shr .u64 x6_2 (ji19)) 1) == 0 && ((Go.bits .and .u64 (shr .u64 x7_2 (ji19)) 1) == 1))) = true then ((zcode_raise.f x6_2 (ji19)).bind fun t123 => (zcode_Next.l0 k2 a1 t123 x7_2 x8_2 x9_2 (wrap64 (x33_2 + 1)))) else (zcode_Next.l0 k2 a1 x6_2 x7_2 x8_2 x9_2 (wrap64 (x33_2 + 1))))))) else (none)) = some (r1, r2) := by first | (rw [hji19] at H; exact H) | (simp only [hji19] at H ⊢; exact H)
                have hji19w : (IntKind.i64.wrap (63 - x33_2)) = ji19 := (i64_w _).trans hji19
                by_cases c20 : 0 ≤ (ji19)
                · rw [if_pos c20] at H
                  have c20b0 := eq_true c20
                  have c20b1 : decide (0 ≤ (ji19)) = true := decide_eq_true c20
                  clear c20
                  obtain ⟨ji21, hji21⟩ : ∃ j_ : Int, (shr .u64 a1 (ji19)) = j_ := ⟨_, rfl⟩
                  replace H : (if ((Go.bits .and .u64 (ji21) 1) == 0 && ((Go.bits .and .u64 (shr .u64 x6_2 (ji19)) 1) == 0 && ((Go.bits .and .u64 (shr .u64 x7_2 (ji19)) 1) == 1))) = true then ((zcode_raise.f x6_2 (ji19)).bind fun t121 => ((zcode_lower.f x7_2 (ji19)).bind fun t122 => (zcode_Next.l0 k2 a1 x6_2 t122 t121 true (wrap64 (x33_2 + 1))))) else (if ((Go.bits .and .u64 (ji21) 1) == 0 && ((Go.bits .and .u64 (shr .u64 x6_2 (ji19)) 1) == 1 && ((Go.bits .and .u64 (shr .u64 x7_2 (ji19)) 1) == 1))) = true then (some (x6_2, true)) else (if ((Go.bits .and .u64 (ji21) 1) == 1 && ((Go.bits .and .u64 (shr .u64 x6_2 (ji19)) 1) == 0 && ((Go.bits .and .u64 (shr .u64 x7_2 (ji19)) 1) == 0))) = true then (some (x8_2, x9_2)) else (if ((Go.bits .and .u64 (ji21) 1) == 1 && ((Go.bits .and .u64 (shr .u64 x6_2 (ji19)) 1) == 0 && ((Go.bits .and .u64 (shr .u64 x7_2 (ji19)) 1) == 1))) = true then ((zcode_raise.f x6_2 (ji19)).bind fun t123 => (zcode_Next.l0 k2 a1 t123 x7_2 x8_2 x9_2 (wrap64 (x33_2 + 1)))) else (zcode_Next.l0 k2 a1 x6_2 x7_2 x8_2 x9_2 (wrap64 (x33_2 + 1))))))) = some (r1, r2) := by first | (rw [hji21] at H; exact H) | (simp only [hji21] at H ⊢; exact H)
                  have hji21_ : (a1 / 2 ^ min (ji19).toNat 64) = ji21 := hji21
                  have hji21z : (ji19) ≤ 64 → (a1 / 2 ^ (ji19).toNat) = ji21 := shr_small hji21
                  have c22b0 := eq_true (of_decide_eq_true (by first | (with_reducible assumption) | assumption) : 0 ≤ (ji19))
                  obtain ⟨ji23, hji23⟩ : ∃ j_ : Int, (shr .u64 x6_2 (ji19)) = j_ := ⟨_, rfl⟩
                  replace H : (if ((Go.bits .and .u64 (ji21) 1) == 0 && ((Go.bits .and .u64 (ji23) 1) == 0 && ((Go.bits .and .u64 (shr .u64 x7_2 (ji19)) 1) == 1))) = true then ((zcode_raise.f x6_2 (ji19)).bind fun t121 => ((zcode_lower.f x7_2 (ji19)).bind fun t122 => (zcode_Next.l0 k2 a1 x6_2 t122 t121 true (wrap64 (x33_2 + 1))))) else (if ((Go.bits .and .u64 (ji21) 1) == 0 && ((Go.bits .and .u64 (ji23) 1) == 1 && ((Go.bits .and .u64 (shr .u64 x7_2 (ji19)) 1) == 1))) = true then (some (x6_2, true)) else (if ((Go.bits .and .u64 (ji21) 1) == 1 && ((Go.bits .and .u64 (ji23) 1) == 0 && ((Go.bits .and .u64 (shr .u64 x7_2 (ji19)) 1) == 0))) = true then (some (x8_2, x9_2)) else (if ((Go.bits .and .u64 (ji21) 1) == 1 && ((Go.bits .and .u64 (ji23) 1) == 0 && ((Go.bits .and .u64 (shr .u64 x7_2 (ji19)) 1) == 1))) = true then ((zcode_raise.f x6_2 (ji19)).bind fun t123 => (zcode_Next.l0 k2 a1 t123 x7_2 x8_2 x9_2 (wrap64 (x33_2 + 1)))) else (zcode_Next.l0 k2 a1 x6_2 x7_2 x8_2 x9_2 (wrap64 (x33_2 + 1))))))) = some (r1, r2) := by first | (rw [hji23] at H; exact H) | (simp only [hji23] at H ⊢; exact H)
                  have hji23_ : (x6_2 / 2 ^ min (ji19).toNat 64) = ji23 := hji23
                  have hji23z : (ji19) ≤ 64 → (x6_2 / 2 ^ (ji19).toNat) = ji23 := shr_small hji23
                  have c24b0 := eq_true (of_decide_eq_true (by first | (with_reducible assumption) | assumption) : 0 ≤ (ji19))
                  obtain ⟨ji25, hji25⟩ : ∃ j_ : Int, (shr .u64 x7_2 (ji19)) = j_ := ⟨_, rfl⟩
                  replace H : (if ((Go.bits .and .u64 (ji21) 1) == 0 && ((Go.bits .and .u64 (ji23) 1) == 0 && ((Go.bits .and .u64 (ji25) 1) == 1))) = true then ((zcode_raise.f x6_2 (ji19)).bind fun t121 => ((zcode_lower.f x7_2 (ji19)).bind fun t122 => (zcode_Next.l0 k2 a1 x6_2 t122 t121 true (wrap64 (x33_2 + 1))))) else (if ((Go.bits .and .u64 (ji21) 1) == 0 && ((Go.bits .and .u64 (ji23) 1) == 1 && ((Go.bits .and .u64 (ji25) 1) == 1))) = true then (some (x6_2, true)) else (if ((Go.bits .and .u64 (ji21) 1) == 1 && ((Go.bits .and .u64 (ji23) 1) == 0 && ((Go.bits .and .u64 (ji25) 1) == 0))) = true then (some (x8_2, x9_2)) else (if ((Go.bits .and .u64 (ji21) 1) == 1 && ((Go.bits .and .u64 (ji23) 1) == 0 && ((Go.bits .and .u64 (ji25) 1) == 1))) = true then ((zcode_raise.f x6_2 (ji19)).bind fun t123 => (zcode_Next.l0 k2 a1 t123 x7_2 x8_2 x9_2 (wrap64 (x33_2 + 1)))) else (zcode_Next.l0 k2 a1 x6_2 x7_2 x8_2 x9_2 (wrap64 (x33_2 + 1))))))) = some (r1, r2) := by first | (rw [hji25] at H; exact H) | (simp only [hji25] at H ⊢; exact H)
                  have hji25_ : (x7_2 / 2 ^ min (ji19).toNat 64) = ji25 := hji25
                  have hji25z : (ji19) ≤ 64 → (x7_2 / 2 ^ (ji19).toNat) = ji25 := shr_small hji25
                  by_cases c26 : ((Go.bits .and .u64 (ji21) 1) == 0 && ((Go.bits .and .u64 (ji23) 1) == 0 && ((Go.bits .and .u64 (ji25) 1) == 1))) = true
                  · rw [if_pos c26] at H
                    have c26b0 : ((Go.bits .and .u64 (ji21) 1) == 0 && ((Go.bits .and .u64 (ji23) 1) == 0 && ((Go.bits .and .u64 (ji25) 1) == 1))) = true := c26
                    (try (have c26b1 : decide ((Go.bits .and .u64 (ji21) 1) = 0 && ((Go.bits .and .u64 (ji23) 1) == 0 && ((Go.bits .and .u64 (ji25) 1) == 1))) = true := by simpa using c26))
                    (try (have c26b2 : ((Go.bits .and .u64 (ji21) 1) == 0 && ((Go.bits .and .u64 (ji23) 1) == 0 && ((Go.bits .and .u64 (ji25) 1) == 1))) = true := by simpa using c26))
                    clear c26
                    replace H := Option.bind_eq_some_iff.mp H
                    obtain ⟨t121, A270, H⟩ := H
                    replace H : ((zcode_lower.f x7_2 (ji19)).bind fun t122 => (zcode_Next.l0 k2 a1 x6_2 t122 t121 true (wrap64 (x33_2 + 1)))) = some (r1, r2) := H
                    have A27 := Aside0.mk A270
                    clear A270
                    replace H := Option.bind_eq_some_iff.mp H
                    obtain ⟨t122, A280, H⟩ := H
                    replace H : (zcode_Next.l0 k2 a1 x6_2 t122 t121 true (wrap64 (x33_2 + 1))) = some (r1, r2) := H
                    have A28 := Aside0.mk A280
                    clear A280
                    have H' := Aside0.mk H
                    clear H
                    go_wp2_with (first | (go_at_call 21; (with_reducible refine (zcode_raise.calls x6_2 ji19 t121 _ A27.out).mono ?_); rintro e w' ⟨rfl, ⟨nd, rfl⟩⟩; (try first | exact ⟨rfl, _, World.drewN_drewN _ _ _⟩ | exact ⟨rfl, _, Eq.trans (World.drewN_drewN _ _ _) (congrArg (World.drewN _) (Nat.add_assoc _ _ _))⟩)) | (go_at_call 22; (with_reducible refine (zcode_lower.calls x7_2 ji19 t122 _ A28.out).mono ?_); rintro e w' ⟨rfl, ⟨nd, rfl⟩⟩; (try first | exact ⟨rfl, _, World.drewN_drewN _ _ _⟩ | exact ⟨rfl, _, Eq.trans (World.drewN_drewN _ _ _) (congrArg (World.drewN _) (Nat.add_assoc _ _ _))⟩)))
                    repeat (go_quiet (first | (go_at_call 21; (with_reducible refine (zcode_raise.calls x6_2 ji19 t121 _ A27.out).mono ?_); rintro e w' ⟨rfl, ⟨nd, rfl⟩⟩; (try first | exact ⟨rfl, _, World.drewN_drewN _ _ _⟩ | exact ⟨rfl, _, Eq.trans (World.drewN_drewN _ _ _) (congrArg (World.drewN _) (Nat.add_assoc _ _ _))⟩)) | (go_at_call 22; (with_reducible refine (zcode_lower.calls x7_2 ji19 t122 _ A28.out).mono ?_); rintro e w' ⟨rfl, ⟨nd, rfl⟩⟩; (try first | exact ⟨rfl, _, World.drewN_drewN _ _ _⟩ | exact ⟨rfl, _, Eq.trans (World.drewN_drewN _ _ _) (congrArg (World.drewN _) (Nat.add_assoc _ _ _))⟩))); try go_wp2_with (first | (go_at_call 21; (with_reducible refine (zcode_raise.calls x6_2 ji19 t121 _ A27.out).mono ?_); rintro e w' ⟨rfl, ⟨nd, rfl⟩⟩; (try first | exact ⟨rfl, _, World.drewN_drewN _ _ _⟩ | exact ⟨rfl, _, Eq.trans (World.drewN_drewN _ _ _) (congrArg (World.drewN _) (Nat.add_assoc _ _ _))⟩)) | (go_at_call 22; (with_reducible refine (zcode_lower.calls x7_2 ji19 t122 _ A28.out).mono ?_); rintro e w' ⟨rfl, ⟨nd, rfl⟩⟩; (try first | exact ⟨rfl, _, World.drewN_drewN _ _ _⟩ | exact ⟨rfl, _, Eq.trans (World.drewN_drewN _ _ _) (congrArg (World.drewN _) (Nat.add_assoc _ _ _))⟩))))
                    go_roundg k2
                    case measure => have := HJ2.out; have := HK2.out; omega
                    case rel => exact ⟨(x6_2), (t122), (t121), (true), (wrap64 (x33_2 + 1)), (by first | rfl | (simp; done) | (simp [*]; done)), (by first | rfl | (simp; done) | (simp [*]; done)), (by first | rfl | (simp; done) | (simp [*]; done)), (by first | rfl | (simp; done) | (simp [*]; done)), (by first | rfl | (simp; done) | (simp [*]; done)), H', ⟨by have := HJ2.out; have := HK2.out; omega⟩, ⟨by (with_reducible repeat (first | refine blk_drewN ?_ _ | refine blk_drew ?_ | refine blk_alloc ?_ _)); exact BK117.out⟩, ⟨by repeat (first | (with_reducible first | exact HB.out | apply below_alloc | apply pw_below_drewN | apply below_drew1 | refine below_set ?_ GE117.out) | exact HB.out)⟩⟩
                  · rw [if_neg c26] at H
                    have c26b0 : ((Go.bits .and .u64 (ji21) 1) == 0 && ((Go.bits .and .u64 (ji23) 1) == 0 && ((Go.bits .and .u64 (ji25) 1) == 1))) = false := by simpa using c26
                    (try (have c26b1 : decide ((Go.bits .and .u64 (ji21) 1) = 0 && ((Go.bits .and .u64 (ji23) 1) == 0 && ((Go.bits .and .u64 (ji25) 1) == 1))) = false := by simpa using c26))
                    (try (have c26b2 : ((Go.bits .and .u64 (ji21) 1) == 0 && ((Go.bits .and .u64 (ji23) 1) == 0 && ((Go.bits .and .u64 (ji25) 1) == 1))) = false := by simpa using c26))
                    (try (have c26b3 : ¬ ((Go.bits .and .u64 (ji21) 1) = 0 && ((Go.bits .and .u64 (ji23) 1) == 0 && ((Go.bits .and .u64 (ji25) 1) == 1))) := by simpa using c26))
                    clear c26
                    by_cases c29 : ((Go.bits .and .u64 (ji21) 1) == 0 && ((Go.bits .and .u64 (ji23) 1) == 1 && ((Go.bits .and .u64 (ji25) 1) == 1))) = true
                    · rw [if_pos c29] at H
                      have c29b0 : ((Go.bits .and .u64 (ji21) 1) == 0 && ((Go.bits .and .u64 (ji23) 1) == 1 && ((Go.bits .and .u64 (ji25) 1) == 1))) = true := c29
                      (try (have c29b1 : decide ((Go.bits .and .u64 (ji21) 1) = 0 && ((Go.bits .and .u64 (ji23) 1) == 1 && ((Go.bits .and .u64 (ji25) 1) == 1))) = true := by simpa using c29))
                      (try (have c29b2 : ((Go.bits .and .u64 (ji21) 1) == 0 && ((Go.bits .and .u64 (ji23) 1) == 1 && ((Go.bits .and .u64 (ji25) 1) == 1))) = true := by simpa using c29))
                      clear c29
                      simp only [Option.some.injEq, Prod.mk.injEq] at H
                      obtain ⟨rfl, rfl⟩ := H
                      go_wp2
                      repeat (go_quiet (fail); try go_wp2)
                      go_ret2
                      exact ⟨by first | rfl | (simp [errW_none, errW_some] <;> rfl) | (simp only [← hji19, ← hji21, ← hji23, ← hji25]; first | rfl | (simp [errW_none, errW_some] <;> rfl)) | (simp [*, errW_none, errW_some] <;> rfl), by repeat (first | (with_reducible first | exact HB.out | apply below_alloc | apply pw_below_drewN | apply below_drew1 | refine below_set ?_ GE117.out) | exact HB.out)⟩
                    · rw [if_neg c29] at H
                      have c29b0 : ((Go.bits .and .u64 (ji21) 1) == 0 && ((Go.bits .and .u64 (ji23) 1) == 1 && ((Go.bits .and .u64 (ji25) 1) == 1))) = false := by simpa using c29
                      (try (have c29b1 : decide ((Go.bits .and .u64 (ji21) 1) = 0 && ((Go.bits .and .u64 (ji23) 1) == 1 && ((Go.bits .and .u64 (ji25) 1) == 1))) = false := by simpa using c29))
                      (try (have c29b2 : ((Go.bits .and .u64 (ji21) 1) == 0 && ((Go.bits .and .u64 (ji23) 1) == 1 && ((Go.bits .and .u64 (ji25) 1) == 1))) = false := by simpa using c29))
                      (try (have c29b3 : ¬ ((Go.bits .and .u64 (ji21) 1) = 0 && ((Go.bits .and .u64 (ji23) 1) == 1 && ((Go.bits .and .u64 (ji25) 1) == 1))) := by simpa using c29))
                      clear c29
                      by_cases c30 : ((Go.bits .and .u64 (ji21) 1) == 1 && ((Go.bits .and .u64 (ji23) 1) == 0 && ((Go.bits .and .u64 (ji25) 1) == 0))) = true
                      · rw [if_pos c30] at H
                        have c30b0 : ((Go.bits .and .u64 (ji21) 1) == 1 && ((Go.bits .and .u64 (ji23) 1) == 0 && ((Go.bits .and .u64 (ji25) 1) == 0))) = true := c30
                        (try (have c30b1 : decide ((Go.bits .and .u64 (ji21) 1) = 1 && ((Go.bits .and .u64 (ji23) 1) == 0 && ((Go.bits .and .u64 (ji25) 1) == 0))) = true := by simpa using c30))
                        (try (have c30b2 : ((Go.bits .and .u64 (ji21) 1) == 1 && ((Go.bits .and .u64 (ji23) 1) == 0 && ((Go.bits .and .u64 (ji25) 1) == 0))) = true := by simpa using c30))
                        clear c30
                        simp only [Option.some.injEq, Prod.mk.injEq] at H
                        obtain ⟨rfl, rfl⟩ := H
                        go_wp2
                        repeat (go_quiet (fail); try go_wp2)
                        go_ret2
                        exact ⟨by first | rfl | (simp [errW_none, errW_some] <;> rfl) | (simp only [← hji19, ← hji21, ← hji23, ← hji25]; first | rfl | (simp [errW_none, errW_some] <;> rfl)) | (simp [*, errW_none, errW_some] <;> rfl), by repeat (first | (with_reducible first | exact HB.out | apply below_alloc | apply pw_below_drewN | apply below_drew1 | refine below_set ?_ GE117.out) | exact HB.out)⟩
                      · rw [if_neg c30] at H
                        have c30b0 : ((Go.bits .and .u64 (ji21) 1) == 1 && ((Go.bits .and .u64 (ji23) 1) == 0 && ((Go.bits .and .u64 (ji25) 1) == 0))) = false := by simpa using c30
                        (try (have c30b1 : decide ((Go.bits .and .u64 (ji21) 1) = 1 && ((Go.bits .and .u64 (ji23) 1) == 0 && ((Go.bits .and .u64 (ji25) 1) == 0))) = false := by simpa using c30))
                        (try (have c30b2 : ((Go.bits .and .u64 (ji21) 1) == 1 && ((Go.bits .and .u64 (ji23) 1) == 0 && ((Go.bits .and .u64 (ji25) 1) == 0))) = false := by simpa using c30))
                        (try (have c30b3 : ¬ ((Go.bits .and .u64 (ji21) 1) = 1 && ((Go.bits .and .u64 (ji23) 1) == 0 && ((Go.bits .and .u64 (ji25) 1) == 0))) := by simpa using c30))
                        clear c30
                        by_cases c31 : ((Go.bits .and .u64 (ji21) 1) == 1 && ((Go.bits .and .u64 (ji23) 1) == 0 && ((Go.bits .and .u64 (ji25) 1) == 1))) = true
                        · rw [if_pos c31] at H
                          have c31b0 : ((Go.bits .and .u64 (ji21) 1) == 1 && ((Go.bits .and .u64 (ji23) 1) == 0 && ((Go.bits .and .u64 (ji25) 1) == 1))) = true := c31
                          (try (have c31b1 : decide ((Go.bits .and .u64 (ji21) 1) = 1 && ((Go.bits .and .u64 (ji23) 1) == 0 && ((Go.bits .and .u64 (ji25) 1) == 1))) = true := by simpa using c31))
                          (try (have c31b2 : ((Go.bits .and .u64 (ji21) 1) == 1 && ((Go.bits .and .u64 (ji23) 1) == 0 && ((Go.bits .and .u64 (ji25) 1) == 1))) = true := by simpa using c31))
                          clear c31
                          replace H := Option.bind_eq_some_iff.mp H
                          obtain ⟨t123, A320, H⟩ := H
                          replace H : (zcode_Next.l0 k2 a1 t123 x7_2 x8_2 x9_2 (wrap64 (x33_2 + 1))) = some (r1, r2) := H
                          have A32 := Aside0.mk A320
                          clear A320
                          have H' := Aside0.mk H
                          clear H
                          go_wp2_with (first | (go_at_call 21; (with_reducible refine (zcode_raise.calls x6_2 ji19 t123 _ A32.out).mono ?_); rintro e w' ⟨rfl, ⟨nd, rfl⟩⟩; (try first | exact ⟨rfl, _, World.drewN_drewN _ _ _⟩ | exact ⟨rfl, _, Eq.trans (World.drewN_drewN _ _ _) (congrArg (World.drewN _) (Nat.add_assoc _ _ _))⟩)))
                          repeat (go_quiet (first | (go_at_call 21; (with_reducible refine (zcode_raise.calls x6_2 ji19 t123 _ A32.out).mono ?_); rintro e w' ⟨rfl, ⟨nd, rfl⟩⟩; (try first | exact ⟨rfl, _, World.drewN_drewN _ _ _⟩ | exact ⟨rfl, _, Eq.trans (World.drewN_drewN _ _ _) (congrArg (World.drewN _) (Nat.add_assoc _ _ _))⟩))); try go_wp2_with (first | (go_at_call 21; (with_reducible refine (zcode_raise.calls x6_2 ji19 t123 _ A32.out).mono ?_); rintro e w' ⟨rfl, ⟨nd, rfl⟩⟩; (try first | exact ⟨rfl, _, World.drewN_drewN _ _ _⟩ | exact ⟨rfl, _, Eq.trans (World.drewN_drewN _ _ _) (congrArg (World.drewN _) (Nat.add_assoc _ _ _))⟩))))
                          go_roundg k2
                          case measure => have := HJ2.out; have := HK2.out; omega
                          case rel => exact ⟨(t123), (x7_2), (x8_2), (x9_2), (wrap64 (x33_2 + 1)), (by first | rfl | (simp; done) | (simp [*]; done)), (by first | rfl | (simp; done) | (simp [*]; done)), (by first | rfl | (simp; done) | (simp [*]; done)), (by first | rfl | (simp; done) | (simp [*]; done)), (by first | rfl | (simp; done) | (simp [*]; done)), H', ⟨by have := HJ2.out; have := HK2.out; omega⟩, ⟨by (with_reducible repeat (first | refine blk_drewN ?_ _ | refine blk_drew ?_ | refine blk_alloc ?_ _)); exact BK117.out⟩, ⟨by repeat (first | (with_reducible first | exact HB.out | apply below_alloc | apply pw_below_drewN | apply below_drew1 | refine below_set ?_ GE117.out) | exact HB.out)⟩⟩
                        · rw [if_neg c31] at H
                          have c31b0 : ((Go.bits .and .u64 (ji21) 1) == 1 && ((Go.bits .and .u64 (ji23) 1) == 0 && ((Go.bits .and .u64 (ji25) 1) == 1))) = false := by simpa using c31
                          (try (have c31b1 : decide ((Go.bits .and .u64 (ji21) 1) = 1 && ((Go.bits .and .u64 (ji23) 1) == 0 && ((Go.bits .and .u64 (ji25) 1) == 1))) = false := by simpa using c31))
                          (try (have c31b2 : ((Go.bits .and .u64 (ji21) 1) == 1 && ((Go.bits .and .u64 (ji23) 1) == 0 && ((Go.bits .and .u64 (ji25) 1) == 1))) = false := by simpa using c31))
                          (try (have c31b3 : ¬ ((Go.bits .and .u64 (ji21) 1) = 1 && ((Go.bits .and .u64 (ji23) 1) == 0 && ((Go.bits .and .u64 (ji25) 1) == 1))) := by simpa using c31))
                          clear c31
                          have H' := Aside0.mk H
                          clear H
                          go_wp2
                          repeat (go_quiet (fail); try go_wp2)
                          go_roundg k2
                          case measure => have := HJ2.out; have := HK2.out; omega
                          case rel => exact ⟨(x6_2), (x7_2), (x8_2), (x9_2), (wrap64 (x33_2 + 1)), (by first | rfl | (simp; done) | (simp [*]; done)), (by first | rfl | (simp; done) | (simp [*]; done)), (by first | rfl | (simp; done) | (simp [*]; done)), (by first | rfl | (simp; done) | (simp [*]; done)), (by first | rfl | (simp; done) | (simp [*]; done)), H', ⟨by have := HJ2.out; have := HK2.out; omega⟩, ⟨by (with_reducible repeat (first | refine blk_drewN ?_ _ | refine blk_drew ?_ | refine blk_alloc ?_ _)); exact BK117.out⟩, ⟨by repeat (first | (with_reducible first | exact HB.out | apply below_alloc | apply pw_below_drewN | apply below_drew1 | refine below_set ?_ GE117.out) | exact HB.out)⟩⟩
                · rw [if_neg c20] at H
                  exact absurd H (by simp)
              · rw [if_neg c18] at H
                have c18b0 : decide (x33_2 < 64) = false := decide_eq_false c18
                clear c18
                simp only [Option.some.injEq, Prod.mk.injEq] at H
                obtain ⟨rfl, rfl⟩ := H
                go_wp2
                repeat (go_quiet (fail); try go_wp2)
                go_ret2
                exact ⟨by first | rfl | (simp [errW_none, errW_some] <;> rfl) | (simp [*, errW_none, errW_some] <;> rfl), by repeat (first | (with_reducible first | exact HB.out | apply below_alloc | apply pw_below_drewN | apply below_drew1 | refine below_set ?_ GE117.out) | exact HB.out)⟩

end Go.Proofs.Ytabkoclmhdnjfaa.PAll
