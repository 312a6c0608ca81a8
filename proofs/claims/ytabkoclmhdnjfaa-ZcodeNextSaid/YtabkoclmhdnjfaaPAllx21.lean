/- The functions that the laws of this seat reach, as plain functions with proofs that the calls answer just so (written by a program of this session on the kit's print). -/
import Derived.Test.YtabkoclmhdnjfaaPAllx0
import Derived.Test.YtabkoclmhdnjfaaPAllx8
import Derived.Test.YtabkoclmhdnjfaaPAllx16
import Derived.Test.YtabkoclmhdnjfaaPAllx17
namespace Go.Proofs.Ytabkoclmhdnjfaa.PAll
open Go.RowKit Go.Proofs.YtabkoclmhdnjfaaW.PrintWords Go.Proofs.YtabkoclmhdnjfaaW.PrintLast Go.Proofs.YtabkoclmhdnjfaaW.PrintMore
attribute [local go_sem] max2_int min2_int max_two min_two max_three min_three max_four min_four   -- for this text's walks alone
set_option linter.unusedVariables false
set_option linter.unusedSimpArgs false

/-! ### counterpanelaw24_ZcodeCounts: function 6 -/
mutual
def counterpanelaw24_ZcodeCounts.j0 : Nat → Int → Int → Int → Int → Int → Int → Bool → Option (Bool)
  | 0, _, _, _, _, _, _, _ => none
  | k + 1, x0, x1, x4, x5, x13, x14, x38 => if x38 = true then ((counterpanelaw24_works.f k).bind fun t165 => (some t165)) else (counterpanelaw24_ZcodeCounts.l0 k x0 x1 x4 x5 x13 x14 0 0 x0 x1 ((x0 + x13) % 4294967296) ((x1 + x14) % 4294967296))
def counterpanelaw24_ZcodeCounts.l0 : Nat → Int → Int → Int → Int → Int → Int → Int → Int → Int → Int → Int → Int → Option (Bool)
  | 0, _, _, _, _, _, _, _, _, _, _, _, _ => none
  | k + 1, x0, x1, x4, x5, x13, x14, x16, x17, x167000, x167001, x167002, x167003 => if x17 ≤ x13 then (counterpanelaw24_ZcodeCounts.l1 k x0 x1 x4 x5 x13 x14 x16 x17 0 x167000 x167001 x167002 x167003) else (if x16 > x5 then ((zcode_Count.f k x167000 x167001 x167002 x167003 x4 x5).bind fun t168 => (if t168 = x5 then ((counterpanelaw24_works.f k).bind fun t169 => (some t169)) else (none))) else ((zcode_Count.f k x167000 x167001 x167002 x167003 x4 x5).bind fun t170 => (if t170 = x16 then ((counterpanelaw24_works.f k).bind fun t171 => (some t171)) else (none))))
def counterpanelaw24_ZcodeCounts.l1 : Nat → Int → Int → Int → Int → Int → Int → Int → Int → Int → Int → Int → Int → Int → Option (Bool)
  | 0, _, _, _, _, _, _, _, _, _, _, _, _, _ => none
  | k + 1, x0, x1, x4, x5, x13, x14, x16, x17, x18, x167000, x167001, x167002, x167003 => if x18 ≤ x14 then ((counterpaneref24_Code.f k ((x0 + x17) % 4294967296) ((x1 + x18) % 4294967296)).bind fun t167 => (if t167 < x4 then (counterpanelaw24_ZcodeCounts.l1 k x0 x1 x4 x5 x13 x14 (wrap64 (x16 + 1)) x17 ((x18 + 1) % 4294967296) x167000 x167001 x167002 x167003) else (counterpanelaw24_ZcodeCounts.l1 k x0 x1 x4 x5 x13 x14 x16 x17 ((x18 + 1) % 4294967296) x167000 x167001 x167002 x167003))) else (counterpanelaw24_ZcodeCounts.l0 k x0 x1 x4 x5 x13 x14 x16 ((x17 + 1) % 4294967296) x167000 x167001 x167002 x167003)
end
def counterpanelaw24_ZcodeCounts.f (k : Nat) (a0 : Int) (a1 : Int) (a2 : Int) (a3 : Int) (a4 : Int) (a5 : Int) : Option (Bool) := if a0 > (4294967295 - (cvt .u32 (Int.tmod a2 8))) then (counterpanelaw24_ZcodeCounts.j0 k a0 a1 a4 a5 (cvt .u32 (Int.tmod a2 8)) (cvt .u32 (Int.tmod a3 8)) true) else (if a1 > (4294967295 - (cvt .u32 (Int.tmod a3 8))) then (counterpanelaw24_ZcodeCounts.j0 k a0 a1 a4 a5 (cvt .u32 (Int.tmod a2 8)) (cvt .u32 (Int.tmod a3 8)) true) else (counterpanelaw24_ZcodeCounts.j0 k a0 a1 a4 a5 (cvt .u32 (Int.tmod a2 8)) (cvt .u32 (Int.tmod a3 8)) (decide (a5 < 0))))
theorem counterpanelaw24_ZcodeCounts.mono_l : ∀ k, (∀ y0 y1 y2 y3 y4 y5 y6, LeO (counterpanelaw24_ZcodeCounts.j0 k y0 y1 y2 y3 y4 y5 y6) (counterpanelaw24_ZcodeCounts.j0 (k + 1) y0 y1 y2 y3 y4 y5 y6)) ∧ (∀ y0 y1 y2 y3 y4 y5 y6 y7 y8 y9 y10 y11, LeO (counterpanelaw24_ZcodeCounts.l0 k y0 y1 y2 y3 y4 y5 y6 y7 y8 y9 y10 y11) (counterpanelaw24_ZcodeCounts.l0 (k + 1) y0 y1 y2 y3 y4 y5 y6 y7 y8 y9 y10 y11)) ∧ (∀ y0 y1 y2 y3 y4 y5 y6 y7 y8 y9 y10 y11 y12, LeO (counterpanelaw24_ZcodeCounts.l1 k y0 y1 y2 y3 y4 y5 y6 y7 y8 y9 y10 y11 y12) (counterpanelaw24_ZcodeCounts.l1 (k + 1) y0 y1 y2 y3 y4 y5 y6 y7 y8 y9 y10 y11 y12))
  | 0 => ⟨fun _ _ _ _ _ _ _ r h => by simp [counterpanelaw24_ZcodeCounts.j0] at h, fun _ _ _ _ _ _ _ _ _ _ _ _ r h => by simp [counterpanelaw24_ZcodeCounts.l0] at h, fun _ _ _ _ _ _ _ _ _ _ _ _ _ r h => by simp [counterpanelaw24_ZcodeCounts.l1] at h⟩
  | k + 1 => by
    obtain ⟨ih0, ih1, ih2⟩ := counterpanelaw24_ZcodeCounts.mono_l k
    refine ⟨?_, ?_, ?_⟩
    · intro y0 y1 y2 y3 y4 y5 y6
      unfold counterpanelaw24_ZcodeCounts.j0
      repeat' first
      | (with_reducible exact ih0 _ _ _ _ _ _ _)
      | (with_reducible exact ih1 _ _ _ _ _ _ _ _ _ _ _ _)
      | (with_reducible exact ih2 _ _ _ _ _ _ _ _ _ _ _ _ _)
      | (with_reducible exact counterpanelaw24_works.mono _)
      | (with_reducible exact counterpaneref24_Code.mono _ _ _)
      | (with_reducible exact zcode_Count.mono _ _ _ _ _ _ _)
      | (with_reducible exact LeO.refl _)
      | (with_reducible exact LeO.none _)
      | (with_reducible refine LeO.ite ?_ ?_)
      | (with_reducible refine LeO.bind ?_ (fun _ => ?_))
      | exact ih0 _ _ _ _ _ _ _
      | exact ih1 _ _ _ _ _ _ _ _ _ _ _ _
      | exact ih2 _ _ _ _ _ _ _ _ _ _ _ _ _
      | exact counterpanelaw24_works.mono _
      | exact counterpaneref24_Code.mono _ _ _
      | exact zcode_Count.mono _ _ _ _ _ _ _
      | exact LeO.none _
      | refine LeO.ite ?_ ?_
      | refine LeO.bind ?_ (fun _ => ?_)
    · intro y0 y1 y2 y3 y4 y5 y6 y7 y8 y9 y10 y11
      unfold counterpanelaw24_ZcodeCounts.l0
      repeat' first
      | (with_reducible exact ih0 _ _ _ _ _ _ _)
      | (with_reducible exact ih1 _ _ _ _ _ _ _ _ _ _ _ _)
      | (with_reducible exact ih2 _ _ _ _ _ _ _ _ _ _ _ _ _)
      | (with_reducible exact counterpanelaw24_works.mono _)
      | (with_reducible exact counterpaneref24_Code.mono _ _ _)
      | (with_reducible exact zcode_Count.mono _ _ _ _ _ _ _)
      | (with_reducible exact LeO.refl _)
      | (with_reducible exact LeO.none _)
      | (with_reducible refine LeO.ite ?_ ?_)
      | (with_reducible refine LeO.bind ?_ (fun _ => ?_))
      | exact ih0 _ _ _ _ _ _ _
      | exact ih1 _ _ _ _ _ _ _ _ _ _ _ _
      | exact ih2 _ _ _ _ _ _ _ _ _ _ _ _ _
      | exact counterpanelaw24_works.mono _
      | exact counterpaneref24_Code.mono _ _ _
      | exact zcode_Count.mono _ _ _ _ _ _ _
      | exact LeO.none _
      | refine LeO.ite ?_ ?_
      | refine LeO.bind ?_ (fun _ => ?_)
    · intro y0 y1 y2 y3 y4 y5 y6 y7 y8 y9 y10 y11 y12
      unfold counterpanelaw24_ZcodeCounts.l1
      repeat' first
      | (with_reducible exact ih0 _ _ _ _ _ _ _)
      | (with_reducible exact ih1 _ _ _ _ _ _ _ _ _ _ _ _)
      | (with_reducible exact ih2 _ _ _ _ _ _ _ _ _ _ _ _ _)
      | (with_reducible exact counterpanelaw24_works.mono _)
      | (with_reducible exact counterpaneref24_Code.mono _ _ _)
      | (with_reducible exact zcode_Count.mono _ _ _ _ _ _ _)
      | (with_reducible exact LeO.refl _)
      | (with_reducible exact LeO.none _)
      | (with_reducible refine LeO.ite ?_ ?_)
      | (with_reducible refine LeO.bind ?_ (fun _ => ?_))
      | exact ih0 _ _ _ _ _ _ _
      | exact ih1 _ _ _ _ _ _ _ _ _ _ _ _
      | exact ih2 _ _ _ _ _ _ _ _ _ _ _ _ _
      | exact counterpanelaw24_works.mono _
      | exact counterpaneref24_Code.mono _ _ _
      | exact zcode_Count.mono _ _ _ _ _ _ _
      | exact LeO.none _
      | refine LeO.ite ?_ ?_
      | refine LeO.bind ?_ (fun _ => ?_)
theorem counterpanelaw24_ZcodeCounts.mono : ∀ a0 a1 a2 a3 a4 a5 k, LeO (counterpanelaw24_ZcodeCounts.f k a0 a1 a2 a3 a4 a5) (counterpanelaw24_ZcodeCounts.f (k + 1) a0 a1 a2 a3 a4 a5) := by
  intro a0 a1 a2 a3 a4 a5 k
  obtain ⟨ih0, ih1, ih2⟩ := counterpanelaw24_ZcodeCounts.mono_l k
  unfold counterpanelaw24_ZcodeCounts.f
  repeat' first
      | (with_reducible exact ih0 _ _ _ _ _ _ _)
      | (with_reducible exact ih1 _ _ _ _ _ _ _ _ _ _ _ _)
      | (with_reducible exact ih2 _ _ _ _ _ _ _ _ _ _ _ _ _)
      | (with_reducible exact counterpanelaw24_works.mono _)
      | (with_reducible exact counterpaneref24_Code.mono _ _ _)
      | (with_reducible exact zcode_Count.mono _ _ _ _ _ _ _)
      | (with_reducible exact LeO.refl _)
      | (with_reducible exact LeO.none _)
      | (with_reducible refine LeO.ite ?_ ?_)
      | (with_reducible refine LeO.bind ?_ (fun _ => ?_))
      | exact ih0 _ _ _ _ _ _ _
      | exact ih1 _ _ _ _ _ _ _ _ _ _ _ _
      | exact ih2 _ _ _ _ _ _ _ _ _ _ _ _ _
      | exact counterpanelaw24_works.mono _
      | exact counterpaneref24_Code.mono _ _ _
      | exact zcode_Count.mono _ _ _ _ _ _ _
      | exact LeO.none _
      | refine LeO.ite ?_ ?_
      | refine LeO.bind ?_ (fun _ => ?_)
set_option maxHeartbeats 8000000 in
set_option maxRecDepth 100000 in
theorem counterpanelaw24_ZcodeCounts.calls (k : Nat) (a0 : Int) (a1 : Int) (a2 : Int) (a3 : Int) (a4 : Int) (a5 : Int) (r : Bool) (w : World) (h : counterpanelaw24_ZcodeCounts.f k a0 a1 a2 a3 a4 a5 = some r) :
    Calls Try.prog 6 #[.int .u32 a0, .int .u32 a1, .int .u8 a2, .int .u8 a3, .int .u64 a4, .int .i64 a5] w fun e w' => e = .returned (.bool r) ∧ Below w.heap.size w w' := by
  have hu31 := Try.underlying31
  have HB := Aside0.mk (Below.refl w.heap.size w)
  have H : (if a0 > (4294967295 - (cvt .u32 (Int.tmod a2 8))) then (counterpanelaw24_ZcodeCounts.j0 k a0 a1 a4 a5 (cvt .u32 (Int.tmod a2 8)) (cvt .u32 (Int.tmod a3 8)) true) else (if a1 > (4294967295 - (cvt .u32 (Int.tmod a3 8))) then (counterpanelaw24_ZcodeCounts.j0 k a0 a1 a4 a5 (cvt .u32 (Int.tmod a2 8)) (cvt .u32 (Int.tmod a3 8)) true) else (counterpanelaw24_ZcodeCounts.j0 k a0 a1 a4 a5 (cvt .u32 (Int.tmod a2 8)) (cvt .u32 (Int.tmod a3 8)) (decide (a5 < 0))))) = some r := h
  clear h
  obtain ⟨ji7, hji7⟩ : ∃ j_ : Int, (cvt .u32 (Int.tmod a2 8)) = j_ := ⟨_, rfl⟩
  replace H : (if a0 > (4294967295 - (ji7)) then (counterpanelaw24_ZcodeCounts.j0 k a0 a1 a4 a5 ji7 (cvt .u32 (Int.tmod a3 8)) true) else (if a1 > (4294967295 - (cvt .u32 (Int.tmod a3 8))) then (counterpanelaw24_ZcodeCounts.j0 k a0 a1 a4 a5 ji7 (cvt .u32 (Int.tmod a3 8)) true) else (counterpanelaw24_ZcodeCounts.j0 k a0 a1 a4 a5 ji7 (cvt .u32 (Int.tmod a3 8)) (decide (a5 < 0))))) = some r := by first | (rw [hji7] at H; exact H) | (simp only [hji7] at H ⊢; exact H)
  have hji7_ : ((Int.tmod a2 8) % 4294967296) = ji7 := hji7
  obtain ⟨ji8, hji8⟩ : ∃ j_ : Int, (cvt .u32 (Int.tmod a3 8)) = j_ := ⟨_, rfl⟩
  replace H : (if a0 > (4294967295 - (ji7)) then (counterpanelaw24_ZcodeCounts.j0 k a0 a1 a4 a5 ji7 ji8 true) else (if a1 > (4294967295 - (ji8)) then (counterpanelaw24_ZcodeCounts.j0 k a0 a1 a4 a5 ji7 ji8 true) else (counterpanelaw24_ZcodeCounts.j0 k a0 a1 a4 a5 ji7 ji8 (decide (a5 < 0))))) = some r := by first | (rw [hji8] at H; exact H) | (simp only [hji8] at H ⊢; exact H)
  have hji8_ : ((Int.tmod a3 8) % 4294967296) = ji8 := hji8
  have HC9 := Aside0.mk H
  clear H
  go_enter Try.func6, Try.ntmps6
  go_upto_region 2 with (fail)
  go_cut [38] (fun v38 wc => ∃ (kq : Nat) (x38_8 : Bool), v38 = .bool x38_8 ∧ Aside0 (counterpanelaw24_ZcodeCounts.j0 kq a0 a1 a4 a5 ji7 ji8 x38_8 = some r) ∧ Aside0 (kq ≤ k) ∧ Aside0 (Below w.heap.size w wc))
  case first =>
    have H := HC9.out
    clear HC9
    by_cases c10 : a0 > (4294967295 - (ji7))
    · rw [if_pos c10] at H
      have c10b0 : decide ((4294967295 - (ji7)) < a0) = true := decide_eq_true c10
      clear c10
      (first | rw [c10b0] | (simp only [i64_w, i32_w]; rw [c10b0]) | skip)
      have H' := Aside0.mk H
      clear H
      go_wp2
      go_meet
      case rel => exact ⟨_, (true), (by first | rfl | (simp; done) | (simp [*]; done)), H', ⟨by first | omega | exact Nat.le_refl _⟩, ⟨by repeat (first | (with_reducible first | exact HB.out | apply below_alloc | apply pw_below_drewN | apply below_drew1) | exact HB.out)⟩⟩
    · rw [if_neg c10] at H
      have c10b0 : decide ((4294967295 - (ji7)) < a0) = false := decide_eq_false c10
      clear c10
      (first | rw [c10b0] | (simp only [i64_w, i32_w]; rw [c10b0]) | skip)
      by_cases c11 : a1 > (4294967295 - (ji8))
      · rw [if_pos c11] at H
        have c11b0 : decide ((4294967295 - (ji8)) < a1) = true := decide_eq_true c11
        clear c11
        have H' := Aside0.mk H
        clear H
        go_wp2
        go_meet
        case rel => exact ⟨_, (true), (by first | rfl | (simp; done) | (simp [*]; done)), H', ⟨by first | omega | exact Nat.le_refl _⟩, ⟨by repeat (first | (with_reducible first | exact HB.out | apply below_alloc | apply pw_below_drewN | apply below_drew1) | exact HB.out)⟩⟩
      · rw [if_neg c11] at H
        have c11b0 : decide ((4294967295 - (ji8)) < a1) = false := decide_eq_false c11
        clear c11
        have H' := Aside0.mk H
        clear H
        go_wp2
        go_meet
        case rel => exact ⟨_, (decide (a5 < 0)), (by first | rfl | (simp; done) | (simp [*]; done)), H', ⟨by first | omega | exact Nat.le_refl _⟩, ⟨by repeat (first | (with_reducible first | exact HB.out | apply below_alloc | apply pw_below_drewN | apply below_drew1) | exact HB.out)⟩⟩
  case rest =>
    clear HC9
    try clear c1
    try clear p2
    try clear c6
    try clear c10
    try clear c10b0
    try clear c11
    try clear c11b0
    obtain ⟨kq, x38_8, rfl, HA, HJ8, HB⟩ := hcut
    cases kq with
    | zero => exact absurd HA.out (by simp [counterpanelaw24_ZcodeCounts.j0])
    | succ kj8 =>
      have H := HA.out
      clear HA
      simp only [counterpanelaw24_ZcodeCounts.j0] at H
      by_cases c12 : x38_8 = true
      · subst c12
        have H1 : ((counterpanelaw24_works.f kj8).bind fun t165 => (some t165)) = some r := by rw [if_pos rfl] at H; exact H
        clear H
        have H := H1
        clear H1
        replace H := Option.bind_eq_some_iff.mp H
        obtain ⟨t165, A130, H⟩ := H
        replace H : (some t165) = some r := H
        have A13 := Aside0.mk A130
        clear A130
        obtain rfl := Option.some.inj H
        go_wp2_with (first | ((with_reducible refine gate_callee (f := 12) rfl ?_); refine goesL_ (some 39) rfl rfl Try.func12 (by kernel_rfl) rfl #[] rfl (by (try simp only [List.map_toArray, List.map_cons, List.map_nil]); first | done | rfl | (simp only [List.length_drop, List.length_take]; rfl) | (simp; done)) ?_; (with_reducible refine (counterpanelaw24_works.calls kj8  t165 _ A13.out).mono ?_); rintro e w14 ⟨rfl, hb⟩; refine ⟨_, rfl, ?_⟩; have n0_ := Aside0.mk (below_step (by repeat (first | (with_reducible first | exact HB.out | apply below_alloc | apply pw_below_drewN | apply below_drew1) | exact HB.out)) hb); clear HB; have HB := n0_; clear n0_; (try clear hb); (try clear hb2); (try clear hk); (try clear hi)))
        go_ret
        exact ⟨by first | rfl | (simp [errW_none, errW_some] <;> rfl) | (simp only [← hji7, ← hji8]; first | rfl | (simp [errW_none, errW_some] <;> rfl)) | (simp [*, errW_none, errW_some] <;> rfl), by repeat (first | (with_reducible first | exact HB.out | apply below_alloc | apply pw_below_drewN | apply below_drew1) | exact HB.out)⟩
      · replace c12 := Bool.eq_false_iff.mpr c12
        subst c12
        have H1 : (counterpanelaw24_ZcodeCounts.l0 kj8 a0 a1 a4 a5 ji7 ji8 0 0 a0 a1 ((a0 + ji7) % 4294967296) ((a1 + ji8) % 4294967296)) = some r := by rw [if_neg (show ¬ (false = true) by decide)] at H; exact H
        clear H
        have H := H1
        clear H1
        have H' := Aside0.mk H
        clear H
        go_wp2_with (first | ((with_reducible refine gate_dst (N := 15) rfl ?_); refine box_event ?hg (N := 15) ?hd (cs := #[.int .u32 0, .int .u32 0, .int .u32 0, .int .u32 0]) (t := 31) ?hr ?_; (case hd => rfl); (case hg => rfl); (case hr => first | (go_simp; done) | (go_simp; rfl)); intro gb166 hg w15 hbox hb; have n0_ := Aside0.mk (below_step (by repeat (first | (with_reducible first | exact HB.out | apply below_alloc | apply pw_below_drewN | apply below_drew1) | exact HB.out)) hb); have n1_ := Aside0.mk (hbox); have n2_ := Aside0.mk ((by rw [hg]; exact (below_size (by repeat (first | (with_reducible first | exact HB.out | apply below_alloc | apply pw_below_drewN | apply below_drew1) | exact HB.out))) : w.heap.size ≤ gb166)); have n3_ := Aside0.mk ((by rw [hg]; exact (below_size (by repeat (first | (with_reducible first | exact HB.out | apply below_alloc | apply pw_below_drewN | apply below_drew1) | exact HB.out))) : w.heap.size ≤ gb166)); clear HB; have HB := n0_; have BK166 := n1_; have GW166 := n2_; have GE166 := n3_; clear n0_ n1_ n2_ n3_; clear hb hbox hg; have hcz16_0 : w15.cell? ⟨gb166, 0, none⟩ = some (.int .u32 0) := (blk_cell BK166.out 0).trans rfl; have hcz16_1 : w15.cell? ⟨gb166, 1, none⟩ = some (.int .u32 0) := (blk_cell BK166.out 1).trans rfl; have hcz16_2 : w15.cell? ⟨gb166, 2, none⟩ = some (.int .u32 0) := (blk_cell BK166.out 2).trans rfl; have hcz16_3 : w15.cell? ⟨gb166, 3, none⟩ = some (.int .u32 0) := (blk_cell BK166.out 3).trans rfl; have hfz16_0 := blk_frozen BK166.out 0; have hfz16_1 := blk_frozen BK166.out 1; have hfz16_2 := blk_frozen BK166.out 2; have hfz16_3 := blk_frozen BK166.out 3))
        go_loopg [16, 17] kj8 (fun kq v16 v17 w' => ∃ (x16_2 : Int) (x17_2 : Int), v16 = .int .i64 x16_2 ∧ v17 = .int .u32 x17_2 ∧ Aside0 (counterpanelaw24_ZcodeCounts.l0 kq a0 a1 a4 a5 ji7 ji8 x16_2 x17_2 a0 a1 ((a0 + ji7) % 4294967296) ((a1 + ji8) % 4294967296) = some r) ∧ Aside0 (kq ≤ kj8) ∧ Aside0 (w'.heap[gb166]? = some (.cells #[.int .u32 a0, .int .u32 a1, .int .u32 ((a0 + ji7) % 4294967296), .int .u32 ((a1 + ji8) % 4294967296)] 31 (0, 0))) ∧ Aside0 (Below w.heap.size w w'))
        case atStart => exact ⟨(0), (0), (by first | rfl | (simp; done) | (simp [*]; done)), (by first | rfl | (simp; done) | (simp [*]; done)), H', ⟨Nat.le_refl _⟩, ⟨by (with_reducible repeat (first | refine blk_drewN ?_ _ | refine blk_drew ?_ | refine blk_alloc ?_ _)); refine blk_put (cs := #[.int .u32 a0, .int .u32 a1, .int .u32 ((a0 + ji7) % 4294967296), .int .u32 0]) ?_ 3 _ (by first | rfl | simp); (with_reducible repeat (first | refine blk_drewN ?_ _ | refine blk_drew ?_ | refine blk_alloc ?_ _)); refine blk_put (cs := #[.int .u32 a0, .int .u32 a1, .int .u32 0, .int .u32 0]) ?_ 2 _ (by first | rfl | simp); (with_reducible repeat (first | refine blk_drewN ?_ _ | refine blk_drew ?_ | refine blk_alloc ?_ _)); refine blk_put (cs := #[.int .u32 a0, .int .u32 0, .int .u32 0, .int .u32 0]) ?_ 1 _ (by first | rfl | simp); (with_reducible repeat (first | refine blk_drewN ?_ _ | refine blk_drew ?_ | refine blk_alloc ?_ _)); refine blk_put (cs := #[.int .u32 0, .int .u32 0, .int .u32 0, .int .u32 0]) ?_ 0 _ (by first | rfl | simp); (with_reducible repeat (first | refine blk_drewN ?_ _ | refine blk_drew ?_ | refine blk_alloc ?_ _)); exact BK166.out⟩, ⟨by repeat (first | (with_reducible first | exact HB.out | apply below_alloc | apply pw_below_drewN | apply below_drew1 | refine below_set ?_ GE166.out) | exact HB.out)⟩⟩
        case round =>
          clear H'
          try clear c1
          try clear p2
          try clear c6
          try clear c10
          try clear c10b0
          try clear c11
          try clear c11b0
          try clear c12
          try clear hcz16_0
          try clear hcz16_1
          try clear hcz16_2
          try clear hcz16_3
          try clear hfz16_0
          try clear hfz16_1
          try clear hfz16_2
          try clear hfz16_3
          try clear p2
          obtain ⟨x16_2, x17_2, rfl, rfl, HA, HK2, BK166, HB⟩ := hrel
          cases gk with
          | zero => exact absurd HA.out (by simp [counterpanelaw24_ZcodeCounts.l0])
          | succ k2 =>
            have H := HA.out
            clear HA
            simp only [counterpanelaw24_ZcodeCounts.l0] at H
            by_cases c17 : x17_2 ≤ ji7
            · rw [if_pos c17] at H
              have c17b0 : decide (x17_2 ≤ ji7) = true := decide_eq_true c17
              clear c17
              have H' := Aside0.mk H
              clear H
              go_wp2
              go_loopg [16, 18] k2 (fun kq v16 v18 w' => ∃ (x16_3 : Int) (x18_3 : Int), v16 = .int .i64 x16_3 ∧ v18 = .int .u32 x18_3 ∧ Aside0 (counterpanelaw24_ZcodeCounts.l1 kq a0 a1 a4 a5 ji7 ji8 x16_3 x17_2 x18_3 a0 a1 ((a0 + ji7) % 4294967296) ((a1 + ji8) % 4294967296) = some r) ∧ Aside0 (kq ≤ k2) ∧ Aside0 (w'.heap[gb166]? = some (.cells #[.int .u32 a0, .int .u32 a1, .int .u32 ((a0 + ji7) % 4294967296), .int .u32 ((a1 + ji8) % 4294967296)] 31 (0, 0))) ∧ Aside0 (Below w.heap.size w w'))
              case atStart => exact ⟨(x16_2), (0), (by first | rfl | (simp; done) | (simp [*]; done)), (by first | rfl | (simp; done) | (simp [*]; done)), H', ⟨Nat.le_refl _⟩, ⟨by (with_reducible repeat (first | refine blk_drewN ?_ _ | refine blk_drew ?_ | refine blk_alloc ?_ _)); exact BK166.out⟩, ⟨by repeat (first | (with_reducible first | exact HB.out | apply below_alloc | apply pw_below_drewN | apply below_drew1 | refine below_set ?_ GE166.out) | exact HB.out)⟩⟩
              case round =>
                clear H'
                try clear c1
                try clear p2
                try clear c6
                try clear c10
                try clear c10b0
                try clear c11
                try clear c11b0
                try clear c12
                try clear c17
                try clear c17b0
                try clear hcz16_0
                try clear hcz16_1
                try clear hcz16_2
                try clear hcz16_3
                try clear hfz16_0
                try clear hfz16_1
                try clear hfz16_2
                try clear hfz16_3
                try clear p2
                obtain ⟨x16_3, x18_3, rfl, rfl, HA, HK3, BK166, HB⟩ := hrel
                cases gk with
                | zero => exact absurd HA.out (by simp [counterpanelaw24_ZcodeCounts.l1])
                | succ k3 =>
                  have H := HA.out
                  clear HA
                  simp only [counterpanelaw24_ZcodeCounts.l1] at H
                  by_cases c18 : x18_3 ≤ ji8
                  · rw [if_pos c18] at H
                    have c18b0 : decide (x18_3 ≤ ji8) = true := decide_eq_true c18
                    clear c18
                    replace H := Option.bind_eq_some_iff.mp H
                    obtain ⟨t167, A190, H⟩ := H
                    replace H : (if t167 < a4 then (counterpanelaw24_ZcodeCounts.l1 k3 a0 a1 a4 a5 ji7 ji8 (wrap64 (x16_3 + 1)) x17_2 ((x18_3 + 1) % 4294967296) a0 a1 ((a0 + ji7) % 4294967296) ((a1 + ji8) % 4294967296)) else (counterpanelaw24_ZcodeCounts.l1 k3 a0 a1 a4 a5 ji7 ji8 x16_3 x17_2 ((x18_3 + 1) % 4294967296) a0 a1 ((a0 + ji7) % 4294967296) ((a1 + ji8) % 4294967296))) = some r := H
                    have A19 := Aside0.mk A190
                    clear A190
                    by_cases c20 : t167 < a4
                    · rw [if_pos c20] at H
                      have c20b0 : decide (t167 < a4) = true := decide_eq_true c20
                      clear c20
                      have H' := Aside0.mk H
                      clear H
                      go_wp2_with (first | ((with_reducible refine gate_callee (f := 11) rfl ?_); refine goesL_ (some 65) rfl rfl Try.func11 (by kernel_rfl) rfl #[.int .u32 ((a0 + x17_2) % 4294967296), .int .u32 ((a1 + x18_3) % 4294967296)] rfl (by (try simp only [List.map_toArray, List.map_cons, List.map_nil]); first | done | rfl | (simp only [List.length_drop, List.length_take]; rfl) | (simp; done)) ?_; (with_reducible refine (counterpaneref24_Code.calls k3 ((a0 + x17_2) % 4294967296) ((a1 + x18_3) % 4294967296) t167 _ A19.out).mono ?_); rintro e w' ⟨rfl, ⟨nd, rfl⟩⟩; refine ⟨_, rfl, ?_⟩))
                      go_roundg k3
                      case measure => have := HJ8.out; have := HK2.out; have := HK3.out; omega
                      case rel => exact ⟨(wrap64 (x16_3 + 1)), ((x18_3 + 1) % 4294967296), (by first | rfl | (simp; done) | (simp [*]; done)), (by first | rfl | (simp; done) | (simp [*]; done)), H', ⟨by have := HJ8.out; have := HK2.out; have := HK3.out; omega⟩, ⟨by (with_reducible repeat (first | refine blk_drewN ?_ _ | refine blk_drew ?_ | refine blk_alloc ?_ _)); exact BK166.out⟩, ⟨by repeat (first | (with_reducible first | exact HB.out | apply below_alloc | apply pw_below_drewN | apply below_drew1 | refine below_set ?_ GE166.out) | exact HB.out)⟩⟩
                    · rw [if_neg c20] at H
                      have c20b0 : decide (t167 < a4) = false := decide_eq_false c20
                      clear c20
                      have H' := Aside0.mk H
                      clear H
                      go_wp2_with (first | ((with_reducible refine gate_callee (f := 11) rfl ?_); refine goesL_ (some 65) rfl rfl Try.func11 (by kernel_rfl) rfl #[.int .u32 ((a0 + x17_2) % 4294967296), .int .u32 ((a1 + x18_3) % 4294967296)] rfl (by (try simp only [List.map_toArray, List.map_cons, List.map_nil]); first | done | rfl | (simp only [List.length_drop, List.length_take]; rfl) | (simp; done)) ?_; (with_reducible refine (counterpaneref24_Code.calls k3 ((a0 + x17_2) % 4294967296) ((a1 + x18_3) % 4294967296) t167 _ A19.out).mono ?_); rintro e w' ⟨rfl, ⟨nd, rfl⟩⟩; refine ⟨_, rfl, ?_⟩))
                      go_roundg k3
                      case measure => have := HJ8.out; have := HK2.out; have := HK3.out; omega
                      case rel => exact ⟨(x16_3), ((x18_3 + 1) % 4294967296), (by first | rfl | (simp; done) | (simp [*]; done)), (by first | rfl | (simp; done) | (simp [*]; done)), H', ⟨by have := HJ8.out; have := HK2.out; have := HK3.out; omega⟩, ⟨by (with_reducible repeat (first | refine blk_drewN ?_ _ | refine blk_drew ?_ | refine blk_alloc ?_ _)); exact BK166.out⟩, ⟨by repeat (first | (with_reducible first | exact HB.out | apply below_alloc | apply pw_below_drewN | apply below_drew1 | refine below_set ?_ GE166.out) | exact HB.out)⟩⟩
                  · rw [if_neg c18] at H
                    have c18b0 : decide (x18_3 ≤ ji8) = false := decide_eq_false c18
                    clear c18
                    have H' := Aside0.mk H
                    clear H
                    go_wp2
                    go_roundg k3
                    case measure => have := HJ8.out; have := HK2.out; have := HK3.out; omega
                    case rel => exact ⟨(x16_3), ((x17_2 + 1) % 4294967296), (by first | rfl | (simp; done) | (simp [*]; done)), (by first | rfl | (simp; done) | (simp [*]; done)), H', ⟨by have := HJ8.out; have := HK2.out; have := HK3.out; omega⟩, ⟨by (with_reducible repeat (first | refine blk_drewN ?_ _ | refine blk_drew ?_ | refine blk_alloc ?_ _)); exact BK166.out⟩, ⟨by repeat (first | (with_reducible first | exact HB.out | apply below_alloc | apply pw_below_drewN | apply below_drew1 | refine below_set ?_ GE166.out) | exact HB.out)⟩⟩
            · rw [if_neg c17] at H
              have c17b0 : decide (x17_2 ≤ ji7) = false := decide_eq_false c17
              clear c17
              by_cases c21 : x16_2 > a5
              · rw [if_pos c21] at H
                have c21b0 : decide (a5 < x16_2) = true := decide_eq_true c21
                clear c21
                replace H := Option.bind_eq_some_iff.mp H
                obtain ⟨t168, A220, H⟩ := H
                replace H : (if t168 = a5 then ((counterpanelaw24_works.f k2).bind fun t169 => (some t169)) else (none)) = some r := H
                have A22 := Aside0.mk A220
                clear A220
                by_cases c23 : t168 = a5
                · rw [if_pos c23] at H
                  have c23b0 : (t168 == a5) = true := beq_iff_eq.mpr c23
                  have c23b1 : (t168 != a5) = false := bne_eq_false_iff_eq.mpr c23
                  clear c23
                  replace H := Option.bind_eq_some_iff.mp H
                  obtain ⟨t169, A240, H⟩ := H
                  replace H : (some t169) = some r := H
                  have A24 := Aside0.mk A240
                  clear A240
                  obtain rfl := Option.some.inj H
                  have hcz25_0 : wr.cell? ⟨gb166, 0, none⟩ = some (.int .u32 a0) := (blk_cell BK166.out 0).trans rfl
                  have hcz25_1 : wr.cell? ⟨gb166, 1, none⟩ = some (.int .u32 a1) := (blk_cell BK166.out 1).trans rfl
                  have hcz25_2 : wr.cell? ⟨gb166, 2, none⟩ = some (.int .u32 ((a0 + ji7) % 4294967296)) := (blk_cell BK166.out 2).trans rfl
                  have hcz25_3 : wr.cell? ⟨gb166, 3, none⟩ = some (.int .u32 ((a1 + ji8) % 4294967296)) := (blk_cell BK166.out 3).trans rfl
                  have hfz25_0 := blk_frozen BK166.out 0
                  have hfz25_1 := blk_frozen BK166.out 1
                  have hfz25_2 := blk_frozen BK166.out 2
                  have hfz25_3 := blk_frozen BK166.out 3
                  go_wp2_with (first | ((with_reducible refine gate_callee (f := 15) rfl ?_); refine goesL_ (some 77) rfl rfl Try.func15 (by kernel_rfl) rfl #[.agg #[.int .u32 a0, .int .u32 a1, .int .u32 ((a0 + ji7) % 4294967296), .int .u32 ((a1 + ji8) % 4294967296)], .int .u64 a4, .int .i64 a5] rfl (by (try simp only [List.map_toArray, List.map_cons, List.map_nil]); first | done | (simp only [hji7, hji8]; rfl) | rfl | (simp only [List.length_drop, List.length_take]; rfl) | (simp; done)) ?_; (with_reducible refine (zcode_Count.calls k2 a0 a1 ((a0 + ji7) % 4294967296) ((a1 + ji8) % 4294967296) a4 a5 t168 _ A22.out).mono ?_); rintro e w26 ⟨rfl, hb⟩; refine ⟨_, rfl, ?_⟩; have n0_ := Aside0.mk (blk_below (g := gb166) (o := .cells #[.int .u32 a0, .int .u32 a1, .int .u32 ((a0 + ji7) % 4294967296), .int .u32 ((a1 + ji8) % 4294967296)] 31 (0, 0)) (by (with_reducible repeat (first | refine blk_drewN ?_ _ | refine blk_drew ?_ | refine blk_alloc ?_ _)); exact BK166.out) hb); have n1_ := Aside0.mk (below_step (by repeat (first | (with_reducible first | exact HB.out | apply below_alloc | apply pw_below_drewN | apply below_drew1 | refine below_set ?_ GE166.out) | exact HB.out)) hb); clear BK166; clear HB; have BK166 := n0_; have HB := n1_; clear n0_ n1_; (try clear hb); (try clear hb2); (try clear hk); (try clear hi)) | (go_at_call 12; (with_reducible refine (counterpanelaw24_works.calls k2  t169 _ A24.out).mono ?_); rintro e w27 ⟨rfl, hb⟩; have n0_ := Aside0.mk (blk_below (g := gb166) (o := .cells #[.int .u32 a0, .int .u32 a1, .int .u32 ((a0 + ji7) % 4294967296), .int .u32 ((a1 + ji8) % 4294967296)] 31 (0, 0)) (by (with_reducible repeat (first | refine blk_drewN ?_ _ | refine blk_drew ?_ | refine blk_alloc ?_ _)); exact BK166.out) hb); have n1_ := Aside0.mk (below_step (by repeat (first | (with_reducible first | exact HB.out | apply below_alloc | apply pw_below_drewN | apply below_drew1 | refine below_set ?_ GE166.out) | exact HB.out)) hb); clear BK166; clear HB; have BK166 := n0_; have HB := n1_; clear n0_ n1_; (try clear hb); (try clear hb2); (try clear hk); (try clear hi)))
                  go_ret
                  exact ⟨by first | rfl | (simp [errW_none, errW_some] <;> rfl) | (simp only [← hji7, ← hji8]; first | rfl | (simp [errW_none, errW_some] <;> rfl)) | (simp [*, errW_none, errW_some] <;> rfl), by repeat (first | (with_reducible first | exact HB.out | apply below_alloc | apply pw_below_drewN | apply below_drew1 | refine below_set ?_ GE166.out) | exact HB.out)⟩
                · rw [if_neg c23] at H
                  exact absurd H (by simp)
              · rw [if_neg c21] at H
                have c21b0 : decide (a5 < x16_2) = false := decide_eq_false c21
                clear c21
                replace H := Option.bind_eq_some_iff.mp H
                obtain ⟨t170, A280, H⟩ := H
                replace H : (if t170 = x16_2 then ((counterpanelaw24_works.f k2).bind fun t171 => (some t171)) else (none)) = some r := H
                have A28 := Aside0.mk A280
                clear A280
                by_cases c29 : t170 = x16_2
                · rw [if_pos c29] at H
                  have c29b0 : (t170 == x16_2) = true := beq_iff_eq.mpr c29
                  have c29b1 : (t170 != x16_2) = false := bne_eq_false_iff_eq.mpr c29
                  clear c29
                  replace H := Option.bind_eq_some_iff.mp H
                  obtain ⟨t171, A300, H⟩ := H
                  replace H : (some t171) = some r := H
                  have A30 := Aside0.mk A300
                  clear A300
                  obtain rfl := Option.some.inj H
                  have hcz31_0 : wr.cell? ⟨gb166, 0, none⟩ = some (.int .u32 a0) := (blk_cell BK166.out 0).trans rfl
                  have hcz31_1 : wr.cell? ⟨gb166, 1, none⟩ = some (.int .u32 a1) := (blk_cell BK166.out 1).trans rfl
                  have hcz31_2 : wr.cell? ⟨gb166, 2, none⟩ = some (.int .u32 ((a0 + ji7) % 4294967296)) := (blk_cell BK166.out 2).trans rfl
                  have hcz31_3 : wr.cell? ⟨gb166, 3, none⟩ = some (.int .u32 ((a1 + ji8) % 4294967296)) := (blk_cell BK166.out 3).trans rfl
                  have hfz31_0 := blk_frozen BK166.out 0
                  have hfz31_1 := blk_frozen BK166.out 1
                  have hfz31_2 := blk_frozen BK166.out 2
                  have hfz31_3 := blk_frozen BK166.out 3
                  go_wp2_with (first | ((with_reducible refine gate_callee (f := 15) rfl ?_); refine goesL_ (some 77) rfl rfl Try.func15 (by kernel_rfl) rfl #[.agg #[.int .u32 a0, .int .u32 a1, .int .u32 ((a0 + ji7) % 4294967296), .int .u32 ((a1 + ji8) % 4294967296)], .int .u64 a4, .int .i64 a5] rfl (by (try simp only [List.map_toArray, List.map_cons, List.map_nil]); first | done | (simp only [hji7, hji8]; rfl) | rfl | (simp only [List.length_drop, List.length_take]; rfl) | (simp; done)) ?_; (with_reducible refine (zcode_Count.calls k2 a0 a1 ((a0 + ji7) % 4294967296) ((a1 + ji8) % 4294967296) a4 a5 t170 _ A28.out).mono ?_); rintro e w32 ⟨rfl, hb⟩; refine ⟨_, rfl, ?_⟩; have n0_ := Aside0.mk (blk_below (g := gb166) (o := .cells #[.int .u32 a0, .int .u32 a1, .int .u32 ((a0 + ji7) % 4294967296), .int .u32 ((a1 + ji8) % 4294967296)] 31 (0, 0)) (by (with_reducible repeat (first | refine blk_drewN ?_ _ | refine blk_drew ?_ | refine blk_alloc ?_ _)); exact BK166.out) hb); have n1_ := Aside0.mk (below_step (by repeat (first | (with_reducible first | exact HB.out | apply below_alloc | apply pw_below_drewN | apply below_drew1 | refine below_set ?_ GE166.out) | exact HB.out)) hb); clear BK166; clear HB; have BK166 := n0_; have HB := n1_; clear n0_ n1_; (try clear hb); (try clear hb2); (try clear hk); (try clear hi)) | (go_at_call 12; (with_reducible refine (counterpanelaw24_works.calls k2  t171 _ A30.out).mono ?_); rintro e w33 ⟨rfl, hb⟩; have n0_ := Aside0.mk (blk_below (g := gb166) (o := .cells #[.int .u32 a0, .int .u32 a1, .int .u32 ((a0 + ji7) % 4294967296), .int .u32 ((a1 + ji8) % 4294967296)] 31 (0, 0)) (by (with_reducible repeat (first | refine blk_drewN ?_ _ | refine blk_drew ?_ | refine blk_alloc ?_ _)); exact BK166.out) hb); have n1_ := Aside0.mk (below_step (by repeat (first | (with_reducible first | exact HB.out | apply below_alloc | apply pw_below_drewN | apply below_drew1 | refine below_set ?_ GE166.out) | exact HB.out)) hb); clear BK166; clear HB; have BK166 := n0_; have HB := n1_; clear n0_ n1_; (try clear hb); (try clear hb2); (try clear hk); (try clear hi)))
                  go_ret
                  exact ⟨by first | rfl | (simp [errW_none, errW_some] <;> rfl) | (simp only [← hji7, ← hji8]; first | rfl | (simp [errW_none, errW_some] <;> rfl)) | (simp [*, errW_none, errW_some] <;> rfl), by repeat (first | (with_reducible first | exact HB.out | apply below_alloc | apply pw_below_drewN | apply below_drew1 | refine below_set ?_ GE166.out) | exact HB.out)⟩
                · rw [if_neg c29] at H
                  exact absurd H (by simp)

/-- THE ONE PURE STATEMENT of counterpanelaw24_ZcodeCounts: yours. -/
def counterpanelaw24_ZcodeCounts.Pure : Prop := ∀ (a0 : Int) (a1 : Int) (a2 : Int) (a3 : Int) (a4 : Int) (a5 : Int), (Lit.int .u32 a0).wf = true → (Lit.int .u32 a1).wf = true → (Lit.int .u8 a2).wf = true → (Lit.int .u8 a3).wf = true → (Lit.int .u64 a4).wf = true → (Lit.int .i64 a5).wf = true → ∃ k, counterpanelaw24_ZcodeCounts.f k a0 a1 a2 a3 a4 a5 = some true
theorem counterpanelaw24_ZcodeCounts.walk (P : counterpanelaw24_ZcodeCounts.Pure) (a0 : Int) (a1 : Int) (a2 : Int) (a3 : Int) (a4 : Int) (a5 : Int) (w : World) (w0 : (Lit.int .u32 a0).wf = true) (w1 : (Lit.int .u32 a1).wf = true) (w2 : (Lit.int .u8 a2).wf = true) (w3 : (Lit.int .u8 a3).wf = true) (w4 : (Lit.int .u64 a4).wf = true) (w5 : (Lit.int .i64 a5).wf = true) :
    Calls Try.prog 6 #[.int .u32 a0, .int .u32 a1, .int .u8 a2, .int .u8 a3, .int .u64 a4, .int .i64 a5] w fun e w' => e = .returned (.bool true) ∧ Below w.heap.size w w' := by
  obtain ⟨k, h⟩ := P a0 a1 a2 a3 a4 a5 w0 w1 w2 w3 w4 w5
  refine (counterpanelaw24_ZcodeCounts.calls k a0 a1 a2 a3 a4 a5 true w h).mono ?_
  rintro e w' ⟨rfl, hd⟩
  exact ⟨rfl, hd⟩

end Go.Proofs.Ytabkoclmhdnjfaa.PAll
