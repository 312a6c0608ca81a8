/- The functions that the laws of this seat reach, as plain functions with proofs that the calls answer just so (written by a program of this session on the kit's print). -/
import Derived.Test.YtabkoclmhdnjfaaPAllx0
import Derived.Test.YtabkoclmhdnjfaaPAllx5
import Derived.Test.YtabkoclmhdnjfaaPAllx15
import Derived.Test.YtabkoclmhdnjfaaPAllx17
namespace Go.Proofs.Ytabkoclmhdnjfaa.PAll
open Go.RowKit Go.Proofs.YtabkoclmhdnjfaaW.PrintWords Go.Proofs.YtabkoclmhdnjfaaW.PrintLast Go.Proofs.YtabkoclmhdnjfaaW.PrintMore
attribute [local go_sem] max2_int min2_int max_two min_two max_three min_three max_four min_four   -- for this text's walks alone
set_option linter.unusedVariables false
set_option linter.unusedSimpArgs false

/-! ### counterpanelaw24_ZcodeWalks: function 7 -/
mutual
def counterpanelaw24_ZcodeWalks.j0 : Nat → Int → Int → Int → Int → Bool → Option (Bool)
  | 0, _, _, _, _, _ => none
  | k + 1, x0, x1, x9, x10, x33 => if x33 = true then ((counterpanelaw24_works.f k).bind fun t172 => (some t172)) else (counterpanelaw24_ZcodeWalks.l0 k x0 x1 x9 x10 0 0 x0 x1 ((x0 + x9) % 4294967296) ((x1 + x10) % 4294967296))
def counterpanelaw24_ZcodeWalks.l0 : Nat → Int → Int → Int → Int → Int → Int → Int → Int → Int → Int → Option (Bool)
  | 0, _, _, _, _, _, _, _, _, _, _ => none
  | k + 1, x0, x1, x9, x10, x12, x13, x174000, x174001, x174002, x174003 => if x12 ≤ 36 then ((zcode_Next.f k x174000 x174001 x174002 x174003 x13).bind fun bt175 => (if bt175.2 = true then ((counterpaneref24_Point.f k bt175.1).bind fun bt178 => (if bt175.1 < x13 then (counterpanelaw24_ZcodeWalks.j2 k x0 x1 x9 x10 x12 bt175.1 true x174000 x174001 x174002 x174003) else (if bt178.1 < x0 then (counterpanelaw24_ZcodeWalks.j2 k x0 x1 x9 x10 x12 bt175.1 true x174000 x174001 x174002 x174003) else (if bt178.1 > ((x0 + x9) % 4294967296) then (counterpanelaw24_ZcodeWalks.j2 k x0 x1 x9 x10 x12 bt175.1 true x174000 x174001 x174002 x174003) else (if bt178.2 < x1 then (counterpanelaw24_ZcodeWalks.j2 k x0 x1 x9 x10 x12 bt175.1 true x174000 x174001 x174002 x174003) else (counterpanelaw24_ZcodeWalks.j2 k x0 x1 x9 x10 x12 bt175.1 (decide (bt178.2 > ((x1 + x10) % 4294967296))) x174000 x174001 x174002 x174003)))))) else (if x12 = ((((x9 + 1) % 4294967296) * ((x10 + 1) % 4294967296)) % 4294967296) then ((counterpanelaw24_works.f k).bind fun t177 => (some t177)) else (none)))) else (if x12 = ((((x9 + 1) % 4294967296) * ((x10 + 1) % 4294967296)) % 4294967296) then ((counterpanelaw24_works.f k).bind fun t174 => (some t174)) else (none))
def counterpanelaw24_ZcodeWalks.j2 : Nat → Int → Int → Int → Int → Int → Int → Bool → Int → Int → Int → Int → Option (Bool)
  | 0, _, _, _, _, _, _, _, _, _, _, _ => none
  | k + 1, x0, x1, x9, x10, x12, x14, x85, x174000, x174001, x174002, x174003 => if x85 = true then (none) else (if x14 = 18446744073709551615 then (if (wrap64 (x12 + 1)) = ((((x9 + 1) % 4294967296) * ((x10 + 1) % 4294967296)) % 4294967296) then ((counterpanelaw24_works.f k).bind fun t180 => (some t180)) else (none)) else (counterpanelaw24_ZcodeWalks.l0 k x0 x1 x9 x10 (wrap64 (x12 + 1)) (IntKind.u64.wrap (x14 + 1)) x174000 x174001 x174002 x174003))
end
def counterpanelaw24_ZcodeWalks.f (k : Nat) (a0 : Int) (a1 : Int) (a2 : Int) (a3 : Int) : Option (Bool) := if a0 > (4294967295 - (cvt .u32 (Int.tmod a2 6))) then (counterpanelaw24_ZcodeWalks.j0 k a0 a1 (cvt .u32 (Int.tmod a2 6)) (cvt .u32 (Int.tmod a3 6)) true) else (counterpanelaw24_ZcodeWalks.j0 k a0 a1 (cvt .u32 (Int.tmod a2 6)) (cvt .u32 (Int.tmod a3 6)) (decide (a1 > (4294967295 - (cvt .u32 (Int.tmod a3 6))))))
theorem counterpanelaw24_ZcodeWalks.mono_l : ∀ k, (∀ y0 y1 y2 y3 y4, LeO (counterpanelaw24_ZcodeWalks.j0 k y0 y1 y2 y3 y4) (counterpanelaw24_ZcodeWalks.j0 (k + 1) y0 y1 y2 y3 y4)) ∧ (∀ y0 y1 y2 y3 y4 y5 y6 y7 y8 y9, LeO (counterpanelaw24_ZcodeWalks.l0 k y0 y1 y2 y3 y4 y5 y6 y7 y8 y9) (counterpanelaw24_ZcodeWalks.l0 (k + 1) y0 y1 y2 y3 y4 y5 y6 y7 y8 y9)) ∧ (∀ y0 y1 y2 y3 y4 y5 y6 y7 y8 y9 y10, LeO (counterpanelaw24_ZcodeWalks.j2 k y0 y1 y2 y3 y4 y5 y6 y7 y8 y9 y10) (counterpanelaw24_ZcodeWalks.j2 (k + 1) y0 y1 y2 y3 y4 y5 y6 y7 y8 y9 y10))
  | 0 => ⟨fun _ _ _ _ _ r h => by simp [counterpanelaw24_ZcodeWalks.j0] at h, fun _ _ _ _ _ _ _ _ _ _ r h => by simp [counterpanelaw24_ZcodeWalks.l0] at h, fun _ _ _ _ _ _ _ _ _ _ _ r h => by simp [counterpanelaw24_ZcodeWalks.j2] at h⟩
  | k + 1 => by
    obtain ⟨ih0, ih1, ih2⟩ := counterpanelaw24_ZcodeWalks.mono_l k
    refine ⟨?_, ?_, ?_⟩
    · intro y0 y1 y2 y3 y4
      unfold counterpanelaw24_ZcodeWalks.j0
      repeat' first
      | (with_reducible exact ih0 _ _ _ _ _)
      | (with_reducible exact ih1 _ _ _ _ _ _ _ _ _ _)
      | (with_reducible exact ih2 _ _ _ _ _ _ _ _ _ _ _)
      | (with_reducible exact counterpanelaw24_works.mono _)
      | (with_reducible exact counterpaneref24_Point.mono _ _)
      | (with_reducible exact zcode_Next.mono _ _ _ _ _ _)
      | (with_reducible exact LeO.refl _)
      | (with_reducible exact LeO.none _)
      | (with_reducible refine LeO.ite ?_ ?_)
      | (with_reducible refine LeO.bind ?_ (fun _ => ?_))
      | exact ih0 _ _ _ _ _
      | exact ih1 _ _ _ _ _ _ _ _ _ _
      | exact ih2 _ _ _ _ _ _ _ _ _ _ _
      | exact counterpanelaw24_works.mono _
      | exact counterpaneref24_Point.mono _ _
      | exact zcode_Next.mono _ _ _ _ _ _
      | exact LeO.none _
      | refine LeO.ite ?_ ?_
      | refine LeO.bind ?_ (fun _ => ?_)
    · intro y0 y1 y2 y3 y4 y5 y6 y7 y8 y9
      unfold counterpanelaw24_ZcodeWalks.l0
      repeat' first
      | (with_reducible exact ih0 _ _ _ _ _)
      | (with_reducible exact ih1 _ _ _ _ _ _ _ _ _ _)
      | (with_reducible exact ih2 _ _ _ _ _ _ _ _ _ _ _)
      | (with_reducible exact counterpanelaw24_works.mono _)
      | (with_reducible exact counterpaneref24_Point.mono _ _)
      | (with_reducible exact zcode_Next.mono _ _ _ _ _ _)
      | (with_reducible exact LeO.refl _)
      | (with_reducible exact LeO.none _)
      | (with_reducible refine LeO.ite ?_ ?_)
      | (with_reducible refine LeO.bind ?_ (fun _ => ?_))
      | exact ih0 _ _ _ _ _
      | exact ih1 _ _ _ _ _ _ _ _ _ _
      | exact ih2 _ _ _ _ _ _ _ _ _ _ _
      | exact counterpanelaw24_works.mono _
      | exact counterpaneref24_Point.mono _ _
      | exact zcode_Next.mono _ _ _ _ _ _
      | exact LeO.none _
      | refine LeO.ite ?_ ?_
      | refine LeO.bind ?_ (fun _ => ?_)
    · intro y0 y1 y2 y3 y4 y5 y6 y7 y8 y9 y10
      unfold counterpanelaw24_ZcodeWalks.j2
      repeat' first
      | (with_reducible exact ih0 _ _ _ _ _)
      | (with_reducible exact ih1 _ _ _ _ _ _ _ _ _ _)
      | (with_reducible exact ih2 _ _ _ _ _ _ _ _ _ _ _)
      | (with_reducible exact counterpanelaw24_works.mono _)
      | (with_reducible exact counterpaneref24_Point.mono _ _)
      | (with_reducible exact zcode_Next.mono _ _ _ _ _ _)
      | (with_reducible exact LeO.refl _)
      | (with_reducible exact LeO.none _)
      | (with_reducible refine LeO.ite ?_ ?_)
      | (with_reducible refine LeO.bind ?_ (fun _ => ?_))
      | exact ih0 _ _ _ _ _
      | exact ih1 _ _ _ _ _ _ _ _ _ _
      | exact ih2 _ _ _ _ _ _ _ _ _ _ _
      | exact counterpanelaw24_works.mono _
      | exact counterpaneref24_Point.mono _ _
      | exact zcode_Next.mono _ _ _ _ _ _
      | exact LeO.none _
      | refine LeO.ite ?_ ?_
      | refine LeO.bind ?_ (fun _ => ?_)
theorem counterpanelaw24_ZcodeWalks.mono : ∀ a0 a1 a2 a3 k, LeO (counterpanelaw24_ZcodeWalks.f k a0 a1 a2 a3) (counterpanelaw24_ZcodeWalks.f (k + 1) a0 a1 a2 a3) := by
  intro a0 a1 a2 a3 k
  obtain ⟨ih0, ih1, ih2⟩ := counterpanelaw24_ZcodeWalks.mono_l k
  unfold counterpanelaw24_ZcodeWalks.f
  repeat' first
      | (with_reducible exact ih0 _ _ _ _ _)
      | (with_reducible exact ih1 _ _ _ _ _ _ _ _ _ _)
      | (with_reducible exact ih2 _ _ _ _ _ _ _ _ _ _ _)
      | (with_reducible exact counterpanelaw24_works.mono _)
      | (with_reducible exact counterpaneref24_Point.mono _ _)
      | (with_reducible exact zcode_Next.mono _ _ _ _ _ _)
      | (with_reducible exact LeO.refl _)
      | (with_reducible exact LeO.none _)
      | (with_reducible refine LeO.ite ?_ ?_)
      | (with_reducible refine LeO.bind ?_ (fun _ => ?_))
      | exact ih0 _ _ _ _ _
      | exact ih1 _ _ _ _ _ _ _ _ _ _
      | exact ih2 _ _ _ _ _ _ _ _ _ _ _
      | exact counterpanelaw24_works.mono _
      | exact counterpaneref24_Point.mono _ _
      | exact zcode_Next.mono _ _ _ _ _ _
      | exact LeO.none _
      | refine LeO.ite ?_ ?_
      | refine LeO.bind ?_ (fun _ => ?_)
set_option maxHeartbeats 8000000 in
set_option maxRecDepth 100000 in
theorem counterpanelaw24_ZcodeWalks.calls (k : Nat) (a0 : Int) (a1 : Int) (a2 : Int) (a3 : Int) (r : Bool) (w : World) (h : counterpanelaw24_ZcodeWalks.f k a0 a1 a2 a3 = some r) :
    Calls Try.prog 7 #[.int .u32 a0, .int .u32 a1, .int .u8 a2, .int .u8 a3] w fun e w' => e = .returned (.bool r) ∧ Below w.heap.size w w' := by
  have hu31 := Try.underlying31
  have HB := Aside0.mk (Below.refl w.heap.size w)
  have H : (if a0 > (4294967295 - (cvt .u32 (Int.tmod a2 6))) then (counterpanelaw24_ZcodeWalks.j0 k a0 a1 (cvt .u32 (Int.tmod a2 6)) (cvt .u32 (Int.tmod a3 6)) true) else (counterpanelaw24_ZcodeWalks.j0 k a0 a1 (cvt .u32 (Int.tmod a2 6)) (cvt .u32 (Int.tmod a3 6)) (decide (a1 > (4294967295 - (cvt .u32 (Int.tmod a3 6))))))) = some r := h
  clear h
  obtain ⟨ji5, hji5⟩ : ∃ j_ : Int, (cvt .u32 (Int.tmod a2 6)) = j_ := ⟨_, rfl⟩
  replace H : (if a0 > (4294967295 - (ji5)) then (counterpanelaw24_ZcodeWalks.j0 k a0 a1 ji5 (cvt .u32 (Int.tmod a3 6)) true) else (counterpanelaw24_ZcodeWalks.j0 k a0 a1 ji5 (cvt .u32 (Int.tmod a3 6)) (decide (a1 > (4294967295 - (cvt .u32 (Int.tmod a3 6))))))) = some r := by first | (rw [hji5] at H; exact H) | (simp only [hji5] at H ⊢; exact H)
  have hji5_ : ((Int.tmod a2 6) % 4294967296) = ji5 := hji5
  obtain ⟨ji6, hji6⟩ : ∃ j_ : Int, (cvt .u32 (Int.tmod a3 6)) = j_ := ⟨_, rfl⟩
  replace H : (if a0 > (4294967295 - (ji5)) then (counterpanelaw24_ZcodeWalks.j0 k a0 a1 ji5 ji6 true) else (counterpanelaw24_ZcodeWalks.j0 k a0 a1 ji5 ji6 (decide (a1 > (4294967295 - (ji6)))))) = some r := by first | (rw [hji6] at H; exact H) | (simp only [hji6] at H ⊢; exact H)
  have hji6_ : ((Int.tmod a3 6) % 4294967296) = ji6 := hji6
  have HC7 := Aside0.mk H
  clear H
  go_enter Try.func7, Try.ntmps7
  go_upto_region 2 with (fail)
  go_cut [33] (fun v33 wc => ∃ (kq : Nat) (x33_6 : Bool), v33 = .bool x33_6 ∧ Aside0 (counterpanelaw24_ZcodeWalks.j0 kq a0 a1 ji5 ji6 x33_6 = some r) ∧ Aside0 (kq ≤ k) ∧ Aside0 (Below w.heap.size w wc))
  case first =>
    have H := HC7.out
    clear HC7
    by_cases c8 : a0 > (4294967295 - (ji5))
    · rw [if_pos c8] at H
      have c8b0 : decide ((4294967295 - (ji5)) < a0) = true := decide_eq_true c8
      clear c8
      (first | rw [c8b0] | (simp only [i64_w, i32_w]; rw [c8b0]) | skip)
      have H' := Aside0.mk H
      clear H
      go_wp2
      go_meet
      case rel => exact ⟨_, (true), (by first | rfl | (simp; done) | (simp [*]; done)), H', ⟨by first | omega | exact Nat.le_refl _⟩, ⟨by repeat (first | (with_reducible first | exact HB.out | apply below_alloc | apply pw_below_drewN | apply below_drew1) | exact HB.out)⟩⟩
    · rw [if_neg c8] at H
      have c8b0 : decide ((4294967295 - (ji5)) < a0) = false := decide_eq_false c8
      clear c8
      (first | rw [c8b0] | (simp only [i64_w, i32_w]; rw [c8b0]) | skip)
      have H' := Aside0.mk H
      clear H
      go_wp2
      go_meet
      case rel => exact ⟨_, (decide (a1 > (4294967295 - (ji6)))), (by first | rfl | (simp; done) | (simp only [← hji6] <;> (first | rfl | simp)) | (simp [*]; done)), H', ⟨by first | omega | exact Nat.le_refl _⟩, ⟨by repeat (first | (with_reducible first | exact HB.out | apply below_alloc | apply pw_below_drewN | apply below_drew1) | exact HB.out)⟩⟩
  case rest =>
    clear HC7
    try clear p2
    try clear c7
    try clear c8
    try clear c8b0
    obtain ⟨kq, x33_6, rfl, HA, HJ6, HB⟩ := hcut
    cases kq with
    | zero => exact absurd HA.out (by simp [counterpanelaw24_ZcodeWalks.j0])
    | succ kj6 =>
      have H := HA.out
      clear HA
      simp only [counterpanelaw24_ZcodeWalks.j0] at H
      by_cases c9 : x33_6 = true
      · subst c9
        have H1 : ((counterpanelaw24_works.f kj6).bind fun t172 => (some t172)) = some r := by rw [if_pos rfl] at H; exact H
        clear H
        have H := H1
        clear H1
        replace H := Option.bind_eq_some_iff.mp H
        obtain ⟨t172, A100, H⟩ := H
        replace H : (some t172) = some r := H
        have A10 := Aside0.mk A100
        clear A100
        obtain rfl := Option.some.inj H
        go_wp2_with (first | ((with_reducible refine gate_callee (f := 12) rfl ?_); refine goesL_ (some 34) rfl rfl Try.func12 (by kernel_rfl) rfl #[] rfl (by (try simp only [List.map_toArray, List.map_cons, List.map_nil]); first | done | rfl | (simp only [List.length_drop, List.length_take]; rfl) | (simp; done)) ?_; (with_reducible refine (counterpanelaw24_works.calls kj6  t172 _ A10.out).mono ?_); rintro e w11 ⟨rfl, hb⟩; refine ⟨_, rfl, ?_⟩; have n0_ := Aside0.mk (below_step (by repeat (first | (with_reducible first | exact HB.out | apply below_alloc | apply pw_below_drewN | apply below_drew1) | exact HB.out)) hb); clear HB; have HB := n0_; clear n0_; (try clear hb); (try clear hb2); (try clear hk); (try clear hi)))
        go_ret
        exact ⟨by first | rfl | (simp [errW_none, errW_some] <;> rfl) | (simp only [← hji5, ← hji6]; first | rfl | (simp [errW_none, errW_some] <;> rfl)) | (simp [*, errW_none, errW_some] <;> rfl), by repeat (first | (with_reducible first | exact HB.out | apply below_alloc | apply pw_below_drewN | apply below_drew1) | exact HB.out)⟩
      · replace c9 := Bool.eq_false_iff.mpr c9
        subst c9
        have H1 : (counterpanelaw24_ZcodeWalks.l0 kj6 a0 a1 ji5 ji6 0 0 a0 a1 ((a0 + ji5) % 4294967296) ((a1 + ji6) % 4294967296)) = some r := by rw [if_neg (show ¬ (false = true) by decide)] at H; exact H
        clear H
        have H := H1
        clear H1
        have H' := Aside0.mk H
        clear H
        go_wp2_with (first | ((with_reducible refine gate_dst (N := 11) rfl ?_); refine box_event ?hg (N := 11) ?hd (cs := #[.int .u32 0, .int .u32 0, .int .u32 0, .int .u32 0]) (t := 31) ?hr ?_; (case hd => rfl); (case hg => rfl); (case hr => first | (go_simp; done) | (go_simp; rfl)); intro gb173 hg w12 hbox hb; have n0_ := Aside0.mk (below_step (by repeat (first | (with_reducible first | exact HB.out | apply below_alloc | apply pw_below_drewN | apply below_drew1) | exact HB.out)) hb); have n1_ := Aside0.mk (hbox); have n2_ := Aside0.mk ((by rw [hg]; exact (below_size (by repeat (first | (with_reducible first | exact HB.out | apply below_alloc | apply pw_below_drewN | apply below_drew1) | exact HB.out))) : w.heap.size ≤ gb173)); have n3_ := Aside0.mk ((by rw [hg]; exact (below_size (by repeat (first | (with_reducible first | exact HB.out | apply below_alloc | apply pw_below_drewN | apply below_drew1) | exact HB.out))) : w.heap.size ≤ gb173)); clear HB; have HB := n0_; have BK173 := n1_; have GW173 := n2_; have GE173 := n3_; clear n0_ n1_ n2_ n3_; clear hb hbox hg; have hcz13_0 : w12.cell? ⟨gb173, 0, none⟩ = some (.int .u32 0) := (blk_cell BK173.out 0).trans rfl; have hcz13_1 : w12.cell? ⟨gb173, 1, none⟩ = some (.int .u32 0) := (blk_cell BK173.out 1).trans rfl; have hcz13_2 : w12.cell? ⟨gb173, 2, none⟩ = some (.int .u32 0) := (blk_cell BK173.out 2).trans rfl; have hcz13_3 : w12.cell? ⟨gb173, 3, none⟩ = some (.int .u32 0) := (blk_cell BK173.out 3).trans rfl; have hfz13_0 := blk_frozen BK173.out 0; have hfz13_1 := blk_frozen BK173.out 1; have hfz13_2 := blk_frozen BK173.out 2; have hfz13_3 := blk_frozen BK173.out 3))
        go_loopg [12, 13] kj6 (fun kq v12 v13 w' => ∃ (x12_2 : Int) (x13_2 : Int), v12 = .int .i64 x12_2 ∧ v13 = .int .u64 x13_2 ∧ Aside0 (counterpanelaw24_ZcodeWalks.l0 kq a0 a1 ji5 ji6 x12_2 x13_2 a0 a1 ((a0 + ji5) % 4294967296) ((a1 + ji6) % 4294967296) = some r) ∧ Aside0 (kq ≤ kj6) ∧ Aside0 (w'.heap[gb173]? = some (.cells #[.int .u32 a0, .int .u32 a1, .int .u32 ((a0 + ji5) % 4294967296), .int .u32 ((a1 + ji6) % 4294967296)] 31 (0, 0))) ∧ Aside0 (Below w.heap.size w w'))
        case atStart => exact ⟨(0), (0), (by first | rfl | (simp; done) | (simp [*]; done)), (by first | rfl | (simp; done) | (simp [*]; done)), H', ⟨Nat.le_refl _⟩, ⟨by (with_reducible repeat (first | refine blk_drewN ?_ _ | refine blk_drew ?_ | refine blk_alloc ?_ _)); refine blk_put (cs := #[.int .u32 a0, .int .u32 a1, .int .u32 ((a0 + ji5) % 4294967296), .int .u32 0]) ?_ 3 _ (by first | rfl | simp); (with_reducible repeat (first | refine blk_drewN ?_ _ | refine blk_drew ?_ | refine blk_alloc ?_ _)); refine blk_put (cs := #[.int .u32 a0, .int .u32 a1, .int .u32 0, .int .u32 0]) ?_ 2 _ (by first | rfl | simp); (with_reducible repeat (first | refine blk_drewN ?_ _ | refine blk_drew ?_ | refine blk_alloc ?_ _)); refine blk_put (cs := #[.int .u32 a0, .int .u32 0, .int .u32 0, .int .u32 0]) ?_ 1 _ (by first | rfl | simp); (with_reducible repeat (first | refine blk_drewN ?_ _ | refine blk_drew ?_ | refine blk_alloc ?_ _)); refine blk_put (cs := #[.int .u32 0, .int .u32 0, .int .u32 0, .int .u32 0]) ?_ 0 _ (by first | rfl | simp); (with_reducible repeat (first | refine blk_drewN ?_ _ | refine blk_drew ?_ | refine blk_alloc ?_ _)); exact BK173.out⟩, ⟨by repeat (first | (with_reducible first | exact HB.out | apply below_alloc | apply pw_below_drewN | apply below_drew1 | refine below_set ?_ GE173.out) | exact HB.out)⟩⟩
        case round =>
          clear H'
          try clear c1
          try clear p2
          try clear c7
          try clear c8
          try clear c8b0
          try clear c9
          try clear c12
          try clear hcz13_0
          try clear hcz13_1
          try clear hcz13_2
          try clear hcz13_3
          try clear hfz13_0
          try clear hfz13_1
          try clear hfz13_2
          try clear hfz13_3
          try clear p2
          obtain ⟨x12_2, x13_2, rfl, rfl, HA, HK2, BK173, HB⟩ := hrel
          cases gk with
          | zero => exact absurd HA.out (by simp [counterpanelaw24_ZcodeWalks.l0])
          | succ k2 =>
            have H := HA.out
            clear HA
            simp only [counterpanelaw24_ZcodeWalks.l0] at H
            by_cases c14 : x12_2 ≤ 36
            · rw [if_pos c14] at H
              have c14b0 : decide (x12_2 ≤ 36) = true := decide_eq_true c14
              clear c14
              replace H := Option.bind_eq_some_iff.mp H
              obtain ⟨⟨t175, t176⟩, A150, H⟩ := H
              replace H : (if t176 = true then ((counterpaneref24_Point.f k2 t175).bind fun bt178 => (if t175 < x13_2 then (counterpanelaw24_ZcodeWalks.j2 k2 a0 a1 ji5 ji6 x12_2 t175 true a0 a1 ((a0 + ji5) % 4294967296) ((a1 + ji6) % 4294967296)) else (if bt178.1 < a0 then (counterpanelaw24_ZcodeWalks.j2 k2 a0 a1 ji5 ji6 x12_2 t175 true a0 a1 ((a0 + ji5) % 4294967296) ((a1 + ji6) % 4294967296)) else (if bt178.1 > ((a0 + ji5) % 4294967296) then (counterpanelaw24_ZcodeWalks.j2 k2 a0 a1 ji5 ji6 x12_2 t175 true a0 a1 ((a0 + ji5) % 4294967296) ((a1 + ji6) % 4294967296)) else (if bt178.2 < a1 then (counterpanelaw24_ZcodeWalks.j2 k2 a0 a1 ji5 ji6 x12_2 t175 true a0 a1 ((a0 + ji5) % 4294967296) ((a1 + ji6) % 4294967296)) else (counterpanelaw24_ZcodeWalks.j2 k2 a0 a1 ji5 ji6 x12_2 t175 (decide (bt178.2 > ((a1 + ji6) % 4294967296))) a0 a1 ((a0 + ji5) % 4294967296) ((a1 + ji6) % 4294967296))))))) else (if x12_2 = ((((ji5 + 1) % 4294967296) * ((ji6 + 1) % 4294967296)) % 4294967296) then ((counterpanelaw24_works.f k2).bind fun t177 => (some t177)) else (none))) = some r := H
              have A15 := Aside0.mk A150
              clear A150
              by_cases c16 : t176 = true
              · subst c16
                have H1 : ((counterpaneref24_Point.f k2 t175).bind fun bt178 => (if t175 < x13_2 then (counterpanelaw24_ZcodeWalks.j2 k2 a0 a1 ji5 ji6 x12_2 t175 true a0 a1 ((a0 + ji5) % 4294967296) ((a1 + ji6) % 4294967296)) else (if bt178.1 < a0 then (counterpanelaw24_ZcodeWalks.j2 k2 a0 a1 ji5 ji6 x12_2 t175 true a0 a1 ((a0 + ji5) % 4294967296) ((a1 + ji6) % 4294967296)) else (if bt178.1 > ((a0 + ji5) % 4294967296) then (counterpanelaw24_ZcodeWalks.j2 k2 a0 a1 ji5 ji6 x12_2 t175 true a0 a1 ((a0 + ji5) % 4294967296) ((a1 + ji6) % 4294967296)) else (if bt178.2 < a1 then (counterpanelaw24_ZcodeWalks.j2 k2 a0 a1 ji5 ji6 x12_2 t175 true a0 a1 ((a0 + ji5) % 4294967296) ((a1 + ji6) % 4294967296)) else (counterpanelaw24_ZcodeWalks.j2 k2 a0 a1 ji5 ji6 x12_2 t175 (decide (bt178.2 > ((a1 + ji6) % 4294967296))) a0 a1 ((a0 + ji5) % 4294967296) ((a1 + ji6) % 4294967296))))))) = some r := by rw [if_pos rfl] at H; exact H
                clear H
                have H := H1
                clear H1
                replace H := Option.bind_eq_some_iff.mp H
                obtain ⟨⟨t178, t179⟩, A170, H⟩ := H
                replace H : (if t175 < x13_2 then (counterpanelaw24_ZcodeWalks.j2 k2 a0 a1 ji5 ji6 x12_2 t175 true a0 a1 ((a0 + ji5) % 4294967296) ((a1 + ji6) % 4294967296)) else (if t178 < a0 then (counterpanelaw24_ZcodeWalks.j2 k2 a0 a1 ji5 ji6 x12_2 t175 true a0 a1 ((a0 + ji5) % 4294967296) ((a1 + ji6) % 4294967296)) else (if t178 > ((a0 + ji5) % 4294967296) then (counterpanelaw24_ZcodeWalks.j2 k2 a0 a1 ji5 ji6 x12_2 t175 true a0 a1 ((a0 + ji5) % 4294967296) ((a1 + ji6) % 4294967296)) else (if t179 < a1 then (counterpanelaw24_ZcodeWalks.j2 k2 a0 a1 ji5 ji6 x12_2 t175 true a0 a1 ((a0 + ji5) % 4294967296) ((a1 + ji6) % 4294967296)) else (counterpanelaw24_ZcodeWalks.j2 k2 a0 a1 ji5 ji6 x12_2 t175 (decide (t179 > ((a1 + ji6) % 4294967296))) a0 a1 ((a0 + ji5) % 4294967296) ((a1 + ji6) % 4294967296)))))) = some r := H
                have A17 := Aside0.mk A170
                clear A170
                have HC18 := Aside0.mk H
                clear H
                have hcz19_0 : wr.cell? ⟨gb173, 0, none⟩ = some (.int .u32 a0) := (blk_cell BK173.out 0).trans rfl
                have hcz19_1 : wr.cell? ⟨gb173, 1, none⟩ = some (.int .u32 a1) := (blk_cell BK173.out 1).trans rfl
                have hcz19_2 : wr.cell? ⟨gb173, 2, none⟩ = some (.int .u32 ((a0 + ji5) % 4294967296)) := (blk_cell BK173.out 2).trans rfl
                have hcz19_3 : wr.cell? ⟨gb173, 3, none⟩ = some (.int .u32 ((a1 + ji6) % 4294967296)) := (blk_cell BK173.out 3).trans rfl
                have hfz19_0 := blk_frozen BK173.out 0
                have hfz19_1 := blk_frozen BK173.out 1
                have hfz19_2 := blk_frozen BK173.out 2
                have hfz19_3 := blk_frozen BK173.out 3
                go_upto_region 11 with (first | ((with_reducible refine gate_callee (f := 14) rfl ?_); refine goesL_ (some 49) rfl rfl Try.func14 (by kernel_rfl) rfl #[.agg #[.int .u32 a0, .int .u32 a1, .int .u32 ((a0 + ji5) % 4294967296), .int .u32 ((a1 + ji6) % 4294967296)], .int .u64 x13_2] rfl (by (try simp only [List.map_toArray, List.map_cons, List.map_nil]); first | done | (simp only [hji5, hji6]; rfl) | rfl | (simp only [List.length_drop, List.length_take]; rfl) | (simp; done)) ?_; (with_reducible refine (zcode_Next.calls k2 a0 a1 ((a0 + ji5) % 4294967296) ((a1 + ji6) % 4294967296) x13_2 t175 true _ A15.out).mono ?_); rintro e w20 ⟨rfl, hb⟩; refine ⟨_, rfl, ?_⟩; have n0_ := Aside0.mk (blk_below (g := gb173) (o := .cells #[.int .u32 a0, .int .u32 a1, .int .u32 ((a0 + ji5) % 4294967296), .int .u32 ((a1 + ji6) % 4294967296)] 31 (0, 0)) (by (with_reducible repeat (first | refine blk_drewN ?_ _ | refine blk_drew ?_ | refine blk_alloc ?_ _)); exact BK173.out) hb); have n1_ := Aside0.mk (below_step (by repeat (first | (with_reducible first | exact HB.out | apply below_alloc | apply pw_below_drewN | apply below_drew1 | refine below_set ?_ GE173.out) | exact HB.out)) hb); clear BK173; clear HB; have BK173 := n0_; have HB := n1_; clear n0_ n1_; (try clear hb); (try clear hb2); (try clear hk); (try clear hi)) | ((with_reducible refine gate_callee (f := 9) rfl ?_); refine goesL_ (some 56) rfl rfl Try.func9 (by kernel_rfl) rfl #[.int .u64 t175] rfl (by (try simp only [List.map_toArray, List.map_cons, List.map_nil]); first | done | rfl | (simp only [List.length_drop, List.length_take]; rfl) | (simp; done)) ?_; (with_reducible refine (counterpaneref24_Point.calls k2 t175 t178 t179 _ A17.out).mono ?_); rintro e w' ⟨rfl, ⟨nd, rfl⟩⟩; refine ⟨_, rfl, ?_⟩))
                (try simp only [Act.put, List.setIfInBounds_toArray, List.set_cons_zero, List.set_cons_succ])
                go_cut [85] (fun v85 wc => ∃ (kq : Nat) (x85_17 : Bool), v85 = .bool x85_17 ∧ Aside0 (counterpanelaw24_ZcodeWalks.j2 kq a0 a1 ji5 ji6 x12_2 t175 x85_17 a0 a1 ((a0 + ji5) % 4294967296) ((a1 + ji6) % 4294967296) = some r) ∧ Aside0 (kq ≤ k2) ∧ Aside0 (wc.heap[gb173]? = some (.cells #[.int .u32 a0, .int .u32 a1, .int .u32 ((a0 + ji5) % 4294967296), .int .u32 ((a1 + ji6) % 4294967296)] 31 (0, 0))) ∧ Aside0 (Below w.heap.size w wc))
                case first =>
                  have H := HC18.out
                  clear HC18
                  by_cases c21 : t175 < x13_2
                  · rw [if_pos c21] at H
                    have c21b0 : decide (t175 < x13_2) = true := decide_eq_true c21
                    clear c21
                    (first | rw [c21b0] | (simp only [i64_w, i32_w]; rw [c21b0]) | skip)
                    have H' := Aside0.mk H
                    clear H
                    go_wp2
                    go_meet
                    case rel => exact ⟨_, (true), (by first | rfl | (simp; done) | (simp [*]; done)), H', ⟨by have := HJ6.out; have := HK2.out; first | omega | exact Nat.le_refl _⟩, ⟨by (with_reducible repeat (first | refine blk_drewN ?_ _ | refine blk_drew ?_ | refine blk_alloc ?_ _)); exact BK173.out⟩, ⟨by repeat (first | (with_reducible first | exact HB.out | apply below_alloc | apply pw_below_drewN | apply below_drew1 | refine below_set ?_ GE173.out) | exact HB.out)⟩⟩
                  · rw [if_neg c21] at H
                    have c21b0 : decide (t175 < x13_2) = false := decide_eq_false c21
                    clear c21
                    (first | rw [c21b0] | (simp only [i64_w, i32_w]; rw [c21b0]) | skip)
                    by_cases c22 : t178 < a0
                    · rw [if_pos c22] at H
                      have c22b0 : decide (t178 < a0) = true := decide_eq_true c22
                      clear c22
                      have H' := Aside0.mk H
                      clear H
                      go_wp2
                      go_meet
                      case rel => exact ⟨_, (true), (by first | rfl | (simp; done) | (simp [*]; done)), H', ⟨by have := HJ6.out; have := HK2.out; first | omega | exact Nat.le_refl _⟩, ⟨by (with_reducible repeat (first | refine blk_drewN ?_ _ | refine blk_drew ?_ | refine blk_alloc ?_ _)); exact BK173.out⟩, ⟨by repeat (first | (with_reducible first | exact HB.out | apply below_alloc | apply pw_below_drewN | apply below_drew1 | refine below_set ?_ GE173.out) | exact HB.out)⟩⟩
                    · rw [if_neg c22] at H
                      have c22b0 : decide (t178 < a0) = false := decide_eq_false c22
                      clear c22
                      by_cases c23 : t178 > ((a0 + ji5) % 4294967296)
                      · rw [if_pos c23] at H
                        have c23b0 : decide (((a0 + ji5) % 4294967296) < t178) = true := decide_eq_true c23
                        clear c23
                        have H' := Aside0.mk H
                        clear H
                        go_wp2
                        go_meet
                        case rel => exact ⟨_, (true), (by first | rfl | (simp; done) | (simp [*]; done)), H', ⟨by have := HJ6.out; have := HK2.out; first | omega | exact Nat.le_refl _⟩, ⟨by (with_reducible repeat (first | refine blk_drewN ?_ _ | refine blk_drew ?_ | refine blk_alloc ?_ _)); exact BK173.out⟩, ⟨by repeat (first | (with_reducible first | exact HB.out | apply below_alloc | apply pw_below_drewN | apply below_drew1 | refine below_set ?_ GE173.out) | exact HB.out)⟩⟩
                      · rw [if_neg c23] at H
                        have c23b0 : decide (((a0 + ji5) % 4294967296) < t178) = false := decide_eq_false c23
                        clear c23
                        by_cases c24 : t179 < a1
                        · rw [if_pos c24] at H
                          have c24b0 : decide (t179 < a1) = true := decide_eq_true c24
                          clear c24
                          have H' := Aside0.mk H
                          clear H
                          go_wp2
                          go_meet
                          case rel => exact ⟨_, (true), (by first | rfl | (simp; done) | (simp [*]; done)), H', ⟨by have := HJ6.out; have := HK2.out; first | omega | exact Nat.le_refl _⟩, ⟨by (with_reducible repeat (first | refine blk_drewN ?_ _ | refine blk_drew ?_ | refine blk_alloc ?_ _)); exact BK173.out⟩, ⟨by repeat (first | (with_reducible first | exact HB.out | apply below_alloc | apply pw_below_drewN | apply below_drew1 | refine below_set ?_ GE173.out) | exact HB.out)⟩⟩
                        · rw [if_neg c24] at H
                          have c24b0 : decide (t179 < a1) = false := decide_eq_false c24
                          clear c24
                          have H' := Aside0.mk H
                          clear H
                          go_wp2
                          go_meet
                          case rel => exact ⟨_, (decide (t179 > ((a1 + ji6) % 4294967296))), (by first | rfl | (simp; done) | (simp only [← hji6] <;> (first | rfl | simp)) | (simp [*]; done)), H', ⟨by have := HJ6.out; have := HK2.out; first | omega | exact Nat.le_refl _⟩, ⟨by (with_reducible repeat (first | refine blk_drewN ?_ _ | refine blk_drew ?_ | refine blk_alloc ?_ _)); exact BK173.out⟩, ⟨by repeat (first | (with_reducible first | exact HB.out | apply below_alloc | apply pw_below_drewN | apply below_drew1 | refine below_set ?_ GE173.out) | exact HB.out)⟩⟩
                case rest =>
                  clear HC18
                  try clear c1
                  try clear c2
                  try clear p2
                  try clear c7
                  try clear c8
                  try clear c8b0
                  try clear c9
                  try clear c12
                  try clear c14
                  try clear c14b0
                  try clear c16
                  try clear c21
                  try clear c21b0
                  try clear c22
                  try clear c22b0
                  try clear c23
                  try clear c23b0
                  try clear c24
                  try clear c24b0
                  try clear hcz13_0
                  try clear hcz13_1
                  try clear hcz13_2
                  try clear hcz13_3
                  try clear hcz19_0
                  try clear hcz19_1
                  try clear hcz19_2
                  try clear hcz19_3
                  try clear hfz13_0
                  try clear hfz13_1
                  try clear hfz13_2
                  try clear hfz13_3
                  try clear hfz19_0
                  try clear hfz19_1
                  try clear hfz19_2
                  try clear hfz19_3
                  try clear p2
                  obtain ⟨kq, x85_17, rfl, HA, HJ17, BK173, HB⟩ := hcut
                  cases kq with
                  | zero => exact absurd HA.out (by simp [counterpanelaw24_ZcodeWalks.j2])
                  | succ kj17 =>
                    have H := HA.out
                    clear HA
                    simp only [counterpanelaw24_ZcodeWalks.j2] at H
                    by_cases c25 : x85_17 = true
                    · subst c25
                      have H1 : (none) = some r := by rw [if_pos rfl] at H; exact H
                      clear H
                      have H := H1
                      clear H1
                      exact absurd H (by simp)
                    · replace c25 := Bool.eq_false_iff.mpr c25
                      subst c25
                      have H1 : (if t175 = 18446744073709551615 then (if (wrap64 (x12_2 + 1)) = ((((ji5 + 1) % 4294967296) * ((ji6 + 1) % 4294967296)) % 4294967296) then ((counterpanelaw24_works.f kj17).bind fun t180 => (some t180)) else (none)) else (counterpanelaw24_ZcodeWalks.l0 kj17 a0 a1 ji5 ji6 (wrap64 (x12_2 + 1)) (IntKind.u64.wrap (t175 + 1)) a0 a1 ((a0 + ji5) % 4294967296) ((a1 + ji6) % 4294967296))) = some r := by rw [if_neg (show ¬ (false = true) by decide)] at H; exact H
                      clear H
                      have H := H1
                      clear H1
                      by_cases c26 : t175 = 18446744073709551615
                      · rw [if_pos c26] at H
                        have c26b0 : (t175 == 18446744073709551615) = true := beq_iff_eq.mpr c26
                        have c26b1 : (t175 != 18446744073709551615) = false := bne_eq_false_iff_eq.mpr c26
                        clear c26
                        by_cases c27 : (wrap64 (x12_2 + 1)) = ((((ji5 + 1) % 4294967296) * ((ji6 + 1) % 4294967296)) % 4294967296)
                        · rw [if_pos c27] at H
                          have c27b0 : ((wrap64 (x12_2 + 1)) == ((((ji5 + 1) % 4294967296) * ((ji6 + 1) % 4294967296)) % 4294967296)) = true := beq_iff_eq.mpr c27
                          (try (have c27b0m := c27b0; simp only [Int.emod_add_emod, Int.add_emod_emod, Int.emod_sub_emod, Int.sub_emod_emod] at c27b0m))
                          have c27b1 : ((wrap64 (x12_2 + 1)) != ((((ji5 + 1) % 4294967296) * ((ji6 + 1) % 4294967296)) % 4294967296)) = false := bne_eq_false_iff_eq.mpr c27
                          (try (have c27b1m := c27b1; simp only [Int.emod_add_emod, Int.add_emod_emod, Int.emod_sub_emod, Int.sub_emod_emod] at c27b1m))
                          clear c27
                          replace H := Option.bind_eq_some_iff.mp H
                          obtain ⟨t180, A280, H⟩ := H
                          replace H : (some t180) = some r := H
                          have A28 := Aside0.mk A280
                          clear A280
                          obtain rfl := Option.some.inj H
                          go_wp2_with (first | (go_at_call 12; (with_reducible refine (counterpanelaw24_works.calls kj17  t180 _ A28.out).mono ?_); rintro e w29 ⟨rfl, hb⟩; have n0_ := Aside0.mk (blk_below (g := gb173) (o := .cells #[.int .u32 a0, .int .u32 a1, .int .u32 ((a0 + ji5) % 4294967296), .int .u32 ((a1 + ji6) % 4294967296)] 31 (0, 0)) (by (with_reducible repeat (first | refine blk_drewN ?_ _ | refine blk_drew ?_ | refine blk_alloc ?_ _)); exact BK173.out) hb); have n1_ := Aside0.mk (below_step (by repeat (first | (with_reducible first | exact HB.out | apply below_alloc | apply pw_below_drewN | apply below_drew1 | refine below_set ?_ GE173.out) | exact HB.out)) hb); clear BK173; clear HB; have BK173 := n0_; have HB := n1_; clear n0_ n1_; (try clear hb); (try clear hb2); (try clear hk); (try clear hi)))
                          go_ret
                          exact ⟨by first | rfl | (simp [errW_none, errW_some] <;> rfl) | (simp only [← hji5, ← hji6]; first | rfl | (simp [errW_none, errW_some] <;> rfl)) | (simp [*, errW_none, errW_some] <;> rfl), by repeat (first | (with_reducible first | exact HB.out | apply below_alloc | apply pw_below_drewN | apply below_drew1 | refine below_set ?_ GE173.out) | exact HB.out)⟩
                        · rw [if_neg c27] at H
                          exact absurd H (by simp)
                      · rw [if_neg c26] at H
                        have c26b0 : (t175 == 18446744073709551615) = false := beq_eq_false_iff_ne.mpr c26
                        have c26b1 : (t175 != 18446744073709551615) = true := bne_iff_ne.mpr c26
                        have H' := Aside0.mk H
                        clear H
                        go_wp2
                        go_roundg kj17
                        case measure => have := HJ6.out; have := HK2.out; have := HJ17.out; omega
                        case rel => exact ⟨(wrap64 (x12_2 + 1)), (IntKind.u64.wrap (t175 + 1)), (by first | rfl | (simp; done) | (simp [*]; done)), (by first | rfl | (simp; done) | (simp [*]; done)), H', ⟨by have := HJ6.out; have := HK2.out; have := HJ17.out; omega⟩, ⟨by (with_reducible repeat (first | refine blk_drewN ?_ _ | refine blk_drew ?_ | refine blk_alloc ?_ _)); exact BK173.out⟩, ⟨by repeat (first | (with_reducible first | exact HB.out | apply below_alloc | apply pw_below_drewN | apply below_drew1 | refine below_set ?_ GE173.out) | exact HB.out)⟩⟩
              · replace c16 := Bool.eq_false_iff.mpr c16
                subst c16
                have H1 : (if x12_2 = ((((ji5 + 1) % 4294967296) * ((ji6 + 1) % 4294967296)) % 4294967296) then ((counterpanelaw24_works.f k2).bind fun t177 => (some t177)) else (none)) = some r := by rw [if_neg (show ¬ (false = true) by decide)] at H; exact H
                clear H
                have H := H1
                clear H1
                by_cases c30 : x12_2 = ((((ji5 + 1) % 4294967296) * ((ji6 + 1) % 4294967296)) % 4294967296)
                · rw [if_pos c30] at H
                  have c30b0 : (x12_2 == ((((ji5 + 1) % 4294967296) * ((ji6 + 1) % 4294967296)) % 4294967296)) = true := beq_iff_eq.mpr c30
                  (try (have c30b0m := c30b0; simp only [Int.emod_add_emod, Int.add_emod_emod, Int.emod_sub_emod, Int.sub_emod_emod] at c30b0m))
                  have c30b1 : (x12_2 != ((((ji5 + 1) % 4294967296) * ((ji6 + 1) % 4294967296)) % 4294967296)) = false := bne_eq_false_iff_eq.mpr c30
                  (try (have c30b1m := c30b1; simp only [Int.emod_add_emod, Int.add_emod_emod, Int.emod_sub_emod, Int.sub_emod_emod] at c30b1m))
                  clear c30
                  replace H := Option.bind_eq_some_iff.mp H
                  obtain ⟨t177, A310, H⟩ := H
                  replace H : (some t177) = some r := H
                  have A31 := Aside0.mk A310
                  clear A310
                  obtain rfl := Option.some.inj H
                  have hcz32_0 : wr.cell? ⟨gb173, 0, none⟩ = some (.int .u32 a0) := (blk_cell BK173.out 0).trans rfl
                  have hcz32_1 : wr.cell? ⟨gb173, 1, none⟩ = some (.int .u32 a1) := (blk_cell BK173.out 1).trans rfl
                  have hcz32_2 : wr.cell? ⟨gb173, 2, none⟩ = some (.int .u32 ((a0 + ji5) % 4294967296)) := (blk_cell BK173.out 2).trans rfl
                  have hcz32_3 : wr.cell? ⟨gb173, 3, none⟩ = some (.int .u32 ((a1 + ji6) % 4294967296)) := (blk_cell BK173.out 3).trans rfl
                  have hfz32_0 := blk_frozen BK173.out 0
                  have hfz32_1 := blk_frozen BK173.out 1
                  have hfz32_2 := blk_frozen BK173.out 2
                  have hfz32_3 := blk_frozen BK173.out 3
                  go_wp2_with (first | ((with_reducible refine gate_callee (f := 14) rfl ?_); refine goesL_ (some 49) rfl rfl Try.func14 (by kernel_rfl) rfl #[.agg #[.int .u32 a0, .int .u32 a1, .int .u32 ((a0 + ji5) % 4294967296), .int .u32 ((a1 + ji6) % 4294967296)], .int .u64 x13_2] rfl (by (try simp only [List.map_toArray, List.map_cons, List.map_nil]); first | done | (simp only [hji5, hji6]; rfl) | rfl | (simp only [List.length_drop, List.length_take]; rfl) | (simp; done)) ?_; (with_reducible refine (zcode_Next.calls k2 a0 a1 ((a0 + ji5) % 4294967296) ((a1 + ji6) % 4294967296) x13_2 t175 false _ A15.out).mono ?_); rintro e w33 ⟨rfl, hb⟩; refine ⟨_, rfl, ?_⟩; have n0_ := Aside0.mk (blk_below (g := gb173) (o := .cells #[.int .u32 a0, .int .u32 a1, .int .u32 ((a0 + ji5) % 4294967296), .int .u32 ((a1 + ji6) % 4294967296)] 31 (0, 0)) (by (with_reducible repeat (first | refine blk_drewN ?_ _ | refine blk_drew ?_ | refine blk_alloc ?_ _)); exact BK173.out) hb); have n1_ := Aside0.mk (below_step (by repeat (first | (with_reducible first | exact HB.out | apply below_alloc | apply pw_below_drewN | apply below_drew1 | refine below_set ?_ GE173.out) | exact HB.out)) hb); clear BK173; clear HB; have BK173 := n0_; have HB := n1_; clear n0_ n1_; (try clear hb); (try clear hb2); (try clear hk); (try clear hi)) | (go_at_call 12; (with_reducible refine (counterpanelaw24_works.calls k2  t177 _ A31.out).mono ?_); rintro e w34 ⟨rfl, hb⟩; have n0_ := Aside0.mk (blk_below (g := gb173) (o := .cells #[.int .u32 a0, .int .u32 a1, .int .u32 ((a0 + ji5) % 4294967296), .int .u32 ((a1 + ji6) % 4294967296)] 31 (0, 0)) (by (with_reducible repeat (first | refine blk_drewN ?_ _ | refine blk_drew ?_ | refine blk_alloc ?_ _)); exact BK173.out) hb); have n1_ := Aside0.mk (below_step (by repeat (first | (with_reducible first | exact HB.out | apply below_alloc | apply pw_below_drewN | apply below_drew1 | refine below_set ?_ GE173.out) | exact HB.out)) hb); clear BK173; clear HB; have BK173 := n0_; have HB := n1_; clear n0_ n1_; (try clear hb); (try clear hb2); (try clear hk); (try clear hi)))
                  go_ret
                  exact ⟨by first | rfl | (simp [errW_none, errW_some] <;> rfl) | (simp only [← hji5, ← hji6]; first | rfl | (simp [errW_none, errW_some] <;> rfl)) | (simp [*, errW_none, errW_some] <;> rfl), by repeat (first | (with_reducible first | exact HB.out | apply below_alloc | apply pw_below_drewN | apply below_drew1 | refine below_set ?_ GE173.out) | exact HB.out)⟩
                · rw [if_neg c30] at H
                  exact absurd H (by simp)
            · rw [if_neg c14] at H
              have c14b0 : decide (x12_2 ≤ 36) = false := decide_eq_false c14
              clear c14
              by_cases c35 : x12_2 = ((((ji5 + 1) % 4294967296) * ((ji6 + 1) % 4294967296)) % 4294967296)
              · rw [if_pos c35] at H
                have c35b0 : (x12_2 == ((((ji5 + 1) % 4294967296) * ((ji6 + 1) % 4294967296)) % 4294967296)) = true := beq_iff_eq.mpr c35
                (try (have c35b0m := c35b0; simp only [Int.emod_add_emod, Int.add_emod_emod, Int.emod_sub_emod, Int.sub_emod_emod] at c35b0m))
                have c35b1 : (x12_2 != ((((ji5 + 1) % 4294967296) * ((ji6 + 1) % 4294967296)) % 4294967296)) = false := bne_eq_false_iff_eq.mpr c35
                (try (have c35b1m := c35b1; simp only [Int.emod_add_emod, Int.add_emod_emod, Int.emod_sub_emod, Int.sub_emod_emod] at c35b1m))
                clear c35
                replace H := Option.bind_eq_some_iff.mp H
                obtain ⟨t174, A360, H⟩ := H
                replace H : (some t174) = some r := H
                have A36 := Aside0.mk A360
                clear A360
                obtain rfl := Option.some.inj H
                go_wp2_with (first | (go_at_call 12; (with_reducible refine (counterpanelaw24_works.calls k2  t174 _ A36.out).mono ?_); rintro e w37 ⟨rfl, hb⟩; have n0_ := Aside0.mk (blk_below (g := gb173) (o := .cells #[.int .u32 a0, .int .u32 a1, .int .u32 ((a0 + ji5) % 4294967296), .int .u32 ((a1 + ji6) % 4294967296)] 31 (0, 0)) (by (with_reducible repeat (first | refine blk_drewN ?_ _ | refine blk_drew ?_ | refine blk_alloc ?_ _)); exact BK173.out) hb); have n1_ := Aside0.mk (below_step (by repeat (first | (with_reducible first | exact HB.out | apply below_alloc | apply pw_below_drewN | apply below_drew1 | refine below_set ?_ GE173.out) | exact HB.out)) hb); clear BK173; clear HB; have BK173 := n0_; have HB := n1_; clear n0_ n1_; (try clear hb); (try clear hb2); (try clear hk); (try clear hi)))
                go_ret
                exact ⟨by first | rfl | (simp [errW_none, errW_some] <;> rfl) | (simp only [← hji5, ← hji6]; first | rfl | (simp [errW_none, errW_some] <;> rfl)) | (simp [*, errW_none, errW_some] <;> rfl), by repeat (first | (with_reducible first | exact HB.out | apply below_alloc | apply pw_below_drewN | apply below_drew1 | refine below_set ?_ GE173.out) | exact HB.out)⟩
              · rw [if_neg c35] at H
                exact absurd H (by simp)

/-- THE ONE PURE STATEMENT of counterpanelaw24_ZcodeWalks: yours. -/
def counterpanelaw24_ZcodeWalks.Pure : Prop := ∀ (a0 : Int) (a1 : Int) (a2 : Int) (a3 : Int), (Lit.int .u32 a0).wf = true → (Lit.int .u32 a1).wf = true → (Lit.int .u8 a2).wf = true → (Lit.int .u8 a3).wf = true → ∃ k, counterpanelaw24_ZcodeWalks.f k a0 a1 a2 a3 = some true
theorem counterpanelaw24_ZcodeWalks.walk (P : counterpanelaw24_ZcodeWalks.Pure) (a0 : Int) (a1 : Int) (a2 : Int) (a3 : Int) (w : World) (w0 : (Lit.int .u32 a0).wf = true) (w1 : (Lit.int .u32 a1).wf = true) (w2 : (Lit.int .u8 a2).wf = true) (w3 : (Lit.int .u8 a3).wf = true) :
    Calls Try.prog 7 #[.int .u32 a0, .int .u32 a1, .int .u8 a2, .int .u8 a3] w fun e w' => e = .returned (.bool true) ∧ Below w.heap.size w w' := by
  obtain ⟨k, h⟩ := P a0 a1 a2 a3 w0 w1 w2 w3
  refine (counterpanelaw24_ZcodeWalks.calls k a0 a1 a2 a3 true w h).mono ?_
  rintro e w' ⟨rfl, hd⟩
  exact ⟨rfl, hd⟩

end Go.Proofs.Ytabkoclmhdnjfaa.PAll
