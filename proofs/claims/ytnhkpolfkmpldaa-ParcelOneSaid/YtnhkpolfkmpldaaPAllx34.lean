/- The functions that the laws of this seat reach, as plain functions with proofs that the calls answer just so (written by a program of this session on the kit's print). -/
import Derived.Test.YtnhkpolfkmpldaaPAllx0
import Derived.Test.YtnhkpolfkmpldaaPAllx28
import Derived.Test.YtnhkpolfkmpldaaPAllx29
import Derived.Test.YtnhkpolfkmpldaaPAllx30
import Derived.Test.YtnhkpolfkmpldaaPAllx32
namespace Go.Proofs.Ytnhkpolfkmpldaa.PAll
open Go.RowKit Go.Proofs.YtnhkpolfkmpldaaW.PrintWords Go.Proofs.YtnhkpolfkmpldaaW.PrintLast Go.Proofs.YtnhkpolfkmpldaaW.PrintMore
attribute [local go_sem] max2_int min2_int max_two min_two max_three min_three max_four min_four   -- for this text's walks alone
set_option linter.unusedVariables false
set_option linter.unusedSimpArgs false

/-! ### counterpaneref33_Answer: function 12 -/
mutual
def counterpaneref33_Answer.j0 : Nat → Bool → Int → List (S54) → Int → Option (List Int × Int)
  | 0, _, _, _, _ => none
  | k + 1, x21, x304000, x304001, x304002 => if x21 = true then (some (([] : List Int), 2)) else (if (x304001.length : Int) > 200 then (some (([] : List Int), 13)) else ((some (([(x304000) % 256] : List Int) : List Int)).bind fun y304 => ((counterpaneref01_Put.f k (IntKind.u64.wrap (x304002)) 8).bind fun t307 => (if y304.length + t307.length < 140737488355328 then ((some (y304 ++ t307 : List Int)).bind fun y310 => (if y310.length < 140737488355328 then (counterpaneref33_Answer.l0 k (y310 ++ [((x304001.length : Int)) % 256]) 0 x304000 x304001 x304002) else (none))) else (none)))))
def counterpaneref33_Answer.l0 : Nat → List Int → Int → Int → List (S54) → Int → Option (List Int × Int)
  | 0, _, _, _, _, _ => none
  | k + 1, x4, x5, x304000, x304001, x304002 => if x5 < (x304001.length : Int) then (if 0 ≤ x5 then (if ((rd_T54 x304001 x5).f0) = 0 then (counterpaneref33_Answer.j2 k x4 x5 ((rd_T54 x304001 x5).f5) x304000 x304001 x304002 ((rd_T54 x304001 x5).f0) ((rd_T54 x304001 x5).f1) ((rd_T54 x304001 x5).f2) ((rd_T54 x304001 x5).f3) ((rd_T54 x304001 x5).f4) ((rd_T54 x304001 x5).f5)) else (counterpaneref33_Answer.j2 k x4 x5 true x304000 x304001 x304002 ((rd_T54 x304001 x5).f0) ((rd_T54 x304001 x5).f1) ((rd_T54 x304001 x5).f2) ((rd_T54 x304001 x5).f3) ((rd_T54 x304001 x5).f4) ((rd_T54 x304001 x5).f5))) else (none)) else ((counterpaneref02_Put.f k x4).bind fun t316 => (some (t316, 0)))
def counterpaneref33_Answer.j2 : Nat → List Int → Int → Bool → Int → List (S54) → Int → Int → Int → Int → Int → ByteArray → Bool → Option (List Int × Int)
  | 0, _, _, _, _, _, _, _, _, _, _, _, _ => none
  | k + 1, x4, x5, x61, x304000, x304001, x304002, x321000, x321001, x321002, x321003, x321004, x321005 => if x61 = true then (some (([] : List Int), 1)) else ((counterpaneref01_Text.f k x321004 16).bind fun bt321 => (if bt321.2 = 0 then ((counterpaneref01_Put.f k x321001 8).bind fun t325 => (if x4.length + t325.length < 140737488355328 then ((counterpaneref33_four.f k (x4 ++ t325) x321002).bind fun t331 => ((counterpaneref33_four.f k t331 x321003).bind fun t334 => (if t334.length + bt321.1.length < 140737488355328 then (counterpaneref33_Answer.l0 k (t334 ++ bt321.1) (wrap64 (x5 + 1)) x304000 x304001 x304002) else (none)))) else (none))) else (some (([] : List Int), bt321.2))))
end
def counterpaneref33_Answer.f (k : Nat) (a0_0 : Int) (l0_1 : List (S54)) (a0_2 : Int) : Option (List Int × Int) := if a0_0 < 0 then (counterpaneref33_Answer.j0 k true a0_0 l0_1 a0_2) else (if a0_0 > 14 then (counterpaneref33_Answer.j0 k true a0_0 l0_1 a0_2) else (counterpaneref33_Answer.j0 k (decide (a0_2 < 0)) a0_0 l0_1 a0_2))
theorem counterpaneref33_Answer.mono_l : ∀ k, (∀ y0 y1 y2 y3, LeO (counterpaneref33_Answer.j0 k y0 y1 y2 y3) (counterpaneref33_Answer.j0 (k + 1) y0 y1 y2 y3)) ∧ (∀ y0 y1 y2 y3 y4, LeO (counterpaneref33_Answer.l0 k y0 y1 y2 y3 y4) (counterpaneref33_Answer.l0 (k + 1) y0 y1 y2 y3 y4)) ∧ (∀ y0 y1 y2 y3 y4 y5 y6 y7 y8 y9 y10 y11, LeO (counterpaneref33_Answer.j2 k y0 y1 y2 y3 y4 y5 y6 y7 y8 y9 y10 y11) (counterpaneref33_Answer.j2 (k + 1) y0 y1 y2 y3 y4 y5 y6 y7 y8 y9 y10 y11))
  | 0 => ⟨fun _ _ _ _ r h => by simp [counterpaneref33_Answer.j0] at h, fun _ _ _ _ _ r h => by simp [counterpaneref33_Answer.l0] at h, fun _ _ _ _ _ _ _ _ _ _ _ _ r h => by simp [counterpaneref33_Answer.j2] at h⟩
  | k + 1 => by
    obtain ⟨ih0, ih1, ih2⟩ := counterpaneref33_Answer.mono_l k
    refine ⟨?_, ?_, ?_⟩
    · intro y0 y1 y2 y3
      unfold counterpaneref33_Answer.j0
      repeat' first
      | (with_reducible exact ih0 _ _ _ _)
      | (with_reducible exact ih1 _ _ _ _ _)
      | (with_reducible exact ih2 _ _ _ _ _ _ _ _ _ _ _ _)
      | (with_reducible exact counterpaneref01_Put.mono _ _ _)
      | (with_reducible exact counterpaneref01_Text.mono _ _ _)
      | (with_reducible exact counterpaneref02_Put.mono _ _)
      | (with_reducible exact counterpaneref33_four.mono _ _ _)
      | (with_reducible exact LeO.refl _)
      | (with_reducible exact LeO.none _)
      | (with_reducible refine LeO.ite ?_ ?_)
      | (with_reducible refine LeO.bind ?_ (fun _ => ?_))
      | exact ih0 _ _ _ _
      | exact ih1 _ _ _ _ _
      | exact ih2 _ _ _ _ _ _ _ _ _ _ _ _
      | exact counterpaneref01_Put.mono _ _ _
      | exact counterpaneref01_Text.mono _ _ _
      | exact counterpaneref02_Put.mono _ _
      | exact counterpaneref33_four.mono _ _ _
      | exact LeO.none _
      | refine LeO.ite ?_ ?_
      | refine LeO.bind ?_ (fun _ => ?_)
    · intro y0 y1 y2 y3 y4
      unfold counterpaneref33_Answer.l0
      repeat' first
      | (with_reducible exact ih0 _ _ _ _)
      | (with_reducible exact ih1 _ _ _ _ _)
      | (with_reducible exact ih2 _ _ _ _ _ _ _ _ _ _ _ _)
      | (with_reducible exact counterpaneref01_Put.mono _ _ _)
      | (with_reducible exact counterpaneref01_Text.mono _ _ _)
      | (with_reducible exact counterpaneref02_Put.mono _ _)
      | (with_reducible exact counterpaneref33_four.mono _ _ _)
      | (with_reducible exact LeO.refl _)
      | (with_reducible exact LeO.none _)
      | (with_reducible refine LeO.ite ?_ ?_)
      | (with_reducible refine LeO.bind ?_ (fun _ => ?_))
      | exact ih0 _ _ _ _
      | exact ih1 _ _ _ _ _
      | exact ih2 _ _ _ _ _ _ _ _ _ _ _ _
      | exact counterpaneref01_Put.mono _ _ _
      | exact counterpaneref01_Text.mono _ _ _
      | exact counterpaneref02_Put.mono _ _
      | exact counterpaneref33_four.mono _ _ _
      | exact LeO.none _
      | refine LeO.ite ?_ ?_
      | refine LeO.bind ?_ (fun _ => ?_)
    · intro y0 y1 y2 y3 y4 y5 y6 y7 y8 y9 y10 y11
      unfold counterpaneref33_Answer.j2
      repeat' first
      | (with_reducible exact ih0 _ _ _ _)
      | (with_reducible exact ih1 _ _ _ _ _)
      | (with_reducible exact ih2 _ _ _ _ _ _ _ _ _ _ _ _)
      | (with_reducible exact counterpaneref01_Put.mono _ _ _)
      | (with_reducible exact counterpaneref01_Text.mono _ _ _)
      | (with_reducible exact counterpaneref02_Put.mono _ _)
      | (with_reducible exact counterpaneref33_four.mono _ _ _)
      | (with_reducible exact LeO.refl _)
      | (with_reducible exact LeO.none _)
      | (with_reducible refine LeO.ite ?_ ?_)
      | (with_reducible refine LeO.bind ?_ (fun _ => ?_))
      | exact ih0 _ _ _ _
      | exact ih1 _ _ _ _ _
      | exact ih2 _ _ _ _ _ _ _ _ _ _ _ _
      | exact counterpaneref01_Put.mono _ _ _
      | exact counterpaneref01_Text.mono _ _ _
      | exact counterpaneref02_Put.mono _ _
      | exact counterpaneref33_four.mono _ _ _
      | exact LeO.none _
      | refine LeO.ite ?_ ?_
      | refine LeO.bind ?_ (fun _ => ?_)
theorem counterpaneref33_Answer.mono : ∀ a0 a1 a2 k, LeO (counterpaneref33_Answer.f k a0 a1 a2) (counterpaneref33_Answer.f (k + 1) a0 a1 a2) := by
  intro a0 a1 a2 k
  obtain ⟨ih0, ih1, ih2⟩ := counterpaneref33_Answer.mono_l k
  unfold counterpaneref33_Answer.f
  repeat' first
      | (with_reducible exact ih0 _ _ _ _)
      | (with_reducible exact ih1 _ _ _ _ _)
      | (with_reducible exact ih2 _ _ _ _ _ _ _ _ _ _ _ _)
      | (with_reducible exact counterpaneref01_Put.mono _ _ _)
      | (with_reducible exact counterpaneref01_Text.mono _ _ _)
      | (with_reducible exact counterpaneref02_Put.mono _ _)
      | (with_reducible exact counterpaneref33_four.mono _ _ _)
      | (with_reducible exact LeO.refl _)
      | (with_reducible exact LeO.none _)
      | (with_reducible refine LeO.ite ?_ ?_)
      | (with_reducible refine LeO.bind ?_ (fun _ => ?_))
      | exact ih0 _ _ _ _
      | exact ih1 _ _ _ _ _
      | exact ih2 _ _ _ _ _ _ _ _ _ _ _ _
      | exact counterpaneref01_Put.mono _ _ _
      | exact counterpaneref01_Text.mono _ _ _
      | exact counterpaneref02_Put.mono _ _
      | exact counterpaneref33_four.mono _ _ _
      | exact LeO.none _
      | refine LeO.ite ?_ ?_
      | refine LeO.bind ?_ (fun _ => ?_)
def counterpaneref33_Answer.T18 : Bool × List (List Nat × List Nat) := (true, [([], []), ([], []), ([1], [1]), ([0, 2], [0, 2]), ([], []), ([4], [4]), ([3, 5, 3], [3, 5]), ([6, 6, 0, 1, 2, 3, 4, 5, 6], [0, 6])])
def counterpaneref33_Answer.B18 : List Nat := [0, 0, 2, 7, 0, 16, 63, 127]
theorem counterpaneref33_Answer.tab18 : rtab .any (opsOf Try.f12 18) = counterpaneref33_Answer.T18 := by kernel_rfl
theorem counterpaneref33_Answer.bits18 : waitsOk counterpaneref33_Answer.T18.2 counterpaneref33_Answer.B18 = true := by kernel_rfl
set_option maxHeartbeats 8000000 in
set_option maxRecDepth 100000 in
theorem counterpaneref33_Answer.calls (k : Nat) (a0_0 : Int) (A0_1 : Option Addr) (c0_1 : Nat) (l0_1 : List (S54)) (a0_2 : Int) (r1 : List Int) (r2 : Int) (w : World) (hr0_1 : Kd.C k54 w A0_1 l0_1.length l0_1) (hc0_1 : l0_1.length ≤ c0_1) (h : counterpaneref33_Answer.f k a0_0 l0_1 a0_2 = some (r1, r2)) :
    Calls Try.prog 12 #[.agg #[.int .i64 a0_0, .slice A0_1 l0_1.length c0_1, .int .i64 a0_2]] w fun e w' => ∃ v0_ : Value, e = .returned (.tuple #[v0_, .int .i64 r2]) ∧ Kd.R (Kd.int .u8) 5 w' w.heap.size (fun _ => True) v0_ r1 ∧ Below w.heap.size w w' := by
  have hu31 := Try.underlying31
  have hu54 := Try.underlying54
  have HR0_1 := Aside0.mk hr0_1
  have HC0_1 := Aside0.mk hc0_1
  clear hr0_1 hc0_1
  have HB := Aside0.mk (Below.refl w.heap.size w)
  have H : (if a0_0 < 0 then (counterpaneref33_Answer.j0 k true a0_0 l0_1 a0_2) else (if a0_0 > 14 then (counterpaneref33_Answer.j0 k true a0_0 l0_1 a0_2) else (counterpaneref33_Answer.j0 k (decide (a0_2 < 0)) a0_0 l0_1 a0_2))) = some (r1, r2) := h
  clear h
  have HC2 := Aside0.mk H
  clear H
  go_enter Try.func12, Try.ntmps12
  go_upto_region 1 with (first | ((with_reducible refine gate_dst (N := 1) rfl ?_); refine box_event ?hg (N := 1) ?hd (cs := #[.int .i64 a0_0, .slice A0_1 l0_1.length c0_1, .int .i64 a0_2]) (t := 31) ?hr ?_; (case hd => rfl); (case hg => rfl); (case hr => first | (go_simp; done) | (go_simp; rfl)); intro gb303 hg w3 hbox hb; have n0_ := Aside0.mk (below_step (by repeat (first | (with_reducible first | exact HB.out | apply below_alloc | apply pw_below_drewN | apply below_drew1) | exact HB.out)) hb); have n1_ := Aside0.mk (hbox); have n2_ := Aside0.mk ((by rw [hg]; exact (below_size (by repeat (first | (with_reducible first | exact HB.out | apply below_alloc | apply pw_below_drewN | apply below_drew1) | exact HB.out))) : w.heap.size ≤ gb303)); have n3_ := Aside0.mk ((by rw [hg]; exact (below_size (by repeat (first | (with_reducible first | exact HB.out | apply below_alloc | apply pw_below_drewN | apply below_drew1) | exact HB.out))) : w.heap.size ≤ gb303)); clear HB; have HB := n0_; have BK303 := n1_; have GW303 := n2_; have GE303 := n3_; clear n0_ n1_ n2_ n3_; clear hb hbox hg))
  (try simp only [Act.put, List.setIfInBounds_toArray, List.set_cons_zero, List.set_cons_succ])
  go_cut [21] (fun v21 wc => ∃ (kq : Nat) (x21_1 : Bool), v21 = .bool x21_1 ∧ Aside0 (counterpaneref33_Answer.j0 kq x21_1 a0_0 l0_1 a0_2 = some (r1, r2)) ∧ Aside0 (kq ≤ k) ∧ Aside0 (wc.heap[gb303]? = some (.cells #[.int .i64 a0_0, (.slice A0_1 l0_1.length c0_1), .int .i64 a0_2] 31 (0, 0))) ∧ Aside0 (Below w.heap.size w wc))
  case first =>
    have H := HC2.out
    clear HC2
    by_cases c4 : a0_0 < 0
    · rw [if_pos c4] at H
      have c4b0 : decide (a0_0 < 0) = true := decide_eq_true c4
      clear c4
      (first | rw [c4b0] | (simp only [i64_w, i32_w]; rw [c4b0]) | skip)
      have H' := Aside0.mk H
      clear H
      have hcz5_0 : w3.cell? ⟨gb303, 0, none⟩ = some (.int .i64 a0_0) := (blk_cell BK303.out 0).trans rfl
      have hcz5_1 : w3.cell? ⟨gb303, 1, none⟩ = some (.slice A0_1 l0_1.length c0_1) := (blk_cell BK303.out 1).trans rfl
      have hcz5_2 : w3.cell? ⟨gb303, 2, none⟩ = some (.int .i64 a0_2) := (blk_cell BK303.out 2).trans rfl
      have hfz5_0 := blk_frozen BK303.out 0
      have hfz5_1 := blk_frozen BK303.out 1
      have hfz5_2 := blk_frozen BK303.out 2
      go_wp2
      go_meet
      case rel => exact ⟨_, (true), (by first | rfl | (simp; done) | (simp [*]; done)), H', ⟨by first | omega | exact Nat.le_refl _⟩, ⟨by (with_reducible repeat (first | refine blk_drewN ?_ _ | refine blk_drew ?_ | refine blk_alloc ?_ _)); exact BK303.out⟩, ⟨by repeat (first | (with_reducible first | exact HB.out | apply below_alloc | apply pw_below_drewN | apply below_drew1 | refine below_set ?_ GE303.out) | exact HB.out)⟩⟩
    · rw [if_neg c4] at H
      have c4b0 : decide (a0_0 < 0) = false := decide_eq_false c4
      clear c4
      (first | rw [c4b0] | (simp only [i64_w, i32_w]; rw [c4b0]) | skip)
      by_cases c6 : a0_0 > 14
      · rw [if_pos c6] at H
        have c6b0 : decide (14 < a0_0) = true := decide_eq_true c6
        clear c6
        have H' := Aside0.mk H
        clear H
        have hcz7_0 : w3.cell? ⟨gb303, 0, none⟩ = some (.int .i64 a0_0) := (blk_cell BK303.out 0).trans rfl
        have hcz7_1 : w3.cell? ⟨gb303, 1, none⟩ = some (.slice A0_1 l0_1.length c0_1) := (blk_cell BK303.out 1).trans rfl
        have hcz7_2 : w3.cell? ⟨gb303, 2, none⟩ = some (.int .i64 a0_2) := (blk_cell BK303.out 2).trans rfl
        have hfz7_0 := blk_frozen BK303.out 0
        have hfz7_1 := blk_frozen BK303.out 1
        have hfz7_2 := blk_frozen BK303.out 2
        go_wp2
        go_meet
        case rel => exact ⟨_, (true), (by first | rfl | (simp; done) | (simp [*]; done)), H', ⟨by first | omega | exact Nat.le_refl _⟩, ⟨by (with_reducible repeat (first | refine blk_drewN ?_ _ | refine blk_drew ?_ | refine blk_alloc ?_ _)); exact BK303.out⟩, ⟨by repeat (first | (with_reducible first | exact HB.out | apply below_alloc | apply pw_below_drewN | apply below_drew1 | refine below_set ?_ GE303.out) | exact HB.out)⟩⟩
      · rw [if_neg c6] at H
        have c6b0 : decide (14 < a0_0) = false := decide_eq_false c6
        clear c6
        have H' := Aside0.mk H
        clear H
        have hcz8_0 : w3.cell? ⟨gb303, 0, none⟩ = some (.int .i64 a0_0) := (blk_cell BK303.out 0).trans rfl
        have hcz8_1 : w3.cell? ⟨gb303, 1, none⟩ = some (.slice A0_1 l0_1.length c0_1) := (blk_cell BK303.out 1).trans rfl
        have hcz8_2 : w3.cell? ⟨gb303, 2, none⟩ = some (.int .i64 a0_2) := (blk_cell BK303.out 2).trans rfl
        have hfz8_0 := blk_frozen BK303.out 0
        have hfz8_1 := blk_frozen BK303.out 1
        have hfz8_2 := blk_frozen BK303.out 2
        go_wp2
        go_meet
        case rel => exact ⟨_, (decide (a0_2 < 0)), (by first | rfl | (simp; done) | (simp [*]; done)), H', ⟨by first | omega | exact Nat.le_refl _⟩, ⟨by (with_reducible repeat (first | refine blk_drewN ?_ _ | refine blk_drew ?_ | refine blk_alloc ?_ _)); exact BK303.out⟩, ⟨by repeat (first | (with_reducible first | exact HB.out | apply below_alloc | apply pw_below_drewN | apply below_drew1 | refine below_set ?_ GE303.out) | exact HB.out)⟩⟩
  case rest =>
    clear HC2
    try clear c1
    try clear p2
    try clear c4
    try clear c4b0
    try clear c6
    try clear c6b0
    try clear hcz5_0
    try clear hcz5_1
    try clear hcz5_2
    try clear hcz7_0
    try clear hcz7_1
    try clear hcz7_2
    try clear hcz8_0
    try clear hcz8_1
    try clear hcz8_2
    try clear hfz5_0
    try clear hfz5_1
    try clear hfz5_2
    try clear hfz7_0
    try clear hfz7_1
    try clear hfz7_2
    try clear hfz8_0
    try clear hfz8_1
    try clear hfz8_2
    obtain ⟨kq, x21_1, rfl, HA, HJ1, BK303, HB⟩ := hcut
    cases kq with
    | zero => exact absurd HA.out (by simp [counterpaneref33_Answer.j0])
    | succ kj1 =>
      have H := HA.out
      clear HA
      simp only [counterpaneref33_Answer.j0] at H
      by_cases c9 : x21_1 = true
      · subst c9
        have H1 : (some (([] : List Int), 2)) = some (r1, r2) := by rw [if_pos rfl] at H; exact H
        clear H
        have H := H1
        clear H1
        simp only [Option.some.injEq, Prod.mk.injEq] at H
        obtain ⟨rfl, rfl⟩ := H
        go_wp2
        go_ret2
        exact ⟨_, by first | rfl | (simp [errW_none, errW_some] <;> rfl) | (simp [*, errW_none, errW_some] <;> rfl), by first | exact Kd.R_nil _ _ _ _ _ | exact Kd.N_nil _ _ _ _ _ | exact Kd.V_nil _ _ _ _ _ | exact Kd.Q_nil _ _ _ _ _ | exact Kd.S_nil _ _ _ _ _, by repeat (first | (with_reducible first | exact HB.out | apply below_alloc | apply pw_below_drewN | apply below_drew1 | refine below_set ?_ GE303.out) | exact HB.out)⟩
      · replace c9 := Bool.eq_false_iff.mpr c9
        subst c9
        have H1 : (if (l0_1.length : Int) > 200 then (some (([] : List Int), 13)) else ((some (([(a0_0) % 256] : List Int) : List Int)).bind fun y304 => ((counterpaneref01_Put.f kj1 (IntKind.u64.wrap (a0_2)) 8).bind fun t307 => (if y304.length + t307.length < 140737488355328 then ((some (y304 ++ t307 : List Int)).bind fun y310 => (if y310.length < 140737488355328 then (counterpaneref33_Answer.l0 kj1 (y310 ++ [((l0_1.length : Int)) % 256]) 0 a0_0 l0_1 a0_2) else (none))) else (none))))) = some (r1, r2) := by rw [if_neg (show ¬ (false = true) by decide)] at H; exact H
        clear H
        have H := H1
        clear H1
        by_cases c10 : (l0_1.length : Int) > 200
        · rw [if_pos c10] at H
          have c10b0 : decide (200 < (l0_1.length : Int)) = true := decide_eq_true c10
          have c10b1 : decide (200 < l0_1.length) = true := decide_eq_true (by omega)
          clear c10
          simp only [Option.some.injEq, Prod.mk.injEq] at H
          obtain ⟨rfl, rfl⟩ := H
          have hcz11_0 : wc.cell? ⟨gb303, 0, none⟩ = some (.int .i64 a0_0) := (blk_cell BK303.out 0).trans rfl
          have hcz11_1 : wc.cell? ⟨gb303, 1, none⟩ = some (.slice A0_1 l0_1.length c0_1) := (blk_cell BK303.out 1).trans rfl
          have hcz11_2 : wc.cell? ⟨gb303, 2, none⟩ = some (.int .i64 a0_2) := (blk_cell BK303.out 2).trans rfl
          have hfz11_0 := blk_frozen BK303.out 0
          have hfz11_1 := blk_frozen BK303.out 1
          have hfz11_2 := blk_frozen BK303.out 2
          go_wp2
          go_ret2
          exact ⟨_, by first | rfl | (simp [errW_none, errW_some] <;> rfl) | (simp [*, errW_none, errW_some] <;> rfl), by first | exact Kd.R_nil _ _ _ _ _ | exact Kd.N_nil _ _ _ _ _ | exact Kd.V_nil _ _ _ _ _ | exact Kd.Q_nil _ _ _ _ _ | exact Kd.S_nil _ _ _ _ _, by repeat (first | (with_reducible first | exact HB.out | apply below_alloc | apply pw_below_drewN | apply below_drew1 | refine below_set ?_ GE303.out) | exact HB.out)⟩
        · rw [if_neg c10] at H
          have c10b0 : decide (200 < (l0_1.length : Int)) = false := decide_eq_false c10
          have c10b1 : decide (200 < l0_1.length) = false := decide_eq_false (by omega)
          clear c10
          obtain ⟨y304, hy304⟩ : ∃ y_ : List Int, y_ = (([(a0_0) % 256] : List Int)) := ⟨_, rfl⟩
          replace H : ((counterpaneref01_Put.f kj1 (IntKind.u64.wrap (a0_2)) 8).bind fun t307 => (if y304.length + t307.length < 140737488355328 then ((some (y304 ++ t307 : List Int)).bind fun y310 => (if y310.length < 140737488355328 then (counterpaneref33_Answer.l0 kj1 (y310 ++ [((l0_1.length : Int)) % 256]) 0 a0_0 l0_1 a0_2) else (none))) else (none))) = some (r1, r2) := by first | (rw [hy304]; with_reducible exact H) | (have H2_ := (Option.bind_some _ _).symm.trans H; rw [hy304]; with_reducible exact H2_) | (have H2_ := (Option.bind_some _ _).symm.trans H; with_reducible exact H2_) | with_reducible exact H | (rw [hy304]; exact H) | exact H
          have Ny304 := Aside0.mk hy304
          clear hy304
          replace H := Option.bind_eq_some_iff.mp H
          obtain ⟨t307, A120, H⟩ := H
          replace H : (if y304.length + t307.length < 140737488355328 then ((some (y304 ++ t307 : List Int)).bind fun y310 => (if y310.length < 140737488355328 then (counterpaneref33_Answer.l0 kj1 (y310 ++ [((l0_1.length : Int)) % 256]) 0 a0_0 l0_1 a0_2) else (none))) else (none)) = some (r1, r2) := H
          have A12 := Aside0.mk A120
          clear A120
          by_cases c13 : y304.length + t307.length < 140737488355328
          · rw [if_pos c13] at H
            have LMc13 := Aside0.mk c13
            clear c13
            obtain ⟨y310, hy310⟩ : ∃ y_ : List Int, y_ = (y304 ++ t307) := ⟨_, rfl⟩
            replace H : (if y310.length < 140737488355328 then (counterpaneref33_Answer.l0 kj1 (y310 ++ [((l0_1.length : Int)) % 256]) 0 a0_0 l0_1 a0_2) else (none)) = some (r1, r2) := by first | (rw [hy310]; with_reducible exact H) | (have H2_ := (Option.bind_some _ _).symm.trans H; rw [hy310]; with_reducible exact H2_) | (have H2_ := (Option.bind_some _ _).symm.trans H; with_reducible exact H2_) | with_reducible exact H | (rw [hy310]; exact H) | exact H
            have Ny310 := Aside0.mk hy310
            clear hy310
            by_cases c14 : y310.length < 140737488355328
            · rw [if_pos c14] at H
              have LMc14 := Aside0.mk c14
              clear c14
              obtain ⟨y313, hy313⟩ : ∃ y_ : List Int, y_ = (y310 ++ [((l0_1.length : Int)) % 256]) := ⟨_, rfl⟩
              replace H : (counterpaneref33_Answer.l0 kj1 y313 0 a0_0 l0_1 a0_2) = some (r1, r2) := by first | (rw [hy313]; with_reducible exact H) | (have H2_ := (Option.bind_some _ _).symm.trans H; rw [hy313]; with_reducible exact H2_) | (have H2_ := (Option.bind_some _ _).symm.trans H; with_reducible exact H2_) | with_reducible exact H | (rw [hy313]; exact H) | exact H
              have Ny313 := Aside0.mk hy313
              clear hy313
              have H' := Aside0.mk H
              clear H
              have hcz15_0 : wc.cell? ⟨gb303, 0, none⟩ = some (.int .i64 a0_0) := (blk_cell BK303.out 0).trans rfl
              have hcz15_1 : wc.cell? ⟨gb303, 1, none⟩ = some (.slice A0_1 l0_1.length c0_1) := (blk_cell BK303.out 1).trans rfl
              have hcz15_2 : wc.cell? ⟨gb303, 2, none⟩ = some (.int .i64 a0_2) := (blk_cell BK303.out 2).trans rfl
              have hfz15_0 := blk_frozen BK303.out 0
              have hfz15_1 := blk_frozen BK303.out 1
              have hfz15_2 := blk_frozen BK303.out 2
              go_wp2_with (first | ((with_reducible refine gate_dst (N := 29) rfl ?_); refine Kd.R_lit (Kd.int .u8) _ 5 ?hg (N := 29) ?hd (xs := ([(a0_0) % 256] : List Int)) (inner := [.int .u8 ((a0_0) % 256)]) (ok := fun _ => True) (okp := fun _ => True) ?hr ?hp (fun _ hk => hk) trivial (Below.refl _ _) (Nat.le_refl _) (by simp) ?_; (case hd => rfl); (case hg => rfl); (case hr => first | (go_simp; done) | (go_simp; rfl)); (case hp => exact (Reps.one (show Kd.M (Kd.int .u8) _ _ _ ((a0_0) % 256) [.int .u8 ((a0_0) % 256)] from rfl) (Reps.none _ _))); intro v305 w16 ho17 hb hg_ hnew_; clear hg_ hnew_; (first | rw [← Ny304.out] at ho17 | (simp only [Int.reduceToNat] at ho17; rw [← Ny304.out] at ho17)); have n0_ := Aside0.mk (Kd.R_lower ho17 (below_size (by repeat (first | (with_reducible first | exact HB.out | apply below_alloc | apply pw_below_drewN | apply below_drew1 | refine below_set ?_ GE303.out) | exact HB.out)))); have n1_ := Aside0.mk (blk_below (g := gb303) (o := .cells #[.int .i64 a0_0, .slice A0_1 l0_1.length c0_1, .int .i64 a0_2] 31 (0, 0)) (by (with_reducible repeat (first | refine blk_drewN ?_ _ | refine blk_drew ?_ | refine blk_alloc ?_ _)); exact BK303.out) hb); have n2_ := Aside0.mk (below_step (by repeat (first | (with_reducible first | exact HB.out | apply below_alloc | apply pw_below_drewN | apply below_drew1 | refine below_set ?_ GE303.out) | exact HB.out)) hb); clear BK303; clear HB; have HO306 := n0_; have BK303 := n1_; have HB := n2_; clear n0_ n1_ n2_; clear hb ho17; have hcz18_0 : w16.cell? ⟨gb303, 0, none⟩ = some (.int .i64 a0_0) := (blk_cell BK303.out 0).trans rfl; have hcz18_1 : w16.cell? ⟨gb303, 1, none⟩ = some (.slice A0_1 l0_1.length c0_1) := (blk_cell BK303.out 1).trans rfl; have hcz18_2 : w16.cell? ⟨gb303, 2, none⟩ = some (.int .i64 a0_2) := (blk_cell BK303.out 2).trans rfl; have hfz18_0 := blk_frozen BK303.out 0; have hfz18_1 := blk_frozen BK303.out 1; have hfz18_2 := blk_frozen BK303.out 2) | ((with_reducible refine gate_callee (f := 25) rfl ?_); refine goesL_ (some 34) rfl rfl Try.func25 (by kernel_rfl) rfl #[.int .u64 (IntKind.u64.wrap (a0_2)), .int .i64 8] rfl (by (try simp only [List.map_toArray, List.map_cons, List.map_nil]); first | done | rfl | (simp only [List.length_drop, List.length_take]; rfl) | (simp; done)) ?_; (with_reducible refine (counterpaneref01_Put.calls kj1 (IntKind.u64.wrap (a0_2)) 8 t307 _ A12.out).mono ?_); rintro e w19 ⟨v308, rfl, ho0, hb⟩; refine ⟨_, rfl, ?_⟩; have n0_ := Aside0.mk (Kd.R_elder' (by (with_reducible repeat (first | apply Kd.R_alloc | apply Kd.R_drewN | apply Kd.R_drew)); exact HO306.out) (Kd.R_base ho0) hb); have n1_ := Aside0.mk (Kd.R_lower (Kd.R_new' ho0 (Kd.R_lt (by (with_reducible repeat (first | apply Kd.R_alloc | apply Kd.R_drewN | apply Kd.R_drew)); exact HO306.out))) (below_size (by repeat (first | (with_reducible first | exact HB.out | apply below_alloc | apply pw_below_drewN | apply below_drew1 | refine below_set ?_ GE303.out) | exact HB.out)))); have n2_ := Aside0.mk (blk_below (g := gb303) (o := .cells #[.int .i64 a0_0, .slice A0_1 l0_1.length c0_1, .int .i64 a0_2] 31 (0, 0)) (by (with_reducible repeat (first | refine blk_drewN ?_ _ | refine blk_drew ?_ | refine blk_alloc ?_ _)); exact BK303.out) hb); have n3_ := Aside0.mk (below_step (by repeat (first | (with_reducible first | exact HB.out | apply below_alloc | apply pw_below_drewN | apply below_drew1 | refine below_set ?_ GE303.out) | exact HB.out)) hb); clear HO306; clear BK303; clear HB; have HO306 := n0_; have HO309 := n1_; have BK303 := n2_; have HB := n3_; clear n0_ n1_ n2_ n3_; (try clear hb); (try clear hb2); (try clear hk); (try clear hi); (try clear ho0); obtain ⟨Ao21, co21, eo21⟩ := Kd.R_slice HO309.out; subst eo21) | ((with_reducible refine gate_builtin (b := .append) (xs := #[.tmp 30, .tmp 34]) rfl ?_); at_builtin; refine Kd.R_append_rows (Kd.int .u8) (w0 := w) w.heap.size rfl (.tmp 30) (.tmp 34) 34 5 (.int .u8 0) 1 rfl Try.underlying34 info5 rfl (by decide) (by omega) v305 y304 t307 _ _ _ (fun k_ => some k_ ≠ (.slice Ao21 t307.length co21 : Value).ownBlock) (fun _ => False) rfl rfl ?aO ?aR (fun _ _ h => h) (fun _ h => h.elim) ?aF ?aB ?aS ?aL ?_; (case aR => repeat (first | exact (Kd.R_reads' HO309.out).2.2 | (with_reducible refine Kd.C_alloc ?_ _) | (with_reducible refine Kd.C_drewN ?_ _) | (with_reducible refine Kd.C_drew ?_))); (case aB => exact (by repeat (first | (with_reducible first | exact HB.out | apply below_alloc | apply pw_below_drewN | apply below_drew1 | refine below_set ?_ GE303.out) | exact HB.out))); (case aF => exact (fun k_ hk => Kd.fresh' (Kd.R_lt (by (with_reducible repeat (first | apply Kd.R_alloc | apply Kd.R_drewN | apply Kd.R_drew)); exact HO309.out)) k_ hk)); (case aO => exact (by (with_reducible repeat (first | apply Kd.R_alloc | apply Kd.R_drewN | apply Kd.R_drew)); exact Kd.R_mono HO306.out (fun _ hk => hk.2))); (case aS => exact (below_size (by repeat (first | (with_reducible first | exact HB.out | apply below_alloc | apply pw_below_drewN | apply below_drew1 | refine below_set ?_ GE303.out) | exact HB.out)))); (case aL => have := LMc13.out; omega); intro v311 w20 ho hb hg hat; rw [← Ny310.out] at ho; have n0_ := Aside0.mk (blk_grown (g := gb303) (o := .cells #[.int .i64 a0_0, .slice A0_1 l0_1.length c0_1, .int .i64 a0_2] 31 (0, 0)) (by (with_reducible repeat (first | refine blk_drewN ?_ _ | refine blk_drew ?_ | refine blk_alloc ?_ _)); exact BK303.out) hg (Kd.R_ne HO306.out BK303.out (by decide))); have n1_ := Aside0.mk (Kd.R_after (ok := (fun _ => True)) (by (with_reducible repeat (first | apply Kd.R_alloc | apply Kd.R_drewN | apply Kd.R_drew)); exact HO309.out) hg hat); have n2_ := Aside0.mk (hb); have n3_ := Aside0.mk (ho); clear BK303; clear HO309; clear HB; clear HO306; have BK303 := n0_; have HO309 := n1_; have HB := n2_; have HO312 := n3_; clear n0_ n1_ n2_ n3_; clear ho hb hg hat; have hcz22_0 : w20.cell? ⟨gb303, 0, none⟩ = some (.int .i64 a0_0) := (blk_cell BK303.out 0).trans rfl; have hcz22_1 : w20.cell? ⟨gb303, 1, none⟩ = some (.slice A0_1 l0_1.length c0_1) := (blk_cell BK303.out 1).trans rfl; have hcz22_2 : w20.cell? ⟨gb303, 2, none⟩ = some (.int .i64 a0_2) := (blk_cell BK303.out 2).trans rfl; have hfz22_0 := blk_frozen BK303.out 0; have hfz22_1 := blk_frozen BK303.out 1; have hfz22_2 := blk_frozen BK303.out 2) | ((with_reducible refine gate_builtin (b := .append) (xs := #[.tmp 36, .tmp 41]) rfl ?_); at_builtin; refine Kd.R_append (Kd.int .u8) (w0 := w) w.heap.size rfl (.tmp 36) (.tmp 41) 34 5 (.int .u8 0) 1 rfl Try.underlying34 info5 rfl (by decide) (by omega) v311 y310 (((l0_1.length : Int)) % 256) [.int .u8 (((l0_1.length : Int)) % 256)] (fun k_ => some k_ ≠ (.slice Ao21 t307.length co21 : Value).ownBlock) (fun _ => False) rfl rfl ?aP (fun _ hk => hk.elim) ?aF ?aO ?aB ?aS ?aL ?_; (case aP => exact rfl); (case aB => exact (by repeat (first | (with_reducible first | exact HB.out | apply below_alloc | apply pw_below_drewN | apply below_drew1 | refine below_set ?_ GE303.out) | exact HB.out))); (case aF => exact (fun k_ hk => Kd.fresh' (Kd.R_lt (by (with_reducible repeat (first | apply Kd.R_alloc | apply Kd.R_drewN | apply Kd.R_drew)); exact HO309.out)) k_ hk)); (case aO => exact (by (with_reducible repeat (first | apply Kd.R_alloc | apply Kd.R_drewN | apply Kd.R_drew)); exact HO312.out)); (case aS => exact (below_size (by repeat (first | (with_reducible first | exact HB.out | apply below_alloc | apply pw_below_drewN | apply below_drew1 | refine below_set ?_ GE303.out) | exact HB.out)))); (case aL => have := LMc14.out; omega); intro v314 w23 ho hb hg hat; rw [← Ny313.out] at ho; have n0_ := Aside0.mk (blk_grown (g := gb303) (o := .cells #[.int .i64 a0_0, .slice A0_1 l0_1.length c0_1, .int .i64 a0_2] 31 (0, 0)) (by (with_reducible repeat (first | refine blk_drewN ?_ _ | refine blk_drew ?_ | refine blk_alloc ?_ _)); exact BK303.out) hg (Kd.R_ne HO312.out BK303.out (by decide))); have n1_ := Aside0.mk (Kd.R_after (ok := (fun _ => True)) (by (with_reducible repeat (first | apply Kd.R_alloc | apply Kd.R_drewN | apply Kd.R_drew)); exact HO309.out) hg hat); have n2_ := Aside0.mk (hb); have n3_ := Aside0.mk (ho); clear BK303; clear HO309; clear HB; clear HO312; have BK303 := n0_; have HO309 := n1_; have HB := n2_; have HO315 := n3_; clear n0_ n1_ n2_ n3_; clear ho hb hg hat))
              go_loopg [4, 5] kj1 (fun kq v4 v5 w' => ∃ (x4_2 : List Int) (x5_2 : Int), v5 = .int .i64 x5_2 ∧ Aside0 (counterpaneref33_Answer.l0 kq x4_2 x5_2 a0_0 l0_1 a0_2 = some (r1, r2)) ∧ Aside0 (kq ≤ kj1) ∧ Aside0 (Kd.R (Kd.int .u8) 5 w' w.heap.size (fun _ => True) v4 x4_2) ∧ Aside0 (w'.heap[gb303]? = some (.cells #[.int .i64 a0_0, (.slice A0_1 l0_1.length c0_1), .int .i64 a0_2] 31 (0, 0))) ∧ Aside0 (Below w.heap.size w w'))
              case atStart => exact ⟨(y313), (0), (by first | rfl | (simp; done) | (simp [*]; done)), H', ⟨Nat.le_refl _⟩, ⟨by (with_reducible repeat (first | apply Kd.R_alloc | apply Kd.R_drewN | apply Kd.R_drew)); exact Kd.R_mono HO315.out (fun _ hk => trivial)⟩, ⟨by (with_reducible repeat (first | refine blk_drewN ?_ _ | refine blk_drew ?_ | refine blk_alloc ?_ _)); exact BK303.out⟩, ⟨by repeat (first | (with_reducible first | exact HB.out | apply below_alloc | apply pw_below_drewN | apply below_drew1 | refine below_set ?_ GE303.out) | exact HB.out)⟩⟩
              case round =>
                clear H'
                try clear c1
                try clear c2
                try clear p2
                try clear c4
                try clear c4b0
                try clear c6
                try clear c6b0
                try clear c9
                try clear c10
                try clear c10b0
                try clear c10b1
                try clear c12
                try clear c13
                try clear c14
                try clear hcz11_0
                try clear hcz11_1
                try clear hcz11_2
                try clear hcz15_0
                try clear hcz15_1
                try clear hcz15_2
                try clear hcz18_0
                try clear hcz18_1
                try clear hcz18_2
                try clear hcz22_0
                try clear hcz22_1
                try clear hcz22_2
                try clear hcz5_0
                try clear hcz5_1
                try clear hcz5_2
                try clear hcz7_0
                try clear hcz7_1
                try clear hcz7_2
                try clear hcz8_0
                try clear hcz8_1
                try clear hcz8_2
                try clear hfz11_0
                try clear hfz11_1
                try clear hfz11_2
                try clear hfz15_0
                try clear hfz15_1
                try clear hfz15_2
                try clear hfz18_0
                try clear hfz18_1
                try clear hfz18_2
                try clear hfz22_0
                try clear hfz22_1
                try clear hfz22_2
                try clear hfz5_0
                try clear hfz5_1
                try clear hfz5_2
                try clear hfz7_0
                try clear hfz7_1
                try clear hfz7_2
                try clear hfz8_0
                try clear hfz8_1
                try clear hfz8_2
                try clear p2
                obtain ⟨x4_2, x5_2, rfl, HA, HK2, HO_4, BK303, HB⟩ := hrel
                cases gk with
                | zero => exact absurd HA.out (by simp [counterpaneref33_Answer.l0])
                | succ k2 =>
                  have H := HA.out
                  clear HA
                  simp only [counterpaneref33_Answer.l0] at H
                  by_cases c24 : x5_2 < (l0_1.length : Int)
                  · rw [if_pos c24] at H
                    have c24b0 : decide (x5_2 < (l0_1.length : Int)) = true := decide_eq_true c24
                    clear c24
                    by_cases c25 : 0 ≤ x5_2
                    · rw [if_pos c25] at H
                      have c25b0 : decide (0 ≤ x5_2) = true := decide_eq_true c25
                      clear c25
                      have HC26 := Aside0.mk H
                      clear H
                      have hcz27_0 : wr.cell? ⟨gb303, 0, none⟩ = some (.int .i64 a0_0) := (blk_cell BK303.out 0).trans rfl
                      have hcz27_1 : wr.cell? ⟨gb303, 1, none⟩ = some (.slice A0_1 l0_1.length c0_1) := (blk_cell BK303.out 1).trans rfl
                      have hcz27_2 : wr.cell? ⟨gb303, 2, none⟩ = some (.int .i64 a0_2) := (blk_cell BK303.out 2).trans rfl
                      have hfz27_0 := blk_frozen BK303.out 0
                      have hfz27_1 := blk_frozen BK303.out 1
                      have hfz27_2 := blk_frozen BK303.out 2
                      have p319 : 0 ≤ (x5_2 : Int) := of_decide_eq_true (by first | (with_reducible assumption) | assumption)
                      have q319 : x5_2 < (l0_1.length : Int) := of_decide_eq_true (by first | (with_reducible assumption) | assumption)
                      obtain ⟨ad319, e319, hx319_0, hx319_1, hx319_2, hx319_3, hx319_4, hx319_5⟩ := at_T54 HR0_1.out x5_2 p319 q319
                      cases e319
                      replace hx319_0 := (HB.out.cell (World.block_lt_of_cell? w _ hx319_0)).trans hx319_0
                      replace hx319_1 := (HB.out.cell (World.block_lt_of_cell? w _ hx319_1)).trans hx319_1
                      replace hx319_2 := (HB.out.cell (World.block_lt_of_cell? w _ hx319_2)).trans hx319_2
                      replace hx319_3 := (HB.out.cell (World.block_lt_of_cell? w _ hx319_3)).trans hx319_3
                      replace hx319_4 := (HB.out.cell (World.block_lt_of_cell? w _ hx319_4)).trans hx319_4
                      replace hx319_5 := (HB.out.cell (World.block_lt_of_cell? w _ hx319_5)).trans hx319_5
                      replace p319 := eq_true p319
                      replace q319 := eq_true q319
                      go_upto_region 12 with (first | ((with_reducible refine gate_dst (N := 6) rfl ?_); refine box_event ?hg (N := 6) ?hd (cs := #[.int .u64 0, .int .u64 0, .int .u32 0, .int .u32 0, .string (⟨#[]⟩ : ByteArray), .bool false]) (t := 54) ?hr ?_; (case hd => rfl); (case hg => rfl); (case hr => first | (go_simp; done) | (go_simp; rfl)); intro gb320 hg w28 hbox hb; have n0_ := Aside0.mk (Kd.R_below (by (with_reducible repeat (first | apply Kd.R_alloc | apply Kd.R_drewN | apply Kd.R_drew)); exact HO_4.out) hb); have n1_ := Aside0.mk (blk_below (g := gb303) (o := .cells #[.int .i64 a0_0, .slice (some ad319) l0_1.length c0_1, .int .i64 a0_2] 31 (0, 0)) (by (with_reducible repeat (first | refine blk_drewN ?_ _ | refine blk_drew ?_ | refine blk_alloc ?_ _)); exact BK303.out) hb); have n2_ := Aside0.mk (below_step (by repeat (first | (with_reducible first | exact HB.out | apply below_alloc | apply pw_below_drewN | apply below_drew1 | refine below_set ?_ GE303.out) | exact HB.out)) hb); have n3_ := Aside0.mk (hbox); have n4_ := Aside0.mk ((by rw [hg]; exact (below_size (by repeat (first | (with_reducible first | exact HB.out | apply below_alloc | apply pw_below_drewN | apply below_drew1 | refine below_set ?_ GE303.out) | exact HB.out))) : w.heap.size ≤ gb320)); have n5_ := Aside0.mk ((by rw [hg]; exact (below_size (by repeat (first | (with_reducible first | exact HB.out | apply below_alloc | apply pw_below_drewN | apply below_drew1 | refine below_set ?_ GE303.out) | exact HB.out))) : w.heap.size ≤ gb320)); have n6_ := Aside0.mk ((by rw [hg]; exact Nat.ne_of_lt (blk_lt (g := gb303) (o := .cells #[.int .i64 a0_0, .slice (some ad319) l0_1.length c0_1, .int .i64 a0_2] 31 (0, 0)) (by (with_reducible repeat (first | refine blk_drewN ?_ _ | refine blk_drew ?_ | refine blk_alloc ?_ _)); exact BK303.out)) : gb303 ≠ gb320)); have n7_ := Aside0.mk ((by rw [hg]; exact Nat.ne_of_gt (blk_lt (g := gb303) (o := .cells #[.int .i64 a0_0, .slice (some ad319) l0_1.length c0_1, .int .i64 a0_2] 31 (0, 0)) (by (with_reducible repeat (first | refine blk_drewN ?_ _ | refine blk_drew ?_ | refine blk_alloc ?_ _)); exact BK303.out)) : gb320 ≠ gb303)); clear HO_4; clear BK303; clear HB; have HO_4 := n0_; have BK303 := n1_; have HB := n2_; have BK320 := n3_; have GW320 := n4_; have GE320 := n5_; have NB303_320 := n6_; have NB320_303 := n7_; clear n0_ n1_ n2_ n3_ n4_ n5_ n6_ n7_; clear hb hbox hg; have hnb29 := NB320_303.out; have hnc29 := NB303_320.out; have hcz30_0 : w28.cell? ⟨gb320, 0, none⟩ = some (.int .u64 0) := (blk_cell BK320.out 0).trans rfl; have hcz30_1 : w28.cell? ⟨gb320, 1, none⟩ = some (.int .u64 0) := (blk_cell BK320.out 1).trans rfl; have hcz30_2 : w28.cell? ⟨gb320, 2, none⟩ = some (.int .u32 0) := (blk_cell BK320.out 2).trans rfl; have hcz30_3 : w28.cell? ⟨gb320, 3, none⟩ = some (.int .u32 0) := (blk_cell BK320.out 3).trans rfl; have hcz30_4 : w28.cell? ⟨gb320, 4, none⟩ = some (.string (⟨#[]⟩ : ByteArray)) := (blk_cell BK320.out 4).trans rfl; have hcz30_5 : w28.cell? ⟨gb320, 5, none⟩ = some (.bool false) := (blk_cell BK320.out 5).trans rfl; have hfz30_0 := blk_frozen BK320.out 0; have hfz30_1 := blk_frozen BK320.out 1; have hfz30_2 := blk_frozen BK320.out 2; have hfz30_3 := blk_frozen BK320.out 3; have hfz30_4 := blk_frozen BK320.out 4; have hfz30_5 := blk_frozen BK320.out 5))
                      (try simp only [Act.put, List.setIfInBounds_toArray, List.set_cons_zero, List.set_cons_succ])
                      go_cut [61] (fun v61 wc => ∃ (kq : Nat) (x61_25 : Bool), v61 = .bool x61_25 ∧ Aside0 (counterpaneref33_Answer.j2 kq x4_2 x5_2 x61_25 a0_0 l0_1 a0_2 ((rd_T54 l0_1 x5_2).f0) ((rd_T54 l0_1 x5_2).f1) ((rd_T54 l0_1 x5_2).f2) ((rd_T54 l0_1 x5_2).f3) ((rd_T54 l0_1 x5_2).f4) ((rd_T54 l0_1 x5_2).f5) = some (r1, r2)) ∧ Aside0 (kq ≤ k2) ∧ Aside0 (Kd.R (Kd.int .u8) 5 wc w.heap.size (fun _ => True) u4 x4_2) ∧ Aside0 (wc.heap[gb303]? = some (.cells #[.int .i64 a0_0, (.slice (some ad319) l0_1.length c0_1), .int .i64 a0_2] 31 (0, 0))) ∧ Aside0 (wc.heap[gb320]? = some (.cells #[.int .u64 ((rd_T54 l0_1 x5_2).f0), .int .u64 ((rd_T54 l0_1 x5_2).f1), .int .u32 ((rd_T54 l0_1 x5_2).f2), .int .u32 ((rd_T54 l0_1 x5_2).f3), .string ((rd_T54 l0_1 x5_2).f4), .bool ((rd_T54 l0_1 x5_2).f5)] 54 (0, 0))) ∧ Aside0 (Below w.heap.size w wc))
                      case first =>
                        have H := HC26.out
                        clear HC26
                        by_cases c31 : ((rd_T54 l0_1 x5_2).f0) = 0
                        · rw [if_pos c31] at H
                          have c31b0 : (((rd_T54 l0_1 x5_2).f0) == 0) = true := beq_iff_eq.mpr c31
                          have c31b1 : (((rd_T54 l0_1 x5_2).f0) != 0) = false := bne_eq_false_iff_eq.mpr c31
                          clear c31
                          (first | rw [c31b0] | (simp only [i64_w, i32_w]; rw [c31b0]) | skip)
                          have H' := Aside0.mk H
                          clear H
                          have hnb32 := NB320_303.out
                          have hnc32 := NB303_320.out
                          have hcz33_0 : w28.cell? ⟨gb320, 0, none⟩ = some (.int .u64 0) := (blk_cell BK320.out 0).trans rfl
                          have hcz33_1 : w28.cell? ⟨gb320, 1, none⟩ = some (.int .u64 0) := (blk_cell BK320.out 1).trans rfl
                          have hcz33_2 : w28.cell? ⟨gb320, 2, none⟩ = some (.int .u32 0) := (blk_cell BK320.out 2).trans rfl
                          have hcz33_3 : w28.cell? ⟨gb320, 3, none⟩ = some (.int .u32 0) := (blk_cell BK320.out 3).trans rfl
                          have hcz33_4 : w28.cell? ⟨gb320, 4, none⟩ = some (.string (⟨#[]⟩ : ByteArray)) := (blk_cell BK320.out 4).trans rfl
                          have hcz33_5 : w28.cell? ⟨gb320, 5, none⟩ = some (.bool false) := (blk_cell BK320.out 5).trans rfl
                          have hfz33_0 := blk_frozen BK320.out 0
                          have hfz33_1 := blk_frozen BK320.out 1
                          have hfz33_2 := blk_frozen BK320.out 2
                          have hfz33_3 := blk_frozen BK320.out 3
                          have hfz33_4 := blk_frozen BK320.out 4
                          have hfz33_5 := blk_frozen BK320.out 5
                          go_wp2
                          go_meet
                          case rel => exact ⟨_, ((rd_T54 l0_1 x5_2).f5), (by first | rfl | (simp; done) | (simp [*]; done)), H', ⟨by have := HJ1.out; have := HK2.out; first | omega | exact Nat.le_refl _⟩, ⟨by (with_reducible repeat (first | apply Kd.R_alloc | apply Kd.R_drewN | apply Kd.R_drew)); exact Kd.R_mono (Kd.R_far (p := ⟨gb320, 5, none⟩) (Kd.R_far (p := ⟨gb320, 4, none⟩) (Kd.R_far (p := ⟨gb320, 3, none⟩) (Kd.R_far (p := ⟨gb320, 2, none⟩) (Kd.R_far (p := ⟨gb320, 1, none⟩) (Kd.R_far (p := ⟨gb320, 0, none⟩) (Kd.R_types HO_4.out BK320.out (by decide)) (fun _ hk => hk.2) (.int .u64 ((rd_T54 l0_1 x5_2).f0))) (fun _ hk => hk.2) (.int .u64 ((rd_T54 l0_1 x5_2).f1))) (fun _ hk => hk.2) (.int .u32 ((rd_T54 l0_1 x5_2).f2))) (fun _ hk => hk.2) (.int .u32 ((rd_T54 l0_1 x5_2).f3))) (fun _ hk => hk.2) (.string ((rd_T54 l0_1 x5_2).f4))) (fun _ hk => hk.2) (.bool ((rd_T54 l0_1 x5_2).f5))) (fun _ hk => trivial)⟩, ⟨by (with_reducible repeat (first | refine blk_drewN ?_ _ | refine blk_drew ?_ | refine blk_alloc ?_ _)); refine blk_far ?_ NB303_320.out _; (with_reducible repeat (first | refine blk_drewN ?_ _ | refine blk_drew ?_ | refine blk_alloc ?_ _)); refine blk_far ?_ NB303_320.out _; (with_reducible repeat (first | refine blk_drewN ?_ _ | refine blk_drew ?_ | refine blk_alloc ?_ _)); refine blk_far ?_ NB303_320.out _; (with_reducible repeat (first | refine blk_drewN ?_ _ | refine blk_drew ?_ | refine blk_alloc ?_ _)); refine blk_far ?_ NB303_320.out _; (with_reducible repeat (first | refine blk_drewN ?_ _ | refine blk_drew ?_ | refine blk_alloc ?_ _)); refine blk_far ?_ NB303_320.out _; (with_reducible repeat (first | refine blk_drewN ?_ _ | refine blk_drew ?_ | refine blk_alloc ?_ _)); refine blk_far ?_ NB303_320.out _; (with_reducible repeat (first | refine blk_drewN ?_ _ | refine blk_drew ?_ | refine blk_alloc ?_ _)); exact BK303.out⟩, ⟨by (with_reducible repeat (first | refine blk_drewN ?_ _ | refine blk_drew ?_ | refine blk_alloc ?_ _)); refine blk_put (cs := #[.int .u64 ((rd_T54 l0_1 x5_2).f0), .int .u64 ((rd_T54 l0_1 x5_2).f1), .int .u32 ((rd_T54 l0_1 x5_2).f2), .int .u32 ((rd_T54 l0_1 x5_2).f3), .string ((rd_T54 l0_1 x5_2).f4), .bool false]) ?_ 5 _ (by first | rfl | simp); (with_reducible repeat (first | refine blk_drewN ?_ _ | refine blk_drew ?_ | refine blk_alloc ?_ _)); refine blk_put (cs := #[.int .u64 ((rd_T54 l0_1 x5_2).f0), .int .u64 ((rd_T54 l0_1 x5_2).f1), .int .u32 ((rd_T54 l0_1 x5_2).f2), .int .u32 ((rd_T54 l0_1 x5_2).f3), .string (⟨#[]⟩ : ByteArray), .bool false]) ?_ 4 _ (by first | rfl | simp); (with_reducible repeat (first | refine blk_drewN ?_ _ | refine blk_drew ?_ | refine blk_alloc ?_ _)); refine blk_put (cs := #[.int .u64 ((rd_T54 l0_1 x5_2).f0), .int .u64 ((rd_T54 l0_1 x5_2).f1), .int .u32 ((rd_T54 l0_1 x5_2).f2), .int .u32 0, .string (⟨#[]⟩ : ByteArray), .bool false]) ?_ 3 _ (by first | rfl | simp); (with_reducible repeat (first | refine blk_drewN ?_ _ | refine blk_drew ?_ | refine blk_alloc ?_ _)); refine blk_put (cs := #[.int .u64 ((rd_T54 l0_1 x5_2).f0), .int .u64 ((rd_T54 l0_1 x5_2).f1), .int .u32 0, .int .u32 0, .string (⟨#[]⟩ : ByteArray), .bool false]) ?_ 2 _ (by first | rfl | simp); (with_reducible repeat (first | refine blk_drewN ?_ _ | refine blk_drew ?_ | refine blk_alloc ?_ _)); refine blk_put (cs := #[.int .u64 ((rd_T54 l0_1 x5_2).f0), .int .u64 0, .int .u32 0, .int .u32 0, .string (⟨#[]⟩ : ByteArray), .bool false]) ?_ 1 _ (by first | rfl | simp); (with_reducible repeat (first | refine blk_drewN ?_ _ | refine blk_drew ?_ | refine blk_alloc ?_ _)); refine blk_put (cs := #[.int .u64 0, .int .u64 0, .int .u32 0, .int .u32 0, .string (⟨#[]⟩ : ByteArray), .bool false]) ?_ 0 _ (by first | rfl | simp); (with_reducible repeat (first | refine blk_drewN ?_ _ | refine blk_drew ?_ | refine blk_alloc ?_ _)); exact BK320.out⟩, ⟨by repeat (first | (with_reducible first | exact HB.out | apply below_alloc | apply pw_below_drewN | apply below_drew1 | refine below_set ?_ GE303.out | refine below_set ?_ GE320.out) | exact HB.out)⟩⟩
                        · rw [if_neg c31] at H
                          have c31b0 : (((rd_T54 l0_1 x5_2).f0) == 0) = false := beq_eq_false_iff_ne.mpr c31
                          have c31b1 : (((rd_T54 l0_1 x5_2).f0) != 0) = true := bne_iff_ne.mpr c31
                          (first | rw [c31b0] | (simp only [i64_w, i32_w]; rw [c31b0]) | skip)
                          have H' := Aside0.mk H
                          clear H
                          have hnb34 := NB320_303.out
                          have hnc34 := NB303_320.out
                          have hcz35_0 : w28.cell? ⟨gb320, 0, none⟩ = some (.int .u64 0) := (blk_cell BK320.out 0).trans rfl
                          have hcz35_1 : w28.cell? ⟨gb320, 1, none⟩ = some (.int .u64 0) := (blk_cell BK320.out 1).trans rfl
                          have hcz35_2 : w28.cell? ⟨gb320, 2, none⟩ = some (.int .u32 0) := (blk_cell BK320.out 2).trans rfl
                          have hcz35_3 : w28.cell? ⟨gb320, 3, none⟩ = some (.int .u32 0) := (blk_cell BK320.out 3).trans rfl
                          have hcz35_4 : w28.cell? ⟨gb320, 4, none⟩ = some (.string (⟨#[]⟩ : ByteArray)) := (blk_cell BK320.out 4).trans rfl
                          have hcz35_5 : w28.cell? ⟨gb320, 5, none⟩ = some (.bool false) := (blk_cell BK320.out 5).trans rfl
                          have hfz35_0 := blk_frozen BK320.out 0
                          have hfz35_1 := blk_frozen BK320.out 1
                          have hfz35_2 := blk_frozen BK320.out 2
                          have hfz35_3 := blk_frozen BK320.out 3
                          have hfz35_4 := blk_frozen BK320.out 4
                          have hfz35_5 := blk_frozen BK320.out 5
                          go_wp2
                          go_meet
                          case rel => exact ⟨_, (true), (by first | rfl | (simp; done) | (simp [*]; done)), H', ⟨by have := HJ1.out; have := HK2.out; first | omega | exact Nat.le_refl _⟩, ⟨by (with_reducible repeat (first | apply Kd.R_alloc | apply Kd.R_drewN | apply Kd.R_drew)); exact Kd.R_mono (Kd.R_far (p := ⟨gb320, 5, none⟩) (Kd.R_far (p := ⟨gb320, 4, none⟩) (Kd.R_far (p := ⟨gb320, 3, none⟩) (Kd.R_far (p := ⟨gb320, 2, none⟩) (Kd.R_far (p := ⟨gb320, 1, none⟩) (Kd.R_far (p := ⟨gb320, 0, none⟩) (Kd.R_types HO_4.out BK320.out (by decide)) (fun _ hk => hk.2) (.int .u64 ((rd_T54 l0_1 x5_2).f0))) (fun _ hk => hk.2) (.int .u64 ((rd_T54 l0_1 x5_2).f1))) (fun _ hk => hk.2) (.int .u32 ((rd_T54 l0_1 x5_2).f2))) (fun _ hk => hk.2) (.int .u32 ((rd_T54 l0_1 x5_2).f3))) (fun _ hk => hk.2) (.string ((rd_T54 l0_1 x5_2).f4))) (fun _ hk => hk.2) (.bool ((rd_T54 l0_1 x5_2).f5))) (fun _ hk => trivial)⟩, ⟨by (with_reducible repeat (first | refine blk_drewN ?_ _ | refine blk_drew ?_ | refine blk_alloc ?_ _)); refine blk_far ?_ NB303_320.out _; (with_reducible repeat (first | refine blk_drewN ?_ _ | refine blk_drew ?_ | refine blk_alloc ?_ _)); refine blk_far ?_ NB303_320.out _; (with_reducible repeat (first | refine blk_drewN ?_ _ | refine blk_drew ?_ | refine blk_alloc ?_ _)); refine blk_far ?_ NB303_320.out _; (with_reducible repeat (first | refine blk_drewN ?_ _ | refine blk_drew ?_ | refine blk_alloc ?_ _)); refine blk_far ?_ NB303_320.out _; (with_reducible repeat (first | refine blk_drewN ?_ _ | refine blk_drew ?_ | refine blk_alloc ?_ _)); refine blk_far ?_ NB303_320.out _; (with_reducible repeat (first | refine blk_drewN ?_ _ | refine blk_drew ?_ | refine blk_alloc ?_ _)); refine blk_far ?_ NB303_320.out _; (with_reducible repeat (first | refine blk_drewN ?_ _ | refine blk_drew ?_ | refine blk_alloc ?_ _)); exact BK303.out⟩, ⟨by (with_reducible repeat (first | refine blk_drewN ?_ _ | refine blk_drew ?_ | refine blk_alloc ?_ _)); refine blk_put (cs := #[.int .u64 ((rd_T54 l0_1 x5_2).f0), .int .u64 ((rd_T54 l0_1 x5_2).f1), .int .u32 ((rd_T54 l0_1 x5_2).f2), .int .u32 ((rd_T54 l0_1 x5_2).f3), .string ((rd_T54 l0_1 x5_2).f4), .bool false]) ?_ 5 _ (by first | rfl | simp); (with_reducible repeat (first | refine blk_drewN ?_ _ | refine blk_drew ?_ | refine blk_alloc ?_ _)); refine blk_put (cs := #[.int .u64 ((rd_T54 l0_1 x5_2).f0), .int .u64 ((rd_T54 l0_1 x5_2).f1), .int .u32 ((rd_T54 l0_1 x5_2).f2), .int .u32 ((rd_T54 l0_1 x5_2).f3), .string (⟨#[]⟩ : ByteArray), .bool false]) ?_ 4 _ (by first | rfl | simp); (with_reducible repeat (first | refine blk_drewN ?_ _ | refine blk_drew ?_ | refine blk_alloc ?_ _)); refine blk_put (cs := #[.int .u64 ((rd_T54 l0_1 x5_2).f0), .int .u64 ((rd_T54 l0_1 x5_2).f1), .int .u32 ((rd_T54 l0_1 x5_2).f2), .int .u32 0, .string (⟨#[]⟩ : ByteArray), .bool false]) ?_ 3 _ (by first | rfl | simp); (with_reducible repeat (first | refine blk_drewN ?_ _ | refine blk_drew ?_ | refine blk_alloc ?_ _)); refine blk_put (cs := #[.int .u64 ((rd_T54 l0_1 x5_2).f0), .int .u64 ((rd_T54 l0_1 x5_2).f1), .int .u32 0, .int .u32 0, .string (⟨#[]⟩ : ByteArray), .bool false]) ?_ 2 _ (by first | rfl | simp); (with_reducible repeat (first | refine blk_drewN ?_ _ | refine blk_drew ?_ | refine blk_alloc ?_ _)); refine blk_put (cs := #[.int .u64 ((rd_T54 l0_1 x5_2).f0), .int .u64 0, .int .u32 0, .int .u32 0, .string (⟨#[]⟩ : ByteArray), .bool false]) ?_ 1 _ (by first | rfl | simp); (with_reducible repeat (first | refine blk_drewN ?_ _ | refine blk_drew ?_ | refine blk_alloc ?_ _)); refine blk_put (cs := #[.int .u64 0, .int .u64 0, .int .u32 0, .int .u32 0, .string (⟨#[]⟩ : ByteArray), .bool false]) ?_ 0 _ (by first | rfl | simp); (with_reducible repeat (first | refine blk_drewN ?_ _ | refine blk_drew ?_ | refine blk_alloc ?_ _)); exact BK320.out⟩, ⟨by repeat (first | (with_reducible first | exact HB.out | apply below_alloc | apply pw_below_drewN | apply below_drew1 | refine below_set ?_ GE303.out | refine below_set ?_ GE320.out) | exact HB.out)⟩⟩
                      case rest =>
                        clear HC26
                        try clear c1
                        try clear c2
                        try clear p2
                        try clear c3
                        try clear p3
                        try clear q3
                        try clear hx3
                        try clear c4
                        try clear c4b0
                        try clear c6
                        try clear c6b0
                        try clear c9
                        try clear c10
                        try clear c10b0
                        try clear c10b1
                        try clear c12
                        try clear c13
                        try clear c14
                        try clear c24
                        try clear c24b0
                        try clear c25
                        try clear c25b0
                        try clear c29
                        try clear c31
                        try clear c31b0
                        try clear c31b1
                        try clear p31
                        try clear q31
                        try clear hx31
                        try clear c32
                        try clear c34
                        try clear hcz11_0
                        try clear hcz11_1
                        try clear hcz11_2
                        try clear hcz15_0
                        try clear hcz15_1
                        try clear hcz15_2
                        try clear hcz18_0
                        try clear hcz18_1
                        try clear hcz18_2
                        try clear hcz22_0
                        try clear hcz22_1
                        try clear hcz22_2
                        try clear hcz27_0
                        try clear hcz27_1
                        try clear hcz27_2
                        try clear hcz30_0
                        try clear hcz30_1
                        try clear hcz30_2
                        try clear hcz30_3
                        try clear hcz30_4
                        try clear hcz30_5
                        try clear hcz33_0
                        try clear hcz33_1
                        try clear hcz33_2
                        try clear hcz33_3
                        try clear hcz33_4
                        try clear hcz33_5
                        try clear hcz35_0
                        try clear hcz35_1
                        try clear hcz35_2
                        try clear hcz35_3
                        try clear hcz35_4
                        try clear hcz35_5
                        try clear hcz5_0
                        try clear hcz5_1
                        try clear hcz5_2
                        try clear hcz7_0
                        try clear hcz7_1
                        try clear hcz7_2
                        try clear hcz8_0
                        try clear hcz8_1
                        try clear hcz8_2
                        try clear hfz11_0
                        try clear hfz11_1
                        try clear hfz11_2
                        try clear hfz15_0
                        try clear hfz15_1
                        try clear hfz15_2
                        try clear hfz18_0
                        try clear hfz18_1
                        try clear hfz18_2
                        try clear hfz22_0
                        try clear hfz22_1
                        try clear hfz22_2
                        try clear hfz27_0
                        try clear hfz27_1
                        try clear hfz27_2
                        try clear hfz30_0
                        try clear hfz30_1
                        try clear hfz30_2
                        try clear hfz30_3
                        try clear hfz30_4
                        try clear hfz30_5
                        try clear hfz33_0
                        try clear hfz33_1
                        try clear hfz33_2
                        try clear hfz33_3
                        try clear hfz33_4
                        try clear hfz33_5
                        try clear hfz35_0
                        try clear hfz35_1
                        try clear hfz35_2
                        try clear hfz35_3
                        try clear hfz35_4
                        try clear hfz35_5
                        try clear hfz5_0
                        try clear hfz5_1
                        try clear hfz5_2
                        try clear hfz7_0
                        try clear hfz7_1
                        try clear hfz7_2
                        try clear hfz8_0
                        try clear hfz8_1
                        try clear hfz8_2
                        try clear hx319_0
                        try clear hx319_1
                        try clear hx319_2
                        try clear hx319_3
                        try clear hx319_4
                        try clear hx319_5
                        try clear p2
                        try clear p319
                        try clear q319
                        obtain ⟨kq, x61_25, rfl, HA, HJ25, HO_4, BK303, BK320, HB⟩ := hcut
                        cases kq with
                        | zero => exact absurd HA.out (by simp [counterpaneref33_Answer.j2])
                        | succ kj25 =>
                          have H := HA.out
                          clear HA
                          simp only [counterpaneref33_Answer.j2] at H
                          by_cases c36 : x61_25 = true
                          · subst c36
                            have H1 : (some (([] : List Int), 1)) = some (r1, r2) := by rw [if_pos rfl] at H; exact H
                            clear H
                            have H := H1
                            clear H1
                            simp only [Option.some.injEq, Prod.mk.injEq] at H
                            obtain ⟨rfl, rfl⟩ := H
                            go_wp2
                            go_ret2
                            exact ⟨_, by first | rfl | (simp [errW_none, errW_some] <;> rfl) | (simp [*, errW_none, errW_some] <;> rfl), by first | exact Kd.R_nil _ _ _ _ _ | exact Kd.N_nil _ _ _ _ _ | exact Kd.V_nil _ _ _ _ _ | exact Kd.Q_nil _ _ _ _ _ | exact Kd.S_nil _ _ _ _ _, by repeat (first | (with_reducible first | exact HB.out | apply below_alloc | apply pw_below_drewN | apply below_drew1 | refine below_set ?_ GE303.out | refine below_set ?_ GE320.out) | exact HB.out)⟩
                          · replace c36 := Bool.eq_false_iff.mpr c36
                            subst c36
                            have H1 : ((counterpaneref01_Text.f kj25 ((rd_T54 l0_1 x5_2).f4) 16).bind fun bt321 => (if bt321.2 = 0 then ((counterpaneref01_Put.f kj25 ((rd_T54 l0_1 x5_2).f1) 8).bind fun t325 => (if x4_2.length + t325.length < 140737488355328 then ((counterpaneref33_four.f kj25 (x4_2 ++ t325) ((rd_T54 l0_1 x5_2).f2)).bind fun t331 => ((counterpaneref33_four.f kj25 t331 ((rd_T54 l0_1 x5_2).f3)).bind fun t334 => (if t334.length + bt321.1.length < 140737488355328 then (counterpaneref33_Answer.l0 kj25 (t334 ++ bt321.1) (wrap64 (x5_2 + 1)) a0_0 l0_1 a0_2) else (none)))) else (none))) else (some (([] : List Int), bt321.2)))) = some (r1, r2) := by rw [if_neg (show ¬ (false = true) by decide)] at H; exact H
                            clear H
                            have H := H1
                            clear H1
                            replace H := Option.bind_eq_some_iff.mp H
                            obtain ⟨⟨t321, t322⟩, A370, H⟩ := H
                            replace H : (if t322 = 0 then ((counterpaneref01_Put.f kj25 ((rd_T54 l0_1 x5_2).f1) 8).bind fun t325 => (if x4_2.length + t325.length < 140737488355328 then ((counterpaneref33_four.f kj25 (x4_2 ++ t325) ((rd_T54 l0_1 x5_2).f2)).bind fun t331 => ((counterpaneref33_four.f kj25 t331 ((rd_T54 l0_1 x5_2).f3)).bind fun t334 => (if t334.length + t321.length < 140737488355328 then (counterpaneref33_Answer.l0 kj25 (t334 ++ t321) (wrap64 (x5_2 + 1)) a0_0 l0_1 a0_2) else (none)))) else (none))) else (some (([] : List Int), t322))) = some (r1, r2) := H
                            have A37 := Aside0.mk A370
                            clear A370
                            by_cases c38 : t322 = 0
                            · rw [if_pos c38] at H
                              have c38b0 : (t322 == 0) = true := beq_iff_eq.mpr c38
                              have c38b1 : (t322 != 0) = false := bne_eq_false_iff_eq.mpr c38
                              clear c38
                              replace H := Option.bind_eq_some_iff.mp H
                              obtain ⟨t325, A390, H⟩ := H
                              replace H : (if x4_2.length + t325.length < 140737488355328 then ((counterpaneref33_four.f kj25 (x4_2 ++ t325) ((rd_T54 l0_1 x5_2).f2)).bind fun t331 => ((counterpaneref33_four.f kj25 t331 ((rd_T54 l0_1 x5_2).f3)).bind fun t334 => (if t334.length + t321.length < 140737488355328 then (counterpaneref33_Answer.l0 kj25 (t334 ++ t321) (wrap64 (x5_2 + 1)) a0_0 l0_1 a0_2) else (none)))) else (none)) = some (r1, r2) := H
                              have A39 := Aside0.mk A390
                              clear A390
                              by_cases c40 : x4_2.length + t325.length < 140737488355328
                              · rw [if_pos c40] at H
                                have LMc40 := Aside0.mk c40
                                clear c40
                                obtain ⟨y328, hy328⟩ : ∃ y_ : List Int, y_ = (x4_2 ++ t325) := ⟨_, rfl⟩
                                replace H : ((counterpaneref33_four.f kj25 y328 ((rd_T54 l0_1 x5_2).f2)).bind fun t331 => ((counterpaneref33_four.f kj25 t331 ((rd_T54 l0_1 x5_2).f3)).bind fun t334 => (if t334.length + t321.length < 140737488355328 then (counterpaneref33_Answer.l0 kj25 (t334 ++ t321) (wrap64 (x5_2 + 1)) a0_0 l0_1 a0_2) else (none)))) = some (r1, r2) := by first | (rw [hy328]; with_reducible exact H) | (have H2_ := (Option.bind_some _ _).symm.trans H; rw [hy328]; with_reducible exact H2_) | (have H2_ := (Option.bind_some _ _).symm.trans H; with_reducible exact H2_) | with_reducible exact H | (rw [hy328]; exact H) | exact H
                                have Ny328 := Aside0.mk hy328
                                clear hy328
                                replace H := Option.bind_eq_some_iff.mp H
                                obtain ⟨t331, A410, H⟩ := H
                                replace H : ((counterpaneref33_four.f kj25 t331 ((rd_T54 l0_1 x5_2).f3)).bind fun t334 => (if t334.length + t321.length < 140737488355328 then (counterpaneref33_Answer.l0 kj25 (t334 ++ t321) (wrap64 (x5_2 + 1)) a0_0 l0_1 a0_2) else (none))) = some (r1, r2) := H
                                have A41 := Aside0.mk A410
                                clear A410
                                replace H := Option.bind_eq_some_iff.mp H
                                obtain ⟨t334, A420, H⟩ := H
                                replace H : (if t334.length + t321.length < 140737488355328 then (counterpaneref33_Answer.l0 kj25 (t334 ++ t321) (wrap64 (x5_2 + 1)) a0_0 l0_1 a0_2) else (none)) = some (r1, r2) := H
                                have A42 := Aside0.mk A420
                                clear A420
                                by_cases c43 : t334.length + t321.length < 140737488355328
                                · rw [if_pos c43] at H
                                  have LMc43 := Aside0.mk c43
                                  clear c43
                                  obtain ⟨y337, hy337⟩ : ∃ y_ : List Int, y_ = (t334 ++ t321) := ⟨_, rfl⟩
                                  replace H : (counterpaneref33_Answer.l0 kj25 y337 (wrap64 (x5_2 + 1)) a0_0 l0_1 a0_2) = some (r1, r2) := by first | (rw [hy337]; with_reducible exact H) | (have H2_ := (Option.bind_some _ _).symm.trans H; rw [hy337]; with_reducible exact H2_) | (have H2_ := (Option.bind_some _ _).symm.trans H; with_reducible exact H2_) | with_reducible exact H | (rw [hy337]; exact H) | exact H
                                  have Ny337 := Aside0.mk hy337
                                  clear hy337
                                  have H' := Aside0.mk H
                                  clear H
                                  have hnb44 := NB320_303.out
                                  have hnc44 := NB303_320.out
                                  have hcz45_0 : wc.cell? ⟨gb320, 0, none⟩ = some (.int .u64 ((rd_T54 l0_1 x5_2).f0)) := (blk_cell BK320.out 0).trans rfl
                                  have hcz45_1 : wc.cell? ⟨gb320, 1, none⟩ = some (.int .u64 ((rd_T54 l0_1 x5_2).f1)) := (blk_cell BK320.out 1).trans rfl
                                  have hcz45_2 : wc.cell? ⟨gb320, 2, none⟩ = some (.int .u32 ((rd_T54 l0_1 x5_2).f2)) := (blk_cell BK320.out 2).trans rfl
                                  have hcz45_3 : wc.cell? ⟨gb320, 3, none⟩ = some (.int .u32 ((rd_T54 l0_1 x5_2).f3)) := (blk_cell BK320.out 3).trans rfl
                                  have hcz45_4 : wc.cell? ⟨gb320, 4, none⟩ = some (.string ((rd_T54 l0_1 x5_2).f4)) := (blk_cell BK320.out 4).trans rfl
                                  have hcz45_5 : wc.cell? ⟨gb320, 5, none⟩ = some (.bool ((rd_T54 l0_1 x5_2).f5)) := (blk_cell BK320.out 5).trans rfl
                                  have hfz45_0 := blk_frozen BK320.out 0
                                  have hfz45_1 := blk_frozen BK320.out 1
                                  have hfz45_2 := blk_frozen BK320.out 2
                                  have hfz45_3 := blk_frozen BK320.out 3
                                  have hfz45_4 := blk_frozen BK320.out 4
                                  have hfz45_5 := blk_frozen BK320.out 5
                                  try go_wp2_with (first | ((with_reducible refine gate_callee (f := 24) rfl ?_); refine goesL_ (some 65) rfl rfl Try.func24 (by kernel_rfl) rfl #[.string ((rd_T54 l0_1 x5_2).f4), .int .i64 16] rfl (by (try simp only [List.map_toArray, List.map_cons, List.map_nil]); first | done | rfl | (simp only [List.length_drop, List.length_take]; rfl) | (simp; done)) ?_; (with_reducible refine (counterpaneref01_Text.calls kj25 ((rd_T54 l0_1 x5_2).f4) 16 t321 t322 _ A37.out).mono ?_); rintro e w46 ⟨v323, rfl, ho0, hb⟩; refine ⟨_, rfl, ?_⟩; have n0_ := Aside0.mk (Kd.R_elder' (by (with_reducible repeat (first | apply Kd.R_alloc | apply Kd.R_drewN | apply Kd.R_drew)); exact HO_4.out) (Kd.R_base ho0) hb); have n1_ := Aside0.mk (Kd.R_lower (Kd.R_new' ho0 (Kd.R_lt (by (with_reducible repeat (first | apply Kd.R_alloc | apply Kd.R_drewN | apply Kd.R_drew)); exact HO_4.out))) (below_size (by repeat (first | (with_reducible first | exact HB.out | apply below_alloc | apply pw_below_drewN | apply below_drew1 | refine below_set ?_ GE303.out | refine below_set ?_ GE320.out) | exact HB.out)))); have n2_ := Aside0.mk (blk_below (g := gb303) (o := .cells #[.int .i64 a0_0, .slice (some ad319) l0_1.length c0_1, .int .i64 a0_2] 31 (0, 0)) (by (with_reducible repeat (first | refine blk_drewN ?_ _ | refine blk_drew ?_ | refine blk_alloc ?_ _)); exact BK303.out) hb); have n3_ := Aside0.mk (blk_below (g := gb320) (o := .cells #[.int .u64 ((rd_T54 l0_1 x5_2).f0), .int .u64 ((rd_T54 l0_1 x5_2).f1), .int .u32 ((rd_T54 l0_1 x5_2).f2), .int .u32 ((rd_T54 l0_1 x5_2).f3), .string ((rd_T54 l0_1 x5_2).f4), .bool ((rd_T54 l0_1 x5_2).f5)] 54 (0, 0)) (by (with_reducible repeat (first | refine blk_drewN ?_ _ | refine blk_drew ?_ | refine blk_alloc ?_ _)); exact BK320.out) hb); have n4_ := Aside0.mk (below_step (by repeat (first | (with_reducible first | exact HB.out | apply below_alloc | apply pw_below_drewN | apply below_drew1 | refine below_set ?_ GE303.out | refine below_set ?_ GE320.out) | exact HB.out)) hb); clear HO_4; clear BK303; clear BK320; clear HB; have HO_4 := n0_; have HO324 := n1_; have BK303 := n2_; have BK320 := n3_; have HB := n4_; clear n0_ n1_ n2_ n3_ n4_; (try clear hb); (try clear hb2); (try clear hk); (try clear hi); (try clear ho0); have hcz47_0 : w46.cell? ⟨gb320, 0, none⟩ = some (.int .u64 ((rd_T54 l0_1 x5_2).f0)) := (blk_cell BK320.out 0).trans rfl; have hcz47_1 : w46.cell? ⟨gb320, 1, none⟩ = some (.int .u64 ((rd_T54 l0_1 x5_2).f1)) := (blk_cell BK320.out 1).trans rfl; have hcz47_2 : w46.cell? ⟨gb320, 2, none⟩ = some (.int .u32 ((rd_T54 l0_1 x5_2).f2)) := (blk_cell BK320.out 2).trans rfl; have hcz47_3 : w46.cell? ⟨gb320, 3, none⟩ = some (.int .u32 ((rd_T54 l0_1 x5_2).f3)) := (blk_cell BK320.out 3).trans rfl; have hcz47_4 : w46.cell? ⟨gb320, 4, none⟩ = some (.string ((rd_T54 l0_1 x5_2).f4)) := (blk_cell BK320.out 4).trans rfl; have hcz47_5 : w46.cell? ⟨gb320, 5, none⟩ = some (.bool ((rd_T54 l0_1 x5_2).f5)) := (blk_cell BK320.out 5).trans rfl; have hfz47_0 := blk_frozen BK320.out 0; have hfz47_1 := blk_frozen BK320.out 1; have hfz47_2 := blk_frozen BK320.out 2; have hfz47_3 := blk_frozen BK320.out 3; have hfz47_4 := blk_frozen BK320.out 4; have hfz47_5 := blk_frozen BK320.out 5) | ((with_reducible refine gate_callee (f := 25) rfl ?_); refine goesL_ (some 74) rfl rfl Try.func25 (by kernel_rfl) rfl #[.int .u64 ((rd_T54 l0_1 x5_2).f1), .int .i64 8] rfl (by (try simp only [List.map_toArray, List.map_cons, List.map_nil]); first | done | rfl | (simp only [List.length_drop, List.length_take]; rfl) | (simp; done)) ?_; (with_reducible refine (counterpaneref01_Put.calls kj25 ((rd_T54 l0_1 x5_2).f1) 8 t325 _ A39.out).mono ?_); rintro e w48 ⟨v326, rfl, ho0, hb⟩; refine ⟨_, rfl, ?_⟩; have n0_ := Aside0.mk (Kd.R_elder' (by (with_reducible repeat (first | apply Kd.R_alloc | apply Kd.R_drewN | apply Kd.R_drew)); exact HO_4.out) (Kd.R_base ho0) hb); have n1_ := Aside0.mk (Kd.R_elder' (by (with_reducible repeat (first | apply Kd.R_alloc | apply Kd.R_drewN | apply Kd.R_drew)); exact HO324.out) (Kd.R_base ho0) hb); have n2_ := Aside0.mk (Kd.R_lower (Kd.R_new' (Kd.R_new' ho0 (Kd.R_lt (by (with_reducible repeat (first | apply Kd.R_alloc | apply Kd.R_drewN | apply Kd.R_drew)); exact HO_4.out))) (Kd.R_lt (by (with_reducible repeat (first | apply Kd.R_alloc | apply Kd.R_drewN | apply Kd.R_drew)); exact HO324.out))) (below_size (by repeat (first | (with_reducible first | exact HB.out | apply below_alloc | apply pw_below_drewN | apply below_drew1 | refine below_set ?_ GE303.out | refine below_set ?_ GE320.out) | exact HB.out)))); have n3_ := Aside0.mk (blk_below (g := gb303) (o := .cells #[.int .i64 a0_0, .slice (some ad319) l0_1.length c0_1, .int .i64 a0_2] 31 (0, 0)) (by (with_reducible repeat (first | refine blk_drewN ?_ _ | refine blk_drew ?_ | refine blk_alloc ?_ _)); exact BK303.out) hb); have n4_ := Aside0.mk (blk_below (g := gb320) (o := .cells #[.int .u64 ((rd_T54 l0_1 x5_2).f0), .int .u64 ((rd_T54 l0_1 x5_2).f1), .int .u32 ((rd_T54 l0_1 x5_2).f2), .int .u32 ((rd_T54 l0_1 x5_2).f3), .string ((rd_T54 l0_1 x5_2).f4), .bool ((rd_T54 l0_1 x5_2).f5)] 54 (0, 0)) (by (with_reducible repeat (first | refine blk_drewN ?_ _ | refine blk_drew ?_ | refine blk_alloc ?_ _)); exact BK320.out) hb); have n5_ := Aside0.mk (below_step (by repeat (first | (with_reducible first | exact HB.out | apply below_alloc | apply pw_below_drewN | apply below_drew1 | refine below_set ?_ GE303.out | refine below_set ?_ GE320.out) | exact HB.out)) hb); clear HO_4; clear HO324; clear BK303; clear BK320; clear HB; have HO_4 := n0_; have HO324 := n1_; have HO327 := n2_; have BK303 := n3_; have BK320 := n4_; have HB := n5_; clear n0_ n1_ n2_ n3_ n4_ n5_; (try clear hb); (try clear hb2); (try clear hk); (try clear hi); (try clear ho0); obtain ⟨Ao50, co50, eo50⟩ := Kd.R_slice HO327.out; subst eo50) | ((with_reducible refine gate_builtin (b := .append) (xs := #[.tmp 71, .tmp 74]) rfl ?_); at_builtin; refine Kd.R_append_rows (Kd.int .u8) (w0 := w) w.heap.size rfl (.tmp 71) (.tmp 74) 34 5 (.int .u8 0) 1 rfl Try.underlying34 info5 rfl (by decide) (by omega) u4 x4_2 t325 _ _ _ (fun k_ => some k_ ≠ (v323 : Value).ownBlock ∧ some k_ ≠ (.slice Ao50 t325.length co50 : Value).ownBlock) (fun _ => False) rfl rfl ?aO ?aR (fun _ _ h => h) (fun _ h => h.elim) ?aF ?aB ?aS ?aL ?_; (case aR => repeat (first | exact (Kd.R_reads' HO327.out).2.2 | (with_reducible refine Kd.C_alloc ?_ _) | (with_reducible refine Kd.C_drewN ?_ _) | (with_reducible refine Kd.C_drew ?_))); (case aB => exact (by repeat (first | (with_reducible first | exact HB.out | apply below_alloc | apply pw_below_drewN | apply below_drew1 | refine below_set ?_ GE303.out | refine below_set ?_ GE320.out) | exact HB.out))); (case aF => exact (fun k_ hk => ⟨Kd.fresh' (Kd.R_lt (by (with_reducible repeat (first | apply Kd.R_alloc | apply Kd.R_drewN | apply Kd.R_drew)); exact HO324.out)) k_ hk, Kd.fresh' (Kd.R_lt (by (with_reducible repeat (first | apply Kd.R_alloc | apply Kd.R_drewN | apply Kd.R_drew)); exact HO327.out)) k_ hk⟩)); (case aO => exact (by (with_reducible repeat (first | apply Kd.R_alloc | apply Kd.R_drewN | apply Kd.R_drew)); exact Kd.R_mono HO_4.out (fun _ hk => ⟨hk.1.2, hk.2⟩))); (case aS => exact (below_size (by repeat (first | (with_reducible first | exact HB.out | apply below_alloc | apply pw_below_drewN | apply below_drew1 | refine below_set ?_ GE303.out | refine below_set ?_ GE320.out) | exact HB.out)))); (case aL => have := LMc40.out; omega); intro v329 w49 ho hb hg hat; rw [← Ny328.out] at ho; have n0_ := Aside0.mk (blk_grown (g := gb303) (o := .cells #[.int .i64 a0_0, .slice (some ad319) l0_1.length c0_1, .int .i64 a0_2] 31 (0, 0)) (by (with_reducible repeat (first | refine blk_drewN ?_ _ | refine blk_drew ?_ | refine blk_alloc ?_ _)); exact BK303.out) hg (Kd.R_ne HO_4.out BK303.out (by decide))); have n1_ := Aside0.mk (blk_grown (g := gb320) (o := .cells #[.int .u64 ((rd_T54 l0_1 x5_2).f0), .int .u64 ((rd_T54 l0_1 x5_2).f1), .int .u32 ((rd_T54 l0_1 x5_2).f2), .int .u32 ((rd_T54 l0_1 x5_2).f3), .string ((rd_T54 l0_1 x5_2).f4), .bool ((rd_T54 l0_1 x5_2).f5)] 54 (0, 0)) (by (with_reducible repeat (first | refine blk_drewN ?_ _ | refine blk_drew ?_ | refine blk_alloc ?_ _)); exact BK320.out) hg (Kd.R_ne HO_4.out BK320.out (by decide))); have n2_ := Aside0.mk (Kd.R_after (ok := (fun k_ => some k_ ≠ (.slice Ao50 t325.length co50 : Value).ownBlock)) (by (with_reducible repeat (first | apply Kd.R_alloc | apply Kd.R_drewN | apply Kd.R_drew)); exact Kd.R_mono HO324.out (fun _ hk => ⟨hk.2, hk.1.2⟩)) hg hat); have n3_ := Aside0.mk (Kd.R_after (ok := (fun k_ => some k_ ≠ (v323 : Value).ownBlock)) (by (with_reducible repeat (first | apply Kd.R_alloc | apply Kd.R_drewN | apply Kd.R_drew)); exact Kd.R_mono HO327.out (fun _ hk => ⟨hk.2, hk.1.2⟩)) hg hat); have n4_ := Aside0.mk (hb); have n5_ := Aside0.mk (ho); clear BK303; clear BK320; clear HO324; clear HO327; clear HB; clear HO_4; have BK303 := n0_; have BK320 := n1_; have HO324 := n2_; have HO327 := n3_; have HB := n4_; have HO330 := n5_; clear n0_ n1_ n2_ n3_ n4_ n5_; clear ho hb hg hat))
                                  have n0_ := Aside0.mk (Kd.R_drew HO324.out)
                                  have n1_ := Aside0.mk (Kd.R_drew HO327.out)
                                  have n2_ := Aside0.mk (Kd.R_drew HO330.out)
                                  have n3_ := Aside0.mk (blk_drew BK303.out)
                                  have n4_ := Aside0.mk (blk_drew BK320.out)
                                  have n5_ := Aside0.mk (below_drew1 HB.out)
                                  clear HO324
                                  clear HO327
                                  clear HO330
                                  clear BK303
                                  clear BK320
                                  clear HB
                                  have HO324 := n0_
                                  have HO327 := n1_
                                  have HO330 := n2_
                                  have BK303 := n3_
                                  have BK320 := n4_
                                  have HB := n5_
                                  clear n0_ n1_ n2_ n3_ n4_ n5_
                                  obtain ⟨Ao52, co52, eo52⟩ := Kd.R_slice HO330.out
                                  (first | subst eo52 | (injection eo52 with f1_ f2_ f3_; have f4_ := f1_.symm; have f5_ := f3_.symm; clear f1_ f2_ f3_; subst f4_; subst f5_))
                                  refine start_ (n := 8) (S := fun w' => w'.cell? ⟨gb320, 0, none⟩ = some (.int .u64 ((rd_T54 l0_1 x5_2).f0)) ∧ w'.cell? ⟨gb320, 1, none⟩ = some (.int .u64 ((rd_T54 l0_1 x5_2).f1)) ∧ w'.cell? ⟨gb320, 2, none⟩ = some (.int .u32 ((rd_T54 l0_1 x5_2).f2)) ∧ w'.cell? ⟨gb320, 3, none⟩ = some (.int .u32 ((rd_T54 l0_1 x5_2).f3)) ∧ w'.cell? ⟨gb320, 4, none⟩ = some (.string ((rd_T54 l0_1 x5_2).f4)) ∧ w'.cell? ⟨gb320, 5, none⟩ = some (.bool ((rd_T54 l0_1 x5_2).f5))) (ds := []) #[false, false, false, false, false, false, false, false] (by kernel_rfl) rfl rfl ⟨(blk_cell BK320.out 0).trans rfl, (blk_cell BK320.out 1).trans rfl, (blk_cell BK320.out 2).trans rfl, (blk_cell BK320.out 3).trans rfl, (blk_cell BK320.out 4).trans rfl, (blk_cell BK320.out 5).trans rfl⟩ (fun hHeld => ?_); refine with_tabW counterpaneref33_Answer.tab18 counterpaneref33_Answer.bits18 (fun HT_ HW_ => ?_)
                                  generalize w49.drew = w51 at HO324 HO327 HO330 BK303 BK320 HB hHeld ⊢
                                  refine pure_ (i := 0) (N := some 76) (v := ?_) (a' := ?_) #[true, false, false, false, false, false, false, false] rfl rfl (any_of HT_.out (by kernel_rfl)) (fun _ _ _ h => h) (Or.inl ⟨by rfl, ?_⟩) ?_ ?_
                                  rotate_left
                                  · intro w'
                                    go_simp
                                    with_reducible rfl
                                  rotate_left
                                  · simp only [Act.put, List.setIfInBounds_toArray, List.set_cons_zero, List.set_cons_succ, i64_w, i32_w]
                                    rfl
                                  refine pure_ (i := 1) (N := some 77) (v := ?_) (a' := ?_) #[true, true, false, false, false, false, false, false] rfl rfl (any_of HT_.out (by kernel_rfl)) (fun _ _ _ h => h) (Or.inl ⟨by rfl, ?_⟩) ?_ ?_
                                  rotate_left
                                  · intro w'
                                    go_simp
                                    with_reducible rfl
                                  rotate_left
                                  · simp only [Act.put, List.setIfInBounds_toArray, List.set_cons_zero, List.set_cons_succ, i64_w, i32_w]
                                    rfl
                                  refine pure_ (i := 4) (N := some 80) (v := ?_) (a' := ?_) #[true, true, false, false, true, false, false, false] rfl rfl (any_of HT_.out (by kernel_rfl)) (fun _ _ _ h => h) (Or.inl ⟨by rfl, ?_⟩) ?_ ?_
                                  rotate_left
                                  · intro w'
                                    go_simp
                                    with_reducible rfl
                                  rotate_left
                                  · simp only [Act.put, List.setIfInBounds_toArray, List.set_cons_zero, List.set_cons_succ, i64_w, i32_w]
                                    rfl
                                  refine take_ (i := 2) (N := some 78) (v := ?_) (a' := ?_) #[true, true, true, false, true, false, false, false] rfl rfl (take_ofW HT_.out HW_.out (by kernel_rfl)) (fun _ _ _ h => h) (Or.inl ⟨by rfl, ?_⟩) hHeld ?_ ?_
                                  rotate_left
                                  · rintro w' ⟨s0, s1, s2, s3, s4, s5⟩
                                    go_simp
                                    with_reducible rfl
                                  rotate_left
                                  · simp only [Act.put, List.setIfInBounds_toArray, List.set_cons_zero, List.set_cons_succ, i64_w, i32_w]
                                    rfl
                                  refine take_ (i := 5) (N := some 81) (v := ?_) (a' := ?_) #[true, true, true, false, true, true, false, false] rfl rfl (take_ofW HT_.out HW_.out (by kernel_rfl)) (fun _ _ _ h => h) (Or.inl ⟨by rfl, ?_⟩) hHeld ?_ ?_
                                  rotate_left
                                  · rintro w' ⟨s0, s1, s2, s3, s4, s5⟩
                                    go_simp
                                    with_reducible rfl
                                  rotate_left
                                  · simp only [Act.put, List.setIfInBounds_toArray, List.set_cons_zero, List.set_cons_succ, i64_w, i32_w]
                                    rfl
                                  refine one_ (i := 3) (N := some 79) #[true, true, true, true, true, true, false, false] rfl rfl (one_of HT_.out (by kernel_rfl)) (by decide) (fun K hK => ?_)
                                  refine goes_ Try.func26 (by kernel_rfl) rfl #[.slice Ao52 y328.length co52, .int .u32 ((rd_T54 l0_1 x5_2).f2)] (by rfl) rfl rfl (by (try simp only [List.map_toArray, List.map_cons, List.map_nil]); first | done | rfl | (simp only [List.length_drop, List.length_take]; rfl) | (simp; done)) ?_
                                  with_reducible refine (counterpaneref33_four.calls kj25 (fun k_ => some k_ = (.slice Ao52 y328.length co52 : Value).ownBlock) (.slice Ao52 y328.length co52) y328 ((rd_T54 l0_1 x5_2).f2) t331 w _ ?side1 ?side2 A41.out).mono ?_
                                  (case side1 => repeat (first | (with_reducible first | exact HB.out | apply below_alloc | apply pw_below_drewN | apply below_drew1 | refine below_set ?_ GE303.out | refine below_set ?_ GE320.out) | exact HB.out))
                                  (case side2 => exact Kd.R_tight rfl HO330.out)
                                  rintro e w53 ⟨v332, rfl, ho0, hb, hkp⟩
                                  refine ⟨_, rfl, ?_⟩
                                  have n0_ := Aside0.mk (blk_kept (by (with_reducible repeat (first | refine blk_drewN ?_ _ | refine blk_drew ?_ | refine blk_alloc ?_ _)); exact BK303.out) hkp (fun hs_ => (fun e_ => (Kd.R_ne HO330.out BK303.out (by decide)) e_) hs_))
                                  have n1_ := Aside0.mk (blk_kept (by (with_reducible repeat (first | refine blk_drewN ?_ _ | refine blk_drew ?_ | refine blk_alloc ?_ _)); exact BK320.out) hkp (fun hs_ => (fun e_ => (Kd.R_ne HO330.out BK320.out (by decide)) e_) hs_))
                                  have n2_ := Aside0.mk (Kd.R_mono (ok' := fun k_ => some k_ ≠ (.slice Ao50 t325.length co50 : Value).ownBlock ∧ some k_ ≠ (v332 : Value).ownBlock) (Kd.R_keptB (HO324.out) hkp (fun k_ hk_ hs_ => (hk_.2) hs_)) (fun k_ hk_ => ⟨hk_.1.1, fun e_ => Or.elim (ho0.1 k_ e_.symm) (fun hs_ => hk_.2.1 hs_) (fun hn_ => Nat.not_le.2 hk_.2.2 hn_)⟩))
                                  have n3_ := Aside0.mk (Kd.R_mono (ok' := fun k_ => some k_ ≠ (v323 : Value).ownBlock ∧ some k_ ≠ (v332 : Value).ownBlock) (Kd.R_keptB (HO327.out) hkp (fun k_ hk_ hs_ => (hk_.2) hs_)) (fun k_ hk_ => ⟨hk_.1.1, fun e_ => Or.elim (ho0.1 k_ e_.symm) (fun hs_ => hk_.2.1 hs_) (fun hn_ => Nat.not_le.2 hk_.2.2 hn_)⟩))
                                  have n4_ := Aside0.mk (Kd.R_mono (ok' := fun k_ => some k_ ≠ (v323 : Value).ownBlock ∧ some k_ ≠ (.slice Ao50 t325.length co50 : Value).ownBlock) ho0 (fun k_ hk_ => ⟨Or.elim hk_ (fun hs_ => fun e_ => (((HO324.out).1 k_ e_.symm).2) hs_) (fun hn_ => (Kd.fresh' (Kd.R_lt (by (with_reducible repeat (first | apply Kd.R_alloc | apply Kd.R_drewN | apply Kd.R_drew)); exact HO324.out)) k_ hn_)), Or.elim hk_ (fun hs_ => fun e_ => (((HO327.out).1 k_ e_.symm).2) hs_) (fun hn_ => (Kd.fresh' (Kd.R_lt (by (with_reducible repeat (first | apply Kd.R_alloc | apply Kd.R_drewN | apply Kd.R_drew)); exact HO327.out)) k_ hn_))⟩))
                                  have n5_ := Aside0.mk (hb)
                                  clear BK303
                                  clear BK320
                                  clear HO324
                                  clear HO327
                                  clear HB
                                  clear HO330
                                  have BK303 := n0_
                                  have BK320 := n1_
                                  have HO324 := n2_
                                  have HO327 := n3_
                                  have HO333 := n4_
                                  have HB := n5_
                                  clear n0_ n1_ n2_ n3_ n4_ n5_
                                  (try clear hb)
                                  (try clear hkp)
                                  (try clear ho0)
                                  obtain ⟨Ao54, co54, eo54⟩ := Kd.R_slice HO333.out
                                  (first | subst eo54 | (injection eo54 with f1_ f2_ f3_; have f4_ := f1_.symm; have f5_ := f3_.symm; clear f1_ f2_ f3_; subst f4_; subst f5_))
                                  refine hK.out _ _ ⟨(blk_cell BK320.out 0).trans rfl, (blk_cell BK320.out 1).trans rfl, (blk_cell BK320.out 2).trans rfl, (blk_cell BK320.out 3).trans rfl, (blk_cell BK320.out 4).trans rfl, (blk_cell BK320.out 5).trans rfl⟩ (fun hHeld => ?_)
                                  clear hK K
                                  refine norm_ (a' := ?_) ?_ ?_
                                  rotate_left
                                  · show Act.put _ (some 79) _ = _
                                    simp only [Act.put, List.setIfInBounds_toArray, List.set_cons_zero, List.set_cons_succ, i64_w, i32_w]
                                    rfl
                                  refine one_ (i := 6) (N := some 82) #[true, true, true, true, true, true, true, false] rfl rfl (one_of HT_.out (by kernel_rfl)) (by decide) (fun K hK => ?_)
                                  refine goes_ Try.func26 (by kernel_rfl) rfl #[.slice Ao54 t331.length co54, .int .u32 ((rd_T54 l0_1 x5_2).f3)] (by rfl) rfl rfl (by (try simp only [List.map_toArray, List.map_cons, List.map_nil]); first | done | rfl | (simp only [List.length_drop, List.length_take]; rfl) | (simp; done)) ?_
                                  with_reducible refine (counterpaneref33_four.calls kj25 (fun k_ => some k_ = (.slice Ao54 t331.length co54 : Value).ownBlock) (.slice Ao54 t331.length co54) t331 ((rd_T54 l0_1 x5_2).f3) t334 w _ ?side1 ?side2 A42.out).mono ?_
                                  (case side1 => repeat (first | (with_reducible first | exact HB.out | apply below_alloc | apply pw_below_drewN | apply below_drew1 | refine below_set ?_ GE303.out | refine below_set ?_ GE320.out) | exact HB.out))
                                  (case side2 => exact Kd.R_tight rfl HO333.out)
                                  rintro e w55 ⟨v335, rfl, ho0, hb, hkp⟩
                                  refine ⟨_, rfl, ?_⟩
                                  have n0_ := Aside0.mk (blk_kept (by (with_reducible repeat (first | refine blk_drewN ?_ _ | refine blk_drew ?_ | refine blk_alloc ?_ _)); exact BK303.out) hkp (fun hs_ => (fun e_ => (Kd.R_ne HO333.out BK303.out (by decide)) e_) hs_))
                                  have n1_ := Aside0.mk (blk_kept (by (with_reducible repeat (first | refine blk_drewN ?_ _ | refine blk_drew ?_ | refine blk_alloc ?_ _)); exact BK320.out) hkp (fun hs_ => (fun e_ => (Kd.R_ne HO333.out BK320.out (by decide)) e_) hs_))
                                  have n2_ := Aside0.mk (Kd.R_mono (ok' := fun k_ => some k_ ≠ (.slice Ao50 t325.length co50 : Value).ownBlock ∧ some k_ ≠ (v335 : Value).ownBlock) (Kd.R_keptB (HO324.out) hkp (fun k_ hk_ hs_ => (hk_.2) hs_)) (fun k_ hk_ => ⟨hk_.1.1, fun e_ => Or.elim (ho0.1 k_ e_.symm) (fun hs_ => hk_.2.1 hs_) (fun hn_ => Nat.not_le.2 hk_.2.2 hn_)⟩))
                                  have n3_ := Aside0.mk (Kd.R_mono (ok' := fun k_ => some k_ ≠ (v323 : Value).ownBlock ∧ some k_ ≠ (v335 : Value).ownBlock) (Kd.R_keptB (HO327.out) hkp (fun k_ hk_ hs_ => (hk_.2) hs_)) (fun k_ hk_ => ⟨hk_.1.1, fun e_ => Or.elim (ho0.1 k_ e_.symm) (fun hs_ => hk_.2.1 hs_) (fun hn_ => Nat.not_le.2 hk_.2.2 hn_)⟩))
                                  have n4_ := Aside0.mk (Kd.R_mono (ok' := fun k_ => some k_ ≠ (v323 : Value).ownBlock ∧ some k_ ≠ (.slice Ao50 t325.length co50 : Value).ownBlock) ho0 (fun k_ hk_ => ⟨Or.elim hk_ (fun hs_ => fun e_ => (((HO324.out).1 k_ e_.symm).2) hs_) (fun hn_ => (Kd.fresh' (Kd.R_lt (by (with_reducible repeat (first | apply Kd.R_alloc | apply Kd.R_drewN | apply Kd.R_drew)); exact HO324.out)) k_ hn_)), Or.elim hk_ (fun hs_ => fun e_ => (((HO327.out).1 k_ e_.symm).2) hs_) (fun hn_ => (Kd.fresh' (Kd.R_lt (by (with_reducible repeat (first | apply Kd.R_alloc | apply Kd.R_drewN | apply Kd.R_drew)); exact HO327.out)) k_ hn_))⟩))
                                  have n5_ := Aside0.mk (hb)
                                  clear BK303
                                  clear BK320
                                  clear HO324
                                  clear HO327
                                  clear HB
                                  clear HO333
                                  have BK303 := n0_
                                  have BK320 := n1_
                                  have HO324 := n2_
                                  have HO327 := n3_
                                  have HO336 := n4_
                                  have HB := n5_
                                  clear n0_ n1_ n2_ n3_ n4_ n5_
                                  (try clear hb)
                                  (try clear hkp)
                                  (try clear ho0)
                                  refine hK.out _ _ ⟨(blk_cell BK320.out 0).trans rfl, (blk_cell BK320.out 1).trans rfl, (blk_cell BK320.out 2).trans rfl, (blk_cell BK320.out 3).trans rfl, (blk_cell BK320.out 4).trans rfl, (blk_cell BK320.out 5).trans rfl⟩ (fun hHeld => ?_)
                                  clear hK K
                                  refine norm_ (a' := ?_) ?_ ?_
                                  rotate_left
                                  · show Act.put _ (some 82) _ = _
                                    simp only [Act.put, List.setIfInBounds_toArray, List.set_cons_zero, List.set_cons_succ, i64_w, i32_w]
                                    rfl
                                  refine pure_ (i := 7) (N := some 4) (v := ?_) (a' := ?_) #[true, true, true, true, true, true, true, true] rfl rfl (any_of HT_.out (by kernel_rfl)) (fun _ _ _ h => h) (Or.inl ⟨by rfl, ?_⟩) ?_ ?_
                                  rotate_left
                                  · intro w'
                                    go_simp
                                    with_reducible rfl
                                  rotate_left
                                  · simp only [Act.put, List.setIfInBounds_toArray, List.set_cons_zero, List.set_cons_succ, i64_w, i32_w]
                                    rfl
                                  refine done_ (done_of HT_.out (by kernel_rfl)) ?_
                                  obtain ⟨Ao57, co57, eo57⟩ := Kd.R_slice HO324.out
                                  subst eo57
                                  try go_wp2_with (first | ((with_reducible refine gate_builtin (b := .append) (xs := #[.tmp 83, .tmp 84]) rfl ?_); at_builtin; refine Kd.R_append_rows (Kd.int .u8) (w0 := w) w.heap.size rfl (.tmp 83) (.tmp 84) 34 5 (.int .u8 0) 1 rfl Try.underlying34 info5 rfl (by decide) (by omega) v335 t334 t321 _ _ _ (fun k_ => some k_ ≠ (.slice Ao57 t321.length co57 : Value).ownBlock ∧ some k_ ≠ (.slice Ao50 t325.length co50 : Value).ownBlock) (fun _ => False) rfl rfl ?aO ?aR (fun _ _ h => h) (fun _ h => h.elim) ?aF ?aB ?aS ?aL ?_; (case aR => repeat (first | exact (Kd.R_reads' HO324.out).2.2 | (with_reducible refine Kd.C_alloc ?_ _) | (with_reducible refine Kd.C_drewN ?_ _) | (with_reducible refine Kd.C_drew ?_))); (case aB => exact (by repeat (first | (with_reducible first | exact HB.out | apply below_alloc | apply pw_below_drewN | apply below_drew1 | refine below_set ?_ GE303.out | refine below_set ?_ GE320.out) | exact HB.out))); (case aF => exact (fun k_ hk => ⟨Kd.fresh' (Kd.R_lt (by (with_reducible repeat (first | apply Kd.R_alloc | apply Kd.R_drewN | apply Kd.R_drew)); exact HO324.out)) k_ hk, Kd.fresh' (Kd.R_lt (by (with_reducible repeat (first | apply Kd.R_alloc | apply Kd.R_drewN | apply Kd.R_drew)); exact HO327.out)) k_ hk⟩)); (case aO => exact (by (with_reducible repeat (first | apply Kd.R_alloc | apply Kd.R_drewN | apply Kd.R_drew)); exact HO336.out)); (case aS => exact (below_size (by repeat (first | (with_reducible first | exact HB.out | apply below_alloc | apply pw_below_drewN | apply below_drew1 | refine below_set ?_ GE303.out | refine below_set ?_ GE320.out) | exact HB.out)))); (case aL => have := LMc43.out; omega); intro v338 w56 ho hb hg hat; rw [← Ny337.out] at ho; have n0_ := Aside0.mk (blk_grown (g := gb303) (o := .cells #[.int .i64 a0_0, .slice (some ad319) l0_1.length c0_1, .int .i64 a0_2] 31 (0, 0)) (by (with_reducible repeat (first | refine blk_drewN ?_ _ | refine blk_drew ?_ | refine blk_alloc ?_ _)); exact BK303.out) hg (Kd.R_ne HO336.out BK303.out (by decide))); have n1_ := Aside0.mk (blk_grown (g := gb320) (o := .cells #[.int .u64 ((rd_T54 l0_1 x5_2).f0), .int .u64 ((rd_T54 l0_1 x5_2).f1), .int .u32 ((rd_T54 l0_1 x5_2).f2), .int .u32 ((rd_T54 l0_1 x5_2).f3), .string ((rd_T54 l0_1 x5_2).f4), .bool ((rd_T54 l0_1 x5_2).f5)] 54 (0, 0)) (by (with_reducible repeat (first | refine blk_drewN ?_ _ | refine blk_drew ?_ | refine blk_alloc ?_ _)); exact BK320.out) hg (Kd.R_ne HO336.out BK320.out (by decide))); have n2_ := Aside0.mk (Kd.R_after (ok := (fun k_ => some k_ ≠ (.slice Ao50 t325.length co50 : Value).ownBlock)) (by (with_reducible repeat (first | apply Kd.R_alloc | apply Kd.R_drewN | apply Kd.R_drew)); exact HO324.out) hg hat); have n3_ := Aside0.mk (Kd.R_after (ok := (fun k_ => some k_ ≠ (.slice Ao57 t321.length co57 : Value).ownBlock)) (by (with_reducible repeat (first | apply Kd.R_alloc | apply Kd.R_drewN | apply Kd.R_drew)); exact HO327.out) hg hat); have n4_ := Aside0.mk (hb); have n5_ := Aside0.mk (ho); clear BK303; clear BK320; clear HO324; clear HO327; clear HB; clear HO336; have BK303 := n0_; have BK320 := n1_; have HO324 := n2_; have HO327 := n3_; have HB := n4_; have HO339 := n5_; clear n0_ n1_ n2_ n3_ n4_ n5_; clear ho hb hg hat))
                                  go_roundg kj25
                                  case measure => have := HJ1.out; have := HK2.out; have := HJ25.out; omega
                                  case rel => exact ⟨(y337), (wrap64 (x5_2 + 1)), (by first | rfl | (simp; done) | (simp [*]; done)), H', ⟨by have := HJ1.out; have := HK2.out; have := HJ25.out; omega⟩, ⟨by (with_reducible repeat (first | apply Kd.R_alloc | apply Kd.R_drewN | apply Kd.R_drew)); exact Kd.R_mono HO339.out (fun _ hk => trivial)⟩, ⟨by (with_reducible repeat (first | refine blk_drewN ?_ _ | refine blk_drew ?_ | refine blk_alloc ?_ _)); exact BK303.out⟩, ⟨by repeat (first | (with_reducible first | exact HB.out | apply below_alloc | apply pw_below_drewN | apply below_drew1 | refine below_set ?_ GE303.out | refine below_set ?_ GE320.out) | exact HB.out)⟩⟩
                                · rw [if_neg c43] at H
                                  exact absurd H (by simp)
                              · rw [if_neg c40] at H
                                exact absurd H (by simp)
                            · rw [if_neg c38] at H
                              have c38b0 : (t322 == 0) = false := beq_eq_false_iff_ne.mpr c38
                              have c38b1 : (t322 != 0) = true := bne_iff_ne.mpr c38
                              simp only [Option.some.injEq, Prod.mk.injEq] at H
                              obtain ⟨rfl, rfl⟩ := H
                              have hnb58 := NB320_303.out
                              have hnc58 := NB303_320.out
                              have hcz59_0 : wc.cell? ⟨gb320, 0, none⟩ = some (.int .u64 ((rd_T54 l0_1 x5_2).f0)) := (blk_cell BK320.out 0).trans rfl
                              have hcz59_1 : wc.cell? ⟨gb320, 1, none⟩ = some (.int .u64 ((rd_T54 l0_1 x5_2).f1)) := (blk_cell BK320.out 1).trans rfl
                              have hcz59_2 : wc.cell? ⟨gb320, 2, none⟩ = some (.int .u32 ((rd_T54 l0_1 x5_2).f2)) := (blk_cell BK320.out 2).trans rfl
                              have hcz59_3 : wc.cell? ⟨gb320, 3, none⟩ = some (.int .u32 ((rd_T54 l0_1 x5_2).f3)) := (blk_cell BK320.out 3).trans rfl
                              have hcz59_4 : wc.cell? ⟨gb320, 4, none⟩ = some (.string ((rd_T54 l0_1 x5_2).f4)) := (blk_cell BK320.out 4).trans rfl
                              have hcz59_5 : wc.cell? ⟨gb320, 5, none⟩ = some (.bool ((rd_T54 l0_1 x5_2).f5)) := (blk_cell BK320.out 5).trans rfl
                              have hfz59_0 := blk_frozen BK320.out 0
                              have hfz59_1 := blk_frozen BK320.out 1
                              have hfz59_2 := blk_frozen BK320.out 2
                              have hfz59_3 := blk_frozen BK320.out 3
                              have hfz59_4 := blk_frozen BK320.out 4
                              have hfz59_5 := blk_frozen BK320.out 5
                              go_wp2_with (first | ((with_reducible refine gate_callee (f := 24) rfl ?_); refine goesL_ (some 65) rfl rfl Try.func24 (by kernel_rfl) rfl #[.string ((rd_T54 l0_1 x5_2).f4), .int .i64 16] rfl (by (try simp only [List.map_toArray, List.map_cons, List.map_nil]); first | done | rfl | (simp only [List.length_drop, List.length_take]; rfl) | (simp; done)) ?_; (with_reducible refine (counterpaneref01_Text.calls kj25 ((rd_T54 l0_1 x5_2).f4) 16 t321 t322 _ A37.out).mono ?_); rintro e w60 ⟨v323, rfl, ho0, hb⟩; refine ⟨_, rfl, ?_⟩; have n0_ := Aside0.mk (Kd.R_elder' (by (with_reducible repeat (first | apply Kd.R_alloc | apply Kd.R_drewN | apply Kd.R_drew)); exact HO_4.out) (Kd.R_base ho0) hb); have n1_ := Aside0.mk (Kd.R_lower (Kd.R_new' ho0 (Kd.R_lt (by (with_reducible repeat (first | apply Kd.R_alloc | apply Kd.R_drewN | apply Kd.R_drew)); exact HO_4.out))) (below_size (by repeat (first | (with_reducible first | exact HB.out | apply below_alloc | apply pw_below_drewN | apply below_drew1 | refine below_set ?_ GE303.out | refine below_set ?_ GE320.out) | exact HB.out)))); have n2_ := Aside0.mk (blk_below (g := gb303) (o := .cells #[.int .i64 a0_0, .slice (some ad319) l0_1.length c0_1, .int .i64 a0_2] 31 (0, 0)) (by (with_reducible repeat (first | refine blk_drewN ?_ _ | refine blk_drew ?_ | refine blk_alloc ?_ _)); exact BK303.out) hb); have n3_ := Aside0.mk (blk_below (g := gb320) (o := .cells #[.int .u64 ((rd_T54 l0_1 x5_2).f0), .int .u64 ((rd_T54 l0_1 x5_2).f1), .int .u32 ((rd_T54 l0_1 x5_2).f2), .int .u32 ((rd_T54 l0_1 x5_2).f3), .string ((rd_T54 l0_1 x5_2).f4), .bool ((rd_T54 l0_1 x5_2).f5)] 54 (0, 0)) (by (with_reducible repeat (first | refine blk_drewN ?_ _ | refine blk_drew ?_ | refine blk_alloc ?_ _)); exact BK320.out) hb); have n4_ := Aside0.mk (below_step (by repeat (first | (with_reducible first | exact HB.out | apply below_alloc | apply pw_below_drewN | apply below_drew1 | refine below_set ?_ GE303.out | refine below_set ?_ GE320.out) | exact HB.out)) hb); clear HO_4; clear BK303; clear BK320; clear HB; have HO_4 := n0_; have HO324 := n1_; have BK303 := n2_; have BK320 := n3_; have HB := n4_; clear n0_ n1_ n2_ n3_ n4_; (try clear hb); (try clear hb2); (try clear hk); (try clear hi); (try clear ho0)))
                              go_ret2
                              exact ⟨_, by first | rfl | (simp [errW_none, errW_some] <;> rfl) | (simp [*, errW_none, errW_some] <;> rfl), by first | exact Kd.R_nil _ _ _ _ _ | exact Kd.N_nil _ _ _ _ _ | exact Kd.V_nil _ _ _ _ _ | exact Kd.Q_nil _ _ _ _ _ | exact Kd.S_nil _ _ _ _ _, by repeat (first | (with_reducible first | exact HB.out | apply below_alloc | apply pw_below_drewN | apply below_drew1 | refine below_set ?_ GE303.out | refine below_set ?_ GE320.out) | exact HB.out)⟩
                    · rw [if_neg c25] at H
                      exact absurd H (by simp)
                  · rw [if_neg c24] at H
                    have c24b0 : decide (x5_2 < (l0_1.length : Int)) = false := decide_eq_false c24
                    clear c24
                    replace H := Option.bind_eq_some_iff.mp H
                    obtain ⟨t316, A610, H⟩ := H
                    replace H : (some (t316, 0)) = some (r1, r2) := H
                    have A61 := Aside0.mk A610
                    clear A610
                    simp only [Option.some.injEq, Prod.mk.injEq] at H
                    obtain ⟨rfl, rfl⟩ := H
                    have hcz62_0 : wr.cell? ⟨gb303, 0, none⟩ = some (.int .i64 a0_0) := (blk_cell BK303.out 0).trans rfl
                    have hcz62_1 : wr.cell? ⟨gb303, 1, none⟩ = some (.slice A0_1 l0_1.length c0_1) := (blk_cell BK303.out 1).trans rfl
                    have hcz62_2 : wr.cell? ⟨gb303, 2, none⟩ = some (.int .i64 a0_2) := (blk_cell BK303.out 2).trans rfl
                    have hfz62_0 := blk_frozen BK303.out 0
                    have hfz62_1 := blk_frozen BK303.out 1
                    have hfz62_2 := blk_frozen BK303.out 2
                    obtain ⟨Ao63, co63, eo63⟩ := Kd.R_slice HO_4.out
                    subst eo63
                    go_wp2_with (first | ((with_reducible refine gate_callee (f := 27) rfl ?_); refine goesL_ (some 87) rfl rfl Try.func27 (by kernel_rfl) rfl #[.slice Ao63 x4_2.length co63] rfl (by (try simp only [List.map_toArray, List.map_cons, List.map_nil]); first | done | rfl | (simp only [List.length_drop, List.length_take]; rfl) | (simp; done)) ?_; (with_reducible refine (counterpaneref02_Put.calls k2 _ _ x4_2 t316 _ ?side1 ?side2 A61.out).mono ?_); (case side1 => repeat (first | exact (Kd.R_reads' HO_4.out).2.2 | (with_reducible refine Kd.C_alloc ?_ _) | (with_reducible refine Kd.C_drewN ?_ _) | (with_reducible refine Kd.C_drew ?_))); (case side2 => exact (Kd.R_reads' HO_4.out).2.1); rintro e w64 ⟨v317, rfl, ho0, hb⟩; refine ⟨_, rfl, ?_⟩; have n0_ := Aside0.mk (Kd.R_elder' (by (with_reducible repeat (first | apply Kd.R_alloc | apply Kd.R_drewN | apply Kd.R_drew)); exact HO_4.out) (Kd.R_base ho0) hb); have n1_ := Aside0.mk (Kd.R_lower (Kd.R_new' ho0 (Kd.R_lt (by (with_reducible repeat (first | apply Kd.R_alloc | apply Kd.R_drewN | apply Kd.R_drew)); exact HO_4.out))) (below_size (by repeat (first | (with_reducible first | exact HB.out | apply below_alloc | apply pw_below_drewN | apply below_drew1 | refine below_set ?_ GE303.out) | exact HB.out)))); have n2_ := Aside0.mk (blk_below (g := gb303) (o := .cells #[.int .i64 a0_0, .slice A0_1 l0_1.length c0_1, .int .i64 a0_2] 31 (0, 0)) (by (with_reducible repeat (first | refine blk_drewN ?_ _ | refine blk_drew ?_ | refine blk_alloc ?_ _)); exact BK303.out) hb); have n3_ := Aside0.mk (below_step (by repeat (first | (with_reducible first | exact HB.out | apply below_alloc | apply pw_below_drewN | apply below_drew1 | refine below_set ?_ GE303.out) | exact HB.out)) hb); clear HO_4; clear BK303; clear HB; have HO_4 := n0_; have HO318 := n1_; have BK303 := n2_; have HB := n3_; clear n0_ n1_ n2_ n3_; (try clear hb); (try clear hb2); (try clear hk); (try clear hi); (try clear ho0)))
                    go_ret2
                    exact ⟨_, by first | rfl | (simp [errW_none, errW_some] <;> rfl) | (simp [*, errW_none, errW_some] <;> rfl), by (with_reducible repeat (first | apply Kd.R_alloc | apply Kd.R_drewN | apply Kd.R_drew)); exact Kd.R_mono HO318.out (fun _ hk => trivial), by repeat (first | (with_reducible first | exact HB.out | apply below_alloc | apply pw_below_drewN | apply below_drew1 | refine below_set ?_ GE303.out) | exact HB.out)⟩
            · rw [if_neg c14] at H
              exact absurd H (by simp)
          · rw [if_neg c13] at H
            exact absurd H (by simp)

end Go.Proofs.Ytnhkpolfkmpldaa.PAll
