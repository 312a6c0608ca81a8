/- Walks by the logic of values. -/
import Derived.Test.YtmlhekadnplpcaaKbVb
import Derived.Test.YtmlhekadnplpcaaKbVmT
import Derived.Test.YtmlhekadnplpcaaKbVmP
import Derived.Test.YtmlhekadnplpcaaKbVmV
import Derived.Test.YtmlhekadnplpcaaKbVa
namespace Go.Proofs.Ytmlhekadnplpcaa
open Go.Vm
set_option linter.unusedVariables false
set_option linter.unusedSimpArgs false
def celB (u v w : Bool) : Bool := !((u && v) || ((u || v) != w))
def celF (a b c d e f p q r1 r2 r3 r4 : Int) (x y : Nat) : Bool := celB (haF a b c d x y) (haF e f p q x y) (haF r1 r2 r3 r4 x y)
def jnF (a b c d e f p q r1 r2 r3 r4 : Int) : Bool := (List.range 8).all fun x => (List.range 8).all fun y => celF a b c d e f p q r1 r2 r3 r4 x y
theorem all_s {P : Nat → Bool} {i : Nat} (h : (List.range i).all P = true) (h2 : P i = true) : (List.range (i + 1)).all P = true := by
  rw [List.range_succ, List.all_append, h]; simp [h2]
theorem jn_f {a b c d e f p q r1 r2 r3 r4 : Int} {x y : Nat} (hx : (x : Int) < 8) (hy : (y : Int) < 8) (h : celF a b c d e f p q r1 r2 r3 r4 x y = false) : false = jnF a b c d e f p q r1 r2 r3 r4 := by
  unfold jnF
  cases hh : ((List.range 8).all fun x => (List.range 8).all fun y => celF a b c d e f p q r1 r2 r3 r4 x y) with
  | false => rfl
  | true =>
    have h1 := List.all_eq_true.1 hh x (List.mem_range.2 (by omega))
    have h2 := List.all_eq_true.1 h1 y (List.mem_range.2 (by omega))
    rw [h] at h2; cases h2
set_option maxRecDepth 100000 in
set_option maxHeartbeats 4000000 in
theorem joined_c (a b c d e f p q r1 r2 r3 r4 : Int) : Does Try.prog 30 [.agg (bxB a b c d), .agg (bxB e f p q), .agg (bxB r1 r2 r3 r4)] [] [] (.sc (.bool (jnF a b c d e f p q r1 r2 r3 r4))) := by
  refine does_mkg 40 Try.func30 rfl rfl rfl (fun n B bx hd hpre hup hvs hbx hgx => ?_)
  refine runs_seq ?_
  refine runs_region ?_
  refine rl1 (gn rfl) rfl rfl (step_box_agg (k := n + 0) rfl rfl) ⟨by repeat (first | exact uE | refine uN (by omega) ?_ | assumption | exact hd _ (by omega) | fail), trivial⟩ (by omega) ?_
  refine rl1 (gn rfl) rfl rfl (step_box_agg (k := n + 1) rfl rfl) ⟨by repeat (first | exact uE | refine uN (by omega) ?_ | assumption | exact hd _ (by omega) | fail), trivial⟩ (by omega) ?_
  refine rl1 (gn rfl) rfl rfl (step_box_agg (k := n + 2) rfl rfl) ⟨by repeat (first | exact uE | refine uN (by omega) ?_ | assumption | exact hd _ (by omega) | fail), trivial⟩ (by omega) ?_
  refine rl0 (gn rfl) rfl rfl (step_as rfl rfl) trivial ?_
  refine runsL_nil ?_
  refine runs_seq ?_
  refine runs_seq ?_
  refine runs_region ?_
  refine rl0 (gn rfl) rfl rfl (step_as rfl rfl) trivial ?_
  refine runsL_nil ?_
  refine runs_block ?_
  refine runs_loop (fun (ri_ : Nat) (st_ : Go.Vm.S) => ∃ (x : Nat) (m0 : Nat) (b0 : Nat → Box), (st_ = ⟨mk [(3, .ref (n + 0) 0), (4, .ref (n + 1) 0), (5, .ref (n + 2) 0), (6, .sc (.bool false)), (7, .sc (.int .i64 (x : Int)))], m0, b0⟩) ∧ (ri_ = 1 + (8 - x)) ∧ (n + 3 ≤ m0) ∧ (∀ k_, k_ < n → b0 k_ = bx k_) ∧ (b0 (n + 0) = .cells [.sc (.int .i64 a), .sc (.int .i64 b), .sc (.int .i64 c), .sc (.int .i64 d)]) ∧ (b0 (n + 1) = .cells [.sc (.int .i64 e), .sc (.int .i64 f), .sc (.int .i64 p), .sc (.int .i64 q)]) ∧ (b0 (n + 2) = .cells [.sc (.int .i64 r1), .sc (.int .i64 r2), .sc (.int .i64 r3), .sc (.int .i64 r4)]) ∧ (x ≤ 8) ∧ (((List.range x).all fun x => (List.range 8).all fun y => celF a b c d e f p q r1 r2 r3 r4 x y) = true)) (1 + (8 - 0)) ⟨_, sle ?_ (Nat.le_refl _), 0, _, _, rfl, rfl, ?_⟩ ?_
  · (repeat' (first | exact trivial | refine ⟨⟨_, rfl, ?_⟩, ?_⟩ | fail)); all_goals (repeat' (first | exact VLe.refl _ | exact VLe.own_sl _ _ _ | exact VLe.fl_sl _ _ | exact VLe.nil_sl _ | exact VLe.nil_fl _ | exact VLes.refl _ | exact .nil | refine VLe.tup ?_ | refine VLe.agg ?_ | refine .cons ?_ ?_ | (rw [Int.natCast_add]; exact VLe.refl _) | exact vle_int (by omega) | exact vle_bool (by first | rfl | assumption | (simp_all; done) | fail) | fail))
  · exact ⟨by omega, (fun k_ hk_ => by repeat (first | exact rfl | refine uN (by omega) ?_ | assumption | fail)), by first | ((repeat (first | exact uE | assumption | refine uN (by omega) ?_ | fail)); done) | exact tl_eq (by repeat (first | exact uE | assumption | refine uN (by omega) ?_ | fail)) (by first | rfl | (simp [bytesV, beB_len]; done) | (simp [bytesV, beB_len]; omega) | omega), by first | ((repeat (first | exact uE | assumption | refine uN (by omega) ?_ | fail)); done) | exact tl_eq (by repeat (first | exact uE | assumption | refine uN (by omega) ?_ | fail)) (by first | rfl | (simp [bytesV, beB_len]; done) | (simp [bytesV, beB_len]; omega) | omega), by first | ((repeat (first | exact uE | assumption | refine uN (by omega) ?_ | fail)); done) | exact tl_eq (by repeat (first | exact uE | assumption | refine uN (by omega) ?_ | fail)) (by first | rfl | (simp [bytesV, beB_len]; done) | (simp [bytesV, beB_len]; omega) | omega), by omega, rfl⟩
  · rintro _ _ ⟨x, m0, b0, rfl, rfl, hm0, hf0, hB0_0, hB0_1, hB0_2, hF0_0, hF0_1⟩
    refine runs_know (fun hd0 => ?_)
    refine runs_bump 20 ?_
    simp only at hd0
    refine runs_seq ?_
    refine runs_seq ?_
    refine runs_region ?_
    refine rl0 (gn rfl) rfl rfl (step_mv rfl rfl) trivial ?_
    refine rl_lss (gn rfl) rfl rfl rfl rfl rfl (fun h1 => ?_) (fun h1 => ?_)
    · skip
      refine runsL_nil ?_
      refine runs_cond true (ev_mk rfl) (fun _ => ?_) (fun h_ => nomatch h_)
      refine runs_skip ?_
      refine runs_seq ?_
      refine runs_block ?_
      refine runs_seq ?_
      refine runs_region ?_
      refine rl0 (gn rfl) rfl rfl (step_as rfl rfl) trivial ?_
      refine runsL_nil ?_
      refine runs_block ?_
      refine runs_loop (fun (ri_ : Nat) (st_ : Go.Vm.S) => ∃ (y : Nat) (m1 : Nat) (b1 : Nat → Box), (st_ = ⟨mk [(3, .ref (n + 0) 0), (4, .ref (n + 1) 0), (5, .ref (n + 2) 0), (6, .sc (.bool false)), (7, .sc (.int .i64 (x : Int))), (8, .sc (.int .i64 (y : Int))), (9, .sc (.int .i64 (x : Int))), (10, .sc (.bool true))], m1, b1⟩) ∧ (ri_ = 1 + (8 - y)) ∧ (m0 + 0 ≤ m1) ∧ (∀ k_, k_ < n → b1 k_ = bx k_) ∧ (b1 (n + 0) = .cells [.sc (.int .i64 a), .sc (.int .i64 b), .sc (.int .i64 c), .sc (.int .i64 d)]) ∧ (b1 (n + 1) = .cells [.sc (.int .i64 e), .sc (.int .i64 f), .sc (.int .i64 p), .sc (.int .i64 q)]) ∧ (b1 (n + 2) = .cells [.sc (.int .i64 r1), .sc (.int .i64 r2), .sc (.int .i64 r3), .sc (.int .i64 r4)]) ∧ (y ≤ 8) ∧ (((List.range y).all fun y => celF a b c d e f p q r1 r2 r3 r4 x y) = true)) (1 + (8 - 0)) ⟨_, sle ?_ (Nat.le_refl _), 0, _, _, rfl, rfl, ?_⟩ ?_
      · (repeat' (first | exact trivial | refine ⟨⟨_, rfl, ?_⟩, ?_⟩ | fail)); all_goals (repeat' (first | exact VLe.refl _ | exact VLe.own_sl _ _ _ | exact VLe.fl_sl _ _ | exact VLe.nil_sl _ | exact VLe.nil_fl _ | exact VLes.refl _ | exact .nil | refine VLe.tup ?_ | refine VLe.agg ?_ | refine .cons ?_ ?_ | (rw [Int.natCast_add]; exact VLe.refl _) | exact vle_int (by omega) | exact vle_bool (by first | rfl | assumption | (simp_all; done) | fail) | fail))
      · exact ⟨by omega, (fun k_ hk_ => by repeat (first | exact rfl | refine uN (by omega) ?_ | assumption | exact hf0 _ (by omega) | fail)), by first | ((repeat (first | exact uE | assumption | refine uN (by omega) ?_ | fail)); done) | exact tl_eq (by repeat (first | exact uE | assumption | refine uN (by omega) ?_ | fail)) (by first | rfl | (simp [bytesV, beB_len]; done) | (simp [bytesV, beB_len]; omega) | omega), by first | ((repeat (first | exact uE | assumption | refine uN (by omega) ?_ | fail)); done) | exact tl_eq (by repeat (first | exact uE | assumption | refine uN (by omega) ?_ | fail)) (by first | rfl | (simp [bytesV, beB_len]; done) | (simp [bytesV, beB_len]; omega) | omega), by first | ((repeat (first | exact uE | assumption | refine uN (by omega) ?_ | fail)); done) | exact tl_eq (by repeat (first | exact uE | assumption | refine uN (by omega) ?_ | fail)) (by first | rfl | (simp [bytesV, beB_len]; done) | (simp [bytesV, beB_len]; omega) | omega), by omega, rfl⟩
      · rintro _ _ ⟨y, m1, b1, rfl, rfl, hm1, hf1, hB1_0, hB1_1, hB1_2, hF1_0, hF1_1⟩
        refine runs_know (fun hd1 => ?_)
        refine runs_bump 20 ?_
        simp only at hd1
        refine runs_seq ?_
        refine runs_seq ?_
        refine runs_region ?_
        refine rl0 (gn rfl) rfl rfl (step_mv rfl rfl) trivial ?_
        refine rl_lss (gn rfl) rfl rfl rfl rfl rfl (fun h2 => ?_) (fun h2 => ?_)
        · skip
          refine runsL_nil ?_
          refine runs_cond true (ev_mk rfl) (fun _ => ?_) (fun h_ => nomatch h_)
          refine runs_skip ?_
          refine runs_seq ?_
          refine runs_block ?_
          refine runs_seq ?_
          refine runs_draw (by kernel_rfl) (by kernel_rfl) (by kernel_rfl) ?_
          refine' dl0 (gn rfl) rfl rfl (step_load_all rfl rfl F.agg26 ?hl) ⟨?hb, trivial⟩ ?_
          case hb => repeat (first | exact uE | refine uN (by omega) ?_ | assumption | exact hd _ (by omega) | exact hd0 _ (by omega) | exact hd1 _ (by omega) | fail)
          case hl => first | rfl | (simp; done) | (first | (simp; done) | (simp; omega) | omega)
          refine dl0 (gn rfl) rfl rfl (step_mv rfl rfl) trivial ?_
          refine dl0 (gn rfl) rfl rfl (step_mv rfl rfl) trivial ?_
          refine dl0 (gn rfl) rfl rfl (step_callc rfl Try.func12 rfl rfl rfl (rhas_c a b c d (x : Int) (y : Int)) (by repeat (first | exact .nil | refine .cons ?_ ?_ | exact VLe.refl _ | exact VLe.own_sl _ _ _ | exact VLe.fl_sl _ _ | exact VLe.nil_sl _ | exact VLe.nil_fl _ | refine VLe.agg ?_))) trivial ?_
          refine dl0 (gn rfl) rfl rfl (step_mv rfl rfl) trivial ?_
          refine dl_bool (d := 21) rfl (fun h3 => ?_) (fun h3 => ?_)
          · skip
            refine' dl0 (gy rfl rfl rfl rfl rfl rfl) rfl rfl (step_load_all rfl rfl F.agg26 ?hl) ⟨?hb, trivial⟩ ?_
            case hb => repeat (first | exact uE | refine uN (by omega) ?_ | assumption | exact hd _ (by omega) | exact hd0 _ (by omega) | exact hd1 _ (by omega) | fail)
            case hl => first | rfl | (simp; done) | (first | (simp; done) | (simp; omega) | omega)
            refine dl0 (gy rfl rfl rfl rfl rfl rfl) rfl rfl (step_mv rfl rfl) trivial ?_
            refine dl0 (gy rfl rfl rfl rfl rfl rfl) rfl rfl (step_mv rfl rfl) trivial ?_
            refine dl0 (gy rfl rfl rfl rfl rfl rfl) rfl rfl (step_callc rfl Try.func12 rfl rfl rfl (rhas_c e f p q (x : Int) (y : Int)) (by repeat (first | exact .nil | refine .cons ?_ ?_ | exact VLe.refl _ | exact VLe.own_sl _ _ _ | exact VLe.fl_sl _ _ | exact VLe.nil_sl _ | exact VLe.nil_fl _ | refine VLe.agg ?_))) trivial ?_
            refine dl0 (gn rfl) rfl rfl (step_pick rfl (ev_mk rfl) (ev_mk rfl)) trivial ?_
            refine dl0 (gn rfl) rfl rfl (step_mv rfl rfl) trivial ?_
            refine dl_bool (d := 27) rfl (fun h4 => ?_) (fun h4 => ?_)
            · skip
              refine dlk rfl rfl rfl rfl rfl (ngb rfl rfl) rfl rfl ?_
              refine dlk rfl rfl rfl rfl rfl (ngb rfl rfl) rfl rfl ?_
              refine dlk rfl rfl rfl rfl rfl (ngb rfl rfl) rfl rfl ?_
              refine dlk rfl rfl rfl rfl rfl (ngb rfl rfl) rfl rfl ?_
              refine dlk rfl rfl rfl rfl rfl (ngb rfl rfl) rfl rfl ?_
              refine dlk rfl rfl rfl rfl rfl (ngu rfl) rfl rfl ?_
              refine dlk rfl rfl rfl rfl rfl (ngu rfl) rfl rfl ?_
              refine dlk rfl rfl rfl rfl rfl (ngu rfl) rfl rfl ?_
              refine dlk rfl rfl rfl rfl rfl (ngu rfl) rfl rfl ?_
              refine dlk rfl rfl rfl rfl rfl (ngb rfl rfl) rfl rfl ?_
              refine dlk rfl rfl rfl rfl rfl (ngb rfl rfl) rfl rfl ?_
              refine dlk rfl rfl rfl rfl rfl (ngb rfl rfl) rfl rfl ?_
              refine dlk rfl rfl rfl rfl rfl (ngb rfl rfl) rfl rfl ?_
              refine dlk rfl rfl rfl rfl rfl (ngb rfl rfl) rfl rfl ?_
              refine dlk rfl rfl rfl rfl rfl (ngb rfl rfl) rfl rfl ?_
              refine dl0 (gn rfl) rfl rfl (step_pick rfl (ev_mk rfl) (ev_mk rfl)) trivial ?_
              refine dlnil ?_ ?_
              · repeat' (first | exact trivial | exact .inr (ap0 _ _ _ _) | exact .inr (ap2 _ _ _ _) | exact .inr (ap3 _ _ _ _) | exact .inr ⟨by first | (simp; done) | (simp; omega), by first | (simp; done) | (simp; omega)⟩ | exact .inl (by kernel_rfl) | refine ⟨?_, ?_⟩ | fail)
              refine runs_cond true (ev_mk rfl) (fun _ => ?_) (fun h_ => nomatch h_)
              refine runs_seq ?_
              refine runs_region ?_
              have hc_ : celF a b c d e f p q r1 r2 r3 r4 x y = false := by unfold celF celB; simp_all
              have hem_ := jn_f (by omega) (by omega) hc_
              refine rl0 (gn rfl) rfl rfl (step_as rfl rfl) trivial ?_
              refine runsL_nil ?_
              refine runs_ret ?_
              refine ⟨by first | exact .inr rfl | exact .inl rfl, fin_mkg (rest rfl res0) ?_ ?_ ?_ ?_ ?_⟩
              · (repeat' (first | exact VLe.refl _ | exact VLe.own_sl _ _ _ | exact VLe.fl_sl _ _ | exact VLe.nil_sl _ | exact VLe.nil_fl _ | exact VLes.refl _ | exact .nil | refine VLe.tup ?_ | refine VLe.agg ?_ | refine .cons ?_ ?_ | (rw [Int.natCast_add]; exact VLe.refl _) | exact vle_int (by omega) | exact vle_bool (by first | rfl | assumption | (simp_all; done) | fail) | fail))
              · repeat (first | exact trivial | assumption | omega | (refine bdR_map (fun _ => ?_)) | (refine bdL_map (fun _ => ?_)) | refine ⟨?_, ?_⟩ | fail)
              · intro k_ hk_; exact ble (by repeat (first | exact rfl | refine uN (by omega) ?_ | assumption | exact hf0 _ (by omega) | exact hf1 _ (by omega) | fail))
              · intro p hp; cases hp
              · repeat (first | exact trivial | assumption | omega | (refine bdR_map (fun _ => ?_)) | (refine bdL_map (fun _ => ?_)) | refine ⟨?_, ?_⟩ | fail)
            · skip
              refine' dl0 (gy rfl rfl rfl rfl rfl rfl) rfl rfl (step_load_all rfl rfl F.agg26 ?hl) ⟨?hb, trivial⟩ ?_
              case hb => repeat (first | exact uE | refine uN (by omega) ?_ | assumption | exact hd _ (by omega) | exact hd0 _ (by omega) | exact hd1 _ (by omega) | fail)
              case hl => first | rfl | (simp; done) | (first | (simp; done) | (simp; omega) | omega)
              refine dl0 (gy rfl rfl rfl rfl rfl rfl) rfl rfl (step_mv rfl rfl) trivial ?_
              refine dl0 (gy rfl rfl rfl rfl rfl rfl) rfl rfl (step_mv rfl rfl) trivial ?_
              refine dl0 (gy rfl rfl rfl rfl rfl rfl) rfl rfl (step_callc rfl Try.func12 rfl rfl rfl (rhas_c a b c d (x : Int) (y : Int)) (by repeat (first | exact .nil | refine .cons ?_ ?_ | exact VLe.refl _ | exact VLe.own_sl _ _ _ | exact VLe.fl_sl _ _ | exact VLe.nil_sl _ | exact VLe.nil_fl _ | refine VLe.agg ?_))) trivial ?_
              refine dl0 (gy rfl rfl rfl rfl rfl rfl) rfl rfl (step_mv rfl rfl) trivial ?_
              refine dl_bool (d := 32) rfl (fun h5 => ?_) (fun h5 => ?_)
              · skip
                refine dlk rfl rfl rfl rfl rfl (ngb rfl rfl) rfl rfl ?_
                refine dlk rfl rfl rfl rfl rfl (ngb rfl rfl) rfl rfl ?_
                refine dlk rfl rfl rfl rfl rfl (ngb rfl rfl) rfl rfl ?_
                refine dlk rfl rfl rfl rfl rfl (ngb rfl rfl) rfl rfl ?_
                refine dl0 (gy rfl rfl rfl rfl rfl rfl) rfl rfl (step_pick rfl (ev_mk rfl) (ev_mk rfl)) trivial ?_
                refine' dl0 (gy rfl rfl rfl rfl rfl rfl) rfl rfl (step_load_all rfl rfl F.agg26 ?hl) ⟨?hb, trivial⟩ ?_
                case hb => repeat (first | exact uE | refine uN (by omega) ?_ | assumption | exact hd _ (by omega) | exact hd0 _ (by omega) | exact hd1 _ (by omega) | fail)
                case hl => first | rfl | (simp; done) | (first | (simp; done) | (simp; omega) | omega)
                refine dl0 (gy rfl rfl rfl rfl rfl rfl) rfl rfl (step_mv rfl rfl) trivial ?_
                refine dl0 (gy rfl rfl rfl rfl rfl rfl) rfl rfl (step_mv rfl rfl) trivial ?_
                refine dl0 (gy rfl rfl rfl rfl rfl rfl) rfl rfl (step_callc rfl Try.func12 rfl rfl rfl (rhas_c r1 r2 r3 r4 (x : Int) (y : Int)) (by repeat (first | exact .nil | refine .cons ?_ ?_ | exact VLe.refl _ | exact VLe.own_sl _ _ _ | exact VLe.fl_sl _ _ | exact VLe.nil_sl _ | exact VLe.nil_fl _ | refine VLe.agg ?_))) trivial ?_
                refine dl0 (gy rfl rfl rfl rfl rfl rfl) rfl rfl (step_neqb rfl (ev_mk rfl) (ev_mk rfl) Try.underlying4) trivial ?_
                refine dl0 (gn rfl) rfl rfl (step_pick rfl (ev_mk rfl) (ev_mk rfl)) trivial ?_
                refine dlnil ?_ ?_
                · repeat' (first | exact trivial | exact .inr (ap0 _ _ _ _) | exact .inr (ap2 _ _ _ _) | exact .inr (ap3 _ _ _ _) | exact .inr ⟨by first | (simp; done) | (simp; omega), by first | (simp; done) | (simp; omega)⟩ | exact .inl (by kernel_rfl) | refine ⟨?_, ?_⟩ | fail)
                refine runs_cond _ (ev_mk rfl) (fun h6 => ?_) (fun h6 => ?_)
                · skip
                  refine runs_seq ?_
                  refine runs_region ?_
                  have hc_ : celF a b c d e f p q r1 r2 r3 r4 x y = false := by unfold celF celB; simp_all
                  have hem_ := jn_f (by omega) (by omega) hc_
                  refine rl0 (gn rfl) rfl rfl (step_as rfl rfl) trivial ?_
                  refine runsL_nil ?_
                  refine runs_ret ?_
                  refine ⟨by first | exact .inr rfl | exact .inl rfl, fin_mkg (rest rfl res0) ?_ ?_ ?_ ?_ ?_⟩
                  · (repeat' (first | exact VLe.refl _ | exact VLe.own_sl _ _ _ | exact VLe.fl_sl _ _ | exact VLe.nil_sl _ | exact VLe.nil_fl _ | exact VLes.refl _ | exact .nil | refine VLe.tup ?_ | refine VLe.agg ?_ | refine .cons ?_ ?_ | (rw [Int.natCast_add]; exact VLe.refl _) | exact vle_int (by omega) | exact vle_bool (by first | rfl | assumption | (simp_all; done) | fail) | fail))
                  · repeat (first | exact trivial | assumption | omega | (refine bdR_map (fun _ => ?_)) | (refine bdL_map (fun _ => ?_)) | refine ⟨?_, ?_⟩ | fail)
                  · intro k_ hk_; exact ble (by repeat (first | exact rfl | refine uN (by omega) ?_ | assumption | exact hf0 _ (by omega) | exact hf1 _ (by omega) | fail))
                  · intro p hp; cases hp
                  · repeat (first | exact trivial | assumption | omega | (refine bdR_map (fun _ => ?_)) | (refine bdL_map (fun _ => ?_)) | refine ⟨?_, ?_⟩ | fail)
                · skip
                  have hc_ : celF a b c d e f p q r1 r2 r3 r4 x y = true := by unfold celF celB; simp_all
                  refine runs_skip ?_
                  refine runs_region ?_
                  refine rl0 (gn rfl) rfl rfl (step_mv rfl rfl) trivial ?_
                  refine rl0 (gn rfl) rfl rfl (step_add rfl (ev_mk rfl) (ev_mk rfl) (w64 (by omega))) trivial ?_
                  refine rl0 (gn rfl) rfl rfl (step_as rfl rfl) trivial ?_
                  refine runsL_nil ?_
                  refine ⟨_, _, ?_, sle ?_ (Nat.le_refl _), (y + 1), _, _, rfl, rfl, by omega, (fun k_ hk_ => by repeat (first | exact hf1 k_ hk_ | exact hf0 k_ hk_ | refine uN (by first | assumption | omega) ?_ | fail)), by first | ((repeat (first | exact uE | assumption | refine uN (by omega) ?_ | fail)); done) | exact tl_eq (by repeat (first | exact uE | assumption | refine uN (by omega) ?_ | fail)) (by first | rfl | (simp [bytesV, beB_len]; done) | (simp [bytesV, beB_len]; omega) | omega), by first | ((repeat (first | exact uE | assumption | refine uN (by omega) ?_ | fail)); done) | exact tl_eq (by repeat (first | exact uE | assumption | refine uN (by omega) ?_ | fail)) (by first | rfl | (simp [bytesV, beB_len]; done) | (simp [bytesV, beB_len]; omega) | omega), by first | ((repeat (first | exact uE | assumption | refine uN (by omega) ?_ | fail)); done) | exact tl_eq (by repeat (first | exact uE | assumption | refine uN (by omega) ?_ | fail)) (by first | rfl | (simp [bytesV, beB_len]; done) | (simp [bytesV, beB_len]; omega) | omega), by omega, all_s hF1_1 hc_⟩
                  · omega
                  · (repeat' (first | exact trivial | refine ⟨⟨_, rfl, ?_⟩, ?_⟩ | fail)); all_goals (repeat' (first | exact VLe.refl _ | exact VLe.own_sl _ _ _ | exact VLe.fl_sl _ _ | exact VLe.nil_sl _ | exact VLe.nil_fl _ | exact VLes.refl _ | exact .nil | refine VLe.tup ?_ | refine VLe.agg ?_ | refine .cons ?_ ?_ | (rw [Int.natCast_add]; exact VLe.refl _) | exact vle_int (by omega) | exact vle_bool (by first | rfl | assumption | (simp_all; done) | fail) | fail))
              · skip
                refine' dl0 (gy rfl rfl rfl rfl rfl rfl) rfl rfl (step_load_all rfl rfl F.agg26 ?hl) ⟨?hb, trivial⟩ ?_
                case hb => repeat (first | exact uE | refine uN (by omega) ?_ | assumption | exact hd _ (by omega) | exact hd0 _ (by omega) | exact hd1 _ (by omega) | fail)
                case hl => first | rfl | (simp; done) | (first | (simp; done) | (simp; omega) | omega)
                refine dl0 (gy rfl rfl rfl rfl rfl rfl) rfl rfl (step_mv rfl rfl) trivial ?_
                refine dl0 (gy rfl rfl rfl rfl rfl rfl) rfl rfl (step_mv rfl rfl) trivial ?_
                refine dl0 (gy rfl rfl rfl rfl rfl rfl) rfl rfl (step_callc rfl Try.func12 rfl rfl rfl (rhas_c e f p q (x : Int) (y : Int)) (by repeat (first | exact .nil | refine .cons ?_ ?_ | exact VLe.refl _ | exact VLe.own_sl _ _ _ | exact VLe.fl_sl _ _ | exact VLe.nil_sl _ | exact VLe.nil_fl _ | refine VLe.agg ?_))) trivial ?_
                refine dl0 (gy rfl rfl rfl rfl rfl rfl) rfl rfl (step_pick rfl (ev_mk rfl) (ev_mk rfl)) trivial ?_
                refine' dl0 (gy rfl rfl rfl rfl rfl rfl) rfl rfl (step_load_all rfl rfl F.agg26 ?hl) ⟨?hb, trivial⟩ ?_
                case hb => repeat (first | exact uE | refine uN (by omega) ?_ | assumption | exact hd _ (by omega) | exact hd0 _ (by omega) | exact hd1 _ (by omega) | fail)
                case hl => first | rfl | (simp; done) | (first | (simp; done) | (simp; omega) | omega)
                refine dl0 (gy rfl rfl rfl rfl rfl rfl) rfl rfl (step_mv rfl rfl) trivial ?_
                refine dl0 (gy rfl rfl rfl rfl rfl rfl) rfl rfl (step_mv rfl rfl) trivial ?_
                refine dl0 (gy rfl rfl rfl rfl rfl rfl) rfl rfl (step_callc rfl Try.func12 rfl rfl rfl (rhas_c r1 r2 r3 r4 (x : Int) (y : Int)) (by repeat (first | exact .nil | refine .cons ?_ ?_ | exact VLe.refl _ | exact VLe.own_sl _ _ _ | exact VLe.fl_sl _ _ | exact VLe.nil_sl _ | exact VLe.nil_fl _ | refine VLe.agg ?_))) trivial ?_
                refine dl0 (gy rfl rfl rfl rfl rfl rfl) rfl rfl (step_neqb rfl (ev_mk rfl) (ev_mk rfl) Try.underlying4) trivial ?_
                refine dl0 (gn rfl) rfl rfl (step_pick rfl (ev_mk rfl) (ev_mk rfl)) trivial ?_
                refine dlnil ?_ ?_
                · repeat' (first | exact trivial | exact .inr (ap0 _ _ _ _) | exact .inr (ap2 _ _ _ _) | exact .inr (ap3 _ _ _ _) | exact .inr ⟨by first | (simp; done) | (simp; omega), by first | (simp; done) | (simp; omega)⟩ | exact .inl (by kernel_rfl) | refine ⟨?_, ?_⟩ | fail)
                refine runs_cond _ (ev_mk rfl) (fun h6 => ?_) (fun h6 => ?_)
                · skip
                  refine runs_seq ?_
                  refine runs_region ?_
                  have hc_ : celF a b c d e f p q r1 r2 r3 r4 x y = false := by unfold celF celB; simp_all
                  have hem_ := jn_f (by omega) (by omega) hc_
                  refine rl0 (gn rfl) rfl rfl (step_as rfl rfl) trivial ?_
                  refine runsL_nil ?_
                  refine runs_ret ?_
                  refine ⟨by first | exact .inr rfl | exact .inl rfl, fin_mkg (rest rfl res0) ?_ ?_ ?_ ?_ ?_⟩
                  · (repeat' (first | exact VLe.refl _ | exact VLe.own_sl _ _ _ | exact VLe.fl_sl _ _ | exact VLe.nil_sl _ | exact VLe.nil_fl _ | exact VLes.refl _ | exact .nil | refine VLe.tup ?_ | refine VLe.agg ?_ | refine .cons ?_ ?_ | (rw [Int.natCast_add]; exact VLe.refl _) | exact vle_int (by omega) | exact vle_bool (by first | rfl | assumption | (simp_all; done) | fail) | fail))
                  · repeat (first | exact trivial | assumption | omega | (refine bdR_map (fun _ => ?_)) | (refine bdL_map (fun _ => ?_)) | refine ⟨?_, ?_⟩ | fail)
                  · intro k_ hk_; exact ble (by repeat (first | exact rfl | refine uN (by omega) ?_ | assumption | exact hf0 _ (by omega) | exact hf1 _ (by omega) | fail))
                  · intro p hp; cases hp
                  · repeat (first | exact trivial | assumption | omega | (refine bdR_map (fun _ => ?_)) | (refine bdL_map (fun _ => ?_)) | refine ⟨?_, ?_⟩ | fail)
                · skip
                  have hc_ : celF a b c d e f p q r1 r2 r3 r4 x y = true := by unfold celF celB; simp_all
                  refine runs_skip ?_
                  refine runs_region ?_
                  refine rl0 (gn rfl) rfl rfl (step_mv rfl rfl) trivial ?_
                  refine rl0 (gn rfl) rfl rfl (step_add rfl (ev_mk rfl) (ev_mk rfl) (w64 (by omega))) trivial ?_
                  refine rl0 (gn rfl) rfl rfl (step_as rfl rfl) trivial ?_
                  refine runsL_nil ?_
                  refine ⟨_, _, ?_, sle ?_ (Nat.le_refl _), (y + 1), _, _, rfl, rfl, by omega, (fun k_ hk_ => by repeat (first | exact hf1 k_ hk_ | exact hf0 k_ hk_ | refine uN (by first | assumption | omega) ?_ | fail)), by first | ((repeat (first | exact uE | assumption | refine uN (by omega) ?_ | fail)); done) | exact tl_eq (by repeat (first | exact uE | assumption | refine uN (by omega) ?_ | fail)) (by first | rfl | (simp [bytesV, beB_len]; done) | (simp [bytesV, beB_len]; omega) | omega), by first | ((repeat (first | exact uE | assumption | refine uN (by omega) ?_ | fail)); done) | exact tl_eq (by repeat (first | exact uE | assumption | refine uN (by omega) ?_ | fail)) (by first | rfl | (simp [bytesV, beB_len]; done) | (simp [bytesV, beB_len]; omega) | omega), by first | ((repeat (first | exact uE | assumption | refine uN (by omega) ?_ | fail)); done) | exact tl_eq (by repeat (first | exact uE | assumption | refine uN (by omega) ?_ | fail)) (by first | rfl | (simp [bytesV, beB_len]; done) | (simp [bytesV, beB_len]; omega) | omega), by omega, all_s hF1_1 hc_⟩
                  · omega
                  · (repeat' (first | exact trivial | refine ⟨⟨_, rfl, ?_⟩, ?_⟩ | fail)); all_goals (repeat' (first | exact VLe.refl _ | exact VLe.own_sl _ _ _ | exact VLe.fl_sl _ _ | exact VLe.nil_sl _ | exact VLe.nil_fl _ | exact VLes.refl _ | exact .nil | refine VLe.tup ?_ | refine VLe.agg ?_ | refine .cons ?_ ?_ | (rw [Int.natCast_add]; exact VLe.refl _) | exact vle_int (by omega) | exact vle_bool (by first | rfl | assumption | (simp_all; done) | fail) | fail))
          · skip
            refine dlk rfl rfl rfl rfl rfl (ngb rfl rfl) rfl rfl ?_
            refine dlk rfl rfl rfl rfl rfl (ngb rfl rfl) rfl rfl ?_
            refine dlk rfl rfl rfl rfl rfl (ngb rfl rfl) rfl rfl ?_
            refine dlk rfl rfl rfl rfl rfl (ngb rfl rfl) rfl rfl ?_
            refine dl0 (gn rfl) rfl rfl (step_pick rfl (ev_mk rfl) (ev_mk rfl)) trivial ?_
            refine dl0 (gn rfl) rfl rfl (step_mv rfl rfl) trivial ?_
            refine' dl0 (gy rfl rfl rfl rfl rfl rfl) rfl rfl (step_load_all rfl rfl F.agg26 ?hl) ⟨?hb, trivial⟩ ?_
            case hb => repeat (first | exact uE | refine uN (by omega) ?_ | assumption | exact hd _ (by omega) | exact hd0 _ (by omega) | exact hd1 _ (by omega) | fail)
            case hl => first | rfl | (simp; done) | (first | (simp; done) | (simp; omega) | omega)
            refine dl0 (gy rfl rfl rfl rfl rfl rfl) rfl rfl (step_mv rfl rfl) trivial ?_
            refine dl0 (gy rfl rfl rfl rfl rfl rfl) rfl rfl (step_mv rfl rfl) trivial ?_
            refine dl0 (gy rfl rfl rfl rfl rfl rfl) rfl rfl (step_callc rfl Try.func12 rfl rfl rfl (rhas_c a b c d (x : Int) (y : Int)) (by repeat (first | exact .nil | refine .cons ?_ ?_ | exact VLe.refl _ | exact VLe.own_sl _ _ _ | exact VLe.fl_sl _ _ | exact VLe.nil_sl _ | exact VLe.nil_fl _ | refine VLe.agg ?_))) trivial ?_
            refine dl0 (gy rfl rfl rfl rfl rfl rfl) rfl rfl (step_mv rfl rfl) trivial ?_
            refine dl_bool (d := 32) rfl (fun h4 => ?_) (fun h4 => ?_)
            · skip
              refine dlk rfl rfl rfl rfl rfl (ngb rfl rfl) rfl rfl ?_
              refine dlk rfl rfl rfl rfl rfl (ngb rfl rfl) rfl rfl ?_
              refine dlk rfl rfl rfl rfl rfl (ngb rfl rfl) rfl rfl ?_
              refine dlk rfl rfl rfl rfl rfl (ngb rfl rfl) rfl rfl ?_
              refine dl0 (gy rfl rfl rfl rfl rfl rfl) rfl rfl (step_pick rfl (ev_mk rfl) (ev_mk rfl)) trivial ?_
              refine' dl0 (gy rfl rfl rfl rfl rfl rfl) rfl rfl (step_load_all rfl rfl F.agg26 ?hl) ⟨?hb, trivial⟩ ?_
              case hb => repeat (first | exact uE | refine uN (by omega) ?_ | assumption | exact hd _ (by omega) | exact hd0 _ (by omega) | exact hd1 _ (by omega) | fail)
              case hl => first | rfl | (simp; done) | (first | (simp; done) | (simp; omega) | omega)
              refine dl0 (gy rfl rfl rfl rfl rfl rfl) rfl rfl (step_mv rfl rfl) trivial ?_
              refine dl0 (gy rfl rfl rfl rfl rfl rfl) rfl rfl (step_mv rfl rfl) trivial ?_
              refine dl0 (gy rfl rfl rfl rfl rfl rfl) rfl rfl (step_callc rfl Try.func12 rfl rfl rfl (rhas_c r1 r2 r3 r4 (x : Int) (y : Int)) (by repeat (first | exact .nil | refine .cons ?_ ?_ | exact VLe.refl _ | exact VLe.own_sl _ _ _ | exact VLe.fl_sl _ _ | exact VLe.nil_sl _ | exact VLe.nil_fl _ | refine VLe.agg ?_))) trivial ?_
              refine dl0 (gy rfl rfl rfl rfl rfl rfl) rfl rfl (step_neqb rfl (ev_mk rfl) (ev_mk rfl) Try.underlying4) trivial ?_
              refine dl0 (gn rfl) rfl rfl (step_pick rfl (ev_mk rfl) (ev_mk rfl)) trivial ?_
              refine dlnil ?_ ?_
              · repeat' (first | exact trivial | exact .inr (ap0 _ _ _ _) | exact .inr (ap2 _ _ _ _) | exact .inr (ap3 _ _ _ _) | exact .inr ⟨by first | (simp; done) | (simp; omega), by first | (simp; done) | (simp; omega)⟩ | exact .inl (by kernel_rfl) | refine ⟨?_, ?_⟩ | fail)
              refine runs_cond _ (ev_mk rfl) (fun h5 => ?_) (fun h5 => ?_)
              · skip
                refine runs_seq ?_
                refine runs_region ?_
                have hc_ : celF a b c d e f p q r1 r2 r3 r4 x y = false := by unfold celF celB; simp_all
                have hem_ := jn_f (by omega) (by omega) hc_
                refine rl0 (gn rfl) rfl rfl (step_as rfl rfl) trivial ?_
                refine runsL_nil ?_
                refine runs_ret ?_
                refine ⟨by first | exact .inr rfl | exact .inl rfl, fin_mkg (rest rfl res0) ?_ ?_ ?_ ?_ ?_⟩
                · (repeat' (first | exact VLe.refl _ | exact VLe.own_sl _ _ _ | exact VLe.fl_sl _ _ | exact VLe.nil_sl _ | exact VLe.nil_fl _ | exact VLes.refl _ | exact .nil | refine VLe.tup ?_ | refine VLe.agg ?_ | refine .cons ?_ ?_ | (rw [Int.natCast_add]; exact VLe.refl _) | exact vle_int (by omega) | exact vle_bool (by first | rfl | assumption | (simp_all; done) | fail) | fail))
                · repeat (first | exact trivial | assumption | omega | (refine bdR_map (fun _ => ?_)) | (refine bdL_map (fun _ => ?_)) | refine ⟨?_, ?_⟩ | fail)
                · intro k_ hk_; exact ble (by repeat (first | exact rfl | refine uN (by omega) ?_ | assumption | exact hf0 _ (by omega) | exact hf1 _ (by omega) | fail))
                · intro p hp; cases hp
                · repeat (first | exact trivial | assumption | omega | (refine bdR_map (fun _ => ?_)) | (refine bdL_map (fun _ => ?_)) | refine ⟨?_, ?_⟩ | fail)
              · skip
                have hc_ : celF a b c d e f p q r1 r2 r3 r4 x y = true := by unfold celF celB; simp_all
                refine runs_skip ?_
                refine runs_region ?_
                refine rl0 (gn rfl) rfl rfl (step_mv rfl rfl) trivial ?_
                refine rl0 (gn rfl) rfl rfl (step_add rfl (ev_mk rfl) (ev_mk rfl) (w64 (by omega))) trivial ?_
                refine rl0 (gn rfl) rfl rfl (step_as rfl rfl) trivial ?_
                refine runsL_nil ?_
                refine ⟨_, _, ?_, sle ?_ (Nat.le_refl _), (y + 1), _, _, rfl, rfl, by omega, (fun k_ hk_ => by repeat (first | exact hf1 k_ hk_ | exact hf0 k_ hk_ | refine uN (by first | assumption | omega) ?_ | fail)), by first | ((repeat (first | exact uE | assumption | refine uN (by omega) ?_ | fail)); done) | exact tl_eq (by repeat (first | exact uE | assumption | refine uN (by omega) ?_ | fail)) (by first | rfl | (simp [bytesV, beB_len]; done) | (simp [bytesV, beB_len]; omega) | omega), by first | ((repeat (first | exact uE | assumption | refine uN (by omega) ?_ | fail)); done) | exact tl_eq (by repeat (first | exact uE | assumption | refine uN (by omega) ?_ | fail)) (by first | rfl | (simp [bytesV, beB_len]; done) | (simp [bytesV, beB_len]; omega) | omega), by first | ((repeat (first | exact uE | assumption | refine uN (by omega) ?_ | fail)); done) | exact tl_eq (by repeat (first | exact uE | assumption | refine uN (by omega) ?_ | fail)) (by first | rfl | (simp [bytesV, beB_len]; done) | (simp [bytesV, beB_len]; omega) | omega), by omega, all_s hF1_1 hc_⟩
                · omega
                · (repeat' (first | exact trivial | refine ⟨⟨_, rfl, ?_⟩, ?_⟩ | fail)); all_goals (repeat' (first | exact VLe.refl _ | exact VLe.own_sl _ _ _ | exact VLe.fl_sl _ _ | exact VLe.nil_sl _ | exact VLe.nil_fl _ | exact VLes.refl _ | exact .nil | refine VLe.tup ?_ | refine VLe.agg ?_ | refine .cons ?_ ?_ | (rw [Int.natCast_add]; exact VLe.refl _) | exact vle_int (by omega) | exact vle_bool (by first | rfl | assumption | (simp_all; done) | fail) | fail))
            · skip
              refine' dl0 (gy rfl rfl rfl rfl rfl rfl) rfl rfl (step_load_all rfl rfl F.agg26 ?hl) ⟨?hb, trivial⟩ ?_
              case hb => repeat (first | exact uE | refine uN (by omega) ?_ | assumption | exact hd _ (by omega) | exact hd0 _ (by omega) | exact hd1 _ (by omega) | fail)
              case hl => first | rfl | (simp; done) | (first | (simp; done) | (simp; omega) | omega)
              refine dl0 (gy rfl rfl rfl rfl rfl rfl) rfl rfl (step_mv rfl rfl) trivial ?_
              refine dl0 (gy rfl rfl rfl rfl rfl rfl) rfl rfl (step_mv rfl rfl) trivial ?_
              refine dl0 (gy rfl rfl rfl rfl rfl rfl) rfl rfl (step_callc rfl Try.func12 rfl rfl rfl (rhas_c e f p q (x : Int) (y : Int)) (by repeat (first | exact .nil | refine .cons ?_ ?_ | exact VLe.refl _ | exact VLe.own_sl _ _ _ | exact VLe.fl_sl _ _ | exact VLe.nil_sl _ | exact VLe.nil_fl _ | refine VLe.agg ?_))) trivial ?_
              refine dl0 (gy rfl rfl rfl rfl rfl rfl) rfl rfl (step_pick rfl (ev_mk rfl) (ev_mk rfl)) trivial ?_
              refine' dl0 (gy rfl rfl rfl rfl rfl rfl) rfl rfl (step_load_all rfl rfl F.agg26 ?hl) ⟨?hb, trivial⟩ ?_
              case hb => repeat (first | exact uE | refine uN (by omega) ?_ | assumption | exact hd _ (by omega) | exact hd0 _ (by omega) | exact hd1 _ (by omega) | fail)
              case hl => first | rfl | (simp; done) | (first | (simp; done) | (simp; omega) | omega)
              refine dl0 (gy rfl rfl rfl rfl rfl rfl) rfl rfl (step_mv rfl rfl) trivial ?_
              refine dl0 (gy rfl rfl rfl rfl rfl rfl) rfl rfl (step_mv rfl rfl) trivial ?_
              refine dl0 (gy rfl rfl rfl rfl rfl rfl) rfl rfl (step_callc rfl Try.func12 rfl rfl rfl (rhas_c r1 r2 r3 r4 (x : Int) (y : Int)) (by repeat (first | exact .nil | refine .cons ?_ ?_ | exact VLe.refl _ | exact VLe.own_sl _ _ _ | exact VLe.fl_sl _ _ | exact VLe.nil_sl _ | exact VLe.nil_fl _ | refine VLe.agg ?_))) trivial ?_
              refine dl0 (gy rfl rfl rfl rfl rfl rfl) rfl rfl (step_neqb rfl (ev_mk rfl) (ev_mk rfl) Try.underlying4) trivial ?_
              refine dl0 (gn rfl) rfl rfl (step_pick rfl (ev_mk rfl) (ev_mk rfl)) trivial ?_
              refine dlnil ?_ ?_
              · repeat' (first | exact trivial | exact .inr (ap0 _ _ _ _) | exact .inr (ap2 _ _ _ _) | exact .inr (ap3 _ _ _ _) | exact .inr ⟨by first | (simp; done) | (simp; omega), by first | (simp; done) | (simp; omega)⟩ | exact .inl (by kernel_rfl) | refine ⟨?_, ?_⟩ | fail)
              refine runs_cond _ (ev_mk rfl) (fun h5 => ?_) (fun h5 => ?_)
              · skip
                refine runs_seq ?_
                refine runs_region ?_
                have hc_ : celF a b c d e f p q r1 r2 r3 r4 x y = false := by unfold celF celB; simp_all
                have hem_ := jn_f (by omega) (by omega) hc_
                refine rl0 (gn rfl) rfl rfl (step_as rfl rfl) trivial ?_
                refine runsL_nil ?_
                refine runs_ret ?_
                refine ⟨by first | exact .inr rfl | exact .inl rfl, fin_mkg (rest rfl res0) ?_ ?_ ?_ ?_ ?_⟩
                · (repeat' (first | exact VLe.refl _ | exact VLe.own_sl _ _ _ | exact VLe.fl_sl _ _ | exact VLe.nil_sl _ | exact VLe.nil_fl _ | exact VLes.refl _ | exact .nil | refine VLe.tup ?_ | refine VLe.agg ?_ | refine .cons ?_ ?_ | (rw [Int.natCast_add]; exact VLe.refl _) | exact vle_int (by omega) | exact vle_bool (by first | rfl | assumption | (simp_all; done) | fail) | fail))
                · repeat (first | exact trivial | assumption | omega | (refine bdR_map (fun _ => ?_)) | (refine bdL_map (fun _ => ?_)) | refine ⟨?_, ?_⟩ | fail)
                · intro k_ hk_; exact ble (by repeat (first | exact rfl | refine uN (by omega) ?_ | assumption | exact hf0 _ (by omega) | exact hf1 _ (by omega) | fail))
                · intro p hp; cases hp
                · repeat (first | exact trivial | assumption | omega | (refine bdR_map (fun _ => ?_)) | (refine bdL_map (fun _ => ?_)) | refine ⟨?_, ?_⟩ | fail)
              · skip
                have hc_ : celF a b c d e f p q r1 r2 r3 r4 x y = true := by unfold celF celB; simp_all
                refine runs_skip ?_
                refine runs_region ?_
                refine rl0 (gn rfl) rfl rfl (step_mv rfl rfl) trivial ?_
                refine rl0 (gn rfl) rfl rfl (step_add rfl (ev_mk rfl) (ev_mk rfl) (w64 (by omega))) trivial ?_
                refine rl0 (gn rfl) rfl rfl (step_as rfl rfl) trivial ?_
                refine runsL_nil ?_
                refine ⟨_, _, ?_, sle ?_ (Nat.le_refl _), (y + 1), _, _, rfl, rfl, by omega, (fun k_ hk_ => by repeat (first | exact hf1 k_ hk_ | exact hf0 k_ hk_ | refine uN (by first | assumption | omega) ?_ | fail)), by first | ((repeat (first | exact uE | assumption | refine uN (by omega) ?_ | fail)); done) | exact tl_eq (by repeat (first | exact uE | assumption | refine uN (by omega) ?_ | fail)) (by first | rfl | (simp [bytesV, beB_len]; done) | (simp [bytesV, beB_len]; omega) | omega), by first | ((repeat (first | exact uE | assumption | refine uN (by omega) ?_ | fail)); done) | exact tl_eq (by repeat (first | exact uE | assumption | refine uN (by omega) ?_ | fail)) (by first | rfl | (simp [bytesV, beB_len]; done) | (simp [bytesV, beB_len]; omega) | omega), by first | ((repeat (first | exact uE | assumption | refine uN (by omega) ?_ | fail)); done) | exact tl_eq (by repeat (first | exact uE | assumption | refine uN (by omega) ?_ | fail)) (by first | rfl | (simp [bytesV, beB_len]; done) | (simp [bytesV, beB_len]; omega) | omega), by omega, all_s hF1_1 hc_⟩
                · omega
                · (repeat' (first | exact trivial | refine ⟨⟨_, rfl, ?_⟩, ?_⟩ | fail)); all_goals (repeat' (first | exact VLe.refl _ | exact VLe.own_sl _ _ _ | exact VLe.fl_sl _ _ | exact VLe.nil_sl _ | exact VLe.nil_fl _ | exact VLes.refl _ | exact .nil | refine VLe.tup ?_ | refine VLe.agg ?_ | refine .cons ?_ ?_ | (rw [Int.natCast_add]; exact VLe.refl _) | exact vle_int (by omega) | exact vle_bool (by first | rfl | assumption | (simp_all; done) | fail) | fail))
        · skip
          obtain rfl : y = 8 := by omega
          refine runsL_nil ?_
          refine runs_cond false (ev_mk rfl) (fun h_ => nomatch h_) (fun _ => ?_)
          refine runs_exit ?_
          refine runs_region ?_
          refine rl0 (gn rfl) rfl rfl (step_mv rfl rfl) trivial ?_
          refine rl0 (gn rfl) rfl rfl (step_add rfl (ev_mk rfl) (ev_mk rfl) (w64 (by omega))) trivial ?_
          refine rl0 (gn rfl) rfl rfl (step_as rfl rfl) trivial ?_
          refine runsL_nil ?_
          refine ⟨_, _, ?_, sle ?_ (Nat.le_refl _), (x + 1), _, _, rfl, rfl, by omega, (fun k_ hk_ => by repeat (first | exact hf0 k_ hk_ | exact hf1 k_ hk_ | refine uN (by first | assumption | omega) ?_ | fail)), by first | ((repeat (first | exact uE | assumption | refine uN (by omega) ?_ | fail)); done) | exact tl_eq (by repeat (first | exact uE | assumption | refine uN (by omega) ?_ | fail)) (by first | rfl | (simp [bytesV, beB_len]; done) | (simp [bytesV, beB_len]; omega) | omega), by first | ((repeat (first | exact uE | assumption | refine uN (by omega) ?_ | fail)); done) | exact tl_eq (by repeat (first | exact uE | assumption | refine uN (by omega) ?_ | fail)) (by first | rfl | (simp [bytesV, beB_len]; done) | (simp [bytesV, beB_len]; omega) | omega), by first | ((repeat (first | exact uE | assumption | refine uN (by omega) ?_ | fail)); done) | exact tl_eq (by repeat (first | exact uE | assumption | refine uN (by omega) ?_ | fail)) (by first | rfl | (simp [bytesV, beB_len]; done) | (simp [bytesV, beB_len]; omega) | omega), by omega, all_s hF0_1 hF1_1⟩
          · omega
          · (repeat' (first | exact trivial | refine ⟨⟨_, rfl, ?_⟩, ?_⟩ | fail)); all_goals (repeat' (first | exact VLe.refl _ | exact VLe.own_sl _ _ _ | exact VLe.fl_sl _ _ | exact VLe.nil_sl _ | exact VLe.nil_fl _ | exact VLes.refl _ | exact .nil | refine VLe.tup ?_ | refine VLe.agg ?_ | refine .cons ?_ ?_ | (rw [Int.natCast_add]; exact VLe.refl _) | exact vle_int (by omega) | exact vle_bool (by first | rfl | assumption | (simp_all; done) | fail) | fail))
    · skip
      obtain rfl : x = 8 := by omega
      have hem_ : true = jnF a b c d e f p q r1 r2 r3 r4 := hF0_1.symm
      refine runsL_nil ?_
      refine runs_cond false (ev_mk rfl) (fun h_ => nomatch h_) (fun _ => ?_)
      refine runs_exit ?_
      refine runs_seq ?_
      refine runs_region ?_
      refine rl0 (gn rfl) rfl rfl (step_as rfl rfl) trivial ?_
      refine runsL_nil ?_
      refine runs_ret ?_
      refine ⟨by first | exact .inr rfl | exact .inl rfl, fin_mkg (rest rfl res0) ?_ ?_ ?_ ?_ ?_⟩
      · (repeat' (first | exact VLe.refl _ | exact VLe.own_sl _ _ _ | exact VLe.fl_sl _ _ | exact VLe.nil_sl _ | exact VLe.nil_fl _ | exact VLes.refl _ | exact .nil | refine VLe.tup ?_ | refine VLe.agg ?_ | refine .cons ?_ ?_ | (rw [Int.natCast_add]; exact VLe.refl _) | exact vle_int (by omega) | exact vle_bool (by first | rfl | assumption | (simp_all; done) | fail) | fail))
      · repeat (first | exact trivial | assumption | omega | (refine bdR_map (fun _ => ?_)) | (refine bdL_map (fun _ => ?_)) | refine ⟨?_, ?_⟩ | fail)
      · intro k_ hk_; exact ble (by repeat (first | exact rfl | refine uN (by omega) ?_ | assumption | exact hf0 _ (by omega) | fail))
      · intro p hp; cases hp
      · repeat (first | exact trivial | assumption | omega | (refine bdR_map (fun _ => ?_)) | (refine bdL_map (fun _ => ?_)) | refine ⟨?_, ?_⟩ | fail)
set_option maxRecDepth 100000 in
set_option maxHeartbeats 4000000 in
theorem rjoin_no (a b c d e f p q : Int) (h : riF a b c d = false ∨ riF e f p q = false) : Does Try.prog 14 [.agg (bxB a b c d), .agg (bxB e f p q)] [] [] (.tup [.agg (bxB 0 0 0 0), .sc (.bool false)]) := by
  refine does_mkg 40 Try.func14 rfl rfl rfl (fun n B bx hd hpre hup hvs hbx hgx => ?_)
  refine runs_seq ?_
  refine runs_region ?_
  refine rl1 (gn rfl) rfl rfl (step_box_agg (k := n + 0) rfl rfl) ⟨by repeat (first | exact uE | refine uN (by omega) ?_ | assumption | exact hd _ (by omega) | fail), trivial⟩ (by omega) ?_
  refine rl1 (gn rfl) rfl rfl (step_box_agg (k := n + 1) rfl rfl) ⟨by repeat (first | exact uE | refine uN (by omega) ?_ | assumption | exact hd _ (by omega) | fail), trivial⟩ (by omega) ?_
  refine rl1 (gn rfl) rfl rfl (step_allocc (k := n + 2) (zs := [.int .i64 0, .int .i64 0, .int .i64 0, .int .i64 0]) (cs := [.sc (.int .i64 0), .sc (.int .i64 0), .sc (.int .i64 0), .sc (.int .i64 0)]) rfl F.zero26 (by first | rfl | simp) (by first | rfl | decide | simp) (by first | rfl | simp)) ⟨by repeat (first | exact uE | refine uN (by omega) ?_ | assumption | exact hd _ (by omega) | fail), trivial⟩ (by omega) ?_
  refine rl0 (gn rfl) rfl rfl (step_as rfl rfl) trivial ?_
  refine runsL_nil ?_
  refine runs_seq ?_
  refine runs_seq ?_
  refine runs_region ?_
  refine' rl0 (gn rfl) rfl rfl (step_load_all rfl rfl F.agg26 ?hl) ⟨?hb, trivial⟩ ?_
  case hb => repeat (first | exact uE | refine uN (by omega) ?_ | assumption | exact hd _ (by omega) | fail)
  case hl => first | rfl | (simp; done) | (first | (simp; done) | (simp; omega) | omega)
  refine rl0 (gn rfl) rfl rfl (step_callc rfl Try.func9 rfl rfl rfl (rright_c a b c d) (by repeat (first | exact .nil | refine .cons ?_ ?_ | exact VLe.refl _ | exact VLe.own_sl _ _ _ | exact VLe.fl_sl _ _ | exact VLe.nil_sl _ | exact VLe.nil_fl _ | refine VLe.agg ?_))) trivial ?_
  refine rl0 (gn rfl) rfl rfl (step_unOp rfl (ev_mk rfl) (fun _ => rfl)) trivial ?_
  refine rl0 (gn rfl) rfl rfl (step_mv rfl rfl) trivial ?_
  refine rl_bool (d := 10) rfl (fun h1 => ?_) (fun h1 => ?_)
  · skip
    refine rlk rfl rfl rfl rfl rfl (ngb rfl rfl) rfl rfl ?_
    refine rlk rfl rfl rfl rfl rfl (ngb rfl rfl) rfl rfl ?_
    refine rlk rfl rfl rfl rfl rfl (ngb rfl rfl) rfl rfl ?_
    refine rl0 (gn rfl) rfl rfl (step_pick rfl (ev_mk rfl) (ev_mk rfl)) trivial ?_
    refine runsL_nil ?_
    refine runs_cond true (ev_mk rfl) (fun _ => ?_) (fun h_ => nomatch h_)
    refine runs_seq ?_
    refine runs_region ?_
    refine rl0 (gn rfl) rfl rfl (step_build (ss := [1, 1, 1, 1]) (zs := [.int .i64 0, .int .i64 0, .int .i64 0, .int .i64 0]) rfl Try.underlying26 (by kernel_rfl) F.zero26 rfl rfl rfl) trivial ?_
    refine' rls (gn rfl) rfl (step_storeA rfl rfl rfl rfl F.agg26 ?hm ?hl) ⟨?hb, trivial⟩ ?hk ?_
    case hb => repeat (first | exact uE | refine uN (by omega) ?_ | assumption | exact hd _ (by omega) | fail)
    case hm => first | rfl | (simp; done) | (first | (simp; done) | (simp; omega) | omega)
    case hl => first | rfl | (simp; done) | (first | (simp; done) | (simp; omega) | omega)
    case hk => omega
    refine rl0 (gn rfl) rfl rfl (step_as rfl rfl) trivial ?_
    refine runsL_nil ?_
    refine runs_ret ?_
    refine ⟨by first | exact .inr rfl | exact .inl rfl, fin_mkg (resc rfl (by repeat (first | exact uE | refine uN (by omega) ?_ | assumption | exact hd _ (by omega) | fail)) F.agg26 (by first | rfl | (simp; done) | (first | (simp; done) | (simp; omega) | omega)) (rest rfl res0)) ?_ ?_ ?_ ?_ ?_⟩
    · (repeat' (first | exact VLe.refl _ | exact VLe.own_sl _ _ _ | exact VLe.fl_sl _ _ | exact VLe.nil_sl _ | exact VLe.nil_fl _ | exact VLes.refl _ | exact .nil | refine VLe.tup ?_ | refine VLe.agg ?_ | refine .cons ?_ ?_ | (rw [Int.natCast_add]; exact VLe.refl _) | exact vle_int (by omega) | exact vle_bool (by first | rfl | assumption | (simp_all; done) | fail) | fail))
    · repeat (first | exact trivial | assumption | omega | (refine bdR_map (fun _ => ?_)) | (refine bdL_map (fun _ => ?_)) | refine ⟨?_, ?_⟩ | fail)
    · intro k_ hk_; exact ble (by repeat (first | exact rfl | refine uN (by omega) ?_ | assumption | fail))
    · intro p hp; cases hp
    · repeat (first | exact trivial | assumption | omega | (refine bdR_map (fun _ => ?_)) | (refine bdL_map (fun _ => ?_)) | refine ⟨?_, ?_⟩ | fail)
  · skip
    refine' rl0 (gy rfl rfl rfl rfl rfl rfl) rfl rfl (step_load_all rfl rfl F.agg26 ?hl) ⟨?hb, trivial⟩ ?_
    case hb => repeat (first | exact uE | refine uN (by omega) ?_ | assumption | exact hd _ (by omega) | fail)
    case hl => first | rfl | (simp; done) | (first | (simp; done) | (simp; omega) | omega)
    refine rl0 (gy rfl rfl rfl rfl rfl rfl) rfl rfl (step_callc rfl Try.func9 rfl rfl rfl (rright_c e f p q) (by repeat (first | exact .nil | refine .cons ?_ ?_ | exact VLe.refl _ | exact VLe.own_sl _ _ _ | exact VLe.fl_sl _ _ | exact VLe.nil_sl _ | exact VLe.nil_fl _ | refine VLe.agg ?_))) trivial ?_
    refine rl0 (gy rfl rfl rfl rfl rfl rfl) rfl rfl (step_unOp rfl (ev_mk rfl) (fun _ => rfl)) trivial ?_
    refine rl0 (gn rfl) rfl rfl (step_pick rfl (ev_mk rfl) (ev_mk rfl)) trivial ?_
    refine runsL_nil ?_
    refine runs_cond _ (ev_mk rfl) (fun h2 => ?_) (fun h2 => ?_)
    · skip
      refine runs_seq ?_
      refine runs_region ?_
      refine rl0 (gn rfl) rfl rfl (step_build (ss := [1, 1, 1, 1]) (zs := [.int .i64 0, .int .i64 0, .int .i64 0, .int .i64 0]) rfl Try.underlying26 (by kernel_rfl) F.zero26 rfl rfl rfl) trivial ?_
      refine' rls (gn rfl) rfl (step_storeA rfl rfl rfl rfl F.agg26 ?hm ?hl) ⟨?hb, trivial⟩ ?hk ?_
      case hb => repeat (first | exact uE | refine uN (by omega) ?_ | assumption | exact hd _ (by omega) | fail)
      case hm => first | rfl | (simp; done) | (first | (simp; done) | (simp; omega) | omega)
      case hl => first | rfl | (simp; done) | (first | (simp; done) | (simp; omega) | omega)
      case hk => omega
      refine rl0 (gn rfl) rfl rfl (step_as rfl rfl) trivial ?_
      refine runsL_nil ?_
      refine runs_ret ?_
      refine ⟨by first | exact .inr rfl | exact .inl rfl, fin_mkg (resc rfl (by repeat (first | exact uE | refine uN (by omega) ?_ | assumption | exact hd _ (by omega) | fail)) F.agg26 (by first | rfl | (simp; done) | (first | (simp; done) | (simp; omega) | omega)) (rest rfl res0)) ?_ ?_ ?_ ?_ ?_⟩
      · (repeat' (first | exact VLe.refl _ | exact VLe.own_sl _ _ _ | exact VLe.fl_sl _ _ | exact VLe.nil_sl _ | exact VLe.nil_fl _ | exact VLes.refl _ | exact .nil | refine VLe.tup ?_ | refine VLe.agg ?_ | refine .cons ?_ ?_ | (rw [Int.natCast_add]; exact VLe.refl _) | exact vle_int (by omega) | exact vle_bool (by first | rfl | assumption | (simp_all; done) | fail) | fail))
      · repeat (first | exact trivial | assumption | omega | (refine bdR_map (fun _ => ?_)) | (refine bdL_map (fun _ => ?_)) | refine ⟨?_, ?_⟩ | fail)
      · intro k_ hk_; exact ble (by repeat (first | exact rfl | refine uN (by omega) ?_ | assumption | fail))
      · intro p hp; cases hp
      · repeat (first | exact trivial | assumption | omega | (refine bdR_map (fun _ => ?_)) | (refine bdL_map (fun _ => ?_)) | refine ⟨?_, ?_⟩ | fail)
    · skip
      exact False.elim (by simp_all)
set_option maxRecDepth 100000 in
set_option maxHeartbeats 4000000 in
theorem rjoin_ok (a b c d e f p q : Int) (h1 : riF a b c d = true) (h2 : riF e f p q = true) : Does Try.prog 14 [.agg (bxB a b c d), .agg (bxB e f p q)] [] [] (.tup [.agg (bxB (mnI a e) (mnI b f) (mxI c p) (mxI d q)), .sc (.bool (jnF a b c d e f p q (mnI a e) (mnI b f) (mxI c p) (mxI d q)))]) := by
  refine does_mkg 40 Try.func14 rfl rfl rfl (fun n B bx hd hpre hup hvs hbx hgx => ?_)
  refine runs_seq ?_
  refine runs_region ?_
  refine rl1 (gn rfl) rfl rfl (step_box_agg (k := n + 0) rfl rfl) ⟨by repeat (first | exact uE | refine uN (by omega) ?_ | assumption | exact hd _ (by omega) | fail), trivial⟩ (by omega) ?_
  refine rl1 (gn rfl) rfl rfl (step_box_agg (k := n + 1) rfl rfl) ⟨by repeat (first | exact uE | refine uN (by omega) ?_ | assumption | exact hd _ (by omega) | fail), trivial⟩ (by omega) ?_
  refine rl1 (gn rfl) rfl rfl (step_allocc (k := n + 2) (zs := [.int .i64 0, .int .i64 0, .int .i64 0, .int .i64 0]) (cs := [.sc (.int .i64 0), .sc (.int .i64 0), .sc (.int .i64 0), .sc (.int .i64 0)]) rfl F.zero26 (by first | rfl | simp) (by first | rfl | decide | simp) (by first | rfl | simp)) ⟨by repeat (first | exact uE | refine uN (by omega) ?_ | assumption | exact hd _ (by omega) | fail), trivial⟩ (by omega) ?_
  refine rl0 (gn rfl) rfl rfl (step_as rfl rfl) trivial ?_
  refine runsL_nil ?_
  refine runs_seq ?_
  refine runs_seq ?_
  refine runs_region ?_
  refine' rl0 (gn rfl) rfl rfl (step_load_all rfl rfl F.agg26 ?hl) ⟨?hb, trivial⟩ ?_
  case hb => repeat (first | exact uE | refine uN (by omega) ?_ | assumption | exact hd _ (by omega) | fail)
  case hl => first | rfl | (simp; done) | (first | (simp; done) | (simp; omega) | omega)
  refine rl0 (gn rfl) rfl rfl (step_callc rfl Try.func9 rfl rfl rfl (rright_c a b c d) (by repeat (first | exact .nil | refine .cons ?_ ?_ | exact VLe.refl _ | exact VLe.own_sl _ _ _ | exact VLe.fl_sl _ _ | exact VLe.nil_sl _ | exact VLe.nil_fl _ | refine VLe.agg ?_))) trivial ?_
  refine rl_know (d := 8) (c := true) rfl (h1) ?_
  refine rl0 (gn rfl) rfl rfl (step_unOp (c := .bool false) rfl (ev_mk rfl) (fun _ => rfl)) trivial ?_
  refine rl0 (gn rfl) rfl rfl (step_mv rfl rfl) trivial ?_
  refine' rl0 (gy rfl rfl rfl rfl rfl rfl) rfl rfl (step_load_all rfl rfl F.agg26 ?hl) ⟨?hb, trivial⟩ ?_
  case hb => repeat (first | exact uE | refine uN (by omega) ?_ | assumption | exact hd _ (by omega) | fail)
  case hl => first | rfl | (simp; done) | (first | (simp; done) | (simp; omega) | omega)
  refine rl0 (gy rfl rfl rfl rfl rfl rfl) rfl rfl (step_callc rfl Try.func9 rfl rfl rfl (rright_c e f p q) (by repeat (first | exact .nil | refine .cons ?_ ?_ | exact VLe.refl _ | exact VLe.own_sl _ _ _ | exact VLe.fl_sl _ _ | exact VLe.nil_sl _ | exact VLe.nil_fl _ | refine VLe.agg ?_))) trivial ?_
  refine rl_know (d := 12) (c := true) rfl (h2) ?_
  refine rl0 (gy rfl rfl rfl rfl rfl rfl) rfl rfl (step_unOp (c := .bool false) rfl (ev_mk rfl) (fun _ => rfl)) trivial ?_
  refine rl0 (gn rfl) rfl rfl (step_pick rfl (ev_mk rfl) (ev_mk rfl)) trivial ?_
  refine runsL_nil ?_
  refine runs_cond false (ev_mk rfl) (fun h_ => nomatch h_) (fun _ => ?_)
  refine runs_skip ?_
  refine runs_seq ?_
  refine runs_region ?_
  refine' rl0 (gn rfl) rfl rfl (step_load_all rfl rfl F.agg26 ?hl) ⟨?hb, trivial⟩ ?_
  case hb => repeat (first | exact uE | refine uN (by omega) ?_ | assumption | exact hd _ (by omega) | fail)
  case hl => first | rfl | (simp; done) | (first | (simp; done) | (simp; omega) | omega)
  refine rl1 (gn rfl) rfl rfl (step_allocc (k := n + 3) (zs := [.int .i64 0, .int .i64 0, .int .i64 0, .int .i64 0]) (cs := [.sc (.int .i64 0), .sc (.int .i64 0), .sc (.int .i64 0), .sc (.int .i64 0)]) rfl F.zero26 (by first | rfl | simp) (by first | rfl | decide | simp) (by first | rfl | simp)) ⟨by repeat (first | exact uE | refine uN (by omega) ?_ | assumption | exact hd _ (by omega) | fail), trivial⟩ (by omega) ?_
  refine' rls (gn rfl) rfl (step_storeA rfl rfl rfl rfl F.agg26 ?hm ?hl) ⟨?hb, trivial⟩ ?hk ?_
  case hb => repeat (first | exact uE | refine uN (by omega) ?_ | assumption | exact hd _ (by omega) | fail)
  case hm => first | rfl | (simp; done) | (first | (simp; done) | (simp; omega) | omega)
  case hl => first | rfl | (simp; done) | (first | (simp; done) | (simp; omega) | omega)
  case hk => omega
  refine runsL_nil ?_
  refine runs_seq ?_
  refine runs_seq ?_
  refine runs_region ?_
  refine rl0 (gn rfl) rfl rfl (step_fieldAddr (off := 0) rfl (ev_mk rfl) Try.underlying26 rfl F.sz3 rfl) trivial ?_
  refine' rl0 (gn rfl) rfl rfl (step_load_one rfl (ev_mk rfl) F.one3 ?hv) ⟨?hb, trivial⟩ ?_
  case hb => repeat (first | exact uE | refine uN (by omega) ?_ | assumption | exact hd _ (by omega) | fail)
  case hv => rfl
  refine rl0 (gn rfl) rfl rfl (step_fieldAddr (off := 0) rfl (ev_mk rfl) Try.underlying26 rfl F.sz3 rfl) trivial ?_
  refine' rl0 (gn rfl) rfl rfl (step_load_one rfl (ev_mk rfl) F.one3 ?hv) ⟨?hb, trivial⟩ ?_
  case hb => repeat (first | exact uE | refine uN (by omega) ?_ | assumption | exact hd _ (by omega) | fail)
  case hv => rfl
  refine rl_lss (gn rfl) rfl rfl rfl rfl rfl (fun h1 => ?_) (fun h1 => ?_)
  · skip
    have e0_ : mnI a e = e := if_pos (by omega)
    refine runsL_nil ?_
    refine runs_cond true (ev_mk rfl) (fun _ => ?_) (fun h_ => nomatch h_)
    refine runs_region ?_
    refine rl0 (gn rfl) rfl rfl (step_fieldAddr (off := 0) rfl (ev_mk rfl) Try.underlying26 rfl F.sz3 rfl) trivial ?_
    refine' rl0 (gn rfl) rfl rfl (step_load_one rfl (ev_mk rfl) F.one3 ?hv) ⟨?hb, trivial⟩ ?_
    case hb => repeat (first | exact uE | refine uN (by omega) ?_ | assumption | exact hd _ (by omega) | fail)
    case hv => rfl
    refine rl0 (gn rfl) rfl rfl (step_fieldAddr (off := 0) rfl (ev_mk rfl) Try.underlying26 rfl F.sz3 rfl) trivial ?_
    refine' rls (gn rfl) rfl (step_store1 rfl rfl rfl rfl F.one3 rfl rfl ?hl ?hc) ⟨?hb, trivial⟩ ?hk ?_
    case hb => repeat (first | exact uE | refine uN (by omega) ?_ | assumption | exact hd _ (by omega) | fail)
    case hl => first | exact Nat.le_of_ble_eq_true rfl | decide | (simp; done) | (simp; omega) | (first | (simp; done) | (simp; omega) | omega)
    case hc => first | (simp only [List.set_cons_succ, List.set_cons_zero]; rfl) | rfl
    case hk => omega
    refine runsL_nil ?_
    refine runs_seq ?_
    refine runs_seq ?_
    refine runs_region ?_
    refine rl0 (gn rfl) rfl rfl (step_fieldAddr (off := 1) rfl (ev_mk rfl) Try.underlying26 rfl F.sz3 rfl) trivial ?_
    refine' rl0 (gn rfl) rfl rfl (step_load_one rfl (ev_mk rfl) F.one3 ?hv) ⟨?hb, trivial⟩ ?_
    case hb => repeat (first | exact uE | refine uN (by omega) ?_ | assumption | exact hd _ (by omega) | fail)
    case hv => rfl
    refine rl0 (gn rfl) rfl rfl (step_fieldAddr (off := 1) rfl (ev_mk rfl) Try.underlying26 rfl F.sz3 rfl) trivial ?_
    refine' rl0 (gn rfl) rfl rfl (step_load_one rfl (ev_mk rfl) F.one3 ?hv) ⟨?hb, trivial⟩ ?_
    case hb => repeat (first | exact uE | refine uN (by omega) ?_ | assumption | exact hd _ (by omega) | fail)
    case hv => rfl
    refine rl_lss (gn rfl) rfl rfl rfl rfl rfl (fun h2 => ?_) (fun h2 => ?_)
    · skip
      have e1_ : mnI b f = f := if_pos (by omega)
      refine runsL_nil ?_
      refine runs_cond true (ev_mk rfl) (fun _ => ?_) (fun h_ => nomatch h_)
      refine runs_region ?_
      refine rl0 (gn rfl) rfl rfl (step_fieldAddr (off := 1) rfl (ev_mk rfl) Try.underlying26 rfl F.sz3 rfl) trivial ?_
      refine' rl0 (gn rfl) rfl rfl (step_load_one rfl (ev_mk rfl) F.one3 ?hv) ⟨?hb, trivial⟩ ?_
      case hb => repeat (first | exact uE | refine uN (by omega) ?_ | assumption | exact hd _ (by omega) | fail)
      case hv => rfl
      refine rl0 (gn rfl) rfl rfl (step_fieldAddr (off := 1) rfl (ev_mk rfl) Try.underlying26 rfl F.sz3 rfl) trivial ?_
      refine' rls (gn rfl) rfl (step_store1 rfl rfl rfl rfl F.one3 rfl rfl ?hl ?hc) ⟨?hb, trivial⟩ ?hk ?_
      case hb => repeat (first | exact uE | refine uN (by omega) ?_ | assumption | exact hd _ (by omega) | fail)
      case hl => first | exact Nat.le_of_ble_eq_true rfl | decide | (simp; done) | (simp; omega) | (first | (simp; done) | (simp; omega) | omega)
      case hc => first | (simp only [List.set_cons_succ, List.set_cons_zero]; rfl) | rfl
      case hk => omega
      refine runsL_nil ?_
      refine runs_seq ?_
      refine runs_seq ?_
      refine runs_region ?_
      refine rl0 (gn rfl) rfl rfl (step_fieldAddr (off := 2) rfl (ev_mk rfl) Try.underlying26 rfl F.sz3 rfl) trivial ?_
      refine' rl0 (gn rfl) rfl rfl (step_load_one rfl (ev_mk rfl) F.one3 ?hv) ⟨?hb, trivial⟩ ?_
      case hb => repeat (first | exact uE | refine uN (by omega) ?_ | assumption | exact hd _ (by omega) | fail)
      case hv => rfl
      refine rl0 (gn rfl) rfl rfl (step_fieldAddr (off := 2) rfl (ev_mk rfl) Try.underlying26 rfl F.sz3 rfl) trivial ?_
      refine' rl0 (gn rfl) rfl rfl (step_load_one rfl (ev_mk rfl) F.one3 ?hv) ⟨?hb, trivial⟩ ?_
      case hb => repeat (first | exact uE | refine uN (by omega) ?_ | assumption | exact hd _ (by omega) | fail)
      case hv => rfl
      refine rl_gtr (gn rfl) rfl rfl rfl rfl rfl (fun h3 => ?_) (fun h3 => ?_)
      · skip
        have e2_ : mxI c p = p := if_pos (by omega)
        refine runsL_nil ?_
        refine runs_cond true (ev_mk rfl) (fun _ => ?_) (fun h_ => nomatch h_)
        refine runs_region ?_
        refine rl0 (gn rfl) rfl rfl (step_fieldAddr (off := 2) rfl (ev_mk rfl) Try.underlying26 rfl F.sz3 rfl) trivial ?_
        refine' rl0 (gn rfl) rfl rfl (step_load_one rfl (ev_mk rfl) F.one3 ?hv) ⟨?hb, trivial⟩ ?_
        case hb => repeat (first | exact uE | refine uN (by omega) ?_ | assumption | exact hd _ (by omega) | fail)
        case hv => rfl
        refine rl0 (gn rfl) rfl rfl (step_fieldAddr (off := 2) rfl (ev_mk rfl) Try.underlying26 rfl F.sz3 rfl) trivial ?_
        refine' rls (gn rfl) rfl (step_store1 rfl rfl rfl rfl F.one3 rfl rfl ?hl ?hc) ⟨?hb, trivial⟩ ?hk ?_
        case hb => repeat (first | exact uE | refine uN (by omega) ?_ | assumption | exact hd _ (by omega) | fail)
        case hl => first | exact Nat.le_of_ble_eq_true rfl | decide | (simp; done) | (simp; omega) | (first | (simp; done) | (simp; omega) | omega)
        case hc => first | (simp only [List.set_cons_succ, List.set_cons_zero]; rfl) | rfl
        case hk => omega
        refine runsL_nil ?_
        refine runs_seq ?_
        refine runs_seq ?_
        refine runs_region ?_
        refine rl0 (gn rfl) rfl rfl (step_fieldAddr (off := 3) rfl (ev_mk rfl) Try.underlying26 rfl F.sz3 rfl) trivial ?_
        refine' rl0 (gn rfl) rfl rfl (step_load_one rfl (ev_mk rfl) F.one3 ?hv) ⟨?hb, trivial⟩ ?_
        case hb => repeat (first | exact uE | refine uN (by omega) ?_ | assumption | exact hd _ (by omega) | fail)
        case hv => rfl
        refine rl0 (gn rfl) rfl rfl (step_fieldAddr (off := 3) rfl (ev_mk rfl) Try.underlying26 rfl F.sz3 rfl) trivial ?_
        refine' rl0 (gn rfl) rfl rfl (step_load_one rfl (ev_mk rfl) F.one3 ?hv) ⟨?hb, trivial⟩ ?_
        case hb => repeat (first | exact uE | refine uN (by omega) ?_ | assumption | exact hd _ (by omega) | fail)
        case hv => rfl
        refine rl_gtr (gn rfl) rfl rfl rfl rfl rfl (fun h4 => ?_) (fun h4 => ?_)
        · skip
          have e3_ : mxI d q = q := if_pos (by omega)
          refine runsL_nil ?_
          refine runs_cond true (ev_mk rfl) (fun _ => ?_) (fun h_ => nomatch h_)
          refine runs_region ?_
          refine rl0 (gn rfl) rfl rfl (step_fieldAddr (off := 3) rfl (ev_mk rfl) Try.underlying26 rfl F.sz3 rfl) trivial ?_
          refine' rl0 (gn rfl) rfl rfl (step_load_one rfl (ev_mk rfl) F.one3 ?hv) ⟨?hb, trivial⟩ ?_
          case hb => repeat (first | exact uE | refine uN (by omega) ?_ | assumption | exact hd _ (by omega) | fail)
          case hv => rfl
          refine rl0 (gn rfl) rfl rfl (step_fieldAddr (off := 3) rfl (ev_mk rfl) Try.underlying26 rfl F.sz3 rfl) trivial ?_
          refine' rls (gn rfl) rfl (step_store1 rfl rfl rfl rfl F.one3 rfl rfl ?hl ?hc) ⟨?hb, trivial⟩ ?hk ?_
          case hb => repeat (first | exact uE | refine uN (by omega) ?_ | assumption | exact hd _ (by omega) | fail)
          case hl => first | exact Nat.le_of_ble_eq_true rfl | decide | (simp; done) | (simp; omega) | (first | (simp; done) | (simp; omega) | omega)
          case hc => first | (simp only [List.set_cons_succ, List.set_cons_zero]; rfl) | rfl
          case hk => omega
          refine runsL_nil ?_
          refine runs_seq ?_
          refine runs_draw (by kernel_rfl) (by kernel_rfl) (by kernel_rfl) ?_
          refine' dl0 (gn rfl) rfl rfl (step_load_all rfl rfl F.agg26 ?hl) ⟨?hb, trivial⟩ ?_
          case hb => repeat (first | exact uE | refine uN (by omega) ?_ | assumption | exact hd _ (by omega) | fail)
          case hl => first | rfl | (simp; done) | (first | (simp; done) | (simp; omega) | omega)
          refine' dl0 (gn rfl) rfl rfl (step_load_all rfl rfl F.agg26 ?hl) ⟨?hb, trivial⟩ ?_
          case hb => repeat (first | exact uE | refine uN (by omega) ?_ | assumption | exact hd _ (by omega) | fail)
          case hl => first | rfl | (simp; done) | (first | (simp; done) | (simp; omega) | omega)
          refine' dl0 (gn rfl) rfl rfl (step_load_all rfl rfl F.agg26 ?hl) ⟨?hb, trivial⟩ ?_
          case hb => repeat (first | exact uE | refine uN (by omega) ?_ | assumption | exact hd _ (by omega) | fail)
          case hl => first | rfl | (simp; done) | (first | (simp; done) | (simp; omega) | omega)
          refine' dl0 (gn rfl) rfl rfl (step_load_all rfl rfl F.agg26 ?hl) ⟨?hb, trivial⟩ ?_
          case hb => repeat (first | exact uE | refine uN (by omega) ?_ | assumption | exact hd _ (by omega) | fail)
          case hl => first | rfl | (simp; done) | (first | (simp; done) | (simp; omega) | omega)
          refine dl0 (gn rfl) rfl rfl (step_callc rfl Try.func30 rfl rfl rfl (joined_c a b c d e f p q e f p q) (by repeat (first | exact .nil | refine .cons ?_ ?_ | exact VLe.refl _ | exact VLe.own_sl _ _ _ | exact VLe.fl_sl _ _ | exact VLe.nil_sl _ | exact VLe.nil_fl _ | refine VLe.agg ?_))) trivial ?_
          refine' dls (gn rfl) rfl (step_storeA rfl rfl rfl rfl F.agg26 ?hm ?hl) ⟨?hb, trivial⟩ ?hk ?_
          case hb => repeat (first | exact uE | refine uN (by omega) ?_ | assumption | exact hd _ (by omega) | fail)
          case hm => first | rfl | (simp; done) | (first | (simp; done) | (simp; omega) | omega)
          case hl => first | rfl | (simp; done) | (first | (simp; done) | (simp; omega) | omega)
          case hk => omega
          refine dl0 (gn rfl) rfl rfl (step_as rfl rfl) trivial ?_
          refine dlnil ?_ ?_
          · repeat' (first | exact trivial | exact .inr (ap0 _ _ _ _) | exact .inr (ap2 _ _ _ _) | exact .inr (ap3 _ _ _ _) | exact .inr ⟨by first | (simp; done) | (simp; omega), by first | (simp; done) | (simp; omega)⟩ | exact .inl (by kernel_rfl) | refine ⟨?_, ?_⟩ | fail)
          refine runs_ret ?_
          refine ⟨by first | exact .inr rfl | exact .inl rfl, fin_mkg (resc rfl (by repeat (first | exact uE | refine uN (by omega) ?_ | assumption | exact hd _ (by omega) | fail)) F.agg26 (by first | rfl | (simp; done) | (first | (simp; done) | (simp; omega) | omega)) (rest rfl res0)) ?_ ?_ ?_ ?_ ?_⟩
          · (repeat' (first | exact VLe.refl _ | exact VLe.own_sl _ _ _ | exact VLe.fl_sl _ _ | exact VLe.nil_sl _ | exact VLe.nil_fl _ | exact VLes.refl _ | exact .nil | refine VLe.tup ?_ | refine VLe.agg ?_ | refine .cons ?_ ?_ | (rw [Int.natCast_add]; exact VLe.refl _) | exact vle_int (by omega) | exact vle_bool (by first | rfl | assumption | (simp_all; done) | fail) | (exact vle_int e0_.symm) | (exact vle_int e1_.symm) | (exact vle_int e2_.symm) | (exact vle_int e3_.symm) | (exact vle_bool (by rw [e0_, e1_, e2_, e3_])) | fail))
          · repeat (first | exact trivial | assumption | omega | (refine bdR_map (fun _ => ?_)) | (refine bdL_map (fun _ => ?_)) | refine ⟨?_, ?_⟩ | fail)
          · intro k_ hk_; exact ble (by repeat (first | exact rfl | refine uN (by omega) ?_ | assumption | fail))
          · intro p hp; cases hp
          · repeat (first | exact trivial | assumption | omega | (refine bdR_map (fun _ => ?_)) | (refine bdL_map (fun _ => ?_)) | refine ⟨?_, ?_⟩ | fail)
        · skip
          have e3_ : mxI d q = d := if_neg (by omega)
          refine runsL_nil ?_
          refine runs_cond false (ev_mk rfl) (fun h_ => nomatch h_) (fun _ => ?_)
          refine runs_skip ?_
          refine runs_seq ?_
          refine runs_draw (by kernel_rfl) (by kernel_rfl) (by kernel_rfl) ?_
          refine' dl0 (gn rfl) rfl rfl (step_load_all rfl rfl F.agg26 ?hl) ⟨?hb, trivial⟩ ?_
          case hb => repeat (first | exact uE | refine uN (by omega) ?_ | assumption | exact hd _ (by omega) | fail)
          case hl => first | rfl | (simp; done) | (first | (simp; done) | (simp; omega) | omega)
          refine' dl0 (gn rfl) rfl rfl (step_load_all rfl rfl F.agg26 ?hl) ⟨?hb, trivial⟩ ?_
          case hb => repeat (first | exact uE | refine uN (by omega) ?_ | assumption | exact hd _ (by omega) | fail)
          case hl => first | rfl | (simp; done) | (first | (simp; done) | (simp; omega) | omega)
          refine' dl0 (gn rfl) rfl rfl (step_load_all rfl rfl F.agg26 ?hl) ⟨?hb, trivial⟩ ?_
          case hb => repeat (first | exact uE | refine uN (by omega) ?_ | assumption | exact hd _ (by omega) | fail)
          case hl => first | rfl | (simp; done) | (first | (simp; done) | (simp; omega) | omega)
          refine' dl0 (gn rfl) rfl rfl (step_load_all rfl rfl F.agg26 ?hl) ⟨?hb, trivial⟩ ?_
          case hb => repeat (first | exact uE | refine uN (by omega) ?_ | assumption | exact hd _ (by omega) | fail)
          case hl => first | rfl | (simp; done) | (first | (simp; done) | (simp; omega) | omega)
          refine dl0 (gn rfl) rfl rfl (step_callc rfl Try.func30 rfl rfl rfl (joined_c a b c d e f p q e f p d) (by repeat (first | exact .nil | refine .cons ?_ ?_ | exact VLe.refl _ | exact VLe.own_sl _ _ _ | exact VLe.fl_sl _ _ | exact VLe.nil_sl _ | exact VLe.nil_fl _ | refine VLe.agg ?_))) trivial ?_
          refine' dls (gn rfl) rfl (step_storeA rfl rfl rfl rfl F.agg26 ?hm ?hl) ⟨?hb, trivial⟩ ?hk ?_
          case hb => repeat (first | exact uE | refine uN (by omega) ?_ | assumption | exact hd _ (by omega) | fail)
          case hm => first | rfl | (simp; done) | (first | (simp; done) | (simp; omega) | omega)
          case hl => first | rfl | (simp; done) | (first | (simp; done) | (simp; omega) | omega)
          case hk => omega
          refine dl0 (gn rfl) rfl rfl (step_as rfl rfl) trivial ?_
          refine dlnil ?_ ?_
          · repeat' (first | exact trivial | exact .inr (ap0 _ _ _ _) | exact .inr (ap2 _ _ _ _) | exact .inr (ap3 _ _ _ _) | exact .inr ⟨by first | (simp; done) | (simp; omega), by first | (simp; done) | (simp; omega)⟩ | exact .inl (by kernel_rfl) | refine ⟨?_, ?_⟩ | fail)
          refine runs_ret ?_
          refine ⟨by first | exact .inr rfl | exact .inl rfl, fin_mkg (resc rfl (by repeat (first | exact uE | refine uN (by omega) ?_ | assumption | exact hd _ (by omega) | fail)) F.agg26 (by first | rfl | (simp; done) | (first | (simp; done) | (simp; omega) | omega)) (rest rfl res0)) ?_ ?_ ?_ ?_ ?_⟩
          · (repeat' (first | exact VLe.refl _ | exact VLe.own_sl _ _ _ | exact VLe.fl_sl _ _ | exact VLe.nil_sl _ | exact VLe.nil_fl _ | exact VLes.refl _ | exact .nil | refine VLe.tup ?_ | refine VLe.agg ?_ | refine .cons ?_ ?_ | (rw [Int.natCast_add]; exact VLe.refl _) | exact vle_int (by omega) | exact vle_bool (by first | rfl | assumption | (simp_all; done) | fail) | (exact vle_int e0_.symm) | (exact vle_int e1_.symm) | (exact vle_int e2_.symm) | (exact vle_int e3_.symm) | (exact vle_bool (by rw [e0_, e1_, e2_, e3_])) | fail))
          · repeat (first | exact trivial | assumption | omega | (refine bdR_map (fun _ => ?_)) | (refine bdL_map (fun _ => ?_)) | refine ⟨?_, ?_⟩ | fail)
          · intro k_ hk_; exact ble (by repeat (first | exact rfl | refine uN (by omega) ?_ | assumption | fail))
          · intro p hp; cases hp
          · repeat (first | exact trivial | assumption | omega | (refine bdR_map (fun _ => ?_)) | (refine bdL_map (fun _ => ?_)) | refine ⟨?_, ?_⟩ | fail)
      · skip
        have e2_ : mxI c p = c := if_neg (by omega)
        refine runsL_nil ?_
        refine runs_cond false (ev_mk rfl) (fun h_ => nomatch h_) (fun _ => ?_)
        refine runs_skip ?_
        refine runs_seq ?_
        refine runs_seq ?_
        refine runs_region ?_
        refine rl0 (gn rfl) rfl rfl (step_fieldAddr (off := 3) rfl (ev_mk rfl) Try.underlying26 rfl F.sz3 rfl) trivial ?_
        refine' rl0 (gn rfl) rfl rfl (step_load_one rfl (ev_mk rfl) F.one3 ?hv) ⟨?hb, trivial⟩ ?_
        case hb => repeat (first | exact uE | refine uN (by omega) ?_ | assumption | exact hd _ (by omega) | fail)
        case hv => rfl
        refine rl0 (gn rfl) rfl rfl (step_fieldAddr (off := 3) rfl (ev_mk rfl) Try.underlying26 rfl F.sz3 rfl) trivial ?_
        refine' rl0 (gn rfl) rfl rfl (step_load_one rfl (ev_mk rfl) F.one3 ?hv) ⟨?hb, trivial⟩ ?_
        case hb => repeat (first | exact uE | refine uN (by omega) ?_ | assumption | exact hd _ (by omega) | fail)
        case hv => rfl
        refine rl_gtr (gn rfl) rfl rfl rfl rfl rfl (fun h4 => ?_) (fun h4 => ?_)
        · skip
          have e3_ : mxI d q = q := if_pos (by omega)
          refine runsL_nil ?_
          refine runs_cond true (ev_mk rfl) (fun _ => ?_) (fun h_ => nomatch h_)
          refine runs_region ?_
          refine rl0 (gn rfl) rfl rfl (step_fieldAddr (off := 3) rfl (ev_mk rfl) Try.underlying26 rfl F.sz3 rfl) trivial ?_
          refine' rl0 (gn rfl) rfl rfl (step_load_one rfl (ev_mk rfl) F.one3 ?hv) ⟨?hb, trivial⟩ ?_
          case hb => repeat (first | exact uE | refine uN (by omega) ?_ | assumption | exact hd _ (by omega) | fail)
          case hv => rfl
          refine rl0 (gn rfl) rfl rfl (step_fieldAddr (off := 3) rfl (ev_mk rfl) Try.underlying26 rfl F.sz3 rfl) trivial ?_
          refine' rls (gn rfl) rfl (step_store1 rfl rfl rfl rfl F.one3 rfl rfl ?hl ?hc) ⟨?hb, trivial⟩ ?hk ?_
          case hb => repeat (first | exact uE | refine uN (by omega) ?_ | assumption | exact hd _ (by omega) | fail)
          case hl => first | exact Nat.le_of_ble_eq_true rfl | decide | (simp; done) | (simp; omega) | (first | (simp; done) | (simp; omega) | omega)
          case hc => first | (simp only [List.set_cons_succ, List.set_cons_zero]; rfl) | rfl
          case hk => omega
          refine runsL_nil ?_
          refine runs_seq ?_
          refine runs_draw (by kernel_rfl) (by kernel_rfl) (by kernel_rfl) ?_
          refine' dl0 (gn rfl) rfl rfl (step_load_all rfl rfl F.agg26 ?hl) ⟨?hb, trivial⟩ ?_
          case hb => repeat (first | exact uE | refine uN (by omega) ?_ | assumption | exact hd _ (by omega) | fail)
          case hl => first | rfl | (simp; done) | (first | (simp; done) | (simp; omega) | omega)
          refine' dl0 (gn rfl) rfl rfl (step_load_all rfl rfl F.agg26 ?hl) ⟨?hb, trivial⟩ ?_
          case hb => repeat (first | exact uE | refine uN (by omega) ?_ | assumption | exact hd _ (by omega) | fail)
          case hl => first | rfl | (simp; done) | (first | (simp; done) | (simp; omega) | omega)
          refine' dl0 (gn rfl) rfl rfl (step_load_all rfl rfl F.agg26 ?hl) ⟨?hb, trivial⟩ ?_
          case hb => repeat (first | exact uE | refine uN (by omega) ?_ | assumption | exact hd _ (by omega) | fail)
          case hl => first | rfl | (simp; done) | (first | (simp; done) | (simp; omega) | omega)
          refine' dl0 (gn rfl) rfl rfl (step_load_all rfl rfl F.agg26 ?hl) ⟨?hb, trivial⟩ ?_
          case hb => repeat (first | exact uE | refine uN (by omega) ?_ | assumption | exact hd _ (by omega) | fail)
          case hl => first | rfl | (simp; done) | (first | (simp; done) | (simp; omega) | omega)
          refine dl0 (gn rfl) rfl rfl (step_callc rfl Try.func30 rfl rfl rfl (joined_c a b c d e f p q e f c q) (by repeat (first | exact .nil | refine .cons ?_ ?_ | exact VLe.refl _ | exact VLe.own_sl _ _ _ | exact VLe.fl_sl _ _ | exact VLe.nil_sl _ | exact VLe.nil_fl _ | refine VLe.agg ?_))) trivial ?_
          refine' dls (gn rfl) rfl (step_storeA rfl rfl rfl rfl F.agg26 ?hm ?hl) ⟨?hb, trivial⟩ ?hk ?_
          case hb => repeat (first | exact uE | refine uN (by omega) ?_ | assumption | exact hd _ (by omega) | fail)
          case hm => first | rfl | (simp; done) | (first | (simp; done) | (simp; omega) | omega)
          case hl => first | rfl | (simp; done) | (first | (simp; done) | (simp; omega) | omega)
          case hk => omega
          refine dl0 (gn rfl) rfl rfl (step_as rfl rfl) trivial ?_
          refine dlnil ?_ ?_
          · repeat' (first | exact trivial | exact .inr (ap0 _ _ _ _) | exact .inr (ap2 _ _ _ _) | exact .inr (ap3 _ _ _ _) | exact .inr ⟨by first | (simp; done) | (simp; omega), by first | (simp; done) | (simp; omega)⟩ | exact .inl (by kernel_rfl) | refine ⟨?_, ?_⟩ | fail)
          refine runs_ret ?_
          refine ⟨by first | exact .inr rfl | exact .inl rfl, fin_mkg (resc rfl (by repeat (first | exact uE | refine uN (by omega) ?_ | assumption | exact hd _ (by omega) | fail)) F.agg26 (by first | rfl | (simp; done) | (first | (simp; done) | (simp; omega) | omega)) (rest rfl res0)) ?_ ?_ ?_ ?_ ?_⟩
          · (repeat' (first | exact VLe.refl _ | exact VLe.own_sl _ _ _ | exact VLe.fl_sl _ _ | exact VLe.nil_sl _ | exact VLe.nil_fl _ | exact VLes.refl _ | exact .nil | refine VLe.tup ?_ | refine VLe.agg ?_ | refine .cons ?_ ?_ | (rw [Int.natCast_add]; exact VLe.refl _) | exact vle_int (by omega) | exact vle_bool (by first | rfl | assumption | (simp_all; done) | fail) | (exact vle_int e0_.symm) | (exact vle_int e1_.symm) | (exact vle_int e2_.symm) | (exact vle_int e3_.symm) | (exact vle_bool (by rw [e0_, e1_, e2_, e3_])) | fail))
          · repeat (first | exact trivial | assumption | omega | (refine bdR_map (fun _ => ?_)) | (refine bdL_map (fun _ => ?_)) | refine ⟨?_, ?_⟩ | fail)
          · intro k_ hk_; exact ble (by repeat (first | exact rfl | refine uN (by omega) ?_ | assumption | fail))
          · intro p hp; cases hp
          · repeat (first | exact trivial | assumption | omega | (refine bdR_map (fun _ => ?_)) | (refine bdL_map (fun _ => ?_)) | refine ⟨?_, ?_⟩ | fail)
        · skip
          have e3_ : mxI d q = d := if_neg (by omega)
          refine runsL_nil ?_
          refine runs_cond false (ev_mk rfl) (fun h_ => nomatch h_) (fun _ => ?_)
          refine runs_skip ?_
          refine runs_seq ?_
          refine runs_draw (by kernel_rfl) (by kernel_rfl) (by kernel_rfl) ?_
          refine' dl0 (gn rfl) rfl rfl (step_load_all rfl rfl F.agg26 ?hl) ⟨?hb, trivial⟩ ?_
          case hb => repeat (first | exact uE | refine uN (by omega) ?_ | assumption | exact hd _ (by omega) | fail)
          case hl => first | rfl | (simp; done) | (first | (simp; done) | (simp; omega) | omega)
          refine' dl0 (gn rfl) rfl rfl (step_load_all rfl rfl F.agg26 ?hl) ⟨?hb, trivial⟩ ?_
          case hb => repeat (first | exact uE | refine uN (by omega) ?_ | assumption | exact hd _ (by omega) | fail)
          case hl => first | rfl | (simp; done) | (first | (simp; done) | (simp; omega) | omega)
          refine' dl0 (gn rfl) rfl rfl (step_load_all rfl rfl F.agg26 ?hl) ⟨?hb, trivial⟩ ?_
          case hb => repeat (first | exact uE | refine uN (by omega) ?_ | assumption | exact hd _ (by omega) | fail)
          case hl => first | rfl | (simp; done) | (first | (simp; done) | (simp; omega) | omega)
          refine' dl0 (gn rfl) rfl rfl (step_load_all rfl rfl F.agg26 ?hl) ⟨?hb, trivial⟩ ?_
          case hb => repeat (first | exact uE | refine uN (by omega) ?_ | assumption | exact hd _ (by omega) | fail)
          case hl => first | rfl | (simp; done) | (first | (simp; done) | (simp; omega) | omega)
          refine dl0 (gn rfl) rfl rfl (step_callc rfl Try.func30 rfl rfl rfl (joined_c a b c d e f p q e f c d) (by repeat (first | exact .nil | refine .cons ?_ ?_ | exact VLe.refl _ | exact VLe.own_sl _ _ _ | exact VLe.fl_sl _ _ | exact VLe.nil_sl _ | exact VLe.nil_fl _ | refine VLe.agg ?_))) trivial ?_
          refine' dls (gn rfl) rfl (step_storeA rfl rfl rfl rfl F.agg26 ?hm ?hl) ⟨?hb, trivial⟩ ?hk ?_
          case hb => repeat (first | exact uE | refine uN (by omega) ?_ | assumption | exact hd _ (by omega) | fail)
          case hm => first | rfl | (simp; done) | (first | (simp; done) | (simp; omega) | omega)
          case hl => first | rfl | (simp; done) | (first | (simp; done) | (simp; omega) | omega)
          case hk => omega
          refine dl0 (gn rfl) rfl rfl (step_as rfl rfl) trivial ?_
          refine dlnil ?_ ?_
          · repeat' (first | exact trivial | exact .inr (ap0 _ _ _ _) | exact .inr (ap2 _ _ _ _) | exact .inr (ap3 _ _ _ _) | exact .inr ⟨by first | (simp; done) | (simp; omega), by first | (simp; done) | (simp; omega)⟩ | exact .inl (by kernel_rfl) | refine ⟨?_, ?_⟩ | fail)
          refine runs_ret ?_
          refine ⟨by first | exact .inr rfl | exact .inl rfl, fin_mkg (resc rfl (by repeat (first | exact uE | refine uN (by omega) ?_ | assumption | exact hd _ (by omega) | fail)) F.agg26 (by first | rfl | (simp; done) | (first | (simp; done) | (simp; omega) | omega)) (rest rfl res0)) ?_ ?_ ?_ ?_ ?_⟩
          · (repeat' (first | exact VLe.refl _ | exact VLe.own_sl _ _ _ | exact VLe.fl_sl _ _ | exact VLe.nil_sl _ | exact VLe.nil_fl _ | exact VLes.refl _ | exact .nil | refine VLe.tup ?_ | refine VLe.agg ?_ | refine .cons ?_ ?_ | (rw [Int.natCast_add]; exact VLe.refl _) | exact vle_int (by omega) | exact vle_bool (by first | rfl | assumption | (simp_all; done) | fail) | (exact vle_int e0_.symm) | (exact vle_int e1_.symm) | (exact vle_int e2_.symm) | (exact vle_int e3_.symm) | (exact vle_bool (by rw [e0_, e1_, e2_, e3_])) | fail))
          · repeat (first | exact trivial | assumption | omega | (refine bdR_map (fun _ => ?_)) | (refine bdL_map (fun _ => ?_)) | refine ⟨?_, ?_⟩ | fail)
          · intro k_ hk_; exact ble (by repeat (first | exact rfl | refine uN (by omega) ?_ | assumption | fail))
          · intro p hp; cases hp
          · repeat (first | exact trivial | assumption | omega | (refine bdR_map (fun _ => ?_)) | (refine bdL_map (fun _ => ?_)) | refine ⟨?_, ?_⟩ | fail)
    · skip
      have e1_ : mnI b f = b := if_neg (by omega)
      refine runsL_nil ?_
      refine runs_cond false (ev_mk rfl) (fun h_ => nomatch h_) (fun _ => ?_)
      refine runs_skip ?_
      refine runs_seq ?_
      refine runs_seq ?_
      refine runs_region ?_
      refine rl0 (gn rfl) rfl rfl (step_fieldAddr (off := 2) rfl (ev_mk rfl) Try.underlying26 rfl F.sz3 rfl) trivial ?_
      refine' rl0 (gn rfl) rfl rfl (step_load_one rfl (ev_mk rfl) F.one3 ?hv) ⟨?hb, trivial⟩ ?_
      case hb => repeat (first | exact uE | refine uN (by omega) ?_ | assumption | exact hd _ (by omega) | fail)
      case hv => rfl
      refine rl0 (gn rfl) rfl rfl (step_fieldAddr (off := 2) rfl (ev_mk rfl) Try.underlying26 rfl F.sz3 rfl) trivial ?_
      refine' rl0 (gn rfl) rfl rfl (step_load_one rfl (ev_mk rfl) F.one3 ?hv) ⟨?hb, trivial⟩ ?_
      case hb => repeat (first | exact uE | refine uN (by omega) ?_ | assumption | exact hd _ (by omega) | fail)
      case hv => rfl
      refine rl_gtr (gn rfl) rfl rfl rfl rfl rfl (fun h3 => ?_) (fun h3 => ?_)
      · skip
        have e2_ : mxI c p = p := if_pos (by omega)
        refine runsL_nil ?_
        refine runs_cond true (ev_mk rfl) (fun _ => ?_) (fun h_ => nomatch h_)
        refine runs_region ?_
        refine rl0 (gn rfl) rfl rfl (step_fieldAddr (off := 2) rfl (ev_mk rfl) Try.underlying26 rfl F.sz3 rfl) trivial ?_
        refine' rl0 (gn rfl) rfl rfl (step_load_one rfl (ev_mk rfl) F.one3 ?hv) ⟨?hb, trivial⟩ ?_
        case hb => repeat (first | exact uE | refine uN (by omega) ?_ | assumption | exact hd _ (by omega) | fail)
        case hv => rfl
        refine rl0 (gn rfl) rfl rfl (step_fieldAddr (off := 2) rfl (ev_mk rfl) Try.underlying26 rfl F.sz3 rfl) trivial ?_
        refine' rls (gn rfl) rfl (step_store1 rfl rfl rfl rfl F.one3 rfl rfl ?hl ?hc) ⟨?hb, trivial⟩ ?hk ?_
        case hb => repeat (first | exact uE | refine uN (by omega) ?_ | assumption | exact hd _ (by omega) | fail)
        case hl => first | exact Nat.le_of_ble_eq_true rfl | decide | (simp; done) | (simp; omega) | (first | (simp; done) | (simp; omega) | omega)
        case hc => first | (simp only [List.set_cons_succ, List.set_cons_zero]; rfl) | rfl
        case hk => omega
        refine runsL_nil ?_
        refine runs_seq ?_
        refine runs_seq ?_
        refine runs_region ?_
        refine rl0 (gn rfl) rfl rfl (step_fieldAddr (off := 3) rfl (ev_mk rfl) Try.underlying26 rfl F.sz3 rfl) trivial ?_
        refine' rl0 (gn rfl) rfl rfl (step_load_one rfl (ev_mk rfl) F.one3 ?hv) ⟨?hb, trivial⟩ ?_
        case hb => repeat (first | exact uE | refine uN (by omega) ?_ | assumption | exact hd _ (by omega) | fail)
        case hv => rfl
        refine rl0 (gn rfl) rfl rfl (step_fieldAddr (off := 3) rfl (ev_mk rfl) Try.underlying26 rfl F.sz3 rfl) trivial ?_
        refine' rl0 (gn rfl) rfl rfl (step_load_one rfl (ev_mk rfl) F.one3 ?hv) ⟨?hb, trivial⟩ ?_
        case hb => repeat (first | exact uE | refine uN (by omega) ?_ | assumption | exact hd _ (by omega) | fail)
        case hv => rfl
        refine rl_gtr (gn rfl) rfl rfl rfl rfl rfl (fun h4 => ?_) (fun h4 => ?_)
        · skip
          have e3_ : mxI d q = q := if_pos (by omega)
          refine runsL_nil ?_
          refine runs_cond true (ev_mk rfl) (fun _ => ?_) (fun h_ => nomatch h_)
          refine runs_region ?_
          refine rl0 (gn rfl) rfl rfl (step_fieldAddr (off := 3) rfl (ev_mk rfl) Try.underlying26 rfl F.sz3 rfl) trivial ?_
          refine' rl0 (gn rfl) rfl rfl (step_load_one rfl (ev_mk rfl) F.one3 ?hv) ⟨?hb, trivial⟩ ?_
          case hb => repeat (first | exact uE | refine uN (by omega) ?_ | assumption | exact hd _ (by omega) | fail)
          case hv => rfl
          refine rl0 (gn rfl) rfl rfl (step_fieldAddr (off := 3) rfl (ev_mk rfl) Try.underlying26 rfl F.sz3 rfl) trivial ?_
          refine' rls (gn rfl) rfl (step_store1 rfl rfl rfl rfl F.one3 rfl rfl ?hl ?hc) ⟨?hb, trivial⟩ ?hk ?_
          case hb => repeat (first | exact uE | refine uN (by omega) ?_ | assumption | exact hd _ (by omega) | fail)
          case hl => first | exact Nat.le_of_ble_eq_true rfl | decide | (simp; done) | (simp; omega) | (first | (simp; done) | (simp; omega) | omega)
          case hc => first | (simp only [List.set_cons_succ, List.set_cons_zero]; rfl) | rfl
          case hk => omega
          refine runsL_nil ?_
          refine runs_seq ?_
          refine runs_draw (by kernel_rfl) (by kernel_rfl) (by kernel_rfl) ?_
          refine' dl0 (gn rfl) rfl rfl (step_load_all rfl rfl F.agg26 ?hl) ⟨?hb, trivial⟩ ?_
          case hb => repeat (first | exact uE | refine uN (by omega) ?_ | assumption | exact hd _ (by omega) | fail)
          case hl => first | rfl | (simp; done) | (first | (simp; done) | (simp; omega) | omega)
          refine' dl0 (gn rfl) rfl rfl (step_load_all rfl rfl F.agg26 ?hl) ⟨?hb, trivial⟩ ?_
          case hb => repeat (first | exact uE | refine uN (by omega) ?_ | assumption | exact hd _ (by omega) | fail)
          case hl => first | rfl | (simp; done) | (first | (simp; done) | (simp; omega) | omega)
          refine' dl0 (gn rfl) rfl rfl (step_load_all rfl rfl F.agg26 ?hl) ⟨?hb, trivial⟩ ?_
          case hb => repeat (first | exact uE | refine uN (by omega) ?_ | assumption | exact hd _ (by omega) | fail)
          case hl => first | rfl | (simp; done) | (first | (simp; done) | (simp; omega) | omega)
          refine' dl0 (gn rfl) rfl rfl (step_load_all rfl rfl F.agg26 ?hl) ⟨?hb, trivial⟩ ?_
          case hb => repeat (first | exact uE | refine uN (by omega) ?_ | assumption | exact hd _ (by omega) | fail)
          case hl => first | rfl | (simp; done) | (first | (simp; done) | (simp; omega) | omega)
          refine dl0 (gn rfl) rfl rfl (step_callc rfl Try.func30 rfl rfl rfl (joined_c a b c d e f p q e b p q) (by repeat (first | exact .nil | refine .cons ?_ ?_ | exact VLe.refl _ | exact VLe.own_sl _ _ _ | exact VLe.fl_sl _ _ | exact VLe.nil_sl _ | exact VLe.nil_fl _ | refine VLe.agg ?_))) trivial ?_
          refine' dls (gn rfl) rfl (step_storeA rfl rfl rfl rfl F.agg26 ?hm ?hl) ⟨?hb, trivial⟩ ?hk ?_
          case hb => repeat (first | exact uE | refine uN (by omega) ?_ | assumption | exact hd _ (by omega) | fail)
          case hm => first | rfl | (simp; done) | (first | (simp; done) | (simp; omega) | omega)
          case hl => first | rfl | (simp; done) | (first | (simp; done) | (simp; omega) | omega)
          case hk => omega
          refine dl0 (gn rfl) rfl rfl (step_as rfl rfl) trivial ?_
          refine dlnil ?_ ?_
          · repeat' (first | exact trivial | exact .inr (ap0 _ _ _ _) | exact .inr (ap2 _ _ _ _) | exact .inr (ap3 _ _ _ _) | exact .inr ⟨by first | (simp; done) | (simp; omega), by first | (simp; done) | (simp; omega)⟩ | exact .inl (by kernel_rfl) | refine ⟨?_, ?_⟩ | fail)
          refine runs_ret ?_
          refine ⟨by first | exact .inr rfl | exact .inl rfl, fin_mkg (resc rfl (by repeat (first | exact uE | refine uN (by omega) ?_ | assumption | exact hd _ (by omega) | fail)) F.agg26 (by first | rfl | (simp; done) | (first | (simp; done) | (simp; omega) | omega)) (rest rfl res0)) ?_ ?_ ?_ ?_ ?_⟩
          · (repeat' (first | exact VLe.refl _ | exact VLe.own_sl _ _ _ | exact VLe.fl_sl _ _ | exact VLe.nil_sl _ | exact VLe.nil_fl _ | exact VLes.refl _ | exact .nil | refine VLe.tup ?_ | refine VLe.agg ?_ | refine .cons ?_ ?_ | (rw [Int.natCast_add]; exact VLe.refl _) | exact vle_int (by omega) | exact vle_bool (by first | rfl | assumption | (simp_all; done) | fail) | (exact vle_int e0_.symm) | (exact vle_int e1_.symm) | (exact vle_int e2_.symm) | (exact vle_int e3_.symm) | (exact vle_bool (by rw [e0_, e1_, e2_, e3_])) | fail))
          · repeat (first | exact trivial | assumption | omega | (refine bdR_map (fun _ => ?_)) | (refine bdL_map (fun _ => ?_)) | refine ⟨?_, ?_⟩ | fail)
          · intro k_ hk_; exact ble (by repeat (first | exact rfl | refine uN (by omega) ?_ | assumption | fail))
          · intro p hp; cases hp
          · repeat (first | exact trivial | assumption | omega | (refine bdR_map (fun _ => ?_)) | (refine bdL_map (fun _ => ?_)) | refine ⟨?_, ?_⟩ | fail)
        · skip
          have e3_ : mxI d q = d := if_neg (by omega)
          refine runsL_nil ?_
          refine runs_cond false (ev_mk rfl) (fun h_ => nomatch h_) (fun _ => ?_)
          refine runs_skip ?_
          refine runs_seq ?_
          refine runs_draw (by kernel_rfl) (by kernel_rfl) (by kernel_rfl) ?_
          refine' dl0 (gn rfl) rfl rfl (step_load_all rfl rfl F.agg26 ?hl) ⟨?hb, trivial⟩ ?_
          case hb => repeat (first | exact uE | refine uN (by omega) ?_ | assumption | exact hd _ (by omega) | fail)
          case hl => first | rfl | (simp; done) | (first | (simp; done) | (simp; omega) | omega)
          refine' dl0 (gn rfl) rfl rfl (step_load_all rfl rfl F.agg26 ?hl) ⟨?hb, trivial⟩ ?_
          case hb => repeat (first | exact uE | refine uN (by omega) ?_ | assumption | exact hd _ (by omega) | fail)
          case hl => first | rfl | (simp; done) | (first | (simp; done) | (simp; omega) | omega)
          refine' dl0 (gn rfl) rfl rfl (step_load_all rfl rfl F.agg26 ?hl) ⟨?hb, trivial⟩ ?_
          case hb => repeat (first | exact uE | refine uN (by omega) ?_ | assumption | exact hd _ (by omega) | fail)
          case hl => first | rfl | (simp; done) | (first | (simp; done) | (simp; omega) | omega)
          refine' dl0 (gn rfl) rfl rfl (step_load_all rfl rfl F.agg26 ?hl) ⟨?hb, trivial⟩ ?_
          case hb => repeat (first | exact uE | refine uN (by omega) ?_ | assumption | exact hd _ (by omega) | fail)
          case hl => first | rfl | (simp; done) | (first | (simp; done) | (simp; omega) | omega)
          refine dl0 (gn rfl) rfl rfl (step_callc rfl Try.func30 rfl rfl rfl (joined_c a b c d e f p q e b p d) (by repeat (first | exact .nil | refine .cons ?_ ?_ | exact VLe.refl _ | exact VLe.own_sl _ _ _ | exact VLe.fl_sl _ _ | exact VLe.nil_sl _ | exact VLe.nil_fl _ | refine VLe.agg ?_))) trivial ?_
          refine' dls (gn rfl) rfl (step_storeA rfl rfl rfl rfl F.agg26 ?hm ?hl) ⟨?hb, trivial⟩ ?hk ?_
          case hb => repeat (first | exact uE | refine uN (by omega) ?_ | assumption | exact hd _ (by omega) | fail)
          case hm => first | rfl | (simp; done) | (first | (simp; done) | (simp; omega) | omega)
          case hl => first | rfl | (simp; done) | (first | (simp; done) | (simp; omega) | omega)
          case hk => omega
          refine dl0 (gn rfl) rfl rfl (step_as rfl rfl) trivial ?_
          refine dlnil ?_ ?_
          · repeat' (first | exact trivial | exact .inr (ap0 _ _ _ _) | exact .inr (ap2 _ _ _ _) | exact .inr (ap3 _ _ _ _) | exact .inr ⟨by first | (simp; done) | (simp; omega), by first | (simp; done) | (simp; omega)⟩ | exact .inl (by kernel_rfl) | refine ⟨?_, ?_⟩ | fail)
          refine runs_ret ?_
          refine ⟨by first | exact .inr rfl | exact .inl rfl, fin_mkg (resc rfl (by repeat (first | exact uE | refine uN (by omega) ?_ | assumption | exact hd _ (by omega) | fail)) F.agg26 (by first | rfl | (simp; done) | (first | (simp; done) | (simp; omega) | omega)) (rest rfl res0)) ?_ ?_ ?_ ?_ ?_⟩
          · (repeat' (first | exact VLe.refl _ | exact VLe.own_sl _ _ _ | exact VLe.fl_sl _ _ | exact VLe.nil_sl _ | exact VLe.nil_fl _ | exact VLes.refl _ | exact .nil | refine VLe.tup ?_ | refine VLe.agg ?_ | refine .cons ?_ ?_ | (rw [Int.natCast_add]; exact VLe.refl _) | exact vle_int (by omega) | exact vle_bool (by first | rfl | assumption | (simp_all; done) | fail) | (exact vle_int e0_.symm) | (exact vle_int e1_.symm) | (exact vle_int e2_.symm) | (exact vle_int e3_.symm) | (exact vle_bool (by rw [e0_, e1_, e2_, e3_])) | fail))
          · repeat (first | exact trivial | assumption | omega | (refine bdR_map (fun _ => ?_)) | (refine bdL_map (fun _ => ?_)) | refine ⟨?_, ?_⟩ | fail)
          · intro k_ hk_; exact ble (by repeat (first | exact rfl | refine uN (by omega) ?_ | assumption | fail))
          · intro p hp; cases hp
          · repeat (first | exact trivial | assumption | omega | (refine bdR_map (fun _ => ?_)) | (refine bdL_map (fun _ => ?_)) | refine ⟨?_, ?_⟩ | fail)
      · skip
        have e2_ : mxI c p = c := if_neg (by omega)
        refine runsL_nil ?_
        refine runs_cond false (ev_mk rfl) (fun h_ => nomatch h_) (fun _ => ?_)
        refine runs_skip ?_
        refine runs_seq ?_
        refine runs_seq ?_
        refine runs_region ?_
        refine rl0 (gn rfl) rfl rfl (step_fieldAddr (off := 3) rfl (ev_mk rfl) Try.underlying26 rfl F.sz3 rfl) trivial ?_
        refine' rl0 (gn rfl) rfl rfl (step_load_one rfl (ev_mk rfl) F.one3 ?hv) ⟨?hb, trivial⟩ ?_
        case hb => repeat (first | exact uE | refine uN (by omega) ?_ | assumption | exact hd _ (by omega) | fail)
        case hv => rfl
        refine rl0 (gn rfl) rfl rfl (step_fieldAddr (off := 3) rfl (ev_mk rfl) Try.underlying26 rfl F.sz3 rfl) trivial ?_
        refine' rl0 (gn rfl) rfl rfl (step_load_one rfl (ev_mk rfl) F.one3 ?hv) ⟨?hb, trivial⟩ ?_
        case hb => repeat (first | exact uE | refine uN (by omega) ?_ | assumption | exact hd _ (by omega) | fail)
        case hv => rfl
        refine rl_gtr (gn rfl) rfl rfl rfl rfl rfl (fun h4 => ?_) (fun h4 => ?_)
        · skip
          have e3_ : mxI d q = q := if_pos (by omega)
          refine runsL_nil ?_
          refine runs_cond true (ev_mk rfl) (fun _ => ?_) (fun h_ => nomatch h_)
          refine runs_region ?_
          refine rl0 (gn rfl) rfl rfl (step_fieldAddr (off := 3) rfl (ev_mk rfl) Try.underlying26 rfl F.sz3 rfl) trivial ?_
          refine' rl0 (gn rfl) rfl rfl (step_load_one rfl (ev_mk rfl) F.one3 ?hv) ⟨?hb, trivial⟩ ?_
          case hb => repeat (first | exact uE | refine uN (by omega) ?_ | assumption | exact hd _ (by omega) | fail)
          case hv => rfl
          refine rl0 (gn rfl) rfl rfl (step_fieldAddr (off := 3) rfl (ev_mk rfl) Try.underlying26 rfl F.sz3 rfl) trivial ?_
          refine' rls (gn rfl) rfl (step_store1 rfl rfl rfl rfl F.one3 rfl rfl ?hl ?hc) ⟨?hb, trivial⟩ ?hk ?_
          case hb => repeat (first | exact uE | refine uN (by omega) ?_ | assumption | exact hd _ (by omega) | fail)
          case hl => first | exact Nat.le_of_ble_eq_true rfl | decide | (simp; done) | (simp; omega) | (first | (simp; done) | (simp; omega) | omega)
          case hc => first | (simp only [List.set_cons_succ, List.set_cons_zero]; rfl) | rfl
          case hk => omega
          refine runsL_nil ?_
          refine runs_seq ?_
          refine runs_draw (by kernel_rfl) (by kernel_rfl) (by kernel_rfl) ?_
          refine' dl0 (gn rfl) rfl rfl (step_load_all rfl rfl F.agg26 ?hl) ⟨?hb, trivial⟩ ?_
          case hb => repeat (first | exact uE | refine uN (by omega) ?_ | assumption | exact hd _ (by omega) | fail)
          case hl => first | rfl | (simp; done) | (first | (simp; done) | (simp; omega) | omega)
          refine' dl0 (gn rfl) rfl rfl (step_load_all rfl rfl F.agg26 ?hl) ⟨?hb, trivial⟩ ?_
          case hb => repeat (first | exact uE | refine uN (by omega) ?_ | assumption | exact hd _ (by omega) | fail)
          case hl => first | rfl | (simp; done) | (first | (simp; done) | (simp; omega) | omega)
          refine' dl0 (gn rfl) rfl rfl (step_load_all rfl rfl F.agg26 ?hl) ⟨?hb, trivial⟩ ?_
          case hb => repeat (first | exact uE | refine uN (by omega) ?_ | assumption | exact hd _ (by omega) | fail)
          case hl => first | rfl | (simp; done) | (first | (simp; done) | (simp; omega) | omega)
          refine' dl0 (gn rfl) rfl rfl (step_load_all rfl rfl F.agg26 ?hl) ⟨?hb, trivial⟩ ?_
          case hb => repeat (first | exact uE | refine uN (by omega) ?_ | assumption | exact hd _ (by omega) | fail)
          case hl => first | rfl | (simp; done) | (first | (simp; done) | (simp; omega) | omega)
          refine dl0 (gn rfl) rfl rfl (step_callc rfl Try.func30 rfl rfl rfl (joined_c a b c d e f p q e b c q) (by repeat (first | exact .nil | refine .cons ?_ ?_ | exact VLe.refl _ | exact VLe.own_sl _ _ _ | exact VLe.fl_sl _ _ | exact VLe.nil_sl _ | exact VLe.nil_fl _ | refine VLe.agg ?_))) trivial ?_
          refine' dls (gn rfl) rfl (step_storeA rfl rfl rfl rfl F.agg26 ?hm ?hl) ⟨?hb, trivial⟩ ?hk ?_
          case hb => repeat (first | exact uE | refine uN (by omega) ?_ | assumption | exact hd _ (by omega) | fail)
          case hm => first | rfl | (simp; done) | (first | (simp; done) | (simp; omega) | omega)
          case hl => first | rfl | (simp; done) | (first | (simp; done) | (simp; omega) | omega)
          case hk => omega
          refine dl0 (gn rfl) rfl rfl (step_as rfl rfl) trivial ?_
          refine dlnil ?_ ?_
          · repeat' (first | exact trivial | exact .inr (ap0 _ _ _ _) | exact .inr (ap2 _ _ _ _) | exact .inr (ap3 _ _ _ _) | exact .inr ⟨by first | (simp; done) | (simp; omega), by first | (simp; done) | (simp; omega)⟩ | exact .inl (by kernel_rfl) | refine ⟨?_, ?_⟩ | fail)
          refine runs_ret ?_
          refine ⟨by first | exact .inr rfl | exact .inl rfl, fin_mkg (resc rfl (by repeat (first | exact uE | refine uN (by omega) ?_ | assumption | exact hd _ (by omega) | fail)) F.agg26 (by first | rfl | (simp; done) | (first | (simp; done) | (simp; omega) | omega)) (rest rfl res0)) ?_ ?_ ?_ ?_ ?_⟩
          · (repeat' (first | exact VLe.refl _ | exact VLe.own_sl _ _ _ | exact VLe.fl_sl _ _ | exact VLe.nil_sl _ | exact VLe.nil_fl _ | exact VLes.refl _ | exact .nil | refine VLe.tup ?_ | refine VLe.agg ?_ | refine .cons ?_ ?_ | (rw [Int.natCast_add]; exact VLe.refl _) | exact vle_int (by omega) | exact vle_bool (by first | rfl | assumption | (simp_all; done) | fail) | (exact vle_int e0_.symm) | (exact vle_int e1_.symm) | (exact vle_int e2_.symm) | (exact vle_int e3_.symm) | (exact vle_bool (by rw [e0_, e1_, e2_, e3_])) | fail))
          · repeat (first | exact trivial | assumption | omega | (refine bdR_map (fun _ => ?_)) | (refine bdL_map (fun _ => ?_)) | refine ⟨?_, ?_⟩ | fail)
          · intro k_ hk_; exact ble (by repeat (first | exact rfl | refine uN (by omega) ?_ | assumption | fail))
          · intro p hp; cases hp
          · repeat (first | exact trivial | assumption | omega | (refine bdR_map (fun _ => ?_)) | (refine bdL_map (fun _ => ?_)) | refine ⟨?_, ?_⟩ | fail)
        · skip
          have e3_ : mxI d q = d := if_neg (by omega)
          refine runsL_nil ?_
          refine runs_cond false (ev_mk rfl) (fun h_ => nomatch h_) (fun _ => ?_)
          refine runs_skip ?_
          refine runs_seq ?_
          refine runs_draw (by kernel_rfl) (by kernel_rfl) (by kernel_rfl) ?_
          refine' dl0 (gn rfl) rfl rfl (step_load_all rfl rfl F.agg26 ?hl) ⟨?hb, trivial⟩ ?_
          case hb => repeat (first | exact uE | refine uN (by omega) ?_ | assumption | exact hd _ (by omega) | fail)
          case hl => first | rfl | (simp; done) | (first | (simp; done) | (simp; omega) | omega)
          refine' dl0 (gn rfl) rfl rfl (step_load_all rfl rfl F.agg26 ?hl) ⟨?hb, trivial⟩ ?_
          case hb => repeat (first | exact uE | refine uN (by omega) ?_ | assumption | exact hd _ (by omega) | fail)
          case hl => first | rfl | (simp; done) | (first | (simp; done) | (simp; omega) | omega)
          refine' dl0 (gn rfl) rfl rfl (step_load_all rfl rfl F.agg26 ?hl) ⟨?hb, trivial⟩ ?_
          case hb => repeat (first | exact uE | refine uN (by omega) ?_ | assumption | exact hd _ (by omega) | fail)
          case hl => first | rfl | (simp; done) | (first | (simp; done) | (simp; omega) | omega)
          refine' dl0 (gn rfl) rfl rfl (step_load_all rfl rfl F.agg26 ?hl) ⟨?hb, trivial⟩ ?_
          case hb => repeat (first | exact uE | refine uN (by omega) ?_ | assumption | exact hd _ (by omega) | fail)
          case hl => first | rfl | (simp; done) | (first | (simp; done) | (simp; omega) | omega)
          refine dl0 (gn rfl) rfl rfl (step_callc rfl Try.func30 rfl rfl rfl (joined_c a b c d e f p q e b c d) (by repeat (first | exact .nil | refine .cons ?_ ?_ | exact VLe.refl _ | exact VLe.own_sl _ _ _ | exact VLe.fl_sl _ _ | exact VLe.nil_sl _ | exact VLe.nil_fl _ | refine VLe.agg ?_))) trivial ?_
          refine' dls (gn rfl) rfl (step_storeA rfl rfl rfl rfl F.agg26 ?hm ?hl) ⟨?hb, trivial⟩ ?hk ?_
          case hb => repeat (first | exact uE | refine uN (by omega) ?_ | assumption | exact hd _ (by omega) | fail)
          case hm => first | rfl | (simp; done) | (first | (simp; done) | (simp; omega) | omega)
          case hl => first | rfl | (simp; done) | (first | (simp; done) | (simp; omega) | omega)
          case hk => omega
          refine dl0 (gn rfl) rfl rfl (step_as rfl rfl) trivial ?_
          refine dlnil ?_ ?_
          · repeat' (first | exact trivial | exact .inr (ap0 _ _ _ _) | exact .inr (ap2 _ _ _ _) | exact .inr (ap3 _ _ _ _) | exact .inr ⟨by first | (simp; done) | (simp; omega), by first | (simp; done) | (simp; omega)⟩ | exact .inl (by kernel_rfl) | refine ⟨?_, ?_⟩ | fail)
          refine runs_ret ?_
          refine ⟨by first | exact .inr rfl | exact .inl rfl, fin_mkg (resc rfl (by repeat (first | exact uE | refine uN (by omega) ?_ | assumption | exact hd _ (by omega) | fail)) F.agg26 (by first | rfl | (simp; done) | (first | (simp; done) | (simp; omega) | omega)) (rest rfl res0)) ?_ ?_ ?_ ?_ ?_⟩
          · (repeat' (first | exact VLe.refl _ | exact VLe.own_sl _ _ _ | exact VLe.fl_sl _ _ | exact VLe.nil_sl _ | exact VLe.nil_fl _ | exact VLes.refl _ | exact .nil | refine VLe.tup ?_ | refine VLe.agg ?_ | refine .cons ?_ ?_ | (rw [Int.natCast_add]; exact VLe.refl _) | exact vle_int (by omega) | exact vle_bool (by first | rfl | assumption | (simp_all; done) | fail) | (exact vle_int e0_.symm) | (exact vle_int e1_.symm) | (exact vle_int e2_.symm) | (exact vle_int e3_.symm) | (exact vle_bool (by rw [e0_, e1_, e2_, e3_])) | fail))
          · repeat (first | exact trivial | assumption | omega | (refine bdR_map (fun _ => ?_)) | (refine bdL_map (fun _ => ?_)) | refine ⟨?_, ?_⟩ | fail)
          · intro k_ hk_; exact ble (by repeat (first | exact rfl | refine uN (by omega) ?_ | assumption | fail))
          · intro p hp; cases hp
          · repeat (first | exact trivial | assumption | omega | (refine bdR_map (fun _ => ?_)) | (refine bdL_map (fun _ => ?_)) | refine ⟨?_, ?_⟩ | fail)
  · skip
    have e0_ : mnI a e = a := if_neg (by omega)
    refine runsL_nil ?_
    refine runs_cond false (ev_mk rfl) (fun h_ => nomatch h_) (fun _ => ?_)
    refine runs_skip ?_
    refine runs_seq ?_
    refine runs_seq ?_
    refine runs_region ?_
    refine rl0 (gn rfl) rfl rfl (step_fieldAddr (off := 1) rfl (ev_mk rfl) Try.underlying26 rfl F.sz3 rfl) trivial ?_
    refine' rl0 (gn rfl) rfl rfl (step_load_one rfl (ev_mk rfl) F.one3 ?hv) ⟨?hb, trivial⟩ ?_
    case hb => repeat (first | exact uE | refine uN (by omega) ?_ | assumption | exact hd _ (by omega) | fail)
    case hv => rfl
    refine rl0 (gn rfl) rfl rfl (step_fieldAddr (off := 1) rfl (ev_mk rfl) Try.underlying26 rfl F.sz3 rfl) trivial ?_
    refine' rl0 (gn rfl) rfl rfl (step_load_one rfl (ev_mk rfl) F.one3 ?hv) ⟨?hb, trivial⟩ ?_
    case hb => repeat (first | exact uE | refine uN (by omega) ?_ | assumption | exact hd _ (by omega) | fail)
    case hv => rfl
    refine rl_lss (gn rfl) rfl rfl rfl rfl rfl (fun h2 => ?_) (fun h2 => ?_)
    · skip
      have e1_ : mnI b f = f := if_pos (by omega)
      refine runsL_nil ?_
      refine runs_cond true (ev_mk rfl) (fun _ => ?_) (fun h_ => nomatch h_)
      refine runs_region ?_
      refine rl0 (gn rfl) rfl rfl (step_fieldAddr (off := 1) rfl (ev_mk rfl) Try.underlying26 rfl F.sz3 rfl) trivial ?_
      refine' rl0 (gn rfl) rfl rfl (step_load_one rfl (ev_mk rfl) F.one3 ?hv) ⟨?hb, trivial⟩ ?_
      case hb => repeat (first | exact uE | refine uN (by omega) ?_ | assumption | exact hd _ (by omega) | fail)
      case hv => rfl
      refine rl0 (gn rfl) rfl rfl (step_fieldAddr (off := 1) rfl (ev_mk rfl) Try.underlying26 rfl F.sz3 rfl) trivial ?_
      refine' rls (gn rfl) rfl (step_store1 rfl rfl rfl rfl F.one3 rfl rfl ?hl ?hc) ⟨?hb, trivial⟩ ?hk ?_
      case hb => repeat (first | exact uE | refine uN (by omega) ?_ | assumption | exact hd _ (by omega) | fail)
      case hl => first | exact Nat.le_of_ble_eq_true rfl | decide | (simp; done) | (simp; omega) | (first | (simp; done) | (simp; omega) | omega)
      case hc => first | (simp only [List.set_cons_succ, List.set_cons_zero]; rfl) | rfl
      case hk => omega
      refine runsL_nil ?_
      refine runs_seq ?_
      refine runs_seq ?_
      refine runs_region ?_
      refine rl0 (gn rfl) rfl rfl (step_fieldAddr (off := 2) rfl (ev_mk rfl) Try.underlying26 rfl F.sz3 rfl) trivial ?_
      refine' rl0 (gn rfl) rfl rfl (step_load_one rfl (ev_mk rfl) F.one3 ?hv) ⟨?hb, trivial⟩ ?_
      case hb => repeat (first | exact uE | refine uN (by omega) ?_ | assumption | exact hd _ (by omega) | fail)
      case hv => rfl
      refine rl0 (gn rfl) rfl rfl (step_fieldAddr (off := 2) rfl (ev_mk rfl) Try.underlying26 rfl F.sz3 rfl) trivial ?_
      refine' rl0 (gn rfl) rfl rfl (step_load_one rfl (ev_mk rfl) F.one3 ?hv) ⟨?hb, trivial⟩ ?_
      case hb => repeat (first | exact uE | refine uN (by omega) ?_ | assumption | exact hd _ (by omega) | fail)
      case hv => rfl
      refine rl_gtr (gn rfl) rfl rfl rfl rfl rfl (fun h3 => ?_) (fun h3 => ?_)
      · skip
        have e2_ : mxI c p = p := if_pos (by omega)
        refine runsL_nil ?_
        refine runs_cond true (ev_mk rfl) (fun _ => ?_) (fun h_ => nomatch h_)
        refine runs_region ?_
        refine rl0 (gn rfl) rfl rfl (step_fieldAddr (off := 2) rfl (ev_mk rfl) Try.underlying26 rfl F.sz3 rfl) trivial ?_
        refine' rl0 (gn rfl) rfl rfl (step_load_one rfl (ev_mk rfl) F.one3 ?hv) ⟨?hb, trivial⟩ ?_
        case hb => repeat (first | exact uE | refine uN (by omega) ?_ | assumption | exact hd _ (by omega) | fail)
        case hv => rfl
        refine rl0 (gn rfl) rfl rfl (step_fieldAddr (off := 2) rfl (ev_mk rfl) Try.underlying26 rfl F.sz3 rfl) trivial ?_
        refine' rls (gn rfl) rfl (step_store1 rfl rfl rfl rfl F.one3 rfl rfl ?hl ?hc) ⟨?hb, trivial⟩ ?hk ?_
        case hb => repeat (first | exact uE | refine uN (by omega) ?_ | assumption | exact hd _ (by omega) | fail)
        case hl => first | exact Nat.le_of_ble_eq_true rfl | decide | (simp; done) | (simp; omega) | (first | (simp; done) | (simp; omega) | omega)
        case hc => first | (simp only [List.set_cons_succ, List.set_cons_zero]; rfl) | rfl
        case hk => omega
        refine runsL_nil ?_
        refine runs_seq ?_
        refine runs_seq ?_
        refine runs_region ?_
        refine rl0 (gn rfl) rfl rfl (step_fieldAddr (off := 3) rfl (ev_mk rfl) Try.underlying26 rfl F.sz3 rfl) trivial ?_
        refine' rl0 (gn rfl) rfl rfl (step_load_one rfl (ev_mk rfl) F.one3 ?hv) ⟨?hb, trivial⟩ ?_
        case hb => repeat (first | exact uE | refine uN (by omega) ?_ | assumption | exact hd _ (by omega) | fail)
        case hv => rfl
        refine rl0 (gn rfl) rfl rfl (step_fieldAddr (off := 3) rfl (ev_mk rfl) Try.underlying26 rfl F.sz3 rfl) trivial ?_
        refine' rl0 (gn rfl) rfl rfl (step_load_one rfl (ev_mk rfl) F.one3 ?hv) ⟨?hb, trivial⟩ ?_
        case hb => repeat (first | exact uE | refine uN (by omega) ?_ | assumption | exact hd _ (by omega) | fail)
        case hv => rfl
        refine rl_gtr (gn rfl) rfl rfl rfl rfl rfl (fun h4 => ?_) (fun h4 => ?_)
        · skip
          have e3_ : mxI d q = q := if_pos (by omega)
          refine runsL_nil ?_
          refine runs_cond true (ev_mk rfl) (fun _ => ?_) (fun h_ => nomatch h_)
          refine runs_region ?_
          refine rl0 (gn rfl) rfl rfl (step_fieldAddr (off := 3) rfl (ev_mk rfl) Try.underlying26 rfl F.sz3 rfl) trivial ?_
          refine' rl0 (gn rfl) rfl rfl (step_load_one rfl (ev_mk rfl) F.one3 ?hv) ⟨?hb, trivial⟩ ?_
          case hb => repeat (first | exact uE | refine uN (by omega) ?_ | assumption | exact hd _ (by omega) | fail)
          case hv => rfl
          refine rl0 (gn rfl) rfl rfl (step_fieldAddr (off := 3) rfl (ev_mk rfl) Try.underlying26 rfl F.sz3 rfl) trivial ?_
          refine' rls (gn rfl) rfl (step_store1 rfl rfl rfl rfl F.one3 rfl rfl ?hl ?hc) ⟨?hb, trivial⟩ ?hk ?_
          case hb => repeat (first | exact uE | refine uN (by omega) ?_ | assumption | exact hd _ (by omega) | fail)
          case hl => first | exact Nat.le_of_ble_eq_true rfl | decide | (simp; done) | (simp; omega) | (first | (simp; done) | (simp; omega) | omega)
          case hc => first | (simp only [List.set_cons_succ, List.set_cons_zero]; rfl) | rfl
          case hk => omega
          refine runsL_nil ?_
          refine runs_seq ?_
          refine runs_draw (by kernel_rfl) (by kernel_rfl) (by kernel_rfl) ?_
          refine' dl0 (gn rfl) rfl rfl (step_load_all rfl rfl F.agg26 ?hl) ⟨?hb, trivial⟩ ?_
          case hb => repeat (first | exact uE | refine uN (by omega) ?_ | assumption | exact hd _ (by omega) | fail)
          case hl => first | rfl | (simp; done) | (first | (simp; done) | (simp; omega) | omega)
          refine' dl0 (gn rfl) rfl rfl (step_load_all rfl rfl F.agg26 ?hl) ⟨?hb, trivial⟩ ?_
          case hb => repeat (first | exact uE | refine uN (by omega) ?_ | assumption | exact hd _ (by omega) | fail)
          case hl => first | rfl | (simp; done) | (first | (simp; done) | (simp; omega) | omega)
          refine' dl0 (gn rfl) rfl rfl (step_load_all rfl rfl F.agg26 ?hl) ⟨?hb, trivial⟩ ?_
          case hb => repeat (first | exact uE | refine uN (by omega) ?_ | assumption | exact hd _ (by omega) | fail)
          case hl => first | rfl | (simp; done) | (first | (simp; done) | (simp; omega) | omega)
          refine' dl0 (gn rfl) rfl rfl (step_load_all rfl rfl F.agg26 ?hl) ⟨?hb, trivial⟩ ?_
          case hb => repeat (first | exact uE | refine uN (by omega) ?_ | assumption | exact hd _ (by omega) | fail)
          case hl => first | rfl | (simp; done) | (first | (simp; done) | (simp; omega) | omega)
          refine dl0 (gn rfl) rfl rfl (step_callc rfl Try.func30 rfl rfl rfl (joined_c a b c d e f p q a f p q) (by repeat (first | exact .nil | refine .cons ?_ ?_ | exact VLe.refl _ | exact VLe.own_sl _ _ _ | exact VLe.fl_sl _ _ | exact VLe.nil_sl _ | exact VLe.nil_fl _ | refine VLe.agg ?_))) trivial ?_
          refine' dls (gn rfl) rfl (step_storeA rfl rfl rfl rfl F.agg26 ?hm ?hl) ⟨?hb, trivial⟩ ?hk ?_
          case hb => repeat (first | exact uE | refine uN (by omega) ?_ | assumption | exact hd _ (by omega) | fail)
          case hm => first | rfl | (simp; done) | (first | (simp; done) | (simp; omega) | omega)
          case hl => first | rfl | (simp; done) | (first | (simp; done) | (simp; omega) | omega)
          case hk => omega
          refine dl0 (gn rfl) rfl rfl (step_as rfl rfl) trivial ?_
          refine dlnil ?_ ?_
          · repeat' (first | exact trivial | exact .inr (ap0 _ _ _ _) | exact .inr (ap2 _ _ _ _) | exact .inr (ap3 _ _ _ _) | exact .inr ⟨by first | (simp; done) | (simp; omega), by first | (simp; done) | (simp; omega)⟩ | exact .inl (by kernel_rfl) | refine ⟨?_, ?_⟩ | fail)
          refine runs_ret ?_
          refine ⟨by first | exact .inr rfl | exact .inl rfl, fin_mkg (resc rfl (by repeat (first | exact uE | refine uN (by omega) ?_ | assumption | exact hd _ (by omega) | fail)) F.agg26 (by first | rfl | (simp; done) | (first | (simp; done) | (simp; omega) | omega)) (rest rfl res0)) ?_ ?_ ?_ ?_ ?_⟩
          · (repeat' (first | exact VLe.refl _ | exact VLe.own_sl _ _ _ | exact VLe.fl_sl _ _ | exact VLe.nil_sl _ | exact VLe.nil_fl _ | exact VLes.refl _ | exact .nil | refine VLe.tup ?_ | refine VLe.agg ?_ | refine .cons ?_ ?_ | (rw [Int.natCast_add]; exact VLe.refl _) | exact vle_int (by omega) | exact vle_bool (by first | rfl | assumption | (simp_all; done) | fail) | (exact vle_int e0_.symm) | (exact vle_int e1_.symm) | (exact vle_int e2_.symm) | (exact vle_int e3_.symm) | (exact vle_bool (by rw [e0_, e1_, e2_, e3_])) | fail))
          · repeat (first | exact trivial | assumption | omega | (refine bdR_map (fun _ => ?_)) | (refine bdL_map (fun _ => ?_)) | refine ⟨?_, ?_⟩ | fail)
          · intro k_ hk_; exact ble (by repeat (first | exact rfl | refine uN (by omega) ?_ | assumption | fail))
          · intro p hp; cases hp
          · repeat (first | exact trivial | assumption | omega | (refine bdR_map (fun _ => ?_)) | (refine bdL_map (fun _ => ?_)) | refine ⟨?_, ?_⟩ | fail)
        · skip
          have e3_ : mxI d q = d := if_neg (by omega)
          refine runsL_nil ?_
          refine runs_cond false (ev_mk rfl) (fun h_ => nomatch h_) (fun _ => ?_)
          refine runs_skip ?_
          refine runs_seq ?_
          refine runs_draw (by kernel_rfl) (by kernel_rfl) (by kernel_rfl) ?_
          refine' dl0 (gn rfl) rfl rfl (step_load_all rfl rfl F.agg26 ?hl) ⟨?hb, trivial⟩ ?_
          case hb => repeat (first | exact uE | refine uN (by omega) ?_ | assumption | exact hd _ (by omega) | fail)
          case hl => first | rfl | (simp; done) | (first | (simp; done) | (simp; omega) | omega)
          refine' dl0 (gn rfl) rfl rfl (step_load_all rfl rfl F.agg26 ?hl) ⟨?hb, trivial⟩ ?_
          case hb => repeat (first | exact uE | refine uN (by omega) ?_ | assumption | exact hd _ (by omega) | fail)
          case hl => first | rfl | (simp; done) | (first | (simp; done) | (simp; omega) | omega)
          refine' dl0 (gn rfl) rfl rfl (step_load_all rfl rfl F.agg26 ?hl) ⟨?hb, trivial⟩ ?_
          case hb => repeat (first | exact uE | refine uN (by omega) ?_ | assumption | exact hd _ (by omega) | fail)
          case hl => first | rfl | (simp; done) | (first | (simp; done) | (simp; omega) | omega)
          refine' dl0 (gn rfl) rfl rfl (step_load_all rfl rfl F.agg26 ?hl) ⟨?hb, trivial⟩ ?_
          case hb => repeat (first | exact uE | refine uN (by omega) ?_ | assumption | exact hd _ (by omega) | fail)
          case hl => first | rfl | (simp; done) | (first | (simp; done) | (simp; omega) | omega)
          refine dl0 (gn rfl) rfl rfl (step_callc rfl Try.func30 rfl rfl rfl (joined_c a b c d e f p q a f p d) (by repeat (first | exact .nil | refine .cons ?_ ?_ | exact VLe.refl _ | exact VLe.own_sl _ _ _ | exact VLe.fl_sl _ _ | exact VLe.nil_sl _ | exact VLe.nil_fl _ | refine VLe.agg ?_))) trivial ?_
          refine' dls (gn rfl) rfl (step_storeA rfl rfl rfl rfl F.agg26 ?hm ?hl) ⟨?hb, trivial⟩ ?hk ?_
          case hb => repeat (first | exact uE | refine uN (by omega) ?_ | assumption | exact hd _ (by omega) | fail)
          case hm => first | rfl | (simp; done) | (first | (simp; done) | (simp; omega) | omega)
          case hl => first | rfl | (simp; done) | (first | (simp; done) | (simp; omega) | omega)
          case hk => omega
          refine dl0 (gn rfl) rfl rfl (step_as rfl rfl) trivial ?_
          refine dlnil ?_ ?_
          · repeat' (first | exact trivial | exact .inr (ap0 _ _ _ _) | exact .inr (ap2 _ _ _ _) | exact .inr (ap3 _ _ _ _) | exact .inr ⟨by first | (simp; done) | (simp; omega), by first | (simp; done) | (simp; omega)⟩ | exact .inl (by kernel_rfl) | refine ⟨?_, ?_⟩ | fail)
          refine runs_ret ?_
          refine ⟨by first | exact .inr rfl | exact .inl rfl, fin_mkg (resc rfl (by repeat (first | exact uE | refine uN (by omega) ?_ | assumption | exact hd _ (by omega) | fail)) F.agg26 (by first | rfl | (simp; done) | (first | (simp; done) | (simp; omega) | omega)) (rest rfl res0)) ?_ ?_ ?_ ?_ ?_⟩
          · (repeat' (first | exact VLe.refl _ | exact VLe.own_sl _ _ _ | exact VLe.fl_sl _ _ | exact VLe.nil_sl _ | exact VLe.nil_fl _ | exact VLes.refl _ | exact .nil | refine VLe.tup ?_ | refine VLe.agg ?_ | refine .cons ?_ ?_ | (rw [Int.natCast_add]; exact VLe.refl _) | exact vle_int (by omega) | exact vle_bool (by first | rfl | assumption | (simp_all; done) | fail) | (exact vle_int e0_.symm) | (exact vle_int e1_.symm) | (exact vle_int e2_.symm) | (exact vle_int e3_.symm) | (exact vle_bool (by rw [e0_, e1_, e2_, e3_])) | fail))
          · repeat (first | exact trivial | assumption | omega | (refine bdR_map (fun _ => ?_)) | (refine bdL_map (fun _ => ?_)) | refine ⟨?_, ?_⟩ | fail)
          · intro k_ hk_; exact ble (by repeat (first | exact rfl | refine uN (by omega) ?_ | assumption | fail))
          · intro p hp; cases hp
          · repeat (first | exact trivial | assumption | omega | (refine bdR_map (fun _ => ?_)) | (refine bdL_map (fun _ => ?_)) | refine ⟨?_, ?_⟩ | fail)
      · skip
        have e2_ : mxI c p = c := if_neg (by omega)
        refine runsL_nil ?_
        refine runs_cond false (ev_mk rfl) (fun h_ => nomatch h_) (fun _ => ?_)
        refine runs_skip ?_
        refine runs_seq ?_
        refine runs_seq ?_
        refine runs_region ?_
        refine rl0 (gn rfl) rfl rfl (step_fieldAddr (off := 3) rfl (ev_mk rfl) Try.underlying26 rfl F.sz3 rfl) trivial ?_
        refine' rl0 (gn rfl) rfl rfl (step_load_one rfl (ev_mk rfl) F.one3 ?hv) ⟨?hb, trivial⟩ ?_
        case hb => repeat (first | exact uE | refine uN (by omega) ?_ | assumption | exact hd _ (by omega) | fail)
        case hv => rfl
        refine rl0 (gn rfl) rfl rfl (step_fieldAddr (off := 3) rfl (ev_mk rfl) Try.underlying26 rfl F.sz3 rfl) trivial ?_
        refine' rl0 (gn rfl) rfl rfl (step_load_one rfl (ev_mk rfl) F.one3 ?hv) ⟨?hb, trivial⟩ ?_
        case hb => repeat (first | exact uE | refine uN (by omega) ?_ | assumption | exact hd _ (by omega) | fail)
        case hv => rfl
        refine rl_gtr (gn rfl) rfl rfl rfl rfl rfl (fun h4 => ?_) (fun h4 => ?_)
        · skip
          have e3_ : mxI d q = q := if_pos (by omega)
          refine runsL_nil ?_
          refine runs_cond true (ev_mk rfl) (fun _ => ?_) (fun h_ => nomatch h_)
          refine runs_region ?_
          refine rl0 (gn rfl) rfl rfl (step_fieldAddr (off := 3) rfl (ev_mk rfl) Try.underlying26 rfl F.sz3 rfl) trivial ?_
          refine' rl0 (gn rfl) rfl rfl (step_load_one rfl (ev_mk rfl) F.one3 ?hv) ⟨?hb, trivial⟩ ?_
          case hb => repeat (first | exact uE | refine uN (by omega) ?_ | assumption | exact hd _ (by omega) | fail)
          case hv => rfl
          refine rl0 (gn rfl) rfl rfl (step_fieldAddr (off := 3) rfl (ev_mk rfl) Try.underlying26 rfl F.sz3 rfl) trivial ?_
          refine' rls (gn rfl) rfl (step_store1 rfl rfl rfl rfl F.one3 rfl rfl ?hl ?hc) ⟨?hb, trivial⟩ ?hk ?_
          case hb => repeat (first | exact uE | refine uN (by omega) ?_ | assumption | exact hd _ (by omega) | fail)
          case hl => first | exact Nat.le_of_ble_eq_true rfl | decide | (simp; done) | (simp; omega) | (first | (simp; done) | (simp; omega) | omega)
          case hc => first | (simp only [List.set_cons_succ, List.set_cons_zero]; rfl) | rfl
          case hk => omega
          refine runsL_nil ?_
          refine runs_seq ?_
          refine runs_draw (by kernel_rfl) (by kernel_rfl) (by kernel_rfl) ?_
          refine' dl0 (gn rfl) rfl rfl (step_load_all rfl rfl F.agg26 ?hl) ⟨?hb, trivial⟩ ?_
          case hb => repeat (first | exact uE | refine uN (by omega) ?_ | assumption | exact hd _ (by omega) | fail)
          case hl => first | rfl | (simp; done) | (first | (simp; done) | (simp; omega) | omega)
          refine' dl0 (gn rfl) rfl rfl (step_load_all rfl rfl F.agg26 ?hl) ⟨?hb, trivial⟩ ?_
          case hb => repeat (first | exact uE | refine uN (by omega) ?_ | assumption | exact hd _ (by omega) | fail)
          case hl => first | rfl | (simp; done) | (first | (simp; done) | (simp; omega) | omega)
          refine' dl0 (gn rfl) rfl rfl (step_load_all rfl rfl F.agg26 ?hl) ⟨?hb, trivial⟩ ?_
          case hb => repeat (first | exact uE | refine uN (by omega) ?_ | assumption | exact hd _ (by omega) | fail)
          case hl => first | rfl | (simp; done) | (first | (simp; done) | (simp; omega) | omega)
          refine' dl0 (gn rfl) rfl rfl (step_load_all rfl rfl F.agg26 ?hl) ⟨?hb, trivial⟩ ?_
          case hb => repeat (first | exact uE | refine uN (by omega) ?_ | assumption | exact hd _ (by omega) | fail)
          case hl => first | rfl | (simp; done) | (first | (simp; done) | (simp; omega) | omega)
          refine dl0 (gn rfl) rfl rfl (step_callc rfl Try.func30 rfl rfl rfl (joined_c a b c d e f p q a f c q) (by repeat (first | exact .nil | refine .cons ?_ ?_ | exact VLe.refl _ | exact VLe.own_sl _ _ _ | exact VLe.fl_sl _ _ | exact VLe.nil_sl _ | exact VLe.nil_fl _ | refine VLe.agg ?_))) trivial ?_
          refine' dls (gn rfl) rfl (step_storeA rfl rfl rfl rfl F.agg26 ?hm ?hl) ⟨?hb, trivial⟩ ?hk ?_
          case hb => repeat (first | exact uE | refine uN (by omega) ?_ | assumption | exact hd _ (by omega) | fail)
          case hm => first | rfl | (simp; done) | (first | (simp; done) | (simp; omega) | omega)
          case hl => first | rfl | (simp; done) | (first | (simp; done) | (simp; omega) | omega)
          case hk => omega
          refine dl0 (gn rfl) rfl rfl (step_as rfl rfl) trivial ?_
          refine dlnil ?_ ?_
          · repeat' (first | exact trivial | exact .inr (ap0 _ _ _ _) | exact .inr (ap2 _ _ _ _) | exact .inr (ap3 _ _ _ _) | exact .inr ⟨by first | (simp; done) | (simp; omega), by first | (simp; done) | (simp; omega)⟩ | exact .inl (by kernel_rfl) | refine ⟨?_, ?_⟩ | fail)
          refine runs_ret ?_
          refine ⟨by first | exact .inr rfl | exact .inl rfl, fin_mkg (resc rfl (by repeat (first | exact uE | refine uN (by omega) ?_ | assumption | exact hd _ (by omega) | fail)) F.agg26 (by first | rfl | (simp; done) | (first | (simp; done) | (simp; omega) | omega)) (rest rfl res0)) ?_ ?_ ?_ ?_ ?_⟩
          · (repeat' (first | exact VLe.refl _ | exact VLe.own_sl _ _ _ | exact VLe.fl_sl _ _ | exact VLe.nil_sl _ | exact VLe.nil_fl _ | exact VLes.refl _ | exact .nil | refine VLe.tup ?_ | refine VLe.agg ?_ | refine .cons ?_ ?_ | (rw [Int.natCast_add]; exact VLe.refl _) | exact vle_int (by omega) | exact vle_bool (by first | rfl | assumption | (simp_all; done) | fail) | (exact vle_int e0_.symm) | (exact vle_int e1_.symm) | (exact vle_int e2_.symm) | (exact vle_int e3_.symm) | (exact vle_bool (by rw [e0_, e1_, e2_, e3_])) | fail))
          · repeat (first | exact trivial | assumption | omega | (refine bdR_map (fun _ => ?_)) | (refine bdL_map (fun _ => ?_)) | refine ⟨?_, ?_⟩ | fail)
          · intro k_ hk_; exact ble (by repeat (first | exact rfl | refine uN (by omega) ?_ | assumption | fail))
          · intro p hp; cases hp
          · repeat (first | exact trivial | assumption | omega | (refine bdR_map (fun _ => ?_)) | (refine bdL_map (fun _ => ?_)) | refine ⟨?_, ?_⟩ | fail)
        · skip
          have e3_ : mxI d q = d := if_neg (by omega)
          refine runsL_nil ?_
          refine runs_cond false (ev_mk rfl) (fun h_ => nomatch h_) (fun _ => ?_)
          refine runs_skip ?_
          refine runs_seq ?_
          refine runs_draw (by kernel_rfl) (by kernel_rfl) (by kernel_rfl) ?_
          refine' dl0 (gn rfl) rfl rfl (step_load_all rfl rfl F.agg26 ?hl) ⟨?hb, trivial⟩ ?_
          case hb => repeat (first | exact uE | refine uN (by omega) ?_ | assumption | exact hd _ (by omega) | fail)
          case hl => first | rfl | (simp; done) | (first | (simp; done) | (simp; omega) | omega)
          refine' dl0 (gn rfl) rfl rfl (step_load_all rfl rfl F.agg26 ?hl) ⟨?hb, trivial⟩ ?_
          case hb => repeat (first | exact uE | refine uN (by omega) ?_ | assumption | exact hd _ (by omega) | fail)
          case hl => first | rfl | (simp; done) | (first | (simp; done) | (simp; omega) | omega)
          refine' dl0 (gn rfl) rfl rfl (step_load_all rfl rfl F.agg26 ?hl) ⟨?hb, trivial⟩ ?_
          case hb => repeat (first | exact uE | refine uN (by omega) ?_ | assumption | exact hd _ (by omega) | fail)
          case hl => first | rfl | (simp; done) | (first | (simp; done) | (simp; omega) | omega)
          refine' dl0 (gn rfl) rfl rfl (step_load_all rfl rfl F.agg26 ?hl) ⟨?hb, trivial⟩ ?_
          case hb => repeat (first | exact uE | refine uN (by omega) ?_ | assumption | exact hd _ (by omega) | fail)
          case hl => first | rfl | (simp; done) | (first | (simp; done) | (simp; omega) | omega)
          refine dl0 (gn rfl) rfl rfl (step_callc rfl Try.func30 rfl rfl rfl (joined_c a b c d e f p q a f c d) (by repeat (first | exact .nil | refine .cons ?_ ?_ | exact VLe.refl _ | exact VLe.own_sl _ _ _ | exact VLe.fl_sl _ _ | exact VLe.nil_sl _ | exact VLe.nil_fl _ | refine VLe.agg ?_))) trivial ?_
          refine' dls (gn rfl) rfl (step_storeA rfl rfl rfl rfl F.agg26 ?hm ?hl) ⟨?hb, trivial⟩ ?hk ?_
          case hb => repeat (first | exact uE | refine uN (by omega) ?_ | assumption | exact hd _ (by omega) | fail)
          case hm => first | rfl | (simp; done) | (first | (simp; done) | (simp; omega) | omega)
          case hl => first | rfl | (simp; done) | (first | (simp; done) | (simp; omega) | omega)
          case hk => omega
          refine dl0 (gn rfl) rfl rfl (step_as rfl rfl) trivial ?_
          refine dlnil ?_ ?_
          · repeat' (first | exact trivial | exact .inr (ap0 _ _ _ _) | exact .inr (ap2 _ _ _ _) | exact .inr (ap3 _ _ _ _) | exact .inr ⟨by first | (simp; done) | (simp; omega), by first | (simp; done) | (simp; omega)⟩ | exact .inl (by kernel_rfl) | refine ⟨?_, ?_⟩ | fail)
          refine runs_ret ?_
          refine ⟨by first | exact .inr rfl | exact .inl rfl, fin_mkg (resc rfl (by repeat (first | exact uE | refine uN (by omega) ?_ | assumption | exact hd _ (by omega) | fail)) F.agg26 (by first | rfl | (simp; done) | (first | (simp; done) | (simp; omega) | omega)) (rest rfl res0)) ?_ ?_ ?_ ?_ ?_⟩
          · (repeat' (first | exact VLe.refl _ | exact VLe.own_sl _ _ _ | exact VLe.fl_sl _ _ | exact VLe.nil_sl _ | exact VLe.nil_fl _ | exact VLes.refl _ | exact .nil | refine VLe.tup ?_ | refine VLe.agg ?_ | refine .cons ?_ ?_ | (rw [Int.natCast_add]; exact VLe.refl _) | exact vle_int (by omega) | exact vle_bool (by first | rfl | assumption | (simp_all; done) | fail) | (exact vle_int e0_.symm) | (exact vle_int e1_.symm) | (exact vle_int e2_.symm) | (exact vle_int e3_.symm) | (exact vle_bool (by rw [e0_, e1_, e2_, e3_])) | fail))
          · repeat (first | exact trivial | assumption | omega | (refine bdR_map (fun _ => ?_)) | (refine bdL_map (fun _ => ?_)) | refine ⟨?_, ?_⟩ | fail)
          · intro k_ hk_; exact ble (by repeat (first | exact rfl | refine uN (by omega) ?_ | assumption | fail))
          · intro p hp; cases hp
          · repeat (first | exact trivial | assumption | omega | (refine bdR_map (fun _ => ?_)) | (refine bdL_map (fun _ => ?_)) | refine ⟨?_, ?_⟩ | fail)
    · skip
      have e1_ : mnI b f = b := if_neg (by omega)
      refine runsL_nil ?_
      refine runs_cond false (ev_mk rfl) (fun h_ => nomatch h_) (fun _ => ?_)
      refine runs_skip ?_
      refine runs_seq ?_
      refine runs_seq ?_
      refine runs_region ?_
      refine rl0 (gn rfl) rfl rfl (step_fieldAddr (off := 2) rfl (ev_mk rfl) Try.underlying26 rfl F.sz3 rfl) trivial ?_
      refine' rl0 (gn rfl) rfl rfl (step_load_one rfl (ev_mk rfl) F.one3 ?hv) ⟨?hb, trivial⟩ ?_
      case hb => repeat (first | exact uE | refine uN (by omega) ?_ | assumption | exact hd _ (by omega) | fail)
      case hv => rfl
      refine rl0 (gn rfl) rfl rfl (step_fieldAddr (off := 2) rfl (ev_mk rfl) Try.underlying26 rfl F.sz3 rfl) trivial ?_
      refine' rl0 (gn rfl) rfl rfl (step_load_one rfl (ev_mk rfl) F.one3 ?hv) ⟨?hb, trivial⟩ ?_
      case hb => repeat (first | exact uE | refine uN (by omega) ?_ | assumption | exact hd _ (by omega) | fail)
      case hv => rfl
      refine rl_gtr (gn rfl) rfl rfl rfl rfl rfl (fun h3 => ?_) (fun h3 => ?_)
      · skip
        have e2_ : mxI c p = p := if_pos (by omega)
        refine runsL_nil ?_
        refine runs_cond true (ev_mk rfl) (fun _ => ?_) (fun h_ => nomatch h_)
        refine runs_region ?_
        refine rl0 (gn rfl) rfl rfl (step_fieldAddr (off := 2) rfl (ev_mk rfl) Try.underlying26 rfl F.sz3 rfl) trivial ?_
        refine' rl0 (gn rfl) rfl rfl (step_load_one rfl (ev_mk rfl) F.one3 ?hv) ⟨?hb, trivial⟩ ?_
        case hb => repeat (first | exact uE | refine uN (by omega) ?_ | assumption | exact hd _ (by omega) | fail)
        case hv => rfl
        refine rl0 (gn rfl) rfl rfl (step_fieldAddr (off := 2) rfl (ev_mk rfl) Try.underlying26 rfl F.sz3 rfl) trivial ?_
        refine' rls (gn rfl) rfl (step_store1 rfl rfl rfl rfl F.one3 rfl rfl ?hl ?hc) ⟨?hb, trivial⟩ ?hk ?_
        case hb => repeat (first | exact uE | refine uN (by omega) ?_ | assumption | exact hd _ (by omega) | fail)
        case hl => first | exact Nat.le_of_ble_eq_true rfl | decide | (simp; done) | (simp; omega) | (first | (simp; done) | (simp; omega) | omega)
        case hc => first | (simp only [List.set_cons_succ, List.set_cons_zero]; rfl) | rfl
        case hk => omega
        refine runsL_nil ?_
        refine runs_seq ?_
        refine runs_seq ?_
        refine runs_region ?_
        refine rl0 (gn rfl) rfl rfl (step_fieldAddr (off := 3) rfl (ev_mk rfl) Try.underlying26 rfl F.sz3 rfl) trivial ?_
        refine' rl0 (gn rfl) rfl rfl (step_load_one rfl (ev_mk rfl) F.one3 ?hv) ⟨?hb, trivial⟩ ?_
        case hb => repeat (first | exact uE | refine uN (by omega) ?_ | assumption | exact hd _ (by omega) | fail)
        case hv => rfl
        refine rl0 (gn rfl) rfl rfl (step_fieldAddr (off := 3) rfl (ev_mk rfl) Try.underlying26 rfl F.sz3 rfl) trivial ?_
        refine' rl0 (gn rfl) rfl rfl (step_load_one rfl (ev_mk rfl) F.one3 ?hv) ⟨?hb, trivial⟩ ?_
        case hb => repeat (first | exact uE | refine uN (by omega) ?_ | assumption | exact hd _ (by omega) | fail)
        case hv => rfl
        refine rl_gtr (gn rfl) rfl rfl rfl rfl rfl (fun h4 => ?_) (fun h4 => ?_)
        · skip
          have e3_ : mxI d q = q := if_pos (by omega)
          refine runsL_nil ?_
          refine runs_cond true (ev_mk rfl) (fun _ => ?_) (fun h_ => nomatch h_)
          refine runs_region ?_
          refine rl0 (gn rfl) rfl rfl (step_fieldAddr (off := 3) rfl (ev_mk rfl) Try.underlying26 rfl F.sz3 rfl) trivial ?_
          refine' rl0 (gn rfl) rfl rfl (step_load_one rfl (ev_mk rfl) F.one3 ?hv) ⟨?hb, trivial⟩ ?_
          case hb => repeat (first | exact uE | refine uN (by omega) ?_ | assumption | exact hd _ (by omega) | fail)
          case hv => rfl
          refine rl0 (gn rfl) rfl rfl (step_fieldAddr (off := 3) rfl (ev_mk rfl) Try.underlying26 rfl F.sz3 rfl) trivial ?_
          refine' rls (gn rfl) rfl (step_store1 rfl rfl rfl rfl F.one3 rfl rfl ?hl ?hc) ⟨?hb, trivial⟩ ?hk ?_
          case hb => repeat (first | exact uE | refine uN (by omega) ?_ | assumption | exact hd _ (by omega) | fail)
          case hl => first | exact Nat.le_of_ble_eq_true rfl | decide | (simp; done) | (simp; omega) | (first | (simp; done) | (simp; omega) | omega)
          case hc => first | (simp only [List.set_cons_succ, List.set_cons_zero]; rfl) | rfl
          case hk => omega
          refine runsL_nil ?_
          refine runs_seq ?_
          refine runs_draw (by kernel_rfl) (by kernel_rfl) (by kernel_rfl) ?_
          refine' dl0 (gn rfl) rfl rfl (step_load_all rfl rfl F.agg26 ?hl) ⟨?hb, trivial⟩ ?_
          case hb => repeat (first | exact uE | refine uN (by omega) ?_ | assumption | exact hd _ (by omega) | fail)
          case hl => first | rfl | (simp; done) | (first | (simp; done) | (simp; omega) | omega)
          refine' dl0 (gn rfl) rfl rfl (step_load_all rfl rfl F.agg26 ?hl) ⟨?hb, trivial⟩ ?_
          case hb => repeat (first | exact uE | refine uN (by omega) ?_ | assumption | exact hd _ (by omega) | fail)
          case hl => first | rfl | (simp; done) | (first | (simp; done) | (simp; omega) | omega)
          refine' dl0 (gn rfl) rfl rfl (step_load_all rfl rfl F.agg26 ?hl) ⟨?hb, trivial⟩ ?_
          case hb => repeat (first | exact uE | refine uN (by omega) ?_ | assumption | exact hd _ (by omega) | fail)
          case hl => first | rfl | (simp; done) | (first | (simp; done) | (simp; omega) | omega)
          refine' dl0 (gn rfl) rfl rfl (step_load_all rfl rfl F.agg26 ?hl) ⟨?hb, trivial⟩ ?_
          case hb => repeat (first | exact uE | refine uN (by omega) ?_ | assumption | exact hd _ (by omega) | fail)
          case hl => first | rfl | (simp; done) | (first | (simp; done) | (simp; omega) | omega)
          refine dl0 (gn rfl) rfl rfl (step_callc rfl Try.func30 rfl rfl rfl (joined_c a b c d e f p q a b p q) (by repeat (first | exact .nil | refine .cons ?_ ?_ | exact VLe.refl _ | exact VLe.own_sl _ _ _ | exact VLe.fl_sl _ _ | exact VLe.nil_sl _ | exact VLe.nil_fl _ | refine VLe.agg ?_))) trivial ?_
          refine' dls (gn rfl) rfl (step_storeA rfl rfl rfl rfl F.agg26 ?hm ?hl) ⟨?hb, trivial⟩ ?hk ?_
          case hb => repeat (first | exact uE | refine uN (by omega) ?_ | assumption | exact hd _ (by omega) | fail)
          case hm => first | rfl | (simp; done) | (first | (simp; done) | (simp; omega) | omega)
          case hl => first | rfl | (simp; done) | (first | (simp; done) | (simp; omega) | omega)
          case hk => omega
          refine dl0 (gn rfl) rfl rfl (step_as rfl rfl) trivial ?_
          refine dlnil ?_ ?_
          · repeat' (first | exact trivial | exact .inr (ap0 _ _ _ _) | exact .inr (ap2 _ _ _ _) | exact .inr (ap3 _ _ _ _) | exact .inr ⟨by first | (simp; done) | (simp; omega), by first | (simp; done) | (simp; omega)⟩ | exact .inl (by kernel_rfl) | refine ⟨?_, ?_⟩ | fail)
          refine runs_ret ?_
          refine ⟨by first | exact .inr rfl | exact .inl rfl, fin_mkg (resc rfl (by repeat (first | exact uE | refine uN (by omega) ?_ | assumption | exact hd _ (by omega) | fail)) F.agg26 (by first | rfl | (simp; done) | (first | (simp; done) | (simp; omega) | omega)) (rest rfl res0)) ?_ ?_ ?_ ?_ ?_⟩
          · (repeat' (first | exact VLe.refl _ | exact VLe.own_sl _ _ _ | exact VLe.fl_sl _ _ | exact VLe.nil_sl _ | exact VLe.nil_fl _ | exact VLes.refl _ | exact .nil | refine VLe.tup ?_ | refine VLe.agg ?_ | refine .cons ?_ ?_ | (rw [Int.natCast_add]; exact VLe.refl _) | exact vle_int (by omega) | exact vle_bool (by first | rfl | assumption | (simp_all; done) | fail) | (exact vle_int e0_.symm) | (exact vle_int e1_.symm) | (exact vle_int e2_.symm) | (exact vle_int e3_.symm) | (exact vle_bool (by rw [e0_, e1_, e2_, e3_])) | fail))
          · repeat (first | exact trivial | assumption | omega | (refine bdR_map (fun _ => ?_)) | (refine bdL_map (fun _ => ?_)) | refine ⟨?_, ?_⟩ | fail)
          · intro k_ hk_; exact ble (by repeat (first | exact rfl | refine uN (by omega) ?_ | assumption | fail))
          · intro p hp; cases hp
          · repeat (first | exact trivial | assumption | omega | (refine bdR_map (fun _ => ?_)) | (refine bdL_map (fun _ => ?_)) | refine ⟨?_, ?_⟩ | fail)
        · skip
          have e3_ : mxI d q = d := if_neg (by omega)
          refine runsL_nil ?_
          refine runs_cond false (ev_mk rfl) (fun h_ => nomatch h_) (fun _ => ?_)
          refine runs_skip ?_
          refine runs_seq ?_
          refine runs_draw (by kernel_rfl) (by kernel_rfl) (by kernel_rfl) ?_
          refine' dl0 (gn rfl) rfl rfl (step_load_all rfl rfl F.agg26 ?hl) ⟨?hb, trivial⟩ ?_
          case hb => repeat (first | exact uE | refine uN (by omega) ?_ | assumption | exact hd _ (by omega) | fail)
          case hl => first | rfl | (simp; done) | (first | (simp; done) | (simp; omega) | omega)
          refine' dl0 (gn rfl) rfl rfl (step_load_all rfl rfl F.agg26 ?hl) ⟨?hb, trivial⟩ ?_
          case hb => repeat (first | exact uE | refine uN (by omega) ?_ | assumption | exact hd _ (by omega) | fail)
          case hl => first | rfl | (simp; done) | (first | (simp; done) | (simp; omega) | omega)
          refine' dl0 (gn rfl) rfl rfl (step_load_all rfl rfl F.agg26 ?hl) ⟨?hb, trivial⟩ ?_
          case hb => repeat (first | exact uE | refine uN (by omega) ?_ | assumption | exact hd _ (by omega) | fail)
          case hl => first | rfl | (simp; done) | (first | (simp; done) | (simp; omega) | omega)
          refine' dl0 (gn rfl) rfl rfl (step_load_all rfl rfl F.agg26 ?hl) ⟨?hb, trivial⟩ ?_
          case hb => repeat (first | exact uE | refine uN (by omega) ?_ | assumption | exact hd _ (by omega) | fail)
          case hl => first | rfl | (simp; done) | (first | (simp; done) | (simp; omega) | omega)
          refine dl0 (gn rfl) rfl rfl (step_callc rfl Try.func30 rfl rfl rfl (joined_c a b c d e f p q a b p d) (by repeat (first | exact .nil | refine .cons ?_ ?_ | exact VLe.refl _ | exact VLe.own_sl _ _ _ | exact VLe.fl_sl _ _ | exact VLe.nil_sl _ | exact VLe.nil_fl _ | refine VLe.agg ?_))) trivial ?_
          refine' dls (gn rfl) rfl (step_storeA rfl rfl rfl rfl F.agg26 ?hm ?hl) ⟨?hb, trivial⟩ ?hk ?_
          case hb => repeat (first | exact uE | refine uN (by omega) ?_ | assumption | exact hd _ (by omega) | fail)
          case hm => first | rfl | (simp; done) | (first | (simp; done) | (simp; omega) | omega)
          case hl => first | rfl | (simp; done) | (first | (simp; done) | (simp; omega) | omega)
          case hk => omega
          refine dl0 (gn rfl) rfl rfl (step_as rfl rfl) trivial ?_
          refine dlnil ?_ ?_
          · repeat' (first | exact trivial | exact .inr (ap0 _ _ _ _) | exact .inr (ap2 _ _ _ _) | exact .inr (ap3 _ _ _ _) | exact .inr ⟨by first | (simp; done) | (simp; omega), by first | (simp; done) | (simp; omega)⟩ | exact .inl (by kernel_rfl) | refine ⟨?_, ?_⟩ | fail)
          refine runs_ret ?_
          refine ⟨by first | exact .inr rfl | exact .inl rfl, fin_mkg (resc rfl (by repeat (first | exact uE | refine uN (by omega) ?_ | assumption | exact hd _ (by omega) | fail)) F.agg26 (by first | rfl | (simp; done) | (first | (simp; done) | (simp; omega) | omega)) (rest rfl res0)) ?_ ?_ ?_ ?_ ?_⟩
          · (repeat' (first | exact VLe.refl _ | exact VLe.own_sl _ _ _ | exact VLe.fl_sl _ _ | exact VLe.nil_sl _ | exact VLe.nil_fl _ | exact VLes.refl _ | exact .nil | refine VLe.tup ?_ | refine VLe.agg ?_ | refine .cons ?_ ?_ | (rw [Int.natCast_add]; exact VLe.refl _) | exact vle_int (by omega) | exact vle_bool (by first | rfl | assumption | (simp_all; done) | fail) | (exact vle_int e0_.symm) | (exact vle_int e1_.symm) | (exact vle_int e2_.symm) | (exact vle_int e3_.symm) | (exact vle_bool (by rw [e0_, e1_, e2_, e3_])) | fail))
          · repeat (first | exact trivial | assumption | omega | (refine bdR_map (fun _ => ?_)) | (refine bdL_map (fun _ => ?_)) | refine ⟨?_, ?_⟩ | fail)
          · intro k_ hk_; exact ble (by repeat (first | exact rfl | refine uN (by omega) ?_ | assumption | fail))
          · intro p hp; cases hp
          · repeat (first | exact trivial | assumption | omega | (refine bdR_map (fun _ => ?_)) | (refine bdL_map (fun _ => ?_)) | refine ⟨?_, ?_⟩ | fail)
      · skip
        have e2_ : mxI c p = c := if_neg (by omega)
        refine runsL_nil ?_
        refine runs_cond false (ev_mk rfl) (fun h_ => nomatch h_) (fun _ => ?_)
        refine runs_skip ?_
        refine runs_seq ?_
        refine runs_seq ?_
        refine runs_region ?_
        refine rl0 (gn rfl) rfl rfl (step_fieldAddr (off := 3) rfl (ev_mk rfl) Try.underlying26 rfl F.sz3 rfl) trivial ?_
        refine' rl0 (gn rfl) rfl rfl (step_load_one rfl (ev_mk rfl) F.one3 ?hv) ⟨?hb, trivial⟩ ?_
        case hb => repeat (first | exact uE | refine uN (by omega) ?_ | assumption | exact hd _ (by omega) | fail)
        case hv => rfl
        refine rl0 (gn rfl) rfl rfl (step_fieldAddr (off := 3) rfl (ev_mk rfl) Try.underlying26 rfl F.sz3 rfl) trivial ?_
        refine' rl0 (gn rfl) rfl rfl (step_load_one rfl (ev_mk rfl) F.one3 ?hv) ⟨?hb, trivial⟩ ?_
        case hb => repeat (first | exact uE | refine uN (by omega) ?_ | assumption | exact hd _ (by omega) | fail)
        case hv => rfl
        refine rl_gtr (gn rfl) rfl rfl rfl rfl rfl (fun h4 => ?_) (fun h4 => ?_)
        · skip
          have e3_ : mxI d q = q := if_pos (by omega)
          refine runsL_nil ?_
          refine runs_cond true (ev_mk rfl) (fun _ => ?_) (fun h_ => nomatch h_)
          refine runs_region ?_
          refine rl0 (gn rfl) rfl rfl (step_fieldAddr (off := 3) rfl (ev_mk rfl) Try.underlying26 rfl F.sz3 rfl) trivial ?_
          refine' rl0 (gn rfl) rfl rfl (step_load_one rfl (ev_mk rfl) F.one3 ?hv) ⟨?hb, trivial⟩ ?_
          case hb => repeat (first | exact uE | refine uN (by omega) ?_ | assumption | exact hd _ (by omega) | fail)
          case hv => rfl
          refine rl0 (gn rfl) rfl rfl (step_fieldAddr (off := 3) rfl (ev_mk rfl) Try.underlying26 rfl F.sz3 rfl) trivial ?_
          refine' rls (gn rfl) rfl (step_store1 rfl rfl rfl rfl F.one3 rfl rfl ?hl ?hc) ⟨?hb, trivial⟩ ?hk ?_
          case hb => repeat (first | exact uE | refine uN (by omega) ?_ | assumption | exact hd _ (by omega) | fail)
          case hl => first | exact Nat.le_of_ble_eq_true rfl | decide | (simp; done) | (simp; omega) | (first | (simp; done) | (simp; omega) | omega)
          case hc => first | (simp only [List.set_cons_succ, List.set_cons_zero]; rfl) | rfl
          case hk => omega
          refine runsL_nil ?_
          refine runs_seq ?_
          refine runs_draw (by kernel_rfl) (by kernel_rfl) (by kernel_rfl) ?_
          refine' dl0 (gn rfl) rfl rfl (step_load_all rfl rfl F.agg26 ?hl) ⟨?hb, trivial⟩ ?_
          case hb => repeat (first | exact uE | refine uN (by omega) ?_ | assumption | exact hd _ (by omega) | fail)
          case hl => first | rfl | (simp; done) | (first | (simp; done) | (simp; omega) | omega)
          refine' dl0 (gn rfl) rfl rfl (step_load_all rfl rfl F.agg26 ?hl) ⟨?hb, trivial⟩ ?_
          case hb => repeat (first | exact uE | refine uN (by omega) ?_ | assumption | exact hd _ (by omega) | fail)
          case hl => first | rfl | (simp; done) | (first | (simp; done) | (simp; omega) | omega)
          refine' dl0 (gn rfl) rfl rfl (step_load_all rfl rfl F.agg26 ?hl) ⟨?hb, trivial⟩ ?_
          case hb => repeat (first | exact uE | refine uN (by omega) ?_ | assumption | exact hd _ (by omega) | fail)
          case hl => first | rfl | (simp; done) | (first | (simp; done) | (simp; omega) | omega)
          refine' dl0 (gn rfl) rfl rfl (step_load_all rfl rfl F.agg26 ?hl) ⟨?hb, trivial⟩ ?_
          case hb => repeat (first | exact uE | refine uN (by omega) ?_ | assumption | exact hd _ (by omega) | fail)
          case hl => first | rfl | (simp; done) | (first | (simp; done) | (simp; omega) | omega)
          refine dl0 (gn rfl) rfl rfl (step_callc rfl Try.func30 rfl rfl rfl (joined_c a b c d e f p q a b c q) (by repeat (first | exact .nil | refine .cons ?_ ?_ | exact VLe.refl _ | exact VLe.own_sl _ _ _ | exact VLe.fl_sl _ _ | exact VLe.nil_sl _ | exact VLe.nil_fl _ | refine VLe.agg ?_))) trivial ?_
          refine' dls (gn rfl) rfl (step_storeA rfl rfl rfl rfl F.agg26 ?hm ?hl) ⟨?hb, trivial⟩ ?hk ?_
          case hb => repeat (first | exact uE | refine uN (by omega) ?_ | assumption | exact hd _ (by omega) | fail)
          case hm => first | rfl | (simp; done) | (first | (simp; done) | (simp; omega) | omega)
          case hl => first | rfl | (simp; done) | (first | (simp; done) | (simp; omega) | omega)
          case hk => omega
          refine dl0 (gn rfl) rfl rfl (step_as rfl rfl) trivial ?_
          refine dlnil ?_ ?_
          · repeat' (first | exact trivial | exact .inr (ap0 _ _ _ _) | exact .inr (ap2 _ _ _ _) | exact .inr (ap3 _ _ _ _) | exact .inr ⟨by first | (simp; done) | (simp; omega), by first | (simp; done) | (simp; omega)⟩ | exact .inl (by kernel_rfl) | refine ⟨?_, ?_⟩ | fail)
          refine runs_ret ?_
          refine ⟨by first | exact .inr rfl | exact .inl rfl, fin_mkg (resc rfl (by repeat (first | exact uE | refine uN (by omega) ?_ | assumption | exact hd _ (by omega) | fail)) F.agg26 (by first | rfl | (simp; done) | (first | (simp; done) | (simp; omega) | omega)) (rest rfl res0)) ?_ ?_ ?_ ?_ ?_⟩
          · (repeat' (first | exact VLe.refl _ | exact VLe.own_sl _ _ _ | exact VLe.fl_sl _ _ | exact VLe.nil_sl _ | exact VLe.nil_fl _ | exact VLes.refl _ | exact .nil | refine VLe.tup ?_ | refine VLe.agg ?_ | refine .cons ?_ ?_ | (rw [Int.natCast_add]; exact VLe.refl _) | exact vle_int (by omega) | exact vle_bool (by first | rfl | assumption | (simp_all; done) | fail) | (exact vle_int e0_.symm) | (exact vle_int e1_.symm) | (exact vle_int e2_.symm) | (exact vle_int e3_.symm) | (exact vle_bool (by rw [e0_, e1_, e2_, e3_])) | fail))
          · repeat (first | exact trivial | assumption | omega | (refine bdR_map (fun _ => ?_)) | (refine bdL_map (fun _ => ?_)) | refine ⟨?_, ?_⟩ | fail)
          · intro k_ hk_; exact ble (by repeat (first | exact rfl | refine uN (by omega) ?_ | assumption | fail))
          · intro p hp; cases hp
          · repeat (first | exact trivial | assumption | omega | (refine bdR_map (fun _ => ?_)) | (refine bdL_map (fun _ => ?_)) | refine ⟨?_, ?_⟩ | fail)
        · skip
          have e3_ : mxI d q = d := if_neg (by omega)
          refine runsL_nil ?_
          refine runs_cond false (ev_mk rfl) (fun h_ => nomatch h_) (fun _ => ?_)
          refine runs_skip ?_
          refine runs_seq ?_
          refine runs_draw (by kernel_rfl) (by kernel_rfl) (by kernel_rfl) ?_
          refine' dl0 (gn rfl) rfl rfl (step_load_all rfl rfl F.agg26 ?hl) ⟨?hb, trivial⟩ ?_
          case hb => repeat (first | exact uE | refine uN (by omega) ?_ | assumption | exact hd _ (by omega) | fail)
          case hl => first | rfl | (simp; done) | (first | (simp; done) | (simp; omega) | omega)
          refine' dl0 (gn rfl) rfl rfl (step_load_all rfl rfl F.agg26 ?hl) ⟨?hb, trivial⟩ ?_
          case hb => repeat (first | exact uE | refine uN (by omega) ?_ | assumption | exact hd _ (by omega) | fail)
          case hl => first | rfl | (simp; done) | (first | (simp; done) | (simp; omega) | omega)
          refine' dl0 (gn rfl) rfl rfl (step_load_all rfl rfl F.agg26 ?hl) ⟨?hb, trivial⟩ ?_
          case hb => repeat (first | exact uE | refine uN (by omega) ?_ | assumption | exact hd _ (by omega) | fail)
          case hl => first | rfl | (simp; done) | (first | (simp; done) | (simp; omega) | omega)
          refine' dl0 (gn rfl) rfl rfl (step_load_all rfl rfl F.agg26 ?hl) ⟨?hb, trivial⟩ ?_
          case hb => repeat (first | exact uE | refine uN (by omega) ?_ | assumption | exact hd _ (by omega) | fail)
          case hl => first | rfl | (simp; done) | (first | (simp; done) | (simp; omega) | omega)
          refine dl0 (gn rfl) rfl rfl (step_callc rfl Try.func30 rfl rfl rfl (joined_c a b c d e f p q a b c d) (by repeat (first | exact .nil | refine .cons ?_ ?_ | exact VLe.refl _ | exact VLe.own_sl _ _ _ | exact VLe.fl_sl _ _ | exact VLe.nil_sl _ | exact VLe.nil_fl _ | refine VLe.agg ?_))) trivial ?_
          refine' dls (gn rfl) rfl (step_storeA rfl rfl rfl rfl F.agg26 ?hm ?hl) ⟨?hb, trivial⟩ ?hk ?_
          case hb => repeat (first | exact uE | refine uN (by omega) ?_ | assumption | exact hd _ (by omega) | fail)
          case hm => first | rfl | (simp; done) | (first | (simp; done) | (simp; omega) | omega)
          case hl => first | rfl | (simp; done) | (first | (simp; done) | (simp; omega) | omega)
          case hk => omega
          refine dl0 (gn rfl) rfl rfl (step_as rfl rfl) trivial ?_
          refine dlnil ?_ ?_
          · repeat' (first | exact trivial | exact .inr (ap0 _ _ _ _) | exact .inr (ap2 _ _ _ _) | exact .inr (ap3 _ _ _ _) | exact .inr ⟨by first | (simp; done) | (simp; omega), by first | (simp; done) | (simp; omega)⟩ | exact .inl (by kernel_rfl) | refine ⟨?_, ?_⟩ | fail)
          refine runs_ret ?_
          refine ⟨by first | exact .inr rfl | exact .inl rfl, fin_mkg (resc rfl (by repeat (first | exact uE | refine uN (by omega) ?_ | assumption | exact hd _ (by omega) | fail)) F.agg26 (by first | rfl | (simp; done) | (first | (simp; done) | (simp; omega) | omega)) (rest rfl res0)) ?_ ?_ ?_ ?_ ?_⟩
          · (repeat' (first | exact VLe.refl _ | exact VLe.own_sl _ _ _ | exact VLe.fl_sl _ _ | exact VLe.nil_sl _ | exact VLe.nil_fl _ | exact VLes.refl _ | exact .nil | refine VLe.tup ?_ | refine VLe.agg ?_ | refine .cons ?_ ?_ | (rw [Int.natCast_add]; exact VLe.refl _) | exact vle_int (by omega) | exact vle_bool (by first | rfl | assumption | (simp_all; done) | fail) | (exact vle_int e0_.symm) | (exact vle_int e1_.symm) | (exact vle_int e2_.symm) | (exact vle_int e3_.symm) | (exact vle_bool (by rw [e0_, e1_, e2_, e3_])) | fail))
          · repeat (first | exact trivial | assumption | omega | (refine bdR_map (fun _ => ?_)) | (refine bdL_map (fun _ => ?_)) | refine ⟨?_, ?_⟩ | fail)
          · intro k_ hk_; exact ble (by repeat (first | exact rfl | refine uN (by omega) ?_ | assumption | fail))
          · intro p hp; cases hp
          · repeat (first | exact trivial | assumption | omega | (refine bdR_map (fun _ => ?_)) | (refine bdL_map (fun _ => ?_)) | refine ⟨?_, ?_⟩ | fail)
end Go.Proofs.Ytmlhekadnplpcaa
