/- Walks by the logic of values. -/
import Derived.Test.YtjmfdddeoadpaaaKbVmT
import Derived.Test.YtjmfdddeoadpaaaKbVmP
import Derived.Test.YtjmfdddeoadpaaaKbVmX
import Derived.Test.YtjmfdddeoadpaaaKbVmW
import Derived.Test.YtjmfdddeoadpaaaKbVmV
import Derived.Test.YtjmfdddeoadpaaaKbVa
import Derived.Test.YtjmfdddeoadpaaaKbVb
import Derived.Test.YtjmfdddeoadpaaaKbVc
import Derived.Test.YtjmfdddeoadpaaaKbVd
import Derived.Test.YtjmfdddeoadpaaaKbVe
import Derived.Test.YtjmfdddeoadpaaaKbVf
import Derived.Test.YtjmfdddeoadpaaaKbVg
import Derived.Test.YtjmfdddeoadpaaaKbVh
import Derived.Test.YtjmfdddeoadpaaaKbVi
import Derived.Test.YtjmfdddeoadpaaaKbVk
namespace Go.Proofs.Ytjmfdddeoadpaaa
open Go.Vm
set_option linter.unusedVariables false
set_option linter.unusedSimpArgs false
attribute [local irreducible] pgC
theorem of_n (f : Pf) (hb : ∀ k, f k < 256) (hs : sndF f = false) : Does Try.prog 11 [.agg (pgC f)] [] [] (.tup [.agg (pgC newF), .sc (.bool false)]) := by
  have h := of_c f hb
  rw [show ofP f = newF from if_neg (by rw [hs]; simp), hs] at h; exact h
theorem of_y (f : Pf) (hb : ∀ k, f k < 256) (hs : sndF f = true) : Does Try.prog 11 [.agg (pgC f)] [] [] (.tup [.agg (pgC f), .sc (.bool true)]) := by
  have h := of_c f hb
  rw [show ofP f = f from if_pos hs, hs] at h; exact h
theorem sound_v (f : Pf) (hb : ∀ k, f k < 256) (v : Bool) (hs : sndF f = v) : Does Try.prog 12 [.agg (pgC f)] [] [] (.sc (.bool v)) := by
  have h := sound_c f hb
  rw [hs] at h; exact h
theorem len_0 : Does Try.prog 13 [.agg (pgC newF)] [] [] (.sc (.int .i64 0)) := len_c newF new_snd.b
theorem ab_ts {f : Pf} {i : Nat} (h : i < f 0) : ((ab f).take i).map slR ++ [slR (sl f i)] = ((ab f).take (i + 1)).map slR := by
  rw [List.take_add_one, ab_get h, List.map_append]; rfl
theorem ab_tk (f : Pf) : (ab f).take (f 0) = ab f := by rw [← ab_len f, List.take_length]
set_option maxRecDepth 100000 in
set_option maxHeartbeats 4000000 in
theorem back_l (f : Pf) (hb : ∀ k, f k < 256) (l : List Op) (hll : (l.length : Int) ≤ 9223372036854775807) (hok : ∀ o ∈ l, Byts o.b) (hw : Does Try.prog 7 [] [] [] (.sc (.bool true))) (hl : ligF l = false) : Does Try.prog 4 [.agg (pgC f), .sl 3 (l.map opC)] [] [] (.sc (.bool true)) := by
  refine does_mkg 40 Try.func4 rfl rfl rfl (fun n B bx hd hpre hup hvs hbx hgx => ?_)
  refine runs_seq ?_
  refine runs_region ?_
  refine rl1 (gn rfl) rfl rfl (step_box_agg (k := n + 0) rfl rfl) ⟨by repeat (first | exact uE | refine uN (by omega) ?_ | assumption | exact hd _ (by omega) | fail), trivial⟩ (by omega) ?_
  refine rl0 (gn rfl) rfl rfl (step_as rfl rfl) trivial ?_
  refine runsL_nil ?_
  refine runs_seq ?_
  refine runs_seq ?_
  refine runs_region ?_
  refine rl0 (gn rfl) rfl rfl (step_mv rfl rfl) trivial ?_
  refine rl0 (gn rfl) rfl rfl (step_callc rfl Try.func6 rfl rfl rfl (light_c l hll) (by repeat (first | exact .nil | refine .cons ?_ ?_ | exact VLe.refl _ | exact VLe.own_sl _ _ _ | exact VLe.fl_sl _ _ | exact VLe.nil_sl _ | exact vle_int (by omega)))) trivial ?_
  refine rl_know (d := 13) (c := false) rfl (hl) ?_
  refine rl0 (gn rfl) rfl rfl (step_unOp (c := .bool true) rfl (ev_mk rfl) (fun _ => rfl)) trivial ?_
  refine runsL_nil ?_
  refine runs_cond true (ev_mk rfl) (fun _ => ?_) (fun h_ => nomatch h_)
  refine runs_seq ?_
  refine runs_region ?_
  refine rl0 (gn rfl) rfl rfl (step_callc rfl Try.func7 rfl rfl rfl (hw) (by repeat (first | exact .nil | refine .cons ?_ ?_ | exact VLe.refl _ | exact VLe.own_sl _ _ _ | exact VLe.fl_sl _ _ | exact VLe.nil_sl _ | exact vle_int (by omega)))) trivial ?_
  refine rl0 (gn rfl) rfl rfl (step_as rfl rfl) trivial ?_
  refine runsL_nil ?_
  refine runs_ret ?_
  refine ⟨by first | exact .inr rfl | exact .inl rfl, fin_mkg (rest rfl res0) ?_ ?_ ?_ ?_ ?_⟩
  · (repeat' (first | exact VLe.refl _ | exact VLe.own_sl _ _ _ | exact VLe.fl_sl _ _ | exact VLe.nil_sl _ | exact VLe.nil_fl _ | exact VLes.refl _ | exact .nil | refine VLe.tup ?_ | refine VLe.agg ?_ | refine .cons ?_ ?_ | (rw [Int.natCast_add]; exact VLe.refl _) | exact vle_int (by omega) | exact vle_bool (by first | rfl | assumption | (simp_all; done) | fail) | fail))
  · first | ((repeat (first | exact trivial | exact bd_pgA _ _ | exact bd_pg _ _ | assumption | omega | (refine bdR_map (fun _ => ?_)) | refine ⟨?_, ?_⟩ | fail)); done) | (repeat (first | exact trivial | assumption | omega | (refine bdR_map (fun _ => ?_)) | (refine bdL_map (fun _ => ?_)) | refine ⟨?_, ?_⟩ | fail))
  · intro k_ hk_; exact ble (by repeat (first | exact rfl | refine uN (by omega) ?_ | assumption | fail))
  · intro p hp; cases hp
  · first | ((repeat (first | exact trivial | exact bd_pgA _ _ | exact bd_pg _ _ | assumption | omega | (refine bdR_map (fun _ => ?_)) | refine ⟨?_, ?_⟩ | fail)); done) | (repeat (first | exact trivial | assumption | omega | (refine bdR_map (fun _ => ?_)) | (refine bdL_map (fun _ => ?_)) | refine ⟨?_, ?_⟩ | fail))
set_option maxRecDepth 100000 in
set_option maxHeartbeats 4000000 in
theorem back_n (f : Pf) (hb : ∀ k, f k < 256) (l : List Op) (hll : (l.length : Int) ≤ 9223372036854775807) (hok : ∀ o ∈ l, Byts o.b) (hw : Does Try.prog 7 [] [] [] (.sc (.bool true))) (hl : ligF l = true) (hs : sndF f = false) : Does Try.prog 4 [.agg (pgC f), .sl 3 (l.map opC)] [] [] (.sc (.bool true)) := by
  refine does_mkg 40 Try.func4 rfl rfl rfl (fun n B bx hd hpre hup hvs hbx hgx => ?_)
  refine runs_seq ?_
  refine runs_region ?_
  refine rl1 (gn rfl) rfl rfl (step_box_agg (k := n + 0) rfl rfl) ⟨by repeat (first | exact uE | refine uN (by omega) ?_ | assumption | exact hd _ (by omega) | fail), trivial⟩ (by omega) ?_
  refine rl0 (gn rfl) rfl rfl (step_as rfl rfl) trivial ?_
  refine runsL_nil ?_
  refine runs_seq ?_
  refine runs_seq ?_
  refine runs_region ?_
  refine rl0 (gn rfl) rfl rfl (step_mv rfl rfl) trivial ?_
  refine rl0 (gn rfl) rfl rfl (step_callc rfl Try.func6 rfl rfl rfl (light_c l hll) (by repeat (first | exact .nil | refine .cons ?_ ?_ | exact VLe.refl _ | exact VLe.own_sl _ _ _ | exact VLe.fl_sl _ _ | exact VLe.nil_sl _ | exact vle_int (by omega)))) trivial ?_
  refine rl_know (d := 13) (c := true) rfl (hl) ?_
  refine rl0 (gn rfl) rfl rfl (step_unOp (c := .bool false) rfl (ev_mk rfl) (fun _ => rfl)) trivial ?_
  refine runsL_nil ?_
  refine runs_cond false (ev_mk rfl) (fun h_ => nomatch h_) (fun _ => ?_)
  refine runs_skip ?_
  refine runs_seq ?_
  refine runs_region ?_
  refine' rl0 (gn rfl) rfl rfl (step_load_all rfl rfl F.agg25 ?hl) ⟨?hb, trivial⟩ ?_
  case hb => repeat (first | exact uE | refine uN (by omega) ?_ | assumption | exact hd _ (by omega) | fail)
  case hl => first | rfl | (simp; done) | (first | exact pgC_len _ | (simp; done) | (rw [pgC_len]; omega) | omega)
  refine rl0 (gn rfl) rfl rfl (step_callc rfl Try.func11 rfl rfl rfl (of_n f hb hs) (by repeat (first | exact .nil | refine .cons ?_ ?_ | exact VLe.refl _ | exact VLe.own_sl _ _ _ | exact VLe.fl_sl _ _ | exact VLe.nil_sl _ | exact vle_int (by omega)))) trivial ?_
  refine rl0 (gn rfl) rfl rfl (step_mv rfl rfl) trivial ?_
  refine rl0 (gn rfl) rfl rfl (step_extract rfl (ev_mk rfl) rfl) trivial ?_
  refine rl0 (gn rfl) rfl rfl (step_extract rfl (ev_mk rfl) rfl) trivial ?_
  refine rl1 (gn rfl) rfl rfl (step_allocc (k := n + 1) (zs := (List.replicate 224 (.int .u8 0))) (cs := List.replicate 224 (.sc (.int .u8 0))) rfl F.zero27 (by first | rfl | simp) (by first | rfl | decide | simp) (by first | rfl | simp)) ⟨by repeat (first | exact uE | refine uN (by omega) ?_ | assumption | exact hd _ (by omega) | fail), trivial⟩ (by omega) ?_
  refine' rls (gn rfl) rfl (step_storeA rfl rfl rfl rfl F.agg27 ?hm ?hl) ⟨?hb, trivial⟩ ?hk ?_
  case hb => repeat (first | exact uE | refine uN (by omega) ?_ | assumption | exact hd _ (by omega) | fail)
  case hm => first | rfl | (simp; done) | (first | exact pgC_len _ | (simp; done) | (rw [pgC_len]; omega) | omega)
  case hl => first | rfl | (simp; done) | (first | exact pgC_len _ | (simp; done) | (rw [pgC_len]; omega) | omega)
  case hk => omega
  refine rl0 (gn rfl) rfl rfl (step_as rfl rfl) trivial ?_
  refine runsL_nil ?_
  refine runs_seq ?_
  refine runs_seq ?_
  refine runs_region ?_
  refine rl0 (gn rfl) rfl rfl (step_mv rfl rfl) trivial ?_
  refine' rl0 (gn rfl) rfl rfl (step_load_all rfl rfl F.agg25 ?hl) ⟨?hb, trivial⟩ ?_
  case hb => repeat (first | exact uE | refine uN (by omega) ?_ | assumption | exact hd _ (by omega) | fail)
  case hl => first | rfl | (simp; done) | (first | exact pgC_len _ | (simp; done) | (rw [pgC_len]; omega) | omega)
  refine rl0 (gn rfl) rfl rfl (step_callc rfl Try.func12 rfl rfl rfl (sound_v f hb false hs) (by repeat (first | exact .nil | refine .cons ?_ ?_ | exact VLe.refl _ | exact VLe.own_sl _ _ _ | exact VLe.fl_sl _ _ | exact VLe.nil_sl _ | exact vle_int (by omega)))) trivial ?_
  refine rl0 (gn rfl) rfl rfl (step_binOp (c := .bool false) rfl (ev_mk rfl) (ev_mk rfl) (fun _ => rfl)) trivial ?_
  refine runsL_nil ?_
  refine runs_cond false (ev_mk rfl) (fun h_ => nomatch h_) (fun _ => ?_)
  refine runs_skip ?_
  refine runs_seq ?_
  refine runs_seq ?_
  refine runs_region ?_
  refine rl0 (gn rfl) rfl rfl (step_mv rfl rfl) trivial ?_
  refine rl0 (gn rfl) rfl rfl (step_unOp (c := .bool true) rfl (ev_mk rfl) (fun _ => rfl)) trivial ?_
  refine runsL_nil ?_
  refine runs_cond true (ev_mk rfl) (fun _ => ?_) (fun h_ => nomatch h_)
  refine runs_seq ?_
  refine runs_region ?_
  refine' rl0 (gn rfl) rfl rfl (step_load_all rfl rfl F.agg27 ?hl) ⟨?hb, trivial⟩ ?_
  case hb => repeat (first | exact uE | refine uN (by omega) ?_ | assumption | exact hd _ (by omega) | fail)
  case hl => first | rfl | (simp; done) | (first | exact pgC_len _ | (simp; done) | (rw [pgC_len]; omega) | omega)
  refine rl0 (gn rfl) rfl rfl (step_callc rfl Try.func13 rfl rfl rfl (len_0) (by repeat (first | exact .nil | refine .cons ?_ ?_ | exact VLe.refl _ | exact VLe.own_sl _ _ _ | exact VLe.fl_sl _ _ | exact VLe.nil_sl _ | exact vle_int (by omega)))) trivial ?_
  refine rl_eql (gn rfl) rfl rfl rfl rfl rfl (fun h1 => ?_) (fun h1 => ?_)
  rotate_left
  · exact False.elim (by exact h1 rfl)
  refine rl0 (gn rfl) rfl rfl (step_mv rfl rfl) trivial ?_
  refine rl0 (gy rfl rfl rfl rfl rfl rfl) rfl rfl (step_callc rfl Try.func7 rfl rfl rfl (hw) (by repeat (first | exact .nil | refine .cons ?_ ?_ | exact VLe.refl _ | exact VLe.own_sl _ _ _ | exact VLe.fl_sl _ _ | exact VLe.nil_sl _ | exact vle_int (by omega)))) trivial ?_
  refine rl0 (gn rfl) rfl rfl (step_pick rfl (ev_mk rfl) (ev_mk rfl)) trivial ?_
  refine rl0 (gn rfl) rfl rfl (step_as rfl rfl) trivial ?_
  refine runsL_nil ?_
  refine runs_ret ?_
  refine ⟨by first | exact .inr rfl | exact .inl rfl, fin_mkg (rest rfl res0) ?_ ?_ ?_ ?_ ?_⟩
  · (repeat' (first | exact VLe.refl _ | exact VLe.own_sl _ _ _ | exact VLe.fl_sl _ _ | exact VLe.nil_sl _ | exact VLe.nil_fl _ | exact VLes.refl _ | exact .nil | refine VLe.tup ?_ | refine VLe.agg ?_ | refine .cons ?_ ?_ | (rw [Int.natCast_add]; exact VLe.refl _) | exact vle_int (by omega) | exact vle_bool (by first | rfl | assumption | (simp_all; done) | fail) | fail))
  · first | ((repeat (first | exact trivial | exact bd_pgA _ _ | exact bd_pg _ _ | assumption | omega | (refine bdR_map (fun _ => ?_)) | refine ⟨?_, ?_⟩ | fail)); done) | (repeat (first | exact trivial | assumption | omega | (refine bdR_map (fun _ => ?_)) | (refine bdL_map (fun _ => ?_)) | refine ⟨?_, ?_⟩ | fail))
  · intro k_ hk_; exact ble (by repeat (first | exact rfl | refine uN (by omega) ?_ | assumption | fail))
  · intro p hp; cases hp
  · first | ((repeat (first | exact trivial | exact bd_pgA _ _ | exact bd_pg _ _ | assumption | omega | (refine bdR_map (fun _ => ?_)) | refine ⟨?_, ?_⟩ | fail)); done) | (repeat (first | exact trivial | assumption | omega | (refine bdR_map (fun _ => ?_)) | (refine bdL_map (fun _ => ?_)) | refine ⟨?_, ?_⟩ | fail))
set_option maxRecDepth 100000 in
set_option maxHeartbeats 4000000 in
theorem back_y (f : Pf) (hb : ∀ k, f k < 256) (l : List Op) (hll : (l.length : Int) ≤ 9223372036854775807) (hok : ∀ o ∈ l, Byts o.b) (hw : Does Try.prog 7 [] [] [] (.sc (.bool true))) (hl : ligF l = true) (hs : sndF f = true) : Does Try.prog 4 [.agg (pgC f), .sl 3 (l.map opC)] [] [] (.sc (.bool true)) := by
  refine does_mkg 40 Try.func4 rfl rfl rfl (fun n B bx hd hpre hup hvs hbx hgx => ?_)
  have hl60 := lig_len hl
  have hsf_ : Snd f := (snd_iff hb).1 hs
  have hal_ := ab_len f
  have hl32_ := hsf_.l32
  refine runs_seq ?_
  refine runs_region ?_
  refine rl1 (gn rfl) rfl rfl (step_box_agg (k := n + 0) rfl rfl) ⟨by repeat (first | exact uE | refine uN (by omega) ?_ | assumption | exact hd _ (by omega) | fail), trivial⟩ (by omega) ?_
  refine rl0 (gn rfl) rfl rfl (step_as rfl rfl) trivial ?_
  refine runsL_nil ?_
  refine runs_seq ?_
  refine runs_seq ?_
  refine runs_region ?_
  refine rl0 (gn rfl) rfl rfl (step_mv rfl rfl) trivial ?_
  refine rl0 (gn rfl) rfl rfl (step_callc rfl Try.func6 rfl rfl rfl (light_c l hll) (by repeat (first | exact .nil | refine .cons ?_ ?_ | exact VLe.refl _ | exact VLe.own_sl _ _ _ | exact VLe.fl_sl _ _ | exact VLe.nil_sl _ | exact vle_int (by omega)))) trivial ?_
  refine rl_know (d := 13) (c := true) rfl (hl) ?_
  refine rl0 (gn rfl) rfl rfl (step_unOp (c := .bool false) rfl (ev_mk rfl) (fun _ => rfl)) trivial ?_
  refine runsL_nil ?_
  refine runs_cond false (ev_mk rfl) (fun h_ => nomatch h_) (fun _ => ?_)
  refine runs_skip ?_
  refine runs_seq ?_
  refine runs_region ?_
  refine' rl0 (gn rfl) rfl rfl (step_load_all rfl rfl F.agg25 ?hl) ⟨?hb, trivial⟩ ?_
  case hb => repeat (first | exact uE | refine uN (by omega) ?_ | assumption | exact hd _ (by omega) | fail)
  case hl => first | rfl | (simp; done) | (first | exact pgC_len _ | (simp; done) | (rw [pgC_len]; omega) | omega)
  refine rl0 (gn rfl) rfl rfl (step_callc rfl Try.func11 rfl rfl rfl (of_y f hb hs) (by repeat (first | exact .nil | refine .cons ?_ ?_ | exact VLe.refl _ | exact VLe.own_sl _ _ _ | exact VLe.fl_sl _ _ | exact VLe.nil_sl _ | exact vle_int (by omega)))) trivial ?_
  refine rl0 (gn rfl) rfl rfl (step_mv rfl rfl) trivial ?_
  refine rl0 (gn rfl) rfl rfl (step_extract rfl (ev_mk rfl) rfl) trivial ?_
  refine rl0 (gn rfl) rfl rfl (step_extract rfl (ev_mk rfl) rfl) trivial ?_
  refine rl1 (gn rfl) rfl rfl (step_allocc (k := n + 1) (zs := (List.replicate 224 (.int .u8 0))) (cs := List.replicate 224 (.sc (.int .u8 0))) rfl F.zero27 (by first | rfl | simp) (by first | rfl | decide | simp) (by first | rfl | simp)) ⟨by repeat (first | exact uE | refine uN (by omega) ?_ | assumption | exact hd _ (by omega) | fail), trivial⟩ (by omega) ?_
  refine' rls (gn rfl) rfl (step_storeA rfl rfl rfl rfl F.agg27 ?hm ?hl) ⟨?hb, trivial⟩ ?hk ?_
  case hb => repeat (first | exact uE | refine uN (by omega) ?_ | assumption | exact hd _ (by omega) | fail)
  case hm => first | rfl | (simp; done) | (first | exact pgC_len _ | (simp; done) | (rw [pgC_len]; omega) | omega)
  case hl => first | rfl | (simp; done) | (first | exact pgC_len _ | (simp; done) | (rw [pgC_len]; omega) | omega)
  case hk => omega
  refine rl0 (gn rfl) rfl rfl (step_as rfl rfl) trivial ?_
  refine runsL_nil ?_
  refine runs_seq ?_
  refine runs_seq ?_
  refine runs_region ?_
  refine rl0 (gn rfl) rfl rfl (step_mv rfl rfl) trivial ?_
  refine' rl0 (gn rfl) rfl rfl (step_load_all rfl rfl F.agg25 ?hl) ⟨?hb, trivial⟩ ?_
  case hb => repeat (first | exact uE | refine uN (by omega) ?_ | assumption | exact hd _ (by omega) | fail)
  case hl => first | rfl | (simp; done) | (first | exact pgC_len _ | (simp; done) | (rw [pgC_len]; omega) | omega)
  refine rl0 (gn rfl) rfl rfl (step_callc rfl Try.func12 rfl rfl rfl (sound_v f hb true hs) (by repeat (first | exact .nil | refine .cons ?_ ?_ | exact VLe.refl _ | exact VLe.own_sl _ _ _ | exact VLe.fl_sl _ _ | exact VLe.nil_sl _ | exact vle_int (by omega)))) trivial ?_
  refine rl0 (gn rfl) rfl rfl (step_binOp (c := .bool false) rfl (ev_mk rfl) (ev_mk rfl) (fun _ => rfl)) trivial ?_
  refine runsL_nil ?_
  refine runs_cond false (ev_mk rfl) (fun h_ => nomatch h_) (fun _ => ?_)
  refine runs_skip ?_
  refine runs_seq ?_
  refine runs_seq ?_
  refine runs_region ?_
  refine rl0 (gn rfl) rfl rfl (step_mv rfl rfl) trivial ?_
  refine rl0 (gn rfl) rfl rfl (step_unOp (c := .bool false) rfl (ev_mk rfl) (fun _ => rfl)) trivial ?_
  refine runsL_nil ?_
  refine runs_cond false (ev_mk rfl) (fun h_ => nomatch h_) (fun _ => ?_)
  refine runs_skip ?_
  refine runs_seq ?_
  refine runs_seq ?_
  refine runs_draw (by kernel_rfl) (by kernel_rfl) (by kernel_rfl) ?_
  refine' dl0 (gn rfl) rfl rfl (step_load_all rfl rfl F.agg27 ?hl) ⟨?hb, trivial⟩ ?_
  case hb => repeat (first | exact uE | refine uN (by omega) ?_ | assumption | exact hd _ (by omega) | fail)
  case hl => first | rfl | (simp; done) | (first | exact pgC_len _ | (simp; done) | (rw [pgC_len]; omega) | omega)
  refine dl0 (gn rfl) rfl rfl (step_callc rfl Try.func14 rfl rfl rfl (bytes_c f) (by repeat (first | exact .nil | refine .cons ?_ ?_ | exact VLe.refl _ | exact VLe.own_sl _ _ _ | exact VLe.fl_sl _ _ | exact VLe.nil_sl _ | exact vle_int (by omega)))) trivial ?_
  refine' dl0 (gn rfl) rfl rfl (step_load_all rfl rfl F.agg25 ?hl) ⟨?hb, trivial⟩ ?_
  case hb => repeat (first | exact uE | refine uN (by omega) ?_ | assumption | exact hd _ (by omega) | fail)
  case hl => first | rfl | (simp; done) | (first | exact pgC_len _ | (simp; done) | (rw [pgC_len]; omega) | omega)
  refine dl0 (gn rfl) rfl rfl (step_neq25 rfl (ev_mk rfl) (ev_mk rfl) rfl) trivial ?_
  refine dlnil ?_ ?_
  · repeat' (first | exact trivial | exact .inr (ap0 _ _ _ _) | exact .inr (ap2 _ _ _ _) | exact .inr (ap3 _ _ _ _) | exact .inr ⟨by first | (simp; done) | (simp; omega), by first | (simp; done) | (simp; omega)⟩ | exact .inl (by kernel_rfl) | refine ⟨?_, ?_⟩ | fail)
  refine runs_cond false (ev_mk rfl) (fun h_ => nomatch h_) (fun _ => ?_)
  refine runs_skip ?_
  refine runs_seq ?_
  refine runs_region ?_
  refine rl0 (gn rfl) rfl rfl (step_as rfl rfl) trivial ?_
  refine runsL_nil ?_
  refine runs_seq ?_
  refine runs_seq ?_
  refine runs_region ?_
  refine rl0 (gn rfl) rfl rfl (step_as rfl rfl) trivial ?_
  refine runsL_nil ?_
  refine runs_block ?_
  refine runs_grow (l' := []) (d := 7) (k := n + 2) (e := 2) (xs := []) rfl (.inr ⟨rfl, rfl⟩) (by repeat (first | exact uE | refine uN (by omega) ?_ | assumption | exact hd _ (by omega) | fail)) (by omega) ?_
  have hs0_ : [] = (((ab f).take 0).map slR) := by rfl
  refine runs_loop (fun (ri_ : Nat) (st_ : Go.Vm.S) => ∃ (i : Nat) (m0 : Nat) (b0 : Nat → Box), (st_ = ⟨mk [(1, .sl 3 (l.map opC)), (4, .sc (.bool false)), (5, .ref (n + 1) 0), (6, .sc (.bool true)), (7, .own 2 (((ab f).take i).map slR) (n + 2)), (8, .sc (.int .i64 (i : Int)))], m0, b0⟩) ∧ (ri_ = 1 + (f 0 - i)) ∧ (n + 3 ≤ m0) ∧ (∀ k_, k_ < n → b0 k_ = bx k_) ∧ (b0 (n + 0) = .cells (pgC f)) ∧ (b0 (n + 1) = .cells (pgC f)) ∧ (b0 (n + 2) = .tail (((ab f).take i).map slR).length) ∧ (i ≤ f 0)) (1 + (f 0 - 0)) ⟨_, sle ?_ (Nat.le_refl _), 0, _, _, rfl, rfl, ?_⟩ ?_
  · (repeat' (first | exact trivial | refine ⟨⟨_, rfl, ?_⟩, ?_⟩ | fail)); all_goals (repeat' (first | exact VLe.refl _ | exact VLe.own_sl _ _ _ | exact VLe.fl_sl _ _ | exact VLe.nil_sl _ | exact VLe.nil_fl _ | exact VLes.refl _ | exact .nil | refine VLe.tup ?_ | refine VLe.agg ?_ | refine .cons ?_ ?_ | (rw [Int.natCast_add]; exact VLe.refl _) | exact vle_int (by omega) | exact vle_bool (by first | rfl | assumption | (simp_all; done) | fail) | (rw [← hs0_]; exact VLe.refl _) | (rw [hs0_]; exact VLe.refl _) | fail))
  · exact ⟨by omega, (fun k_ hk_ => by repeat (first | exact rfl | refine uN (by omega) ?_ | assumption | fail)), by first | ((repeat (first | exact uE | assumption | refine uN (by omega) ?_ | fail)); done) | exact tl_eq (by repeat (first | exact uE | assumption | refine uN (by omega) ?_ | fail)) (by first | rfl | (simp [bytesV, beB_len]; done) | (simp [bytesV, beB_len]; omega) | omega) | (rw [← hs0_]; (repeat (first | exact uE | assumption | refine uN (by omega) ?_ | fail)); done), by first | ((repeat (first | exact uE | assumption | refine uN (by omega) ?_ | fail)); done) | exact tl_eq (by repeat (first | exact uE | assumption | refine uN (by omega) ?_ | fail)) (by first | rfl | (simp [bytesV, beB_len]; done) | (simp [bytesV, beB_len]; omega) | omega) | (rw [← hs0_]; (repeat (first | exact uE | assumption | refine uN (by omega) ?_ | fail)); done), by first | ((repeat (first | exact uE | assumption | refine uN (by omega) ?_ | fail)); done) | exact tl_eq (by repeat (first | exact uE | assumption | refine uN (by omega) ?_ | fail)) (by first | rfl | (simp [bytesV, beB_len]; done) | (simp [bytesV, beB_len]; omega) | omega) | (rw [← hs0_]; (repeat (first | exact uE | assumption | refine uN (by omega) ?_ | fail)); done), by omega⟩
  · rintro _ _ ⟨i, m0, b0, rfl, rfl, hm0, hf0, hB0_0, hB0_1, hB0_2, hF0_0⟩
    refine runs_know (fun hd0 => ?_)
    refine runs_bump 20 ?_
    simp only at hd0
    refine runs_seq ?_
    refine runs_seq ?_
    refine runs_region ?_
    refine rl0 (gn rfl) rfl rfl (step_mv rfl rfl) trivial ?_
    refine' rl0 (gn rfl) rfl rfl (step_load_all rfl rfl F.agg27 ?hl) ⟨?hb, trivial⟩ ?_
    case hb => repeat (first | exact uE | refine uN (by omega) ?_ | assumption | exact hd _ (by omega) | exact hd0 _ (by omega) | fail)
    case hl => first | rfl | (simp; done) | (first | exact pgC_len _ | (simp; done) | (rw [pgC_len]; omega) | omega)
    refine rl0 (gn rfl) rfl rfl (step_callc rfl Try.func13 rfl rfl rfl (len_c f hb) (by repeat (first | exact .nil | refine .cons ?_ ?_ | exact VLe.refl _ | exact VLe.own_sl _ _ _ | exact VLe.fl_sl _ _ | exact VLe.nil_sl _ | exact vle_int (by omega)))) trivial ?_
    refine rl_lss (gn rfl) rfl rfl rfl rfl rfl (fun h1 => ?_) (fun h1 => ?_)
    · skip
      have hts_ := ab_ts (f := f) (i := i) (by omega)
      refine runsL_nil ?_
      refine runs_cond true (ev_mk rfl) (fun _ => ?_) (fun h_ => nomatch h_)
      refine runs_skip ?_
      refine runs_seq ?_
      refine runs_block ?_
      refine runs_seq ?_
      refine runs_region ?_
      refine' rl0 (gn rfl) rfl rfl (step_load_all rfl rfl F.agg27 ?hl) ⟨?hb, trivial⟩ ?_
      case hb => repeat (first | exact uE | refine uN (by omega) ?_ | assumption | exact hd _ (by omega) | exact hd0 _ (by omega) | fail)
      case hl => first | rfl | (simp; done) | (first | exact pgC_len _ | (simp; done) | (rw [pgC_len]; omega) | omega)
      refine rl0 (gn rfl) rfl rfl (step_mv rfl rfl) trivial ?_
      refine rl0 (gn rfl) rfl rfl (step_callc rfl Try.func15 rfl rfl rfl (get_i f hsf_ i (by omega)) (by repeat (first | exact .nil | refine .cons ?_ ?_ | exact VLe.refl _ | exact VLe.own_sl _ _ _ | exact VLe.fl_sl _ _ | exact VLe.nil_sl _ | exact vle_int (by omega)))) trivial ?_
      refine rl0 (gn rfl) rfl rfl (step_mv rfl rfl) trivial ?_
      refine rl0 (gn rfl) rfl rfl (step_extract rfl (ev_mk rfl) rfl) trivial ?_
      refine rl0 (gn rfl) rfl rfl (step_extract rfl (ev_mk rfl) rfl) trivial ?_
      refine rl0 (gn rfl) rfl rfl (step_as rfl rfl) trivial ?_
      refine rl0 (gn rfl) rfl rfl (step_as rfl rfl) trivial ?_
      refine runsL_nil ?_
      refine runs_region ?_
      refine rl0 (gn rfl) rfl rfl (step_mv rfl rfl) trivial ?_
      refine rl0 (gn rfl) rfl rfl (step_mv rfl rfl) trivial ?_
      refine rl0 (gn rfl) rfl rfl (step_mv rfl rfl) trivial ?_
      refine rl0 (gn rfl) rfl rfl (step_build (ss := [1, 1]) (zs := [.bool false, .slice none 0 0]) (cs := [.sc (.bool (sl f i).is), .sl 1 (bytesV (sl f i).b)]) rfl Try.underlying44 (by kernel_rfl) F.zero44 rfl rfl rfl) trivial ?_
      refine rl0 (gn rfl) rfl rfl (step_lit rfl Try.underlying29 F.sz44 F.zero44 (by first | rfl | simp) (by first | rfl | simp | decide) (by decide) rfl rfl (by first | (simp [V.cs, V.stor, oneV]; done) | (simp [V.cs, V.stor, oneV])) rfl) trivial ?_
      refine' rl1 (gn rfl) rfl rfl (step_append_own rfl rfl rfl Try.underlying29 ⟨_, Try.underlying29, fun k_ => by intro h_; cases h_⟩ F.el44 (ev_mk rfl) (ev_mk rfl) (gives_sl (.inr (.inl rfl))) ?hg) ⟨?hb, trivial⟩ (by omega) ?_
      case hb => repeat (first | exact uE | refine uN (by omega) ?_ | assumption | exact hd _ (by omega) | exact hd0 _ (by omega) | fail)
      case hg => first | (simp; omega) | (simp; done) | omega
      refine rl0 (gn rfl) rfl rfl (step_as rfl rfl) trivial ?_
      refine runsL_nil ?_
      refine runs_region ?_
      refine rl0 (gn rfl) rfl rfl (step_mv rfl rfl) trivial ?_
      refine rl0 (gn rfl) rfl rfl (step_add rfl (ev_mk rfl) (ev_mk rfl) (w64 (by omega))) trivial ?_
      refine rl0 (gn rfl) rfl rfl (step_as rfl rfl) trivial ?_
      refine runsL_nil ?_
      have hq0_ : (((ab f).take i).map slR) ++ [[V.sc (.bool (sl f i).is), V.sl 1 (bytesV (sl f i).b)]] = (((ab f).take (i + 1)).map slR) := by (rw [hts_])
      refine ⟨_, _, ?_, sle ?_ (Nat.le_refl _), (i + 1), _, _, rfl, rfl, by omega, (fun k_ hk_ => by repeat (first | exact hf0 k_ hk_ | refine uN (by first | assumption | omega) ?_ | fail)), by first | ((repeat (first | exact uE | assumption | refine uN (by omega) ?_ | fail)); done) | exact tl_eq (by repeat (first | exact uE | assumption | refine uN (by omega) ?_ | fail)) (by first | rfl | (simp [bytesV, beB_len]; done) | (simp [bytesV, beB_len]; omega) | omega) | (rw [← hq0_]; (repeat (first | exact uE | assumption | refine uN (by omega) ?_ | fail)); done), by first | ((repeat (first | exact uE | assumption | refine uN (by omega) ?_ | fail)); done) | exact tl_eq (by repeat (first | exact uE | assumption | refine uN (by omega) ?_ | fail)) (by first | rfl | (simp [bytesV, beB_len]; done) | (simp [bytesV, beB_len]; omega) | omega) | (rw [← hq0_]; (repeat (first | exact uE | assumption | refine uN (by omega) ?_ | fail)); done), by first | ((repeat (first | exact uE | assumption | refine uN (by omega) ?_ | fail)); done) | exact tl_eq (by repeat (first | exact uE | assumption | refine uN (by omega) ?_ | fail)) (by first | rfl | (simp [bytesV, beB_len]; done) | (simp [bytesV, beB_len]; omega) | omega) | (rw [← hq0_]; (repeat (first | exact uE | assumption | refine uN (by omega) ?_ | fail)); done), by omega⟩
      · omega
      · (repeat' (first | exact trivial | refine ⟨⟨_, rfl, ?_⟩, ?_⟩ | fail)); all_goals (repeat' (first | exact VLe.refl _ | exact VLe.own_sl _ _ _ | exact VLe.fl_sl _ _ | exact VLe.nil_sl _ | exact VLe.nil_fl _ | exact VLes.refl _ | exact .nil | refine VLe.tup ?_ | refine VLe.agg ?_ | refine .cons ?_ ?_ | (rw [Int.natCast_add]; exact VLe.refl _) | exact vle_int (by omega) | exact vle_bool (by first | rfl | assumption | (simp_all; done) | fail) | (rw [← hq0_]; exact VLe.refl _) | (rw [hq0_]; exact VLe.refl _) | fail))
    · skip
      obtain rfl : i = (f 0) := by omega
      refine runsL_nil ?_
      refine runs_cond false (ev_mk rfl) (fun h_ => nomatch h_) (fun _ => ?_)
      refine runs_exit ?_
      refine runs_seq ?_
      refine runs_seq ?_
      refine runs_region ?_
      refine rl0 (gn rfl) rfl rfl (step_as rfl rfl) trivial ?_
      refine runsL_nil ?_
      refine runs_block ?_
      have hs0_ : (((ab f).take (f 0)).map slR) = ((ab (fF f l 0)).map slR) := by (rw [fF0, ab_tk])
      have hs2_ : pgC f = pgC (fF f l 0) := by (rw [fF0])
      refine runs_loop (fun (ri_ : Nat) (st_ : Go.Vm.S) => ∃ (i : Nat) (m1 : Nat) (b1 : Nat → Box), (st_ = ⟨mk [(1, .sl 3 (l.map opC)), (4, .sc (.bool false)), (5, .ref (n + 1) 0), (6, .sc (.bool true)), (7, .sl 2 ((ab (fF f l i)).map slR)), (11, .sc (.int .i64 (i : Int)))], m1, b1⟩) ∧ (ri_ = 1 + (l.length - i)) ∧ (m0 + 0 ≤ m1) ∧ (∀ k_, k_ < n → b1 k_ = bx k_) ∧ (b1 (n + 0) = .cells (pgC f)) ∧ (b1 (n + 1) = .cells (pgC (fF f l i))) ∧ (b1 (n + 2) = .tail (((ab f).take (f 0)).map slR).length) ∧ (i ≤ l.length)) (1 + (l.length - 0)) ⟨_, sle ?_ (Nat.le_refl _), 0, _, _, rfl, rfl, ?_⟩ ?_
      · (repeat' (first | exact trivial | refine ⟨⟨_, rfl, ?_⟩, ?_⟩ | fail)); all_goals (repeat' (first | exact VLe.refl _ | exact VLe.own_sl _ _ _ | exact VLe.fl_sl _ _ | exact VLe.nil_sl _ | exact VLe.nil_fl _ | exact VLes.refl _ | exact .nil | refine VLe.tup ?_ | refine VLe.agg ?_ | refine .cons ?_ ?_ | (rw [Int.natCast_add]; exact VLe.refl _) | exact vle_int (by omega) | exact vle_bool (by first | rfl | assumption | (simp_all; done) | fail) | (rw [← hs0_]; exact VLe.refl _) | (rw [hs0_]; exact VLe.refl _) | (rw [← hs2_]; exact VLe.refl _) | (rw [hs2_]; exact VLe.refl _) | (rw [← hs0_]; exact VLe.own_sl _ _ _) | fail))
      · exact ⟨by omega, (fun k_ hk_ => by repeat (first | exact rfl | refine uN (by omega) ?_ | assumption | exact hf0 _ (by omega) | fail)), by first | ((repeat (first | exact uE | assumption | refine uN (by omega) ?_ | fail)); done) | exact tl_eq (by repeat (first | exact uE | assumption | refine uN (by omega) ?_ | fail)) (by first | rfl | (simp [bytesV, beB_len]; done) | (simp [bytesV, beB_len]; omega) | omega) | (rw [← hs0_]; (repeat (first | exact uE | assumption | refine uN (by omega) ?_ | fail)); done) | (rw [← hs2_]; (repeat (first | exact uE | assumption | refine uN (by omega) ?_ | fail)); done) | (rw [← hs0_, ← hs2_]; (repeat (first | exact uE | assumption | refine uN (by omega) ?_ | fail)); done), by first | ((repeat (first | exact uE | assumption | refine uN (by omega) ?_ | fail)); done) | exact tl_eq (by repeat (first | exact uE | assumption | refine uN (by omega) ?_ | fail)) (by first | rfl | (simp [bytesV, beB_len]; done) | (simp [bytesV, beB_len]; omega) | omega) | (rw [← hs0_]; (repeat (first | exact uE | assumption | refine uN (by omega) ?_ | fail)); done) | (rw [← hs2_]; (repeat (first | exact uE | assumption | refine uN (by omega) ?_ | fail)); done) | (rw [← hs0_, ← hs2_]; (repeat (first | exact uE | assumption | refine uN (by omega) ?_ | fail)); done), by first | ((repeat (first | exact uE | assumption | refine uN (by omega) ?_ | fail)); done) | exact tl_eq (by repeat (first | exact uE | assumption | refine uN (by omega) ?_ | fail)) (by first | rfl | (simp [bytesV, beB_len]; done) | (simp [bytesV, beB_len]; omega) | omega) | (rw [← hs0_]; (repeat (first | exact uE | assumption | refine uN (by omega) ?_ | fail)); done) | (rw [← hs2_]; (repeat (first | exact uE | assumption | refine uN (by omega) ?_ | fail)); done) | (rw [← hs0_, ← hs2_]; (repeat (first | exact uE | assumption | refine uN (by omega) ?_ | fail)); done), by omega⟩
      · rintro _ _ ⟨i, m1, b1, rfl, rfl, hm1, hf1, hB1_0, hB1_1, hB1_2, hF1_0⟩
        refine runs_know (fun hd1 => ?_)
        refine runs_bump 20 ?_
        simp only at hd1
        refine runs_seq ?_
        refine runs_seq ?_
        refine runs_region ?_
        refine rl0 (gn rfl) rfl rfl (step_mv rfl rfl) trivial ?_
        refine rl0 (gn rfl) rfl rfl (step_mv rfl rfl) trivial ?_
        refine rl0 (gn rfl) rfl rfl (step_len (m := l.length) rfl rfl (ev_mk rfl) (.inl ⟨⟨_, Try.underlying22⟩, .inl ⟨_, _, .inl rfl, List.length_map _⟩⟩)) trivial ?_
        refine rl_lss (gn rfl) rfl rfl rfl rfl rfl (fun h2 => ?_) (fun h2 => ?_)
        · skip
          have hsi_ : Snd (fF f l i) := fF_snd hsf_ hok i (by omega)
          have hst_ := fFs (g := f) (l := l) (i := i) (by omega)
          have hsj_ : Snd (doP (fF f l i) (at' l (i : Int))) := do_snd hsi_ (hok _ (List.mem_of_getElem? (oat (by omega))))
          refine runsL_nil ?_
          refine runs_cond true (ev_mk rfl) (fun _ => ?_) (fun h_ => nomatch h_)
          refine runs_skip ?_
          refine runs_seq ?_
          refine runs_block ?_
          refine runs_seq ?_
          refine runs_draw (by kernel_rfl) (by kernel_rfl) (by kernel_rfl) ?_
          refine' dl0 (gn rfl) rfl rfl (step_load_all rfl rfl F.agg27 ?hl) ⟨?hb, trivial⟩ ?_
          case hb => repeat (first | exact uE | refine uN (by omega) ?_ | assumption | exact hd _ (by omega) | exact hd0 _ (by omega) | exact hd1 _ (by omega) | fail)
          case hl => first | rfl | (simp; done) | (first | exact pgC_len _ | (simp; done) | (rw [pgC_len]; omega) | omega)
          refine dl0 (gn rfl) rfl rfl (step_mv rfl rfl) trivial ?_
          refine dl0 (gn rfl) rfl rfl (step_mv rfl rfl) trivial ?_
          refine dl0 (gn rfl) rfl rfl (step_mv rfl rfl) trivial ?_
          refine' dl0 (gn rfl) rfl rfl (step_index rfl (ev_mk rfl) (.inl rfl) (ev_mk rfl) Try.underlying22 F.sz34 (by omega) ?hr) trivial ?_
          case hr => exact map_at _ _ _ (by omega) (by omega)
          refine dl0 (gn rfl) rfl rfl (step_load_ro_all rfl rfl F.agg34 (by first | rfl | (simp; done) | (first | exact pgC_len _ | (simp; done) | (rw [pgC_len]; omega) | omega))) trivial ?_
          refine dl0 (gn rfl) rfl rfl (step_callc rfl Try.func9 rfl rfl rfl (do_c (fF f l i) hsi_ (at' l (i : Int)) (oat_ok hok hl60.2 (by omega))) (by repeat (first | exact .nil | refine .cons ?_ ?_ | exact VLe.refl _ | exact VLe.own_sl _ _ _ | exact VLe.fl_sl _ _ | exact VLe.nil_sl _ | exact vle_int (by omega)))) trivial ?_
          refine dl0 (gn rfl) rfl rfl (step_mv rfl rfl) trivial ?_
          refine dl0 (gn rfl) rfl rfl (step_extract rfl (ev_mk rfl) rfl) trivial ?_
          refine dl0 (gn rfl) rfl rfl (step_extract rfl (ev_mk rfl) rfl) trivial ?_
          refine dl0 (gn rfl) rfl rfl (step_extract rfl (ev_mk rfl) rfl) trivial ?_
          refine' dls (gn rfl) rfl (step_storeA rfl rfl rfl rfl F.agg27 ?hm ?hl) ⟨?hb, trivial⟩ ?hk ?_
          case hb => repeat (first | exact uE | refine uN (by omega) ?_ | assumption | exact hd _ (by omega) | exact hd0 _ (by omega) | exact hd1 _ (by omega) | fail)
          case hm => first | rfl | (simp; done) | (first | exact pgC_len _ | (simp; done) | (rw [pgC_len]; omega) | omega)
          case hl => first | rfl | (simp; done) | (first | exact pgC_len _ | (simp; done) | (rw [pgC_len]; omega) | omega)
          case hk => omega
          refine dl0 (gn rfl) rfl rfl (step_as rfl rfl) trivial ?_
          refine dl0 (gn rfl) rfl rfl (step_as rfl rfl) trivial ?_
          refine dlnil ?_ ?_
          · repeat' (first | exact trivial | exact .inr (ap0 _ _ _ _) | exact .inr (ap2 _ _ _ _) | exact .inr (ap3 _ _ _ _) | exact .inr ⟨by first | (simp; done) | (simp; omega), by first | (simp; done) | (simp; omega)⟩ | exact .inl (by kernel_rfl) | refine ⟨?_, ?_⟩ | fail)
          refine runs_seq ?_
          refine runs_region ?_
          refine rl0 (gn rfl) rfl rfl (step_mv rfl rfl) trivial ?_
          refine rl0 (gn rfl) rfl rfl (step_unOp (c := .bool false) rfl (ev_mk rfl) (fun _ => rfl)) trivial ?_
          refine rl0 (gn rfl) rfl rfl (step_mv rfl rfl) trivial ?_
          refine' rl0 (gy rfl rfl rfl rfl rfl rfl) rfl rfl (step_load_all rfl rfl F.agg27 ?hl) ⟨?hb, trivial⟩ ?_
          case hb => repeat (first | exact uE | refine uN (by omega) ?_ | assumption | exact hd _ (by omega) | exact hd0 _ (by omega) | exact hd1 _ (by omega) | fail)
          case hl => first | rfl | (simp; done) | (first | exact pgC_len _ | (simp; done) | (rw [pgC_len]; omega) | omega)
          refine rl0 (gy rfl rfl rfl rfl rfl rfl) rfl rfl (step_mv rfl rfl) trivial ?_
          refine rl0 (gy rfl rfl rfl rfl rfl rfl) rfl rfl (step_callc rfl Try.func10 rfl rfl rfl (same_c (doP (fF f l i) (at' l (i : Int))) hsj_) (by repeat (first | exact .nil | refine .cons ?_ ?_ | exact VLe.refl _ | exact VLe.own_sl _ _ _ | exact VLe.fl_sl _ _ | exact VLe.nil_sl _ | exact vle_int (by omega)))) trivial ?_
          refine rl0 (gy rfl rfl rfl rfl rfl rfl) rfl rfl (step_unOp (c := .bool false) rfl (ev_mk rfl) (fun _ => rfl)) trivial ?_
          refine rl0 (gn rfl) rfl rfl (step_pick rfl (ev_mk rfl) (ev_mk rfl)) trivial ?_
          refine runsL_nil ?_
          refine runs_cond false (ev_mk rfl) (fun h_ => nomatch h_) (fun _ => ?_)
          refine runs_skip ?_
          refine runs_region ?_
          refine rl0 (gn rfl) rfl rfl (step_mv rfl rfl) trivial ?_
          refine rl0 (gn rfl) rfl rfl (step_add rfl (ev_mk rfl) (ev_mk rfl) (w64 (by omega))) trivial ?_
          refine rl0 (gn rfl) rfl rfl (step_as rfl rfl) trivial ?_
          refine runsL_nil ?_
          have hq0_ : (((ab (doP (fF f l i) (at' l (i : Int)))).map slR)) = ((ab (fF f l (i + 1))).map slR) := by (rw [hst_])
          have hq2_ : (pgC (doP (fF f l i) (at' l (i : Int)))) = pgC (fF f l (i + 1)) := by (rw [hst_])
          refine ⟨_, _, ?_, sle ?_ (Nat.le_refl _), (i + 1), _, _, rfl, rfl, by omega, (fun k_ hk_ => by repeat (first | exact hf1 k_ hk_ | exact hf0 k_ hk_ | refine uN (by first | assumption | omega) ?_ | fail)), by first | ((repeat (first | exact uE | assumption | refine uN (by omega) ?_ | fail)); done) | exact tl_eq (by repeat (first | exact uE | assumption | refine uN (by omega) ?_ | fail)) (by first | rfl | (simp [bytesV, beB_len]; done) | (simp [bytesV, beB_len]; omega) | omega) | (rw [← hq0_]; (repeat (first | exact uE | assumption | refine uN (by omega) ?_ | fail)); done) | (rw [← hq2_]; (repeat (first | exact uE | assumption | refine uN (by omega) ?_ | fail)); done) | (rw [← hq0_, ← hq2_]; (repeat (first | exact uE | assumption | refine uN (by omega) ?_ | fail)); done), by first | ((repeat (first | exact uE | assumption | refine uN (by omega) ?_ | fail)); done) | exact tl_eq (by repeat (first | exact uE | assumption | refine uN (by omega) ?_ | fail)) (by first | rfl | (simp [bytesV, beB_len]; done) | (simp [bytesV, beB_len]; omega) | omega) | (rw [← hq0_]; (repeat (first | exact uE | assumption | refine uN (by omega) ?_ | fail)); done) | (rw [← hq2_]; (repeat (first | exact uE | assumption | refine uN (by omega) ?_ | fail)); done) | (rw [← hq0_, ← hq2_]; (repeat (first | exact uE | assumption | refine uN (by omega) ?_ | fail)); done), by first | ((repeat (first | exact uE | assumption | refine uN (by omega) ?_ | fail)); done) | exact tl_eq (by repeat (first | exact uE | assumption | refine uN (by omega) ?_ | fail)) (by first | rfl | (simp [bytesV, beB_len]; done) | (simp [bytesV, beB_len]; omega) | omega) | (rw [← hq0_]; (repeat (first | exact uE | assumption | refine uN (by omega) ?_ | fail)); done) | (rw [← hq2_]; (repeat (first | exact uE | assumption | refine uN (by omega) ?_ | fail)); done) | (rw [← hq0_, ← hq2_]; (repeat (first | exact uE | assumption | refine uN (by omega) ?_ | fail)); done), by omega⟩
          · omega
          · (repeat' (first | exact trivial | refine ⟨⟨_, rfl, ?_⟩, ?_⟩ | fail)); all_goals (repeat' (first | exact VLe.refl _ | exact VLe.own_sl _ _ _ | exact VLe.fl_sl _ _ | exact VLe.nil_sl _ | exact VLe.nil_fl _ | exact VLes.refl _ | exact .nil | refine VLe.tup ?_ | refine VLe.agg ?_ | refine .cons ?_ ?_ | (rw [Int.natCast_add]; exact VLe.refl _) | exact vle_int (by omega) | exact vle_bool (by first | rfl | assumption | (simp_all; done) | fail) | (rw [← hq0_]; exact VLe.refl _) | (rw [hq0_]; exact VLe.refl _) | (rw [← hq2_]; exact VLe.refl _) | (rw [hq2_]; exact VLe.refl _) | fail))
        · skip
          obtain rfl : i = l.length := by omega
          refine runsL_nil ?_
          refine runs_cond false (ev_mk rfl) (fun h_ => nomatch h_) (fun _ => ?_)
          refine runs_exit ?_
          refine runs_seq ?_
          refine runs_region ?_
          refine rl0 (gn rfl) rfl rfl (step_callc rfl Try.func7 rfl rfl rfl (hw) (by repeat (first | exact .nil | refine .cons ?_ ?_ | exact VLe.refl _ | exact VLe.own_sl _ _ _ | exact VLe.fl_sl _ _ | exact VLe.nil_sl _ | exact vle_int (by omega)))) trivial ?_
          refine rl0 (gn rfl) rfl rfl (step_as rfl rfl) trivial ?_
          refine runsL_nil ?_
          refine runs_ret ?_
          refine ⟨by first | exact .inr rfl | exact .inl rfl, fin_mkg (rest rfl res0) ?_ ?_ ?_ ?_ ?_⟩
          · (repeat' (first | exact VLe.refl _ | exact VLe.own_sl _ _ _ | exact VLe.fl_sl _ _ | exact VLe.nil_sl _ | exact VLe.nil_fl _ | exact VLes.refl _ | exact .nil | refine VLe.tup ?_ | refine VLe.agg ?_ | refine .cons ?_ ?_ | (rw [Int.natCast_add]; exact VLe.refl _) | exact vle_int (by omega) | exact vle_bool (by first | rfl | assumption | (simp_all; done) | fail) | fail))
          · first | ((repeat (first | exact trivial | exact bd_pgA _ _ | exact bd_pg _ _ | assumption | omega | (refine bdR_map (fun _ => ?_)) | refine ⟨?_, ?_⟩ | fail)); done) | (repeat (first | exact trivial | assumption | omega | (refine bdR_map (fun _ => ?_)) | (refine bdL_map (fun _ => ?_)) | refine ⟨?_, ?_⟩ | fail))
          · intro k_ hk_; exact ble (by repeat (first | exact rfl | refine uN (by omega) ?_ | assumption | exact hf0 _ (by omega) | exact hf1 _ (by omega) | fail))
          · intro p hp; cases hp
          · first | ((repeat (first | exact trivial | exact bd_pgA _ _ | exact bd_pg _ _ | assumption | omega | (refine bdR_map (fun _ => ?_)) | refine ⟨?_, ?_⟩ | fail)); done) | (repeat (first | exact trivial | assumption | omega | (refine bdR_map (fun _ => ?_)) | (refine bdL_map (fun _ => ?_)) | refine ⟨?_, ?_⟩ | fail))
end Go.Proofs.Ytjmfdddeoadpaaa
