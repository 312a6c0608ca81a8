/- Walks by the logic of values. -/
import Derived.Test.YtgnbdegpljbckaaKrVmT
import Derived.Test.YtgnbdegpljbckaaKrVmP
import Derived.Test.YtgnbdegpljbckaaKrVmV
import Derived.Test.YtgnbdegpljbckaaKrVa
import Derived.Test.YtgnbdegpljbckaaKrVp
import Derived.Test.YtgnbdegpljbckaaKrVe
namespace Go.Proofs.Ytgnbdegpljbckaa
open Go.Vm
set_option linter.unusedVariables false
set_option linter.unusedSimpArgs false
set_option maxRecDepth 100000 in
set_option maxHeartbeats 4000000 in
theorem less_Q (a b : List Sp) (ha : SetM 18446744073709551615 a) (hb : SetM 18446744073709551615 b) (hl : a.length + b.length ≤ 1000) : Does Try.prog 28 [.agg [.sl 2 (a.map spQ)], .agg [.sl 2 (b.map spQ)]] [] [] (.agg [.sl 2 (((lessL a b)).map spQ)]) := by
  refine does_mkg 40 Try.func28 rfl rfl rfl (fun n B bx hd hpre hup hvs hbx hgx => ?_)
  refine runs_seq ?_
  refine runs_region ?_
  refine rl1 (gn rfl) rfl rfl (step_box_agg (k := n + 0) rfl rfl) ⟨by repeat (first | exact uE | refine uN (by omega) ?_ | assumption | exact hd _ (by omega) | fail), trivial⟩ (by omega) ?_
  refine rl1 (gn rfl) rfl rfl (step_box_agg (k := n + 1) rfl rfl) ⟨by repeat (first | exact uE | refine uN (by omega) ?_ | assumption | exact hd _ (by omega) | fail), trivial⟩ (by omega) ?_
  refine rl1 (gn rfl) rfl rfl (step_allocc (k := n + 2) (zs := [.slice none 0 0]) (cs := [.sc (.slice none 0 0)]) rfl F.zero52 (by first | rfl | simp) (by first | rfl | decide | simp) (by first | rfl | simp)) ⟨by repeat (first | exact uE | refine uN (by omega) ?_ | assumption | exact hd _ (by omega) | fail), trivial⟩ (by omega) ?_
  refine runsL_nil ?_
  refine runs_seq ?_
  refine runs_seq ?_
  refine runs_region ?_
  refine rl0 (gn rfl) rfl rfl (step_fieldAddr (off := 0) rfl (ev_mk rfl) Try.underlying52 rfl F.sz49 rfl) trivial ?_
  refine' rl0 (gn rfl) rfl rfl (step_load_one rfl (ev_mk rfl) F.one49 ?hv) ⟨?hb, trivial⟩ ?_
  case hb => repeat (first | exact uE | refine uN (by omega) ?_ | assumption | exact hd _ (by omega) | fail)
  case hv => rfl
  refine rl0 (gn rfl) rfl rfl (step_len (m := b.length) rfl rfl (ev_mk rfl) (.inl ⟨⟨_, Try.underlying49⟩, .inl ⟨_, _, .inl rfl, List.length_map _⟩⟩)) trivial ?_
  refine rl0 (gn rfl) rfl rfl (step_mv rfl rfl) trivial ?_
  refine runsL_nil ?_
  refine runs_block ?_
  have hs1_ : (a.map spQ) = ((lessL a (b.take 0)).map spQ) := by rfl
  refine runs_loop (fun (ri_ : Nat) (st_ : Go.Vm.S) => ∃ (i : Nat) (m0 : Nat) (b0 : Nat → Box), (st_ = ⟨mk [(2, .ref (n + 0) 0), (4, .ref (n + 2) 0), (8, .sl 2 (b.map spQ)), (9, .sc (.int .i64 b.length)), (10, .sc (.int .i64 (i : Int)))], m0, b0⟩) ∧ (ri_ = 1 + (b.length - i)) ∧ (n + 3 ≤ m0) ∧ (∀ k_, k_ < n → b0 k_ = bx k_) ∧ (b0 (n + 0) = .cells [.sl 2 ((lessL a (b.take i)).map spQ)]) ∧ (b0 (n + 1) = .cells [.sl 2 (b.map spQ)]) ∧ (b0 (n + 2) = .cells [.sc (.slice none 0 0)]) ∧ (i ≤ b.length)) (1 + (b.length - 0)) ⟨_, sle ?_ (Nat.le_refl _), 0, _, _, rfl, rfl, ?_⟩ ?_
  · (repeat' (first | exact trivial | refine ⟨⟨_, rfl, ?_⟩, ?_⟩ | fail)); all_goals (repeat' (first | exact VLe.refl _ | exact VLe.own_sl _ _ _ | exact VLe.fl_sl _ _ | exact VLe.nil_sl _ | exact VLe.nil_fl _ | exact VLes.refl _ | exact .nil | refine VLe.tup ?_ | refine VLe.agg ?_ | refine .cons ?_ ?_ | (rw [Int.natCast_add]; exact VLe.refl _) | exact vle_int (by omega) | exact vle_bool (by first | rfl | assumption | (simp_all; done) | fail) | (rw [← hs1_]; exact VLe.refl _) | (rw [hs1_]; exact VLe.refl _) | fail))
  · exact ⟨by omega, (fun k_ hk_ => by repeat (first | exact rfl | refine uN (by omega) ?_ | assumption | fail)), by first | ((repeat (first | exact uE | assumption | refine uN (by omega) ?_ | fail)); done) | exact tl_eq (by repeat (first | exact uE | assumption | refine uN (by omega) ?_ | fail)) (by first | rfl | (simp [bytesV, beB_len]; done) | (simp [bytesV, beB_len]; omega) | omega) | (rw [← hs1_]; (repeat (first | exact uE | assumption | refine uN (by omega) ?_ | fail)); done), by first | ((repeat (first | exact uE | assumption | refine uN (by omega) ?_ | fail)); done) | exact tl_eq (by repeat (first | exact uE | assumption | refine uN (by omega) ?_ | fail)) (by first | rfl | (simp [bytesV, beB_len]; done) | (simp [bytesV, beB_len]; omega) | omega) | (rw [← hs1_]; (repeat (first | exact uE | assumption | refine uN (by omega) ?_ | fail)); done), by first | ((repeat (first | exact uE | assumption | refine uN (by omega) ?_ | fail)); done) | exact tl_eq (by repeat (first | exact uE | assumption | refine uN (by omega) ?_ | fail)) (by first | rfl | (simp [bytesV, beB_len]; done) | (simp [bytesV, beB_len]; omega) | omega) | (rw [← hs1_]; (repeat (first | exact uE | assumption | refine uN (by omega) ?_ | fail)); done), by omega⟩
  · rintro _ _ ⟨i, m0, b0, rfl, rfl, hm0, hf0, hB0_0, hB0_1, hB0_2, hF0_0⟩
    refine runs_know (fun hd0 => ?_)
    refine runs_bump 20 ?_
    simp only at hd0
    refine runs_seq ?_
    refine runs_region ?_
    refine rl_lss (gn rfl) rfl rfl rfl rfl rfl (fun h1 => ?_) (fun h1 => ?_)
    · skip
      have hai_ : inM 18446744073709551615 (at' b (i : Int)) := hb.ins _ (List.mem_of_getElem? (oat (by omega)))
      have hsi_ : SetM 18446744073709551615 (lessL a (b.take i)) := ha.less
      have hli_ : (lessL a (b.take i)).length ≤ 1000 := by have := less_len (m := b.take i) ha.c; rw [List.length_take] at this; omega
      have hjt_ := less_t (a := a) (b := b) (i := i) (by omega)
      refine runsL_nil ?_
      refine runs_seq ?_
      refine runs_cond true (ev_mk rfl) (fun _ => ?_) (fun h_ => nomatch h_)
      refine runs_skip ?_
      refine runs_seq ?_
      refine runs_block ?_
      refine runs_seq ?_
      refine runs_region ?_
      refine' rl0 (gn rfl) rfl rfl (step_index rfl (ev_mk rfl) (.inl rfl) (ev_mk rfl) Try.underlying49 F.sz58 (by omega) ?hr) trivial ?_
      case hr => exact map_at _ _ _ (by omega) (by omega)
      refine rl0 (gn rfl) rfl rfl (step_load_ro_all rfl rfl F.agg58 (by first | rfl | (simp; done) | (first | (simp; done) | (simp; omega) | omega))) trivial ?_
      refine rl1 (gn rfl) rfl rfl (step_allocc (k := m0 + 0) (zs := [.int .u64 0, .int .u64 0]) (cs := [.sc (.int .u64 0), .sc (.int .u64 0)]) rfl F.zero58 (by first | rfl | simp) (by first | rfl | decide | simp) (by first | rfl | simp)) ⟨by repeat (first | exact uE | refine uN (by omega) ?_ | assumption | exact hd _ (by omega) | exact hd0 _ (by omega) | fail), trivial⟩ (by omega) ?_
      refine' rls (gn rfl) rfl (step_storeA rfl rfl rfl rfl F.agg58 ?hm ?hl) ⟨?hb, trivial⟩ ?hk ?_
      case hb => repeat (first | exact uE | refine uN (by omega) ?_ | assumption | exact hd _ (by omega) | exact hd0 _ (by omega) | fail)
      case hm => first | rfl | (simp; done) | (first | (simp; done) | (simp; omega) | omega)
      case hl => first | rfl | (simp; done) | (first | (simp; done) | (simp; omega) | omega)
      case hk => omega
      refine runsL_nil ?_
      refine runs_region ?_
      refine' rl0 (gn rfl) rfl rfl (step_load_all rfl rfl F.agg52 ?hl) ⟨?hb, trivial⟩ ?_
      case hb => repeat (first | exact uE | refine uN (by omega) ?_ | assumption | exact hd _ (by omega) | exact hd0 _ (by omega) | fail)
      case hl => first | rfl | (simp; done) | (first | (simp; done) | (simp; omega) | omega)
      refine' rl0 (gn rfl) rfl rfl (step_load_all rfl rfl F.agg58 ?hl) ⟨?hb, trivial⟩ ?_
      case hb => repeat (first | exact uE | refine uN (by omega) ?_ | assumption | exact hd _ (by omega) | exact hd0 _ (by omega) | fail)
      case hl => first | rfl | (simp; done) | (first | (simp; done) | (simp; omega) | omega)
      refine rl0 (gn rfl) rfl rfl (step_callc rfl Try.func41 rfl rfl rfl (cut_Q (lessL a (b.take i)) hsi_ hli_ (at' b (i : Int)) hai_) (by repeat (first | exact .nil | refine .cons ?_ ?_ | exact VLe.refl _ | refine VLe.agg ?_ | exact VLe.own_sl _ _ _ | exact VLe.fl_sl _ _ | exact VLe.nil_sl _ | exact vle_int (by omega)))) trivial ?_
      refine' rls (gn rfl) rfl (step_storeA rfl rfl rfl rfl F.agg52 ?hm ?hl) ⟨?hb, trivial⟩ ?hk ?_
      case hb => repeat (first | exact uE | refine uN (by omega) ?_ | assumption | exact hd _ (by omega) | exact hd0 _ (by omega) | fail)
      case hm => first | rfl | (simp; done) | (first | (simp; done) | (simp; omega) | omega)
      case hl => first | rfl | (simp; done) | (first | (simp; done) | (simp; omega) | omega)
      case hk => omega
      refine runsL_nil ?_
      refine runs_region ?_
      refine rl0 (gn rfl) rfl rfl (step_add rfl (ev_mk rfl) (ev_mk rfl) (w64 (by omega))) trivial ?_
      refine rl0 (gn rfl) rfl rfl (step_mv rfl rfl) trivial ?_
      refine runsL_nil ?_
      have hq1_ : ((((cutL (lessL a (b.take i)) (at' b (i : Int)))).map spQ)) = ((lessL a (b.take (i + 1))).map spQ) := by (rw [hjt_])
      refine ⟨_, _, ?_, sle ?_ (Nat.le_refl _), (i + 1), _, _, rfl, rfl, by omega, (fun k_ hk_ => by repeat (first | exact hf0 k_ hk_ | refine uN (by first | assumption | omega) ?_ | fail)), by first | ((repeat (first | exact uE | assumption | refine uN (by omega) ?_ | fail)); done) | exact tl_eq (by repeat (first | exact uE | assumption | refine uN (by omega) ?_ | fail)) (by first | rfl | (simp [bytesV, beB_len]; done) | (simp [bytesV, beB_len]; omega) | omega) | (rw [← hq1_]; (repeat (first | exact uE | assumption | refine uN (by omega) ?_ | fail)); done), by first | ((repeat (first | exact uE | assumption | refine uN (by omega) ?_ | fail)); done) | exact tl_eq (by repeat (first | exact uE | assumption | refine uN (by omega) ?_ | fail)) (by first | rfl | (simp [bytesV, beB_len]; done) | (simp [bytesV, beB_len]; omega) | omega) | (rw [← hq1_]; (repeat (first | exact uE | assumption | refine uN (by omega) ?_ | fail)); done), by first | ((repeat (first | exact uE | assumption | refine uN (by omega) ?_ | fail)); done) | exact tl_eq (by repeat (first | exact uE | assumption | refine uN (by omega) ?_ | fail)) (by first | rfl | (simp [bytesV, beB_len]; done) | (simp [bytesV, beB_len]; omega) | omega) | (rw [← hq1_]; (repeat (first | exact uE | assumption | refine uN (by omega) ?_ | fail)); done), by omega⟩
      · omega
      · (repeat' (first | exact trivial | refine ⟨⟨_, rfl, ?_⟩, ?_⟩ | fail)); all_goals (repeat' (first | exact VLe.refl _ | exact VLe.own_sl _ _ _ | exact VLe.fl_sl _ _ | exact VLe.nil_sl _ | exact VLe.nil_fl _ | exact VLes.refl _ | exact .nil | refine VLe.tup ?_ | refine VLe.agg ?_ | refine .cons ?_ ?_ | (rw [Int.natCast_add]; exact VLe.refl _) | exact vle_int (by omega) | exact vle_bool (by first | rfl | assumption | (simp_all; done) | fail) | (rw [← hq1_]; exact VLe.refl _) | (rw [hq1_]; exact VLe.refl _) | fail))
    · skip
      obtain rfl : i = b.length := by omega
      refine runsL_nil ?_
      refine runs_seq ?_
      refine runs_cond false (ev_mk rfl) (fun h_ => nomatch h_) (fun _ => ?_)
      refine runs_exit ?_
      refine runs_seq ?_
      refine runs_region ?_
      refine' rl0 (gn rfl) rfl rfl (step_load_all rfl rfl F.agg52 ?hl) ⟨?hb, trivial⟩ ?_
      case hb => repeat (first | exact uE | refine uN (by omega) ?_ | assumption | exact hd _ (by omega) | exact hd0 _ (by omega) | fail)
      case hl => first | rfl | (simp; done) | (first | (simp; done) | (simp; omega) | omega)
      refine' rls (gn rfl) rfl (step_storeA rfl rfl rfl rfl F.agg52 ?hm ?hl) ⟨?hb, trivial⟩ ?hk ?_
      case hb => repeat (first | exact uE | refine uN (by omega) ?_ | assumption | exact hd _ (by omega) | exact hd0 _ (by omega) | fail)
      case hm => first | rfl | (simp; done) | (first | (simp; done) | (simp; omega) | omega)
      case hl => first | rfl | (simp; done) | (first | (simp; done) | (simp; omega) | omega)
      case hk => omega
      refine runsL_nil ?_
      refine runs_ret ?_
      refine ⟨by first | exact .inr rfl | exact .inl rfl, fin_mkg (resc rfl (by repeat (first | exact uE | refine uN (by omega) ?_ | assumption | exact hd _ (by omega) | exact hd0 _ (by omega) | fail)) F.agg52 (by first | rfl | (simp; done) | (first | (simp; done) | (simp; omega) | omega)) res0) ?_ ?_ ?_ ?_ ?_⟩
      · (repeat' (first | exact VLe.refl _ | exact VLe.own_sl _ _ _ | exact VLe.fl_sl _ _ | exact VLe.nil_sl _ | exact VLe.nil_fl _ | exact VLes.refl _ | exact .nil | refine VLe.tup ?_ | refine VLe.agg ?_ | refine .cons ?_ ?_ | (rw [Int.natCast_add]; exact VLe.refl _) | exact vle_int (by omega) | exact vle_bool (by first | rfl | assumption | (simp_all; done) | fail) | ((rw [List.take_length]; exact VLe.refl _)) | fail))
      · repeat (first | exact trivial | assumption | omega | (refine bdR_map (fun _ => ?_)) | (refine bdL_map (fun _ => ?_)) | refine ⟨?_, ?_⟩ | fail)
      · intro k_ hk_; exact ble (by repeat (first | exact rfl | refine uN (by omega) ?_ | assumption | exact hf0 _ (by omega) | fail))
      · intro p hp; cases hp
      · repeat (first | exact trivial | assumption | omega | (refine bdR_map (fun _ => ?_)) | (refine bdL_map (fun _ => ?_)) | refine ⟨?_, ?_⟩ | fail)
set_option maxRecDepth 100000 in
set_option maxHeartbeats 4000000 in
theorem cmp_Q (y : Sp) (n_ : Int) : Does Try.prog 47 [.agg (spQ y), .sc (.int .u64 n_)] [] [] (.sc (.int .i64 (cmpF y n_))) := by
  refine does_mkg 40 Try.func47 rfl rfl rfl (fun n B bx hd hpre hup hvs hbx hgx => ?_)
  refine runs_seq ?_
  refine runs_region ?_
  refine rl1 (gn rfl) rfl rfl (step_box_agg (k := n + 0) rfl rfl) ⟨by repeat (first | exact uE | refine uN (by omega) ?_ | assumption | exact hd _ (by omega) | fail), trivial⟩ (by omega) ?_
  refine rl0 (gn rfl) rfl rfl (step_as rfl rfl) trivial ?_
  refine runsL_nil ?_
  refine runs_seq ?_
  refine runs_seq ?_
  refine runs_region ?_
  refine rl0 (gn rfl) rfl rfl (step_fieldAddr (off := 1) rfl (ev_mk rfl) Try.underlying58 rfl F.sz50 rfl) trivial ?_
  refine' rl0 (gn rfl) rfl rfl (step_load_one rfl (ev_mk rfl) F.one50 ?hv) ⟨?hb, trivial⟩ ?_
  case hb => repeat (first | exact uE | refine uN (by omega) ?_ | assumption | exact hd _ (by omega) | fail)
  case hv => rfl
  refine rl0 (gn rfl) rfl rfl (step_mv rfl rfl) trivial ?_
  refine rl_lss (gn rfl) rfl rfl rfl rfl rfl (fun h1 => ?_) (fun h1 => ?_)
  · skip
    have hem_ : (-1 : Int) = cmpF y n_ := (if_pos (by omega)).symm
    refine runsL_nil ?_
    refine runs_cond true (ev_mk rfl) (fun _ => ?_) (fun h_ => nomatch h_)
    refine runs_seq ?_
    refine runs_region ?_
    refine rl0 (gn rfl) rfl rfl (step_as rfl rfl) trivial ?_
    refine runsL_nil ?_
    refine runs_ret ?_
    refine ⟨by first | exact .inr rfl | exact .inl rfl, fin_mkg (rest rfl res0) ?_ ?_ ?_ ?_ ?_⟩
    · (repeat' (first | exact VLe.refl _ | exact VLe.own_sl _ _ _ | exact VLe.fl_sl _ _ | exact VLe.nil_sl _ | exact VLe.nil_fl _ | exact VLes.refl _ | exact .nil | refine VLe.tup ?_ | refine VLe.agg ?_ | refine .cons ?_ ?_ | (rw [Int.natCast_add]; exact VLe.refl _) | exact vle_int (by omega) | exact vle_bool (by first | rfl | assumption | (simp_all; done) | fail) | (exact vle_int (by omega)) | fail))
    · repeat (first | exact trivial | assumption | omega | (refine bdR_map (fun _ => ?_)) | (refine bdL_map (fun _ => ?_)) | refine ⟨?_, ?_⟩ | fail)
    · intro k_ hk_; exact ble (by repeat (first | exact rfl | refine uN (by omega) ?_ | assumption | fail))
    · intro p hp; cases hp
    · repeat (first | exact trivial | assumption | omega | (refine bdR_map (fun _ => ?_)) | (refine bdL_map (fun _ => ?_)) | refine ⟨?_, ?_⟩ | fail)
  · skip
    have hem_ : (1 : Int) = cmpF y n_ := (if_neg (by omega)).symm
    refine runsL_nil ?_
    refine runs_cond false (ev_mk rfl) (fun h_ => nomatch h_) (fun _ => ?_)
    refine runs_skip ?_
    refine runs_seq ?_
    refine runs_region ?_
    refine rl0 (gn rfl) rfl rfl (step_as rfl rfl) trivial ?_
    refine runsL_nil ?_
    refine runs_ret ?_
    refine ⟨by first | exact .inr rfl | exact .inl rfl, fin_mkg (rest rfl res0) ?_ ?_ ?_ ?_ ?_⟩
    · (repeat' (first | exact VLe.refl _ | exact VLe.own_sl _ _ _ | exact VLe.fl_sl _ _ | exact VLe.nil_sl _ | exact VLe.nil_fl _ | exact VLes.refl _ | exact .nil | refine VLe.tup ?_ | refine VLe.agg ?_ | refine .cons ?_ ?_ | (rw [Int.natCast_add]; exact VLe.refl _) | exact vle_int (by omega) | exact vle_bool (by first | rfl | assumption | (simp_all; done) | fail) | (exact vle_int (by omega)) | fail))
    · repeat (first | exact trivial | assumption | omega | (refine bdR_map (fun _ => ?_)) | (refine bdL_map (fun _ => ?_)) | refine ⟨?_, ?_⟩ | fail)
    · intro k_ hk_; exact ble (by repeat (first | exact rfl | refine uN (by omega) ?_ | assumption | fail))
    · intro p hp; cases hp
    · repeat (first | exact trivial | assumption | omega | (refine bdR_map (fun _ => ?_)) | (refine bdL_map (fun _ => ?_)) | refine ⟨?_, ?_⟩ | fail)
set_option maxRecDepth 100000 in
set_option maxHeartbeats 4000000 in
theorem bs_Q (l : List Sp) (hs : SetM 18446744073709551615 l) (hl : l.length ≤ 1000) (n_ : Int) : Does Try.prog 46 [.sl 2 (l.map spQ), .sc (.int .u64 n_), .sc (.func (.func 47) #[] #[])] [] [] (.tup [.sc (.int .i64 (fdL l n_ : Int)), .sc (.bool false)]) := by
  refine does_mkg 40 Try.func46 rfl rfl rfl (fun n B bx hd hpre hup hvs hbx hgx => ?_)
  have hfl_ := fdL_le l n_
  refine runs_seq ?_
  refine runs_region ?_
  refine rl0 (gn rfl) rfl rfl (step_as rfl rfl) trivial ?_
  refine rl0 (gn rfl) rfl rfl (step_as rfl rfl) trivial ?_
  refine runsL_nil ?_
  refine runs_seq ?_
  refine runs_region ?_
  refine rl0 (gn rfl) rfl rfl (step_mv rfl rfl) trivial ?_
  refine rl0 (gn rfl) rfl rfl (step_len (m := l.length) rfl rfl (ev_mk rfl) (.inl ⟨⟨_, Try.underlying49⟩, .inl ⟨_, _, .inl rfl, List.length_map _⟩⟩)) trivial ?_
  refine rl0 (gn rfl) rfl rfl (step_as rfl rfl) trivial ?_
  refine runsL_nil ?_
  refine runs_seq ?_
  refine runs_region ?_
  refine rl0 (gn rfl) rfl rfl (step_mv rfl rfl) trivial ?_
  refine rl0 (gn rfl) rfl rfl (step_as rfl rfl) trivial ?_
  refine rl0 (gn rfl) rfl rfl (step_as rfl rfl) trivial ?_
  refine runsL_nil ?_
  refine runs_seq ?_
  refine runs_block ?_
  refine runs_loop (fun (ri_ : Nat) (st_ : Go.Vm.S) => ∃ (i j : Nat) (m0 : Nat) (b0 : Nat → Box), (st_ = ⟨mk [(0, .sl 2 (l.map spQ)), (1, .sc (.int .u64 n_)), (2, .sc (.func (.func 47) #[] #[])), (6, .sc (.int .i64 0)), (7, .sc (.bool false)), (8, .sc (.int .i64 l.length)), (9, .sc (.int .i64 (i : Int))), (10, .sc (.int .i64 (j : Int)))], m0, b0⟩) ∧ (ri_ = 1 + (j - i)) ∧ (n + 0 ≤ m0) ∧ (∀ k_, k_ < n → b0 k_ = bx k_) ∧ (i ≤ fdL l n_) ∧ (fdL l n_ ≤ j) ∧ (j ≤ l.length)) (1 + (l.length - 0)) ⟨_, sle ?_ (Nat.le_refl _), 0, l.length, _, _, rfl, rfl, ?_⟩ ?_
  · (repeat' (first | exact trivial | refine ⟨⟨_, rfl, ?_⟩, ?_⟩ | fail)); all_goals (repeat' (first | exact VLe.refl _ | exact VLe.own_sl _ _ _ | exact VLe.fl_sl _ _ | exact VLe.nil_sl _ | exact VLe.nil_fl _ | exact VLes.refl _ | exact .nil | refine VLe.tup ?_ | refine VLe.agg ?_ | refine .cons ?_ ?_ | (rw [Int.natCast_add]; exact VLe.refl _) | exact vle_int (by omega) | exact vle_bool (by first | rfl | assumption | (simp_all; done) | fail) | fail))
  · exact ⟨by omega, (fun k_ hk_ => by repeat (first | exact rfl | refine uN (by omega) ?_ | assumption | fail)), by omega, by omega, by omega⟩
  · rintro _ _ ⟨i, j, m0, b0, rfl, rfl, hm0, hf0, hF0_0, hF0_1, hF0_2⟩
    refine runs_know (fun hd0 => ?_)
    refine runs_bump 20 ?_
    simp only at hd0
    refine runs_seq ?_
    refine runs_seq ?_
    refine runs_region ?_
    refine rl0 (gn rfl) rfl rfl (step_mv rfl rfl) trivial ?_
    refine rl0 (gn rfl) rfl rfl (step_mv rfl rfl) trivial ?_
    refine rl_lss (gn rfl) rfl rfl rfl rfl rfl (fun h1 => ?_) (fun h1 => ?_)
    · skip
      have hh_ : (i + j) / 2 < l.length := by omega
      refine runsL_nil ?_
      refine runs_cond true (ev_mk rfl) (fun _ => ?_) (fun h_ => nomatch h_)
      refine runs_skip ?_
      refine runs_block ?_
      refine runs_seq ?_
      refine runs_region ?_
      refine rl0 (gn rfl) rfl rfl (step_mv rfl rfl) trivial ?_
      refine rl0 (gn rfl) rfl rfl (step_mv rfl rfl) trivial ?_
      refine rl0 (gn rfl) rfl rfl (step_add rfl (ev_mk rfl) (ev_mk rfl) (w64 (by omega))) trivial ?_
      refine rl0 (gn rfl) rfl rfl (step_conv_id rfl rfl Try.underlying3 Try.underlying74 (wu64 (by omega))) trivial ?_
      refine rl0 (gn rfl) rfl rfl (step_shr (r := (((i + j) / 2 : Nat) : Int)) rfl (ev_mk rfl) (ev_mk rfl) (by omega) (shr1)) trivial ?_
      refine rl0 (gn rfl) rfl rfl (step_conv_id rfl rfl Try.underlying74 Try.underlying3 (w64 (by omega))) trivial ?_
      refine rl0 (gn rfl) rfl rfl (step_as rfl rfl) trivial ?_
      refine runsL_nil ?_
      refine runs_seq ?_
      refine runs_region ?_
      refine rl0 (gn rfl) rfl rfl (step_mv rfl rfl) trivial ?_
      refine rl0 (gn rfl) rfl rfl (step_mv rfl rfl) trivial ?_
      refine rl0 (gn rfl) rfl rfl (step_mv rfl rfl) trivial ?_
      refine' rl0 (gn rfl) rfl rfl (step_index rfl (ev_mk rfl) (.inl rfl) (ev_mk rfl) Try.underlying49 F.sz58 (by omega) ?hr) trivial ?_
      case hr => exact map_at _ _ _ (by omega) (by omega)
      refine rl0 (gn rfl) rfl rfl (step_load_ro_all rfl rfl F.agg58 (by first | rfl | (simp; done) | (first | (simp; done) | (simp; omega) | omega))) trivial ?_
      refine rl0 (gn rfl) rfl rfl (step_mv rfl rfl) trivial ?_
      refine rl0 (gn rfl) rfl rfl (step_callfn rfl (ev_mk rfl) (.inr ⟨rfl, rfl⟩) Try.func47 rfl rfl rfl (cmp_Q (at' l (((i + j) / 2 : Nat) : Int)) n_) (by repeat (first | exact .nil | refine .cons ?_ ?_ | exact VLe.refl _ | exact VLe.own_sl _ _ _ | exact VLe.fl_sl _ _ | exact VLe.nil_sl _ | exact VLe.nil_fl _ | refine VLe.agg ?_))) trivial ?_
      refine rl_lss (gn rfl) rfl rfl rfl rfl rfl (fun h2 => ?_) (fun h2 => ?_)
      · skip
        have hb_ := bs_lt hs (i := (i + j) / 2) (by omega) (by omega)
        refine runsL_nil ?_
        refine runs_cond true (ev_mk rfl) (fun _ => ?_) (fun h_ => nomatch h_)
        refine runs_region ?_
        refine rl0 (gn rfl) rfl rfl (step_mv rfl rfl) trivial ?_
        refine rl0 (gn rfl) rfl rfl (step_add rfl (ev_mk rfl) (ev_mk rfl) (w64 (by omega))) trivial ?_
        refine rl0 (gn rfl) rfl rfl (step_as rfl rfl) trivial ?_
        refine runsL_nil ?_
        refine ⟨_, _, ?_, sle ?_ (Nat.le_refl _), ((i + j) / 2 + 1), j, _, _, rfl, rfl, by omega, (fun k_ hk_ => by repeat (first | exact hf0 k_ hk_ | refine uN (by first | assumption | omega) ?_ | fail)), by omega, by omega, by omega⟩
        · omega
        · (repeat' (first | exact trivial | refine ⟨⟨_, rfl, ?_⟩, ?_⟩ | fail)); all_goals (repeat' (first | exact VLe.refl _ | exact VLe.own_sl _ _ _ | exact VLe.fl_sl _ _ | exact VLe.nil_sl _ | exact VLe.nil_fl _ | exact VLes.refl _ | exact .nil | refine VLe.tup ?_ | refine VLe.agg ?_ | refine .cons ?_ ?_ | (rw [Int.natCast_add]; exact VLe.refl _) | exact vle_int (by omega) | exact vle_bool (by first | rfl | assumption | (simp_all; done) | fail) | fail))
      · skip
        have hb_ := bs_ge hs (i := (i + j) / 2) (by omega) (by omega)
        refine runsL_nil ?_
        refine runs_cond false (ev_mk rfl) (fun h_ => nomatch h_) (fun _ => ?_)
        refine runs_region ?_
        refine rl0 (gn rfl) rfl rfl (step_mv rfl rfl) trivial ?_
        refine rl0 (gn rfl) rfl rfl (step_as rfl rfl) trivial ?_
        refine runsL_nil ?_
        refine ⟨_, _, ?_, sle ?_ (Nat.le_refl _), i, ((i + j) / 2), _, _, rfl, rfl, by omega, (fun k_ hk_ => by repeat (first | exact hf0 k_ hk_ | refine uN (by first | assumption | omega) ?_ | fail)), by omega, by omega, by omega⟩
        · omega
        · (repeat' (first | exact trivial | refine ⟨⟨_, rfl, ?_⟩, ?_⟩ | fail)); all_goals (repeat' (first | exact VLe.refl _ | exact VLe.own_sl _ _ _ | exact VLe.fl_sl _ _ | exact VLe.nil_sl _ | exact VLe.nil_fl _ | exact VLes.refl _ | exact .nil | refine VLe.tup ?_ | refine VLe.agg ?_ | refine .cons ?_ ?_ | (rw [Int.natCast_add]; exact VLe.refl _) | exact vle_int (by omega) | exact vle_bool (by first | rfl | assumption | (simp_all; done) | fail) | fail))
    · skip
      have he_ : i = fdL l n_ := by omega
      refine runsL_nil ?_
      refine runs_cond false (ev_mk rfl) (fun h_ => nomatch h_) (fun _ => ?_)
      refine runs_exit ?_
      refine runs_seq ?_
      refine runs_region ?_
      refine rl0 (gn rfl) rfl rfl (step_mv rfl rfl) trivial ?_
      refine rl0 (gn rfl) rfl rfl (step_mv rfl rfl) trivial ?_
      refine rl0 (gn rfl) rfl rfl (step_mv rfl rfl) trivial ?_
      refine rl_lss (gn rfl) rfl rfl rfl rfl rfl (fun h2 => ?_) (fun h2 => ?_)
      · skip
        refine rl0 (gn rfl) rfl rfl (step_mv rfl rfl) trivial ?_
        refine rl0 (gy rfl rfl rfl rfl rfl rfl) rfl rfl (step_mv rfl rfl) trivial ?_
        refine rl0 (gy rfl rfl rfl rfl rfl rfl) rfl rfl (step_mv rfl rfl) trivial ?_
        refine rl0 (gy rfl rfl rfl rfl rfl rfl) rfl rfl (step_mv rfl rfl) trivial ?_
        refine' rl0 (gy rfl rfl rfl rfl rfl rfl) rfl rfl (step_index rfl (ev_mk rfl) (.inl rfl) (ev_mk rfl) Try.underlying49 F.sz58 (by omega) ?hr) trivial ?_
        case hr => exact map_at _ _ _ (by omega) (by omega)
        refine rl0 (gy rfl rfl rfl rfl rfl rfl) rfl rfl (step_load_ro_all rfl rfl F.agg58 (by first | rfl | (simp; done) | (first | (simp; done) | (simp; omega) | omega))) trivial ?_
        refine rl0 (gy rfl rfl rfl rfl rfl rfl) rfl rfl (step_mv rfl rfl) trivial ?_
        refine rl0 (gy rfl rfl rfl rfl rfl rfl) rfl rfl (step_callfn rfl (ev_mk rfl) (.inr ⟨rfl, rfl⟩) Try.func47 rfl rfl rfl (cmp_Q (at' l (i : Int)) n_) (by repeat (first | exact .nil | refine .cons ?_ ?_ | exact VLe.refl _ | exact VLe.own_sl _ _ _ | exact VLe.fl_sl _ _ | exact VLe.nil_sl _ | exact VLe.nil_fl _ | refine VLe.agg ?_))) trivial ?_
        refine rl_eql (gy rfl rfl rfl rfl rfl rfl) rfl rfl rfl rfl rfl (fun h3 => ?_) (fun h3 => ?_)
        · exact False.elim (by (have q_ := cmp_nz (at' l (i : Int)) n_; omega))
        refine rl0 (gn rfl) rfl rfl (step_pick rfl (ev_mk rfl) (ev_mk rfl)) trivial ?_
        refine rl0 (gn rfl) rfl rfl (step_as rfl rfl) trivial ?_
        refine rl0 (gn rfl) rfl rfl (step_as rfl rfl) trivial ?_
        refine runsL_nil ?_
        refine runs_ret ?_
        refine ⟨by first | exact .inr rfl | exact .inl rfl, fin_mkg (rest rfl (rest rfl res0)) ?_ ?_ ?_ ?_ ?_⟩
        · (repeat' (first | exact VLe.refl _ | exact VLe.own_sl _ _ _ | exact VLe.fl_sl _ _ | exact VLe.nil_sl _ | exact VLe.nil_fl _ | exact VLes.refl _ | exact .nil | refine VLe.tup ?_ | refine VLe.agg ?_ | refine .cons ?_ ?_ | (rw [Int.natCast_add]; exact VLe.refl _) | exact vle_int (by omega) | exact vle_bool (by first | rfl | assumption | (simp_all; done) | fail) | (exact vle_int (by omega)) | fail))
        · repeat (first | exact trivial | assumption | omega | (refine bdR_map (fun _ => ?_)) | (refine bdL_map (fun _ => ?_)) | refine ⟨?_, ?_⟩ | fail)
        · intro k_ hk_; exact ble (by repeat (first | exact rfl | refine uN (by omega) ?_ | assumption | exact hf0 _ (by omega) | fail))
        · intro p hp; cases hp
        · repeat (first | exact trivial | assumption | omega | (refine bdR_map (fun _ => ?_)) | (refine bdL_map (fun _ => ?_)) | refine ⟨?_, ?_⟩ | fail)
      · skip
        refine rl0 (gn rfl) rfl rfl (step_mv rfl rfl) trivial ?_
        refine rlk rfl rfl rfl rfl rfl (ngb rfl rfl) rfl rfl ?_
        refine rlk rfl rfl rfl rfl rfl (ngb rfl rfl) rfl rfl ?_
        refine rlk rfl rfl rfl rfl rfl (ngb rfl rfl) rfl rfl ?_
        refine rlk rfl rfl rfl rfl rfl (ngb rfl rfl) rfl rfl ?_
        refine rlk rfl rfl rfl rfl rfl (ngb rfl rfl) rfl rfl ?_
        refine rlk rfl rfl rfl rfl rfl (ngb rfl rfl) rfl rfl ?_
        refine rlk rfl rfl rfl rfl rfl (ngb rfl rfl) rfl rfl ?_
        refine rlk rfl rfl rfl rfl rfl (ngb rfl rfl) rfl rfl ?_
        refine rl0 (gn rfl) rfl rfl (step_pick rfl (ev_mk rfl) (ev_mk rfl)) trivial ?_
        refine rl0 (gn rfl) rfl rfl (step_as rfl rfl) trivial ?_
        refine rl0 (gn rfl) rfl rfl (step_as rfl rfl) trivial ?_
        refine runsL_nil ?_
        refine runs_ret ?_
        refine ⟨by first | exact .inr rfl | exact .inl rfl, fin_mkg (rest rfl (rest rfl res0)) ?_ ?_ ?_ ?_ ?_⟩
        · (repeat' (first | exact VLe.refl _ | exact VLe.own_sl _ _ _ | exact VLe.fl_sl _ _ | exact VLe.nil_sl _ | exact VLe.nil_fl _ | exact VLes.refl _ | exact .nil | refine VLe.tup ?_ | refine VLe.agg ?_ | refine .cons ?_ ?_ | (rw [Int.natCast_add]; exact VLe.refl _) | exact vle_int (by omega) | exact vle_bool (by first | rfl | assumption | (simp_all; done) | fail) | (exact vle_int (by omega)) | fail))
        · repeat (first | exact trivial | assumption | omega | (refine bdR_map (fun _ => ?_)) | (refine bdL_map (fun _ => ?_)) | refine ⟨?_, ?_⟩ | fail)
        · intro k_ hk_; exact ble (by repeat (first | exact rfl | refine uN (by omega) ?_ | assumption | exact hf0 _ (by omega) | fail))
        · intro p hp; cases hp
        · repeat (first | exact trivial | assumption | omega | (refine bdR_map (fun _ => ?_)) | (refine bdL_map (fun _ => ?_)) | refine ⟨?_, ?_⟩ | fail)
set_option maxRecDepth 100000 in
set_option maxHeartbeats 4000000 in
theorem find_Q (l : List Sp) (hs : SetM 18446744073709551615 l) (hl : l.length ≤ 1000) (n_ : Int) : Does Try.prog 42 [.agg [.sl 2 (l.map spQ)], .sc (.int .u64 n_)] [] [] (.sc (.int .i64 (fdL l n_ : Int))) := by
  refine does_mkg 40 Try.func42 rfl rfl rfl (fun n B bx hd hpre hup hvs hbx hgx => ?_)
  refine runs_seq ?_
  refine runs_region ?_
  refine rl1 (gn rfl) rfl rfl (step_box_agg (k := n + 0) rfl rfl) ⟨by repeat (first | exact uE | refine uN (by omega) ?_ | assumption | exact hd _ (by omega) | fail), trivial⟩ (by omega) ?_
  refine rl0 (gn rfl) rfl rfl (step_as rfl rfl) trivial ?_
  refine runsL_nil ?_
  refine runs_seq ?_
  refine runs_region ?_
  refine rl0 (gn rfl) rfl rfl (step_fieldAddr (off := 0) rfl (ev_mk rfl) Try.underlying52 rfl F.sz49 rfl) trivial ?_
  refine' rl0 (gn rfl) rfl rfl (step_load_one rfl (ev_mk rfl) F.one49 ?hv) ⟨?hb, trivial⟩ ?_
  case hb => repeat (first | exact uE | refine uN (by omega) ?_ | assumption | exact hd _ (by omega) | fail)
  case hv => rfl
  refine rl0 (gn rfl) rfl rfl (step_mv rfl rfl) trivial ?_
  refine rl0 (gn rfl) rfl rfl (step_callc rfl Try.func46 rfl rfl rfl (bs_Q l hs hl n_) (by repeat (first | exact .nil | refine .cons ?_ ?_ | exact VLe.refl _ | exact VLe.own_sl _ _ _ | exact VLe.fl_sl _ _ | exact VLe.nil_sl _ | exact VLe.nil_fl _ | refine VLe.agg ?_))) trivial ?_
  refine rl0 (gn rfl) rfl rfl (step_mv rfl rfl) trivial ?_
  refine rl0 (gn rfl) rfl rfl (step_extract rfl (ev_mk rfl) rfl) trivial ?_
  refine rl0 (gn rfl) rfl rfl (step_extract rfl (ev_mk rfl) rfl) trivial ?_
  refine rl0 (gn rfl) rfl rfl (step_as rfl rfl) trivial ?_
  refine rl0 (gn rfl) rfl rfl (step_as rfl rfl) trivial ?_
  refine runsL_nil ?_
  refine runs_seq ?_
  refine runs_region ?_
  refine rl0 (gn rfl) rfl rfl (step_mv rfl rfl) trivial ?_
  refine rl0 (gn rfl) rfl rfl (step_as rfl rfl) trivial ?_
  refine runsL_nil ?_
  refine runs_ret ?_
  refine ⟨by first | exact .inr rfl | exact .inl rfl, fin_mkg (rest rfl res0) ?_ ?_ ?_ ?_ ?_⟩
  · (repeat' (first | exact VLe.refl _ | exact VLe.own_sl _ _ _ | exact VLe.fl_sl _ _ | exact VLe.nil_sl _ | exact VLe.nil_fl _ | exact VLes.refl _ | exact .nil | refine VLe.tup ?_ | refine VLe.agg ?_ | refine .cons ?_ ?_ | (rw [Int.natCast_add]; exact VLe.refl _) | exact vle_int (by omega) | exact vle_bool (by first | rfl | assumption | (simp_all; done) | fail) | fail))
  · repeat (first | exact trivial | assumption | omega | (refine bdR_map (fun _ => ?_)) | (refine bdL_map (fun _ => ?_)) | refine ⟨?_, ?_⟩ | fail)
  · intro k_ hk_; exact ble (by repeat (first | exact rfl | refine uN (by omega) ?_ | assumption | fail))
  · intro p hp; cases hp
  · repeat (first | exact trivial | assumption | omega | (refine bdR_map (fun _ => ?_)) | (refine bdL_map (fun _ => ?_)) | refine ⟨?_, ?_⟩ | fail)
end Go.Proofs.Ytgnbdegpljbckaa
