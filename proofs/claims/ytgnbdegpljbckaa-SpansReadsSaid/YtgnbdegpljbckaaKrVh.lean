/- Walks by the logic of values. -/
import Derived.Test.YtgnbdegpljbckaaKrVmT
import Derived.Test.YtgnbdegpljbckaaKrVmP
import Derived.Test.YtgnbdegpljbckaaKrVmV
import Derived.Test.YtgnbdegpljbckaaKrVa
import Derived.Test.YtgnbdegpljbckaaKrVp
import Derived.Test.YtgnbdegpljbckaaKrVd
import Derived.Test.YtgnbdegpljbckaaKrVb
import Derived.Test.YtgnbdegpljbckaaKrVf
namespace Go.Proofs.Ytgnbdegpljbckaa
open Go.Vm
set_option linter.unusedVariables false
set_option linter.unusedSimpArgs false
set_option maxRecDepth 100000 in
set_option maxHeartbeats 4000000 in
theorem of_B (l : List Sp) (hx : ∀ x ∈ l, inM 255 x) (hl : l.length ≤ 900) : Does Try.prog 7 [.sl 2 (l.map spB)] [] [] (.agg [.sl 2 (((ofL l)).map spB)]) := by
  refine does_mkg 40 Try.func7 rfl rfl rfl (fun n B bx hd hpre hup hvs hbx hgx => ?_)
  refine runs_seq ?_
  refine runs_region ?_
  refine rl1 (gn rfl) rfl rfl (step_allocc (k := n + 0) (zs := [.slice none 0 0]) (cs := [.sc (.slice none 0 0)]) rfl F.zero28 (by first | rfl | simp) (by first | rfl | decide | simp) (by first | rfl | simp)) ⟨by repeat (first | exact uE | refine uN (by omega) ?_ | assumption | exact hd _ (by omega) | fail), trivial⟩ (by omega) ?_
  refine runsL_nil ?_
  refine runs_seq ?_
  refine runs_region ?_
  refine rl1 (gn rfl) rfl rfl (step_allocc (k := n + 1) (zs := [.slice none 0 0]) (cs := [.sc (.slice none 0 0)]) rfl F.zero28 (by first | rfl | simp) (by first | rfl | decide | simp) (by first | rfl | simp)) ⟨by repeat (first | exact uE | refine uN (by omega) ?_ | assumption | exact hd _ (by omega) | fail), trivial⟩ (by omega) ?_
  refine runsL_nil ?_
  refine runs_seq ?_
  refine runs_seq ?_
  refine runs_region ?_
  refine rl0 (gn rfl) rfl rfl (step_mv rfl rfl) trivial ?_
  refine rl0 (gn rfl) rfl rfl (step_len (m := l.length) rfl rfl (ev_mk rfl) (.inl ⟨⟨_, Try.underlying26⟩, .inl ⟨_, _, .inl rfl, List.length_map _⟩⟩)) trivial ?_
  refine rl0 (gn rfl) rfl rfl (step_mv rfl rfl) trivial ?_
  refine runsL_nil ?_
  refine runs_block ?_
  refine runs_boxle (k := n + 1) (cs' := [.sl 2 []]) (by repeat (first | exact uE | refine uN (by omega) ?_ | assumption | exact hd _ (by omega) | fail)) (by repeat (first | exact .nil | refine .cons ?_ ?_ | exact VLe.nil_sl _ | exact VLe.refl _ | exact VLe.own_sl _ _ _ | exact VLe.fl_sl _ _)) ?_
  have hs1_ : [] = ((joinL [] (l.take 0)).map spB) := by rfl
  refine runs_loop (fun (ri_ : Nat) (st_ : Go.Vm.S) => ∃ (i : Nat) (m0 : Nat) (b0 : Nat → Box), (st_ = ⟨mk [(2, .ref (n + 0) 0), (3, .ref (n + 1) 0), (6, .sl 2 (l.map spB)), (7, .sc (.int .i64 l.length)), (8, .sc (.int .i64 (i : Int)))], m0, b0⟩) ∧ (ri_ = 1 + (l.length - i)) ∧ (n + 2 ≤ m0) ∧ (∀ k_, k_ < n → b0 k_ = bx k_) ∧ (b0 (n + 0) = .cells [.sc (.slice none 0 0)]) ∧ (b0 (n + 1) = .cells [.sl 2 ((joinL [] (l.take i)).map spB)]) ∧ (i ≤ l.length)) (1 + (l.length - 0)) ⟨_, sle ?_ (Nat.le_refl _), 0, _, _, rfl, rfl, ?_⟩ ?_
  · (repeat' (first | exact trivial | refine ⟨⟨_, rfl, ?_⟩, ?_⟩ | fail)); all_goals (repeat' (first | exact VLe.refl _ | exact VLe.own_sl _ _ _ | exact VLe.fl_sl _ _ | exact VLe.nil_sl _ | exact VLe.nil_fl _ | exact VLes.refl _ | exact .nil | refine VLe.tup ?_ | refine VLe.agg ?_ | refine .cons ?_ ?_ | (rw [Int.natCast_add]; exact VLe.refl _) | exact vle_int (by omega) | exact vle_bool (by first | rfl | assumption | (simp_all; done) | fail) | (rw [← hs1_]; exact VLe.refl _) | (rw [hs1_]; exact VLe.refl _) | fail))
  · exact ⟨by omega, (fun k_ hk_ => by repeat (first | exact rfl | refine uN (by omega) ?_ | assumption | fail)), by first | ((repeat (first | exact uE | assumption | refine uN (by omega) ?_ | fail)); done) | exact tl_eq (by repeat (first | exact uE | assumption | refine uN (by omega) ?_ | fail)) (by first | rfl | (simp [bytesV, beB_len]; done) | (simp [bytesV, beB_len]; omega) | omega) | (rw [← hs1_]; (repeat (first | exact uE | assumption | refine uN (by omega) ?_ | fail)); done), by first | ((repeat (first | exact uE | assumption | refine uN (by omega) ?_ | fail)); done) | exact tl_eq (by repeat (first | exact uE | assumption | refine uN (by omega) ?_ | fail)) (by first | rfl | (simp [bytesV, beB_len]; done) | (simp [bytesV, beB_len]; omega) | omega) | (rw [← hs1_]; (repeat (first | exact uE | assumption | refine uN (by omega) ?_ | fail)); done), by omega⟩
  · rintro _ _ ⟨i, m0, b0, rfl, rfl, hm0, hf0, hB0_0, hB0_1, hF0_0⟩
    refine runs_know (fun hd0 => ?_)
    refine runs_bump 20 ?_
    simp only at hd0
    refine runs_seq ?_
    refine runs_region ?_
    refine rl_lss (gn rfl) rfl rfl rfl rfl rfl (fun h1 => ?_) (fun h1 => ?_)
    · skip
      have hai_ : inM 255 (at' l (i : Int)) := hx _ (List.mem_of_getElem? (oat (by omega)))
      have hsi_ : SetM 255 (joinL [] (l.take i)) := (setM_nil _).join fun x hx_ => hx x (List.mem_of_mem_take hx_)
      have hli_ : (joinL [] (l.take i)).length ≤ 1000 := by have := join_len (l.take i) []; rw [List.length_take] at this; simp only [List.length_nil] at this; omega
      have hjt_ := join_t (a := []) (b := l) (i := i) (by omega)
      refine runsL_nil ?_
      refine runs_seq ?_
      refine runs_cond true (ev_mk rfl) (fun _ => ?_) (fun h_ => nomatch h_)
      refine runs_skip ?_
      refine runs_seq ?_
      refine runs_block ?_
      refine runs_seq ?_
      refine runs_region ?_
      refine' rl0 (gn rfl) rfl rfl (step_index rfl (ev_mk rfl) (.inl rfl) (ev_mk rfl) Try.underlying26 F.sz37 (by omega) ?hr) trivial ?_
      case hr => exact map_at _ _ _ (by omega) (by omega)
      refine rl0 (gn rfl) rfl rfl (step_load_ro_all rfl rfl F.agg37 (by first | rfl | (simp; done) | (first | (simp; done) | (simp; omega) | omega))) trivial ?_
      refine rl1 (gn rfl) rfl rfl (step_allocc (k := m0 + 0) (zs := [.int .u8 0, .int .u8 0]) (cs := [.sc (.int .u8 0), .sc (.int .u8 0)]) rfl F.zero37 (by first | rfl | simp) (by first | rfl | decide | simp) (by first | rfl | simp)) ⟨by repeat (first | exact uE | refine uN (by omega) ?_ | assumption | exact hd _ (by omega) | exact hd0 _ (by omega) | fail), trivial⟩ (by omega) ?_
      refine' rls (gn rfl) rfl (step_storeA rfl rfl rfl rfl F.agg37 ?hm ?hl) ⟨?hb, trivial⟩ ?hk ?_
      case hb => repeat (first | exact uE | refine uN (by omega) ?_ | assumption | exact hd _ (by omega) | exact hd0 _ (by omega) | fail)
      case hm => first | rfl | (simp; done) | (first | (simp; done) | (simp; omega) | omega)
      case hl => first | rfl | (simp; done) | (first | (simp; done) | (simp; omega) | omega)
      case hk => omega
      refine runsL_nil ?_
      refine runs_region ?_
      refine' rl0 (gn rfl) rfl rfl (step_load_all rfl rfl F.agg28 ?hl) ⟨?hb, trivial⟩ ?_
      case hb => repeat (first | exact uE | refine uN (by omega) ?_ | assumption | exact hd _ (by omega) | exact hd0 _ (by omega) | fail)
      case hl => first | rfl | (simp; done) | (first | (simp; done) | (simp; omega) | omega)
      refine' rl0 (gn rfl) rfl rfl (step_load_all rfl rfl F.agg37 ?hl) ⟨?hb, trivial⟩ ?_
      case hb => repeat (first | exact uE | refine uN (by omega) ?_ | assumption | exact hd _ (by omega) | exact hd0 _ (by omega) | fail)
      case hl => first | rfl | (simp; done) | (first | (simp; done) | (simp; omega) | omega)
      refine rl0 (gn rfl) rfl rfl (step_callc rfl Try.func15 rfl rfl rfl (add_B (joinL [] (l.take i)) hsi_ hli_ (at' l (i : Int)) hai_) (by repeat (first | exact .nil | refine .cons ?_ ?_ | exact VLe.refl _ | refine VLe.agg ?_ | exact VLe.own_sl _ _ _ | exact VLe.fl_sl _ _ | exact VLe.nil_sl _ | exact vle_int (by omega)))) trivial ?_
      refine' rls (gn rfl) rfl (step_storeA rfl rfl rfl rfl F.agg28 ?hm ?hl) ⟨?hb, trivial⟩ ?hk ?_
      case hb => repeat (first | exact uE | refine uN (by omega) ?_ | assumption | exact hd _ (by omega) | exact hd0 _ (by omega) | fail)
      case hm => first | rfl | (simp; done) | (first | (simp; done) | (simp; omega) | omega)
      case hl => first | rfl | (simp; done) | (first | (simp; done) | (simp; omega) | omega)
      case hk => omega
      refine runsL_nil ?_
      refine runs_region ?_
      refine rl0 (gn rfl) rfl rfl (step_add rfl (ev_mk rfl) (ev_mk rfl) (w64 (by omega))) trivial ?_
      refine rl0 (gn rfl) rfl rfl (step_mv rfl rfl) trivial ?_
      refine runsL_nil ?_
      have hq1_ : ((((addL (joinL [] (l.take i)) (at' l (i : Int)))).map spB)) = ((joinL [] (l.take (i + 1))).map spB) := by (rw [hjt_])
      refine ⟨_, _, ?_, sle ?_ (Nat.le_refl _), (i + 1), _, _, rfl, rfl, by omega, (fun k_ hk_ => by repeat (first | exact hf0 k_ hk_ | refine uN (by first | assumption | omega) ?_ | fail)), by first | ((repeat (first | exact uE | assumption | refine uN (by omega) ?_ | fail)); done) | exact tl_eq (by repeat (first | exact uE | assumption | refine uN (by omega) ?_ | fail)) (by first | rfl | (simp [bytesV, beB_len]; done) | (simp [bytesV, beB_len]; omega) | omega) | (rw [← hq1_]; (repeat (first | exact uE | assumption | refine uN (by omega) ?_ | fail)); done), by first | ((repeat (first | exact uE | assumption | refine uN (by omega) ?_ | fail)); done) | exact tl_eq (by repeat (first | exact uE | assumption | refine uN (by omega) ?_ | fail)) (by first | rfl | (simp [bytesV, beB_len]; done) | (simp [bytesV, beB_len]; omega) | omega) | (rw [← hq1_]; (repeat (first | exact uE | assumption | refine uN (by omega) ?_ | fail)); done), by omega⟩
      · omega
      · (repeat' (first | exact trivial | refine ⟨⟨_, rfl, ?_⟩, ?_⟩ | fail)); all_goals (repeat' (first | exact VLe.refl _ | exact VLe.own_sl _ _ _ | exact VLe.fl_sl _ _ | exact VLe.nil_sl _ | exact VLe.nil_fl _ | exact VLes.refl _ | exact .nil | refine VLe.tup ?_ | refine VLe.agg ?_ | refine .cons ?_ ?_ | (rw [Int.natCast_add]; exact VLe.refl _) | exact vle_int (by omega) | exact vle_bool (by first | rfl | assumption | (simp_all; done) | fail) | (rw [← hq1_]; exact VLe.refl _) | (rw [hq1_]; exact VLe.refl _) | fail))
    · skip
      obtain rfl : i = l.length := by omega
      refine runsL_nil ?_
      refine runs_seq ?_
      refine runs_cond false (ev_mk rfl) (fun h_ => nomatch h_) (fun _ => ?_)
      refine runs_exit ?_
      refine runs_seq ?_
      refine runs_region ?_
      refine' rl0 (gn rfl) rfl rfl (step_load_all rfl rfl F.agg28 ?hl) ⟨?hb, trivial⟩ ?_
      case hb => repeat (first | exact uE | refine uN (by omega) ?_ | assumption | exact hd _ (by omega) | exact hd0 _ (by omega) | fail)
      case hl => first | rfl | (simp; done) | (first | (simp; done) | (simp; omega) | omega)
      refine' rls (gn rfl) rfl (step_storeA rfl rfl rfl rfl F.agg28 ?hm ?hl) ⟨?hb, trivial⟩ ?hk ?_
      case hb => repeat (first | exact uE | refine uN (by omega) ?_ | assumption | exact hd _ (by omega) | exact hd0 _ (by omega) | fail)
      case hm => first | rfl | (simp; done) | (first | (simp; done) | (simp; omega) | omega)
      case hl => first | rfl | (simp; done) | (first | (simp; done) | (simp; omega) | omega)
      case hk => omega
      refine runsL_nil ?_
      refine runs_ret ?_
      refine ⟨by first | exact .inr rfl | exact .inl rfl, fin_mkg (resc rfl (by repeat (first | exact uE | refine uN (by omega) ?_ | assumption | exact hd _ (by omega) | exact hd0 _ (by omega) | fail)) F.agg28 (by first | rfl | (simp; done) | (first | (simp; done) | (simp; omega) | omega)) res0) ?_ ?_ ?_ ?_ ?_⟩
      · (repeat' (first | exact VLe.refl _ | exact VLe.own_sl _ _ _ | exact VLe.fl_sl _ _ | exact VLe.nil_sl _ | exact VLe.nil_fl _ | exact VLes.refl _ | exact .nil | refine VLe.tup ?_ | refine VLe.agg ?_ | refine .cons ?_ ?_ | (rw [Int.natCast_add]; exact VLe.refl _) | exact vle_int (by omega) | exact vle_bool (by first | rfl | assumption | (simp_all; done) | fail) | ((rw [List.take_length]; exact VLe.refl _)) | fail))
      · repeat (first | exact trivial | assumption | omega | (refine bdR_map (fun _ => ?_)) | (refine bdL_map (fun _ => ?_)) | refine ⟨?_, ?_⟩ | fail)
      · intro k_ hk_; exact ble (by repeat (first | exact rfl | refine uN (by omega) ?_ | assumption | exact hf0 _ (by omega) | fail))
      · intro p hp; cases hp
      · repeat (first | exact trivial | assumption | omega | (refine bdR_map (fun _ => ?_)) | (refine bdL_map (fun _ => ?_)) | refine ⟨?_, ?_⟩ | fail)
set_option maxRecDepth 100000 in
set_option maxHeartbeats 4000000 in
theorem join_B (a b : List Sp) (ha : SetM 255 a) (hb : SetM 255 b) (hl : a.length + b.length ≤ 1000) : Does Try.prog 11 [.agg [.sl 2 (a.map spB)], .agg [.sl 2 (b.map spB)]] [] [] (.agg [.sl 2 (((joinL a b)).map spB)]) := by
  refine does_mkg 40 Try.func11 rfl rfl rfl (fun n B bx hd hpre hup hvs hbx hgx => ?_)
  refine runs_seq ?_
  refine runs_region ?_
  refine rl1 (gn rfl) rfl rfl (step_box_agg (k := n + 0) rfl rfl) ⟨by repeat (first | exact uE | refine uN (by omega) ?_ | assumption | exact hd _ (by omega) | fail), trivial⟩ (by omega) ?_
  refine rl1 (gn rfl) rfl rfl (step_box_agg (k := n + 1) rfl rfl) ⟨by repeat (first | exact uE | refine uN (by omega) ?_ | assumption | exact hd _ (by omega) | fail), trivial⟩ (by omega) ?_
  refine rl1 (gn rfl) rfl rfl (step_allocc (k := n + 2) (zs := [.slice none 0 0]) (cs := [.sc (.slice none 0 0)]) rfl F.zero28 (by first | rfl | simp) (by first | rfl | decide | simp) (by first | rfl | simp)) ⟨by repeat (first | exact uE | refine uN (by omega) ?_ | assumption | exact hd _ (by omega) | fail), trivial⟩ (by omega) ?_
  refine runsL_nil ?_
  refine runs_seq ?_
  refine runs_seq ?_
  refine runs_region ?_
  refine rl0 (gn rfl) rfl rfl (step_fieldAddr (off := 0) rfl (ev_mk rfl) Try.underlying28 rfl F.sz26 rfl) trivial ?_
  refine' rl0 (gn rfl) rfl rfl (step_load_one rfl (ev_mk rfl) F.one26 ?hv) ⟨?hb, trivial⟩ ?_
  case hb => repeat (first | exact uE | refine uN (by omega) ?_ | assumption | exact hd _ (by omega) | fail)
  case hv => rfl
  refine rl0 (gn rfl) rfl rfl (step_len (m := b.length) rfl rfl (ev_mk rfl) (.inl ⟨⟨_, Try.underlying26⟩, .inl ⟨_, _, .inl rfl, List.length_map _⟩⟩)) trivial ?_
  refine rl0 (gn rfl) rfl rfl (step_mv rfl rfl) trivial ?_
  refine runsL_nil ?_
  refine runs_block ?_
  have hs1_ : (a.map spB) = ((joinL a (b.take 0)).map spB) := by rfl
  refine runs_loop (fun (ri_ : Nat) (st_ : Go.Vm.S) => ∃ (i : Nat) (m0 : Nat) (b0 : Nat → Box), (st_ = ⟨mk [(2, .ref (n + 0) 0), (4, .ref (n + 2) 0), (8, .sl 2 (b.map spB)), (9, .sc (.int .i64 b.length)), (10, .sc (.int .i64 (i : Int)))], m0, b0⟩) ∧ (ri_ = 1 + (b.length - i)) ∧ (n + 3 ≤ m0) ∧ (∀ k_, k_ < n → b0 k_ = bx k_) ∧ (b0 (n + 0) = .cells [.sl 2 ((joinL a (b.take i)).map spB)]) ∧ (b0 (n + 1) = .cells [.sl 2 (b.map spB)]) ∧ (b0 (n + 2) = .cells [.sc (.slice none 0 0)]) ∧ (i ≤ b.length)) (1 + (b.length - 0)) ⟨_, sle ?_ (Nat.le_refl _), 0, _, _, rfl, rfl, ?_⟩ ?_
  · (repeat' (first | exact trivial | refine ⟨⟨_, rfl, ?_⟩, ?_⟩ | fail)); all_goals (repeat' (first | exact VLe.refl _ | exact VLe.own_sl _ _ _ | exact VLe.fl_sl _ _ | exact VLe.nil_sl _ | exact VLe.nil_fl _ | exact VLes.refl _ | exact .nil | refine VLe.tup ?_ | refine VLe.agg ?_ | refine .cons ?_ ?_ | (rw [Int.natCast_add]; exact VLe.refl _) | exact vle_int (by omega) | exact vle_bool (by first | rfl | assumption | (simp_all; done) | fail) | (rw [← hs1_]; exact VLe.refl _) | (rw [hs1_]; exact VLe.refl _) | fail))
  · exact ⟨by omega, (fun k_ hk_ => by repeat (first | exact rfl | refine uN (by omega) ?_ | assumption | fail)), by first | ((repeat (first | exact uE | assumption | refine uN (by omega) ?_ | fail)); done) | exact tl_eq (by repeat (first | exact uE | assumption | refine uN (by omega) ?_ | fail)) (by first | rfl | (simp [bytesV, beB_len]; done) | (simp [bytesV, beB_len]; omega) | omega) | (rw [← hs1_]; (repeat (first | exact uE | assumption | refine uN (by omega) ?_ | fail)); done), by first | ((repeat (first | exact uE | assumption | refine uN (by omega) ?_ | fail)); done) | exact tl_eq (by repeat (first | exact uE | assumption | refine uN (by omega) ?_ | fail)) (by first | rfl | (simp [bytesV, beB_len]; done) | (simp [bytesV, beB_len]; omega) | omega) | (rw [← hs1_]; (repeat (first | exact uE | assumption | refine uN (by omega) ?_ | fail)); done), by first | ((repeat (first | exact uE | assumption | refine uN (by omega) ?_ | fail)); done) | exact tl_eq (by repeat (first | exact uE | assumption | refine uN (by omega) ?_ | fail)) (by first | rfl | (simp [bytesV, beB_len]; done) | (simp [bytesV, beB_len]; omega) | omega) | (rw [← hs1_]; (repeat (first | exact uE | assumption | refine uN (by omega) ?_ | fail)); done), by omega⟩
  · rintro _ _ ⟨i, m0, b0, rfl, rfl, hm0, hf0, hB0_0, hB0_1, hB0_2, hF0_0⟩
    refine runs_know (fun hd0 => ?_)
    refine runs_bump 20 ?_
    simp only at hd0
    refine runs_seq ?_
    refine runs_region ?_
    refine rl_lss (gn rfl) rfl rfl rfl rfl rfl (fun h1 => ?_) (fun h1 => ?_)
    · skip
      have hai_ : inM 255 (at' b (i : Int)) := hb.ins _ (List.mem_of_getElem? (oat (by omega)))
      have hsi_ : SetM 255 (joinL a (b.take i)) := ha.join fun x hx_ => hb.ins x (List.mem_of_mem_take hx_)
      have hli_ : (joinL a (b.take i)).length ≤ 1000 := by have := join_len (b.take i) a; rw [List.length_take] at this; omega
      have hjt_ := join_t (a := a) (b := b) (i := i) (by omega)
      refine runsL_nil ?_
      refine runs_seq ?_
      refine runs_cond true (ev_mk rfl) (fun _ => ?_) (fun h_ => nomatch h_)
      refine runs_skip ?_
      refine runs_seq ?_
      refine runs_block ?_
      refine runs_seq ?_
      refine runs_region ?_
      refine' rl0 (gn rfl) rfl rfl (step_index rfl (ev_mk rfl) (.inl rfl) (ev_mk rfl) Try.underlying26 F.sz37 (by omega) ?hr) trivial ?_
      case hr => exact map_at _ _ _ (by omega) (by omega)
      refine rl0 (gn rfl) rfl rfl (step_load_ro_all rfl rfl F.agg37 (by first | rfl | (simp; done) | (first | (simp; done) | (simp; omega) | omega))) trivial ?_
      refine rl1 (gn rfl) rfl rfl (step_allocc (k := m0 + 0) (zs := [.int .u8 0, .int .u8 0]) (cs := [.sc (.int .u8 0), .sc (.int .u8 0)]) rfl F.zero37 (by first | rfl | simp) (by first | rfl | decide | simp) (by first | rfl | simp)) ⟨by repeat (first | exact uE | refine uN (by omega) ?_ | assumption | exact hd _ (by omega) | exact hd0 _ (by omega) | fail), trivial⟩ (by omega) ?_
      refine' rls (gn rfl) rfl (step_storeA rfl rfl rfl rfl F.agg37 ?hm ?hl) ⟨?hb, trivial⟩ ?hk ?_
      case hb => repeat (first | exact uE | refine uN (by omega) ?_ | assumption | exact hd _ (by omega) | exact hd0 _ (by omega) | fail)
      case hm => first | rfl | (simp; done) | (first | (simp; done) | (simp; omega) | omega)
      case hl => first | rfl | (simp; done) | (first | (simp; done) | (simp; omega) | omega)
      case hk => omega
      refine runsL_nil ?_
      refine runs_region ?_
      refine' rl0 (gn rfl) rfl rfl (step_load_all rfl rfl F.agg28 ?hl) ⟨?hb, trivial⟩ ?_
      case hb => repeat (first | exact uE | refine uN (by omega) ?_ | assumption | exact hd _ (by omega) | exact hd0 _ (by omega) | fail)
      case hl => first | rfl | (simp; done) | (first | (simp; done) | (simp; omega) | omega)
      refine' rl0 (gn rfl) rfl rfl (step_load_all rfl rfl F.agg37 ?hl) ⟨?hb, trivial⟩ ?_
      case hb => repeat (first | exact uE | refine uN (by omega) ?_ | assumption | exact hd _ (by omega) | exact hd0 _ (by omega) | fail)
      case hl => first | rfl | (simp; done) | (first | (simp; done) | (simp; omega) | omega)
      refine rl0 (gn rfl) rfl rfl (step_callc rfl Try.func15 rfl rfl rfl (add_B (joinL a (b.take i)) hsi_ hli_ (at' b (i : Int)) hai_) (by repeat (first | exact .nil | refine .cons ?_ ?_ | exact VLe.refl _ | refine VLe.agg ?_ | exact VLe.own_sl _ _ _ | exact VLe.fl_sl _ _ | exact VLe.nil_sl _ | exact vle_int (by omega)))) trivial ?_
      refine' rls (gn rfl) rfl (step_storeA rfl rfl rfl rfl F.agg28 ?hm ?hl) ⟨?hb, trivial⟩ ?hk ?_
      case hb => repeat (first | exact uE | refine uN (by omega) ?_ | assumption | exact hd _ (by omega) | exact hd0 _ (by omega) | fail)
      case hm => first | rfl | (simp; done) | (first | (simp; done) | (simp; omega) | omega)
      case hl => first | rfl | (simp; done) | (first | (simp; done) | (simp; omega) | omega)
      case hk => omega
      refine runsL_nil ?_
      refine runs_region ?_
      refine rl0 (gn rfl) rfl rfl (step_add rfl (ev_mk rfl) (ev_mk rfl) (w64 (by omega))) trivial ?_
      refine rl0 (gn rfl) rfl rfl (step_mv rfl rfl) trivial ?_
      refine runsL_nil ?_
      have hq1_ : ((((addL (joinL a (b.take i)) (at' b (i : Int)))).map spB)) = ((joinL a (b.take (i + 1))).map spB) := by (rw [hjt_])
      refine ⟨_, _, ?_, sle ?_ (Nat.le_refl _), (i + 1), _, _, rfl, rfl, by omega, (fun k_ hk_ => by repeat (first | exact hf0 k_ hk_ | refine uN (by first | assumption | omega) ?_ | fail)), by first | ((repeat (first | exact uE | assumption | refine uN (by omega) ?_ | fail)); done) | exact tl_eq (by repeat (first | exact uE | assumption | refine uN (by omega) ?_ | fail)) (by first | rfl | (simp [bytesV, beB_len]; done) | (simp [bytesV, beB_len]; omega) | omega) | (rw [← hq1_]; (repeat (first | exact uE | assumption | refine uN (by omega) ?_ | fail)); done), by first | ((repeat (first | exact uE | assumption | refine uN (by omega) ?_ | fail)); done) | exact tl_eq (by repeat (first | exact uE | assumption | refine uN (by omega) ?_ | fail)) (by first | rfl | (simp [bytesV, beB_len]; done) | (simp [bytesV, beB_len]; omega) | omega) | (rw [← hq1_]; (repeat (first | exact uE | assumption | refine uN (by omega) ?_ | fail)); done), by first | ((repeat (first | exact uE | assumption | refine uN (by omega) ?_ | fail)); done) | exact tl_eq (by repeat (first | exact uE | assumption | refine uN (by omega) ?_ | fail)) (by first | rfl | (simp [bytesV, beB_len]; done) | (simp [bytesV, beB_len]; omega) | omega) | (rw [← hq1_]; (repeat (first | exact uE | assumption | refine uN (by omega) ?_ | fail)); done), by omega⟩
      · omega
      · (repeat' (first | exact trivial | refine ⟨⟨_, rfl, ?_⟩, ?_⟩ | fail)); all_goals (repeat' (first | exact VLe.refl _ | exact VLe.own_sl _ _ _ | exact VLe.fl_sl _ _ | exact VLe.nil_sl _ | exact VLe.nil_fl _ | exact VLes.refl _ | exact .nil | refine VLe.tup ?_ | refine VLe.agg ?_ | refine .cons ?_ ?_ | (rw [Int.natCast_add]; exact VLe.refl _) | exact vle_int (by omega) | exact vle_bool (by first | rfl | assumption | (simp_all; done) | fail) | (rw [← hq1_]; exact VLe.refl _) | (rw [hq1_]; exact VLe.refl _) | fail))
    · skip
      obtain rfl : i = b.length := by omega
      refine runsL_nil ?_
      refine runs_seq ?_
      refine runs_cond false (ev_mk rfl) (fun h_ => nomatch h_) (fun _ => ?_)
      refine runs_exit ?_
      refine runs_seq ?_
      refine runs_region ?_
      refine' rl0 (gn rfl) rfl rfl (step_load_all rfl rfl F.agg28 ?hl) ⟨?hb, trivial⟩ ?_
      case hb => repeat (first | exact uE | refine uN (by omega) ?_ | assumption | exact hd _ (by omega) | exact hd0 _ (by omega) | fail)
      case hl => first | rfl | (simp; done) | (first | (simp; done) | (simp; omega) | omega)
      refine' rls (gn rfl) rfl (step_storeA rfl rfl rfl rfl F.agg28 ?hm ?hl) ⟨?hb, trivial⟩ ?hk ?_
      case hb => repeat (first | exact uE | refine uN (by omega) ?_ | assumption | exact hd _ (by omega) | exact hd0 _ (by omega) | fail)
      case hm => first | rfl | (simp; done) | (first | (simp; done) | (simp; omega) | omega)
      case hl => first | rfl | (simp; done) | (first | (simp; done) | (simp; omega) | omega)
      case hk => omega
      refine runsL_nil ?_
      refine runs_ret ?_
      refine ⟨by first | exact .inr rfl | exact .inl rfl, fin_mkg (resc rfl (by repeat (first | exact uE | refine uN (by omega) ?_ | assumption | exact hd _ (by omega) | exact hd0 _ (by omega) | fail)) F.agg28 (by first | rfl | (simp; done) | (first | (simp; done) | (simp; omega) | omega)) res0) ?_ ?_ ?_ ?_ ?_⟩
      · (repeat' (first | exact VLe.refl _ | exact VLe.own_sl _ _ _ | exact VLe.fl_sl _ _ | exact VLe.nil_sl _ | exact VLe.nil_fl _ | exact VLes.refl _ | exact .nil | refine VLe.tup ?_ | refine VLe.agg ?_ | refine .cons ?_ ?_ | (rw [Int.natCast_add]; exact VLe.refl _) | exact vle_int (by omega) | exact vle_bool (by first | rfl | assumption | (simp_all; done) | fail) | ((rw [List.take_length]; exact VLe.refl _)) | fail))
      · repeat (first | exact trivial | assumption | omega | (refine bdR_map (fun _ => ?_)) | (refine bdL_map (fun _ => ?_)) | refine ⟨?_, ?_⟩ | fail)
      · intro k_ hk_; exact ble (by repeat (first | exact rfl | refine uN (by omega) ?_ | assumption | exact hf0 _ (by omega) | fail))
      · intro p hp; cases hp
      · repeat (first | exact trivial | assumption | omega | (refine bdR_map (fun _ => ?_)) | (refine bdL_map (fun _ => ?_)) | refine ⟨?_, ?_⟩ | fail)
set_option maxRecDepth 100000 in
set_option maxHeartbeats 4000000 in
theorem not_B (a : List Sp) (ha : SetM 255 a) (hl : a.length ≤ 900) : Does Try.prog 17 [.agg [.sl 2 (a.map spB)]] [] [] (.agg [.sl 2 (((notL 255 a)).map spB)]) := by
  refine does_mkg 40 Try.func17 rfl rfl rfl (fun n B bx hd hpre hup hvs hbx hgx => ?_)
  have hf_ : ∀ x ∈ ([⟨0, 255⟩] : List Sp), inM 255 x := by intro x hx_; simp only [List.mem_singleton] at hx_; subst hx_; unfold inM; simp
  have hol_ := of_len [⟨0, 255⟩]
  simp only [List.length_cons, List.length_nil] at hol_
  refine runs_seq ?_
  refine runs_region ?_
  refine rl1 (gn rfl) rfl rfl (step_box_agg (k := n + 0) rfl rfl) ⟨by repeat (first | exact uE | refine uN (by omega) ?_ | assumption | exact hd _ (by omega) | fail), trivial⟩ (by omega) ?_
  refine rl1 (gn rfl) rfl rfl (step_allocc (k := n + 1) (zs := [.slice none 0 0]) (cs := [.sc (.slice none 0 0)]) rfl F.zero28 (by first | rfl | simp) (by first | rfl | decide | simp) (by first | rfl | simp)) ⟨by repeat (first | exact uE | refine uN (by omega) ?_ | assumption | exact hd _ (by omega) | fail), trivial⟩ (by omega) ?_
  refine runsL_nil ?_
  refine runs_seq ?_
  refine runs_region ?_
  refine rl0 (gn rfl) rfl rfl (step_as rfl rfl) trivial ?_
  refine runsL_nil ?_
  refine runs_seq ?_
  refine runs_draw (by kernel_rfl) (by kernel_rfl) (by kernel_rfl) ?_
  refine dl0 (gn rfl) rfl rfl (step_mv rfl rfl) trivial ?_
  refine dl0 (gn rfl) rfl rfl (step_mv rfl rfl) trivial ?_
  refine dl0 (gn rfl) rfl rfl (step_com (r := 255) rfl (ev_mk rfl) (by decide)) trivial ?_
  refine dl0 (gn rfl) rfl rfl (step_build (ss := [1, 1]) (zs := [.int .u8 0, .int .u8 0]) (cs := [.sc (.int .u8 0), .sc (.int .u8 255)]) rfl Try.underlying37 (by kernel_rfl) F.zero37 rfl rfl rfl) trivial ?_
  refine dl0 (gn rfl) rfl rfl (step_lit rfl Try.underlying26 F.sz37 F.zero37 (by first | rfl | simp) (by first | rfl | simp | decide) (by decide) rfl rfl (by first | (simp [V.cs, V.stor, oneV]; done) | (simp [V.cs, V.stor, oneV])) rfl) trivial ?_
  refine dl0 (gn rfl) rfl rfl (step_callc rfl Try.func7 rfl rfl rfl (of_B [⟨0, 255⟩] hf_ (by simp)) (by repeat (first | exact .nil | refine .cons ?_ ?_ | exact VLe.refl _ | refine VLe.agg ?_ | exact VLe.own_sl _ _ _ | exact VLe.fl_sl _ _ | exact VLe.nil_sl _ | exact vle_int (by omega)))) trivial ?_
  refine' dl0 (gn rfl) rfl rfl (step_load_all rfl rfl F.agg28 ?hl) ⟨?hb, trivial⟩ ?_
  case hb => repeat (first | exact uE | refine uN (by omega) ?_ | assumption | exact hd _ (by omega) | fail)
  case hl => first | rfl | (simp; done) | (first | (simp; done) | (simp; omega) | omega)
  refine dl0 (gn rfl) rfl rfl (step_callc rfl Try.func13 rfl rfl rfl (less_B (ofL [⟨0, 255⟩]) a (setM_of hf_) ha (by omega)) (by repeat (first | exact .nil | refine .cons ?_ ?_ | exact VLe.refl _ | refine VLe.agg ?_ | exact VLe.own_sl _ _ _ | exact VLe.fl_sl _ _ | exact VLe.nil_sl _ | exact vle_int (by omega)))) trivial ?_
  refine' dls (gn rfl) rfl (step_storeA rfl rfl rfl rfl F.agg28 ?hm ?hl) ⟨?hb, trivial⟩ ?hk ?_
  case hb => repeat (first | exact uE | refine uN (by omega) ?_ | assumption | exact hd _ (by omega) | fail)
  case hm => first | rfl | (simp; done) | (first | (simp; done) | (simp; omega) | omega)
  case hl => first | rfl | (simp; done) | (first | (simp; done) | (simp; omega) | omega)
  case hk => omega
  refine dlnil ?_ ?_
  · repeat' (first | exact trivial | exact .inr (ap0 _ _ _ _) | exact .inr (ap2 _ _ _ _) | exact .inr (ap3 _ _ _ _) | exact .inr ⟨by first | (simp; done) | (simp; omega), by first | (simp; done) | (simp; omega)⟩ | exact .inl (by kernel_rfl) | refine ⟨?_, ?_⟩ | fail)
  refine runs_ret ?_
  refine ⟨by first | exact .inr rfl | exact .inl rfl, fin_mkg (resc rfl (by repeat (first | exact uE | refine uN (by omega) ?_ | assumption | exact hd _ (by omega) | fail)) F.agg28 (by first | rfl | (simp; done) | (first | (simp; done) | (simp; omega) | omega)) res0) ?_ ?_ ?_ ?_ ?_⟩
  · (repeat' (first | exact VLe.refl _ | exact VLe.own_sl _ _ _ | exact VLe.fl_sl _ _ | exact VLe.nil_sl _ | exact VLe.nil_fl _ | exact VLes.refl _ | exact .nil | refine VLe.tup ?_ | refine VLe.agg ?_ | refine .cons ?_ ?_ | (rw [Int.natCast_add]; exact VLe.refl _) | exact vle_int (by omega) | exact vle_bool (by first | rfl | assumption | (simp_all; done) | fail) | fail))
  · repeat (first | exact trivial | assumption | omega | (refine bdR_map (fun _ => ?_)) | (refine bdL_map (fun _ => ?_)) | refine ⟨?_, ?_⟩ | fail)
  · intro k_ hk_; exact ble (by repeat (first | exact rfl | refine uN (by omega) ?_ | assumption | fail))
  · intro p hp; cases hp
  · repeat (first | exact trivial | assumption | omega | (refine bdR_map (fun _ => ?_)) | (refine bdL_map (fun _ => ?_)) | refine ⟨?_, ?_⟩ | fail)
end Go.Proofs.Ytgnbdegpljbckaa
