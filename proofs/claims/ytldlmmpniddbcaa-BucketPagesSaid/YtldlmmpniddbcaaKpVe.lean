/- Walks by the logic of values. -/
import Derived.Test.YtldlmmpniddbcaaKpVmT
import Derived.Test.YtldlmmpniddbcaaKpVmP
import Derived.Test.YtldlmmpniddbcaaKpVa
import Derived.Test.YtldlmmpniddbcaaKpVc
import Derived.Test.YtldlmmpniddbcaaKpVo
namespace Go.Proofs.Ytldlmmpniddbcaa
open Go.Vm
set_option linter.unusedVariables false
set_option linter.unusedSimpArgs false
attribute [local irreducible] Go.Vm.beB Go.Vm.fieldB
set_option maxRecDepth 100000 in
set_option maxHeartbeats 4000000 in
theorem of_ok (b : List Int) (h : b.length ≤ 224) : Does Try.prog 39 [.sl 1 (bytesV b)] [] [] (.tup [.agg ((padP b).map bV), .sc (.bool true)]) := by
  refine does_mkg 40 Try.func39 rfl rfl rfl (fun n B bx hd hpre hup hvs hbx hgx => ?_)
  refine runs_seq ?_
  refine runs_region ?_
  refine rl1 (gn rfl) rfl rfl (step_allocc (k := n + 0) (zs := (List.replicate 224 (.int .u8 0))) (cs := List.replicate 224 (.sc (.int .u8 0))) rfl F.zero39 (by first | rfl | simp) (by first | rfl | decide | simp) (by first | rfl | simp)) ⟨by repeat (first | exact uE | refine uN (by omega) ?_ | assumption | exact hd _ (by omega) | fail), trivial⟩ (by omega) ?_
  refine rl0 (gn rfl) rfl rfl (step_as rfl rfl) trivial ?_
  refine runsL_nil ?_
  refine runs_seq ?_
  refine runs_region ?_
  refine rl1 (gn rfl) rfl rfl (step_allocc (k := n + 1) (zs := (List.replicate 224 (.int .u8 0))) (cs := List.replicate 224 (.sc (.int .u8 0))) rfl F.zero39 (by first | rfl | simp) (by first | rfl | decide | simp) (by first | rfl | simp)) ⟨by repeat (first | exact uE | refine uN (by omega) ?_ | assumption | exact hd _ (by omega) | fail), trivial⟩ (by omega) ?_
  refine runsL_nil ?_
  refine runs_seq ?_
  refine runs_seq ?_
  refine runs_region ?_
  refine rl0 (gn rfl) rfl rfl (step_mv rfl rfl) trivial ?_
  refine rl0 (gn rfl) rfl rfl (step_len (m := b.length) rfl rfl (ev_mk rfl) (.inl ⟨⟨_, Try.underlying67⟩, .inl ⟨_, _, .inl rfl, List.length_map _⟩⟩)) trivial ?_
  refine rl_gtr (gn rfl) rfl rfl rfl rfl rfl (fun h1 => ?_) (fun h1 => ?_)
  · exact False.elim (by omega)
  refine runsL_nil ?_
  refine runs_cond false (ev_mk rfl) (fun h_ => nomatch h_) (fun _ => ?_)
  refine runs_skip ?_
  refine runs_seq ?_
  refine runs_region ?_
  refine rl0 (gn rfl) rfl rfl (step_sl_arr (a := 0) (h := 224) (m := 224) (q' := 0) (n' := 224) (c' := 224) rfl (ev_mk rfl) Try.underlying39 F.sz5 bndLo_none bndHi_none bndHi_none (fun h_ => by first | rfl | nomatch h_) (by omega) (by omega) (by omega) (by first | exact .inl ⟨by omega, by omega⟩ | exact .inr ⟨by omega, by omega⟩) (by first | rfl | omega) (by first | rfl | omega)) trivial ?_
  refine rl0 (gn rfl) rfl rfl (step_mv rfl rfl) trivial ?_
  refine' rl1 (gn rfl) rfl rfl (step_copy (m := (bytesV b).length) (cs' := (padP b).map bV) rfl rfl Try.underlying67 F.sz5 (ev_mk rfl) (ev_mk rfl) (gives_sl (.inl rfl)) ?hmn ?hl ?hcs) ⟨?hb, trivial⟩ (by omega) ?_
  case hb => repeat (first | exact uE | refine uN (by omega) ?_ | assumption | exact hd _ (by omega) | fail)
  case hmn => exact Nat.min_eq_left (by rw [bytesV, List.length_map]; omega)
  case hl => first | (simp; done) | decide
  case hcs => exact (congrArg (setSeg _ _) (congrArg List.flatten (List.take_of_length_le (Nat.le_refl _)))).trans (padP_set h)
  refine runsL_nil ?_
  refine runs_seq ?_
  refine runs_region ?_
  refine' rl0 (gn rfl) rfl rfl (step_load_all rfl rfl F.agg39 ?hl) ⟨?hb, trivial⟩ ?_
  case hb => repeat (first | exact uE | refine uN (by omega) ?_ | assumption | exact hd _ (by omega) | fail)
  case hl => first | rfl | (simp; done) | (first | (simp; done) | (rw [List.length_map]; exact padP_len h))
  refine' rls (gn rfl) rfl (step_storeA rfl rfl rfl rfl F.agg39 ?hm ?hl) ⟨?hb, trivial⟩ ?hk ?_
  case hb => repeat (first | exact uE | refine uN (by omega) ?_ | assumption | exact hd _ (by omega) | fail)
  case hm => first | rfl | (simp; done) | (first | (simp; done) | (rw [List.length_map]; exact padP_len h))
  case hl => first | rfl | (simp; done) | (first | (simp; done) | (rw [List.length_map]; exact padP_len h))
  case hk => omega
  refine rl0 (gn rfl) rfl rfl (step_as rfl rfl) trivial ?_
  refine runsL_nil ?_
  refine runs_ret ?_
  refine ⟨by first | exact .inr rfl | exact .inl rfl, fin_mkg (resc rfl (by repeat (first | exact uE | refine uN (by omega) ?_ | assumption | exact hd _ (by omega) | fail)) F.agg39 (by first | rfl | (simp; done) | (first | (simp; done) | (rw [List.length_map]; exact padP_len h))) (rest rfl res0)) ?_ ?_ ?_ ?_ ?_⟩
  · (repeat' (first | exact VLe.refl _ | exact VLe.own_sl _ _ _ | exact VLe.fl_sl _ _ | exact VLe.nil_sl _ | exact VLe.nil_fl _ | exact VLes.refl _ | exact .nil | refine VLe.tup ?_ | refine VLe.agg ?_ | refine .cons ?_ ?_ | (rw [Int.natCast_add]; exact VLe.refl _) | exact vle_int (by omega) | exact vle_bool (by first | rfl | assumption | (simp_all; done) | fail) | fail))
  · repeat (first | exact trivial | assumption | omega | (refine bdR_map (fun _ => ?_)) | (refine bdL_map (fun _ => ?_)) | refine ⟨?_, ?_⟩ | fail)
  · intro k_ hk_; exact ble (by repeat (first | exact rfl | refine uN (by omega) ?_ | assumption | fail))
  · intro p hp; cases hp
  · repeat (first | exact trivial | assumption | omega | (refine bdR_map (fun _ => ?_)) | (refine bdL_map (fun _ => ?_)) | refine ⟨?_, ?_⟩ | fail)
set_option maxRecDepth 100000 in
set_option maxHeartbeats 4000000 in
theorem page_c (d nx : Int) (l : List Rc) (hl : l.length ≤ 5) (hok : ∀ r ∈ l, okR r) : Does Try.prog 33 [.sc (.int .i64 d), .sc (.int .i64 nx), .sl 6 (l.map rcC)] [] [] (.agg ((padP (pgP d nx l l.length)).map bV)) := by
  refine does_mkg 40 Try.func33 rfl rfl rfl (fun n B bx hd hpre hup hvs hbx hgx => ?_)
  have hpl := pgP_len d nx hok (Nat.le_refl _)
  refine runs_seq ?_
  refine runs_region ?_
  refine rl1 (gn rfl) rfl rfl (step_allocc (k := n + 0) (zs := (List.replicate 224 (.int .u8 0))) (cs := List.replicate 224 (.sc (.int .u8 0))) rfl F.zero39 (by first | rfl | simp) (by first | rfl | decide | simp) (by first | rfl | simp)) ⟨by repeat (first | exact uE | refine uN (by omega) ?_ | assumption | exact hd _ (by omega) | fail), trivial⟩ (by omega) ?_
  refine runsL_nil ?_
  refine runs_seq ?_
  refine runs_region ?_
  refine rl0 (gn rfl) rfl rfl (step_mv rfl rfl) trivial ?_
  refine rl0 (gn rfl) rfl rfl (step_convw (r := d % 256) rfl rfl Try.underlying3 Try.underlying5 (by rw [wrap_u8])) trivial ?_
  refine rl0 (gn rfl) rfl rfl (step_mv rfl rfl) trivial ?_
  refine rl0 (gn rfl) rfl rfl (step_convw (r := nx % 256) rfl rfl Try.underlying3 Try.underlying5 (by rw [wrap_u8])) trivial ?_
  refine rl0 (gn rfl) rfl rfl (step_mv rfl rfl) trivial ?_
  refine rl0 (gn rfl) rfl rfl (step_len (m := l.length) rfl rfl (ev_mk rfl) (.inl ⟨⟨_, Try.underlying27⟩, .inl ⟨_, _, .inl rfl, List.length_map _⟩⟩)) trivial ?_
  refine rl0 (gn rfl) rfl rfl (step_conv_id rfl rfl Try.underlying3 Try.underlying5 (wu8 (by omega))) trivial ?_
  refine rl0 (gn rfl) rfl rfl (step_lit rfl Try.underlying67 F.sz5 F.zero5 (by first | rfl | simp) (by first | rfl | simp | decide) (by decide) rfl rfl (by first | (simp [V.cs, V.stor, oneV]; done) | (simp [V.cs, V.stor, oneV])) rfl) trivial ?_
  refine rl0 (gn rfl) rfl rfl (step_as rfl rfl) trivial ?_
  refine runsL_nil ?_
  refine runs_seq ?_
  refine runs_seq ?_
  refine runs_region ?_
  refine rl0 (gn rfl) rfl rfl (step_mv rfl rfl) trivial ?_
  refine rl0 (gn rfl) rfl rfl (step_len (m := l.length) rfl rfl (ev_mk rfl) (.inl ⟨⟨_, Try.underlying27⟩, .inl ⟨_, _, .inl rfl, List.length_map _⟩⟩)) trivial ?_
  refine rl0 (gn rfl) rfl rfl (step_mv rfl rfl) trivial ?_
  refine runsL_nil ?_
  refine runs_block ?_
  refine runs_grow (l' := []) (d := 7) (k := n + 1) (e := 1) (xs := [[.sc (.int .u8 66)], [.sc (.int .u8 (d % 256))], [.sc (.int .u8 (nx % 256))], [.sc (.int .u8 l.length)]]) rfl (.inl rfl) (by repeat (first | exact uE | refine uN (by omega) ?_ | assumption | exact hd _ (by omega) | fail)) (by omega) ?_
  have hs0_ : [[V.sc (.int .u8 66)], [V.sc (.int .u8 (d % 256))], [V.sc (.int .u8 (nx % 256))], [V.sc (.int .u8 l.length)]] = (bytesV (pgP d nx l 0)) := by rfl
  refine runs_loop (fun (ri_ : Nat) (st_ : Go.Vm.S) => ∃ (i : Nat) (m0 : Nat) (b0 : Nat → Box), (st_ = ⟨mk [(6, .ref (n + 0) 0), (7, .own 1 (bytesV (pgP d nx l i)) (n + 1)), (20, .sl 6 (l.map rcC)), (21, .sc (.int .i64 l.length)), (22, .sc (.int .i64 (i : Int)))], m0, b0⟩) ∧ (ri_ = 1 + (l.length - i)) ∧ (n + 2 ≤ m0) ∧ (∀ k_, k_ < n → b0 k_ = bx k_) ∧ (b0 (n + 0) = .cells (List.replicate 224 (.sc (.int .u8 0)))) ∧ (b0 (n + 1) = .tail (bytesV (pgP d nx l i)).length) ∧ (i ≤ l.length)) (1 + (l.length - 0)) ⟨_, sle ?_ (Nat.le_refl _), 0, _, _, rfl, rfl, ?_⟩ ?_
  · (repeat' (first | exact trivial | refine ⟨⟨_, rfl, ?_⟩, ?_⟩ | fail)); all_goals (repeat' (first | exact VLe.refl _ | exact VLe.own_sl _ _ _ | exact VLe.fl_sl _ _ | exact VLe.nil_sl _ | exact VLe.nil_fl _ | exact VLes.refl _ | exact .nil | refine VLe.tup ?_ | refine VLe.agg ?_ | refine .cons ?_ ?_ | (rw [Int.natCast_add]; exact VLe.refl _) | exact vle_int (by omega) | exact vle_bool (by first | rfl | assumption | (simp_all; done) | fail) | (rw [← hs0_]; exact VLe.refl _) | (rw [hs0_]; exact VLe.refl _) | fail))
  · exact ⟨by omega, (fun k_ hk_ => by repeat (first | exact rfl | refine uN (by omega) ?_ | assumption | fail)), by first | ((repeat (first | exact uE | assumption | refine uN (by omega) ?_ | fail)); done) | exact tl_eq (by repeat (first | exact uE | assumption | refine uN (by omega) ?_ | fail)) (by first | rfl | (rw [← hq0_]; simp [bytesV]; done) | (rw [hq0_]; done) | (simp [bytesV, pgP]; done)) | (rw [← hs0_]; (repeat (first | exact uE | assumption | refine uN (by omega) ?_ | fail)); done), by first | ((repeat (first | exact uE | assumption | refine uN (by omega) ?_ | fail)); done) | exact tl_eq (by repeat (first | exact uE | assumption | refine uN (by omega) ?_ | fail)) (by first | rfl | (rw [← hq0_]; simp [bytesV]; done) | (rw [hq0_]; done) | (simp [bytesV, pgP]; done)) | (rw [← hs0_]; (repeat (first | exact uE | assumption | refine uN (by omega) ?_ | fail)); done), by omega⟩
  · rintro _ _ ⟨i, m0, b0, rfl, rfl, hm0, hf0, hB0_0, hB0_1, hF0_0⟩
    refine runs_know (fun hd0 => ?_)
    refine runs_bump 20 ?_
    simp only at hd0
    refine runs_seq ?_
    refine runs_region ?_
    refine rl_lss (gn rfl) rfl rfl rfl rfl rfl (fun h1 => ?_) (fun h1 => ?_)
    · skip
      refine runsL_nil ?_
      refine runs_seq ?_
      refine runs_cond true (ev_mk rfl) (fun _ => ?_) (fun h_ => nomatch h_)
      refine runs_skip ?_
      refine runs_seq ?_
      refine runs_block ?_
      refine runs_seq ?_
      refine runs_region ?_
      refine' rl0 (gn rfl) rfl rfl (step_index rfl (ev_mk rfl) (.inl rfl) (ev_mk rfl) Try.underlying27 F.sz52 (by omega) ?hr) trivial ?_
      case hr => exact map_at _ _ _ (by omega) (by omega)
      refine rl0 (gn rfl) rfl rfl (step_load_ro_all rfl rfl F.agg52 (by first | rfl | (simp; done) | (first | (simp; done) | (rw [List.length_map]; exact padP_len (by omega))))) trivial ?_
      refine rl1 (gn rfl) rfl rfl (step_allocc (k := m0 + 0) (zs := [.int .u64 0, .int .u64 0, .int .u32 0, .int .u32 0, .string ByteArray.empty, .bool false]) (cs := [.sc (.int .u64 0), .sc (.int .u64 0), .sc (.int .u32 0), .sc (.int .u32 0), .sc (.string ByteArray.empty), .sc (.bool false)]) rfl F.zero52 (by first | rfl | simp) (by first | rfl | decide | simp) (by first | rfl | simp)) ⟨by repeat (first | exact uE | refine uN (by omega) ?_ | assumption | exact hd _ (by omega) | exact hd0 _ (by omega) | fail), trivial⟩ (by omega) ?_
      refine' rls (gn rfl) rfl (step_storeA rfl rfl rfl rfl F.agg52 ?hm ?hl) ⟨?hb, trivial⟩ ?hk ?_
      case hb => repeat (first | exact uE | refine uN (by omega) ?_ | assumption | exact hd _ (by omega) | exact hd0 _ (by omega) | fail)
      case hm => first | rfl | (simp; done) | (first | (simp; done) | (rw [List.length_map]; exact padP_len (by omega)))
      case hl => first | rfl | (simp; done) | (first | (simp; done) | (rw [List.length_map]; exact padP_len (by omega)))
      case hk => omega
      refine runsL_nil ?_
      refine runs_region ?_
      refine rl0 (gn rfl) rfl rfl (step_mv rfl rfl) trivial ?_
      refine' rl0 (gn rfl) rfl rfl (step_load_all rfl rfl F.agg52 ?hl) ⟨?hb, trivial⟩ ?_
      case hb => repeat (first | exact uE | refine uN (by omega) ?_ | assumption | exact hd _ (by omega) | exact hd0 _ (by omega) | fail)
      case hl => first | rfl | (simp; done) | (first | (simp; done) | (rw [List.length_map]; exact padP_len (by omega)))
      refine rl0 (gn rfl) rfl rfl (step_callc rfl Try.func38 rfl rfl rfl (rec_c (at' l (i : Int)) (at_okR hok (i := i) (by omega)).1 (at_okR hok (i := i) (by omega)).2) (by repeat (first | exact .nil | refine .cons ?_ ?_ | exact VLe.refl _ | exact VLe.own_sl _ _ _ | exact VLe.fl_sl _ _ | exact VLe.nil_sl _ | exact VLe.nil_fl _ | refine VLe.agg ?_))) trivial ?_
      refine' rl1 (gn rfl) rfl rfl (step_append_own rfl rfl rfl Try.underlying67 ⟨_, Try.underlying67, fun k_ => by intro h_; cases h_⟩ F.el5 (ev_mk rfl) (ev_mk rfl) (gives_sl (.inl rfl)) ?hg) ⟨?hb, trivial⟩ (by omega) ?_
      case hb => repeat (first | exact uE | refine uN (by omega) ?_ | assumption | exact hd _ (by omega) | exact hd0 _ (by omega) | fail)
      case hg => (simp [bytesV, pgP_len d nx hok (show i ≤ l.length by omega), recF_len (at_okR hok (i := i) (by omega)).2]; omega)
      refine rl0 (gn rfl) rfl rfl (step_as rfl rfl) trivial ?_
      refine runsL_nil ?_
      refine runs_region ?_
      refine rl0 (gn rfl) rfl rfl (step_add rfl (ev_mk rfl) (ev_mk rfl) (w64 (by omega))) trivial ?_
      refine rl0 (gn rfl) rfl rfl (step_mv rfl rfl) trivial ?_
      refine runsL_nil ?_
      have hq0_ : (bytesV (pgP d nx l i)) ++ (bytesV (recF (at' l (i : Int)))) = (bytesV (pgP d nx l (i + 1))) := by (rw [pgP_s d nx (by omega)]; simp [bytesV])
      refine ⟨_, _, ?_, sle ?_ (Nat.le_refl _), (i + 1), _, _, rfl, rfl, by omega, (fun k_ hk_ => by repeat (first | exact hf0 k_ hk_ | refine uN (by first | assumption | omega) ?_ | fail)), by first | ((repeat (first | exact uE | assumption | refine uN (by omega) ?_ | fail)); done) | exact tl_eq (by repeat (first | exact uE | assumption | refine uN (by omega) ?_ | fail)) (by first | rfl | (rw [← hq0_]; simp [bytesV]; done) | (rw [hq0_]; done) | (simp [bytesV, pgP]; done)) | (rw [← hq0_]; (repeat (first | exact uE | assumption | refine uN (by omega) ?_ | fail)); done), by first | ((repeat (first | exact uE | assumption | refine uN (by omega) ?_ | fail)); done) | exact tl_eq (by repeat (first | exact uE | assumption | refine uN (by omega) ?_ | fail)) (by first | rfl | (rw [← hq0_]; simp [bytesV]; done) | (rw [hq0_]; done) | (simp [bytesV, pgP]; done)) | (rw [← hq0_]; (repeat (first | exact uE | assumption | refine uN (by omega) ?_ | fail)); done), by omega⟩
      · omega
      · (repeat' (first | exact trivial | refine ⟨⟨_, rfl, ?_⟩, ?_⟩ | fail)); all_goals (repeat' (first | exact VLe.refl _ | exact VLe.own_sl _ _ _ | exact VLe.fl_sl _ _ | exact VLe.nil_sl _ | exact VLe.nil_fl _ | exact VLes.refl _ | exact .nil | refine VLe.tup ?_ | refine VLe.agg ?_ | refine .cons ?_ ?_ | (rw [Int.natCast_add]; exact VLe.refl _) | exact vle_int (by omega) | exact vle_bool (by first | rfl | assumption | (simp_all; done) | fail) | (rw [← hq0_]; exact VLe.refl _) | (rw [hq0_]; exact VLe.refl _) | fail))
    · skip
      obtain rfl : i = l.length := by omega
      refine runsL_nil ?_
      refine runs_seq ?_
      refine runs_cond false (ev_mk rfl) (fun h_ => nomatch h_) (fun _ => ?_)
      refine runs_exit ?_
      refine runs_seq ?_
      refine runs_region ?_
      refine rl0 (gn rfl) rfl rfl (step_mv rfl rfl) trivial ?_
      refine rl0 (gn rfl) rfl rfl (step_callc rfl Try.func39 rfl rfl rfl (of_ok (pgP d nx l l.length) (by omega)) (by repeat (first | exact .nil | refine .cons ?_ ?_ | exact VLe.refl _ | exact VLe.own_sl _ _ _ | exact VLe.fl_sl _ _ | exact VLe.nil_sl _ | exact VLe.nil_fl _ | refine VLe.agg ?_))) trivial ?_
      refine rl0 (gn rfl) rfl rfl (step_mv rfl rfl) trivial ?_
      refine rl0 (gn rfl) rfl rfl (step_extract rfl (ev_mk rfl) rfl) trivial ?_
      refine rl0 (gn rfl) rfl rfl (step_extract rfl (ev_mk rfl) rfl) trivial ?_
      refine rl1 (gn rfl) rfl rfl (step_allocc (k := m0 + 0) (zs := (List.replicate 224 (.int .u8 0))) (cs := List.replicate 224 (.sc (.int .u8 0))) rfl F.zero39 (by first | rfl | simp) (by first | rfl | decide | simp) (by first | rfl | simp)) ⟨by repeat (first | exact uE | refine uN (by omega) ?_ | assumption | exact hd _ (by omega) | exact hd0 _ (by omega) | fail), trivial⟩ (by omega) ?_
      refine' rls (gn rfl) rfl (step_storeA rfl rfl rfl rfl F.agg39 ?hm ?hl) ⟨?hb, trivial⟩ ?hk ?_
      case hb => repeat (first | exact uE | refine uN (by omega) ?_ | assumption | exact hd _ (by omega) | exact hd0 _ (by omega) | fail)
      case hm => first | rfl | (simp; done) | (first | (simp; done) | (rw [List.length_map]; exact padP_len (by omega)))
      case hl => first | rfl | (simp; done) | (first | (simp; done) | (rw [List.length_map]; exact padP_len (by omega)))
      case hk => omega
      refine rl0 (gn rfl) rfl rfl (step_as rfl rfl) trivial ?_
      refine runsL_nil ?_
      refine runs_seq ?_
      refine runs_region ?_
      refine' rl0 (gn rfl) rfl rfl (step_load_all rfl rfl F.agg39 ?hl) ⟨?hb, trivial⟩ ?_
      case hb => repeat (first | exact uE | refine uN (by omega) ?_ | assumption | exact hd _ (by omega) | exact hd0 _ (by omega) | fail)
      case hl => first | rfl | (simp; done) | (first | (simp; done) | (rw [List.length_map]; exact padP_len (by omega)))
      refine' rls (gn rfl) rfl (step_storeA rfl rfl rfl rfl F.agg39 ?hm ?hl) ⟨?hb, trivial⟩ ?hk ?_
      case hb => repeat (first | exact uE | refine uN (by omega) ?_ | assumption | exact hd _ (by omega) | exact hd0 _ (by omega) | fail)
      case hm => first | rfl | (simp; done) | (first | (simp; done) | (rw [List.length_map]; exact padP_len (by omega)))
      case hl => first | rfl | (simp; done) | (first | (simp; done) | (rw [List.length_map]; exact padP_len (by omega)))
      case hk => omega
      refine runsL_nil ?_
      refine runs_ret ?_
      refine ⟨by first | exact .inr rfl | exact .inl rfl, fin_mkg (resc rfl (by repeat (first | exact uE | refine uN (by omega) ?_ | assumption | exact hd _ (by omega) | exact hd0 _ (by omega) | fail)) F.agg39 (by first | rfl | (simp; done) | (first | (simp; done) | (rw [List.length_map]; exact padP_len (by omega)))) res0) ?_ ?_ ?_ ?_ ?_⟩
      · (repeat' (first | exact VLe.refl _ | exact VLe.own_sl _ _ _ | exact VLe.fl_sl _ _ | exact VLe.nil_sl _ | exact VLe.nil_fl _ | exact VLes.refl _ | exact .nil | refine VLe.tup ?_ | refine VLe.agg ?_ | refine .cons ?_ ?_ | (rw [Int.natCast_add]; exact VLe.refl _) | exact vle_int (by omega) | exact vle_bool (by first | rfl | assumption | (simp_all; done) | fail) | fail))
      · repeat (first | exact trivial | assumption | omega | (refine bdR_map (fun _ => ?_)) | (refine bdL_map (fun _ => ?_)) | refine ⟨?_, ?_⟩ | fail)
      · intro k_ hk_; exact ble (by repeat (first | exact rfl | refine uN (by omega) ?_ | assumption | exact hf0 _ (by omega) | fail))
      · intro p hp; cases hp
      · repeat (first | exact trivial | assumption | omega | (refine bdR_map (fun _ => ?_)) | (refine bdL_map (fun _ => ?_)) | refine ⟨?_, ?_⟩ | fail)
set_option maxRecDepth 100000 in
set_option maxHeartbeats 4000000 in
theorem rpage_c (d nx : Int) (l : List Rc) (hl : l.length ≤ 5) (hok : ∀ r ∈ l, okR r) : Does Try.prog 17 [.sc (.int .i64 d), .sc (.int .i64 nx), .sl 6 (l.map rcC)] [] [] (.agg ((padP (pgP d nx l l.length)).map bV)) := by
  refine does_mkg 40 Try.func17 rfl rfl rfl (fun n B bx hd hpre hup hvs hbx hgx => ?_)
  have hpl := pgP_len d nx hok (Nat.le_refl _)
  refine runs_seq ?_
  refine runs_region ?_
  refine rl1 (gn rfl) rfl rfl (step_allocc (k := n + 0) (zs := (List.replicate 224 (.int .u8 0))) (cs := List.replicate 224 (.sc (.int .u8 0))) rfl F.zero39 (by first | rfl | simp) (by first | rfl | decide | simp) (by first | rfl | simp)) ⟨by repeat (first | exact uE | refine uN (by omega) ?_ | assumption | exact hd _ (by omega) | fail), trivial⟩ (by omega) ?_
  refine runsL_nil ?_
  refine runs_seq ?_
  refine runs_region ?_
  refine rl0 (gn rfl) rfl rfl (step_mv rfl rfl) trivial ?_
  refine rl0 (gn rfl) rfl rfl (step_convw (r := d % 256) rfl rfl Try.underlying3 Try.underlying5 (by rw [wrap_u8])) trivial ?_
  refine rl0 (gn rfl) rfl rfl (step_mv rfl rfl) trivial ?_
  refine rl0 (gn rfl) rfl rfl (step_convw (r := nx % 256) rfl rfl Try.underlying3 Try.underlying5 (by rw [wrap_u8])) trivial ?_
  refine rl0 (gn rfl) rfl rfl (step_mv rfl rfl) trivial ?_
  refine rl0 (gn rfl) rfl rfl (step_len (m := l.length) rfl rfl (ev_mk rfl) (.inl ⟨⟨_, Try.underlying27⟩, .inl ⟨_, _, .inl rfl, List.length_map _⟩⟩)) trivial ?_
  refine rl0 (gn rfl) rfl rfl (step_conv_id rfl rfl Try.underlying3 Try.underlying5 (wu8 (by omega))) trivial ?_
  refine rl0 (gn rfl) rfl rfl (step_lit rfl Try.underlying67 F.sz5 F.zero5 (by first | rfl | simp) (by first | rfl | simp | decide) (by decide) rfl rfl (by first | (simp [V.cs, V.stor, oneV]; done) | (simp [V.cs, V.stor, oneV])) rfl) trivial ?_
  refine rl0 (gn rfl) rfl rfl (step_as rfl rfl) trivial ?_
  refine runsL_nil ?_
  refine runs_seq ?_
  refine runs_seq ?_
  refine runs_region ?_
  refine rl0 (gn rfl) rfl rfl (step_as rfl rfl) trivial ?_
  refine runsL_nil ?_
  refine runs_block ?_
  refine runs_grow (l' := []) (d := 7) (k := n + 1) (e := 1) (xs := [[.sc (.int .u8 66)], [.sc (.int .u8 (d % 256))], [.sc (.int .u8 (nx % 256))], [.sc (.int .u8 l.length)]]) rfl (.inl rfl) (by repeat (first | exact uE | refine uN (by omega) ?_ | assumption | exact hd _ (by omega) | fail)) (by omega) ?_
  have hs0_ : [[V.sc (.int .u8 66)], [V.sc (.int .u8 (d % 256))], [V.sc (.int .u8 (nx % 256))], [V.sc (.int .u8 l.length)]] = (bytesV (pgP d nx l 0)) := by rfl
  refine runs_loop (fun (ri_ : Nat) (st_ : Go.Vm.S) => ∃ (i : Nat) (m0 : Nat) (b0 : Nat → Box), (st_ = ⟨mk [(2, .sl 6 (l.map rcC)), (6, .ref (n + 0) 0), (7, .own 1 (bytesV (pgP d nx l i)) (n + 1)), (8, .sc (.int .i64 (i : Int)))], m0, b0⟩) ∧ (ri_ = 1 + (l.length - i)) ∧ (n + 2 ≤ m0) ∧ (∀ k_, k_ < n → b0 k_ = bx k_) ∧ (b0 (n + 0) = .cells (List.replicate 224 (.sc (.int .u8 0)))) ∧ (b0 (n + 1) = .tail (bytesV (pgP d nx l i)).length) ∧ (i ≤ l.length)) (1 + (l.length - 0)) ⟨_, sle ?_ (Nat.le_refl _), 0, _, _, rfl, rfl, ?_⟩ ?_
  · (repeat' (first | exact trivial | refine ⟨⟨_, rfl, ?_⟩, ?_⟩ | fail)); all_goals (repeat' (first | exact VLe.refl _ | exact VLe.own_sl _ _ _ | exact VLe.fl_sl _ _ | exact VLe.nil_sl _ | exact VLe.nil_fl _ | exact VLes.refl _ | exact .nil | refine VLe.tup ?_ | refine VLe.agg ?_ | refine .cons ?_ ?_ | (rw [Int.natCast_add]; exact VLe.refl _) | exact vle_int (by omega) | exact vle_bool (by first | rfl | assumption | (simp_all; done) | fail) | (rw [← hs0_]; exact VLe.refl _) | (rw [hs0_]; exact VLe.refl _) | fail))
  · exact ⟨by omega, (fun k_ hk_ => by repeat (first | exact rfl | refine uN (by omega) ?_ | assumption | fail)), by first | ((repeat (first | exact uE | assumption | refine uN (by omega) ?_ | fail)); done) | exact tl_eq (by repeat (first | exact uE | assumption | refine uN (by omega) ?_ | fail)) (by first | rfl | (rw [← hq0_]; simp [bytesV]; done) | (rw [hq0_]; done) | (simp [bytesV, pgP]; done)) | (rw [← hs0_]; (repeat (first | exact uE | assumption | refine uN (by omega) ?_ | fail)); done), by first | ((repeat (first | exact uE | assumption | refine uN (by omega) ?_ | fail)); done) | exact tl_eq (by repeat (first | exact uE | assumption | refine uN (by omega) ?_ | fail)) (by first | rfl | (rw [← hq0_]; simp [bytesV]; done) | (rw [hq0_]; done) | (simp [bytesV, pgP]; done)) | (rw [← hs0_]; (repeat (first | exact uE | assumption | refine uN (by omega) ?_ | fail)); done), by omega⟩
  · rintro _ _ ⟨i, m0, b0, rfl, rfl, hm0, hf0, hB0_0, hB0_1, hF0_0⟩
    refine runs_know (fun hd0 => ?_)
    refine runs_bump 20 ?_
    simp only at hd0
    refine runs_seq ?_
    refine runs_seq ?_
    refine runs_region ?_
    refine rl0 (gn rfl) rfl rfl (step_mv rfl rfl) trivial ?_
    refine rl0 (gn rfl) rfl rfl (step_mv rfl rfl) trivial ?_
    refine rl0 (gn rfl) rfl rfl (step_len (m := l.length) rfl rfl (ev_mk rfl) (.inl ⟨⟨_, Try.underlying27⟩, .inl ⟨_, _, .inl rfl, List.length_map _⟩⟩)) trivial ?_
    refine rl_lss (gn rfl) rfl rfl rfl rfl rfl (fun h1 => ?_) (fun h1 => ?_)
    · skip
      refine runsL_nil ?_
      refine runs_cond true (ev_mk rfl) (fun _ => ?_) (fun h_ => nomatch h_)
      refine runs_skip ?_
      refine runs_seq ?_
      refine runs_block ?_
      refine runs_region ?_
      refine rl0 (gn rfl) rfl rfl (step_mv rfl rfl) trivial ?_
      refine rl0 (gn rfl) rfl rfl (step_mv rfl rfl) trivial ?_
      refine rl0 (gn rfl) rfl rfl (step_mv rfl rfl) trivial ?_
      refine' rl0 (gn rfl) rfl rfl (step_index rfl (ev_mk rfl) (.inl rfl) (ev_mk rfl) Try.underlying27 F.sz52 (by omega) ?hr) trivial ?_
      case hr => exact map_at _ _ _ (by omega) (by omega)
      refine rl0 (gn rfl) rfl rfl (step_load_ro_all rfl rfl F.agg52 (by first | rfl | (simp; done) | (first | (simp; done) | (simp; omega) | (rw [List.length_map]; exact mixP_len (by omega) (by omega)) | (rw [List.length_map, mixP_len (by omega) (by omega)]; omega)))) trivial ?_
      refine rl0 (gn rfl) rfl rfl (step_callc rfl Try.func34 rfl rfl rfl (rrec_c (at' l (i : Int)) (at_okR hok (i := i) (by omega)).1 (at_okR hok (i := i) (by omega)).2) (by repeat (first | exact .nil | refine .cons ?_ ?_ | exact VLe.refl _ | exact VLe.own_sl _ _ _ | exact VLe.fl_sl _ _ | exact VLe.nil_sl _ | exact VLe.nil_fl _ | refine VLe.agg ?_))) trivial ?_
      refine' rl1 (gn rfl) rfl rfl (step_append_own rfl rfl rfl Try.underlying67 ⟨_, Try.underlying67, fun k_ => by intro h_; cases h_⟩ F.el5 (ev_mk rfl) (ev_mk rfl) (gives_sl (.inl rfl)) ?hg) ⟨?hb, trivial⟩ (by omega) ?_
      case hb => repeat (first | exact uE | refine uN (by omega) ?_ | assumption | exact hd _ (by omega) | exact hd0 _ (by omega) | fail)
      case hg => (simp [bytesV, pgP_len d nx hok (show i ≤ l.length by omega), recF_len (at_okR hok (i := i) (by omega)).2]; omega)
      refine rl0 (gn rfl) rfl rfl (step_as rfl rfl) trivial ?_
      refine runsL_nil ?_
      refine runs_region ?_
      refine rl0 (gn rfl) rfl rfl (step_mv rfl rfl) trivial ?_
      refine rl0 (gn rfl) rfl rfl (step_add rfl (ev_mk rfl) (ev_mk rfl) (w64 (by omega))) trivial ?_
      refine rl0 (gn rfl) rfl rfl (step_as rfl rfl) trivial ?_
      refine runsL_nil ?_
      have hq0_ : (bytesV (pgP d nx l i)) ++ (bytesV (recF (at' l (i : Int)))) = (bytesV (pgP d nx l (i + 1))) := by (rw [pgP_s d nx (by omega)]; simp [bytesV])
      refine ⟨_, _, ?_, sle ?_ (Nat.le_refl _), (i + 1), _, _, rfl, rfl, by omega, (fun k_ hk_ => by repeat (first | exact hf0 k_ hk_ | refine uN (by first | assumption | omega) ?_ | fail)), by first | ((repeat (first | exact uE | assumption | refine uN (by omega) ?_ | fail)); done) | exact tl_eq (by repeat (first | exact uE | assumption | refine uN (by omega) ?_ | fail)) (by first | rfl | (rw [← hq0_]; simp [bytesV]; done) | (rw [hq0_]; done) | (simp [bytesV, pgP]; done)) | (rw [← hq0_]; (repeat (first | exact uE | assumption | refine uN (by omega) ?_ | fail)); done), by first | ((repeat (first | exact uE | assumption | refine uN (by omega) ?_ | fail)); done) | exact tl_eq (by repeat (first | exact uE | assumption | refine uN (by omega) ?_ | fail)) (by first | rfl | (rw [← hq0_]; simp [bytesV]; done) | (rw [hq0_]; done) | (simp [bytesV, pgP]; done)) | (rw [← hq0_]; (repeat (first | exact uE | assumption | refine uN (by omega) ?_ | fail)); done), by omega⟩
      · omega
      · (repeat' (first | exact trivial | refine ⟨⟨_, rfl, ?_⟩, ?_⟩ | fail)); all_goals (repeat' (first | exact VLe.refl _ | exact VLe.own_sl _ _ _ | exact VLe.fl_sl _ _ | exact VLe.nil_sl _ | exact VLe.nil_fl _ | exact VLes.refl _ | exact .nil | refine VLe.tup ?_ | refine VLe.agg ?_ | refine .cons ?_ ?_ | (rw [Int.natCast_add]; exact VLe.refl _) | exact vle_int (by omega) | exact vle_bool (by first | rfl | assumption | (simp_all; done) | fail) | (rw [← hq0_]; exact VLe.refl _) | (rw [hq0_]; exact VLe.refl _) | fail))
    · skip
      obtain rfl : i = l.length := by omega
      refine runsL_nil ?_
      refine runs_cond false (ev_mk rfl) (fun h_ => nomatch h_) (fun _ => ?_)
      refine runs_exit ?_
      refine runs_seq ?_
      refine runs_region ?_
      refine rl1 (gn rfl) rfl rfl (step_allocc (k := m0 + 0) (zs := (List.replicate 224 (.int .u8 0))) (cs := List.replicate 224 (.sc (.int .u8 0))) rfl F.zero39 (by first | rfl | simp) (by first | rfl | decide | simp) (by first | rfl | simp)) ⟨by repeat (first | exact uE | refine uN (by omega) ?_ | assumption | exact hd _ (by omega) | exact hd0 _ (by omega) | fail), trivial⟩ (by omega) ?_
      refine runsL_nil ?_
      refine runs_seq ?_
      refine runs_seq ?_
      refine runs_region ?_
      refine rl0 (gn rfl) rfl rfl (step_as rfl rfl) trivial ?_
      refine runsL_nil ?_
      refine runs_block ?_
      have hs1_ : List.replicate 224 (V.sc (.int .u8 0)) = (mixP (pgP d nx l l.length) 0).map bV := by (simp [mixP]; rfl)
      refine runs_loop (fun (ri_ : Nat) (st_ : Go.Vm.S) => ∃ (j : Nat) (m1 : Nat) (b1 : Nat → Box), (st_ = ⟨mk [(6, .ref (n + 0) 0), (7, .own 1 (bytesV (pgP d nx l l.length)) (n + 1)), (9, .ref (m0 + 0) 0), (10, .sc (.int .i64 (j : Int)))], m1, b1⟩) ∧ (ri_ = 1 + ((pgP d nx l l.length).length - j)) ∧ (m0 + 1 ≤ m1) ∧ (∀ k_, k_ < n → b1 k_ = bx k_) ∧ (b1 (n + 0) = .cells (List.replicate 224 (.sc (.int .u8 0)))) ∧ (b1 (n + 1) = .tail (bytesV (pgP d nx l l.length)).length) ∧ (b1 (m0 + 0) = .cells ((mixP (pgP d nx l l.length) j).map bV)) ∧ (j ≤ (pgP d nx l l.length).length)) (1 + ((pgP d nx l l.length).length - 0)) ⟨_, sle ?_ (Nat.le_refl _), 0, _, _, rfl, rfl, ?_⟩ ?_
      · (repeat' (first | exact trivial | refine ⟨⟨_, rfl, ?_⟩, ?_⟩ | fail)); all_goals (repeat' (first | exact VLe.refl _ | exact VLe.own_sl _ _ _ | exact VLe.fl_sl _ _ | exact VLe.nil_sl _ | exact VLe.nil_fl _ | exact VLes.refl _ | exact .nil | refine VLe.tup ?_ | refine VLe.agg ?_ | refine .cons ?_ ?_ | (rw [Int.natCast_add]; exact VLe.refl _) | exact vle_int (by omega) | exact vle_bool (by first | rfl | assumption | (simp_all; done) | fail) | (rw [← hs1_]; exact VLe.refl _) | (rw [hs1_]; exact VLe.refl _) | fail))
      · exact ⟨by omega, (fun k_ hk_ => by repeat (first | exact rfl | refine uN (by omega) ?_ | assumption | exact hf0 _ (by omega) | fail)), by first | ((repeat (first | exact uE | assumption | refine uN (by omega) ?_ | fail)); done) | exact tl_eq (by repeat (first | exact uE | assumption | refine uN (by omega) ?_ | fail)) (by first | rfl | (rw [← hq0_]; simp [bytesV]; done) | (rw [hq0_]; done) | (simp [bytesV, pgP]; done)) | (rw [← hs1_]; (repeat (first | exact uE | assumption | refine uN (by omega) ?_ | fail)); done), by first | ((repeat (first | exact uE | assumption | refine uN (by omega) ?_ | fail)); done) | exact tl_eq (by repeat (first | exact uE | assumption | refine uN (by omega) ?_ | fail)) (by first | rfl | (rw [← hq0_]; simp [bytesV]; done) | (rw [hq0_]; done) | (simp [bytesV, pgP]; done)) | (rw [← hs1_]; (repeat (first | exact uE | assumption | refine uN (by omega) ?_ | fail)); done), by first | ((repeat (first | exact uE | assumption | refine uN (by omega) ?_ | fail)); done) | exact tl_eq (by repeat (first | exact uE | assumption | refine uN (by omega) ?_ | fail)) (by first | rfl | (rw [← hq0_]; simp [bytesV]; done) | (rw [hq0_]; done) | (simp [bytesV, pgP]; done)) | (rw [← hs1_]; (repeat (first | exact uE | assumption | refine uN (by omega) ?_ | fail)); done), by omega⟩
      · rintro _ _ ⟨j, m1, b1, rfl, rfl, hm1, hf1, hB1_0, hB1_1, hB1_2, hF1_0⟩
        refine runs_know (fun hd1 => ?_)
        refine runs_bump 20 ?_
        simp only at hd1
        refine runs_seq ?_
        refine runs_seq ?_
        refine runs_region ?_
        refine rl0 (gn rfl) rfl rfl (step_mv rfl rfl) trivial ?_
        refine rl0 (gn rfl) rfl rfl (step_mv rfl rfl) trivial ?_
        refine rl0 (gn rfl) rfl rfl (step_len (m := (pgP d nx l l.length).length) rfl rfl (ev_mk rfl) (.inl ⟨⟨_, Try.underlying67⟩, .inl ⟨_, _, .inr (.inr ⟨_, rfl⟩), List.length_map _⟩⟩)) trivial ?_
        refine rl_lss (gn rfl) rfl rfl rfl rfl rfl (fun h2 => ?_) (fun h2 => ?_)
        · skip
          refine runsL_nil ?_
          refine runs_cond true (ev_mk rfl) (fun _ => ?_) (fun h_ => nomatch h_)
          refine runs_skip ?_
          refine runs_seq ?_
          refine runs_block ?_
          refine runs_region ?_
          refine rl0 (gn rfl) rfl rfl (step_mv rfl rfl) trivial ?_
          refine rl0 (gn rfl) rfl rfl (step_mv rfl rfl) trivial ?_
          refine rl0 (gn rfl) rfl rfl (step_mv rfl rfl) trivial ?_
          refine' rl0 (gn rfl) rfl rfl (step_index rfl (ev_mk rfl) (.inr (.inr ⟨_, rfl⟩)) (ev_mk rfl) Try.underlying67 F.sz5 (by omega) ?hr) trivial ?_
          case hr => exact map_at _ _ _ (by omega) (by omega)
          refine rl0 (gn rfl) rfl rfl (step_load_ro rfl (ev_mk rfl) F.one5 rfl) trivial ?_
          refine rl0 (gn rfl) rfl rfl (step_index_arr rfl (ev_mk rfl) (ev_mk rfl) Try.underlying39 F.sz5 (by omega) (by omega)) trivial ?_
          refine' rls (gn rfl) rfl (step_store1 (cs' := (mixP (pgP d nx l l.length) (j + 1)).map bV) rfl rfl rfl rfl F.one5 rfl rfl ?hl ?hc) ⟨?hb, trivial⟩ ?hk ?_
          case hb => repeat (first | exact uE | refine uN (by omega) ?_ | assumption | exact hd _ (by omega) | exact hd0 _ (by omega) | exact hd1 _ (by omega) | fail)
          case hl => first | exact Nat.le_of_ble_eq_true rfl | decide | (simp; done) | (simp; omega) | (first | (simp; done) | (simp; omega) | (rw [List.length_map]; exact mixP_len (by omega) (by omega)) | (rw [List.length_map, mixP_len (by omega) (by omega)]; omega))
          case hc => (rw [show 0 + (j : Int).toNat * 1 = j by omega]; exact mixP_set (by omega) (by omega))
          case hk => omega
          refine runsL_nil ?_
          refine runs_region ?_
          refine rl0 (gn rfl) rfl rfl (step_mv rfl rfl) trivial ?_
          refine rl0 (gn rfl) rfl rfl (step_add rfl (ev_mk rfl) (ev_mk rfl) (w64 (by omega))) trivial ?_
          refine rl0 (gn rfl) rfl rfl (step_as rfl rfl) trivial ?_
          refine runsL_nil ?_
          refine ⟨_, _, ?_, sle ?_ (Nat.le_refl _), (j + 1), _, _, rfl, rfl, by omega, (fun k_ hk_ => by repeat (first | exact hf1 k_ hk_ | exact hf0 k_ hk_ | refine uN (by first | assumption | omega) ?_ | fail)), by first | ((repeat (first | exact uE | assumption | refine uN (by omega) ?_ | fail)); done) | exact tl_eq (by repeat (first | exact uE | assumption | refine uN (by omega) ?_ | fail)) (by first | rfl | (rw [← hq0_]; simp [bytesV]; done) | (rw [hq0_]; done) | (simp [bytesV, pgP]; done)), by first | ((repeat (first | exact uE | assumption | refine uN (by omega) ?_ | fail)); done) | exact tl_eq (by repeat (first | exact uE | assumption | refine uN (by omega) ?_ | fail)) (by first | rfl | (rw [← hq0_]; simp [bytesV]; done) | (rw [hq0_]; done) | (simp [bytesV, pgP]; done)), by first | ((repeat (first | exact uE | assumption | refine uN (by omega) ?_ | fail)); done) | exact tl_eq (by repeat (first | exact uE | assumption | refine uN (by omega) ?_ | fail)) (by first | rfl | (rw [← hq0_]; simp [bytesV]; done) | (rw [hq0_]; done) | (simp [bytesV, pgP]; done)), by omega⟩
          · omega
          · (repeat' (first | exact trivial | refine ⟨⟨_, rfl, ?_⟩, ?_⟩ | fail)); all_goals (repeat' (first | exact VLe.refl _ | exact VLe.own_sl _ _ _ | exact VLe.fl_sl _ _ | exact VLe.nil_sl _ | exact VLe.nil_fl _ | exact VLes.refl _ | exact .nil | refine VLe.tup ?_ | refine VLe.agg ?_ | refine .cons ?_ ?_ | (rw [Int.natCast_add]; exact VLe.refl _) | exact vle_int (by omega) | exact vle_bool (by first | rfl | assumption | (simp_all; done) | fail) | fail))
        · skip
          obtain rfl : j = (pgP d nx l l.length).length := by omega
          refine runsL_nil ?_
          refine runs_cond false (ev_mk rfl) (fun h_ => nomatch h_) (fun _ => ?_)
          refine runs_exit ?_
          refine runs_seq ?_
          refine runs_region ?_
          refine' rl0 (gn rfl) rfl rfl (step_load_all rfl rfl F.agg39 ?hl) ⟨?hb, trivial⟩ ?_
          case hb => repeat (first | exact uE | refine uN (by omega) ?_ | assumption | exact hd _ (by omega) | exact hd0 _ (by omega) | exact hd1 _ (by omega) | fail)
          case hl => first | rfl | (simp; done) | (first | (simp; done) | (simp; omega) | (rw [List.length_map]; exact mixP_len (by omega) (by omega)) | (rw [List.length_map, mixP_len (by omega) (by omega)]; omega))
          refine' rls (gn rfl) rfl (step_storeA rfl rfl rfl rfl F.agg39 ?hm ?hl) ⟨?hb, trivial⟩ ?hk ?_
          case hb => repeat (first | exact uE | refine uN (by omega) ?_ | assumption | exact hd _ (by omega) | exact hd0 _ (by omega) | exact hd1 _ (by omega) | fail)
          case hm => first | rfl | (simp; done) | (first | (simp; done) | (simp; omega) | (rw [List.length_map]; exact mixP_len (by omega) (by omega)) | (rw [List.length_map, mixP_len (by omega) (by omega)]; omega))
          case hl => first | rfl | (simp; done) | (first | (simp; done) | (simp; omega) | (rw [List.length_map]; exact mixP_len (by omega) (by omega)) | (rw [List.length_map, mixP_len (by omega) (by omega)]; omega))
          case hk => omega
          refine runsL_nil ?_
          refine runs_ret ?_
          rw [← mixP_end]
          refine ⟨by first | exact .inr rfl | exact .inl rfl, fin_mkg (resc rfl (by repeat (first | exact uE | refine uN (by omega) ?_ | assumption | exact hd _ (by omega) | exact hd0 _ (by omega) | exact hd1 _ (by omega) | fail)) F.agg39 (by first | rfl | (simp; done) | (first | (simp; done) | (simp; omega) | (rw [List.length_map]; exact mixP_len (by omega) (by omega)) | (rw [List.length_map, mixP_len (by omega) (by omega)]; omega))) res0) ?_ ?_ ?_ ?_ ?_⟩
          · (repeat' (first | exact VLe.refl _ | exact VLe.own_sl _ _ _ | exact VLe.fl_sl _ _ | exact VLe.nil_sl _ | exact VLe.nil_fl _ | exact VLes.refl _ | exact .nil | refine VLe.tup ?_ | refine VLe.agg ?_ | refine .cons ?_ ?_ | (rw [Int.natCast_add]; exact VLe.refl _) | exact vle_int (by omega) | exact vle_bool (by first | rfl | assumption | (simp_all; done) | fail) | ((rw [mixP_end]; exact VLe.refl _)) | fail))
          · repeat (first | exact trivial | assumption | omega | (refine bdR_map (fun _ => ?_)) | (refine bdL_map (fun _ => ?_)) | refine ⟨?_, ?_⟩ | fail)
          · intro k_ hk_; exact ble (by repeat (first | exact rfl | refine uN (by omega) ?_ | assumption | exact hf0 _ (by omega) | exact hf1 _ (by omega) | fail))
          · intro p hp; cases hp
          · repeat (first | exact trivial | assumption | omega | (refine bdR_map (fun _ => ?_)) | (refine bdL_map (fun _ => ?_)) | refine ⟨?_, ?_⟩ | fail)
end Go.Proofs.Ytldlmmpniddbcaa
