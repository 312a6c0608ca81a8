/- Walks by the logic of values. -/
import Derived.Test.YtcemdkppkklfnaaKtVa
import Derived.Test.YtcemdkppkklfnaaKtVb
import Derived.Test.YtcemdkppkklfnaaKtVc
import Derived.Test.YtcemdkppkklfnaaKtVmT
import Derived.Test.YtcemdkppkklfnaaKtVmP
import Derived.Test.YtcemdkppkklfnaaKtVmV
namespace Go.Proofs.Ytcemdkppkklfnaa
open Go.Vm
set_option linter.unusedVariables false
set_option linter.unusedSimpArgs false
set_option maxRecDepth 100000 in
set_option maxHeartbeats 4000000 in
theorem works_c  : Does Try.prog 14 [] [] [] (.sc (.bool true)) := by
  refine does_mkr 40 Try.func14 rfl rfl rfl (fun n B bx hd hpre hup hvs hbx hgx hO => ?_)
  refine runs_seq ?_
  refine runs_region ?_
  refine rl0 (gn rfl) rfl rfl (step_as rfl rfl) trivial ?_
  refine runsL_nil ?_
  refine runs_seq ?_
  refine runs_region ?_
  refine rl0 (gn rfl) rfl rfl (step_build (ss := [1, 1, 1, 1]) (zs := [.int .u32 0, .int .u32 0, .int .u32 0, .int .u32 0]) rfl Try.underlying24 (by kernel_rfl) F.zero24 rfl rfl rfl) trivial ?_
  refine rl1 (gn rfl) rfl rfl (step_allocc (k := n + 0) (zs := [.int .u32 0, .int .u32 0, .int .u32 0, .int .u32 0]) (cs := [.sc (.int .u32 0), .sc (.int .u32 0), .sc (.int .u32 0), .sc (.int .u32 0)]) rfl F.zero24 (by first | rfl | simp) (by first | rfl | decide | simp) (by first | rfl | simp)) ⟨by repeat (first | exact uE | refine uN (by omega) ?_ | assumption | exact hd _ (by omega) | fail), trivial⟩ (by omega) ?_
  refine' rls (gn rfl) rfl (step_storeA rfl rfl rfl rfl F.agg24 ?hm ?hl) ⟨?hb, trivial⟩ ?hk ?_
  case hb => repeat (first | exact uE | refine uN (by omega) ?_ | assumption | exact hd _ (by omega) | fail)
  case hm => first | rfl | (simp; done) | (first | (simp; done) | (simp; omega) | omega)
  case hl => first | rfl | (simp; done) | (first | (simp; done) | (simp; omega) | omega)
  case hk => omega
  refine runsL_nil ?_
  refine runs_seq ?_
  refine runs_region ?_
  refine rl0 (gn rfl) rfl rfl (step_build (ss := [1, 1, 1, 1]) (zs := [.int .u32 0, .int .u32 0, .int .u32 0, .int .u32 0]) rfl Try.underlying24 (by kernel_rfl) F.zero24 rfl rfl rfl) trivial ?_
  refine rl1 (gn rfl) rfl rfl (step_allocc (k := n + 1) (zs := [.int .u32 0, .int .u32 0, .int .u32 0, .int .u32 0]) (cs := [.sc (.int .u32 0), .sc (.int .u32 0), .sc (.int .u32 0), .sc (.int .u32 0)]) rfl F.zero24 (by first | rfl | simp) (by first | rfl | decide | simp) (by first | rfl | simp)) ⟨by repeat (first | exact uE | refine uN (by omega) ?_ | assumption | exact hd _ (by omega) | fail), trivial⟩ (by omega) ?_
  refine' rls (gn rfl) rfl (step_storeA rfl rfl rfl rfl F.agg24 ?hm ?hl) ⟨?hb, trivial⟩ ?hk ?_
  case hb => repeat (first | exact uE | refine uN (by omega) ?_ | assumption | exact hd _ (by omega) | fail)
  case hm => first | rfl | (simp; done) | (first | (simp; done) | (simp; omega) | omega)
  case hl => first | rfl | (simp; done) | (first | (simp; done) | (simp; omega) | omega)
  case hk => omega
  refine runsL_nil ?_
  refine runs_seq ?_
  refine runs_region ?_
  refine rl1 (gn rfl) rfl rfl (step_allocc (k := n + 2) (zs := [.int .i64 0]) (cs := [.sc (.int .i64 0)]) rfl F.zero3 (by first | rfl | simp) (by first | rfl | decide | simp) (by first | rfl | simp)) ⟨by repeat (first | exact uE | refine uN (by omega) ?_ | assumption | exact hd _ (by omega) | fail), trivial⟩ (by omega) ?_
  refine' rls (gn rfl) rfl (step_store1 rfl rfl rfl rfl F.one3 rfl rfl ?hl ?hc) ⟨?hb, trivial⟩ ?hk ?_
  case hb => repeat (first | exact uE | refine uN (by omega) ?_ | assumption | exact hd _ (by omega) | fail)
  case hl => first | exact Nat.le_of_ble_eq_true rfl | decide | (simp; done) | (simp; omega) | (first | (simp; done) | (simp; omega) | omega)
  case hc => first | (simp only [List.set_cons_succ, List.set_cons_zero]; rfl) | rfl
  case hk => omega
  refine runsL_nil ?_
  refine runs_seq ?_
  refine runs_region ?_
  refine' rl0 (gn rfl) rfl rfl (step_load_all rfl rfl F.agg24 ?hl) ⟨?hb, trivial⟩ ?_
  case hb => repeat (first | exact uE | refine uN (by omega) ?_ | assumption | exact hd _ (by omega) | fail)
  case hl => first | rfl | (simp; done) | (first | (simp; done) | (simp; omega) | omega)
  refine rl1 (gn rfl) rfl rfl (step_callc rfl Try.func19 rfl rfl rfl (tou_c (kk := (n + 3))) (by repeat (first | exact .nil | refine .cons ?_ ?_ | exact VLe.refl _ | exact VLe.own_sl _ _ _ | exact VLe.fl_sl _ _ | exact VLe.nil_sl _ | exact VLe.nil_fl _ | refine VLe.agg ?_))) ⟨by repeat (first | exact uE | refine uN (by omega) ?_ | assumption | exact hd _ (by omega) | fail), trivial⟩ (by omega) ?_
  refine rl0 (gn rfl) rfl rfl (step_as rfl rfl) trivial ?_
  refine runsL_nil ?_
  refine runs_seq ?_
  refine runs_seq ?_
  refine runs_region ?_
  refine rl0 (gn rfl) rfl rfl (step_mv rfl rfl) trivial ?_
  refine rl0 (gn rfl) rfl rfl (step_eq_nilf (b := false) rfl (ev_mk rfl) (ev_mk rfl) Try.underlying38 ⟨_, .inl ⟨.inl ⟨_, _, rfl⟩, rfl⟩, .inl ⟨rfl, rfl⟩⟩) trivial ?_
  refine runsL_nil ?_
  refine runs_cond false (ev_mk rfl) (fun h_ => nomatch h_) (fun _ => ?_)
  refine runs_skip ?_
  refine runs_seq ?_
  refine runs_seq ?_
  refine runs_region ?_
  refine rl0 (gn rfl) rfl rfl (step_mv rfl rfl) trivial ?_
  refine runsL_nil ?_
  refine runs_block ?_
  refine runs_rangeL (f := 22) (caps := [.ref (n + 3) 0]) (xs := (touL 2 2 5 5).map enT) (Dl := [(n + 2, fun i60 => .cells [.sc (.int .i64 (i60 : Nat))])]) (El := [(n + 3, .cells (rcC 2 2 5 5), fun m_ b_ => .cells (rcC 2 2 5 5))]) (kl := n + 4) (m := 1) (brk := false) (ex := .normal) hO rfl (.inl rfl) Try.func22 rfl rfl (tou_i (by omega) (by omega) (by omega) (by omega)) (by repeat (first | exact uE | refine uN (by omega) ?_ | assumption | exact hd _ (by omega) | fail)) (by omega) (by decide +kernel) (fun h_ => nomatch h_) (fun _ => ⟨by decide +kernel, rfl⟩) (fun v_ hv_ => by obtain ⟨_, _, rfl⟩ := List.mem_map.1 hv_; rfl) rfl ⟨trivial, trivial⟩ ⟨⟨by dsimp only; omega, by dsimp only; omega, ⟨by dsimp only; omega, trivial⟩, by dsimp only; (first | ((repeat (first | exact uE | assumption | refine uN (by omega) ?_ | fail)); done) | (refine Eq.trans (b := .cells [.sc (.int .i64 0)]) (by repeat (first | exact uE | assumption | refine uN (by omega) ?_ | fail)) ?_; first | rfl | (simp; done)))⟩, trivial⟩ ⟨⟨by dsimp only; omega, by dsimp only; omega, by dsimp only; repeat (first | exact uE | refine uN (by omega) ?_ | assumption | exact hd _ (by omega) | fail)⟩, trivial⟩ (fun i60 => ⟨bdb_cells (by repeat (first | exact trivial | assumption | omega | (refine bdR_map (fun _ => ?_)) | (refine bdL_map (fun _ => ?_)) | refine ⟨?_, ?_⟩ | fail)), trivial⟩) ⟨bdb_cells (by repeat (first | exact trivial | assumption | omega | (refine bdR_map (fun _ => ?_)) | (refine bdL_map (fun _ => ?_)) | refine ⟨?_, ?_⟩ | fail)), trivial⟩ ?_ ?_
  · intro i60 v60 hi60 hv60 B60 n60 lr60 bx60 hR60 hl60 hk60 ho60 he60 hn60 hd60 hD60 hfr60
    have hf60 : ∀ k_, k_ < _ → k_ ≠ n + 2 → k_ ≠ n + 3 → k_ ≠ n + 4 → bx60 k_ = _ := fun k_ a_ e0_ e1_ e2_ => hfr60 k_ a_ ⟨e0_, e1_, trivial⟩ e2_
    have hb60_0 : bx60 (n + 2) = .cells [.sc (.int .i64 (i60 : Nat))] := hD60.1
    have hc60_0 : bx60 (n + 0) = .cells [.sc (.int .u32 2), .sc (.int .u32 2), .sc (.int .u32 5), .sc (.int .u32 5)] := (hf60 _ (by omega) (by omega) (by omega) (by omega)).trans (by repeat (first | exact uE | refine uN (by omega) ?_ | assumption | exact hd _ (by omega) | fail))
    have hc60_1 : bx60 (n + 1) = .cells [.sc (.int .u32 5), .sc (.int .u32 0), .sc (.int .u32 9), .sc (.int .u32 3)] := (hf60 _ (by omega) (by omega) (by omega) (by omega)).trans (by repeat (first | exact uE | refine uN (by omega) ?_ | assumption | exact hd _ (by omega) | fail))
    obtain ⟨t60, ht60, rfl⟩ := map_get hv60
    refine runs_keep (l' := [(12, .sc (.int .i64 t60)), (0, .sc (.bool false)), (3, .ref (n + 2) 0)]) ?_ ?_
    · (repeat' (first | exact trivial | refine ⟨⟨_, rfl, ?_⟩, ?_⟩ | fail)); all_goals (repeat' (first | exact VLe.refl _ | exact VLe.own_sl _ _ _ | exact VLe.fl_sl _ _ | exact VLe.nil_sl _ | exact VLe.nil_fl _ | exact VLes.refl _ | exact .nil | refine VLe.tup ?_ | refine VLe.agg ?_ | refine .cons ?_ ?_ | (rw [Int.natCast_add]; exact VLe.refl _) | exact vle_int (by omega) | exact vle_bool (by first | rfl | assumption | (simp_all; done)) | fail))
    refine runs_bump 40 ?_
    refine runs_skip ?_
    refine ⟨rfl, by first | rfl | (repeat (first | exact uE | refine uN (by omega) ?_ | assumption | exact hd _ (by omega) | exact hd60 _ (by omega) | fail)), fun r60 => ?_⟩
    show Runs _ _ _ _ ⟨mk _, _ + _, upd _ _ _⟩ _
    refine runs_block ?_
    refine runs_region ?_
    refine' rl0 (gn rfl) rfl rfl (step_load_one rfl (ev_mk rfl) F.one3 ?hv) ⟨?hb, trivial⟩ ?_
    case hb => repeat (first | exact uE | refine uN (by omega) ?_ | assumption | exact hd _ (by omega) | exact hd60 _ (by omega) | fail)
    case hv => rfl
    refine rl0 (gn rfl) rfl rfl (step_add rfl (ev_mk rfl) (ev_mk rfl) (w64 (by omega))) trivial ?_
    refine' rls (gn rfl) rfl (step_store1 rfl rfl rfl rfl F.one3 rfl rfl ?hl ?hc) ⟨?hb, trivial⟩ ?hk ?_
    case hb => repeat (first | exact uE | refine uN (by omega) ?_ | assumption | exact hd _ (by omega) | exact hd60 _ (by omega) | fail)
    case hl => first | exact Nat.le_of_ble_eq_true rfl | decide | (simp; done) | (simp; omega) | (first | (simp; done) | (simp; omega) | omega)
    case hc => first | (simp only [List.set_cons_succ, List.set_cons_zero]; rfl) | rfl
    case hk => omega
    refine runsL_nil ?_
    refine ⟨by exact (if_neg (fun h_ => nomatch h_.1)).symm, by repeat (first | exact uE | refine uN (by omega) ?_ | assumption | exact hd _ (by omega) | exact hd60 _ (by omega) | fail), fun k_ hk_ hl_ => ?_⟩
    simp only [dL, updL, List.map_cons, List.map_nil]; by_cases e0_ : k_ = (n + 2); (focus subst e0_; refine bl_eq ?_; first | (refine' blec ?hb ?hl; (case hb => repeat (first | exact uE | assumption | refine uN (by omega) ?_ | fail)); (case hl => first | exact VLes.refl _ | ((repeat' (first | exact VLe.refl _ | exact VLe.own_sl _ _ _ | exact VLe.fl_sl _ _ | exact VLe.nil_sl _ | exact VLe.nil_fl _ | exact VLes.refl _ | exact .nil | refine VLe.tup ?_ | refine VLe.agg ?_ | refine .cons ?_ ?_ | (rw [Int.natCast_add]; exact VLe.refl _) | exact vle_int (by omega) | exact vle_bool (by first | rfl | assumption | (simp_all; done)) | fail)); done))) | (refine ble ?_; (repeat (first | exact uE | assumption | refine uN (by omega) ?_ | fail)); done)); refine bl_ne e0_ ?_; exact ble (by repeat (first | exact rfl | refine uN (by first | assumption | omega) ?_ | assumption | exact hf60 _ (by omega) (by first | assumption | omega) (by first | assumption | omega) (by first | assumption | omega) | fail))
  · intro bb60 b60 hb60
    simp only [dL, eM, updL, List.map_cons, List.map_nil] at hb60
    subst hb60
    refine runs_seq ?_
    refine runs_draw (by kernel_rfl) (by kernel_rfl) (by kernel_rfl) ?_
    refine' dl0 (gn rfl) rfl rfl (step_load_all rfl rfl F.agg24 ?hl) ⟨?hb, trivial⟩ ?_
    case hb => repeat (first | exact uE | refine uN (by omega) ?_ | assumption | exact hd _ (by omega) | fail)
    case hl => first | rfl | (simp; done) | (first | (simp; done) | (simp; omega) | omega)
    refine dl0 (gn rfl) rfl rfl (step_callc rfl Try.func7 rfl rfl rfl (has_c) (by repeat (first | exact .nil | refine .cons ?_ ?_ | exact VLe.refl _ | exact VLe.own_sl _ _ _ | exact VLe.fl_sl _ _ | exact VLe.nil_sl _ | exact VLe.nil_fl _ | refine VLe.agg ?_))) trivial ?_
    refine dl_know (d := 16) (c := true) rfl ((by decide +kernel)) ?_
    refine dl0 (gn rfl) rfl rfl (step_mv rfl rfl) trivial ?_
    refine' dl0 (gy rfl rfl rfl rfl rfl rfl) rfl rfl (step_load_all rfl rfl F.agg24 ?hl) ⟨?hb, trivial⟩ ?_
    case hb => repeat (first | exact uE | refine uN (by omega) ?_ | assumption | exact hd _ (by omega) | fail)
    case hl => first | rfl | (simp; done) | (first | (simp; done) | (simp; omega) | omega)
    refine dl0 (gy rfl rfl rfl rfl rfl rfl) rfl rfl (step_callc rfl Try.func7 rfl rfl rfl (has_c) (by repeat (first | exact .nil | refine .cons ?_ ?_ | exact VLe.refl _ | exact VLe.own_sl _ _ _ | exact VLe.fl_sl _ _ | exact VLe.nil_sl _ | exact VLe.nil_fl _ | refine VLe.agg ?_))) trivial ?_
    refine dl_know (d := 19) (c := false) rfl ((by decide +kernel)) ?_
    refine dl0 (gy rfl rfl rfl rfl rfl rfl) rfl rfl (step_unOp (c := .bool true) rfl (ev_mk rfl) (fun _ => rfl)) trivial ?_
    refine dl0 (gn rfl) rfl rfl (step_pick rfl (ev_mk rfl) (ev_mk rfl)) trivial ?_
    refine dl0 (gn rfl) rfl rfl (step_mv rfl rfl) trivial ?_
    refine' dl0 (gy rfl rfl rfl rfl rfl rfl) rfl rfl (step_load_all rfl rfl F.agg24 ?hl) ⟨?hb, trivial⟩ ?_
    case hb => repeat (first | exact uE | refine uN (by omega) ?_ | assumption | exact hd _ (by omega) | fail)
    case hl => first | rfl | (simp; done) | (first | (simp; done) | (simp; omega) | omega)
    refine' dl0 (gy rfl rfl rfl rfl rfl rfl) rfl rfl (step_load_all rfl rfl F.agg24 ?hl) ⟨?hb, trivial⟩ ?_
    case hb => repeat (first | exact uE | refine uN (by omega) ?_ | assumption | exact hd _ (by omega) | fail)
    case hl => first | rfl | (simp; done) | (first | (simp; done) | (simp; omega) | omega)
    refine dl0 (gy rfl rfl rfl rfl rfl rfl) rfl rfl (step_callc rfl Try.func8 rfl rfl rfl (meet_c) (by repeat (first | exact .nil | refine .cons ?_ ?_ | exact VLe.refl _ | exact VLe.own_sl _ _ _ | exact VLe.fl_sl _ _ | exact VLe.nil_sl _ | exact VLe.nil_fl _ | refine VLe.agg ?_))) trivial ?_
    refine dl0 (gy rfl rfl rfl rfl rfl rfl) rfl rfl (step_build (ss := [1, 1, 1, 1]) (zs := [.int .u32 0, .int .u32 0, .int .u32 0, .int .u32 0]) rfl Try.underlying24 (by kernel_rfl) F.zero24 rfl rfl rfl) trivial ?_
    refine dl0 (gy rfl rfl rfl rfl rfl rfl) rfl rfl (step_eql24 rfl (ev_mk rfl) (ev_mk rfl)) trivial ?_
    refine dl_know (d := 27) (c := true) rfl ((by decide +kernel)) ?_
    refine dl0 (gn rfl) rfl rfl (step_pick rfl (ev_mk rfl) (ev_mk rfl)) trivial ?_
    refine dl0 (gn rfl) rfl rfl (step_mv rfl rfl) trivial ?_
    refine' dl0 (gy rfl rfl rfl rfl rfl rfl) rfl rfl (step_load_all rfl rfl F.agg24 ?hl) ⟨?hb, trivial⟩ ?_
    case hb => repeat (first | exact uE | refine uN (by omega) ?_ | assumption | exact hd _ (by omega) | fail)
    case hl => first | rfl | (simp; done) | (first | (simp; done) | (simp; omega) | omega)
    refine' dl0 (gy rfl rfl rfl rfl rfl rfl) rfl rfl (step_load_all rfl rfl F.agg24 ?hl) ⟨?hb, trivial⟩ ?_
    case hb => repeat (first | exact uE | refine uN (by omega) ?_ | assumption | exact hd _ (by omega) | fail)
    case hl => first | rfl | (simp; done) | (first | (simp; done) | (simp; omega) | omega)
    refine dl0 (gy rfl rfl rfl rfl rfl rfl) rfl rfl (step_callc rfl Try.func11 rfl rfl rfl (meets_c) (by repeat (first | exact .nil | refine .cons ?_ ?_ | exact VLe.refl _ | exact VLe.own_sl _ _ _ | exact VLe.fl_sl _ _ | exact VLe.nil_sl _ | exact VLe.nil_fl _ | refine VLe.agg ?_))) trivial ?_
    refine dl_know (d := 32) (c := true) rfl ((by decide +kernel)) ?_
    refine dl0 (gn rfl) rfl rfl (step_pick rfl (ev_mk rfl) (ev_mk rfl)) trivial ?_
    refine dl0 (gn rfl) rfl rfl (step_mv rfl rfl) trivial ?_
    refine' dl0 (gy rfl rfl rfl rfl rfl rfl) rfl rfl (step_load_all rfl rfl F.agg24 ?hl) ⟨?hb, trivial⟩ ?_
    case hb => repeat (first | exact uE | refine uN (by omega) ?_ | assumption | exact hd _ (by omega) | fail)
    case hl => first | rfl | (simp; done) | (first | (simp; done) | (simp; omega) | omega)
    refine' dl0 (gy rfl rfl rfl rfl rfl rfl) rfl rfl (step_load_all rfl rfl F.agg24 ?hl) ⟨?hb, trivial⟩ ?_
    case hb => repeat (first | exact uE | refine uN (by omega) ?_ | assumption | exact hd _ (by omega) | fail)
    case hl => first | rfl | (simp; done) | (first | (simp; done) | (simp; omega) | omega)
    refine dl0 (gy rfl rfl rfl rfl rfl rfl) rfl rfl (step_callc rfl Try.func12 rfl rfl rfl (within_c) (by repeat (first | exact .nil | refine .cons ?_ ?_ | exact VLe.refl _ | exact VLe.own_sl _ _ _ | exact VLe.fl_sl _ _ | exact VLe.nil_sl _ | exact VLe.nil_fl _ | refine VLe.agg ?_))) trivial ?_
    refine dl_know (d := 37) (c := false) rfl ((by decide +kernel)) ?_
    refine dl0 (gy rfl rfl rfl rfl rfl rfl) rfl rfl (step_unOp (c := .bool true) rfl (ev_mk rfl) (fun _ => rfl)) trivial ?_
    refine dl0 (gn rfl) rfl rfl (step_pick rfl (ev_mk rfl) (ev_mk rfl)) trivial ?_
    refine dl0 (gn rfl) rfl rfl (step_mv rfl rfl) trivial ?_
    refine' dl0 (gy rfl rfl rfl rfl rfl rfl) rfl rfl (step_load_all rfl rfl F.agg24 ?hl) ⟨?hb, trivial⟩ ?_
    case hb => repeat (first | exact uE | refine uN (by omega) ?_ | assumption | exact hd _ (by omega) | fail)
    case hl => first | rfl | (simp; done) | (first | (simp; done) | (simp; omega) | omega)
    refine dl0 (gy rfl rfl rfl rfl rfl rfl) rfl rfl (step_callc rfl Try.func13 rfl rfl rfl (all_c) (by repeat (first | exact .nil | refine .cons ?_ ?_ | exact VLe.refl _ | exact VLe.own_sl _ _ _ | exact VLe.fl_sl _ _ | exact VLe.nil_sl _ | exact VLe.nil_fl _ | refine VLe.agg ?_))) trivial ?_
    refine dl0 (gy rfl rfl rfl rfl rfl rfl) rfl rfl (step_callc rfl Try.func12 rfl rfl rfl (within_c) (by repeat (first | exact .nil | refine .cons ?_ ?_ | exact VLe.refl _ | exact VLe.own_sl _ _ _ | exact VLe.fl_sl _ _ | exact VLe.nil_sl _ | exact VLe.nil_fl _ | refine VLe.agg ?_))) trivial ?_
    refine dl_know (d := 43) (c := true) rfl ((by decide +kernel)) ?_
    refine dl0 (gn rfl) rfl rfl (step_pick rfl (ev_mk rfl) (ev_mk rfl)) trivial ?_
    refine dl0 (gn rfl) rfl rfl (step_mv rfl rfl) trivial ?_
    refine dl0 (gy rfl rfl rfl rfl rfl rfl) rfl rfl (step_callc rfl Try.func15 rfl rfl rfl (tile_c (x := 536870912) (y := 1073741824) (by omega) (by omega)) (by repeat (first | exact .nil | refine .cons ?_ ?_ | exact VLe.refl _ | exact VLe.own_sl _ _ _ | exact VLe.fl_sl _ _ | exact VLe.nil_sl _ | exact VLe.nil_fl _ | refine VLe.agg ?_))) trivial ?_
    refine dl_eql (gy rfl rfl rfl rfl rfl rfl) rfl rfl rfl rfl rfl (fun h1 => ?_) (fun h1 => ?_)
    rotate_left
    · exact False.elim (by exact h1 (by decide +kernel))
    refine dl0 (gn rfl) rfl rfl (step_pick rfl (ev_mk rfl) (ev_mk rfl)) trivial ?_
    refine dl0 (gn rfl) rfl rfl (step_mv rfl rfl) trivial ?_
    refine dl0 (gy rfl rfl rfl rfl rfl rfl) rfl rfl (step_callc rfl Try.func17 rfl rfl rfl (of_c) (by repeat (first | exact .nil | refine .cons ?_ ?_ | exact VLe.refl _ | exact VLe.own_sl _ _ _ | exact VLe.fl_sl _ _ | exact VLe.nil_sl _ | exact VLe.nil_fl _ | refine VLe.agg ?_))) trivial ?_
    refine dl0 (gy rfl rfl rfl rfl rfl rfl) rfl rfl (step_build (ss := [1, 1, 1, 1]) (zs := [.int .u32 0, .int .u32 0, .int .u32 0, .int .u32 0]) rfl Try.underlying24 (by kernel_rfl) F.zero24 rfl rfl rfl) trivial ?_
    refine dl0 (gy rfl rfl rfl rfl rfl rfl) rfl rfl (step_eql24 rfl (ev_mk rfl) (ev_mk rfl)) trivial ?_
    refine dl_know (d := 52) (c := true) rfl ((by decide +kernel)) ?_
    refine dl0 (gn rfl) rfl rfl (step_pick rfl (ev_mk rfl) (ev_mk rfl)) trivial ?_
    refine dl0 (gn rfl) rfl rfl (step_mv rfl rfl) trivial ?_
    refine' dl0 (gy rfl rfl rfl rfl rfl rfl) rfl rfl (step_load_one rfl (ev_mk rfl) F.one3 ?hv) ⟨?hb, trivial⟩ ?_
    case hb => repeat (first | exact uE | refine uN (by omega) ?_ | assumption | exact hd _ (by omega) | fail)
    case hv => rfl
    refine dl_eql (gy rfl rfl rfl rfl rfl rfl) rfl rfl rfl rfl rfl (fun h2 => ?_) (fun h2 => ?_)
    rotate_left
    · exact False.elim (by omega)
    refine dl0 (gn rfl) rfl rfl (step_pick rfl (ev_mk rfl) (ev_mk rfl)) trivial ?_
    refine dl0 (gn rfl) rfl rfl (step_mv rfl rfl) trivial ?_
    refine dl0 (gy rfl rfl rfl rfl rfl rfl) rfl rfl (step_callc rfl Try.func13 rfl rfl rfl (all_c) (by repeat (first | exact .nil | refine .cons ?_ ?_ | exact VLe.refl _ | exact VLe.own_sl _ _ _ | exact VLe.fl_sl _ _ | exact VLe.nil_sl _ | exact VLe.nil_fl _ | refine VLe.agg ?_))) trivial ?_
    refine dl0 (gy rfl rfl rfl rfl rfl rfl) rfl rfl (step_callc rfl Try.func20 rfl rfl rfl (cnt_c (a := 0) (b := 0) (c := 4294967295) (d := 4294967295) (by omega) (by omega) (by omega) (by omega)) (by repeat (first | exact .nil | refine .cons ?_ ?_ | exact VLe.refl _ | exact VLe.own_sl _ _ _ | exact VLe.fl_sl _ _ | exact VLe.nil_sl _ | exact VLe.nil_fl _ | refine VLe.agg ?_))) trivial ?_
    refine dl_eql (gy rfl rfl rfl rfl rfl rfl) rfl rfl rfl rfl rfl (fun h3 => ?_) (fun h3 => ?_)
    rotate_left
    · exact False.elim (by exact h3 (by decide +kernel))
    refine dl0 (gn rfl) rfl rfl (step_pick rfl (ev_mk rfl) (ev_mk rfl)) trivial ?_
    refine dl0 (gn rfl) rfl rfl (step_mv rfl rfl) trivial ?_
    refine dl0 (gy rfl rfl rfl rfl rfl rfl) rfl rfl (step_callc rfl Try.func17 rfl rfl rfl (of_c) (by repeat (first | exact .nil | refine .cons ?_ ?_ | exact VLe.refl _ | exact VLe.own_sl _ _ _ | exact VLe.fl_sl _ _ | exact VLe.nil_sl _ | exact VLe.nil_fl _ | refine VLe.agg ?_))) trivial ?_
    refine dl0 (gy rfl rfl rfl rfl rfl rfl) rfl rfl (step_callc rfl Try.func10 rfl rfl rfl (emp_c) (by repeat (first | exact .nil | refine .cons ?_ ?_ | exact VLe.refl _ | exact VLe.own_sl _ _ _ | exact VLe.fl_sl _ _ | exact VLe.nil_sl _ | exact VLe.nil_fl _ | refine VLe.agg ?_))) trivial ?_
    refine dl_know (d := 65) (c := true) rfl ((by decide +kernel)) ?_
    refine dl0 (gn rfl) rfl rfl (step_pick rfl (ev_mk rfl) (ev_mk rfl)) trivial ?_
    refine dl0 (gn rfl) rfl rfl (step_mv rfl rfl) trivial ?_
    refine' dl0 (gy rfl rfl rfl rfl rfl rfl) rfl rfl (step_load_all rfl rfl F.agg24 ?hl) ⟨?hb, trivial⟩ ?_
    case hb => repeat (first | exact uE | refine uN (by omega) ?_ | assumption | exact hd _ (by omega) | fail)
    case hl => first | rfl | (simp; done) | (first | (simp; done) | (simp; omega) | omega)
    refine' dl0 (gy rfl rfl rfl rfl rfl rfl) rfl rfl (step_load_all rfl rfl F.agg24 ?hl) ⟨?hb, trivial⟩ ?_
    case hb => repeat (first | exact uE | refine uN (by omega) ?_ | assumption | exact hd _ (by omega) | fail)
    case hl => first | rfl | (simp; done) | (first | (simp; done) | (simp; omega) | omega)
    refine dl0 (gy rfl rfl rfl rfl rfl rfl) rfl rfl (step_callc rfl Try.func9 rfl rfl rfl (hull_c (a := 2) (b := 2) (c := 5) (d := 5) (e := 5) (f := 0) (p := 9) (q := 3) (by decide +kernel) (by decide +kernel)) (by repeat (first | exact .nil | refine .cons ?_ ?_ | exact VLe.refl _ | exact VLe.own_sl _ _ _ | exact VLe.fl_sl _ _ | exact VLe.nil_sl _ | exact VLe.nil_fl _ | refine VLe.agg ?_))) trivial ?_
    refine dl0 (gy rfl rfl rfl rfl rfl rfl) rfl rfl (step_build (ss := [1, 1, 1, 1]) (zs := [.int .u32 0, .int .u32 0, .int .u32 0, .int .u32 0]) rfl Try.underlying24 (by kernel_rfl) F.zero24 rfl rfl rfl) trivial ?_
    refine dl0 (gy rfl rfl rfl rfl rfl rfl) rfl rfl (step_eql24 rfl (ev_mk rfl) (ev_mk rfl)) trivial ?_
    refine dl_know (d := 72) (c := true) rfl ((by decide +kernel)) ?_
    refine dl0 (gn rfl) rfl rfl (step_pick rfl (ev_mk rfl) (ev_mk rfl)) trivial ?_
    refine dl0 (gn rfl) rfl rfl (step_as rfl rfl) trivial ?_
    refine dlnil ?_ ?_
    · repeat' (first | exact trivial | exact .inr (ap0 _ _ _ _) | exact .inr (ap2 _ _ _ _) | exact .inr (ap3 _ _ _ _) | exact .inr ⟨by first | (simp; done) | (simp; omega), by first | (simp; done) | (simp; omega)⟩ | exact .inl (by kernel_rfl) | refine ⟨?_, ?_⟩ | fail)
    refine runs_ret ?_
    refine ⟨by first | exact .inr rfl | exact .inl rfl, fin_mkg (rest rfl res0) ?_ ?_ ?_ ?_ ?_⟩
    · (repeat' (first | exact VLe.refl _ | exact VLe.own_sl _ _ _ | exact VLe.fl_sl _ _ | exact VLe.nil_sl _ | exact VLe.nil_fl _ | exact VLes.refl _ | exact .nil | refine VLe.tup ?_ | refine VLe.agg ?_ | refine .cons ?_ ?_ | (rw [Int.natCast_add]; exact VLe.refl _) | exact vle_int (by omega) | exact vle_bool (by first | rfl | assumption | (simp_all; done)) | fail))
    · repeat (first | exact trivial | assumption | omega | (refine bdR_map (fun _ => ?_)) | (refine bdL_map (fun _ => ?_)) | refine ⟨?_, ?_⟩ | fail)
    · intro k_ hk_; exact ble (by repeat (first | exact rfl | refine uN (by omega) ?_ | assumption | fail))
    · intro p hp; cases hp
    · repeat (first | exact trivial | assumption | omega | (refine bdR_map (fun _ => ?_)) | (refine bdL_map (fun _ => ?_)) | refine ⟨?_, ?_⟩ | fail)
set_option maxRecDepth 100000 in
set_option maxHeartbeats 4000000 in
theorem tiles_c {a b c d x y t : Int} (g0 : 0 ≤ a ∧ a ≤ 4294967295) (g1 : 0 ≤ b ∧ b ≤ 4294967295) (g2 : 0 ≤ c ∧ c ≤ 4294967295) (g3 : 0 ≤ d ∧ d ≤ 4294967295) (hx : 0 ≤ x ∧ x ≤ 4294967295) (hy : 0 ≤ y ∧ y ≤ 4294967295) (hw : Does Try.prog 14 [] [] [] (.sc (.bool true))) : Does Try.prog 5 [.agg (rcC a b c d), .sc (.int .u32 x), .sc (.int .u32 y), .sc (.int .i64 t)] [] [] (.sc (.bool true)) := by
  refine does_mkr 40 Try.func5 rfl rfl rfl (fun n B bx hd hpre hup hvs hbx hgx hO => ?_)
  have hlen := tou_len g0 g1 g2 g3
  have hti := ti_bd hx hy
  refine runs_seq ?_
  refine runs_region ?_
  refine rl1 (gn rfl) rfl rfl (step_box_agg (k := n + 0) rfl rfl) ⟨by repeat (first | exact uE | refine uN (by omega) ?_ | assumption | exact hd _ (by omega) | fail), trivial⟩ (by omega) ?_
  refine rl1 (gn rfl) rfl rfl (step_allocc (k := n + 1) (zs := [.bool false]) (cs := [.sc (.bool false)]) rfl F.zero4 (by first | rfl | simp) (by first | rfl | decide | simp) (by first | rfl | simp)) ⟨by repeat (first | exact uE | refine uN (by omega) ?_ | assumption | exact hd _ (by omega) | fail), trivial⟩ (by omega) ?_
  refine runsL_nil ?_
  refine runs_seq ?_
  refine runs_region ?_
  refine rl0 (gn rfl) rfl rfl (step_mv rfl rfl) trivial ?_
  refine rl0 (gn rfl) rfl rfl (step_mv rfl rfl) trivial ?_
  refine rl0 (gn rfl) rfl rfl (step_callc rfl Try.func15 rfl rfl rfl (tile_c hx hy) (by repeat (first | exact .nil | refine .cons ?_ ?_ | exact VLe.refl _ | exact VLe.own_sl _ _ _ | exact VLe.fl_sl _ _ | exact VLe.nil_sl _ | exact VLe.nil_fl _ | refine VLe.agg ?_))) trivial ?_
  refine rl1 (gn rfl) rfl rfl (step_allocc (k := n + 2) (zs := [.int .i64 0]) (cs := [.sc (.int .i64 0)]) rfl F.zero3 (by first | rfl | simp) (by first | rfl | decide | simp) (by first | rfl | simp)) ⟨by repeat (first | exact uE | refine uN (by omega) ?_ | assumption | exact hd _ (by omega) | fail), trivial⟩ (by omega) ?_
  refine' rls (gn rfl) rfl (step_store1 rfl rfl rfl rfl F.one3 rfl rfl ?hl ?hc) ⟨?hb, trivial⟩ ?hk ?_
  case hb => repeat (first | exact uE | refine uN (by omega) ?_ | assumption | exact hd _ (by omega) | fail)
  case hl => first | exact Nat.le_of_ble_eq_true rfl | decide | (simp; done) | (simp; omega) | (first | (simp; done) | (simp; omega) | omega)
  case hc => first | (simp only [List.set_cons_succ, List.set_cons_zero]; rfl) | rfl
  case hk => omega
  refine runsL_nil ?_
  refine runs_seq ?_
  refine runs_seq ?_
  refine runs_draw (by kernel_rfl) (by kernel_rfl) (by kernel_rfl) ?_
  refine' dl0 (gn rfl) rfl rfl (step_load_one rfl (ev_mk rfl) F.one3 ?hv) ⟨?hb, trivial⟩ ?_
  case hb => repeat (first | exact uE | refine uN (by omega) ?_ | assumption | exact hd _ (by omega) | fail)
  case hv => rfl
  refine dl0 (gn rfl) rfl rfl (step_mv rfl rfl) trivial ?_
  refine dl0 (gn rfl) rfl rfl (step_mv rfl rfl) trivial ?_
  refine dl0 (gn rfl) rfl rfl (step_callc rfl Try.func16 rfl rfl rfl (rtile_c hx hy) (by repeat (first | exact .nil | refine .cons ?_ ?_ | exact VLe.refl _ | exact VLe.own_sl _ _ _ | exact VLe.fl_sl _ _ | exact VLe.nil_sl _ | exact VLe.nil_fl _ | refine VLe.agg ?_))) trivial ?_
  refine dl_neq (gn rfl) rfl rfl rfl rfl rfl (fun h1 => ?_) (fun h1 => ?_)
  · exact False.elim (by omega)
  refine dl0 (gn rfl) rfl rfl (step_mv rfl rfl) trivial ?_
  refine' dl0 (gy rfl rfl rfl rfl rfl rfl) rfl rfl (step_load_one rfl (ev_mk rfl) F.one3 ?hv) ⟨?hb, trivial⟩ ?_
  case hb => repeat (first | exact uE | refine uN (by omega) ?_ | assumption | exact hd _ (by omega) | fail)
  case hv => rfl
  refine dl_lss (gy rfl rfl rfl rfl rfl rfl) rfl rfl rfl rfl rfl (fun h2 => ?_) (fun h2 => ?_)
  · exact False.elim (by omega)
  refine dl0 (gn rfl) rfl rfl (step_pick rfl (ev_mk rfl) (ev_mk rfl)) trivial ?_
  refine dl0 (gn rfl) rfl rfl (step_mv rfl rfl) trivial ?_
  refine' dl0 (gy rfl rfl rfl rfl rfl rfl) rfl rfl (step_load_one rfl (ev_mk rfl) F.one3 ?hv) ⟨?hb, trivial⟩ ?_
  case hb => repeat (first | exact uE | refine uN (by omega) ?_ | assumption | exact hd _ (by omega) | fail)
  case hv => rfl
  refine dl_gtr (gy rfl rfl rfl rfl rfl rfl) rfl rfl rfl rfl rfl (fun h3 => ?_) (fun h3 => ?_)
  · exact False.elim (by omega)
  refine dl0 (gn rfl) rfl rfl (step_pick rfl (ev_mk rfl) (ev_mk rfl)) trivial ?_
  refine dl0 (gn rfl) rfl rfl (step_mv rfl rfl) trivial ?_
  refine' dl0 (gy rfl rfl rfl rfl rfl rfl) rfl rfl (step_load_one rfl (ev_mk rfl) F.one3 ?hv) ⟨?hb, trivial⟩ ?_
  case hb => repeat (first | exact uE | refine uN (by omega) ?_ | assumption | exact hd _ (by omega) | fail)
  case hv => rfl
  refine dl0 (gy rfl rfl rfl rfl rfl rfl) rfl rfl (step_callc rfl Try.func17 rfl rfl rfl (of_c) (by repeat (first | exact .nil | refine .cons ?_ ?_ | exact VLe.refl _ | exact VLe.own_sl _ _ _ | exact VLe.fl_sl _ _ | exact VLe.nil_sl _ | exact VLe.nil_fl _ | refine VLe.agg ?_))) trivial ?_
  refine dl0 (gy rfl rfl rfl rfl rfl rfl) rfl rfl (step_mv rfl rfl) trivial ?_
  refine dl0 (gy rfl rfl rfl rfl rfl rfl) rfl rfl (step_mv rfl rfl) trivial ?_
  refine dl0 (gy rfl rfl rfl rfl rfl rfl) rfl rfl (step_callc rfl Try.func7 rfl rfl rfl (has_c) (by repeat (first | exact .nil | refine .cons ?_ ?_ | exact VLe.refl _ | exact VLe.own_sl _ _ _ | exact VLe.fl_sl _ _ | exact VLe.nil_sl _ | exact VLe.nil_fl _ | refine VLe.agg ?_))) trivial ?_
  refine dl_know (d := 36) (c := true) rfl (by rw [has_of hx hy]; simp) ?_
  refine dl0 (gy rfl rfl rfl rfl rfl rfl) rfl rfl (step_unOp (c := .bool false) rfl (ev_mk rfl) (fun _ => rfl)) trivial ?_
  refine dl0 (gn rfl) rfl rfl (step_pick rfl (ev_mk rfl) (ev_mk rfl)) trivial ?_
  refine dlnil ?_ ?_
  · repeat' (first | exact trivial | exact .inr (ap0 _ _ _ _) | exact .inr (ap2 _ _ _ _) | exact .inr (ap3 _ _ _ _) | exact .inr ⟨by first | (simp; done) | (simp; omega), by first | (simp; done) | (simp; omega)⟩ | exact .inl (by kernel_rfl) | refine ⟨?_, ?_⟩ | fail)
  refine runs_cond false (ev_mk rfl) (fun h_ => nomatch h_) (fun _ => ?_)
  refine runs_skip ?_
  refine runs_seq ?_
  refine runs_seq ?_
  refine runs_draw (by kernel_rfl) (by kernel_rfl) (by kernel_rfl) ?_
  refine dl0 (gn rfl) rfl rfl (step_mv rfl rfl) trivial ?_
  refine dl_lss (gn rfl) rfl rfl rfl rfl rfl (fun h4 => ?_) (fun h4 => ?_)
  · skip
    refine dl0 (gn rfl) rfl rfl (step_mv rfl rfl) trivial ?_
    refine dlk rfl rfl rfl rfl rfl (ngb rfl rfl) rfl rfl ?_
    refine dlk rfl rfl rfl rfl rfl (ngb rfl rfl) rfl rfl ?_
    refine dl0 (gn rfl) rfl rfl (step_pick rfl (ev_mk rfl) (ev_mk rfl)) trivial ?_
    refine dl0 (gn rfl) rfl rfl (step_mv rfl rfl) trivial ?_
    refine dl0 (gn rfl) rfl rfl (step_callc rfl Try.func17 rfl rfl rfl (of_c) (by repeat (first | exact .nil | refine .cons ?_ ?_ | exact VLe.refl _ | exact VLe.own_sl _ _ _ | exact VLe.fl_sl _ _ | exact VLe.nil_sl _ | exact VLe.nil_fl _ | refine VLe.agg ?_))) trivial ?_
    refine dl0 (gn rfl) rfl rfl (step_callc rfl Try.func10 rfl rfl rfl (emp_c) (by repeat (first | exact .nil | refine .cons ?_ ?_ | exact VLe.refl _ | exact VLe.own_sl _ _ _ | exact VLe.fl_sl _ _ | exact VLe.nil_sl _ | exact VLe.nil_fl _ | refine VLe.agg ?_))) trivial ?_
    refine dl_know (d := 47) (c := true) rfl (by rw [em_of]; exact decide_eq_true (by omega)) ?_
    refine dl0 (gn rfl) rfl rfl (step_binOp (c := .bool false) rfl (ev_mk rfl) (ev_mk rfl) (fun _ => rfl)) trivial ?_
    refine dl0 (gn rfl) rfl rfl (step_mv rfl rfl) trivial ?_
    refine dl0 (gy rfl rfl rfl rfl rfl rfl) rfl rfl (step_mv rfl rfl) trivial ?_
    refine dl0 (gy rfl rfl rfl rfl rfl rfl) rfl rfl (step_callc rfl Try.func17 rfl rfl rfl (of_c) (by repeat (first | exact .nil | refine .cons ?_ ?_ | exact VLe.refl _ | exact VLe.own_sl _ _ _ | exact VLe.fl_sl _ _ | exact VLe.nil_sl _ | exact VLe.nil_fl _ | refine VLe.agg ?_))) trivial ?_
    refine dl0 (gy rfl rfl rfl rfl rfl rfl) rfl rfl (step_mv rfl rfl) trivial ?_
    refine dl0 (gy rfl rfl rfl rfl rfl rfl) rfl rfl (step_mv rfl rfl) trivial ?_
    refine dl0 (gy rfl rfl rfl rfl rfl rfl) rfl rfl (step_callc rfl Try.func7 rfl rfl rfl (has_c) (by repeat (first | exact .nil | refine .cons ?_ ?_ | exact VLe.refl _ | exact VLe.own_sl _ _ _ | exact VLe.fl_sl _ _ | exact VLe.nil_sl _ | exact VLe.nil_fl _ | refine VLe.agg ?_))) trivial ?_
    refine dl0 (gy rfl rfl rfl rfl rfl rfl) rfl rfl (step_mv rfl rfl) trivial ?_
    refine' dl0 (gy rfl rfl rfl rfl rfl rfl) rfl rfl (step_load_one rfl (ev_mk rfl) F.one3 ?hv) ⟨?hb, trivial⟩ ?_
    case hb => repeat (first | exact uE | refine uN (by omega) ?_ | assumption | exact hd _ (by omega) | fail)
    case hv => rfl
    refine dl_eql (gy rfl rfl rfl rfl rfl rfl) rfl rfl rfl rfl rfl (fun h5 => ?_) (fun h5 => ?_)
    · skip
      refine dl0 (gy rfl rfl rfl rfl rfl rfl) rfl rfl (step_neqb rfl (ev_mk rfl) (ev_mk rfl) Try.underlying4) trivial ?_
      refine dl0 (gn rfl) rfl rfl (step_pick rfl (ev_mk rfl) (ev_mk rfl)) trivial ?_
      refine dlnil ?_ ?_
      · repeat' (first | exact trivial | exact .inr (ap0 _ _ _ _) | exact .inr (ap2 _ _ _ _) | exact .inr (ap3 _ _ _ _) | exact .inr ⟨by first | (simp; done) | (simp; omega), by first | (simp; done) | (simp; omega)⟩ | exact .inl (by kernel_rfl) | refine ⟨?_, ?_⟩ | fail)
      refine runs_cond _ (ev_mk rfl) (fun h6 => ?_) (fun h6 => ?_)
      · skip
        exact False.elim (by (rw [has_of hx hy] at h6; simp_all))
      · skip
        refine runs_skip ?_
        refine runs_seq ?_
        refine runs_region ?_
        refine' rl0 (gn rfl) rfl rfl (step_load_all rfl rfl F.agg24 ?hl) ⟨?hb, trivial⟩ ?_
        case hb => repeat (first | exact uE | refine uN (by omega) ?_ | assumption | exact hd _ (by omega) | fail)
        case hl => first | rfl | (simp; done) | (first | (simp; done) | (simp; omega) | omega)
        refine rl0 (gn rfl) rfl rfl (step_callc rfl Try.func18 rfl rfl rfl (rtou2 g0 g1 g2 g3) (by repeat (first | exact .nil | refine .cons ?_ ?_ | exact VLe.refl _ | exact VLe.own_sl _ _ _ | exact VLe.fl_sl _ _ | exact VLe.nil_sl _ | exact VLe.nil_fl _ | refine VLe.agg ?_))) trivial ?_
        refine rl1 (gn rfl) rfl rfl (step_allocc (k := n + 3) (zs := [.slice none 0 0]) (cs := [.sc (.slice none 0 0)]) rfl F.zero35 (by first | rfl | simp) (by first | rfl | decide | simp) (by first | rfl | simp)) ⟨by repeat (first | exact uE | refine uN (by omega) ?_ | assumption | exact hd _ (by omega) | fail), trivial⟩ (by omega) ?_
        refine' rls (gn rfl) rfl (step_store1 rfl rfl rfl rfl F.one35 rfl rfl ?hl ?hc) ⟨?hb, trivial⟩ ?hk ?_
        case hb => repeat (first | exact uE | refine uN (by omega) ?_ | assumption | exact hd _ (by omega) | fail)
        case hl => first | exact Nat.le_of_ble_eq_true rfl | decide | (simp; done) | (simp; omega) | (first | (simp; done) | (simp; omega) | omega)
        case hc => first | (simp only [List.set_cons_succ, List.set_cons_zero]; rfl) | rfl
        case hk => omega
        refine runsL_nil ?_
        refine runs_seq ?_
        refine runs_region ?_
        refine rl1 (gn rfl) rfl rfl (step_allocc (k := n + 4) (zs := [.int .i64 0]) (cs := [.sc (.int .i64 0)]) rfl F.zero3 (by first | rfl | simp) (by first | rfl | decide | simp) (by first | rfl | simp)) ⟨by repeat (first | exact uE | refine uN (by omega) ?_ | assumption | exact hd _ (by omega) | fail), trivial⟩ (by omega) ?_
        refine' rls (gn rfl) rfl (step_store1 rfl rfl rfl rfl F.one3 rfl rfl ?hl ?hc) ⟨?hb, trivial⟩ ?hk ?_
        case hb => repeat (first | exact uE | refine uN (by omega) ?_ | assumption | exact hd _ (by omega) | fail)
        case hl => first | exact Nat.le_of_ble_eq_true rfl | decide | (simp; done) | (simp; omega) | (first | (simp; done) | (simp; omega) | omega)
        case hc => first | (simp only [List.set_cons_succ, List.set_cons_zero]; rfl) | rfl
        case hk => omega
        refine runsL_nil ?_
        refine runs_seq ?_
        refine runs_region ?_
        refine rl1 (gn rfl) rfl rfl (step_allocc (k := n + 5) (zs := [.bool false]) (cs := [.sc (.bool false)]) rfl F.zero4 (by first | rfl | simp) (by first | rfl | decide | simp) (by first | rfl | simp)) ⟨by repeat (first | exact uE | refine uN (by omega) ?_ | assumption | exact hd _ (by omega) | fail), trivial⟩ (by omega) ?_
        refine' rls (gn rfl) rfl (step_store1 rfl rfl rfl rfl F.one4 rfl rfl ?hl ?hc) ⟨?hb, trivial⟩ ?hk ?_
        case hb => repeat (first | exact uE | refine uN (by omega) ?_ | assumption | exact hd _ (by omega) | fail)
        case hl => first | exact Nat.le_of_ble_eq_true rfl | decide | (simp; done) | (simp; omega) | (first | (simp; done) | (simp; omega) | omega)
        case hc => first | (simp only [List.set_cons_succ, List.set_cons_zero]; rfl) | rfl
        case hk => omega
        refine runsL_nil ?_
        refine runs_seq ?_
        refine runs_region ?_
        refine' rl0 (gn rfl) rfl rfl (step_load_all rfl rfl F.agg24 ?hl) ⟨?hb, trivial⟩ ?_
        case hb => repeat (first | exact uE | refine uN (by omega) ?_ | assumption | exact hd _ (by omega) | fail)
        case hl => first | rfl | (simp; done) | (first | (simp; done) | (simp; omega) | omega)
        refine rl1 (gn rfl) rfl rfl (step_callc rfl Try.func19 rfl rfl rfl (tou_c (kk := (n + 6))) (by repeat (first | exact .nil | refine .cons ?_ ?_ | exact VLe.refl _ | exact VLe.own_sl _ _ _ | exact VLe.fl_sl _ _ | exact VLe.nil_sl _ | exact VLe.nil_fl _ | refine VLe.agg ?_))) ⟨by repeat (first | exact uE | refine uN (by omega) ?_ | assumption | exact hd _ (by omega) | fail), trivial⟩ (by omega) ?_
        refine rl0 (gn rfl) rfl rfl (step_as rfl rfl) trivial ?_
        refine runsL_nil ?_
        refine runs_seq ?_
        refine runs_seq ?_
        refine runs_region ?_
        refine rl0 (gn rfl) rfl rfl (step_mv rfl rfl) trivial ?_
        refine rl0 (gn rfl) rfl rfl (step_eq_nilf (b := false) rfl (ev_mk rfl) (ev_mk rfl) Try.underlying38 ⟨_, .inl ⟨.inl ⟨_, _, rfl⟩, rfl⟩, .inl ⟨rfl, rfl⟩⟩) trivial ?_
        refine runsL_nil ?_
        refine runs_cond false (ev_mk rfl) (fun h_ => nomatch h_) (fun _ => ?_)
        refine runs_skip ?_
        refine runs_seq ?_
        refine runs_seq ?_
        refine runs_region ?_
        refine rl0 (gn rfl) rfl rfl (step_mv rfl rfl) trivial ?_
        refine runsL_nil ?_
        refine runs_block ?_
        refine runs_rangeL (f := 22) (caps := [.ref (n + 6) 0]) (xs := (touL a b c d).map enT) (Dl := [(n + 4, fun i60 => .cells [.sc (.int .i64 (i60 : Nat))]), (n + 5, fun i60 => .cells [.sc (.bool (metF a b c d x y i60))])]) (El := [(n + 6, .cells (rcC a b c d), fun m_ b_ => .cells (rcC a b c d))]) (kl := n + 7) (m := (touL a b c d).length) (brk := false) (ex := .normal) hO rfl (.inl rfl) Try.func22 rfl rfl (tou_i g0 g1 g2 g3) (by repeat (first | exact uE | refine uN (by omega) ?_ | assumption | exact hd _ (by omega) | fail)) (by omega) (by simp) (fun h_ => nomatch h_) (fun _ => ⟨by simp, rfl⟩) (fun v_ hv_ => by obtain ⟨_, _, rfl⟩ := List.mem_map.1 hv_; rfl) rfl ⟨⟨by dsimp only; omega, trivial⟩, ⟨trivial, trivial⟩⟩ ⟨⟨by dsimp only; omega, by dsimp only; omega, ⟨by dsimp only; omega, trivial⟩, by dsimp only; (first | ((repeat (first | exact uE | assumption | refine uN (by omega) ?_ | fail)); done) | (refine Eq.trans (b := .cells [.sc (.int .i64 0)]) (by repeat (first | exact uE | assumption | refine uN (by omega) ?_ | fail)) ?_; first | rfl | (simp; done)))⟩, ⟨by dsimp only; omega, by dsimp only; omega, ⟨by dsimp only; omega, trivial⟩, by dsimp only; (first | ((repeat (first | exact uE | assumption | refine uN (by omega) ?_ | fail)); done) | (refine Eq.trans (b := .cells [.sc (.bool false)]) (by repeat (first | exact uE | assumption | refine uN (by omega) ?_ | fail)) ?_; first | rfl | (simp; done)))⟩, trivial⟩ ⟨⟨by dsimp only; omega, by dsimp only; omega, by dsimp only; repeat (first | exact uE | refine uN (by omega) ?_ | assumption | exact hd _ (by omega) | fail)⟩, trivial⟩ (fun i60 => ⟨bdb_cells (by repeat (first | exact trivial | assumption | omega | (refine bdR_map (fun _ => ?_)) | (refine bdL_map (fun _ => ?_)) | refine ⟨?_, ?_⟩ | fail)), bdb_cells (by repeat (first | exact trivial | assumption | omega | (refine bdR_map (fun _ => ?_)) | (refine bdL_map (fun _ => ?_)) | refine ⟨?_, ?_⟩ | fail)), trivial⟩) ⟨bdb_cells (by repeat (first | exact trivial | assumption | omega | (refine bdR_map (fun _ => ?_)) | (refine bdL_map (fun _ => ?_)) | refine ⟨?_, ?_⟩ | fail)), trivial⟩ ?_ ?_
        · intro i60 v60 hi60 hv60 B60 n60 lr60 bx60 hR60 hl60 hk60 ho60 he60 hn60 hd60 hD60 hfr60
          have hf60 : ∀ k_, k_ < _ → k_ ≠ n + 4 → k_ ≠ n + 5 → k_ ≠ n + 6 → k_ ≠ n + 7 → bx60 k_ = _ := fun k_ a_ e0_ e1_ e2_ e3_ => hfr60 k_ a_ ⟨e0_, e1_, e2_, trivial⟩ e3_
          have hb60_0 : bx60 (n + 4) = .cells [.sc (.int .i64 (i60 : Nat))] := hD60.1
          have hb60_1 : bx60 (n + 5) = .cells [.sc (.bool (metF a b c d x y i60))] := hD60.2.1
          have hc60_0 : bx60 (n + 0) = .cells [.sc (.int .u32 a), .sc (.int .u32 b), .sc (.int .u32 c), .sc (.int .u32 d)] := (hf60 _ (by omega) (by omega) (by omega) (by omega) (by omega)).trans (by repeat (first | exact uE | refine uN (by omega) ?_ | assumption | exact hd _ (by omega) | fail))
          have hc60_1 : bx60 (n + 1) = .cells [.sc (.bool false)] := (hf60 _ (by omega) (by omega) (by omega) (by omega) (by omega)).trans (by repeat (first | exact uE | refine uN (by omega) ?_ | assumption | exact hd _ (by omega) | fail))
          have hc60_2 : bx60 (n + 2) = .cells [.sc (.int .i64 (tiF x y))] := (hf60 _ (by omega) (by omega) (by omega) (by omega) (by omega)).trans (by repeat (first | exact uE | refine uN (by omega) ?_ | assumption | exact hd _ (by omega) | fail))
          have hc60_3 : bx60 (n + 3) = .cells [.sl 1 ((touL a b c d).map enT)] := (hf60 _ (by omega) (by omega) (by omega) (by omega) (by omega)).trans (by repeat (first | exact uE | refine uN (by omega) ?_ | assumption | exact hd _ (by omega) | fail))
          obtain ⟨t60, ht60, rfl⟩ := map_get hv60
          refine runs_keep (l' := [(67, .sc (.int .i64 t60)), (4, .ref (n + 0) 0), (8, .ref (n + 1) 0), (9, .ref (n + 2) 0), (10, .ref (n + 3) 0), (11, .ref (n + 4) 0), (12, .ref (n + 5) 0)]) ?_ ?_
          · (repeat' (first | exact trivial | refine ⟨⟨_, rfl, ?_⟩, ?_⟩ | fail)); all_goals (repeat' (first | exact VLe.refl _ | exact VLe.own_sl _ _ _ | exact VLe.fl_sl _ _ | exact VLe.nil_sl _ | exact VLe.nil_fl _ | exact VLes.refl _ | exact .nil | refine VLe.tup ?_ | refine VLe.agg ?_ | refine .cons ?_ ?_ | (rw [Int.natCast_add]; exact VLe.refl _) | exact vle_int (by omega) | exact vle_bool (by first | rfl | assumption | (simp_all; done)) | fail))
          refine runs_bump 40 ?_
          refine runs_region ?_
          refine rl0 (gn rfl) rfl rfl (step_as rfl rfl) trivial ?_
          refine runsL_nil ?_
          refine ⟨rfl, by first | rfl | (repeat (first | exact uE | refine uN (by omega) ?_ | assumption | exact hd _ (by omega) | exact hd60 _ (by omega) | fail)), fun r60 => ?_⟩
          show Runs _ _ _ _ ⟨mk _, _ + _, upd _ _ _⟩ _
          refine runs_block ?_
          refine runs_seq ?_
          refine runs_seq ?_
          refine runs_draw (by kernel_rfl) (by kernel_rfl) (by kernel_rfl) ?_
          refine' dl0 (gn rfl) rfl rfl (step_load_one rfl (ev_mk rfl) F.one3 ?hv) ⟨?hb, trivial⟩ ?_
          case hb => repeat (first | exact uE | refine uN (by omega) ?_ | assumption | exact hd _ (by omega) | exact hd60 _ (by omega) | fail)
          case hv => rfl
          refine' dl0 (gn rfl) rfl rfl (step_load_one rfl (ev_mk rfl) F.one35 ?hv) ⟨?hb, trivial⟩ ?_
          case hb => repeat (first | exact uE | refine uN (by omega) ?_ | assumption | exact hd _ (by omega) | exact hd60 _ (by omega) | fail)
          case hv => rfl
          refine dl0 (gn rfl) rfl rfl (step_len (m := (touL a b c d).length) rfl rfl (ev_mk rfl) (.inl ⟨⟨_, Try.underlying35⟩, .inl ⟨_, _, .inl rfl, List.length_map _⟩⟩)) trivial ?_
          refine dl_geq (gn rfl) rfl rfl rfl rfl rfl (fun h7 => ?_) (fun h7 => ?_)
          · exact False.elim (by omega)
          refine dl0 (gn rfl) rfl rfl (step_mv rfl rfl) trivial ?_
          refine' dl0 (gy rfl rfl rfl rfl rfl rfl) rfl rfl (step_load_one rfl (ev_mk rfl) F.one35 ?hv) ⟨?hb, trivial⟩ ?_
          case hb => repeat (first | exact uE | refine uN (by omega) ?_ | assumption | exact hd _ (by omega) | exact hd60 _ (by omega) | fail)
          case hv => rfl
          refine' dl0 (gy rfl rfl rfl rfl rfl rfl) rfl rfl (step_load_one rfl (ev_mk rfl) F.one3 ?hv) ⟨?hb, trivial⟩ ?_
          case hb => repeat (first | exact uE | refine uN (by omega) ?_ | assumption | exact hd _ (by omega) | exact hd60 _ (by omega) | fail)
          case hv => rfl
          refine' dl0 (gy rfl rfl rfl rfl rfl rfl) rfl rfl (step_index rfl (ev_mk rfl) (.inl rfl) (ev_mk rfl) Try.underlying35 F.sz3 (by omega) ?hr) trivial ?_
          case hr => exact map_at _ _ _ (by omega) (by omega)
          refine dl0 (gy rfl rfl rfl rfl rfl rfl) rfl rfl (step_load_ro rfl (ev_mk rfl) F.one3 rfl) trivial ?_
          refine dl0 (gy rfl rfl rfl rfl rfl rfl) rfl rfl (step_mv rfl rfl) trivial ?_
          refine dl_neq (gy rfl rfl rfl rfl rfl rfl) rfl rfl rfl rfl rfl (fun h8 => ?_) (fun h8 => ?_)
          · exact False.elim (by exact h8 (at_get ht60))
          refine dl0 (gn rfl) rfl rfl (step_pick rfl (ev_mk rfl) (ev_mk rfl)) trivial ?_
          refine dl0 (gn rfl) rfl rfl (step_mv rfl rfl) trivial ?_
          refine dl0 (gy rfl rfl rfl rfl rfl rfl) rfl rfl (step_mv rfl rfl) trivial ?_
          refine dl0 (gy rfl rfl rfl rfl rfl rfl) rfl rfl (step_callc rfl Try.func17 rfl rfl rfl (of_c) (by repeat (first | exact .nil | refine .cons ?_ ?_ | exact VLe.refl _ | exact VLe.own_sl _ _ _ | exact VLe.fl_sl _ _ | exact VLe.nil_sl _ | exact VLe.nil_fl _ | refine VLe.agg ?_))) trivial ?_
          refine' dl0 (gy rfl rfl rfl rfl rfl rfl) rfl rfl (step_load_all rfl rfl F.agg24 ?hl) ⟨?hb, trivial⟩ ?_
          case hb => repeat (first | exact uE | refine uN (by omega) ?_ | assumption | exact hd _ (by omega) | exact hd60 _ (by omega) | fail)
          case hl => first | rfl | (simp; done) | (first | (simp; done) | (simp; omega) | omega)
          refine dl0 (gy rfl rfl rfl rfl rfl rfl) rfl rfl (step_callc rfl Try.func11 rfl rfl rfl (meets_c) (by repeat (first | exact .nil | refine .cons ?_ ?_ | exact VLe.refl _ | exact VLe.own_sl _ _ _ | exact VLe.fl_sl _ _ | exact VLe.nil_sl _ | exact VLe.nil_fl _ | refine VLe.agg ?_))) trivial ?_
          refine dl_know (d := 84) (c := true) rfl (meets_of g0 g1 g2 g3 (List.mem_of_getElem? ht60)) ?_
          refine dl0 (gy rfl rfl rfl rfl rfl rfl) rfl rfl (step_unOp (c := .bool false) rfl (ev_mk rfl) (fun _ => rfl)) trivial ?_
          refine dl0 (gn rfl) rfl rfl (step_pick rfl (ev_mk rfl) (ev_mk rfl)) trivial ?_
          refine dlnil ?_ ?_
          · repeat' (first | exact trivial | exact .inr (ap0 _ _ _ _) | exact .inr (ap2 _ _ _ _) | exact .inr (ap3 _ _ _ _) | exact .inr ⟨by first | (simp; done) | (simp; omega), by first | (simp; done) | (simp; omega)⟩ | exact .inl (by kernel_rfl) | refine ⟨?_, ?_⟩ | fail)
          refine runs_cond false (ev_mk rfl) (fun h_ => nomatch h_) (fun _ => ?_)
          refine runs_skip ?_
          refine runs_seq ?_
          refine runs_region ?_
          refine' rl0 (gn rfl) rfl rfl (step_load_one rfl (ev_mk rfl) F.one4 ?hv) ⟨?hb, trivial⟩ ?_
          case hb => repeat (first | exact uE | refine uN (by omega) ?_ | assumption | exact hd _ (by omega) | exact hd60 _ (by omega) | fail)
          case hv => rfl
          refine rl0 (gn rfl) rfl rfl (step_mv rfl rfl) trivial ?_
          refine rl_bool (d := 88) rfl (fun h9 => ?_) (fun h9 => ?_)
          · skip
            refine rlk rfl rfl rfl rfl rfl (ngb rfl rfl) rfl rfl ?_
            refine rlk rfl rfl rfl rfl rfl (ngb rfl rfl) rfl rfl ?_
            refine rlk rfl rfl rfl rfl rfl (ngb rfl rfl) rfl rfl ?_
            refine rl0 (gn rfl) rfl rfl (step_pick rfl (ev_mk rfl) (ev_mk rfl)) trivial ?_
            refine' rls (gn rfl) rfl (step_store1 rfl rfl rfl rfl F.one4 rfl rfl ?hl ?hc) ⟨?hb, trivial⟩ ?hk ?_
            case hb => repeat (first | exact uE | refine uN (by omega) ?_ | assumption | exact hd _ (by omega) | exact hd60 _ (by omega) | fail)
            case hl => first | exact Nat.le_of_ble_eq_true rfl | decide | (simp; done) | (simp; omega) | (first | (simp; done) | (simp; omega) | omega)
            case hc => first | (simp only [List.set_cons_succ, List.set_cons_zero]; rfl) | rfl
            case hk => omega
            refine runsL_nil ?_
            refine runs_region ?_
            refine' rl0 (gn rfl) rfl rfl (step_load_one rfl (ev_mk rfl) F.one3 ?hv) ⟨?hb, trivial⟩ ?_
            case hb => repeat (first | exact uE | refine uN (by omega) ?_ | assumption | exact hd _ (by omega) | exact hd60 _ (by omega) | fail)
            case hv => rfl
            refine rl0 (gn rfl) rfl rfl (step_add rfl (ev_mk rfl) (ev_mk rfl) (w64 (by omega))) trivial ?_
            refine' rls (gn rfl) rfl (step_store1 rfl rfl rfl rfl F.one3 rfl rfl ?hl ?hc) ⟨?hb, trivial⟩ ?hk ?_
            case hb => repeat (first | exact uE | refine uN (by omega) ?_ | assumption | exact hd _ (by omega) | exact hd60 _ (by omega) | fail)
            case hl => first | exact Nat.le_of_ble_eq_true rfl | decide | (simp; done) | (simp; omega) | (first | (simp; done) | (simp; omega) | omega)
            case hc => first | (simp only [List.set_cons_succ, List.set_cons_zero]; rfl) | rfl
            case hk => omega
            refine runsL_nil ?_
            first | (have hem_ := met1 (x := x) (y := y) ht60 (by assumption)) | (have hem_ := met2 (x := x) (y := y) ht60 (by assumption)) | (have hem_ := met3 (x := x) (y := y) ht60 (by assumption) (by assumption))
            refine ⟨by exact (if_neg (fun h_ => nomatch h_.1)).symm, by repeat (first | exact uE | refine uN (by omega) ?_ | assumption | exact hd _ (by omega) | exact hd60 _ (by omega) | fail), fun k_ hk_ hl_ => ?_⟩
            simp only [dL, updL, List.map_cons, List.map_nil]; by_cases e0_ : k_ = (n + 4); (focus subst e0_; refine bl_eq ?_; first | (refine' blec ?hb ?hl; (case hb => repeat (first | exact uE | assumption | refine uN (by omega) ?_ | fail)); (case hl => first | exact VLes.refl _ | ((repeat' (first | exact VLe.refl _ | exact VLe.own_sl _ _ _ | exact VLe.fl_sl _ _ | exact VLe.nil_sl _ | exact VLe.nil_fl _ | exact VLes.refl _ | exact .nil | refine VLe.tup ?_ | refine VLe.agg ?_ | refine .cons ?_ ?_ | (rw [Int.natCast_add]; exact VLe.refl _) | exact vle_int (by omega) | exact vle_bool (by first | rfl | assumption | (simp_all; done)) | fail)); done))) | (refine ble ?_; (repeat (first | exact uE | assumption | refine uN (by omega) ?_ | fail)); done)); refine bl_ne e0_ ?_; by_cases e1_ : k_ = (n + 5); (focus subst e1_; refine bl_eq ?_; first | (refine' blec ?hb ?hl; (case hb => repeat (first | exact uE | assumption | refine uN (by omega) ?_ | fail)); (case hl => first | exact VLes.refl _ | ((repeat' (first | exact VLe.refl _ | exact VLe.own_sl _ _ _ | exact VLe.fl_sl _ _ | exact VLe.nil_sl _ | exact VLe.nil_fl _ | exact VLes.refl _ | exact .nil | refine VLe.tup ?_ | refine VLe.agg ?_ | refine .cons ?_ ?_ | (rw [Int.natCast_add]; exact VLe.refl _) | exact vle_int (by omega) | exact vle_bool (by first | rfl | assumption | (simp_all; done)) | fail)); done))) | (refine ble ?_; (repeat (first | exact uE | assumption | refine uN (by omega) ?_ | fail)); done)); refine bl_ne e1_ ?_; exact ble (by repeat (first | exact rfl | refine uN (by first | assumption | omega) ?_ | assumption | exact hf60 _ (by omega) (by first | assumption | omega) (by first | assumption | omega) (by first | assumption | omega) (by first | assumption | omega) | fail))
          · skip
            refine rl0 (gy rfl rfl rfl rfl rfl rfl) rfl rfl (step_mv rfl rfl) trivial ?_
            refine' rl0 (gy rfl rfl rfl rfl rfl rfl) rfl rfl (step_load_one rfl (ev_mk rfl) F.one3 ?hv) ⟨?hb, trivial⟩ ?_
            case hb => repeat (first | exact uE | refine uN (by omega) ?_ | assumption | exact hd _ (by omega) | exact hd60 _ (by omega) | fail)
            case hv => rfl
            refine rl_eql (gy rfl rfl rfl rfl rfl rfl) rfl rfl rfl rfl rfl (fun h10 => ?_) (fun h10 => ?_)
            · skip
              refine rl0 (gn rfl) rfl rfl (step_pick rfl (ev_mk rfl) (ev_mk rfl)) trivial ?_
              refine' rls (gn rfl) rfl (step_store1 rfl rfl rfl rfl F.one4 rfl rfl ?hl ?hc) ⟨?hb, trivial⟩ ?hk ?_
              case hb => repeat (first | exact uE | refine uN (by omega) ?_ | assumption | exact hd _ (by omega) | exact hd60 _ (by omega) | fail)
              case hl => first | exact Nat.le_of_ble_eq_true rfl | decide | (simp; done) | (simp; omega) | (first | (simp; done) | (simp; omega) | omega)
              case hc => first | (simp only [List.set_cons_succ, List.set_cons_zero]; rfl) | rfl
              case hk => omega
              refine runsL_nil ?_
              refine runs_region ?_
              refine' rl0 (gn rfl) rfl rfl (step_load_one rfl (ev_mk rfl) F.one3 ?hv) ⟨?hb, trivial⟩ ?_
              case hb => repeat (first | exact uE | refine uN (by omega) ?_ | assumption | exact hd _ (by omega) | exact hd60 _ (by omega) | fail)
              case hv => rfl
              refine rl0 (gn rfl) rfl rfl (step_add rfl (ev_mk rfl) (ev_mk rfl) (w64 (by omega))) trivial ?_
              refine' rls (gn rfl) rfl (step_store1 rfl rfl rfl rfl F.one3 rfl rfl ?hl ?hc) ⟨?hb, trivial⟩ ?hk ?_
              case hb => repeat (first | exact uE | refine uN (by omega) ?_ | assumption | exact hd _ (by omega) | exact hd60 _ (by omega) | fail)
              case hl => first | exact Nat.le_of_ble_eq_true rfl | decide | (simp; done) | (simp; omega) | (first | (simp; done) | (simp; omega) | omega)
              case hc => first | (simp only [List.set_cons_succ, List.set_cons_zero]; rfl) | rfl
              case hk => omega
              refine runsL_nil ?_
              first | (have hem_ := met1 (x := x) (y := y) ht60 (by assumption)) | (have hem_ := met2 (x := x) (y := y) ht60 (by assumption)) | (have hem_ := met3 (x := x) (y := y) ht60 (by assumption) (by assumption))
              refine ⟨by exact (if_neg (fun h_ => nomatch h_.1)).symm, by repeat (first | exact uE | refine uN (by omega) ?_ | assumption | exact hd _ (by omega) | exact hd60 _ (by omega) | fail), fun k_ hk_ hl_ => ?_⟩
              simp only [dL, updL, List.map_cons, List.map_nil]; by_cases e0_ : k_ = (n + 4); (focus subst e0_; refine bl_eq ?_; first | (refine' blec ?hb ?hl; (case hb => repeat (first | exact uE | assumption | refine uN (by omega) ?_ | fail)); (case hl => first | exact VLes.refl _ | ((repeat' (first | exact VLe.refl _ | exact VLe.own_sl _ _ _ | exact VLe.fl_sl _ _ | exact VLe.nil_sl _ | exact VLe.nil_fl _ | exact VLes.refl _ | exact .nil | refine VLe.tup ?_ | refine VLe.agg ?_ | refine .cons ?_ ?_ | (rw [Int.natCast_add]; exact VLe.refl _) | exact vle_int (by omega) | exact vle_bool (by first | rfl | assumption | (simp_all; done)) | fail)); done))) | (refine ble ?_; (repeat (first | exact uE | assumption | refine uN (by omega) ?_ | fail)); done)); refine bl_ne e0_ ?_; by_cases e1_ : k_ = (n + 5); (focus subst e1_; refine bl_eq ?_; first | (refine' blec ?hb ?hl; (case hb => repeat (first | exact uE | assumption | refine uN (by omega) ?_ | fail)); (case hl => first | exact VLes.refl _ | ((repeat' (first | exact VLe.refl _ | exact VLe.own_sl _ _ _ | exact VLe.fl_sl _ _ | exact VLe.nil_sl _ | exact VLe.nil_fl _ | exact VLes.refl _ | exact .nil | refine VLe.tup ?_ | refine VLe.agg ?_ | refine .cons ?_ ?_ | (rw [Int.natCast_add]; exact VLe.refl _) | exact vle_int (by omega) | exact vle_bool (by first | rfl | assumption | (simp_all; done)) | fail)); done))) | (refine ble ?_; (repeat (first | exact uE | assumption | refine uN (by omega) ?_ | fail)); done)); refine bl_ne e1_ ?_; exact ble (by repeat (first | exact rfl | refine uN (by first | assumption | omega) ?_ | assumption | exact hf60 _ (by omega) (by first | assumption | omega) (by first | assumption | omega) (by first | assumption | omega) (by first | assumption | omega) | fail))
            · skip
              refine rl0 (gn rfl) rfl rfl (step_pick rfl (ev_mk rfl) (ev_mk rfl)) trivial ?_
              refine' rls (gn rfl) rfl (step_store1 rfl rfl rfl rfl F.one4 rfl rfl ?hl ?hc) ⟨?hb, trivial⟩ ?hk ?_
              case hb => repeat (first | exact uE | refine uN (by omega) ?_ | assumption | exact hd _ (by omega) | exact hd60 _ (by omega) | fail)
              case hl => first | exact Nat.le_of_ble_eq_true rfl | decide | (simp; done) | (simp; omega) | (first | (simp; done) | (simp; omega) | omega)
              case hc => first | (simp only [List.set_cons_succ, List.set_cons_zero]; rfl) | rfl
              case hk => omega
              refine runsL_nil ?_
              refine runs_region ?_
              refine' rl0 (gn rfl) rfl rfl (step_load_one rfl (ev_mk rfl) F.one3 ?hv) ⟨?hb, trivial⟩ ?_
              case hb => repeat (first | exact uE | refine uN (by omega) ?_ | assumption | exact hd _ (by omega) | exact hd60 _ (by omega) | fail)
              case hv => rfl
              refine rl0 (gn rfl) rfl rfl (step_add rfl (ev_mk rfl) (ev_mk rfl) (w64 (by omega))) trivial ?_
              refine' rls (gn rfl) rfl (step_store1 rfl rfl rfl rfl F.one3 rfl rfl ?hl ?hc) ⟨?hb, trivial⟩ ?hk ?_
              case hb => repeat (first | exact uE | refine uN (by omega) ?_ | assumption | exact hd _ (by omega) | exact hd60 _ (by omega) | fail)
              case hl => first | exact Nat.le_of_ble_eq_true rfl | decide | (simp; done) | (simp; omega) | (first | (simp; done) | (simp; omega) | omega)
              case hc => first | (simp only [List.set_cons_succ, List.set_cons_zero]; rfl) | rfl
              case hk => omega
              refine runsL_nil ?_
              first | (have hem_ := met1 (x := x) (y := y) ht60 (by assumption)) | (have hem_ := met2 (x := x) (y := y) ht60 (by assumption)) | (have hem_ := met3 (x := x) (y := y) ht60 (by assumption) (by assumption))
              refine ⟨by exact (if_neg (fun h_ => nomatch h_.1)).symm, by repeat (first | exact uE | refine uN (by omega) ?_ | assumption | exact hd _ (by omega) | exact hd60 _ (by omega) | fail), fun k_ hk_ hl_ => ?_⟩
              simp only [dL, updL, List.map_cons, List.map_nil]; by_cases e0_ : k_ = (n + 4); (focus subst e0_; refine bl_eq ?_; first | (refine' blec ?hb ?hl; (case hb => repeat (first | exact uE | assumption | refine uN (by omega) ?_ | fail)); (case hl => first | exact VLes.refl _ | ((repeat' (first | exact VLe.refl _ | exact VLe.own_sl _ _ _ | exact VLe.fl_sl _ _ | exact VLe.nil_sl _ | exact VLe.nil_fl _ | exact VLes.refl _ | exact .nil | refine VLe.tup ?_ | refine VLe.agg ?_ | refine .cons ?_ ?_ | (rw [Int.natCast_add]; exact VLe.refl _) | exact vle_int (by omega) | exact vle_bool (by first | rfl | assumption | (simp_all; done)) | fail)); done))) | (refine ble ?_; (repeat (first | exact uE | assumption | refine uN (by omega) ?_ | fail)); done)); refine bl_ne e0_ ?_; by_cases e1_ : k_ = (n + 5); (focus subst e1_; refine bl_eq ?_; first | (refine' blec ?hb ?hl; (case hb => repeat (first | exact uE | assumption | refine uN (by omega) ?_ | fail)); (case hl => first | exact VLes.refl _ | ((repeat' (first | exact VLe.refl _ | exact VLe.own_sl _ _ _ | exact VLe.fl_sl _ _ | exact VLe.nil_sl _ | exact VLe.nil_fl _ | exact VLes.refl _ | exact .nil | refine VLe.tup ?_ | refine VLe.agg ?_ | refine .cons ?_ ?_ | (rw [Int.natCast_add]; exact VLe.refl _) | exact vle_int (by omega) | exact vle_bool (by first | rfl | assumption | (simp_all; done)) | fail)); done))) | (refine ble ?_; (repeat (first | exact uE | assumption | refine uN (by omega) ?_ | fail)); done)); refine bl_ne e1_ ?_; exact ble (by repeat (first | exact rfl | refine uN (by first | assumption | omega) ?_ | assumption | exact hf60 _ (by omega) (by first | assumption | omega) (by first | assumption | omega) (by first | assumption | omega) (by first | assumption | omega) | fail))
        · intro bb60 b60 hb60
          simp only [dL, eM, updL, List.map_cons, List.map_nil] at hb60
          subst hb60
          refine runs_seq ?_
          refine runs_draw (by kernel_rfl) (by kernel_rfl) (by kernel_rfl) ?_
          refine' dl0 (gn rfl) rfl rfl (step_load_one rfl (ev_mk rfl) F.one3 ?hv) ⟨?hb, trivial⟩ ?_
          case hb => repeat (first | exact uE | refine uN (by omega) ?_ | assumption | exact hd _ (by omega) | fail)
          case hv => rfl
          refine' dl0 (gn rfl) rfl rfl (step_load_one rfl (ev_mk rfl) F.one35 ?hv) ⟨?hb, trivial⟩ ?_
          case hb => repeat (first | exact uE | refine uN (by omega) ?_ | assumption | exact hd _ (by omega) | fail)
          case hv => rfl
          refine dl0 (gn rfl) rfl rfl (step_len (m := (touL a b c d).length) rfl rfl (ev_mk rfl) (.inl ⟨⟨_, Try.underlying35⟩, .inl ⟨_, _, .inl rfl, List.length_map _⟩⟩)) trivial ?_
          refine dl_eql (gn rfl) rfl rfl rfl rfl rfl (fun h7 => ?_) (fun h7 => ?_)
          rotate_left
          · exact False.elim (by omega)
          refine dl0 (gn rfl) rfl rfl (step_mv rfl rfl) trivial ?_
          refine' dl0 (gy rfl rfl rfl rfl rfl rfl) rfl rfl (step_load_all rfl rfl F.agg24 ?hl) ⟨?hb, trivial⟩ ?_
          case hb => repeat (first | exact uE | refine uN (by omega) ?_ | assumption | exact hd _ (by omega) | fail)
          case hl => first | rfl | (simp; done) | (first | (simp; done) | (simp; omega) | omega)
          refine dl0 (gy rfl rfl rfl rfl rfl rfl) rfl rfl (step_callc rfl Try.func20 rfl rfl rfl (cnt_c g0 g1 g2 g3) (by repeat (first | exact .nil | refine .cons ?_ ?_ | exact VLe.refl _ | exact VLe.own_sl _ _ _ | exact VLe.fl_sl _ _ | exact VLe.nil_sl _ | exact VLe.nil_fl _ | refine VLe.agg ?_))) trivial ?_
          refine' dl0 (gy rfl rfl rfl rfl rfl rfl) rfl rfl (step_load_one rfl (ev_mk rfl) F.one3 ?hv) ⟨?hb, trivial⟩ ?_
          case hb => repeat (first | exact uE | refine uN (by omega) ?_ | assumption | exact hd _ (by omega) | fail)
          case hv => rfl
          refine dl_eql (gy rfl rfl rfl rfl rfl rfl) rfl rfl rfl rfl rfl (fun h8 => ?_) (fun h8 => ?_)
          rotate_left
          · exact False.elim (by omega)
          refine dl0 (gn rfl) rfl rfl (step_pick rfl (ev_mk rfl) (ev_mk rfl)) trivial ?_
          refine dl0 (gn rfl) rfl rfl (step_mv rfl rfl) trivial ?_
          refine' dl0 (gy rfl rfl rfl rfl rfl rfl) rfl rfl (step_load_all rfl rfl F.agg24 ?hl) ⟨?hb, trivial⟩ ?_
          case hb => repeat (first | exact uE | refine uN (by omega) ?_ | assumption | exact hd _ (by omega) | fail)
          case hl => first | rfl | (simp; done) | (first | (simp; done) | (simp; omega) | omega)
          refine dl0 (gy rfl rfl rfl rfl rfl rfl) rfl rfl (step_mv rfl rfl) trivial ?_
          refine dl0 (gy rfl rfl rfl rfl rfl rfl) rfl rfl (step_mv rfl rfl) trivial ?_
          refine dl0 (gy rfl rfl rfl rfl rfl rfl) rfl rfl (step_callc rfl Try.func7 rfl rfl rfl (has_c) (by repeat (first | exact .nil | refine .cons ?_ ?_ | exact VLe.refl _ | exact VLe.own_sl _ _ _ | exact VLe.fl_sl _ _ | exact VLe.nil_sl _ | exact VLe.nil_fl _ | refine VLe.agg ?_))) trivial ?_
          refine dl0 (gy rfl rfl rfl rfl rfl rfl) rfl rfl (step_unOp rfl (ev_mk rfl) (fun _ => rfl)) trivial ?_
          refine dl0 (gy rfl rfl rfl rfl rfl rfl) rfl rfl (step_mv rfl rfl) trivial ?_
          refine dl_bool (d := 111) rfl (fun h9 => ?_) (fun h9 => ?_)
          · skip
            refine dlk rfl rfl rfl rfl rfl (ngb rfl rfl) rfl rfl ?_
            refine dl0 (gy rfl rfl rfl rfl rfl rfl) rfl rfl (step_pick rfl (ev_mk rfl) (ev_mk rfl)) trivial ?_
            refine dl0 (gn rfl) rfl rfl (step_pick rfl (ev_mk rfl) (ev_mk rfl)) trivial ?_
            refine dl0 (gn rfl) rfl rfl (step_mv rfl rfl) trivial ?_
            refine dl0 (gy rfl rfl rfl rfl rfl rfl) rfl rfl (step_callc rfl Try.func14 rfl rfl rfl (works_c) (by repeat (first | exact .nil | refine .cons ?_ ?_ | exact VLe.refl _ | exact VLe.own_sl _ _ _ | exact VLe.fl_sl _ _ | exact VLe.nil_sl _ | exact VLe.nil_fl _ | refine VLe.agg ?_))) trivial ?_
            refine dl0 (gn rfl) rfl rfl (step_pick rfl (ev_mk rfl) (ev_mk rfl)) trivial ?_
            refine' dls (gn rfl) rfl (step_store1 rfl rfl rfl rfl F.one4 rfl rfl ?hl ?hc) ⟨?hb, trivial⟩ ?hk ?_
            case hb => repeat (first | exact uE | refine uN (by omega) ?_ | assumption | exact hd _ (by omega) | fail)
            case hl => first | exact Nat.le_of_ble_eq_true rfl | decide | (simp; done) | (simp; omega) | (first | (simp; done) | (simp; omega) | omega)
            case hc => first | (simp only [List.set_cons_succ, List.set_cons_zero]; rfl) | rfl
            case hk => omega
            refine dlnil ?_ ?_
            · repeat' (first | exact trivial | exact .inr (ap0 _ _ _ _) | exact .inr (ap2 _ _ _ _) | exact .inr (ap3 _ _ _ _) | exact .inr ⟨by first | (simp; done) | (simp; omega), by first | (simp; done) | (simp; omega)⟩ | exact .inl (by kernel_rfl) | refine ⟨?_, ?_⟩ | fail)
            refine runs_ret ?_
            refine ⟨by first | exact .inr rfl | exact .inl rfl, fin_mkg (resc1 rfl (by repeat (first | exact uE | refine uN (by omega) ?_ | assumption | exact hd _ (by omega) | fail)) F.one4 rfl res0) ?_ ?_ ?_ ?_ ?_⟩
            · (repeat' (first | exact VLe.refl _ | exact VLe.own_sl _ _ _ | exact VLe.fl_sl _ _ | exact VLe.nil_sl _ | exact VLe.nil_fl _ | exact VLes.refl _ | exact .nil | refine VLe.tup ?_ | refine VLe.agg ?_ | refine .cons ?_ ?_ | (rw [Int.natCast_add]; exact VLe.refl _) | exact vle_int (by omega) | exact vle_bool (by first | rfl | assumption | (simp_all; done)) | fail))
            · repeat (first | exact trivial | assumption | omega | (refine bdR_map (fun _ => ?_)) | (refine bdL_map (fun _ => ?_)) | refine ⟨?_, ?_⟩ | fail)
            · intro k_ hk_; exact ble (by repeat (first | exact rfl | refine uN (by omega) ?_ | assumption | fail))
            · intro p hp; cases hp
            · repeat (first | exact trivial | assumption | omega | (refine bdR_map (fun _ => ?_)) | (refine bdL_map (fun _ => ?_)) | refine ⟨?_, ?_⟩ | fail)
          · skip
            refine' dl0 (gy rfl rfl rfl rfl rfl rfl) rfl rfl (step_load_one rfl (ev_mk rfl) F.one4 ?hv) ⟨?hb, trivial⟩ ?_
            case hb => repeat (first | exact uE | refine uN (by omega) ?_ | assumption | exact hd _ (by omega) | fail)
            case hv => rfl
            refine dl_know (d := 112) (c := true) rfl (met_all g0 g1 g2 g3 hx hy (by assumption)) ?_
            refine dl0 (gy rfl rfl rfl rfl rfl rfl) rfl rfl (step_pick rfl (ev_mk rfl) (ev_mk rfl)) trivial ?_
            refine dl0 (gn rfl) rfl rfl (step_pick rfl (ev_mk rfl) (ev_mk rfl)) trivial ?_
            refine dl0 (gn rfl) rfl rfl (step_mv rfl rfl) trivial ?_
            refine dl0 (gy rfl rfl rfl rfl rfl rfl) rfl rfl (step_callc rfl Try.func14 rfl rfl rfl (works_c) (by repeat (first | exact .nil | refine .cons ?_ ?_ | exact VLe.refl _ | exact VLe.own_sl _ _ _ | exact VLe.fl_sl _ _ | exact VLe.nil_sl _ | exact VLe.nil_fl _ | refine VLe.agg ?_))) trivial ?_
            refine dl0 (gn rfl) rfl rfl (step_pick rfl (ev_mk rfl) (ev_mk rfl)) trivial ?_
            refine' dls (gn rfl) rfl (step_store1 rfl rfl rfl rfl F.one4 rfl rfl ?hl ?hc) ⟨?hb, trivial⟩ ?hk ?_
            case hb => repeat (first | exact uE | refine uN (by omega) ?_ | assumption | exact hd _ (by omega) | fail)
            case hl => first | exact Nat.le_of_ble_eq_true rfl | decide | (simp; done) | (simp; omega) | (first | (simp; done) | (simp; omega) | omega)
            case hc => first | (simp only [List.set_cons_succ, List.set_cons_zero]; rfl) | rfl
            case hk => omega
            refine dlnil ?_ ?_
            · repeat' (first | exact trivial | exact .inr (ap0 _ _ _ _) | exact .inr (ap2 _ _ _ _) | exact .inr (ap3 _ _ _ _) | exact .inr ⟨by first | (simp; done) | (simp; omega), by first | (simp; done) | (simp; omega)⟩ | exact .inl (by kernel_rfl) | refine ⟨?_, ?_⟩ | fail)
            refine runs_ret ?_
            refine ⟨by first | exact .inr rfl | exact .inl rfl, fin_mkg (resc1 rfl (by repeat (first | exact uE | refine uN (by omega) ?_ | assumption | exact hd _ (by omega) | fail)) F.one4 rfl res0) ?_ ?_ ?_ ?_ ?_⟩
            · (repeat' (first | exact VLe.refl _ | exact VLe.own_sl _ _ _ | exact VLe.fl_sl _ _ | exact VLe.nil_sl _ | exact VLe.nil_fl _ | exact VLes.refl _ | exact .nil | refine VLe.tup ?_ | refine VLe.agg ?_ | refine .cons ?_ ?_ | (rw [Int.natCast_add]; exact VLe.refl _) | exact vle_int (by omega) | exact vle_bool (by first | rfl | assumption | (simp_all; done)) | fail))
            · repeat (first | exact trivial | assumption | omega | (refine bdR_map (fun _ => ?_)) | (refine bdL_map (fun _ => ?_)) | refine ⟨?_, ?_⟩ | fail)
            · intro k_ hk_; exact ble (by repeat (first | exact rfl | refine uN (by omega) ?_ | assumption | fail))
            · intro p hp; cases hp
            · repeat (first | exact trivial | assumption | omega | (refine bdR_map (fun _ => ?_)) | (refine bdL_map (fun _ => ?_)) | refine ⟨?_, ?_⟩ | fail)
    · skip
      refine dl0 (gy rfl rfl rfl rfl rfl rfl) rfl rfl (step_neqb rfl (ev_mk rfl) (ev_mk rfl) Try.underlying4) trivial ?_
      refine dl0 (gn rfl) rfl rfl (step_pick rfl (ev_mk rfl) (ev_mk rfl)) trivial ?_
      refine dlnil ?_ ?_
      · repeat' (first | exact trivial | exact .inr (ap0 _ _ _ _) | exact .inr (ap2 _ _ _ _) | exact .inr (ap3 _ _ _ _) | exact .inr ⟨by first | (simp; done) | (simp; omega), by first | (simp; done) | (simp; omega)⟩ | exact .inl (by kernel_rfl) | refine ⟨?_, ?_⟩ | fail)
      refine runs_cond _ (ev_mk rfl) (fun h6 => ?_) (fun h6 => ?_)
      · skip
        exact False.elim (by (rw [has_of hx hy] at h6; simp_all))
      · skip
        refine runs_skip ?_
        refine runs_seq ?_
        refine runs_region ?_
        refine' rl0 (gn rfl) rfl rfl (step_load_all rfl rfl F.agg24 ?hl) ⟨?hb, trivial⟩ ?_
        case hb => repeat (first | exact uE | refine uN (by omega) ?_ | assumption | exact hd _ (by omega) | fail)
        case hl => first | rfl | (simp; done) | (first | (simp; done) | (simp; omega) | omega)
        refine rl0 (gn rfl) rfl rfl (step_callc rfl Try.func18 rfl rfl rfl (rtou2 g0 g1 g2 g3) (by repeat (first | exact .nil | refine .cons ?_ ?_ | exact VLe.refl _ | exact VLe.own_sl _ _ _ | exact VLe.fl_sl _ _ | exact VLe.nil_sl _ | exact VLe.nil_fl _ | refine VLe.agg ?_))) trivial ?_
        refine rl1 (gn rfl) rfl rfl (step_allocc (k := n + 3) (zs := [.slice none 0 0]) (cs := [.sc (.slice none 0 0)]) rfl F.zero35 (by first | rfl | simp) (by first | rfl | decide | simp) (by first | rfl | simp)) ⟨by repeat (first | exact uE | refine uN (by omega) ?_ | assumption | exact hd _ (by omega) | fail), trivial⟩ (by omega) ?_
        refine' rls (gn rfl) rfl (step_store1 rfl rfl rfl rfl F.one35 rfl rfl ?hl ?hc) ⟨?hb, trivial⟩ ?hk ?_
        case hb => repeat (first | exact uE | refine uN (by omega) ?_ | assumption | exact hd _ (by omega) | fail)
        case hl => first | exact Nat.le_of_ble_eq_true rfl | decide | (simp; done) | (simp; omega) | (first | (simp; done) | (simp; omega) | omega)
        case hc => first | (simp only [List.set_cons_succ, List.set_cons_zero]; rfl) | rfl
        case hk => omega
        refine runsL_nil ?_
        refine runs_seq ?_
        refine runs_region ?_
        refine rl1 (gn rfl) rfl rfl (step_allocc (k := n + 4) (zs := [.int .i64 0]) (cs := [.sc (.int .i64 0)]) rfl F.zero3 (by first | rfl | simp) (by first | rfl | decide | simp) (by first | rfl | simp)) ⟨by repeat (first | exact uE | refine uN (by omega) ?_ | assumption | exact hd _ (by omega) | fail), trivial⟩ (by omega) ?_
        refine' rls (gn rfl) rfl (step_store1 rfl rfl rfl rfl F.one3 rfl rfl ?hl ?hc) ⟨?hb, trivial⟩ ?hk ?_
        case hb => repeat (first | exact uE | refine uN (by omega) ?_ | assumption | exact hd _ (by omega) | fail)
        case hl => first | exact Nat.le_of_ble_eq_true rfl | decide | (simp; done) | (simp; omega) | (first | (simp; done) | (simp; omega) | omega)
        case hc => first | (simp only [List.set_cons_succ, List.set_cons_zero]; rfl) | rfl
        case hk => omega
        refine runsL_nil ?_
        refine runs_seq ?_
        refine runs_region ?_
        refine rl1 (gn rfl) rfl rfl (step_allocc (k := n + 5) (zs := [.bool false]) (cs := [.sc (.bool false)]) rfl F.zero4 (by first | rfl | simp) (by first | rfl | decide | simp) (by first | rfl | simp)) ⟨by repeat (first | exact uE | refine uN (by omega) ?_ | assumption | exact hd _ (by omega) | fail), trivial⟩ (by omega) ?_
        refine' rls (gn rfl) rfl (step_store1 rfl rfl rfl rfl F.one4 rfl rfl ?hl ?hc) ⟨?hb, trivial⟩ ?hk ?_
        case hb => repeat (first | exact uE | refine uN (by omega) ?_ | assumption | exact hd _ (by omega) | fail)
        case hl => first | exact Nat.le_of_ble_eq_true rfl | decide | (simp; done) | (simp; omega) | (first | (simp; done) | (simp; omega) | omega)
        case hc => first | (simp only [List.set_cons_succ, List.set_cons_zero]; rfl) | rfl
        case hk => omega
        refine runsL_nil ?_
        refine runs_seq ?_
        refine runs_region ?_
        refine' rl0 (gn rfl) rfl rfl (step_load_all rfl rfl F.agg24 ?hl) ⟨?hb, trivial⟩ ?_
        case hb => repeat (first | exact uE | refine uN (by omega) ?_ | assumption | exact hd _ (by omega) | fail)
        case hl => first | rfl | (simp; done) | (first | (simp; done) | (simp; omega) | omega)
        refine rl1 (gn rfl) rfl rfl (step_callc rfl Try.func19 rfl rfl rfl (tou_c (kk := (n + 6))) (by repeat (first | exact .nil | refine .cons ?_ ?_ | exact VLe.refl _ | exact VLe.own_sl _ _ _ | exact VLe.fl_sl _ _ | exact VLe.nil_sl _ | exact VLe.nil_fl _ | refine VLe.agg ?_))) ⟨by repeat (first | exact uE | refine uN (by omega) ?_ | assumption | exact hd _ (by omega) | fail), trivial⟩ (by omega) ?_
        refine rl0 (gn rfl) rfl rfl (step_as rfl rfl) trivial ?_
        refine runsL_nil ?_
        refine runs_seq ?_
        refine runs_seq ?_
        refine runs_region ?_
        refine rl0 (gn rfl) rfl rfl (step_mv rfl rfl) trivial ?_
        refine rl0 (gn rfl) rfl rfl (step_eq_nilf (b := false) rfl (ev_mk rfl) (ev_mk rfl) Try.underlying38 ⟨_, .inl ⟨.inl ⟨_, _, rfl⟩, rfl⟩, .inl ⟨rfl, rfl⟩⟩) trivial ?_
        refine runsL_nil ?_
        refine runs_cond false (ev_mk rfl) (fun h_ => nomatch h_) (fun _ => ?_)
        refine runs_skip ?_
        refine runs_seq ?_
        refine runs_seq ?_
        refine runs_region ?_
        refine rl0 (gn rfl) rfl rfl (step_mv rfl rfl) trivial ?_
        refine runsL_nil ?_
        refine runs_block ?_
        refine runs_rangeL (f := 22) (caps := [.ref (n + 6) 0]) (xs := (touL a b c d).map enT) (Dl := [(n + 4, fun i60 => .cells [.sc (.int .i64 (i60 : Nat))]), (n + 5, fun i60 => .cells [.sc (.bool (metF a b c d x y i60))])]) (El := [(n + 6, .cells (rcC a b c d), fun m_ b_ => .cells (rcC a b c d))]) (kl := n + 7) (m := (touL a b c d).length) (brk := false) (ex := .normal) hO rfl (.inl rfl) Try.func22 rfl rfl (tou_i g0 g1 g2 g3) (by repeat (first | exact uE | refine uN (by omega) ?_ | assumption | exact hd _ (by omega) | fail)) (by omega) (by simp) (fun h_ => nomatch h_) (fun _ => ⟨by simp, rfl⟩) (fun v_ hv_ => by obtain ⟨_, _, rfl⟩ := List.mem_map.1 hv_; rfl) rfl ⟨⟨by dsimp only; omega, trivial⟩, ⟨trivial, trivial⟩⟩ ⟨⟨by dsimp only; omega, by dsimp only; omega, ⟨by dsimp only; omega, trivial⟩, by dsimp only; (first | ((repeat (first | exact uE | assumption | refine uN (by omega) ?_ | fail)); done) | (refine Eq.trans (b := .cells [.sc (.int .i64 0)]) (by repeat (first | exact uE | assumption | refine uN (by omega) ?_ | fail)) ?_; first | rfl | (simp; done)))⟩, ⟨by dsimp only; omega, by dsimp only; omega, ⟨by dsimp only; omega, trivial⟩, by dsimp only; (first | ((repeat (first | exact uE | assumption | refine uN (by omega) ?_ | fail)); done) | (refine Eq.trans (b := .cells [.sc (.bool false)]) (by repeat (first | exact uE | assumption | refine uN (by omega) ?_ | fail)) ?_; first | rfl | (simp; done)))⟩, trivial⟩ ⟨⟨by dsimp only; omega, by dsimp only; omega, by dsimp only; repeat (first | exact uE | refine uN (by omega) ?_ | assumption | exact hd _ (by omega) | fail)⟩, trivial⟩ (fun i60 => ⟨bdb_cells (by repeat (first | exact trivial | assumption | omega | (refine bdR_map (fun _ => ?_)) | (refine bdL_map (fun _ => ?_)) | refine ⟨?_, ?_⟩ | fail)), bdb_cells (by repeat (first | exact trivial | assumption | omega | (refine bdR_map (fun _ => ?_)) | (refine bdL_map (fun _ => ?_)) | refine ⟨?_, ?_⟩ | fail)), trivial⟩) ⟨bdb_cells (by repeat (first | exact trivial | assumption | omega | (refine bdR_map (fun _ => ?_)) | (refine bdL_map (fun _ => ?_)) | refine ⟨?_, ?_⟩ | fail)), trivial⟩ ?_ ?_
        · intro i60 v60 hi60 hv60 B60 n60 lr60 bx60 hR60 hl60 hk60 ho60 he60 hn60 hd60 hD60 hfr60
          have hf60 : ∀ k_, k_ < _ → k_ ≠ n + 4 → k_ ≠ n + 5 → k_ ≠ n + 6 → k_ ≠ n + 7 → bx60 k_ = _ := fun k_ a_ e0_ e1_ e2_ e3_ => hfr60 k_ a_ ⟨e0_, e1_, e2_, trivial⟩ e3_
          have hb60_0 : bx60 (n + 4) = .cells [.sc (.int .i64 (i60 : Nat))] := hD60.1
          have hb60_1 : bx60 (n + 5) = .cells [.sc (.bool (metF a b c d x y i60))] := hD60.2.1
          have hc60_0 : bx60 (n + 0) = .cells [.sc (.int .u32 a), .sc (.int .u32 b), .sc (.int .u32 c), .sc (.int .u32 d)] := (hf60 _ (by omega) (by omega) (by omega) (by omega) (by omega)).trans (by repeat (first | exact uE | refine uN (by omega) ?_ | assumption | exact hd _ (by omega) | fail))
          have hc60_1 : bx60 (n + 1) = .cells [.sc (.bool false)] := (hf60 _ (by omega) (by omega) (by omega) (by omega) (by omega)).trans (by repeat (first | exact uE | refine uN (by omega) ?_ | assumption | exact hd _ (by omega) | fail))
          have hc60_2 : bx60 (n + 2) = .cells [.sc (.int .i64 (tiF x y))] := (hf60 _ (by omega) (by omega) (by omega) (by omega) (by omega)).trans (by repeat (first | exact uE | refine uN (by omega) ?_ | assumption | exact hd _ (by omega) | fail))
          have hc60_3 : bx60 (n + 3) = .cells [.sl 1 ((touL a b c d).map enT)] := (hf60 _ (by omega) (by omega) (by omega) (by omega) (by omega)).trans (by repeat (first | exact uE | refine uN (by omega) ?_ | assumption | exact hd _ (by omega) | fail))
          obtain ⟨t60, ht60, rfl⟩ := map_get hv60
          refine runs_keep (l' := [(67, .sc (.int .i64 t60)), (4, .ref (n + 0) 0), (8, .ref (n + 1) 0), (9, .ref (n + 2) 0), (10, .ref (n + 3) 0), (11, .ref (n + 4) 0), (12, .ref (n + 5) 0)]) ?_ ?_
          · (repeat' (first | exact trivial | refine ⟨⟨_, rfl, ?_⟩, ?_⟩ | fail)); all_goals (repeat' (first | exact VLe.refl _ | exact VLe.own_sl _ _ _ | exact VLe.fl_sl _ _ | exact VLe.nil_sl _ | exact VLe.nil_fl _ | exact VLes.refl _ | exact .nil | refine VLe.tup ?_ | refine VLe.agg ?_ | refine .cons ?_ ?_ | (rw [Int.natCast_add]; exact VLe.refl _) | exact vle_int (by omega) | exact vle_bool (by first | rfl | assumption | (simp_all; done)) | fail))
          refine runs_bump 40 ?_
          refine runs_region ?_
          refine rl0 (gn rfl) rfl rfl (step_as rfl rfl) trivial ?_
          refine runsL_nil ?_
          refine ⟨rfl, by first | rfl | (repeat (first | exact uE | refine uN (by omega) ?_ | assumption | exact hd _ (by omega) | exact hd60 _ (by omega) | fail)), fun r60 => ?_⟩
          show Runs _ _ _ _ ⟨mk _, _ + _, upd _ _ _⟩ _
          refine runs_block ?_
          refine runs_seq ?_
          refine runs_seq ?_
          refine runs_draw (by kernel_rfl) (by kernel_rfl) (by kernel_rfl) ?_
          refine' dl0 (gn rfl) rfl rfl (step_load_one rfl (ev_mk rfl) F.one3 ?hv) ⟨?hb, trivial⟩ ?_
          case hb => repeat (first | exact uE | refine uN (by omega) ?_ | assumption | exact hd _ (by omega) | exact hd60 _ (by omega) | fail)
          case hv => rfl
          refine' dl0 (gn rfl) rfl rfl (step_load_one rfl (ev_mk rfl) F.one35 ?hv) ⟨?hb, trivial⟩ ?_
          case hb => repeat (first | exact uE | refine uN (by omega) ?_ | assumption | exact hd _ (by omega) | exact hd60 _ (by omega) | fail)
          case hv => rfl
          refine dl0 (gn rfl) rfl rfl (step_len (m := (touL a b c d).length) rfl rfl (ev_mk rfl) (.inl ⟨⟨_, Try.underlying35⟩, .inl ⟨_, _, .inl rfl, List.length_map _⟩⟩)) trivial ?_
          refine dl_geq (gn rfl) rfl rfl rfl rfl rfl (fun h7 => ?_) (fun h7 => ?_)
          · exact False.elim (by omega)
          refine dl0 (gn rfl) rfl rfl (step_mv rfl rfl) trivial ?_
          refine' dl0 (gy rfl rfl rfl rfl rfl rfl) rfl rfl (step_load_one rfl (ev_mk rfl) F.one35 ?hv) ⟨?hb, trivial⟩ ?_
          case hb => repeat (first | exact uE | refine uN (by omega) ?_ | assumption | exact hd _ (by omega) | exact hd60 _ (by omega) | fail)
          case hv => rfl
          refine' dl0 (gy rfl rfl rfl rfl rfl rfl) rfl rfl (step_load_one rfl (ev_mk rfl) F.one3 ?hv) ⟨?hb, trivial⟩ ?_
          case hb => repeat (first | exact uE | refine uN (by omega) ?_ | assumption | exact hd _ (by omega) | exact hd60 _ (by omega) | fail)
          case hv => rfl
          refine' dl0 (gy rfl rfl rfl rfl rfl rfl) rfl rfl (step_index rfl (ev_mk rfl) (.inl rfl) (ev_mk rfl) Try.underlying35 F.sz3 (by omega) ?hr) trivial ?_
          case hr => exact map_at _ _ _ (by omega) (by omega)
          refine dl0 (gy rfl rfl rfl rfl rfl rfl) rfl rfl (step_load_ro rfl (ev_mk rfl) F.one3 rfl) trivial ?_
          refine dl0 (gy rfl rfl rfl rfl rfl rfl) rfl rfl (step_mv rfl rfl) trivial ?_
          refine dl_neq (gy rfl rfl rfl rfl rfl rfl) rfl rfl rfl rfl rfl (fun h8 => ?_) (fun h8 => ?_)
          · exact False.elim (by exact h8 (at_get ht60))
          refine dl0 (gn rfl) rfl rfl (step_pick rfl (ev_mk rfl) (ev_mk rfl)) trivial ?_
          refine dl0 (gn rfl) rfl rfl (step_mv rfl rfl) trivial ?_
          refine dl0 (gy rfl rfl rfl rfl rfl rfl) rfl rfl (step_mv rfl rfl) trivial ?_
          refine dl0 (gy rfl rfl rfl rfl rfl rfl) rfl rfl (step_callc rfl Try.func17 rfl rfl rfl (of_c) (by repeat (first | exact .nil | refine .cons ?_ ?_ | exact VLe.refl _ | exact VLe.own_sl _ _ _ | exact VLe.fl_sl _ _ | exact VLe.nil_sl _ | exact VLe.nil_fl _ | refine VLe.agg ?_))) trivial ?_
          refine' dl0 (gy rfl rfl rfl rfl rfl rfl) rfl rfl (step_load_all rfl rfl F.agg24 ?hl) ⟨?hb, trivial⟩ ?_
          case hb => repeat (first | exact uE | refine uN (by omega) ?_ | assumption | exact hd _ (by omega) | exact hd60 _ (by omega) | fail)
          case hl => first | rfl | (simp; done) | (first | (simp; done) | (simp; omega) | omega)
          refine dl0 (gy rfl rfl rfl rfl rfl rfl) rfl rfl (step_callc rfl Try.func11 rfl rfl rfl (meets_c) (by repeat (first | exact .nil | refine .cons ?_ ?_ | exact VLe.refl _ | exact VLe.own_sl _ _ _ | exact VLe.fl_sl _ _ | exact VLe.nil_sl _ | exact VLe.nil_fl _ | refine VLe.agg ?_))) trivial ?_
          refine dl_know (d := 84) (c := true) rfl (meets_of g0 g1 g2 g3 (List.mem_of_getElem? ht60)) ?_
          refine dl0 (gy rfl rfl rfl rfl rfl rfl) rfl rfl (step_unOp (c := .bool false) rfl (ev_mk rfl) (fun _ => rfl)) trivial ?_
          refine dl0 (gn rfl) rfl rfl (step_pick rfl (ev_mk rfl) (ev_mk rfl)) trivial ?_
          refine dlnil ?_ ?_
          · repeat' (first | exact trivial | exact .inr (ap0 _ _ _ _) | exact .inr (ap2 _ _ _ _) | exact .inr (ap3 _ _ _ _) | exact .inr ⟨by first | (simp; done) | (simp; omega), by first | (simp; done) | (simp; omega)⟩ | exact .inl (by kernel_rfl) | refine ⟨?_, ?_⟩ | fail)
          refine runs_cond false (ev_mk rfl) (fun h_ => nomatch h_) (fun _ => ?_)
          refine runs_skip ?_
          refine runs_seq ?_
          refine runs_region ?_
          refine' rl0 (gn rfl) rfl rfl (step_load_one rfl (ev_mk rfl) F.one4 ?hv) ⟨?hb, trivial⟩ ?_
          case hb => repeat (first | exact uE | refine uN (by omega) ?_ | assumption | exact hd _ (by omega) | exact hd60 _ (by omega) | fail)
          case hv => rfl
          refine rl0 (gn rfl) rfl rfl (step_mv rfl rfl) trivial ?_
          refine rl_bool (d := 88) rfl (fun h9 => ?_) (fun h9 => ?_)
          · skip
            refine rlk rfl rfl rfl rfl rfl (ngb rfl rfl) rfl rfl ?_
            refine rlk rfl rfl rfl rfl rfl (ngb rfl rfl) rfl rfl ?_
            refine rlk rfl rfl rfl rfl rfl (ngb rfl rfl) rfl rfl ?_
            refine rl0 (gn rfl) rfl rfl (step_pick rfl (ev_mk rfl) (ev_mk rfl)) trivial ?_
            refine' rls (gn rfl) rfl (step_store1 rfl rfl rfl rfl F.one4 rfl rfl ?hl ?hc) ⟨?hb, trivial⟩ ?hk ?_
            case hb => repeat (first | exact uE | refine uN (by omega) ?_ | assumption | exact hd _ (by omega) | exact hd60 _ (by omega) | fail)
            case hl => first | exact Nat.le_of_ble_eq_true rfl | decide | (simp; done) | (simp; omega) | (first | (simp; done) | (simp; omega) | omega)
            case hc => first | (simp only [List.set_cons_succ, List.set_cons_zero]; rfl) | rfl
            case hk => omega
            refine runsL_nil ?_
            refine runs_region ?_
            refine' rl0 (gn rfl) rfl rfl (step_load_one rfl (ev_mk rfl) F.one3 ?hv) ⟨?hb, trivial⟩ ?_
            case hb => repeat (first | exact uE | refine uN (by omega) ?_ | assumption | exact hd _ (by omega) | exact hd60 _ (by omega) | fail)
            case hv => rfl
            refine rl0 (gn rfl) rfl rfl (step_add rfl (ev_mk rfl) (ev_mk rfl) (w64 (by omega))) trivial ?_
            refine' rls (gn rfl) rfl (step_store1 rfl rfl rfl rfl F.one3 rfl rfl ?hl ?hc) ⟨?hb, trivial⟩ ?hk ?_
            case hb => repeat (first | exact uE | refine uN (by omega) ?_ | assumption | exact hd _ (by omega) | exact hd60 _ (by omega) | fail)
            case hl => first | exact Nat.le_of_ble_eq_true rfl | decide | (simp; done) | (simp; omega) | (first | (simp; done) | (simp; omega) | omega)
            case hc => first | (simp only [List.set_cons_succ, List.set_cons_zero]; rfl) | rfl
            case hk => omega
            refine runsL_nil ?_
            first | (have hem_ := met1 (x := x) (y := y) ht60 (by assumption)) | (have hem_ := met2 (x := x) (y := y) ht60 (by assumption)) | (have hem_ := met3 (x := x) (y := y) ht60 (by assumption) (by assumption))
            refine ⟨by exact (if_neg (fun h_ => nomatch h_.1)).symm, by repeat (first | exact uE | refine uN (by omega) ?_ | assumption | exact hd _ (by omega) | exact hd60 _ (by omega) | fail), fun k_ hk_ hl_ => ?_⟩
            simp only [dL, updL, List.map_cons, List.map_nil]; by_cases e0_ : k_ = (n + 4); (focus subst e0_; refine bl_eq ?_; first | (refine' blec ?hb ?hl; (case hb => repeat (first | exact uE | assumption | refine uN (by omega) ?_ | fail)); (case hl => first | exact VLes.refl _ | ((repeat' (first | exact VLe.refl _ | exact VLe.own_sl _ _ _ | exact VLe.fl_sl _ _ | exact VLe.nil_sl _ | exact VLe.nil_fl _ | exact VLes.refl _ | exact .nil | refine VLe.tup ?_ | refine VLe.agg ?_ | refine .cons ?_ ?_ | (rw [Int.natCast_add]; exact VLe.refl _) | exact vle_int (by omega) | exact vle_bool (by first | rfl | assumption | (simp_all; done)) | fail)); done))) | (refine ble ?_; (repeat (first | exact uE | assumption | refine uN (by omega) ?_ | fail)); done)); refine bl_ne e0_ ?_; by_cases e1_ : k_ = (n + 5); (focus subst e1_; refine bl_eq ?_; first | (refine' blec ?hb ?hl; (case hb => repeat (first | exact uE | assumption | refine uN (by omega) ?_ | fail)); (case hl => first | exact VLes.refl _ | ((repeat' (first | exact VLe.refl _ | exact VLe.own_sl _ _ _ | exact VLe.fl_sl _ _ | exact VLe.nil_sl _ | exact VLe.nil_fl _ | exact VLes.refl _ | exact .nil | refine VLe.tup ?_ | refine VLe.agg ?_ | refine .cons ?_ ?_ | (rw [Int.natCast_add]; exact VLe.refl _) | exact vle_int (by omega) | exact vle_bool (by first | rfl | assumption | (simp_all; done)) | fail)); done))) | (refine ble ?_; (repeat (first | exact uE | assumption | refine uN (by omega) ?_ | fail)); done)); refine bl_ne e1_ ?_; exact ble (by repeat (first | exact rfl | refine uN (by first | assumption | omega) ?_ | assumption | exact hf60 _ (by omega) (by first | assumption | omega) (by first | assumption | omega) (by first | assumption | omega) (by first | assumption | omega) | fail))
          · skip
            refine rl0 (gy rfl rfl rfl rfl rfl rfl) rfl rfl (step_mv rfl rfl) trivial ?_
            refine' rl0 (gy rfl rfl rfl rfl rfl rfl) rfl rfl (step_load_one rfl (ev_mk rfl) F.one3 ?hv) ⟨?hb, trivial⟩ ?_
            case hb => repeat (first | exact uE | refine uN (by omega) ?_ | assumption | exact hd _ (by omega) | exact hd60 _ (by omega) | fail)
            case hv => rfl
            refine rl_eql (gy rfl rfl rfl rfl rfl rfl) rfl rfl rfl rfl rfl (fun h10 => ?_) (fun h10 => ?_)
            · skip
              refine rl0 (gn rfl) rfl rfl (step_pick rfl (ev_mk rfl) (ev_mk rfl)) trivial ?_
              refine' rls (gn rfl) rfl (step_store1 rfl rfl rfl rfl F.one4 rfl rfl ?hl ?hc) ⟨?hb, trivial⟩ ?hk ?_
              case hb => repeat (first | exact uE | refine uN (by omega) ?_ | assumption | exact hd _ (by omega) | exact hd60 _ (by omega) | fail)
              case hl => first | exact Nat.le_of_ble_eq_true rfl | decide | (simp; done) | (simp; omega) | (first | (simp; done) | (simp; omega) | omega)
              case hc => first | (simp only [List.set_cons_succ, List.set_cons_zero]; rfl) | rfl
              case hk => omega
              refine runsL_nil ?_
              refine runs_region ?_
              refine' rl0 (gn rfl) rfl rfl (step_load_one rfl (ev_mk rfl) F.one3 ?hv) ⟨?hb, trivial⟩ ?_
              case hb => repeat (first | exact uE | refine uN (by omega) ?_ | assumption | exact hd _ (by omega) | exact hd60 _ (by omega) | fail)
              case hv => rfl
              refine rl0 (gn rfl) rfl rfl (step_add rfl (ev_mk rfl) (ev_mk rfl) (w64 (by omega))) trivial ?_
              refine' rls (gn rfl) rfl (step_store1 rfl rfl rfl rfl F.one3 rfl rfl ?hl ?hc) ⟨?hb, trivial⟩ ?hk ?_
              case hb => repeat (first | exact uE | refine uN (by omega) ?_ | assumption | exact hd _ (by omega) | exact hd60 _ (by omega) | fail)
              case hl => first | exact Nat.le_of_ble_eq_true rfl | decide | (simp; done) | (simp; omega) | (first | (simp; done) | (simp; omega) | omega)
              case hc => first | (simp only [List.set_cons_succ, List.set_cons_zero]; rfl) | rfl
              case hk => omega
              refine runsL_nil ?_
              first | (have hem_ := met1 (x := x) (y := y) ht60 (by assumption)) | (have hem_ := met2 (x := x) (y := y) ht60 (by assumption)) | (have hem_ := met3 (x := x) (y := y) ht60 (by assumption) (by assumption))
              refine ⟨by exact (if_neg (fun h_ => nomatch h_.1)).symm, by repeat (first | exact uE | refine uN (by omega) ?_ | assumption | exact hd _ (by omega) | exact hd60 _ (by omega) | fail), fun k_ hk_ hl_ => ?_⟩
              simp only [dL, updL, List.map_cons, List.map_nil]; by_cases e0_ : k_ = (n + 4); (focus subst e0_; refine bl_eq ?_; first | (refine' blec ?hb ?hl; (case hb => repeat (first | exact uE | assumption | refine uN (by omega) ?_ | fail)); (case hl => first | exact VLes.refl _ | ((repeat' (first | exact VLe.refl _ | exact VLe.own_sl _ _ _ | exact VLe.fl_sl _ _ | exact VLe.nil_sl _ | exact VLe.nil_fl _ | exact VLes.refl _ | exact .nil | refine VLe.tup ?_ | refine VLe.agg ?_ | refine .cons ?_ ?_ | (rw [Int.natCast_add]; exact VLe.refl _) | exact vle_int (by omega) | exact vle_bool (by first | rfl | assumption | (simp_all; done)) | fail)); done))) | (refine ble ?_; (repeat (first | exact uE | assumption | refine uN (by omega) ?_ | fail)); done)); refine bl_ne e0_ ?_; by_cases e1_ : k_ = (n + 5); (focus subst e1_; refine bl_eq ?_; first | (refine' blec ?hb ?hl; (case hb => repeat (first | exact uE | assumption | refine uN (by omega) ?_ | fail)); (case hl => first | exact VLes.refl _ | ((repeat' (first | exact VLe.refl _ | exact VLe.own_sl _ _ _ | exact VLe.fl_sl _ _ | exact VLe.nil_sl _ | exact VLe.nil_fl _ | exact VLes.refl _ | exact .nil | refine VLe.tup ?_ | refine VLe.agg ?_ | refine .cons ?_ ?_ | (rw [Int.natCast_add]; exact VLe.refl _) | exact vle_int (by omega) | exact vle_bool (by first | rfl | assumption | (simp_all; done)) | fail)); done))) | (refine ble ?_; (repeat (first | exact uE | assumption | refine uN (by omega) ?_ | fail)); done)); refine bl_ne e1_ ?_; exact ble (by repeat (first | exact rfl | refine uN (by first | assumption | omega) ?_ | assumption | exact hf60 _ (by omega) (by first | assumption | omega) (by first | assumption | omega) (by first | assumption | omega) (by first | assumption | omega) | fail))
            · skip
              refine rl0 (gn rfl) rfl rfl (step_pick rfl (ev_mk rfl) (ev_mk rfl)) trivial ?_
              refine' rls (gn rfl) rfl (step_store1 rfl rfl rfl rfl F.one4 rfl rfl ?hl ?hc) ⟨?hb, trivial⟩ ?hk ?_
              case hb => repeat (first | exact uE | refine uN (by omega) ?_ | assumption | exact hd _ (by omega) | exact hd60 _ (by omega) | fail)
              case hl => first | exact Nat.le_of_ble_eq_true rfl | decide | (simp; done) | (simp; omega) | (first | (simp; done) | (simp; omega) | omega)
              case hc => first | (simp only [List.set_cons_succ, List.set_cons_zero]; rfl) | rfl
              case hk => omega
              refine runsL_nil ?_
              refine runs_region ?_
              refine' rl0 (gn rfl) rfl rfl (step_load_one rfl (ev_mk rfl) F.one3 ?hv) ⟨?hb, trivial⟩ ?_
              case hb => repeat (first | exact uE | refine uN (by omega) ?_ | assumption | exact hd _ (by omega) | exact hd60 _ (by omega) | fail)
              case hv => rfl
              refine rl0 (gn rfl) rfl rfl (step_add rfl (ev_mk rfl) (ev_mk rfl) (w64 (by omega))) trivial ?_
              refine' rls (gn rfl) rfl (step_store1 rfl rfl rfl rfl F.one3 rfl rfl ?hl ?hc) ⟨?hb, trivial⟩ ?hk ?_
              case hb => repeat (first | exact uE | refine uN (by omega) ?_ | assumption | exact hd _ (by omega) | exact hd60 _ (by omega) | fail)
              case hl => first | exact Nat.le_of_ble_eq_true rfl | decide | (simp; done) | (simp; omega) | (first | (simp; done) | (simp; omega) | omega)
              case hc => first | (simp only [List.set_cons_succ, List.set_cons_zero]; rfl) | rfl
              case hk => omega
              refine runsL_nil ?_
              first | (have hem_ := met1 (x := x) (y := y) ht60 (by assumption)) | (have hem_ := met2 (x := x) (y := y) ht60 (by assumption)) | (have hem_ := met3 (x := x) (y := y) ht60 (by assumption) (by assumption))
              refine ⟨by exact (if_neg (fun h_ => nomatch h_.1)).symm, by repeat (first | exact uE | refine uN (by omega) ?_ | assumption | exact hd _ (by omega) | exact hd60 _ (by omega) | fail), fun k_ hk_ hl_ => ?_⟩
              simp only [dL, updL, List.map_cons, List.map_nil]; by_cases e0_ : k_ = (n + 4); (focus subst e0_; refine bl_eq ?_; first | (refine' blec ?hb ?hl; (case hb => repeat (first | exact uE | assumption | refine uN (by omega) ?_ | fail)); (case hl => first | exact VLes.refl _ | ((repeat' (first | exact VLe.refl _ | exact VLe.own_sl _ _ _ | exact VLe.fl_sl _ _ | exact VLe.nil_sl _ | exact VLe.nil_fl _ | exact VLes.refl _ | exact .nil | refine VLe.tup ?_ | refine VLe.agg ?_ | refine .cons ?_ ?_ | (rw [Int.natCast_add]; exact VLe.refl _) | exact vle_int (by omega) | exact vle_bool (by first | rfl | assumption | (simp_all; done)) | fail)); done))) | (refine ble ?_; (repeat (first | exact uE | assumption | refine uN (by omega) ?_ | fail)); done)); refine bl_ne e0_ ?_; by_cases e1_ : k_ = (n + 5); (focus subst e1_; refine bl_eq ?_; first | (refine' blec ?hb ?hl; (case hb => repeat (first | exact uE | assumption | refine uN (by omega) ?_ | fail)); (case hl => first | exact VLes.refl _ | ((repeat' (first | exact VLe.refl _ | exact VLe.own_sl _ _ _ | exact VLe.fl_sl _ _ | exact VLe.nil_sl _ | exact VLe.nil_fl _ | exact VLes.refl _ | exact .nil | refine VLe.tup ?_ | refine VLe.agg ?_ | refine .cons ?_ ?_ | (rw [Int.natCast_add]; exact VLe.refl _) | exact vle_int (by omega) | exact vle_bool (by first | rfl | assumption | (simp_all; done)) | fail)); done))) | (refine ble ?_; (repeat (first | exact uE | assumption | refine uN (by omega) ?_ | fail)); done)); refine bl_ne e1_ ?_; exact ble (by repeat (first | exact rfl | refine uN (by first | assumption | omega) ?_ | assumption | exact hf60 _ (by omega) (by first | assumption | omega) (by first | assumption | omega) (by first | assumption | omega) (by first | assumption | omega) | fail))
        · intro bb60 b60 hb60
          simp only [dL, eM, updL, List.map_cons, List.map_nil] at hb60
          subst hb60
          refine runs_seq ?_
          refine runs_draw (by kernel_rfl) (by kernel_rfl) (by kernel_rfl) ?_
          refine' dl0 (gn rfl) rfl rfl (step_load_one rfl (ev_mk rfl) F.one3 ?hv) ⟨?hb, trivial⟩ ?_
          case hb => repeat (first | exact uE | refine uN (by omega) ?_ | assumption | exact hd _ (by omega) | fail)
          case hv => rfl
          refine' dl0 (gn rfl) rfl rfl (step_load_one rfl (ev_mk rfl) F.one35 ?hv) ⟨?hb, trivial⟩ ?_
          case hb => repeat (first | exact uE | refine uN (by omega) ?_ | assumption | exact hd _ (by omega) | fail)
          case hv => rfl
          refine dl0 (gn rfl) rfl rfl (step_len (m := (touL a b c d).length) rfl rfl (ev_mk rfl) (.inl ⟨⟨_, Try.underlying35⟩, .inl ⟨_, _, .inl rfl, List.length_map _⟩⟩)) trivial ?_
          refine dl_eql (gn rfl) rfl rfl rfl rfl rfl (fun h7 => ?_) (fun h7 => ?_)
          rotate_left
          · exact False.elim (by omega)
          refine dl0 (gn rfl) rfl rfl (step_mv rfl rfl) trivial ?_
          refine' dl0 (gy rfl rfl rfl rfl rfl rfl) rfl rfl (step_load_all rfl rfl F.agg24 ?hl) ⟨?hb, trivial⟩ ?_
          case hb => repeat (first | exact uE | refine uN (by omega) ?_ | assumption | exact hd _ (by omega) | fail)
          case hl => first | rfl | (simp; done) | (first | (simp; done) | (simp; omega) | omega)
          refine dl0 (gy rfl rfl rfl rfl rfl rfl) rfl rfl (step_callc rfl Try.func20 rfl rfl rfl (cnt_c g0 g1 g2 g3) (by repeat (first | exact .nil | refine .cons ?_ ?_ | exact VLe.refl _ | exact VLe.own_sl _ _ _ | exact VLe.fl_sl _ _ | exact VLe.nil_sl _ | exact VLe.nil_fl _ | refine VLe.agg ?_))) trivial ?_
          refine' dl0 (gy rfl rfl rfl rfl rfl rfl) rfl rfl (step_load_one rfl (ev_mk rfl) F.one3 ?hv) ⟨?hb, trivial⟩ ?_
          case hb => repeat (first | exact uE | refine uN (by omega) ?_ | assumption | exact hd _ (by omega) | fail)
          case hv => rfl
          refine dl_eql (gy rfl rfl rfl rfl rfl rfl) rfl rfl rfl rfl rfl (fun h8 => ?_) (fun h8 => ?_)
          rotate_left
          · exact False.elim (by omega)
          refine dl0 (gn rfl) rfl rfl (step_pick rfl (ev_mk rfl) (ev_mk rfl)) trivial ?_
          refine dl0 (gn rfl) rfl rfl (step_mv rfl rfl) trivial ?_
          refine' dl0 (gy rfl rfl rfl rfl rfl rfl) rfl rfl (step_load_all rfl rfl F.agg24 ?hl) ⟨?hb, trivial⟩ ?_
          case hb => repeat (first | exact uE | refine uN (by omega) ?_ | assumption | exact hd _ (by omega) | fail)
          case hl => first | rfl | (simp; done) | (first | (simp; done) | (simp; omega) | omega)
          refine dl0 (gy rfl rfl rfl rfl rfl rfl) rfl rfl (step_mv rfl rfl) trivial ?_
          refine dl0 (gy rfl rfl rfl rfl rfl rfl) rfl rfl (step_mv rfl rfl) trivial ?_
          refine dl0 (gy rfl rfl rfl rfl rfl rfl) rfl rfl (step_callc rfl Try.func7 rfl rfl rfl (has_c) (by repeat (first | exact .nil | refine .cons ?_ ?_ | exact VLe.refl _ | exact VLe.own_sl _ _ _ | exact VLe.fl_sl _ _ | exact VLe.nil_sl _ | exact VLe.nil_fl _ | refine VLe.agg ?_))) trivial ?_
          refine dl0 (gy rfl rfl rfl rfl rfl rfl) rfl rfl (step_unOp rfl (ev_mk rfl) (fun _ => rfl)) trivial ?_
          refine dl0 (gy rfl rfl rfl rfl rfl rfl) rfl rfl (step_mv rfl rfl) trivial ?_
          refine dl_bool (d := 111) rfl (fun h9 => ?_) (fun h9 => ?_)
          · skip
            refine dlk rfl rfl rfl rfl rfl (ngb rfl rfl) rfl rfl ?_
            refine dl0 (gy rfl rfl rfl rfl rfl rfl) rfl rfl (step_pick rfl (ev_mk rfl) (ev_mk rfl)) trivial ?_
            refine dl0 (gn rfl) rfl rfl (step_pick rfl (ev_mk rfl) (ev_mk rfl)) trivial ?_
            refine dl0 (gn rfl) rfl rfl (step_mv rfl rfl) trivial ?_
            refine dl0 (gy rfl rfl rfl rfl rfl rfl) rfl rfl (step_callc rfl Try.func14 rfl rfl rfl (works_c) (by repeat (first | exact .nil | refine .cons ?_ ?_ | exact VLe.refl _ | exact VLe.own_sl _ _ _ | exact VLe.fl_sl _ _ | exact VLe.nil_sl _ | exact VLe.nil_fl _ | refine VLe.agg ?_))) trivial ?_
            refine dl0 (gn rfl) rfl rfl (step_pick rfl (ev_mk rfl) (ev_mk rfl)) trivial ?_
            refine' dls (gn rfl) rfl (step_store1 rfl rfl rfl rfl F.one4 rfl rfl ?hl ?hc) ⟨?hb, trivial⟩ ?hk ?_
            case hb => repeat (first | exact uE | refine uN (by omega) ?_ | assumption | exact hd _ (by omega) | fail)
            case hl => first | exact Nat.le_of_ble_eq_true rfl | decide | (simp; done) | (simp; omega) | (first | (simp; done) | (simp; omega) | omega)
            case hc => first | (simp only [List.set_cons_succ, List.set_cons_zero]; rfl) | rfl
            case hk => omega
            refine dlnil ?_ ?_
            · repeat' (first | exact trivial | exact .inr (ap0 _ _ _ _) | exact .inr (ap2 _ _ _ _) | exact .inr (ap3 _ _ _ _) | exact .inr ⟨by first | (simp; done) | (simp; omega), by first | (simp; done) | (simp; omega)⟩ | exact .inl (by kernel_rfl) | refine ⟨?_, ?_⟩ | fail)
            refine runs_ret ?_
            refine ⟨by first | exact .inr rfl | exact .inl rfl, fin_mkg (resc1 rfl (by repeat (first | exact uE | refine uN (by omega) ?_ | assumption | exact hd _ (by omega) | fail)) F.one4 rfl res0) ?_ ?_ ?_ ?_ ?_⟩
            · (repeat' (first | exact VLe.refl _ | exact VLe.own_sl _ _ _ | exact VLe.fl_sl _ _ | exact VLe.nil_sl _ | exact VLe.nil_fl _ | exact VLes.refl _ | exact .nil | refine VLe.tup ?_ | refine VLe.agg ?_ | refine .cons ?_ ?_ | (rw [Int.natCast_add]; exact VLe.refl _) | exact vle_int (by omega) | exact vle_bool (by first | rfl | assumption | (simp_all; done)) | fail))
            · repeat (first | exact trivial | assumption | omega | (refine bdR_map (fun _ => ?_)) | (refine bdL_map (fun _ => ?_)) | refine ⟨?_, ?_⟩ | fail)
            · intro k_ hk_; exact ble (by repeat (first | exact rfl | refine uN (by omega) ?_ | assumption | fail))
            · intro p hp; cases hp
            · repeat (first | exact trivial | assumption | omega | (refine bdR_map (fun _ => ?_)) | (refine bdL_map (fun _ => ?_)) | refine ⟨?_, ?_⟩ | fail)
          · skip
            refine' dl0 (gy rfl rfl rfl rfl rfl rfl) rfl rfl (step_load_one rfl (ev_mk rfl) F.one4 ?hv) ⟨?hb, trivial⟩ ?_
            case hb => repeat (first | exact uE | refine uN (by omega) ?_ | assumption | exact hd _ (by omega) | fail)
            case hv => rfl
            refine dl_know (d := 112) (c := true) rfl (met_all g0 g1 g2 g3 hx hy (by assumption)) ?_
            refine dl0 (gy rfl rfl rfl rfl rfl rfl) rfl rfl (step_pick rfl (ev_mk rfl) (ev_mk rfl)) trivial ?_
            refine dl0 (gn rfl) rfl rfl (step_pick rfl (ev_mk rfl) (ev_mk rfl)) trivial ?_
            refine dl0 (gn rfl) rfl rfl (step_mv rfl rfl) trivial ?_
            refine dl0 (gy rfl rfl rfl rfl rfl rfl) rfl rfl (step_callc rfl Try.func14 rfl rfl rfl (works_c) (by repeat (first | exact .nil | refine .cons ?_ ?_ | exact VLe.refl _ | exact VLe.own_sl _ _ _ | exact VLe.fl_sl _ _ | exact VLe.nil_sl _ | exact VLe.nil_fl _ | refine VLe.agg ?_))) trivial ?_
            refine dl0 (gn rfl) rfl rfl (step_pick rfl (ev_mk rfl) (ev_mk rfl)) trivial ?_
            refine' dls (gn rfl) rfl (step_store1 rfl rfl rfl rfl F.one4 rfl rfl ?hl ?hc) ⟨?hb, trivial⟩ ?hk ?_
            case hb => repeat (first | exact uE | refine uN (by omega) ?_ | assumption | exact hd _ (by omega) | fail)
            case hl => first | exact Nat.le_of_ble_eq_true rfl | decide | (simp; done) | (simp; omega) | (first | (simp; done) | (simp; omega) | omega)
            case hc => first | (simp only [List.set_cons_succ, List.set_cons_zero]; rfl) | rfl
            case hk => omega
            refine dlnil ?_ ?_
            · repeat' (first | exact trivial | exact .inr (ap0 _ _ _ _) | exact .inr (ap2 _ _ _ _) | exact .inr (ap3 _ _ _ _) | exact .inr ⟨by first | (simp; done) | (simp; omega), by first | (simp; done) | (simp; omega)⟩ | exact .inl (by kernel_rfl) | refine ⟨?_, ?_⟩ | fail)
            refine runs_ret ?_
            refine ⟨by first | exact .inr rfl | exact .inl rfl, fin_mkg (resc1 rfl (by repeat (first | exact uE | refine uN (by omega) ?_ | assumption | exact hd _ (by omega) | fail)) F.one4 rfl res0) ?_ ?_ ?_ ?_ ?_⟩
            · (repeat' (first | exact VLe.refl _ | exact VLe.own_sl _ _ _ | exact VLe.fl_sl _ _ | exact VLe.nil_sl _ | exact VLe.nil_fl _ | exact VLes.refl _ | exact .nil | refine VLe.tup ?_ | refine VLe.agg ?_ | refine .cons ?_ ?_ | (rw [Int.natCast_add]; exact VLe.refl _) | exact vle_int (by omega) | exact vle_bool (by first | rfl | assumption | (simp_all; done)) | fail))
            · repeat (first | exact trivial | assumption | omega | (refine bdR_map (fun _ => ?_)) | (refine bdL_map (fun _ => ?_)) | refine ⟨?_, ?_⟩ | fail)
            · intro k_ hk_; exact ble (by repeat (first | exact rfl | refine uN (by omega) ?_ | assumption | fail))
            · intro p hp; cases hp
            · repeat (first | exact trivial | assumption | omega | (refine bdR_map (fun _ => ?_)) | (refine bdL_map (fun _ => ?_)) | refine ⟨?_, ?_⟩ | fail)
  · skip
    refine dl0 (gn rfl) rfl rfl (step_mv rfl rfl) trivial ?_
    refine dl0 (gy rfl rfl rfl rfl rfl rfl) rfl rfl (step_mv rfl rfl) trivial ?_
    refine dl_gtr (gy rfl rfl rfl rfl rfl rfl) rfl rfl rfl rfl rfl (fun h5 => ?_) (fun h5 => ?_)
    · skip
      refine dl0 (gn rfl) rfl rfl (step_pick rfl (ev_mk rfl) (ev_mk rfl)) trivial ?_
      refine dl0 (gn rfl) rfl rfl (step_mv rfl rfl) trivial ?_
      refine dl0 (gn rfl) rfl rfl (step_callc rfl Try.func17 rfl rfl rfl (of_c) (by repeat (first | exact .nil | refine .cons ?_ ?_ | exact VLe.refl _ | exact VLe.own_sl _ _ _ | exact VLe.fl_sl _ _ | exact VLe.nil_sl _ | exact VLe.nil_fl _ | refine VLe.agg ?_))) trivial ?_
      refine dl0 (gn rfl) rfl rfl (step_callc rfl Try.func10 rfl rfl rfl (emp_c) (by repeat (first | exact .nil | refine .cons ?_ ?_ | exact VLe.refl _ | exact VLe.own_sl _ _ _ | exact VLe.fl_sl _ _ | exact VLe.nil_sl _ | exact VLe.nil_fl _ | refine VLe.agg ?_))) trivial ?_
      refine dl_know (d := 47) (c := true) rfl (by rw [em_of]; exact decide_eq_true (by omega)) ?_
      refine dl0 (gn rfl) rfl rfl (step_binOp (c := .bool false) rfl (ev_mk rfl) (ev_mk rfl) (fun _ => rfl)) trivial ?_
      refine dl0 (gn rfl) rfl rfl (step_mv rfl rfl) trivial ?_
      refine dl0 (gy rfl rfl rfl rfl rfl rfl) rfl rfl (step_mv rfl rfl) trivial ?_
      refine dl0 (gy rfl rfl rfl rfl rfl rfl) rfl rfl (step_callc rfl Try.func17 rfl rfl rfl (of_c) (by repeat (first | exact .nil | refine .cons ?_ ?_ | exact VLe.refl _ | exact VLe.own_sl _ _ _ | exact VLe.fl_sl _ _ | exact VLe.nil_sl _ | exact VLe.nil_fl _ | refine VLe.agg ?_))) trivial ?_
      refine dl0 (gy rfl rfl rfl rfl rfl rfl) rfl rfl (step_mv rfl rfl) trivial ?_
      refine dl0 (gy rfl rfl rfl rfl rfl rfl) rfl rfl (step_mv rfl rfl) trivial ?_
      refine dl0 (gy rfl rfl rfl rfl rfl rfl) rfl rfl (step_callc rfl Try.func7 rfl rfl rfl (has_c) (by repeat (first | exact .nil | refine .cons ?_ ?_ | exact VLe.refl _ | exact VLe.own_sl _ _ _ | exact VLe.fl_sl _ _ | exact VLe.nil_sl _ | exact VLe.nil_fl _ | refine VLe.agg ?_))) trivial ?_
      refine dl0 (gy rfl rfl rfl rfl rfl rfl) rfl rfl (step_mv rfl rfl) trivial ?_
      refine' dl0 (gy rfl rfl rfl rfl rfl rfl) rfl rfl (step_load_one rfl (ev_mk rfl) F.one3 ?hv) ⟨?hb, trivial⟩ ?_
      case hb => repeat (first | exact uE | refine uN (by omega) ?_ | assumption | exact hd _ (by omega) | fail)
      case hv => rfl
      refine dl_eql (gy rfl rfl rfl rfl rfl rfl) rfl rfl rfl rfl rfl (fun h6 => ?_) (fun h6 => ?_)
      · skip
        refine dl0 (gy rfl rfl rfl rfl rfl rfl) rfl rfl (step_neqb rfl (ev_mk rfl) (ev_mk rfl) Try.underlying4) trivial ?_
        refine dl0 (gn rfl) rfl rfl (step_pick rfl (ev_mk rfl) (ev_mk rfl)) trivial ?_
        refine dlnil ?_ ?_
        · repeat' (first | exact trivial | exact .inr (ap0 _ _ _ _) | exact .inr (ap2 _ _ _ _) | exact .inr (ap3 _ _ _ _) | exact .inr ⟨by first | (simp; done) | (simp; omega), by first | (simp; done) | (simp; omega)⟩ | exact .inl (by kernel_rfl) | refine ⟨?_, ?_⟩ | fail)
        refine runs_cond _ (ev_mk rfl) (fun h7 => ?_) (fun h7 => ?_)
        · skip
          exact False.elim (by (rw [has_of hx hy] at h7; simp_all))
        · skip
          refine runs_skip ?_
          refine runs_seq ?_
          refine runs_region ?_
          refine' rl0 (gn rfl) rfl rfl (step_load_all rfl rfl F.agg24 ?hl) ⟨?hb, trivial⟩ ?_
          case hb => repeat (first | exact uE | refine uN (by omega) ?_ | assumption | exact hd _ (by omega) | fail)
          case hl => first | rfl | (simp; done) | (first | (simp; done) | (simp; omega) | omega)
          refine rl0 (gn rfl) rfl rfl (step_callc rfl Try.func18 rfl rfl rfl (rtou2 g0 g1 g2 g3) (by repeat (first | exact .nil | refine .cons ?_ ?_ | exact VLe.refl _ | exact VLe.own_sl _ _ _ | exact VLe.fl_sl _ _ | exact VLe.nil_sl _ | exact VLe.nil_fl _ | refine VLe.agg ?_))) trivial ?_
          refine rl1 (gn rfl) rfl rfl (step_allocc (k := n + 3) (zs := [.slice none 0 0]) (cs := [.sc (.slice none 0 0)]) rfl F.zero35 (by first | rfl | simp) (by first | rfl | decide | simp) (by first | rfl | simp)) ⟨by repeat (first | exact uE | refine uN (by omega) ?_ | assumption | exact hd _ (by omega) | fail), trivial⟩ (by omega) ?_
          refine' rls (gn rfl) rfl (step_store1 rfl rfl rfl rfl F.one35 rfl rfl ?hl ?hc) ⟨?hb, trivial⟩ ?hk ?_
          case hb => repeat (first | exact uE | refine uN (by omega) ?_ | assumption | exact hd _ (by omega) | fail)
          case hl => first | exact Nat.le_of_ble_eq_true rfl | decide | (simp; done) | (simp; omega) | (first | (simp; done) | (simp; omega) | omega)
          case hc => first | (simp only [List.set_cons_succ, List.set_cons_zero]; rfl) | rfl
          case hk => omega
          refine runsL_nil ?_
          refine runs_seq ?_
          refine runs_region ?_
          refine rl1 (gn rfl) rfl rfl (step_allocc (k := n + 4) (zs := [.int .i64 0]) (cs := [.sc (.int .i64 0)]) rfl F.zero3 (by first | rfl | simp) (by first | rfl | decide | simp) (by first | rfl | simp)) ⟨by repeat (first | exact uE | refine uN (by omega) ?_ | assumption | exact hd _ (by omega) | fail), trivial⟩ (by omega) ?_
          refine' rls (gn rfl) rfl (step_store1 rfl rfl rfl rfl F.one3 rfl rfl ?hl ?hc) ⟨?hb, trivial⟩ ?hk ?_
          case hb => repeat (first | exact uE | refine uN (by omega) ?_ | assumption | exact hd _ (by omega) | fail)
          case hl => first | exact Nat.le_of_ble_eq_true rfl | decide | (simp; done) | (simp; omega) | (first | (simp; done) | (simp; omega) | omega)
          case hc => first | (simp only [List.set_cons_succ, List.set_cons_zero]; rfl) | rfl
          case hk => omega
          refine runsL_nil ?_
          refine runs_seq ?_
          refine runs_region ?_
          refine rl1 (gn rfl) rfl rfl (step_allocc (k := n + 5) (zs := [.bool false]) (cs := [.sc (.bool false)]) rfl F.zero4 (by first | rfl | simp) (by first | rfl | decide | simp) (by first | rfl | simp)) ⟨by repeat (first | exact uE | refine uN (by omega) ?_ | assumption | exact hd _ (by omega) | fail), trivial⟩ (by omega) ?_
          refine' rls (gn rfl) rfl (step_store1 rfl rfl rfl rfl F.one4 rfl rfl ?hl ?hc) ⟨?hb, trivial⟩ ?hk ?_
          case hb => repeat (first | exact uE | refine uN (by omega) ?_ | assumption | exact hd _ (by omega) | fail)
          case hl => first | exact Nat.le_of_ble_eq_true rfl | decide | (simp; done) | (simp; omega) | (first | (simp; done) | (simp; omega) | omega)
          case hc => first | (simp only [List.set_cons_succ, List.set_cons_zero]; rfl) | rfl
          case hk => omega
          refine runsL_nil ?_
          refine runs_seq ?_
          refine runs_region ?_
          refine' rl0 (gn rfl) rfl rfl (step_load_all rfl rfl F.agg24 ?hl) ⟨?hb, trivial⟩ ?_
          case hb => repeat (first | exact uE | refine uN (by omega) ?_ | assumption | exact hd _ (by omega) | fail)
          case hl => first | rfl | (simp; done) | (first | (simp; done) | (simp; omega) | omega)
          refine rl1 (gn rfl) rfl rfl (step_callc rfl Try.func19 rfl rfl rfl (tou_c (kk := (n + 6))) (by repeat (first | exact .nil | refine .cons ?_ ?_ | exact VLe.refl _ | exact VLe.own_sl _ _ _ | exact VLe.fl_sl _ _ | exact VLe.nil_sl _ | exact VLe.nil_fl _ | refine VLe.agg ?_))) ⟨by repeat (first | exact uE | refine uN (by omega) ?_ | assumption | exact hd _ (by omega) | fail), trivial⟩ (by omega) ?_
          refine rl0 (gn rfl) rfl rfl (step_as rfl rfl) trivial ?_
          refine runsL_nil ?_
          refine runs_seq ?_
          refine runs_seq ?_
          refine runs_region ?_
          refine rl0 (gn rfl) rfl rfl (step_mv rfl rfl) trivial ?_
          refine rl0 (gn rfl) rfl rfl (step_eq_nilf (b := false) rfl (ev_mk rfl) (ev_mk rfl) Try.underlying38 ⟨_, .inl ⟨.inl ⟨_, _, rfl⟩, rfl⟩, .inl ⟨rfl, rfl⟩⟩) trivial ?_
          refine runsL_nil ?_
          refine runs_cond false (ev_mk rfl) (fun h_ => nomatch h_) (fun _ => ?_)
          refine runs_skip ?_
          refine runs_seq ?_
          refine runs_seq ?_
          refine runs_region ?_
          refine rl0 (gn rfl) rfl rfl (step_mv rfl rfl) trivial ?_
          refine runsL_nil ?_
          refine runs_block ?_
          refine runs_rangeL (f := 22) (caps := [.ref (n + 6) 0]) (xs := (touL a b c d).map enT) (Dl := [(n + 4, fun i60 => .cells [.sc (.int .i64 (i60 : Nat))]), (n + 5, fun i60 => .cells [.sc (.bool (metF a b c d x y i60))])]) (El := [(n + 6, .cells (rcC a b c d), fun m_ b_ => .cells (rcC a b c d))]) (kl := n + 7) (m := (touL a b c d).length) (brk := false) (ex := .normal) hO rfl (.inl rfl) Try.func22 rfl rfl (tou_i g0 g1 g2 g3) (by repeat (first | exact uE | refine uN (by omega) ?_ | assumption | exact hd _ (by omega) | fail)) (by omega) (by simp) (fun h_ => nomatch h_) (fun _ => ⟨by simp, rfl⟩) (fun v_ hv_ => by obtain ⟨_, _, rfl⟩ := List.mem_map.1 hv_; rfl) rfl ⟨⟨by dsimp only; omega, trivial⟩, ⟨trivial, trivial⟩⟩ ⟨⟨by dsimp only; omega, by dsimp only; omega, ⟨by dsimp only; omega, trivial⟩, by dsimp only; (first | ((repeat (first | exact uE | assumption | refine uN (by omega) ?_ | fail)); done) | (refine Eq.trans (b := .cells [.sc (.int .i64 0)]) (by repeat (first | exact uE | assumption | refine uN (by omega) ?_ | fail)) ?_; first | rfl | (simp; done)))⟩, ⟨by dsimp only; omega, by dsimp only; omega, ⟨by dsimp only; omega, trivial⟩, by dsimp only; (first | ((repeat (first | exact uE | assumption | refine uN (by omega) ?_ | fail)); done) | (refine Eq.trans (b := .cells [.sc (.bool false)]) (by repeat (first | exact uE | assumption | refine uN (by omega) ?_ | fail)) ?_; first | rfl | (simp; done)))⟩, trivial⟩ ⟨⟨by dsimp only; omega, by dsimp only; omega, by dsimp only; repeat (first | exact uE | refine uN (by omega) ?_ | assumption | exact hd _ (by omega) | fail)⟩, trivial⟩ (fun i60 => ⟨bdb_cells (by repeat (first | exact trivial | assumption | omega | (refine bdR_map (fun _ => ?_)) | (refine bdL_map (fun _ => ?_)) | refine ⟨?_, ?_⟩ | fail)), bdb_cells (by repeat (first | exact trivial | assumption | omega | (refine bdR_map (fun _ => ?_)) | (refine bdL_map (fun _ => ?_)) | refine ⟨?_, ?_⟩ | fail)), trivial⟩) ⟨bdb_cells (by repeat (first | exact trivial | assumption | omega | (refine bdR_map (fun _ => ?_)) | (refine bdL_map (fun _ => ?_)) | refine ⟨?_, ?_⟩ | fail)), trivial⟩ ?_ ?_
          · intro i60 v60 hi60 hv60 B60 n60 lr60 bx60 hR60 hl60 hk60 ho60 he60 hn60 hd60 hD60 hfr60
            have hf60 : ∀ k_, k_ < _ → k_ ≠ n + 4 → k_ ≠ n + 5 → k_ ≠ n + 6 → k_ ≠ n + 7 → bx60 k_ = _ := fun k_ a_ e0_ e1_ e2_ e3_ => hfr60 k_ a_ ⟨e0_, e1_, e2_, trivial⟩ e3_
            have hb60_0 : bx60 (n + 4) = .cells [.sc (.int .i64 (i60 : Nat))] := hD60.1
            have hb60_1 : bx60 (n + 5) = .cells [.sc (.bool (metF a b c d x y i60))] := hD60.2.1
            have hc60_0 : bx60 (n + 0) = .cells [.sc (.int .u32 a), .sc (.int .u32 b), .sc (.int .u32 c), .sc (.int .u32 d)] := (hf60 _ (by omega) (by omega) (by omega) (by omega) (by omega)).trans (by repeat (first | exact uE | refine uN (by omega) ?_ | assumption | exact hd _ (by omega) | fail))
            have hc60_1 : bx60 (n + 1) = .cells [.sc (.bool false)] := (hf60 _ (by omega) (by omega) (by omega) (by omega) (by omega)).trans (by repeat (first | exact uE | refine uN (by omega) ?_ | assumption | exact hd _ (by omega) | fail))
            have hc60_2 : bx60 (n + 2) = .cells [.sc (.int .i64 (tiF x y))] := (hf60 _ (by omega) (by omega) (by omega) (by omega) (by omega)).trans (by repeat (first | exact uE | refine uN (by omega) ?_ | assumption | exact hd _ (by omega) | fail))
            have hc60_3 : bx60 (n + 3) = .cells [.sl 1 ((touL a b c d).map enT)] := (hf60 _ (by omega) (by omega) (by omega) (by omega) (by omega)).trans (by repeat (first | exact uE | refine uN (by omega) ?_ | assumption | exact hd _ (by omega) | fail))
            obtain ⟨t60, ht60, rfl⟩ := map_get hv60
            refine runs_keep (l' := [(67, .sc (.int .i64 t60)), (4, .ref (n + 0) 0), (8, .ref (n + 1) 0), (9, .ref (n + 2) 0), (10, .ref (n + 3) 0), (11, .ref (n + 4) 0), (12, .ref (n + 5) 0)]) ?_ ?_
            · (repeat' (first | exact trivial | refine ⟨⟨_, rfl, ?_⟩, ?_⟩ | fail)); all_goals (repeat' (first | exact VLe.refl _ | exact VLe.own_sl _ _ _ | exact VLe.fl_sl _ _ | exact VLe.nil_sl _ | exact VLe.nil_fl _ | exact VLes.refl _ | exact .nil | refine VLe.tup ?_ | refine VLe.agg ?_ | refine .cons ?_ ?_ | (rw [Int.natCast_add]; exact VLe.refl _) | exact vle_int (by omega) | exact vle_bool (by first | rfl | assumption | (simp_all; done)) | fail))
            refine runs_bump 40 ?_
            refine runs_region ?_
            refine rl0 (gn rfl) rfl rfl (step_as rfl rfl) trivial ?_
            refine runsL_nil ?_
            refine ⟨rfl, by first | rfl | (repeat (first | exact uE | refine uN (by omega) ?_ | assumption | exact hd _ (by omega) | exact hd60 _ (by omega) | fail)), fun r60 => ?_⟩
            show Runs _ _ _ _ ⟨mk _, _ + _, upd _ _ _⟩ _
            refine runs_block ?_
            refine runs_seq ?_
            refine runs_seq ?_
            refine runs_draw (by kernel_rfl) (by kernel_rfl) (by kernel_rfl) ?_
            refine' dl0 (gn rfl) rfl rfl (step_load_one rfl (ev_mk rfl) F.one3 ?hv) ⟨?hb, trivial⟩ ?_
            case hb => repeat (first | exact uE | refine uN (by omega) ?_ | assumption | exact hd _ (by omega) | exact hd60 _ (by omega) | fail)
            case hv => rfl
            refine' dl0 (gn rfl) rfl rfl (step_load_one rfl (ev_mk rfl) F.one35 ?hv) ⟨?hb, trivial⟩ ?_
            case hb => repeat (first | exact uE | refine uN (by omega) ?_ | assumption | exact hd _ (by omega) | exact hd60 _ (by omega) | fail)
            case hv => rfl
            refine dl0 (gn rfl) rfl rfl (step_len (m := (touL a b c d).length) rfl rfl (ev_mk rfl) (.inl ⟨⟨_, Try.underlying35⟩, .inl ⟨_, _, .inl rfl, List.length_map _⟩⟩)) trivial ?_
            refine dl_geq (gn rfl) rfl rfl rfl rfl rfl (fun h8 => ?_) (fun h8 => ?_)
            · exact False.elim (by omega)
            refine dl0 (gn rfl) rfl rfl (step_mv rfl rfl) trivial ?_
            refine' dl0 (gy rfl rfl rfl rfl rfl rfl) rfl rfl (step_load_one rfl (ev_mk rfl) F.one35 ?hv) ⟨?hb, trivial⟩ ?_
            case hb => repeat (first | exact uE | refine uN (by omega) ?_ | assumption | exact hd _ (by omega) | exact hd60 _ (by omega) | fail)
            case hv => rfl
            refine' dl0 (gy rfl rfl rfl rfl rfl rfl) rfl rfl (step_load_one rfl (ev_mk rfl) F.one3 ?hv) ⟨?hb, trivial⟩ ?_
            case hb => repeat (first | exact uE | refine uN (by omega) ?_ | assumption | exact hd _ (by omega) | exact hd60 _ (by omega) | fail)
            case hv => rfl
            refine' dl0 (gy rfl rfl rfl rfl rfl rfl) rfl rfl (step_index rfl (ev_mk rfl) (.inl rfl) (ev_mk rfl) Try.underlying35 F.sz3 (by omega) ?hr) trivial ?_
            case hr => exact map_at _ _ _ (by omega) (by omega)
            refine dl0 (gy rfl rfl rfl rfl rfl rfl) rfl rfl (step_load_ro rfl (ev_mk rfl) F.one3 rfl) trivial ?_
            refine dl0 (gy rfl rfl rfl rfl rfl rfl) rfl rfl (step_mv rfl rfl) trivial ?_
            refine dl_neq (gy rfl rfl rfl rfl rfl rfl) rfl rfl rfl rfl rfl (fun h9 => ?_) (fun h9 => ?_)
            · exact False.elim (by exact h9 (at_get ht60))
            refine dl0 (gn rfl) rfl rfl (step_pick rfl (ev_mk rfl) (ev_mk rfl)) trivial ?_
            refine dl0 (gn rfl) rfl rfl (step_mv rfl rfl) trivial ?_
            refine dl0 (gy rfl rfl rfl rfl rfl rfl) rfl rfl (step_mv rfl rfl) trivial ?_
            refine dl0 (gy rfl rfl rfl rfl rfl rfl) rfl rfl (step_callc rfl Try.func17 rfl rfl rfl (of_c) (by repeat (first | exact .nil | refine .cons ?_ ?_ | exact VLe.refl _ | exact VLe.own_sl _ _ _ | exact VLe.fl_sl _ _ | exact VLe.nil_sl _ | exact VLe.nil_fl _ | refine VLe.agg ?_))) trivial ?_
            refine' dl0 (gy rfl rfl rfl rfl rfl rfl) rfl rfl (step_load_all rfl rfl F.agg24 ?hl) ⟨?hb, trivial⟩ ?_
            case hb => repeat (first | exact uE | refine uN (by omega) ?_ | assumption | exact hd _ (by omega) | exact hd60 _ (by omega) | fail)
            case hl => first | rfl | (simp; done) | (first | (simp; done) | (simp; omega) | omega)
            refine dl0 (gy rfl rfl rfl rfl rfl rfl) rfl rfl (step_callc rfl Try.func11 rfl rfl rfl (meets_c) (by repeat (first | exact .nil | refine .cons ?_ ?_ | exact VLe.refl _ | exact VLe.own_sl _ _ _ | exact VLe.fl_sl _ _ | exact VLe.nil_sl _ | exact VLe.nil_fl _ | refine VLe.agg ?_))) trivial ?_
            refine dl_know (d := 84) (c := true) rfl (meets_of g0 g1 g2 g3 (List.mem_of_getElem? ht60)) ?_
            refine dl0 (gy rfl rfl rfl rfl rfl rfl) rfl rfl (step_unOp (c := .bool false) rfl (ev_mk rfl) (fun _ => rfl)) trivial ?_
            refine dl0 (gn rfl) rfl rfl (step_pick rfl (ev_mk rfl) (ev_mk rfl)) trivial ?_
            refine dlnil ?_ ?_
            · repeat' (first | exact trivial | exact .inr (ap0 _ _ _ _) | exact .inr (ap2 _ _ _ _) | exact .inr (ap3 _ _ _ _) | exact .inr ⟨by first | (simp; done) | (simp; omega), by first | (simp; done) | (simp; omega)⟩ | exact .inl (by kernel_rfl) | refine ⟨?_, ?_⟩ | fail)
            refine runs_cond false (ev_mk rfl) (fun h_ => nomatch h_) (fun _ => ?_)
            refine runs_skip ?_
            refine runs_seq ?_
            refine runs_region ?_
            refine' rl0 (gn rfl) rfl rfl (step_load_one rfl (ev_mk rfl) F.one4 ?hv) ⟨?hb, trivial⟩ ?_
            case hb => repeat (first | exact uE | refine uN (by omega) ?_ | assumption | exact hd _ (by omega) | exact hd60 _ (by omega) | fail)
            case hv => rfl
            refine rl0 (gn rfl) rfl rfl (step_mv rfl rfl) trivial ?_
            refine rl_bool (d := 88) rfl (fun h10 => ?_) (fun h10 => ?_)
            · skip
              refine rlk rfl rfl rfl rfl rfl (ngb rfl rfl) rfl rfl ?_
              refine rlk rfl rfl rfl rfl rfl (ngb rfl rfl) rfl rfl ?_
              refine rlk rfl rfl rfl rfl rfl (ngb rfl rfl) rfl rfl ?_
              refine rl0 (gn rfl) rfl rfl (step_pick rfl (ev_mk rfl) (ev_mk rfl)) trivial ?_
              refine' rls (gn rfl) rfl (step_store1 rfl rfl rfl rfl F.one4 rfl rfl ?hl ?hc) ⟨?hb, trivial⟩ ?hk ?_
              case hb => repeat (first | exact uE | refine uN (by omega) ?_ | assumption | exact hd _ (by omega) | exact hd60 _ (by omega) | fail)
              case hl => first | exact Nat.le_of_ble_eq_true rfl | decide | (simp; done) | (simp; omega) | (first | (simp; done) | (simp; omega) | omega)
              case hc => first | (simp only [List.set_cons_succ, List.set_cons_zero]; rfl) | rfl
              case hk => omega
              refine runsL_nil ?_
              refine runs_region ?_
              refine' rl0 (gn rfl) rfl rfl (step_load_one rfl (ev_mk rfl) F.one3 ?hv) ⟨?hb, trivial⟩ ?_
              case hb => repeat (first | exact uE | refine uN (by omega) ?_ | assumption | exact hd _ (by omega) | exact hd60 _ (by omega) | fail)
              case hv => rfl
              refine rl0 (gn rfl) rfl rfl (step_add rfl (ev_mk rfl) (ev_mk rfl) (w64 (by omega))) trivial ?_
              refine' rls (gn rfl) rfl (step_store1 rfl rfl rfl rfl F.one3 rfl rfl ?hl ?hc) ⟨?hb, trivial⟩ ?hk ?_
              case hb => repeat (first | exact uE | refine uN (by omega) ?_ | assumption | exact hd _ (by omega) | exact hd60 _ (by omega) | fail)
              case hl => first | exact Nat.le_of_ble_eq_true rfl | decide | (simp; done) | (simp; omega) | (first | (simp; done) | (simp; omega) | omega)
              case hc => first | (simp only [List.set_cons_succ, List.set_cons_zero]; rfl) | rfl
              case hk => omega
              refine runsL_nil ?_
              first | (have hem_ := met1 (x := x) (y := y) ht60 (by assumption)) | (have hem_ := met2 (x := x) (y := y) ht60 (by assumption)) | (have hem_ := met3 (x := x) (y := y) ht60 (by assumption) (by assumption))
              refine ⟨by exact (if_neg (fun h_ => nomatch h_.1)).symm, by repeat (first | exact uE | refine uN (by omega) ?_ | assumption | exact hd _ (by omega) | exact hd60 _ (by omega) | fail), fun k_ hk_ hl_ => ?_⟩
              simp only [dL, updL, List.map_cons, List.map_nil]; by_cases e0_ : k_ = (n + 4); (focus subst e0_; refine bl_eq ?_; first | (refine' blec ?hb ?hl; (case hb => repeat (first | exact uE | assumption | refine uN (by omega) ?_ | fail)); (case hl => first | exact VLes.refl _ | ((repeat' (first | exact VLe.refl _ | exact VLe.own_sl _ _ _ | exact VLe.fl_sl _ _ | exact VLe.nil_sl _ | exact VLe.nil_fl _ | exact VLes.refl _ | exact .nil | refine VLe.tup ?_ | refine VLe.agg ?_ | refine .cons ?_ ?_ | (rw [Int.natCast_add]; exact VLe.refl _) | exact vle_int (by omega) | exact vle_bool (by first | rfl | assumption | (simp_all; done)) | fail)); done))) | (refine ble ?_; (repeat (first | exact uE | assumption | refine uN (by omega) ?_ | fail)); done)); refine bl_ne e0_ ?_; by_cases e1_ : k_ = (n + 5); (focus subst e1_; refine bl_eq ?_; first | (refine' blec ?hb ?hl; (case hb => repeat (first | exact uE | assumption | refine uN (by omega) ?_ | fail)); (case hl => first | exact VLes.refl _ | ((repeat' (first | exact VLe.refl _ | exact VLe.own_sl _ _ _ | exact VLe.fl_sl _ _ | exact VLe.nil_sl _ | exact VLe.nil_fl _ | exact VLes.refl _ | exact .nil | refine VLe.tup ?_ | refine VLe.agg ?_ | refine .cons ?_ ?_ | (rw [Int.natCast_add]; exact VLe.refl _) | exact vle_int (by omega) | exact vle_bool (by first | rfl | assumption | (simp_all; done)) | fail)); done))) | (refine ble ?_; (repeat (first | exact uE | assumption | refine uN (by omega) ?_ | fail)); done)); refine bl_ne e1_ ?_; exact ble (by repeat (first | exact rfl | refine uN (by first | assumption | omega) ?_ | assumption | exact hf60 _ (by omega) (by first | assumption | omega) (by first | assumption | omega) (by first | assumption | omega) (by first | assumption | omega) | fail))
            · skip
              refine rl0 (gy rfl rfl rfl rfl rfl rfl) rfl rfl (step_mv rfl rfl) trivial ?_
              refine' rl0 (gy rfl rfl rfl rfl rfl rfl) rfl rfl (step_load_one rfl (ev_mk rfl) F.one3 ?hv) ⟨?hb, trivial⟩ ?_
              case hb => repeat (first | exact uE | refine uN (by omega) ?_ | assumption | exact hd _ (by omega) | exact hd60 _ (by omega) | fail)
              case hv => rfl
              refine rl_eql (gy rfl rfl rfl rfl rfl rfl) rfl rfl rfl rfl rfl (fun h11 => ?_) (fun h11 => ?_)
              · skip
                refine rl0 (gn rfl) rfl rfl (step_pick rfl (ev_mk rfl) (ev_mk rfl)) trivial ?_
                refine' rls (gn rfl) rfl (step_store1 rfl rfl rfl rfl F.one4 rfl rfl ?hl ?hc) ⟨?hb, trivial⟩ ?hk ?_
                case hb => repeat (first | exact uE | refine uN (by omega) ?_ | assumption | exact hd _ (by omega) | exact hd60 _ (by omega) | fail)
                case hl => first | exact Nat.le_of_ble_eq_true rfl | decide | (simp; done) | (simp; omega) | (first | (simp; done) | (simp; omega) | omega)
                case hc => first | (simp only [List.set_cons_succ, List.set_cons_zero]; rfl) | rfl
                case hk => omega
                refine runsL_nil ?_
                refine runs_region ?_
                refine' rl0 (gn rfl) rfl rfl (step_load_one rfl (ev_mk rfl) F.one3 ?hv) ⟨?hb, trivial⟩ ?_
                case hb => repeat (first | exact uE | refine uN (by omega) ?_ | assumption | exact hd _ (by omega) | exact hd60 _ (by omega) | fail)
                case hv => rfl
                refine rl0 (gn rfl) rfl rfl (step_add rfl (ev_mk rfl) (ev_mk rfl) (w64 (by omega))) trivial ?_
                refine' rls (gn rfl) rfl (step_store1 rfl rfl rfl rfl F.one3 rfl rfl ?hl ?hc) ⟨?hb, trivial⟩ ?hk ?_
                case hb => repeat (first | exact uE | refine uN (by omega) ?_ | assumption | exact hd _ (by omega) | exact hd60 _ (by omega) | fail)
                case hl => first | exact Nat.le_of_ble_eq_true rfl | decide | (simp; done) | (simp; omega) | (first | (simp; done) | (simp; omega) | omega)
                case hc => first | (simp only [List.set_cons_succ, List.set_cons_zero]; rfl) | rfl
                case hk => omega
                refine runsL_nil ?_
                first | (have hem_ := met1 (x := x) (y := y) ht60 (by assumption)) | (have hem_ := met2 (x := x) (y := y) ht60 (by assumption)) | (have hem_ := met3 (x := x) (y := y) ht60 (by assumption) (by assumption))
                refine ⟨by exact (if_neg (fun h_ => nomatch h_.1)).symm, by repeat (first | exact uE | refine uN (by omega) ?_ | assumption | exact hd _ (by omega) | exact hd60 _ (by omega) | fail), fun k_ hk_ hl_ => ?_⟩
                simp only [dL, updL, List.map_cons, List.map_nil]; by_cases e0_ : k_ = (n + 4); (focus subst e0_; refine bl_eq ?_; first | (refine' blec ?hb ?hl; (case hb => repeat (first | exact uE | assumption | refine uN (by omega) ?_ | fail)); (case hl => first | exact VLes.refl _ | ((repeat' (first | exact VLe.refl _ | exact VLe.own_sl _ _ _ | exact VLe.fl_sl _ _ | exact VLe.nil_sl _ | exact VLe.nil_fl _ | exact VLes.refl _ | exact .nil | refine VLe.tup ?_ | refine VLe.agg ?_ | refine .cons ?_ ?_ | (rw [Int.natCast_add]; exact VLe.refl _) | exact vle_int (by omega) | exact vle_bool (by first | rfl | assumption | (simp_all; done)) | fail)); done))) | (refine ble ?_; (repeat (first | exact uE | assumption | refine uN (by omega) ?_ | fail)); done)); refine bl_ne e0_ ?_; by_cases e1_ : k_ = (n + 5); (focus subst e1_; refine bl_eq ?_; first | (refine' blec ?hb ?hl; (case hb => repeat (first | exact uE | assumption | refine uN (by omega) ?_ | fail)); (case hl => first | exact VLes.refl _ | ((repeat' (first | exact VLe.refl _ | exact VLe.own_sl _ _ _ | exact VLe.fl_sl _ _ | exact VLe.nil_sl _ | exact VLe.nil_fl _ | exact VLes.refl _ | exact .nil | refine VLe.tup ?_ | refine VLe.agg ?_ | refine .cons ?_ ?_ | (rw [Int.natCast_add]; exact VLe.refl _) | exact vle_int (by omega) | exact vle_bool (by first | rfl | assumption | (simp_all; done)) | fail)); done))) | (refine ble ?_; (repeat (first | exact uE | assumption | refine uN (by omega) ?_ | fail)); done)); refine bl_ne e1_ ?_; exact ble (by repeat (first | exact rfl | refine uN (by first | assumption | omega) ?_ | assumption | exact hf60 _ (by omega) (by first | assumption | omega) (by first | assumption | omega) (by first | assumption | omega) (by first | assumption | omega) | fail))
              · skip
                refine rl0 (gn rfl) rfl rfl (step_pick rfl (ev_mk rfl) (ev_mk rfl)) trivial ?_
                refine' rls (gn rfl) rfl (step_store1 rfl rfl rfl rfl F.one4 rfl rfl ?hl ?hc) ⟨?hb, trivial⟩ ?hk ?_
                case hb => repeat (first | exact uE | refine uN (by omega) ?_ | assumption | exact hd _ (by omega) | exact hd60 _ (by omega) | fail)
                case hl => first | exact Nat.le_of_ble_eq_true rfl | decide | (simp; done) | (simp; omega) | (first | (simp; done) | (simp; omega) | omega)
                case hc => first | (simp only [List.set_cons_succ, List.set_cons_zero]; rfl) | rfl
                case hk => omega
                refine runsL_nil ?_
                refine runs_region ?_
                refine' rl0 (gn rfl) rfl rfl (step_load_one rfl (ev_mk rfl) F.one3 ?hv) ⟨?hb, trivial⟩ ?_
                case hb => repeat (first | exact uE | refine uN (by omega) ?_ | assumption | exact hd _ (by omega) | exact hd60 _ (by omega) | fail)
                case hv => rfl
                refine rl0 (gn rfl) rfl rfl (step_add rfl (ev_mk rfl) (ev_mk rfl) (w64 (by omega))) trivial ?_
                refine' rls (gn rfl) rfl (step_store1 rfl rfl rfl rfl F.one3 rfl rfl ?hl ?hc) ⟨?hb, trivial⟩ ?hk ?_
                case hb => repeat (first | exact uE | refine uN (by omega) ?_ | assumption | exact hd _ (by omega) | exact hd60 _ (by omega) | fail)
                case hl => first | exact Nat.le_of_ble_eq_true rfl | decide | (simp; done) | (simp; omega) | (first | (simp; done) | (simp; omega) | omega)
                case hc => first | (simp only [List.set_cons_succ, List.set_cons_zero]; rfl) | rfl
                case hk => omega
                refine runsL_nil ?_
                first | (have hem_ := met1 (x := x) (y := y) ht60 (by assumption)) | (have hem_ := met2 (x := x) (y := y) ht60 (by assumption)) | (have hem_ := met3 (x := x) (y := y) ht60 (by assumption) (by assumption))
                refine ⟨by exact (if_neg (fun h_ => nomatch h_.1)).symm, by repeat (first | exact uE | refine uN (by omega) ?_ | assumption | exact hd _ (by omega) | exact hd60 _ (by omega) | fail), fun k_ hk_ hl_ => ?_⟩
                simp only [dL, updL, List.map_cons, List.map_nil]; by_cases e0_ : k_ = (n + 4); (focus subst e0_; refine bl_eq ?_; first | (refine' blec ?hb ?hl; (case hb => repeat (first | exact uE | assumption | refine uN (by omega) ?_ | fail)); (case hl => first | exact VLes.refl _ | ((repeat' (first | exact VLe.refl _ | exact VLe.own_sl _ _ _ | exact VLe.fl_sl _ _ | exact VLe.nil_sl _ | exact VLe.nil_fl _ | exact VLes.refl _ | exact .nil | refine VLe.tup ?_ | refine VLe.agg ?_ | refine .cons ?_ ?_ | (rw [Int.natCast_add]; exact VLe.refl _) | exact vle_int (by omega) | exact vle_bool (by first | rfl | assumption | (simp_all; done)) | fail)); done))) | (refine ble ?_; (repeat (first | exact uE | assumption | refine uN (by omega) ?_ | fail)); done)); refine bl_ne e0_ ?_; by_cases e1_ : k_ = (n + 5); (focus subst e1_; refine bl_eq ?_; first | (refine' blec ?hb ?hl; (case hb => repeat (first | exact uE | assumption | refine uN (by omega) ?_ | fail)); (case hl => first | exact VLes.refl _ | ((repeat' (first | exact VLe.refl _ | exact VLe.own_sl _ _ _ | exact VLe.fl_sl _ _ | exact VLe.nil_sl _ | exact VLe.nil_fl _ | exact VLes.refl _ | exact .nil | refine VLe.tup ?_ | refine VLe.agg ?_ | refine .cons ?_ ?_ | (rw [Int.natCast_add]; exact VLe.refl _) | exact vle_int (by omega) | exact vle_bool (by first | rfl | assumption | (simp_all; done)) | fail)); done))) | (refine ble ?_; (repeat (first | exact uE | assumption | refine uN (by omega) ?_ | fail)); done)); refine bl_ne e1_ ?_; exact ble (by repeat (first | exact rfl | refine uN (by first | assumption | omega) ?_ | assumption | exact hf60 _ (by omega) (by first | assumption | omega) (by first | assumption | omega) (by first | assumption | omega) (by first | assumption | omega) | fail))
          · intro bb60 b60 hb60
            simp only [dL, eM, updL, List.map_cons, List.map_nil] at hb60
            subst hb60
            refine runs_seq ?_
            refine runs_draw (by kernel_rfl) (by kernel_rfl) (by kernel_rfl) ?_
            refine' dl0 (gn rfl) rfl rfl (step_load_one rfl (ev_mk rfl) F.one3 ?hv) ⟨?hb, trivial⟩ ?_
            case hb => repeat (first | exact uE | refine uN (by omega) ?_ | assumption | exact hd _ (by omega) | fail)
            case hv => rfl
            refine' dl0 (gn rfl) rfl rfl (step_load_one rfl (ev_mk rfl) F.one35 ?hv) ⟨?hb, trivial⟩ ?_
            case hb => repeat (first | exact uE | refine uN (by omega) ?_ | assumption | exact hd _ (by omega) | fail)
            case hv => rfl
            refine dl0 (gn rfl) rfl rfl (step_len (m := (touL a b c d).length) rfl rfl (ev_mk rfl) (.inl ⟨⟨_, Try.underlying35⟩, .inl ⟨_, _, .inl rfl, List.length_map _⟩⟩)) trivial ?_
            refine dl_eql (gn rfl) rfl rfl rfl rfl rfl (fun h8 => ?_) (fun h8 => ?_)
            rotate_left
            · exact False.elim (by omega)
            refine dl0 (gn rfl) rfl rfl (step_mv rfl rfl) trivial ?_
            refine' dl0 (gy rfl rfl rfl rfl rfl rfl) rfl rfl (step_load_all rfl rfl F.agg24 ?hl) ⟨?hb, trivial⟩ ?_
            case hb => repeat (first | exact uE | refine uN (by omega) ?_ | assumption | exact hd _ (by omega) | fail)
            case hl => first | rfl | (simp; done) | (first | (simp; done) | (simp; omega) | omega)
            refine dl0 (gy rfl rfl rfl rfl rfl rfl) rfl rfl (step_callc rfl Try.func20 rfl rfl rfl (cnt_c g0 g1 g2 g3) (by repeat (first | exact .nil | refine .cons ?_ ?_ | exact VLe.refl _ | exact VLe.own_sl _ _ _ | exact VLe.fl_sl _ _ | exact VLe.nil_sl _ | exact VLe.nil_fl _ | refine VLe.agg ?_))) trivial ?_
            refine' dl0 (gy rfl rfl rfl rfl rfl rfl) rfl rfl (step_load_one rfl (ev_mk rfl) F.one3 ?hv) ⟨?hb, trivial⟩ ?_
            case hb => repeat (first | exact uE | refine uN (by omega) ?_ | assumption | exact hd _ (by omega) | fail)
            case hv => rfl
            refine dl_eql (gy rfl rfl rfl rfl rfl rfl) rfl rfl rfl rfl rfl (fun h9 => ?_) (fun h9 => ?_)
            rotate_left
            · exact False.elim (by omega)
            refine dl0 (gn rfl) rfl rfl (step_pick rfl (ev_mk rfl) (ev_mk rfl)) trivial ?_
            refine dl0 (gn rfl) rfl rfl (step_mv rfl rfl) trivial ?_
            refine' dl0 (gy rfl rfl rfl rfl rfl rfl) rfl rfl (step_load_all rfl rfl F.agg24 ?hl) ⟨?hb, trivial⟩ ?_
            case hb => repeat (first | exact uE | refine uN (by omega) ?_ | assumption | exact hd _ (by omega) | fail)
            case hl => first | rfl | (simp; done) | (first | (simp; done) | (simp; omega) | omega)
            refine dl0 (gy rfl rfl rfl rfl rfl rfl) rfl rfl (step_mv rfl rfl) trivial ?_
            refine dl0 (gy rfl rfl rfl rfl rfl rfl) rfl rfl (step_mv rfl rfl) trivial ?_
            refine dl0 (gy rfl rfl rfl rfl rfl rfl) rfl rfl (step_callc rfl Try.func7 rfl rfl rfl (has_c) (by repeat (first | exact .nil | refine .cons ?_ ?_ | exact VLe.refl _ | exact VLe.own_sl _ _ _ | exact VLe.fl_sl _ _ | exact VLe.nil_sl _ | exact VLe.nil_fl _ | refine VLe.agg ?_))) trivial ?_
            refine dl0 (gy rfl rfl rfl rfl rfl rfl) rfl rfl (step_unOp rfl (ev_mk rfl) (fun _ => rfl)) trivial ?_
            refine dl0 (gy rfl rfl rfl rfl rfl rfl) rfl rfl (step_mv rfl rfl) trivial ?_
            refine dl_bool (d := 111) rfl (fun h10 => ?_) (fun h10 => ?_)
            · skip
              refine dlk rfl rfl rfl rfl rfl (ngb rfl rfl) rfl rfl ?_
              refine dl0 (gy rfl rfl rfl rfl rfl rfl) rfl rfl (step_pick rfl (ev_mk rfl) (ev_mk rfl)) trivial ?_
              refine dl0 (gn rfl) rfl rfl (step_pick rfl (ev_mk rfl) (ev_mk rfl)) trivial ?_
              refine dl0 (gn rfl) rfl rfl (step_mv rfl rfl) trivial ?_
              refine dl0 (gy rfl rfl rfl rfl rfl rfl) rfl rfl (step_callc rfl Try.func14 rfl rfl rfl (works_c) (by repeat (first | exact .nil | refine .cons ?_ ?_ | exact VLe.refl _ | exact VLe.own_sl _ _ _ | exact VLe.fl_sl _ _ | exact VLe.nil_sl _ | exact VLe.nil_fl _ | refine VLe.agg ?_))) trivial ?_
              refine dl0 (gn rfl) rfl rfl (step_pick rfl (ev_mk rfl) (ev_mk rfl)) trivial ?_
              refine' dls (gn rfl) rfl (step_store1 rfl rfl rfl rfl F.one4 rfl rfl ?hl ?hc) ⟨?hb, trivial⟩ ?hk ?_
              case hb => repeat (first | exact uE | refine uN (by omega) ?_ | assumption | exact hd _ (by omega) | fail)
              case hl => first | exact Nat.le_of_ble_eq_true rfl | decide | (simp; done) | (simp; omega) | (first | (simp; done) | (simp; omega) | omega)
              case hc => first | (simp only [List.set_cons_succ, List.set_cons_zero]; rfl) | rfl
              case hk => omega
              refine dlnil ?_ ?_
              · repeat' (first | exact trivial | exact .inr (ap0 _ _ _ _) | exact .inr (ap2 _ _ _ _) | exact .inr (ap3 _ _ _ _) | exact .inr ⟨by first | (simp; done) | (simp; omega), by first | (simp; done) | (simp; omega)⟩ | exact .inl (by kernel_rfl) | refine ⟨?_, ?_⟩ | fail)
              refine runs_ret ?_
              refine ⟨by first | exact .inr rfl | exact .inl rfl, fin_mkg (resc1 rfl (by repeat (first | exact uE | refine uN (by omega) ?_ | assumption | exact hd _ (by omega) | fail)) F.one4 rfl res0) ?_ ?_ ?_ ?_ ?_⟩
              · (repeat' (first | exact VLe.refl _ | exact VLe.own_sl _ _ _ | exact VLe.fl_sl _ _ | exact VLe.nil_sl _ | exact VLe.nil_fl _ | exact VLes.refl _ | exact .nil | refine VLe.tup ?_ | refine VLe.agg ?_ | refine .cons ?_ ?_ | (rw [Int.natCast_add]; exact VLe.refl _) | exact vle_int (by omega) | exact vle_bool (by first | rfl | assumption | (simp_all; done)) | fail))
              · repeat (first | exact trivial | assumption | omega | (refine bdR_map (fun _ => ?_)) | (refine bdL_map (fun _ => ?_)) | refine ⟨?_, ?_⟩ | fail)
              · intro k_ hk_; exact ble (by repeat (first | exact rfl | refine uN (by omega) ?_ | assumption | fail))
              · intro p hp; cases hp
              · repeat (first | exact trivial | assumption | omega | (refine bdR_map (fun _ => ?_)) | (refine bdL_map (fun _ => ?_)) | refine ⟨?_, ?_⟩ | fail)
            · skip
              refine' dl0 (gy rfl rfl rfl rfl rfl rfl) rfl rfl (step_load_one rfl (ev_mk rfl) F.one4 ?hv) ⟨?hb, trivial⟩ ?_
              case hb => repeat (first | exact uE | refine uN (by omega) ?_ | assumption | exact hd _ (by omega) | fail)
              case hv => rfl
              refine dl_know (d := 112) (c := true) rfl (met_all g0 g1 g2 g3 hx hy (by assumption)) ?_
              refine dl0 (gy rfl rfl rfl rfl rfl rfl) rfl rfl (step_pick rfl (ev_mk rfl) (ev_mk rfl)) trivial ?_
              refine dl0 (gn rfl) rfl rfl (step_pick rfl (ev_mk rfl) (ev_mk rfl)) trivial ?_
              refine dl0 (gn rfl) rfl rfl (step_mv rfl rfl) trivial ?_
              refine dl0 (gy rfl rfl rfl rfl rfl rfl) rfl rfl (step_callc rfl Try.func14 rfl rfl rfl (works_c) (by repeat (first | exact .nil | refine .cons ?_ ?_ | exact VLe.refl _ | exact VLe.own_sl _ _ _ | exact VLe.fl_sl _ _ | exact VLe.nil_sl _ | exact VLe.nil_fl _ | refine VLe.agg ?_))) trivial ?_
              refine dl0 (gn rfl) rfl rfl (step_pick rfl (ev_mk rfl) (ev_mk rfl)) trivial ?_
              refine' dls (gn rfl) rfl (step_store1 rfl rfl rfl rfl F.one4 rfl rfl ?hl ?hc) ⟨?hb, trivial⟩ ?hk ?_
              case hb => repeat (first | exact uE | refine uN (by omega) ?_ | assumption | exact hd _ (by omega) | fail)
              case hl => first | exact Nat.le_of_ble_eq_true rfl | decide | (simp; done) | (simp; omega) | (first | (simp; done) | (simp; omega) | omega)
              case hc => first | (simp only [List.set_cons_succ, List.set_cons_zero]; rfl) | rfl
              case hk => omega
              refine dlnil ?_ ?_
              · repeat' (first | exact trivial | exact .inr (ap0 _ _ _ _) | exact .inr (ap2 _ _ _ _) | exact .inr (ap3 _ _ _ _) | exact .inr ⟨by first | (simp; done) | (simp; omega), by first | (simp; done) | (simp; omega)⟩ | exact .inl (by kernel_rfl) | refine ⟨?_, ?_⟩ | fail)
              refine runs_ret ?_
              refine ⟨by first | exact .inr rfl | exact .inl rfl, fin_mkg (resc1 rfl (by repeat (first | exact uE | refine uN (by omega) ?_ | assumption | exact hd _ (by omega) | fail)) F.one4 rfl res0) ?_ ?_ ?_ ?_ ?_⟩
              · (repeat' (first | exact VLe.refl _ | exact VLe.own_sl _ _ _ | exact VLe.fl_sl _ _ | exact VLe.nil_sl _ | exact VLe.nil_fl _ | exact VLes.refl _ | exact .nil | refine VLe.tup ?_ | refine VLe.agg ?_ | refine .cons ?_ ?_ | (rw [Int.natCast_add]; exact VLe.refl _) | exact vle_int (by omega) | exact vle_bool (by first | rfl | assumption | (simp_all; done)) | fail))
              · repeat (first | exact trivial | assumption | omega | (refine bdR_map (fun _ => ?_)) | (refine bdL_map (fun _ => ?_)) | refine ⟨?_, ?_⟩ | fail)
              · intro k_ hk_; exact ble (by repeat (first | exact rfl | refine uN (by omega) ?_ | assumption | fail))
              · intro p hp; cases hp
              · repeat (first | exact trivial | assumption | omega | (refine bdR_map (fun _ => ?_)) | (refine bdL_map (fun _ => ?_)) | refine ⟨?_, ?_⟩ | fail)
      · skip
        refine dl0 (gy rfl rfl rfl rfl rfl rfl) rfl rfl (step_neqb rfl (ev_mk rfl) (ev_mk rfl) Try.underlying4) trivial ?_
        refine dl0 (gn rfl) rfl rfl (step_pick rfl (ev_mk rfl) (ev_mk rfl)) trivial ?_
        refine dlnil ?_ ?_
        · repeat' (first | exact trivial | exact .inr (ap0 _ _ _ _) | exact .inr (ap2 _ _ _ _) | exact .inr (ap3 _ _ _ _) | exact .inr ⟨by first | (simp; done) | (simp; omega), by first | (simp; done) | (simp; omega)⟩ | exact .inl (by kernel_rfl) | refine ⟨?_, ?_⟩ | fail)
        refine runs_cond _ (ev_mk rfl) (fun h7 => ?_) (fun h7 => ?_)
        · skip
          exact False.elim (by (rw [has_of hx hy] at h7; simp_all))
        · skip
          refine runs_skip ?_
          refine runs_seq ?_
          refine runs_region ?_
          refine' rl0 (gn rfl) rfl rfl (step_load_all rfl rfl F.agg24 ?hl) ⟨?hb, trivial⟩ ?_
          case hb => repeat (first | exact uE | refine uN (by omega) ?_ | assumption | exact hd _ (by omega) | fail)
          case hl => first | rfl | (simp; done) | (first | (simp; done) | (simp; omega) | omega)
          refine rl0 (gn rfl) rfl rfl (step_callc rfl Try.func18 rfl rfl rfl (rtou2 g0 g1 g2 g3) (by repeat (first | exact .nil | refine .cons ?_ ?_ | exact VLe.refl _ | exact VLe.own_sl _ _ _ | exact VLe.fl_sl _ _ | exact VLe.nil_sl _ | exact VLe.nil_fl _ | refine VLe.agg ?_))) trivial ?_
          refine rl1 (gn rfl) rfl rfl (step_allocc (k := n + 3) (zs := [.slice none 0 0]) (cs := [.sc (.slice none 0 0)]) rfl F.zero35 (by first | rfl | simp) (by first | rfl | decide | simp) (by first | rfl | simp)) ⟨by repeat (first | exact uE | refine uN (by omega) ?_ | assumption | exact hd _ (by omega) | fail), trivial⟩ (by omega) ?_
          refine' rls (gn rfl) rfl (step_store1 rfl rfl rfl rfl F.one35 rfl rfl ?hl ?hc) ⟨?hb, trivial⟩ ?hk ?_
          case hb => repeat (first | exact uE | refine uN (by omega) ?_ | assumption | exact hd _ (by omega) | fail)
          case hl => first | exact Nat.le_of_ble_eq_true rfl | decide | (simp; done) | (simp; omega) | (first | (simp; done) | (simp; omega) | omega)
          case hc => first | (simp only [List.set_cons_succ, List.set_cons_zero]; rfl) | rfl
          case hk => omega
          refine runsL_nil ?_
          refine runs_seq ?_
          refine runs_region ?_
          refine rl1 (gn rfl) rfl rfl (step_allocc (k := n + 4) (zs := [.int .i64 0]) (cs := [.sc (.int .i64 0)]) rfl F.zero3 (by first | rfl | simp) (by first | rfl | decide | simp) (by first | rfl | simp)) ⟨by repeat (first | exact uE | refine uN (by omega) ?_ | assumption | exact hd _ (by omega) | fail), trivial⟩ (by omega) ?_
          refine' rls (gn rfl) rfl (step_store1 rfl rfl rfl rfl F.one3 rfl rfl ?hl ?hc) ⟨?hb, trivial⟩ ?hk ?_
          case hb => repeat (first | exact uE | refine uN (by omega) ?_ | assumption | exact hd _ (by omega) | fail)
          case hl => first | exact Nat.le_of_ble_eq_true rfl | decide | (simp; done) | (simp; omega) | (first | (simp; done) | (simp; omega) | omega)
          case hc => first | (simp only [List.set_cons_succ, List.set_cons_zero]; rfl) | rfl
          case hk => omega
          refine runsL_nil ?_
          refine runs_seq ?_
          refine runs_region ?_
          refine rl1 (gn rfl) rfl rfl (step_allocc (k := n + 5) (zs := [.bool false]) (cs := [.sc (.bool false)]) rfl F.zero4 (by first | rfl | simp) (by first | rfl | decide | simp) (by first | rfl | simp)) ⟨by repeat (first | exact uE | refine uN (by omega) ?_ | assumption | exact hd _ (by omega) | fail), trivial⟩ (by omega) ?_
          refine' rls (gn rfl) rfl (step_store1 rfl rfl rfl rfl F.one4 rfl rfl ?hl ?hc) ⟨?hb, trivial⟩ ?hk ?_
          case hb => repeat (first | exact uE | refine uN (by omega) ?_ | assumption | exact hd _ (by omega) | fail)
          case hl => first | exact Nat.le_of_ble_eq_true rfl | decide | (simp; done) | (simp; omega) | (first | (simp; done) | (simp; omega) | omega)
          case hc => first | (simp only [List.set_cons_succ, List.set_cons_zero]; rfl) | rfl
          case hk => omega
          refine runsL_nil ?_
          refine runs_seq ?_
          refine runs_region ?_
          refine' rl0 (gn rfl) rfl rfl (step_load_all rfl rfl F.agg24 ?hl) ⟨?hb, trivial⟩ ?_
          case hb => repeat (first | exact uE | refine uN (by omega) ?_ | assumption | exact hd _ (by omega) | fail)
          case hl => first | rfl | (simp; done) | (first | (simp; done) | (simp; omega) | omega)
          refine rl1 (gn rfl) rfl rfl (step_callc rfl Try.func19 rfl rfl rfl (tou_c (kk := (n + 6))) (by repeat (first | exact .nil | refine .cons ?_ ?_ | exact VLe.refl _ | exact VLe.own_sl _ _ _ | exact VLe.fl_sl _ _ | exact VLe.nil_sl _ | exact VLe.nil_fl _ | refine VLe.agg ?_))) ⟨by repeat (first | exact uE | refine uN (by omega) ?_ | assumption | exact hd _ (by omega) | fail), trivial⟩ (by omega) ?_
          refine rl0 (gn rfl) rfl rfl (step_as rfl rfl) trivial ?_
          refine runsL_nil ?_
          refine runs_seq ?_
          refine runs_seq ?_
          refine runs_region ?_
          refine rl0 (gn rfl) rfl rfl (step_mv rfl rfl) trivial ?_
          refine rl0 (gn rfl) rfl rfl (step_eq_nilf (b := false) rfl (ev_mk rfl) (ev_mk rfl) Try.underlying38 ⟨_, .inl ⟨.inl ⟨_, _, rfl⟩, rfl⟩, .inl ⟨rfl, rfl⟩⟩) trivial ?_
          refine runsL_nil ?_
          refine runs_cond false (ev_mk rfl) (fun h_ => nomatch h_) (fun _ => ?_)
          refine runs_skip ?_
          refine runs_seq ?_
          refine runs_seq ?_
          refine runs_region ?_
          refine rl0 (gn rfl) rfl rfl (step_mv rfl rfl) trivial ?_
          refine runsL_nil ?_
          refine runs_block ?_
          refine runs_rangeL (f := 22) (caps := [.ref (n + 6) 0]) (xs := (touL a b c d).map enT) (Dl := [(n + 4, fun i60 => .cells [.sc (.int .i64 (i60 : Nat))]), (n + 5, fun i60 => .cells [.sc (.bool (metF a b c d x y i60))])]) (El := [(n + 6, .cells (rcC a b c d), fun m_ b_ => .cells (rcC a b c d))]) (kl := n + 7) (m := (touL a b c d).length) (brk := false) (ex := .normal) hO rfl (.inl rfl) Try.func22 rfl rfl (tou_i g0 g1 g2 g3) (by repeat (first | exact uE | refine uN (by omega) ?_ | assumption | exact hd _ (by omega) | fail)) (by omega) (by simp) (fun h_ => nomatch h_) (fun _ => ⟨by simp, rfl⟩) (fun v_ hv_ => by obtain ⟨_, _, rfl⟩ := List.mem_map.1 hv_; rfl) rfl ⟨⟨by dsimp only; omega, trivial⟩, ⟨trivial, trivial⟩⟩ ⟨⟨by dsimp only; omega, by dsimp only; omega, ⟨by dsimp only; omega, trivial⟩, by dsimp only; (first | ((repeat (first | exact uE | assumption | refine uN (by omega) ?_ | fail)); done) | (refine Eq.trans (b := .cells [.sc (.int .i64 0)]) (by repeat (first | exact uE | assumption | refine uN (by omega) ?_ | fail)) ?_; first | rfl | (simp; done)))⟩, ⟨by dsimp only; omega, by dsimp only; omega, ⟨by dsimp only; omega, trivial⟩, by dsimp only; (first | ((repeat (first | exact uE | assumption | refine uN (by omega) ?_ | fail)); done) | (refine Eq.trans (b := .cells [.sc (.bool false)]) (by repeat (first | exact uE | assumption | refine uN (by omega) ?_ | fail)) ?_; first | rfl | (simp; done)))⟩, trivial⟩ ⟨⟨by dsimp only; omega, by dsimp only; omega, by dsimp only; repeat (first | exact uE | refine uN (by omega) ?_ | assumption | exact hd _ (by omega) | fail)⟩, trivial⟩ (fun i60 => ⟨bdb_cells (by repeat (first | exact trivial | assumption | omega | (refine bdR_map (fun _ => ?_)) | (refine bdL_map (fun _ => ?_)) | refine ⟨?_, ?_⟩ | fail)), bdb_cells (by repeat (first | exact trivial | assumption | omega | (refine bdR_map (fun _ => ?_)) | (refine bdL_map (fun _ => ?_)) | refine ⟨?_, ?_⟩ | fail)), trivial⟩) ⟨bdb_cells (by repeat (first | exact trivial | assumption | omega | (refine bdR_map (fun _ => ?_)) | (refine bdL_map (fun _ => ?_)) | refine ⟨?_, ?_⟩ | fail)), trivial⟩ ?_ ?_
          · intro i60 v60 hi60 hv60 B60 n60 lr60 bx60 hR60 hl60 hk60 ho60 he60 hn60 hd60 hD60 hfr60
            have hf60 : ∀ k_, k_ < _ → k_ ≠ n + 4 → k_ ≠ n + 5 → k_ ≠ n + 6 → k_ ≠ n + 7 → bx60 k_ = _ := fun k_ a_ e0_ e1_ e2_ e3_ => hfr60 k_ a_ ⟨e0_, e1_, e2_, trivial⟩ e3_
            have hb60_0 : bx60 (n + 4) = .cells [.sc (.int .i64 (i60 : Nat))] := hD60.1
            have hb60_1 : bx60 (n + 5) = .cells [.sc (.bool (metF a b c d x y i60))] := hD60.2.1
            have hc60_0 : bx60 (n + 0) = .cells [.sc (.int .u32 a), .sc (.int .u32 b), .sc (.int .u32 c), .sc (.int .u32 d)] := (hf60 _ (by omega) (by omega) (by omega) (by omega) (by omega)).trans (by repeat (first | exact uE | refine uN (by omega) ?_ | assumption | exact hd _ (by omega) | fail))
            have hc60_1 : bx60 (n + 1) = .cells [.sc (.bool false)] := (hf60 _ (by omega) (by omega) (by omega) (by omega) (by omega)).trans (by repeat (first | exact uE | refine uN (by omega) ?_ | assumption | exact hd _ (by omega) | fail))
            have hc60_2 : bx60 (n + 2) = .cells [.sc (.int .i64 (tiF x y))] := (hf60 _ (by omega) (by omega) (by omega) (by omega) (by omega)).trans (by repeat (first | exact uE | refine uN (by omega) ?_ | assumption | exact hd _ (by omega) | fail))
            have hc60_3 : bx60 (n + 3) = .cells [.sl 1 ((touL a b c d).map enT)] := (hf60 _ (by omega) (by omega) (by omega) (by omega) (by omega)).trans (by repeat (first | exact uE | refine uN (by omega) ?_ | assumption | exact hd _ (by omega) | fail))
            obtain ⟨t60, ht60, rfl⟩ := map_get hv60
            refine runs_keep (l' := [(67, .sc (.int .i64 t60)), (4, .ref (n + 0) 0), (8, .ref (n + 1) 0), (9, .ref (n + 2) 0), (10, .ref (n + 3) 0), (11, .ref (n + 4) 0), (12, .ref (n + 5) 0)]) ?_ ?_
            · (repeat' (first | exact trivial | refine ⟨⟨_, rfl, ?_⟩, ?_⟩ | fail)); all_goals (repeat' (first | exact VLe.refl _ | exact VLe.own_sl _ _ _ | exact VLe.fl_sl _ _ | exact VLe.nil_sl _ | exact VLe.nil_fl _ | exact VLes.refl _ | exact .nil | refine VLe.tup ?_ | refine VLe.agg ?_ | refine .cons ?_ ?_ | (rw [Int.natCast_add]; exact VLe.refl _) | exact vle_int (by omega) | exact vle_bool (by first | rfl | assumption | (simp_all; done)) | fail))
            refine runs_bump 40 ?_
            refine runs_region ?_
            refine rl0 (gn rfl) rfl rfl (step_as rfl rfl) trivial ?_
            refine runsL_nil ?_
            refine ⟨rfl, by first | rfl | (repeat (first | exact uE | refine uN (by omega) ?_ | assumption | exact hd _ (by omega) | exact hd60 _ (by omega) | fail)), fun r60 => ?_⟩
            show Runs _ _ _ _ ⟨mk _, _ + _, upd _ _ _⟩ _
            refine runs_block ?_
            refine runs_seq ?_
            refine runs_seq ?_
            refine runs_draw (by kernel_rfl) (by kernel_rfl) (by kernel_rfl) ?_
            refine' dl0 (gn rfl) rfl rfl (step_load_one rfl (ev_mk rfl) F.one3 ?hv) ⟨?hb, trivial⟩ ?_
            case hb => repeat (first | exact uE | refine uN (by omega) ?_ | assumption | exact hd _ (by omega) | exact hd60 _ (by omega) | fail)
            case hv => rfl
            refine' dl0 (gn rfl) rfl rfl (step_load_one rfl (ev_mk rfl) F.one35 ?hv) ⟨?hb, trivial⟩ ?_
            case hb => repeat (first | exact uE | refine uN (by omega) ?_ | assumption | exact hd _ (by omega) | exact hd60 _ (by omega) | fail)
            case hv => rfl
            refine dl0 (gn rfl) rfl rfl (step_len (m := (touL a b c d).length) rfl rfl (ev_mk rfl) (.inl ⟨⟨_, Try.underlying35⟩, .inl ⟨_, _, .inl rfl, List.length_map _⟩⟩)) trivial ?_
            refine dl_geq (gn rfl) rfl rfl rfl rfl rfl (fun h8 => ?_) (fun h8 => ?_)
            · exact False.elim (by omega)
            refine dl0 (gn rfl) rfl rfl (step_mv rfl rfl) trivial ?_
            refine' dl0 (gy rfl rfl rfl rfl rfl rfl) rfl rfl (step_load_one rfl (ev_mk rfl) F.one35 ?hv) ⟨?hb, trivial⟩ ?_
            case hb => repeat (first | exact uE | refine uN (by omega) ?_ | assumption | exact hd _ (by omega) | exact hd60 _ (by omega) | fail)
            case hv => rfl
            refine' dl0 (gy rfl rfl rfl rfl rfl rfl) rfl rfl (step_load_one rfl (ev_mk rfl) F.one3 ?hv) ⟨?hb, trivial⟩ ?_
            case hb => repeat (first | exact uE | refine uN (by omega) ?_ | assumption | exact hd _ (by omega) | exact hd60 _ (by omega) | fail)
            case hv => rfl
            refine' dl0 (gy rfl rfl rfl rfl rfl rfl) rfl rfl (step_index rfl (ev_mk rfl) (.inl rfl) (ev_mk rfl) Try.underlying35 F.sz3 (by omega) ?hr) trivial ?_
            case hr => exact map_at _ _ _ (by omega) (by omega)
            refine dl0 (gy rfl rfl rfl rfl rfl rfl) rfl rfl (step_load_ro rfl (ev_mk rfl) F.one3 rfl) trivial ?_
            refine dl0 (gy rfl rfl rfl rfl rfl rfl) rfl rfl (step_mv rfl rfl) trivial ?_
            refine dl_neq (gy rfl rfl rfl rfl rfl rfl) rfl rfl rfl rfl rfl (fun h9 => ?_) (fun h9 => ?_)
            · exact False.elim (by exact h9 (at_get ht60))
            refine dl0 (gn rfl) rfl rfl (step_pick rfl (ev_mk rfl) (ev_mk rfl)) trivial ?_
            refine dl0 (gn rfl) rfl rfl (step_mv rfl rfl) trivial ?_
            refine dl0 (gy rfl rfl rfl rfl rfl rfl) rfl rfl (step_mv rfl rfl) trivial ?_
            refine dl0 (gy rfl rfl rfl rfl rfl rfl) rfl rfl (step_callc rfl Try.func17 rfl rfl rfl (of_c) (by repeat (first | exact .nil | refine .cons ?_ ?_ | exact VLe.refl _ | exact VLe.own_sl _ _ _ | exact VLe.fl_sl _ _ | exact VLe.nil_sl _ | exact VLe.nil_fl _ | refine VLe.agg ?_))) trivial ?_
            refine' dl0 (gy rfl rfl rfl rfl rfl rfl) rfl rfl (step_load_all rfl rfl F.agg24 ?hl) ⟨?hb, trivial⟩ ?_
            case hb => repeat (first | exact uE | refine uN (by omega) ?_ | assumption | exact hd _ (by omega) | exact hd60 _ (by omega) | fail)
            case hl => first | rfl | (simp; done) | (first | (simp; done) | (simp; omega) | omega)
            refine dl0 (gy rfl rfl rfl rfl rfl rfl) rfl rfl (step_callc rfl Try.func11 rfl rfl rfl (meets_c) (by repeat (first | exact .nil | refine .cons ?_ ?_ | exact VLe.refl _ | exact VLe.own_sl _ _ _ | exact VLe.fl_sl _ _ | exact VLe.nil_sl _ | exact VLe.nil_fl _ | refine VLe.agg ?_))) trivial ?_
            refine dl_know (d := 84) (c := true) rfl (meets_of g0 g1 g2 g3 (List.mem_of_getElem? ht60)) ?_
            refine dl0 (gy rfl rfl rfl rfl rfl rfl) rfl rfl (step_unOp (c := .bool false) rfl (ev_mk rfl) (fun _ => rfl)) trivial ?_
            refine dl0 (gn rfl) rfl rfl (step_pick rfl (ev_mk rfl) (ev_mk rfl)) trivial ?_
            refine dlnil ?_ ?_
            · repeat' (first | exact trivial | exact .inr (ap0 _ _ _ _) | exact .inr (ap2 _ _ _ _) | exact .inr (ap3 _ _ _ _) | exact .inr ⟨by first | (simp; done) | (simp; omega), by first | (simp; done) | (simp; omega)⟩ | exact .inl (by kernel_rfl) | refine ⟨?_, ?_⟩ | fail)
            refine runs_cond false (ev_mk rfl) (fun h_ => nomatch h_) (fun _ => ?_)
            refine runs_skip ?_
            refine runs_seq ?_
            refine runs_region ?_
            refine' rl0 (gn rfl) rfl rfl (step_load_one rfl (ev_mk rfl) F.one4 ?hv) ⟨?hb, trivial⟩ ?_
            case hb => repeat (first | exact uE | refine uN (by omega) ?_ | assumption | exact hd _ (by omega) | exact hd60 _ (by omega) | fail)
            case hv => rfl
            refine rl0 (gn rfl) rfl rfl (step_mv rfl rfl) trivial ?_
            refine rl_bool (d := 88) rfl (fun h10 => ?_) (fun h10 => ?_)
            · skip
              refine rlk rfl rfl rfl rfl rfl (ngb rfl rfl) rfl rfl ?_
              refine rlk rfl rfl rfl rfl rfl (ngb rfl rfl) rfl rfl ?_
              refine rlk rfl rfl rfl rfl rfl (ngb rfl rfl) rfl rfl ?_
              refine rl0 (gn rfl) rfl rfl (step_pick rfl (ev_mk rfl) (ev_mk rfl)) trivial ?_
              refine' rls (gn rfl) rfl (step_store1 rfl rfl rfl rfl F.one4 rfl rfl ?hl ?hc) ⟨?hb, trivial⟩ ?hk ?_
              case hb => repeat (first | exact uE | refine uN (by omega) ?_ | assumption | exact hd _ (by omega) | exact hd60 _ (by omega) | fail)
              case hl => first | exact Nat.le_of_ble_eq_true rfl | decide | (simp; done) | (simp; omega) | (first | (simp; done) | (simp; omega) | omega)
              case hc => first | (simp only [List.set_cons_succ, List.set_cons_zero]; rfl) | rfl
              case hk => omega
              refine runsL_nil ?_
              refine runs_region ?_
              refine' rl0 (gn rfl) rfl rfl (step_load_one rfl (ev_mk rfl) F.one3 ?hv) ⟨?hb, trivial⟩ ?_
              case hb => repeat (first | exact uE | refine uN (by omega) ?_ | assumption | exact hd _ (by omega) | exact hd60 _ (by omega) | fail)
              case hv => rfl
              refine rl0 (gn rfl) rfl rfl (step_add rfl (ev_mk rfl) (ev_mk rfl) (w64 (by omega))) trivial ?_
              refine' rls (gn rfl) rfl (step_store1 rfl rfl rfl rfl F.one3 rfl rfl ?hl ?hc) ⟨?hb, trivial⟩ ?hk ?_
              case hb => repeat (first | exact uE | refine uN (by omega) ?_ | assumption | exact hd _ (by omega) | exact hd60 _ (by omega) | fail)
              case hl => first | exact Nat.le_of_ble_eq_true rfl | decide | (simp; done) | (simp; omega) | (first | (simp; done) | (simp; omega) | omega)
              case hc => first | (simp only [List.set_cons_succ, List.set_cons_zero]; rfl) | rfl
              case hk => omega
              refine runsL_nil ?_
              first | (have hem_ := met1 (x := x) (y := y) ht60 (by assumption)) | (have hem_ := met2 (x := x) (y := y) ht60 (by assumption)) | (have hem_ := met3 (x := x) (y := y) ht60 (by assumption) (by assumption))
              refine ⟨by exact (if_neg (fun h_ => nomatch h_.1)).symm, by repeat (first | exact uE | refine uN (by omega) ?_ | assumption | exact hd _ (by omega) | exact hd60 _ (by omega) | fail), fun k_ hk_ hl_ => ?_⟩
              simp only [dL, updL, List.map_cons, List.map_nil]; by_cases e0_ : k_ = (n + 4); (focus subst e0_; refine bl_eq ?_; first | (refine' blec ?hb ?hl; (case hb => repeat (first | exact uE | assumption | refine uN (by omega) ?_ | fail)); (case hl => first | exact VLes.refl _ | ((repeat' (first | exact VLe.refl _ | exact VLe.own_sl _ _ _ | exact VLe.fl_sl _ _ | exact VLe.nil_sl _ | exact VLe.nil_fl _ | exact VLes.refl _ | exact .nil | refine VLe.tup ?_ | refine VLe.agg ?_ | refine .cons ?_ ?_ | (rw [Int.natCast_add]; exact VLe.refl _) | exact vle_int (by omega) | exact vle_bool (by first | rfl | assumption | (simp_all; done)) | fail)); done))) | (refine ble ?_; (repeat (first | exact uE | assumption | refine uN (by omega) ?_ | fail)); done)); refine bl_ne e0_ ?_; by_cases e1_ : k_ = (n + 5); (focus subst e1_; refine bl_eq ?_; first | (refine' blec ?hb ?hl; (case hb => repeat (first | exact uE | assumption | refine uN (by omega) ?_ | fail)); (case hl => first | exact VLes.refl _ | ((repeat' (first | exact VLe.refl _ | exact VLe.own_sl _ _ _ | exact VLe.fl_sl _ _ | exact VLe.nil_sl _ | exact VLe.nil_fl _ | exact VLes.refl _ | exact .nil | refine VLe.tup ?_ | refine VLe.agg ?_ | refine .cons ?_ ?_ | (rw [Int.natCast_add]; exact VLe.refl _) | exact vle_int (by omega) | exact vle_bool (by first | rfl | assumption | (simp_all; done)) | fail)); done))) | (refine ble ?_; (repeat (first | exact uE | assumption | refine uN (by omega) ?_ | fail)); done)); refine bl_ne e1_ ?_; exact ble (by repeat (first | exact rfl | refine uN (by first | assumption | omega) ?_ | assumption | exact hf60 _ (by omega) (by first | assumption | omega) (by first | assumption | omega) (by first | assumption | omega) (by first | assumption | omega) | fail))
            · skip
              refine rl0 (gy rfl rfl rfl rfl rfl rfl) rfl rfl (step_mv rfl rfl) trivial ?_
              refine' rl0 (gy rfl rfl rfl rfl rfl rfl) rfl rfl (step_load_one rfl (ev_mk rfl) F.one3 ?hv) ⟨?hb, trivial⟩ ?_
              case hb => repeat (first | exact uE | refine uN (by omega) ?_ | assumption | exact hd _ (by omega) | exact hd60 _ (by omega) | fail)
              case hv => rfl
              refine rl_eql (gy rfl rfl rfl rfl rfl rfl) rfl rfl rfl rfl rfl (fun h11 => ?_) (fun h11 => ?_)
              · skip
                refine rl0 (gn rfl) rfl rfl (step_pick rfl (ev_mk rfl) (ev_mk rfl)) trivial ?_
                refine' rls (gn rfl) rfl (step_store1 rfl rfl rfl rfl F.one4 rfl rfl ?hl ?hc) ⟨?hb, trivial⟩ ?hk ?_
                case hb => repeat (first | exact uE | refine uN (by omega) ?_ | assumption | exact hd _ (by omega) | exact hd60 _ (by omega) | fail)
                case hl => first | exact Nat.le_of_ble_eq_true rfl | decide | (simp; done) | (simp; omega) | (first | (simp; done) | (simp; omega) | omega)
                case hc => first | (simp only [List.set_cons_succ, List.set_cons_zero]; rfl) | rfl
                case hk => omega
                refine runsL_nil ?_
                refine runs_region ?_
                refine' rl0 (gn rfl) rfl rfl (step_load_one rfl (ev_mk rfl) F.one3 ?hv) ⟨?hb, trivial⟩ ?_
                case hb => repeat (first | exact uE | refine uN (by omega) ?_ | assumption | exact hd _ (by omega) | exact hd60 _ (by omega) | fail)
                case hv => rfl
                refine rl0 (gn rfl) rfl rfl (step_add rfl (ev_mk rfl) (ev_mk rfl) (w64 (by omega))) trivial ?_
                refine' rls (gn rfl) rfl (step_store1 rfl rfl rfl rfl F.one3 rfl rfl ?hl ?hc) ⟨?hb, trivial⟩ ?hk ?_
                case hb => repeat (first | exact uE | refine uN (by omega) ?_ | assumption | exact hd _ (by omega) | exact hd60 _ (by omega) | fail)
                case hl => first | exact Nat.le_of_ble_eq_true rfl | decide | (simp; done) | (simp; omega) | (first | (simp; done) | (simp; omega) | omega)
                case hc => first | (simp only [List.set_cons_succ, List.set_cons_zero]; rfl) | rfl
                case hk => omega
                refine runsL_nil ?_
                first | (have hem_ := met1 (x := x) (y := y) ht60 (by assumption)) | (have hem_ := met2 (x := x) (y := y) ht60 (by assumption)) | (have hem_ := met3 (x := x) (y := y) ht60 (by assumption) (by assumption))
                refine ⟨by exact (if_neg (fun h_ => nomatch h_.1)).symm, by repeat (first | exact uE | refine uN (by omega) ?_ | assumption | exact hd _ (by omega) | exact hd60 _ (by omega) | fail), fun k_ hk_ hl_ => ?_⟩
                simp only [dL, updL, List.map_cons, List.map_nil]; by_cases e0_ : k_ = (n + 4); (focus subst e0_; refine bl_eq ?_; first | (refine' blec ?hb ?hl; (case hb => repeat (first | exact uE | assumption | refine uN (by omega) ?_ | fail)); (case hl => first | exact VLes.refl _ | ((repeat' (first | exact VLe.refl _ | exact VLe.own_sl _ _ _ | exact VLe.fl_sl _ _ | exact VLe.nil_sl _ | exact VLe.nil_fl _ | exact VLes.refl _ | exact .nil | refine VLe.tup ?_ | refine VLe.agg ?_ | refine .cons ?_ ?_ | (rw [Int.natCast_add]; exact VLe.refl _) | exact vle_int (by omega) | exact vle_bool (by first | rfl | assumption | (simp_all; done)) | fail)); done))) | (refine ble ?_; (repeat (first | exact uE | assumption | refine uN (by omega) ?_ | fail)); done)); refine bl_ne e0_ ?_; by_cases e1_ : k_ = (n + 5); (focus subst e1_; refine bl_eq ?_; first | (refine' blec ?hb ?hl; (case hb => repeat (first | exact uE | assumption | refine uN (by omega) ?_ | fail)); (case hl => first | exact VLes.refl _ | ((repeat' (first | exact VLe.refl _ | exact VLe.own_sl _ _ _ | exact VLe.fl_sl _ _ | exact VLe.nil_sl _ | exact VLe.nil_fl _ | exact VLes.refl _ | exact .nil | refine VLe.tup ?_ | refine VLe.agg ?_ | refine .cons ?_ ?_ | (rw [Int.natCast_add]; exact VLe.refl _) | exact vle_int (by omega) | exact vle_bool (by first | rfl | assumption | (simp_all; done)) | fail)); done))) | (refine ble ?_; (repeat (first | exact uE | assumption | refine uN (by omega) ?_ | fail)); done)); refine bl_ne e1_ ?_; exact ble (by repeat (first | exact rfl | refine uN (by first | assumption | omega) ?_ | assumption | exact hf60 _ (by omega) (by first | assumption | omega) (by first | assumption | omega) (by first | assumption | omega) (by first | assumption | omega) | fail))
              · skip
                refine rl0 (gn rfl) rfl rfl (step_pick rfl (ev_mk rfl) (ev_mk rfl)) trivial ?_
                refine' rls (gn rfl) rfl (step_store1 rfl rfl rfl rfl F.one4 rfl rfl ?hl ?hc) ⟨?hb, trivial⟩ ?hk ?_
                case hb => repeat (first | exact uE | refine uN (by omega) ?_ | assumption | exact hd _ (by omega) | exact hd60 _ (by omega) | fail)
                case hl => first | exact Nat.le_of_ble_eq_true rfl | decide | (simp; done) | (simp; omega) | (first | (simp; done) | (simp; omega) | omega)
                case hc => first | (simp only [List.set_cons_succ, List.set_cons_zero]; rfl) | rfl
                case hk => omega
                refine runsL_nil ?_
                refine runs_region ?_
                refine' rl0 (gn rfl) rfl rfl (step_load_one rfl (ev_mk rfl) F.one3 ?hv) ⟨?hb, trivial⟩ ?_
                case hb => repeat (first | exact uE | refine uN (by omega) ?_ | assumption | exact hd _ (by omega) | exact hd60 _ (by omega) | fail)
                case hv => rfl
                refine rl0 (gn rfl) rfl rfl (step_add rfl (ev_mk rfl) (ev_mk rfl) (w64 (by omega))) trivial ?_
                refine' rls (gn rfl) rfl (step_store1 rfl rfl rfl rfl F.one3 rfl rfl ?hl ?hc) ⟨?hb, trivial⟩ ?hk ?_
                case hb => repeat (first | exact uE | refine uN (by omega) ?_ | assumption | exact hd _ (by omega) | exact hd60 _ (by omega) | fail)
                case hl => first | exact Nat.le_of_ble_eq_true rfl | decide | (simp; done) | (simp; omega) | (first | (simp; done) | (simp; omega) | omega)
                case hc => first | (simp only [List.set_cons_succ, List.set_cons_zero]; rfl) | rfl
                case hk => omega
                refine runsL_nil ?_
                first | (have hem_ := met1 (x := x) (y := y) ht60 (by assumption)) | (have hem_ := met2 (x := x) (y := y) ht60 (by assumption)) | (have hem_ := met3 (x := x) (y := y) ht60 (by assumption) (by assumption))
                refine ⟨by exact (if_neg (fun h_ => nomatch h_.1)).symm, by repeat (first | exact uE | refine uN (by omega) ?_ | assumption | exact hd _ (by omega) | exact hd60 _ (by omega) | fail), fun k_ hk_ hl_ => ?_⟩
                simp only [dL, updL, List.map_cons, List.map_nil]; by_cases e0_ : k_ = (n + 4); (focus subst e0_; refine bl_eq ?_; first | (refine' blec ?hb ?hl; (case hb => repeat (first | exact uE | assumption | refine uN (by omega) ?_ | fail)); (case hl => first | exact VLes.refl _ | ((repeat' (first | exact VLe.refl _ | exact VLe.own_sl _ _ _ | exact VLe.fl_sl _ _ | exact VLe.nil_sl _ | exact VLe.nil_fl _ | exact VLes.refl _ | exact .nil | refine VLe.tup ?_ | refine VLe.agg ?_ | refine .cons ?_ ?_ | (rw [Int.natCast_add]; exact VLe.refl _) | exact vle_int (by omega) | exact vle_bool (by first | rfl | assumption | (simp_all; done)) | fail)); done))) | (refine ble ?_; (repeat (first | exact uE | assumption | refine uN (by omega) ?_ | fail)); done)); refine bl_ne e0_ ?_; by_cases e1_ : k_ = (n + 5); (focus subst e1_; refine bl_eq ?_; first | (refine' blec ?hb ?hl; (case hb => repeat (first | exact uE | assumption | refine uN (by omega) ?_ | fail)); (case hl => first | exact VLes.refl _ | ((repeat' (first | exact VLe.refl _ | exact VLe.own_sl _ _ _ | exact VLe.fl_sl _ _ | exact VLe.nil_sl _ | exact VLe.nil_fl _ | exact VLes.refl _ | exact .nil | refine VLe.tup ?_ | refine VLe.agg ?_ | refine .cons ?_ ?_ | (rw [Int.natCast_add]; exact VLe.refl _) | exact vle_int (by omega) | exact vle_bool (by first | rfl | assumption | (simp_all; done)) | fail)); done))) | (refine ble ?_; (repeat (first | exact uE | assumption | refine uN (by omega) ?_ | fail)); done)); refine bl_ne e1_ ?_; exact ble (by repeat (first | exact rfl | refine uN (by first | assumption | omega) ?_ | assumption | exact hf60 _ (by omega) (by first | assumption | omega) (by first | assumption | omega) (by first | assumption | omega) (by first | assumption | omega) | fail))
          · intro bb60 b60 hb60
            simp only [dL, eM, updL, List.map_cons, List.map_nil] at hb60
            subst hb60
            refine runs_seq ?_
            refine runs_draw (by kernel_rfl) (by kernel_rfl) (by kernel_rfl) ?_
            refine' dl0 (gn rfl) rfl rfl (step_load_one rfl (ev_mk rfl) F.one3 ?hv) ⟨?hb, trivial⟩ ?_
            case hb => repeat (first | exact uE | refine uN (by omega) ?_ | assumption | exact hd _ (by omega) | fail)
            case hv => rfl
            refine' dl0 (gn rfl) rfl rfl (step_load_one rfl (ev_mk rfl) F.one35 ?hv) ⟨?hb, trivial⟩ ?_
            case hb => repeat (first | exact uE | refine uN (by omega) ?_ | assumption | exact hd _ (by omega) | fail)
            case hv => rfl
            refine dl0 (gn rfl) rfl rfl (step_len (m := (touL a b c d).length) rfl rfl (ev_mk rfl) (.inl ⟨⟨_, Try.underlying35⟩, .inl ⟨_, _, .inl rfl, List.length_map _⟩⟩)) trivial ?_
            refine dl_eql (gn rfl) rfl rfl rfl rfl rfl (fun h8 => ?_) (fun h8 => ?_)
            rotate_left
            · exact False.elim (by omega)
            refine dl0 (gn rfl) rfl rfl (step_mv rfl rfl) trivial ?_
            refine' dl0 (gy rfl rfl rfl rfl rfl rfl) rfl rfl (step_load_all rfl rfl F.agg24 ?hl) ⟨?hb, trivial⟩ ?_
            case hb => repeat (first | exact uE | refine uN (by omega) ?_ | assumption | exact hd _ (by omega) | fail)
            case hl => first | rfl | (simp; done) | (first | (simp; done) | (simp; omega) | omega)
            refine dl0 (gy rfl rfl rfl rfl rfl rfl) rfl rfl (step_callc rfl Try.func20 rfl rfl rfl (cnt_c g0 g1 g2 g3) (by repeat (first | exact .nil | refine .cons ?_ ?_ | exact VLe.refl _ | exact VLe.own_sl _ _ _ | exact VLe.fl_sl _ _ | exact VLe.nil_sl _ | exact VLe.nil_fl _ | refine VLe.agg ?_))) trivial ?_
            refine' dl0 (gy rfl rfl rfl rfl rfl rfl) rfl rfl (step_load_one rfl (ev_mk rfl) F.one3 ?hv) ⟨?hb, trivial⟩ ?_
            case hb => repeat (first | exact uE | refine uN (by omega) ?_ | assumption | exact hd _ (by omega) | fail)
            case hv => rfl
            refine dl_eql (gy rfl rfl rfl rfl rfl rfl) rfl rfl rfl rfl rfl (fun h9 => ?_) (fun h9 => ?_)
            rotate_left
            · exact False.elim (by omega)
            refine dl0 (gn rfl) rfl rfl (step_pick rfl (ev_mk rfl) (ev_mk rfl)) trivial ?_
            refine dl0 (gn rfl) rfl rfl (step_mv rfl rfl) trivial ?_
            refine' dl0 (gy rfl rfl rfl rfl rfl rfl) rfl rfl (step_load_all rfl rfl F.agg24 ?hl) ⟨?hb, trivial⟩ ?_
            case hb => repeat (first | exact uE | refine uN (by omega) ?_ | assumption | exact hd _ (by omega) | fail)
            case hl => first | rfl | (simp; done) | (first | (simp; done) | (simp; omega) | omega)
            refine dl0 (gy rfl rfl rfl rfl rfl rfl) rfl rfl (step_mv rfl rfl) trivial ?_
            refine dl0 (gy rfl rfl rfl rfl rfl rfl) rfl rfl (step_mv rfl rfl) trivial ?_
            refine dl0 (gy rfl rfl rfl rfl rfl rfl) rfl rfl (step_callc rfl Try.func7 rfl rfl rfl (has_c) (by repeat (first | exact .nil | refine .cons ?_ ?_ | exact VLe.refl _ | exact VLe.own_sl _ _ _ | exact VLe.fl_sl _ _ | exact VLe.nil_sl _ | exact VLe.nil_fl _ | refine VLe.agg ?_))) trivial ?_
            refine dl0 (gy rfl rfl rfl rfl rfl rfl) rfl rfl (step_unOp rfl (ev_mk rfl) (fun _ => rfl)) trivial ?_
            refine dl0 (gy rfl rfl rfl rfl rfl rfl) rfl rfl (step_mv rfl rfl) trivial ?_
            refine dl_bool (d := 111) rfl (fun h10 => ?_) (fun h10 => ?_)
            · skip
              refine dlk rfl rfl rfl rfl rfl (ngb rfl rfl) rfl rfl ?_
              refine dl0 (gy rfl rfl rfl rfl rfl rfl) rfl rfl (step_pick rfl (ev_mk rfl) (ev_mk rfl)) trivial ?_
              refine dl0 (gn rfl) rfl rfl (step_pick rfl (ev_mk rfl) (ev_mk rfl)) trivial ?_
              refine dl0 (gn rfl) rfl rfl (step_mv rfl rfl) trivial ?_
              refine dl0 (gy rfl rfl rfl rfl rfl rfl) rfl rfl (step_callc rfl Try.func14 rfl rfl rfl (works_c) (by repeat (first | exact .nil | refine .cons ?_ ?_ | exact VLe.refl _ | exact VLe.own_sl _ _ _ | exact VLe.fl_sl _ _ | exact VLe.nil_sl _ | exact VLe.nil_fl _ | refine VLe.agg ?_))) trivial ?_
              refine dl0 (gn rfl) rfl rfl (step_pick rfl (ev_mk rfl) (ev_mk rfl)) trivial ?_
              refine' dls (gn rfl) rfl (step_store1 rfl rfl rfl rfl F.one4 rfl rfl ?hl ?hc) ⟨?hb, trivial⟩ ?hk ?_
              case hb => repeat (first | exact uE | refine uN (by omega) ?_ | assumption | exact hd _ (by omega) | fail)
              case hl => first | exact Nat.le_of_ble_eq_true rfl | decide | (simp; done) | (simp; omega) | (first | (simp; done) | (simp; omega) | omega)
              case hc => first | (simp only [List.set_cons_succ, List.set_cons_zero]; rfl) | rfl
              case hk => omega
              refine dlnil ?_ ?_
              · repeat' (first | exact trivial | exact .inr (ap0 _ _ _ _) | exact .inr (ap2 _ _ _ _) | exact .inr (ap3 _ _ _ _) | exact .inr ⟨by first | (simp; done) | (simp; omega), by first | (simp; done) | (simp; omega)⟩ | exact .inl (by kernel_rfl) | refine ⟨?_, ?_⟩ | fail)
              refine runs_ret ?_
              refine ⟨by first | exact .inr rfl | exact .inl rfl, fin_mkg (resc1 rfl (by repeat (first | exact uE | refine uN (by omega) ?_ | assumption | exact hd _ (by omega) | fail)) F.one4 rfl res0) ?_ ?_ ?_ ?_ ?_⟩
              · (repeat' (first | exact VLe.refl _ | exact VLe.own_sl _ _ _ | exact VLe.fl_sl _ _ | exact VLe.nil_sl _ | exact VLe.nil_fl _ | exact VLes.refl _ | exact .nil | refine VLe.tup ?_ | refine VLe.agg ?_ | refine .cons ?_ ?_ | (rw [Int.natCast_add]; exact VLe.refl _) | exact vle_int (by omega) | exact vle_bool (by first | rfl | assumption | (simp_all; done)) | fail))
              · repeat (first | exact trivial | assumption | omega | (refine bdR_map (fun _ => ?_)) | (refine bdL_map (fun _ => ?_)) | refine ⟨?_, ?_⟩ | fail)
              · intro k_ hk_; exact ble (by repeat (first | exact rfl | refine uN (by omega) ?_ | assumption | fail))
              · intro p hp; cases hp
              · repeat (first | exact trivial | assumption | omega | (refine bdR_map (fun _ => ?_)) | (refine bdL_map (fun _ => ?_)) | refine ⟨?_, ?_⟩ | fail)
            · skip
              refine' dl0 (gy rfl rfl rfl rfl rfl rfl) rfl rfl (step_load_one rfl (ev_mk rfl) F.one4 ?hv) ⟨?hb, trivial⟩ ?_
              case hb => repeat (first | exact uE | refine uN (by omega) ?_ | assumption | exact hd _ (by omega) | fail)
              case hv => rfl
              refine dl_know (d := 112) (c := true) rfl (met_all g0 g1 g2 g3 hx hy (by assumption)) ?_
              refine dl0 (gy rfl rfl rfl rfl rfl rfl) rfl rfl (step_pick rfl (ev_mk rfl) (ev_mk rfl)) trivial ?_
              refine dl0 (gn rfl) rfl rfl (step_pick rfl (ev_mk rfl) (ev_mk rfl)) trivial ?_
              refine dl0 (gn rfl) rfl rfl (step_mv rfl rfl) trivial ?_
              refine dl0 (gy rfl rfl rfl rfl rfl rfl) rfl rfl (step_callc rfl Try.func14 rfl rfl rfl (works_c) (by repeat (first | exact .nil | refine .cons ?_ ?_ | exact VLe.refl _ | exact VLe.own_sl _ _ _ | exact VLe.fl_sl _ _ | exact VLe.nil_sl _ | exact VLe.nil_fl _ | refine VLe.agg ?_))) trivial ?_
              refine dl0 (gn rfl) rfl rfl (step_pick rfl (ev_mk rfl) (ev_mk rfl)) trivial ?_
              refine' dls (gn rfl) rfl (step_store1 rfl rfl rfl rfl F.one4 rfl rfl ?hl ?hc) ⟨?hb, trivial⟩ ?hk ?_
              case hb => repeat (first | exact uE | refine uN (by omega) ?_ | assumption | exact hd _ (by omega) | fail)
              case hl => first | exact Nat.le_of_ble_eq_true rfl | decide | (simp; done) | (simp; omega) | (first | (simp; done) | (simp; omega) | omega)
              case hc => first | (simp only [List.set_cons_succ, List.set_cons_zero]; rfl) | rfl
              case hk => omega
              refine dlnil ?_ ?_
              · repeat' (first | exact trivial | exact .inr (ap0 _ _ _ _) | exact .inr (ap2 _ _ _ _) | exact .inr (ap3 _ _ _ _) | exact .inr ⟨by first | (simp; done) | (simp; omega), by first | (simp; done) | (simp; omega)⟩ | exact .inl (by kernel_rfl) | refine ⟨?_, ?_⟩ | fail)
              refine runs_ret ?_
              refine ⟨by first | exact .inr rfl | exact .inl rfl, fin_mkg (resc1 rfl (by repeat (first | exact uE | refine uN (by omega) ?_ | assumption | exact hd _ (by omega) | fail)) F.one4 rfl res0) ?_ ?_ ?_ ?_ ?_⟩
              · (repeat' (first | exact VLe.refl _ | exact VLe.own_sl _ _ _ | exact VLe.fl_sl _ _ | exact VLe.nil_sl _ | exact VLe.nil_fl _ | exact VLes.refl _ | exact .nil | refine VLe.tup ?_ | refine VLe.agg ?_ | refine .cons ?_ ?_ | (rw [Int.natCast_add]; exact VLe.refl _) | exact vle_int (by omega) | exact vle_bool (by first | rfl | assumption | (simp_all; done)) | fail))
              · repeat (first | exact trivial | assumption | omega | (refine bdR_map (fun _ => ?_)) | (refine bdL_map (fun _ => ?_)) | refine ⟨?_, ?_⟩ | fail)
              · intro k_ hk_; exact ble (by repeat (first | exact rfl | refine uN (by omega) ?_ | assumption | fail))
              · intro p hp; cases hp
              · repeat (first | exact trivial | assumption | omega | (refine bdR_map (fun _ => ?_)) | (refine bdL_map (fun _ => ?_)) | refine ⟨?_, ?_⟩ | fail)
    · skip
      refine dl0 (gn rfl) rfl rfl (step_pick rfl (ev_mk rfl) (ev_mk rfl)) trivial ?_
      refine dl0 (gn rfl) rfl rfl (step_mv rfl rfl) trivial ?_
      refine dl0 (gn rfl) rfl rfl (step_callc rfl Try.func17 rfl rfl rfl (of_c) (by repeat (first | exact .nil | refine .cons ?_ ?_ | exact VLe.refl _ | exact VLe.own_sl _ _ _ | exact VLe.fl_sl _ _ | exact VLe.nil_sl _ | exact VLe.nil_fl _ | refine VLe.agg ?_))) trivial ?_
      refine dl0 (gn rfl) rfl rfl (step_callc rfl Try.func10 rfl rfl rfl (emp_c) (by repeat (first | exact .nil | refine .cons ?_ ?_ | exact VLe.refl _ | exact VLe.own_sl _ _ _ | exact VLe.fl_sl _ _ | exact VLe.nil_sl _ | exact VLe.nil_fl _ | refine VLe.agg ?_))) trivial ?_
      refine dl_know (d := 47) (c := false) rfl (by rw [em_of]; exact decide_eq_false (by omega)) ?_
      refine dl0 (gn rfl) rfl rfl (step_binOp (c := .bool false) rfl (ev_mk rfl) (ev_mk rfl) (fun _ => rfl)) trivial ?_
      refine dl0 (gn rfl) rfl rfl (step_mv rfl rfl) trivial ?_
      refine dl0 (gy rfl rfl rfl rfl rfl rfl) rfl rfl (step_mv rfl rfl) trivial ?_
      refine dl0 (gy rfl rfl rfl rfl rfl rfl) rfl rfl (step_callc rfl Try.func17 rfl rfl rfl (of_c) (by repeat (first | exact .nil | refine .cons ?_ ?_ | exact VLe.refl _ | exact VLe.own_sl _ _ _ | exact VLe.fl_sl _ _ | exact VLe.nil_sl _ | exact VLe.nil_fl _ | refine VLe.agg ?_))) trivial ?_
      refine dl0 (gy rfl rfl rfl rfl rfl rfl) rfl rfl (step_mv rfl rfl) trivial ?_
      refine dl0 (gy rfl rfl rfl rfl rfl rfl) rfl rfl (step_mv rfl rfl) trivial ?_
      refine dl0 (gy rfl rfl rfl rfl rfl rfl) rfl rfl (step_callc rfl Try.func7 rfl rfl rfl (has_c) (by repeat (first | exact .nil | refine .cons ?_ ?_ | exact VLe.refl _ | exact VLe.own_sl _ _ _ | exact VLe.fl_sl _ _ | exact VLe.nil_sl _ | exact VLe.nil_fl _ | refine VLe.agg ?_))) trivial ?_
      refine dl0 (gy rfl rfl rfl rfl rfl rfl) rfl rfl (step_mv rfl rfl) trivial ?_
      refine' dl0 (gy rfl rfl rfl rfl rfl rfl) rfl rfl (step_load_one rfl (ev_mk rfl) F.one3 ?hv) ⟨?hb, trivial⟩ ?_
      case hb => repeat (first | exact uE | refine uN (by omega) ?_ | assumption | exact hd _ (by omega) | fail)
      case hv => rfl
      refine dl_eql (gy rfl rfl rfl rfl rfl rfl) rfl rfl rfl rfl rfl (fun h6 => ?_) (fun h6 => ?_)
      · skip
        refine dl0 (gy rfl rfl rfl rfl rfl rfl) rfl rfl (step_neqb rfl (ev_mk rfl) (ev_mk rfl) Try.underlying4) trivial ?_
        refine dl0 (gn rfl) rfl rfl (step_pick rfl (ev_mk rfl) (ev_mk rfl)) trivial ?_
        refine dlnil ?_ ?_
        · repeat' (first | exact trivial | exact .inr (ap0 _ _ _ _) | exact .inr (ap2 _ _ _ _) | exact .inr (ap3 _ _ _ _) | exact .inr ⟨by first | (simp; done) | (simp; omega), by first | (simp; done) | (simp; omega)⟩ | exact .inl (by kernel_rfl) | refine ⟨?_, ?_⟩ | fail)
        refine runs_cond _ (ev_mk rfl) (fun h7 => ?_) (fun h7 => ?_)
        · skip
          exact False.elim (by (rw [has_of hx hy] at h7; simp_all))
        · skip
          refine runs_skip ?_
          refine runs_seq ?_
          refine runs_region ?_
          refine' rl0 (gn rfl) rfl rfl (step_load_all rfl rfl F.agg24 ?hl) ⟨?hb, trivial⟩ ?_
          case hb => repeat (first | exact uE | refine uN (by omega) ?_ | assumption | exact hd _ (by omega) | fail)
          case hl => first | rfl | (simp; done) | (first | (simp; done) | (simp; omega) | omega)
          refine rl0 (gn rfl) rfl rfl (step_callc rfl Try.func18 rfl rfl rfl (rtou2 g0 g1 g2 g3) (by repeat (first | exact .nil | refine .cons ?_ ?_ | exact VLe.refl _ | exact VLe.own_sl _ _ _ | exact VLe.fl_sl _ _ | exact VLe.nil_sl _ | exact VLe.nil_fl _ | refine VLe.agg ?_))) trivial ?_
          refine rl1 (gn rfl) rfl rfl (step_allocc (k := n + 3) (zs := [.slice none 0 0]) (cs := [.sc (.slice none 0 0)]) rfl F.zero35 (by first | rfl | simp) (by first | rfl | decide | simp) (by first | rfl | simp)) ⟨by repeat (first | exact uE | refine uN (by omega) ?_ | assumption | exact hd _ (by omega) | fail), trivial⟩ (by omega) ?_
          refine' rls (gn rfl) rfl (step_store1 rfl rfl rfl rfl F.one35 rfl rfl ?hl ?hc) ⟨?hb, trivial⟩ ?hk ?_
          case hb => repeat (first | exact uE | refine uN (by omega) ?_ | assumption | exact hd _ (by omega) | fail)
          case hl => first | exact Nat.le_of_ble_eq_true rfl | decide | (simp; done) | (simp; omega) | (first | (simp; done) | (simp; omega) | omega)
          case hc => first | (simp only [List.set_cons_succ, List.set_cons_zero]; rfl) | rfl
          case hk => omega
          refine runsL_nil ?_
          refine runs_seq ?_
          refine runs_region ?_
          refine rl1 (gn rfl) rfl rfl (step_allocc (k := n + 4) (zs := [.int .i64 0]) (cs := [.sc (.int .i64 0)]) rfl F.zero3 (by first | rfl | simp) (by first | rfl | decide | simp) (by first | rfl | simp)) ⟨by repeat (first | exact uE | refine uN (by omega) ?_ | assumption | exact hd _ (by omega) | fail), trivial⟩ (by omega) ?_
          refine' rls (gn rfl) rfl (step_store1 rfl rfl rfl rfl F.one3 rfl rfl ?hl ?hc) ⟨?hb, trivial⟩ ?hk ?_
          case hb => repeat (first | exact uE | refine uN (by omega) ?_ | assumption | exact hd _ (by omega) | fail)
          case hl => first | exact Nat.le_of_ble_eq_true rfl | decide | (simp; done) | (simp; omega) | (first | (simp; done) | (simp; omega) | omega)
          case hc => first | (simp only [List.set_cons_succ, List.set_cons_zero]; rfl) | rfl
          case hk => omega
          refine runsL_nil ?_
          refine runs_seq ?_
          refine runs_region ?_
          refine rl1 (gn rfl) rfl rfl (step_allocc (k := n + 5) (zs := [.bool false]) (cs := [.sc (.bool false)]) rfl F.zero4 (by first | rfl | simp) (by first | rfl | decide | simp) (by first | rfl | simp)) ⟨by repeat (first | exact uE | refine uN (by omega) ?_ | assumption | exact hd _ (by omega) | fail), trivial⟩ (by omega) ?_
          refine' rls (gn rfl) rfl (step_store1 rfl rfl rfl rfl F.one4 rfl rfl ?hl ?hc) ⟨?hb, trivial⟩ ?hk ?_
          case hb => repeat (first | exact uE | refine uN (by omega) ?_ | assumption | exact hd _ (by omega) | fail)
          case hl => first | exact Nat.le_of_ble_eq_true rfl | decide | (simp; done) | (simp; omega) | (first | (simp; done) | (simp; omega) | omega)
          case hc => first | (simp only [List.set_cons_succ, List.set_cons_zero]; rfl) | rfl
          case hk => omega
          refine runsL_nil ?_
          refine runs_seq ?_
          refine runs_region ?_
          refine' rl0 (gn rfl) rfl rfl (step_load_all rfl rfl F.agg24 ?hl) ⟨?hb, trivial⟩ ?_
          case hb => repeat (first | exact uE | refine uN (by omega) ?_ | assumption | exact hd _ (by omega) | fail)
          case hl => first | rfl | (simp; done) | (first | (simp; done) | (simp; omega) | omega)
          refine rl1 (gn rfl) rfl rfl (step_callc rfl Try.func19 rfl rfl rfl (tou_c (kk := (n + 6))) (by repeat (first | exact .nil | refine .cons ?_ ?_ | exact VLe.refl _ | exact VLe.own_sl _ _ _ | exact VLe.fl_sl _ _ | exact VLe.nil_sl _ | exact VLe.nil_fl _ | refine VLe.agg ?_))) ⟨by repeat (first | exact uE | refine uN (by omega) ?_ | assumption | exact hd _ (by omega) | fail), trivial⟩ (by omega) ?_
          refine rl0 (gn rfl) rfl rfl (step_as rfl rfl) trivial ?_
          refine runsL_nil ?_
          refine runs_seq ?_
          refine runs_seq ?_
          refine runs_region ?_
          refine rl0 (gn rfl) rfl rfl (step_mv rfl rfl) trivial ?_
          refine rl0 (gn rfl) rfl rfl (step_eq_nilf (b := false) rfl (ev_mk rfl) (ev_mk rfl) Try.underlying38 ⟨_, .inl ⟨.inl ⟨_, _, rfl⟩, rfl⟩, .inl ⟨rfl, rfl⟩⟩) trivial ?_
          refine runsL_nil ?_
          refine runs_cond false (ev_mk rfl) (fun h_ => nomatch h_) (fun _ => ?_)
          refine runs_skip ?_
          refine runs_seq ?_
          refine runs_seq ?_
          refine runs_region ?_
          refine rl0 (gn rfl) rfl rfl (step_mv rfl rfl) trivial ?_
          refine runsL_nil ?_
          refine runs_block ?_
          refine runs_rangeL (f := 22) (caps := [.ref (n + 6) 0]) (xs := (touL a b c d).map enT) (Dl := [(n + 4, fun i60 => .cells [.sc (.int .i64 (i60 : Nat))]), (n + 5, fun i60 => .cells [.sc (.bool (metF a b c d x y i60))])]) (El := [(n + 6, .cells (rcC a b c d), fun m_ b_ => .cells (rcC a b c d))]) (kl := n + 7) (m := (touL a b c d).length) (brk := false) (ex := .normal) hO rfl (.inl rfl) Try.func22 rfl rfl (tou_i g0 g1 g2 g3) (by repeat (first | exact uE | refine uN (by omega) ?_ | assumption | exact hd _ (by omega) | fail)) (by omega) (by simp) (fun h_ => nomatch h_) (fun _ => ⟨by simp, rfl⟩) (fun v_ hv_ => by obtain ⟨_, _, rfl⟩ := List.mem_map.1 hv_; rfl) rfl ⟨⟨by dsimp only; omega, trivial⟩, ⟨trivial, trivial⟩⟩ ⟨⟨by dsimp only; omega, by dsimp only; omega, ⟨by dsimp only; omega, trivial⟩, by dsimp only; (first | ((repeat (first | exact uE | assumption | refine uN (by omega) ?_ | fail)); done) | (refine Eq.trans (b := .cells [.sc (.int .i64 0)]) (by repeat (first | exact uE | assumption | refine uN (by omega) ?_ | fail)) ?_; first | rfl | (simp; done)))⟩, ⟨by dsimp only; omega, by dsimp only; omega, ⟨by dsimp only; omega, trivial⟩, by dsimp only; (first | ((repeat (first | exact uE | assumption | refine uN (by omega) ?_ | fail)); done) | (refine Eq.trans (b := .cells [.sc (.bool false)]) (by repeat (first | exact uE | assumption | refine uN (by omega) ?_ | fail)) ?_; first | rfl | (simp; done)))⟩, trivial⟩ ⟨⟨by dsimp only; omega, by dsimp only; omega, by dsimp only; repeat (first | exact uE | refine uN (by omega) ?_ | assumption | exact hd _ (by omega) | fail)⟩, trivial⟩ (fun i60 => ⟨bdb_cells (by repeat (first | exact trivial | assumption | omega | (refine bdR_map (fun _ => ?_)) | (refine bdL_map (fun _ => ?_)) | refine ⟨?_, ?_⟩ | fail)), bdb_cells (by repeat (first | exact trivial | assumption | omega | (refine bdR_map (fun _ => ?_)) | (refine bdL_map (fun _ => ?_)) | refine ⟨?_, ?_⟩ | fail)), trivial⟩) ⟨bdb_cells (by repeat (first | exact trivial | assumption | omega | (refine bdR_map (fun _ => ?_)) | (refine bdL_map (fun _ => ?_)) | refine ⟨?_, ?_⟩ | fail)), trivial⟩ ?_ ?_
          · intro i60 v60 hi60 hv60 B60 n60 lr60 bx60 hR60 hl60 hk60 ho60 he60 hn60 hd60 hD60 hfr60
            have hf60 : ∀ k_, k_ < _ → k_ ≠ n + 4 → k_ ≠ n + 5 → k_ ≠ n + 6 → k_ ≠ n + 7 → bx60 k_ = _ := fun k_ a_ e0_ e1_ e2_ e3_ => hfr60 k_ a_ ⟨e0_, e1_, e2_, trivial⟩ e3_
            have hb60_0 : bx60 (n + 4) = .cells [.sc (.int .i64 (i60 : Nat))] := hD60.1
            have hb60_1 : bx60 (n + 5) = .cells [.sc (.bool (metF a b c d x y i60))] := hD60.2.1
            have hc60_0 : bx60 (n + 0) = .cells [.sc (.int .u32 a), .sc (.int .u32 b), .sc (.int .u32 c), .sc (.int .u32 d)] := (hf60 _ (by omega) (by omega) (by omega) (by omega) (by omega)).trans (by repeat (first | exact uE | refine uN (by omega) ?_ | assumption | exact hd _ (by omega) | fail))
            have hc60_1 : bx60 (n + 1) = .cells [.sc (.bool false)] := (hf60 _ (by omega) (by omega) (by omega) (by omega) (by omega)).trans (by repeat (first | exact uE | refine uN (by omega) ?_ | assumption | exact hd _ (by omega) | fail))
            have hc60_2 : bx60 (n + 2) = .cells [.sc (.int .i64 (tiF x y))] := (hf60 _ (by omega) (by omega) (by omega) (by omega) (by omega)).trans (by repeat (first | exact uE | refine uN (by omega) ?_ | assumption | exact hd _ (by omega) | fail))
            have hc60_3 : bx60 (n + 3) = .cells [.sl 1 ((touL a b c d).map enT)] := (hf60 _ (by omega) (by omega) (by omega) (by omega) (by omega)).trans (by repeat (first | exact uE | refine uN (by omega) ?_ | assumption | exact hd _ (by omega) | fail))
            obtain ⟨t60, ht60, rfl⟩ := map_get hv60
            refine runs_keep (l' := [(67, .sc (.int .i64 t60)), (4, .ref (n + 0) 0), (8, .ref (n + 1) 0), (9, .ref (n + 2) 0), (10, .ref (n + 3) 0), (11, .ref (n + 4) 0), (12, .ref (n + 5) 0)]) ?_ ?_
            · (repeat' (first | exact trivial | refine ⟨⟨_, rfl, ?_⟩, ?_⟩ | fail)); all_goals (repeat' (first | exact VLe.refl _ | exact VLe.own_sl _ _ _ | exact VLe.fl_sl _ _ | exact VLe.nil_sl _ | exact VLe.nil_fl _ | exact VLes.refl _ | exact .nil | refine VLe.tup ?_ | refine VLe.agg ?_ | refine .cons ?_ ?_ | (rw [Int.natCast_add]; exact VLe.refl _) | exact vle_int (by omega) | exact vle_bool (by first | rfl | assumption | (simp_all; done)) | fail))
            refine runs_bump 40 ?_
            refine runs_region ?_
            refine rl0 (gn rfl) rfl rfl (step_as rfl rfl) trivial ?_
            refine runsL_nil ?_
            refine ⟨rfl, by first | rfl | (repeat (first | exact uE | refine uN (by omega) ?_ | assumption | exact hd _ (by omega) | exact hd60 _ (by omega) | fail)), fun r60 => ?_⟩
            show Runs _ _ _ _ ⟨mk _, _ + _, upd _ _ _⟩ _
            refine runs_block ?_
            refine runs_seq ?_
            refine runs_seq ?_
            refine runs_draw (by kernel_rfl) (by kernel_rfl) (by kernel_rfl) ?_
            refine' dl0 (gn rfl) rfl rfl (step_load_one rfl (ev_mk rfl) F.one3 ?hv) ⟨?hb, trivial⟩ ?_
            case hb => repeat (first | exact uE | refine uN (by omega) ?_ | assumption | exact hd _ (by omega) | exact hd60 _ (by omega) | fail)
            case hv => rfl
            refine' dl0 (gn rfl) rfl rfl (step_load_one rfl (ev_mk rfl) F.one35 ?hv) ⟨?hb, trivial⟩ ?_
            case hb => repeat (first | exact uE | refine uN (by omega) ?_ | assumption | exact hd _ (by omega) | exact hd60 _ (by omega) | fail)
            case hv => rfl
            refine dl0 (gn rfl) rfl rfl (step_len (m := (touL a b c d).length) rfl rfl (ev_mk rfl) (.inl ⟨⟨_, Try.underlying35⟩, .inl ⟨_, _, .inl rfl, List.length_map _⟩⟩)) trivial ?_
            refine dl_geq (gn rfl) rfl rfl rfl rfl rfl (fun h8 => ?_) (fun h8 => ?_)
            · exact False.elim (by omega)
            refine dl0 (gn rfl) rfl rfl (step_mv rfl rfl) trivial ?_
            refine' dl0 (gy rfl rfl rfl rfl rfl rfl) rfl rfl (step_load_one rfl (ev_mk rfl) F.one35 ?hv) ⟨?hb, trivial⟩ ?_
            case hb => repeat (first | exact uE | refine uN (by omega) ?_ | assumption | exact hd _ (by omega) | exact hd60 _ (by omega) | fail)
            case hv => rfl
            refine' dl0 (gy rfl rfl rfl rfl rfl rfl) rfl rfl (step_load_one rfl (ev_mk rfl) F.one3 ?hv) ⟨?hb, trivial⟩ ?_
            case hb => repeat (first | exact uE | refine uN (by omega) ?_ | assumption | exact hd _ (by omega) | exact hd60 _ (by omega) | fail)
            case hv => rfl
            refine' dl0 (gy rfl rfl rfl rfl rfl rfl) rfl rfl (step_index rfl (ev_mk rfl) (.inl rfl) (ev_mk rfl) Try.underlying35 F.sz3 (by omega) ?hr) trivial ?_
            case hr => exact map_at _ _ _ (by omega) (by omega)
            refine dl0 (gy rfl rfl rfl rfl rfl rfl) rfl rfl (step_load_ro rfl (ev_mk rfl) F.one3 rfl) trivial ?_
            refine dl0 (gy rfl rfl rfl rfl rfl rfl) rfl rfl (step_mv rfl rfl) trivial ?_
            refine dl_neq (gy rfl rfl rfl rfl rfl rfl) rfl rfl rfl rfl rfl (fun h9 => ?_) (fun h9 => ?_)
            · exact False.elim (by exact h9 (at_get ht60))
            refine dl0 (gn rfl) rfl rfl (step_pick rfl (ev_mk rfl) (ev_mk rfl)) trivial ?_
            refine dl0 (gn rfl) rfl rfl (step_mv rfl rfl) trivial ?_
            refine dl0 (gy rfl rfl rfl rfl rfl rfl) rfl rfl (step_mv rfl rfl) trivial ?_
            refine dl0 (gy rfl rfl rfl rfl rfl rfl) rfl rfl (step_callc rfl Try.func17 rfl rfl rfl (of_c) (by repeat (first | exact .nil | refine .cons ?_ ?_ | exact VLe.refl _ | exact VLe.own_sl _ _ _ | exact VLe.fl_sl _ _ | exact VLe.nil_sl _ | exact VLe.nil_fl _ | refine VLe.agg ?_))) trivial ?_
            refine' dl0 (gy rfl rfl rfl rfl rfl rfl) rfl rfl (step_load_all rfl rfl F.agg24 ?hl) ⟨?hb, trivial⟩ ?_
            case hb => repeat (first | exact uE | refine uN (by omega) ?_ | assumption | exact hd _ (by omega) | exact hd60 _ (by omega) | fail)
            case hl => first | rfl | (simp; done) | (first | (simp; done) | (simp; omega) | omega)
            refine dl0 (gy rfl rfl rfl rfl rfl rfl) rfl rfl (step_callc rfl Try.func11 rfl rfl rfl (meets_c) (by repeat (first | exact .nil | refine .cons ?_ ?_ | exact VLe.refl _ | exact VLe.own_sl _ _ _ | exact VLe.fl_sl _ _ | exact VLe.nil_sl _ | exact VLe.nil_fl _ | refine VLe.agg ?_))) trivial ?_
            refine dl_know (d := 84) (c := true) rfl (meets_of g0 g1 g2 g3 (List.mem_of_getElem? ht60)) ?_
            refine dl0 (gy rfl rfl rfl rfl rfl rfl) rfl rfl (step_unOp (c := .bool false) rfl (ev_mk rfl) (fun _ => rfl)) trivial ?_
            refine dl0 (gn rfl) rfl rfl (step_pick rfl (ev_mk rfl) (ev_mk rfl)) trivial ?_
            refine dlnil ?_ ?_
            · repeat' (first | exact trivial | exact .inr (ap0 _ _ _ _) | exact .inr (ap2 _ _ _ _) | exact .inr (ap3 _ _ _ _) | exact .inr ⟨by first | (simp; done) | (simp; omega), by first | (simp; done) | (simp; omega)⟩ | exact .inl (by kernel_rfl) | refine ⟨?_, ?_⟩ | fail)
            refine runs_cond false (ev_mk rfl) (fun h_ => nomatch h_) (fun _ => ?_)
            refine runs_skip ?_
            refine runs_seq ?_
            refine runs_region ?_
            refine' rl0 (gn rfl) rfl rfl (step_load_one rfl (ev_mk rfl) F.one4 ?hv) ⟨?hb, trivial⟩ ?_
            case hb => repeat (first | exact uE | refine uN (by omega) ?_ | assumption | exact hd _ (by omega) | exact hd60 _ (by omega) | fail)
            case hv => rfl
            refine rl0 (gn rfl) rfl rfl (step_mv rfl rfl) trivial ?_
            refine rl_bool (d := 88) rfl (fun h10 => ?_) (fun h10 => ?_)
            · skip
              refine rlk rfl rfl rfl rfl rfl (ngb rfl rfl) rfl rfl ?_
              refine rlk rfl rfl rfl rfl rfl (ngb rfl rfl) rfl rfl ?_
              refine rlk rfl rfl rfl rfl rfl (ngb rfl rfl) rfl rfl ?_
              refine rl0 (gn rfl) rfl rfl (step_pick rfl (ev_mk rfl) (ev_mk rfl)) trivial ?_
              refine' rls (gn rfl) rfl (step_store1 rfl rfl rfl rfl F.one4 rfl rfl ?hl ?hc) ⟨?hb, trivial⟩ ?hk ?_
              case hb => repeat (first | exact uE | refine uN (by omega) ?_ | assumption | exact hd _ (by omega) | exact hd60 _ (by omega) | fail)
              case hl => first | exact Nat.le_of_ble_eq_true rfl | decide | (simp; done) | (simp; omega) | (first | (simp; done) | (simp; omega) | omega)
              case hc => first | (simp only [List.set_cons_succ, List.set_cons_zero]; rfl) | rfl
              case hk => omega
              refine runsL_nil ?_
              refine runs_region ?_
              refine' rl0 (gn rfl) rfl rfl (step_load_one rfl (ev_mk rfl) F.one3 ?hv) ⟨?hb, trivial⟩ ?_
              case hb => repeat (first | exact uE | refine uN (by omega) ?_ | assumption | exact hd _ (by omega) | exact hd60 _ (by omega) | fail)
              case hv => rfl
              refine rl0 (gn rfl) rfl rfl (step_add rfl (ev_mk rfl) (ev_mk rfl) (w64 (by omega))) trivial ?_
              refine' rls (gn rfl) rfl (step_store1 rfl rfl rfl rfl F.one3 rfl rfl ?hl ?hc) ⟨?hb, trivial⟩ ?hk ?_
              case hb => repeat (first | exact uE | refine uN (by omega) ?_ | assumption | exact hd _ (by omega) | exact hd60 _ (by omega) | fail)
              case hl => first | exact Nat.le_of_ble_eq_true rfl | decide | (simp; done) | (simp; omega) | (first | (simp; done) | (simp; omega) | omega)
              case hc => first | (simp only [List.set_cons_succ, List.set_cons_zero]; rfl) | rfl
              case hk => omega
              refine runsL_nil ?_
              first | (have hem_ := met1 (x := x) (y := y) ht60 (by assumption)) | (have hem_ := met2 (x := x) (y := y) ht60 (by assumption)) | (have hem_ := met3 (x := x) (y := y) ht60 (by assumption) (by assumption))
              refine ⟨by exact (if_neg (fun h_ => nomatch h_.1)).symm, by repeat (first | exact uE | refine uN (by omega) ?_ | assumption | exact hd _ (by omega) | exact hd60 _ (by omega) | fail), fun k_ hk_ hl_ => ?_⟩
              simp only [dL, updL, List.map_cons, List.map_nil]; by_cases e0_ : k_ = (n + 4); (focus subst e0_; refine bl_eq ?_; first | (refine' blec ?hb ?hl; (case hb => repeat (first | exact uE | assumption | refine uN (by omega) ?_ | fail)); (case hl => first | exact VLes.refl _ | ((repeat' (first | exact VLe.refl _ | exact VLe.own_sl _ _ _ | exact VLe.fl_sl _ _ | exact VLe.nil_sl _ | exact VLe.nil_fl _ | exact VLes.refl _ | exact .nil | refine VLe.tup ?_ | refine VLe.agg ?_ | refine .cons ?_ ?_ | (rw [Int.natCast_add]; exact VLe.refl _) | exact vle_int (by omega) | exact vle_bool (by first | rfl | assumption | (simp_all; done)) | fail)); done))) | (refine ble ?_; (repeat (first | exact uE | assumption | refine uN (by omega) ?_ | fail)); done)); refine bl_ne e0_ ?_; by_cases e1_ : k_ = (n + 5); (focus subst e1_; refine bl_eq ?_; first | (refine' blec ?hb ?hl; (case hb => repeat (first | exact uE | assumption | refine uN (by omega) ?_ | fail)); (case hl => first | exact VLes.refl _ | ((repeat' (first | exact VLe.refl _ | exact VLe.own_sl _ _ _ | exact VLe.fl_sl _ _ | exact VLe.nil_sl _ | exact VLe.nil_fl _ | exact VLes.refl _ | exact .nil | refine VLe.tup ?_ | refine VLe.agg ?_ | refine .cons ?_ ?_ | (rw [Int.natCast_add]; exact VLe.refl _) | exact vle_int (by omega) | exact vle_bool (by first | rfl | assumption | (simp_all; done)) | fail)); done))) | (refine ble ?_; (repeat (first | exact uE | assumption | refine uN (by omega) ?_ | fail)); done)); refine bl_ne e1_ ?_; exact ble (by repeat (first | exact rfl | refine uN (by first | assumption | omega) ?_ | assumption | exact hf60 _ (by omega) (by first | assumption | omega) (by first | assumption | omega) (by first | assumption | omega) (by first | assumption | omega) | fail))
            · skip
              refine rl0 (gy rfl rfl rfl rfl rfl rfl) rfl rfl (step_mv rfl rfl) trivial ?_
              refine' rl0 (gy rfl rfl rfl rfl rfl rfl) rfl rfl (step_load_one rfl (ev_mk rfl) F.one3 ?hv) ⟨?hb, trivial⟩ ?_
              case hb => repeat (first | exact uE | refine uN (by omega) ?_ | assumption | exact hd _ (by omega) | exact hd60 _ (by omega) | fail)
              case hv => rfl
              refine rl_eql (gy rfl rfl rfl rfl rfl rfl) rfl rfl rfl rfl rfl (fun h11 => ?_) (fun h11 => ?_)
              · skip
                refine rl0 (gn rfl) rfl rfl (step_pick rfl (ev_mk rfl) (ev_mk rfl)) trivial ?_
                refine' rls (gn rfl) rfl (step_store1 rfl rfl rfl rfl F.one4 rfl rfl ?hl ?hc) ⟨?hb, trivial⟩ ?hk ?_
                case hb => repeat (first | exact uE | refine uN (by omega) ?_ | assumption | exact hd _ (by omega) | exact hd60 _ (by omega) | fail)
                case hl => first | exact Nat.le_of_ble_eq_true rfl | decide | (simp; done) | (simp; omega) | (first | (simp; done) | (simp; omega) | omega)
                case hc => first | (simp only [List.set_cons_succ, List.set_cons_zero]; rfl) | rfl
                case hk => omega
                refine runsL_nil ?_
                refine runs_region ?_
                refine' rl0 (gn rfl) rfl rfl (step_load_one rfl (ev_mk rfl) F.one3 ?hv) ⟨?hb, trivial⟩ ?_
                case hb => repeat (first | exact uE | refine uN (by omega) ?_ | assumption | exact hd _ (by omega) | exact hd60 _ (by omega) | fail)
                case hv => rfl
                refine rl0 (gn rfl) rfl rfl (step_add rfl (ev_mk rfl) (ev_mk rfl) (w64 (by omega))) trivial ?_
                refine' rls (gn rfl) rfl (step_store1 rfl rfl rfl rfl F.one3 rfl rfl ?hl ?hc) ⟨?hb, trivial⟩ ?hk ?_
                case hb => repeat (first | exact uE | refine uN (by omega) ?_ | assumption | exact hd _ (by omega) | exact hd60 _ (by omega) | fail)
                case hl => first | exact Nat.le_of_ble_eq_true rfl | decide | (simp; done) | (simp; omega) | (first | (simp; done) | (simp; omega) | omega)
                case hc => first | (simp only [List.set_cons_succ, List.set_cons_zero]; rfl) | rfl
                case hk => omega
                refine runsL_nil ?_
                first | (have hem_ := met1 (x := x) (y := y) ht60 (by assumption)) | (have hem_ := met2 (x := x) (y := y) ht60 (by assumption)) | (have hem_ := met3 (x := x) (y := y) ht60 (by assumption) (by assumption))
                refine ⟨by exact (if_neg (fun h_ => nomatch h_.1)).symm, by repeat (first | exact uE | refine uN (by omega) ?_ | assumption | exact hd _ (by omega) | exact hd60 _ (by omega) | fail), fun k_ hk_ hl_ => ?_⟩
                simp only [dL, updL, List.map_cons, List.map_nil]; by_cases e0_ : k_ = (n + 4); (focus subst e0_; refine bl_eq ?_; first | (refine' blec ?hb ?hl; (case hb => repeat (first | exact uE | assumption | refine uN (by omega) ?_ | fail)); (case hl => first | exact VLes.refl _ | ((repeat' (first | exact VLe.refl _ | exact VLe.own_sl _ _ _ | exact VLe.fl_sl _ _ | exact VLe.nil_sl _ | exact VLe.nil_fl _ | exact VLes.refl _ | exact .nil | refine VLe.tup ?_ | refine VLe.agg ?_ | refine .cons ?_ ?_ | (rw [Int.natCast_add]; exact VLe.refl _) | exact vle_int (by omega) | exact vle_bool (by first | rfl | assumption | (simp_all; done)) | fail)); done))) | (refine ble ?_; (repeat (first | exact uE | assumption | refine uN (by omega) ?_ | fail)); done)); refine bl_ne e0_ ?_; by_cases e1_ : k_ = (n + 5); (focus subst e1_; refine bl_eq ?_; first | (refine' blec ?hb ?hl; (case hb => repeat (first | exact uE | assumption | refine uN (by omega) ?_ | fail)); (case hl => first | exact VLes.refl _ | ((repeat' (first | exact VLe.refl _ | exact VLe.own_sl _ _ _ | exact VLe.fl_sl _ _ | exact VLe.nil_sl _ | exact VLe.nil_fl _ | exact VLes.refl _ | exact .nil | refine VLe.tup ?_ | refine VLe.agg ?_ | refine .cons ?_ ?_ | (rw [Int.natCast_add]; exact VLe.refl _) | exact vle_int (by omega) | exact vle_bool (by first | rfl | assumption | (simp_all; done)) | fail)); done))) | (refine ble ?_; (repeat (first | exact uE | assumption | refine uN (by omega) ?_ | fail)); done)); refine bl_ne e1_ ?_; exact ble (by repeat (first | exact rfl | refine uN (by first | assumption | omega) ?_ | assumption | exact hf60 _ (by omega) (by first | assumption | omega) (by first | assumption | omega) (by first | assumption | omega) (by first | assumption | omega) | fail))
              · skip
                refine rl0 (gn rfl) rfl rfl (step_pick rfl (ev_mk rfl) (ev_mk rfl)) trivial ?_
                refine' rls (gn rfl) rfl (step_store1 rfl rfl rfl rfl F.one4 rfl rfl ?hl ?hc) ⟨?hb, trivial⟩ ?hk ?_
                case hb => repeat (first | exact uE | refine uN (by omega) ?_ | assumption | exact hd _ (by omega) | exact hd60 _ (by omega) | fail)
                case hl => first | exact Nat.le_of_ble_eq_true rfl | decide | (simp; done) | (simp; omega) | (first | (simp; done) | (simp; omega) | omega)
                case hc => first | (simp only [List.set_cons_succ, List.set_cons_zero]; rfl) | rfl
                case hk => omega
                refine runsL_nil ?_
                refine runs_region ?_
                refine' rl0 (gn rfl) rfl rfl (step_load_one rfl (ev_mk rfl) F.one3 ?hv) ⟨?hb, trivial⟩ ?_
                case hb => repeat (first | exact uE | refine uN (by omega) ?_ | assumption | exact hd _ (by omega) | exact hd60 _ (by omega) | fail)
                case hv => rfl
                refine rl0 (gn rfl) rfl rfl (step_add rfl (ev_mk rfl) (ev_mk rfl) (w64 (by omega))) trivial ?_
                refine' rls (gn rfl) rfl (step_store1 rfl rfl rfl rfl F.one3 rfl rfl ?hl ?hc) ⟨?hb, trivial⟩ ?hk ?_
                case hb => repeat (first | exact uE | refine uN (by omega) ?_ | assumption | exact hd _ (by omega) | exact hd60 _ (by omega) | fail)
                case hl => first | exact Nat.le_of_ble_eq_true rfl | decide | (simp; done) | (simp; omega) | (first | (simp; done) | (simp; omega) | omega)
                case hc => first | (simp only [List.set_cons_succ, List.set_cons_zero]; rfl) | rfl
                case hk => omega
                refine runsL_nil ?_
                first | (have hem_ := met1 (x := x) (y := y) ht60 (by assumption)) | (have hem_ := met2 (x := x) (y := y) ht60 (by assumption)) | (have hem_ := met3 (x := x) (y := y) ht60 (by assumption) (by assumption))
                refine ⟨by exact (if_neg (fun h_ => nomatch h_.1)).symm, by repeat (first | exact uE | refine uN (by omega) ?_ | assumption | exact hd _ (by omega) | exact hd60 _ (by omega) | fail), fun k_ hk_ hl_ => ?_⟩
                simp only [dL, updL, List.map_cons, List.map_nil]; by_cases e0_ : k_ = (n + 4); (focus subst e0_; refine bl_eq ?_; first | (refine' blec ?hb ?hl; (case hb => repeat (first | exact uE | assumption | refine uN (by omega) ?_ | fail)); (case hl => first | exact VLes.refl _ | ((repeat' (first | exact VLe.refl _ | exact VLe.own_sl _ _ _ | exact VLe.fl_sl _ _ | exact VLe.nil_sl _ | exact VLe.nil_fl _ | exact VLes.refl _ | exact .nil | refine VLe.tup ?_ | refine VLe.agg ?_ | refine .cons ?_ ?_ | (rw [Int.natCast_add]; exact VLe.refl _) | exact vle_int (by omega) | exact vle_bool (by first | rfl | assumption | (simp_all; done)) | fail)); done))) | (refine ble ?_; (repeat (first | exact uE | assumption | refine uN (by omega) ?_ | fail)); done)); refine bl_ne e0_ ?_; by_cases e1_ : k_ = (n + 5); (focus subst e1_; refine bl_eq ?_; first | (refine' blec ?hb ?hl; (case hb => repeat (first | exact uE | assumption | refine uN (by omega) ?_ | fail)); (case hl => first | exact VLes.refl _ | ((repeat' (first | exact VLe.refl _ | exact VLe.own_sl _ _ _ | exact VLe.fl_sl _ _ | exact VLe.nil_sl _ | exact VLe.nil_fl _ | exact VLes.refl _ | exact .nil | refine VLe.tup ?_ | refine VLe.agg ?_ | refine .cons ?_ ?_ | (rw [Int.natCast_add]; exact VLe.refl _) | exact vle_int (by omega) | exact vle_bool (by first | rfl | assumption | (simp_all; done)) | fail)); done))) | (refine ble ?_; (repeat (first | exact uE | assumption | refine uN (by omega) ?_ | fail)); done)); refine bl_ne e1_ ?_; exact ble (by repeat (first | exact rfl | refine uN (by first | assumption | omega) ?_ | assumption | exact hf60 _ (by omega) (by first | assumption | omega) (by first | assumption | omega) (by first | assumption | omega) (by first | assumption | omega) | fail))
          · intro bb60 b60 hb60
            simp only [dL, eM, updL, List.map_cons, List.map_nil] at hb60
            subst hb60
            refine runs_seq ?_
            refine runs_draw (by kernel_rfl) (by kernel_rfl) (by kernel_rfl) ?_
            refine' dl0 (gn rfl) rfl rfl (step_load_one rfl (ev_mk rfl) F.one3 ?hv) ⟨?hb, trivial⟩ ?_
            case hb => repeat (first | exact uE | refine uN (by omega) ?_ | assumption | exact hd _ (by omega) | fail)
            case hv => rfl
            refine' dl0 (gn rfl) rfl rfl (step_load_one rfl (ev_mk rfl) F.one35 ?hv) ⟨?hb, trivial⟩ ?_
            case hb => repeat (first | exact uE | refine uN (by omega) ?_ | assumption | exact hd _ (by omega) | fail)
            case hv => rfl
            refine dl0 (gn rfl) rfl rfl (step_len (m := (touL a b c d).length) rfl rfl (ev_mk rfl) (.inl ⟨⟨_, Try.underlying35⟩, .inl ⟨_, _, .inl rfl, List.length_map _⟩⟩)) trivial ?_
            refine dl_eql (gn rfl) rfl rfl rfl rfl rfl (fun h8 => ?_) (fun h8 => ?_)
            rotate_left
            · exact False.elim (by omega)
            refine dl0 (gn rfl) rfl rfl (step_mv rfl rfl) trivial ?_
            refine' dl0 (gy rfl rfl rfl rfl rfl rfl) rfl rfl (step_load_all rfl rfl F.agg24 ?hl) ⟨?hb, trivial⟩ ?_
            case hb => repeat (first | exact uE | refine uN (by omega) ?_ | assumption | exact hd _ (by omega) | fail)
            case hl => first | rfl | (simp; done) | (first | (simp; done) | (simp; omega) | omega)
            refine dl0 (gy rfl rfl rfl rfl rfl rfl) rfl rfl (step_callc rfl Try.func20 rfl rfl rfl (cnt_c g0 g1 g2 g3) (by repeat (first | exact .nil | refine .cons ?_ ?_ | exact VLe.refl _ | exact VLe.own_sl _ _ _ | exact VLe.fl_sl _ _ | exact VLe.nil_sl _ | exact VLe.nil_fl _ | refine VLe.agg ?_))) trivial ?_
            refine' dl0 (gy rfl rfl rfl rfl rfl rfl) rfl rfl (step_load_one rfl (ev_mk rfl) F.one3 ?hv) ⟨?hb, trivial⟩ ?_
            case hb => repeat (first | exact uE | refine uN (by omega) ?_ | assumption | exact hd _ (by omega) | fail)
            case hv => rfl
            refine dl_eql (gy rfl rfl rfl rfl rfl rfl) rfl rfl rfl rfl rfl (fun h9 => ?_) (fun h9 => ?_)
            rotate_left
            · exact False.elim (by omega)
            refine dl0 (gn rfl) rfl rfl (step_pick rfl (ev_mk rfl) (ev_mk rfl)) trivial ?_
            refine dl0 (gn rfl) rfl rfl (step_mv rfl rfl) trivial ?_
            refine' dl0 (gy rfl rfl rfl rfl rfl rfl) rfl rfl (step_load_all rfl rfl F.agg24 ?hl) ⟨?hb, trivial⟩ ?_
            case hb => repeat (first | exact uE | refine uN (by omega) ?_ | assumption | exact hd _ (by omega) | fail)
            case hl => first | rfl | (simp; done) | (first | (simp; done) | (simp; omega) | omega)
            refine dl0 (gy rfl rfl rfl rfl rfl rfl) rfl rfl (step_mv rfl rfl) trivial ?_
            refine dl0 (gy rfl rfl rfl rfl rfl rfl) rfl rfl (step_mv rfl rfl) trivial ?_
            refine dl0 (gy rfl rfl rfl rfl rfl rfl) rfl rfl (step_callc rfl Try.func7 rfl rfl rfl (has_c) (by repeat (first | exact .nil | refine .cons ?_ ?_ | exact VLe.refl _ | exact VLe.own_sl _ _ _ | exact VLe.fl_sl _ _ | exact VLe.nil_sl _ | exact VLe.nil_fl _ | refine VLe.agg ?_))) trivial ?_
            refine dl0 (gy rfl rfl rfl rfl rfl rfl) rfl rfl (step_unOp rfl (ev_mk rfl) (fun _ => rfl)) trivial ?_
            refine dl0 (gy rfl rfl rfl rfl rfl rfl) rfl rfl (step_mv rfl rfl) trivial ?_
            refine dl_bool (d := 111) rfl (fun h10 => ?_) (fun h10 => ?_)
            · skip
              refine dlk rfl rfl rfl rfl rfl (ngb rfl rfl) rfl rfl ?_
              refine dl0 (gy rfl rfl rfl rfl rfl rfl) rfl rfl (step_pick rfl (ev_mk rfl) (ev_mk rfl)) trivial ?_
              refine dl0 (gn rfl) rfl rfl (step_pick rfl (ev_mk rfl) (ev_mk rfl)) trivial ?_
              refine dl0 (gn rfl) rfl rfl (step_mv rfl rfl) trivial ?_
              refine dl0 (gy rfl rfl rfl rfl rfl rfl) rfl rfl (step_callc rfl Try.func14 rfl rfl rfl (works_c) (by repeat (first | exact .nil | refine .cons ?_ ?_ | exact VLe.refl _ | exact VLe.own_sl _ _ _ | exact VLe.fl_sl _ _ | exact VLe.nil_sl _ | exact VLe.nil_fl _ | refine VLe.agg ?_))) trivial ?_
              refine dl0 (gn rfl) rfl rfl (step_pick rfl (ev_mk rfl) (ev_mk rfl)) trivial ?_
              refine' dls (gn rfl) rfl (step_store1 rfl rfl rfl rfl F.one4 rfl rfl ?hl ?hc) ⟨?hb, trivial⟩ ?hk ?_
              case hb => repeat (first | exact uE | refine uN (by omega) ?_ | assumption | exact hd _ (by omega) | fail)
              case hl => first | exact Nat.le_of_ble_eq_true rfl | decide | (simp; done) | (simp; omega) | (first | (simp; done) | (simp; omega) | omega)
              case hc => first | (simp only [List.set_cons_succ, List.set_cons_zero]; rfl) | rfl
              case hk => omega
              refine dlnil ?_ ?_
              · repeat' (first | exact trivial | exact .inr (ap0 _ _ _ _) | exact .inr (ap2 _ _ _ _) | exact .inr (ap3 _ _ _ _) | exact .inr ⟨by first | (simp; done) | (simp; omega), by first | (simp; done) | (simp; omega)⟩ | exact .inl (by kernel_rfl) | refine ⟨?_, ?_⟩ | fail)
              refine runs_ret ?_
              refine ⟨by first | exact .inr rfl | exact .inl rfl, fin_mkg (resc1 rfl (by repeat (first | exact uE | refine uN (by omega) ?_ | assumption | exact hd _ (by omega) | fail)) F.one4 rfl res0) ?_ ?_ ?_ ?_ ?_⟩
              · (repeat' (first | exact VLe.refl _ | exact VLe.own_sl _ _ _ | exact VLe.fl_sl _ _ | exact VLe.nil_sl _ | exact VLe.nil_fl _ | exact VLes.refl _ | exact .nil | refine VLe.tup ?_ | refine VLe.agg ?_ | refine .cons ?_ ?_ | (rw [Int.natCast_add]; exact VLe.refl _) | exact vle_int (by omega) | exact vle_bool (by first | rfl | assumption | (simp_all; done)) | fail))
              · repeat (first | exact trivial | assumption | omega | (refine bdR_map (fun _ => ?_)) | (refine bdL_map (fun _ => ?_)) | refine ⟨?_, ?_⟩ | fail)
              · intro k_ hk_; exact ble (by repeat (first | exact rfl | refine uN (by omega) ?_ | assumption | fail))
              · intro p hp; cases hp
              · repeat (first | exact trivial | assumption | omega | (refine bdR_map (fun _ => ?_)) | (refine bdL_map (fun _ => ?_)) | refine ⟨?_, ?_⟩ | fail)
            · skip
              refine' dl0 (gy rfl rfl rfl rfl rfl rfl) rfl rfl (step_load_one rfl (ev_mk rfl) F.one4 ?hv) ⟨?hb, trivial⟩ ?_
              case hb => repeat (first | exact uE | refine uN (by omega) ?_ | assumption | exact hd _ (by omega) | fail)
              case hv => rfl
              refine dl_know (d := 112) (c := true) rfl (met_all g0 g1 g2 g3 hx hy (by assumption)) ?_
              refine dl0 (gy rfl rfl rfl rfl rfl rfl) rfl rfl (step_pick rfl (ev_mk rfl) (ev_mk rfl)) trivial ?_
              refine dl0 (gn rfl) rfl rfl (step_pick rfl (ev_mk rfl) (ev_mk rfl)) trivial ?_
              refine dl0 (gn rfl) rfl rfl (step_mv rfl rfl) trivial ?_
              refine dl0 (gy rfl rfl rfl rfl rfl rfl) rfl rfl (step_callc rfl Try.func14 rfl rfl rfl (works_c) (by repeat (first | exact .nil | refine .cons ?_ ?_ | exact VLe.refl _ | exact VLe.own_sl _ _ _ | exact VLe.fl_sl _ _ | exact VLe.nil_sl _ | exact VLe.nil_fl _ | refine VLe.agg ?_))) trivial ?_
              refine dl0 (gn rfl) rfl rfl (step_pick rfl (ev_mk rfl) (ev_mk rfl)) trivial ?_
              refine' dls (gn rfl) rfl (step_store1 rfl rfl rfl rfl F.one4 rfl rfl ?hl ?hc) ⟨?hb, trivial⟩ ?hk ?_
              case hb => repeat (first | exact uE | refine uN (by omega) ?_ | assumption | exact hd _ (by omega) | fail)
              case hl => first | exact Nat.le_of_ble_eq_true rfl | decide | (simp; done) | (simp; omega) | (first | (simp; done) | (simp; omega) | omega)
              case hc => first | (simp only [List.set_cons_succ, List.set_cons_zero]; rfl) | rfl
              case hk => omega
              refine dlnil ?_ ?_
              · repeat' (first | exact trivial | exact .inr (ap0 _ _ _ _) | exact .inr (ap2 _ _ _ _) | exact .inr (ap3 _ _ _ _) | exact .inr ⟨by first | (simp; done) | (simp; omega), by first | (simp; done) | (simp; omega)⟩ | exact .inl (by kernel_rfl) | refine ⟨?_, ?_⟩ | fail)
              refine runs_ret ?_
              refine ⟨by first | exact .inr rfl | exact .inl rfl, fin_mkg (resc1 rfl (by repeat (first | exact uE | refine uN (by omega) ?_ | assumption | exact hd _ (by omega) | fail)) F.one4 rfl res0) ?_ ?_ ?_ ?_ ?_⟩
              · (repeat' (first | exact VLe.refl _ | exact VLe.own_sl _ _ _ | exact VLe.fl_sl _ _ | exact VLe.nil_sl _ | exact VLe.nil_fl _ | exact VLes.refl _ | exact .nil | refine VLe.tup ?_ | refine VLe.agg ?_ | refine .cons ?_ ?_ | (rw [Int.natCast_add]; exact VLe.refl _) | exact vle_int (by omega) | exact vle_bool (by first | rfl | assumption | (simp_all; done)) | fail))
              · repeat (first | exact trivial | assumption | omega | (refine bdR_map (fun _ => ?_)) | (refine bdL_map (fun _ => ?_)) | refine ⟨?_, ?_⟩ | fail)
              · intro k_ hk_; exact ble (by repeat (first | exact rfl | refine uN (by omega) ?_ | assumption | fail))
              · intro p hp; cases hp
              · repeat (first | exact trivial | assumption | omega | (refine bdR_map (fun _ => ?_)) | (refine bdL_map (fun _ => ?_)) | refine ⟨?_, ?_⟩ | fail)
      · skip
        refine dl0 (gy rfl rfl rfl rfl rfl rfl) rfl rfl (step_neqb rfl (ev_mk rfl) (ev_mk rfl) Try.underlying4) trivial ?_
        refine dl0 (gn rfl) rfl rfl (step_pick rfl (ev_mk rfl) (ev_mk rfl)) trivial ?_
        refine dlnil ?_ ?_
        · repeat' (first | exact trivial | exact .inr (ap0 _ _ _ _) | exact .inr (ap2 _ _ _ _) | exact .inr (ap3 _ _ _ _) | exact .inr ⟨by first | (simp; done) | (simp; omega), by first | (simp; done) | (simp; omega)⟩ | exact .inl (by kernel_rfl) | refine ⟨?_, ?_⟩ | fail)
        refine runs_cond _ (ev_mk rfl) (fun h7 => ?_) (fun h7 => ?_)
        · skip
          exact False.elim (by (rw [has_of hx hy] at h7; simp_all))
        · skip
          refine runs_skip ?_
          refine runs_seq ?_
          refine runs_region ?_
          refine' rl0 (gn rfl) rfl rfl (step_load_all rfl rfl F.agg24 ?hl) ⟨?hb, trivial⟩ ?_
          case hb => repeat (first | exact uE | refine uN (by omega) ?_ | assumption | exact hd _ (by omega) | fail)
          case hl => first | rfl | (simp; done) | (first | (simp; done) | (simp; omega) | omega)
          refine rl0 (gn rfl) rfl rfl (step_callc rfl Try.func18 rfl rfl rfl (rtou2 g0 g1 g2 g3) (by repeat (first | exact .nil | refine .cons ?_ ?_ | exact VLe.refl _ | exact VLe.own_sl _ _ _ | exact VLe.fl_sl _ _ | exact VLe.nil_sl _ | exact VLe.nil_fl _ | refine VLe.agg ?_))) trivial ?_
          refine rl1 (gn rfl) rfl rfl (step_allocc (k := n + 3) (zs := [.slice none 0 0]) (cs := [.sc (.slice none 0 0)]) rfl F.zero35 (by first | rfl | simp) (by first | rfl | decide | simp) (by first | rfl | simp)) ⟨by repeat (first | exact uE | refine uN (by omega) ?_ | assumption | exact hd _ (by omega) | fail), trivial⟩ (by omega) ?_
          refine' rls (gn rfl) rfl (step_store1 rfl rfl rfl rfl F.one35 rfl rfl ?hl ?hc) ⟨?hb, trivial⟩ ?hk ?_
          case hb => repeat (first | exact uE | refine uN (by omega) ?_ | assumption | exact hd _ (by omega) | fail)
          case hl => first | exact Nat.le_of_ble_eq_true rfl | decide | (simp; done) | (simp; omega) | (first | (simp; done) | (simp; omega) | omega)
          case hc => first | (simp only [List.set_cons_succ, List.set_cons_zero]; rfl) | rfl
          case hk => omega
          refine runsL_nil ?_
          refine runs_seq ?_
          refine runs_region ?_
          refine rl1 (gn rfl) rfl rfl (step_allocc (k := n + 4) (zs := [.int .i64 0]) (cs := [.sc (.int .i64 0)]) rfl F.zero3 (by first | rfl | simp) (by first | rfl | decide | simp) (by first | rfl | simp)) ⟨by repeat (first | exact uE | refine uN (by omega) ?_ | assumption | exact hd _ (by omega) | fail), trivial⟩ (by omega) ?_
          refine' rls (gn rfl) rfl (step_store1 rfl rfl rfl rfl F.one3 rfl rfl ?hl ?hc) ⟨?hb, trivial⟩ ?hk ?_
          case hb => repeat (first | exact uE | refine uN (by omega) ?_ | assumption | exact hd _ (by omega) | fail)
          case hl => first | exact Nat.le_of_ble_eq_true rfl | decide | (simp; done) | (simp; omega) | (first | (simp; done) | (simp; omega) | omega)
          case hc => first | (simp only [List.set_cons_succ, List.set_cons_zero]; rfl) | rfl
          case hk => omega
          refine runsL_nil ?_
          refine runs_seq ?_
          refine runs_region ?_
          refine rl1 (gn rfl) rfl rfl (step_allocc (k := n + 5) (zs := [.bool false]) (cs := [.sc (.bool false)]) rfl F.zero4 (by first | rfl | simp) (by first | rfl | decide | simp) (by first | rfl | simp)) ⟨by repeat (first | exact uE | refine uN (by omega) ?_ | assumption | exact hd _ (by omega) | fail), trivial⟩ (by omega) ?_
          refine' rls (gn rfl) rfl (step_store1 rfl rfl rfl rfl F.one4 rfl rfl ?hl ?hc) ⟨?hb, trivial⟩ ?hk ?_
          case hb => repeat (first | exact uE | refine uN (by omega) ?_ | assumption | exact hd _ (by omega) | fail)
          case hl => first | exact Nat.le_of_ble_eq_true rfl | decide | (simp; done) | (simp; omega) | (first | (simp; done) | (simp; omega) | omega)
          case hc => first | (simp only [List.set_cons_succ, List.set_cons_zero]; rfl) | rfl
          case hk => omega
          refine runsL_nil ?_
          refine runs_seq ?_
          refine runs_region ?_
          refine' rl0 (gn rfl) rfl rfl (step_load_all rfl rfl F.agg24 ?hl) ⟨?hb, trivial⟩ ?_
          case hb => repeat (first | exact uE | refine uN (by omega) ?_ | assumption | exact hd _ (by omega) | fail)
          case hl => first | rfl | (simp; done) | (first | (simp; done) | (simp; omega) | omega)
          refine rl1 (gn rfl) rfl rfl (step_callc rfl Try.func19 rfl rfl rfl (tou_c (kk := (n + 6))) (by repeat (first | exact .nil | refine .cons ?_ ?_ | exact VLe.refl _ | exact VLe.own_sl _ _ _ | exact VLe.fl_sl _ _ | exact VLe.nil_sl _ | exact VLe.nil_fl _ | refine VLe.agg ?_))) ⟨by repeat (first | exact uE | refine uN (by omega) ?_ | assumption | exact hd _ (by omega) | fail), trivial⟩ (by omega) ?_
          refine rl0 (gn rfl) rfl rfl (step_as rfl rfl) trivial ?_
          refine runsL_nil ?_
          refine runs_seq ?_
          refine runs_seq ?_
          refine runs_region ?_
          refine rl0 (gn rfl) rfl rfl (step_mv rfl rfl) trivial ?_
          refine rl0 (gn rfl) rfl rfl (step_eq_nilf (b := false) rfl (ev_mk rfl) (ev_mk rfl) Try.underlying38 ⟨_, .inl ⟨.inl ⟨_, _, rfl⟩, rfl⟩, .inl ⟨rfl, rfl⟩⟩) trivial ?_
          refine runsL_nil ?_
          refine runs_cond false (ev_mk rfl) (fun h_ => nomatch h_) (fun _ => ?_)
          refine runs_skip ?_
          refine runs_seq ?_
          refine runs_seq ?_
          refine runs_region ?_
          refine rl0 (gn rfl) rfl rfl (step_mv rfl rfl) trivial ?_
          refine runsL_nil ?_
          refine runs_block ?_
          refine runs_rangeL (f := 22) (caps := [.ref (n + 6) 0]) (xs := (touL a b c d).map enT) (Dl := [(n + 4, fun i60 => .cells [.sc (.int .i64 (i60 : Nat))]), (n + 5, fun i60 => .cells [.sc (.bool (metF a b c d x y i60))])]) (El := [(n + 6, .cells (rcC a b c d), fun m_ b_ => .cells (rcC a b c d))]) (kl := n + 7) (m := (touL a b c d).length) (brk := false) (ex := .normal) hO rfl (.inl rfl) Try.func22 rfl rfl (tou_i g0 g1 g2 g3) (by repeat (first | exact uE | refine uN (by omega) ?_ | assumption | exact hd _ (by omega) | fail)) (by omega) (by simp) (fun h_ => nomatch h_) (fun _ => ⟨by simp, rfl⟩) (fun v_ hv_ => by obtain ⟨_, _, rfl⟩ := List.mem_map.1 hv_; rfl) rfl ⟨⟨by dsimp only; omega, trivial⟩, ⟨trivial, trivial⟩⟩ ⟨⟨by dsimp only; omega, by dsimp only; omega, ⟨by dsimp only; omega, trivial⟩, by dsimp only; (first | ((repeat (first | exact uE | assumption | refine uN (by omega) ?_ | fail)); done) | (refine Eq.trans (b := .cells [.sc (.int .i64 0)]) (by repeat (first | exact uE | assumption | refine uN (by omega) ?_ | fail)) ?_; first | rfl | (simp; done)))⟩, ⟨by dsimp only; omega, by dsimp only; omega, ⟨by dsimp only; omega, trivial⟩, by dsimp only; (first | ((repeat (first | exact uE | assumption | refine uN (by omega) ?_ | fail)); done) | (refine Eq.trans (b := .cells [.sc (.bool false)]) (by repeat (first | exact uE | assumption | refine uN (by omega) ?_ | fail)) ?_; first | rfl | (simp; done)))⟩, trivial⟩ ⟨⟨by dsimp only; omega, by dsimp only; omega, by dsimp only; repeat (first | exact uE | refine uN (by omega) ?_ | assumption | exact hd _ (by omega) | fail)⟩, trivial⟩ (fun i60 => ⟨bdb_cells (by repeat (first | exact trivial | assumption | omega | (refine bdR_map (fun _ => ?_)) | (refine bdL_map (fun _ => ?_)) | refine ⟨?_, ?_⟩ | fail)), bdb_cells (by repeat (first | exact trivial | assumption | omega | (refine bdR_map (fun _ => ?_)) | (refine bdL_map (fun _ => ?_)) | refine ⟨?_, ?_⟩ | fail)), trivial⟩) ⟨bdb_cells (by repeat (first | exact trivial | assumption | omega | (refine bdR_map (fun _ => ?_)) | (refine bdL_map (fun _ => ?_)) | refine ⟨?_, ?_⟩ | fail)), trivial⟩ ?_ ?_
          · intro i60 v60 hi60 hv60 B60 n60 lr60 bx60 hR60 hl60 hk60 ho60 he60 hn60 hd60 hD60 hfr60
            have hf60 : ∀ k_, k_ < _ → k_ ≠ n + 4 → k_ ≠ n + 5 → k_ ≠ n + 6 → k_ ≠ n + 7 → bx60 k_ = _ := fun k_ a_ e0_ e1_ e2_ e3_ => hfr60 k_ a_ ⟨e0_, e1_, e2_, trivial⟩ e3_
            have hb60_0 : bx60 (n + 4) = .cells [.sc (.int .i64 (i60 : Nat))] := hD60.1
            have hb60_1 : bx60 (n + 5) = .cells [.sc (.bool (metF a b c d x y i60))] := hD60.2.1
            have hc60_0 : bx60 (n + 0) = .cells [.sc (.int .u32 a), .sc (.int .u32 b), .sc (.int .u32 c), .sc (.int .u32 d)] := (hf60 _ (by omega) (by omega) (by omega) (by omega) (by omega)).trans (by repeat (first | exact uE | refine uN (by omega) ?_ | assumption | exact hd _ (by omega) | fail))
            have hc60_1 : bx60 (n + 1) = .cells [.sc (.bool false)] := (hf60 _ (by omega) (by omega) (by omega) (by omega) (by omega)).trans (by repeat (first | exact uE | refine uN (by omega) ?_ | assumption | exact hd _ (by omega) | fail))
            have hc60_2 : bx60 (n + 2) = .cells [.sc (.int .i64 (tiF x y))] := (hf60 _ (by omega) (by omega) (by omega) (by omega) (by omega)).trans (by repeat (first | exact uE | refine uN (by omega) ?_ | assumption | exact hd _ (by omega) | fail))
            have hc60_3 : bx60 (n + 3) = .cells [.sl 1 ((touL a b c d).map enT)] := (hf60 _ (by omega) (by omega) (by omega) (by omega) (by omega)).trans (by repeat (first | exact uE | refine uN (by omega) ?_ | assumption | exact hd _ (by omega) | fail))
            obtain ⟨t60, ht60, rfl⟩ := map_get hv60
            refine runs_keep (l' := [(67, .sc (.int .i64 t60)), (4, .ref (n + 0) 0), (8, .ref (n + 1) 0), (9, .ref (n + 2) 0), (10, .ref (n + 3) 0), (11, .ref (n + 4) 0), (12, .ref (n + 5) 0)]) ?_ ?_
            · (repeat' (first | exact trivial | refine ⟨⟨_, rfl, ?_⟩, ?_⟩ | fail)); all_goals (repeat' (first | exact VLe.refl _ | exact VLe.own_sl _ _ _ | exact VLe.fl_sl _ _ | exact VLe.nil_sl _ | exact VLe.nil_fl _ | exact VLes.refl _ | exact .nil | refine VLe.tup ?_ | refine VLe.agg ?_ | refine .cons ?_ ?_ | (rw [Int.natCast_add]; exact VLe.refl _) | exact vle_int (by omega) | exact vle_bool (by first | rfl | assumption | (simp_all; done)) | fail))
            refine runs_bump 40 ?_
            refine runs_region ?_
            refine rl0 (gn rfl) rfl rfl (step_as rfl rfl) trivial ?_
            refine runsL_nil ?_
            refine ⟨rfl, by first | rfl | (repeat (first | exact uE | refine uN (by omega) ?_ | assumption | exact hd _ (by omega) | exact hd60 _ (by omega) | fail)), fun r60 => ?_⟩
            show Runs _ _ _ _ ⟨mk _, _ + _, upd _ _ _⟩ _
            refine runs_block ?_
            refine runs_seq ?_
            refine runs_seq ?_
            refine runs_draw (by kernel_rfl) (by kernel_rfl) (by kernel_rfl) ?_
            refine' dl0 (gn rfl) rfl rfl (step_load_one rfl (ev_mk rfl) F.one3 ?hv) ⟨?hb, trivial⟩ ?_
            case hb => repeat (first | exact uE | refine uN (by omega) ?_ | assumption | exact hd _ (by omega) | exact hd60 _ (by omega) | fail)
            case hv => rfl
            refine' dl0 (gn rfl) rfl rfl (step_load_one rfl (ev_mk rfl) F.one35 ?hv) ⟨?hb, trivial⟩ ?_
            case hb => repeat (first | exact uE | refine uN (by omega) ?_ | assumption | exact hd _ (by omega) | exact hd60 _ (by omega) | fail)
            case hv => rfl
            refine dl0 (gn rfl) rfl rfl (step_len (m := (touL a b c d).length) rfl rfl (ev_mk rfl) (.inl ⟨⟨_, Try.underlying35⟩, .inl ⟨_, _, .inl rfl, List.length_map _⟩⟩)) trivial ?_
            refine dl_geq (gn rfl) rfl rfl rfl rfl rfl (fun h8 => ?_) (fun h8 => ?_)
            · exact False.elim (by omega)
            refine dl0 (gn rfl) rfl rfl (step_mv rfl rfl) trivial ?_
            refine' dl0 (gy rfl rfl rfl rfl rfl rfl) rfl rfl (step_load_one rfl (ev_mk rfl) F.one35 ?hv) ⟨?hb, trivial⟩ ?_
            case hb => repeat (first | exact uE | refine uN (by omega) ?_ | assumption | exact hd _ (by omega) | exact hd60 _ (by omega) | fail)
            case hv => rfl
            refine' dl0 (gy rfl rfl rfl rfl rfl rfl) rfl rfl (step_load_one rfl (ev_mk rfl) F.one3 ?hv) ⟨?hb, trivial⟩ ?_
            case hb => repeat (first | exact uE | refine uN (by omega) ?_ | assumption | exact hd _ (by omega) | exact hd60 _ (by omega) | fail)
            case hv => rfl
            refine' dl0 (gy rfl rfl rfl rfl rfl rfl) rfl rfl (step_index rfl (ev_mk rfl) (.inl rfl) (ev_mk rfl) Try.underlying35 F.sz3 (by omega) ?hr) trivial ?_
            case hr => exact map_at _ _ _ (by omega) (by omega)
            refine dl0 (gy rfl rfl rfl rfl rfl rfl) rfl rfl (step_load_ro rfl (ev_mk rfl) F.one3 rfl) trivial ?_
            refine dl0 (gy rfl rfl rfl rfl rfl rfl) rfl rfl (step_mv rfl rfl) trivial ?_
            refine dl_neq (gy rfl rfl rfl rfl rfl rfl) rfl rfl rfl rfl rfl (fun h9 => ?_) (fun h9 => ?_)
            · exact False.elim (by exact h9 (at_get ht60))
            refine dl0 (gn rfl) rfl rfl (step_pick rfl (ev_mk rfl) (ev_mk rfl)) trivial ?_
            refine dl0 (gn rfl) rfl rfl (step_mv rfl rfl) trivial ?_
            refine dl0 (gy rfl rfl rfl rfl rfl rfl) rfl rfl (step_mv rfl rfl) trivial ?_
            refine dl0 (gy rfl rfl rfl rfl rfl rfl) rfl rfl (step_callc rfl Try.func17 rfl rfl rfl (of_c) (by repeat (first | exact .nil | refine .cons ?_ ?_ | exact VLe.refl _ | exact VLe.own_sl _ _ _ | exact VLe.fl_sl _ _ | exact VLe.nil_sl _ | exact VLe.nil_fl _ | refine VLe.agg ?_))) trivial ?_
            refine' dl0 (gy rfl rfl rfl rfl rfl rfl) rfl rfl (step_load_all rfl rfl F.agg24 ?hl) ⟨?hb, trivial⟩ ?_
            case hb => repeat (first | exact uE | refine uN (by omega) ?_ | assumption | exact hd _ (by omega) | exact hd60 _ (by omega) | fail)
            case hl => first | rfl | (simp; done) | (first | (simp; done) | (simp; omega) | omega)
            refine dl0 (gy rfl rfl rfl rfl rfl rfl) rfl rfl (step_callc rfl Try.func11 rfl rfl rfl (meets_c) (by repeat (first | exact .nil | refine .cons ?_ ?_ | exact VLe.refl _ | exact VLe.own_sl _ _ _ | exact VLe.fl_sl _ _ | exact VLe.nil_sl _ | exact VLe.nil_fl _ | refine VLe.agg ?_))) trivial ?_
            refine dl_know (d := 84) (c := true) rfl (meets_of g0 g1 g2 g3 (List.mem_of_getElem? ht60)) ?_
            refine dl0 (gy rfl rfl rfl rfl rfl rfl) rfl rfl (step_unOp (c := .bool false) rfl (ev_mk rfl) (fun _ => rfl)) trivial ?_
            refine dl0 (gn rfl) rfl rfl (step_pick rfl (ev_mk rfl) (ev_mk rfl)) trivial ?_
            refine dlnil ?_ ?_
            · repeat' (first | exact trivial | exact .inr (ap0 _ _ _ _) | exact .inr (ap2 _ _ _ _) | exact .inr (ap3 _ _ _ _) | exact .inr ⟨by first | (simp; done) | (simp; omega), by first | (simp; done) | (simp; omega)⟩ | exact .inl (by kernel_rfl) | refine ⟨?_, ?_⟩ | fail)
            refine runs_cond false (ev_mk rfl) (fun h_ => nomatch h_) (fun _ => ?_)
            refine runs_skip ?_
            refine runs_seq ?_
            refine runs_region ?_
            refine' rl0 (gn rfl) rfl rfl (step_load_one rfl (ev_mk rfl) F.one4 ?hv) ⟨?hb, trivial⟩ ?_
            case hb => repeat (first | exact uE | refine uN (by omega) ?_ | assumption | exact hd _ (by omega) | exact hd60 _ (by omega) | fail)
            case hv => rfl
            refine rl0 (gn rfl) rfl rfl (step_mv rfl rfl) trivial ?_
            refine rl_bool (d := 88) rfl (fun h10 => ?_) (fun h10 => ?_)
            · skip
              refine rlk rfl rfl rfl rfl rfl (ngb rfl rfl) rfl rfl ?_
              refine rlk rfl rfl rfl rfl rfl (ngb rfl rfl) rfl rfl ?_
              refine rlk rfl rfl rfl rfl rfl (ngb rfl rfl) rfl rfl ?_
              refine rl0 (gn rfl) rfl rfl (step_pick rfl (ev_mk rfl) (ev_mk rfl)) trivial ?_
              refine' rls (gn rfl) rfl (step_store1 rfl rfl rfl rfl F.one4 rfl rfl ?hl ?hc) ⟨?hb, trivial⟩ ?hk ?_
              case hb => repeat (first | exact uE | refine uN (by omega) ?_ | assumption | exact hd _ (by omega) | exact hd60 _ (by omega) | fail)
              case hl => first | exact Nat.le_of_ble_eq_true rfl | decide | (simp; done) | (simp; omega) | (first | (simp; done) | (simp; omega) | omega)
              case hc => first | (simp only [List.set_cons_succ, List.set_cons_zero]; rfl) | rfl
              case hk => omega
              refine runsL_nil ?_
              refine runs_region ?_
              refine' rl0 (gn rfl) rfl rfl (step_load_one rfl (ev_mk rfl) F.one3 ?hv) ⟨?hb, trivial⟩ ?_
              case hb => repeat (first | exact uE | refine uN (by omega) ?_ | assumption | exact hd _ (by omega) | exact hd60 _ (by omega) | fail)
              case hv => rfl
              refine rl0 (gn rfl) rfl rfl (step_add rfl (ev_mk rfl) (ev_mk rfl) (w64 (by omega))) trivial ?_
              refine' rls (gn rfl) rfl (step_store1 rfl rfl rfl rfl F.one3 rfl rfl ?hl ?hc) ⟨?hb, trivial⟩ ?hk ?_
              case hb => repeat (first | exact uE | refine uN (by omega) ?_ | assumption | exact hd _ (by omega) | exact hd60 _ (by omega) | fail)
              case hl => first | exact Nat.le_of_ble_eq_true rfl | decide | (simp; done) | (simp; omega) | (first | (simp; done) | (simp; omega) | omega)
              case hc => first | (simp only [List.set_cons_succ, List.set_cons_zero]; rfl) | rfl
              case hk => omega
              refine runsL_nil ?_
              first | (have hem_ := met1 (x := x) (y := y) ht60 (by assumption)) | (have hem_ := met2 (x := x) (y := y) ht60 (by assumption)) | (have hem_ := met3 (x := x) (y := y) ht60 (by assumption) (by assumption))
              refine ⟨by exact (if_neg (fun h_ => nomatch h_.1)).symm, by repeat (first | exact uE | refine uN (by omega) ?_ | assumption | exact hd _ (by omega) | exact hd60 _ (by omega) | fail), fun k_ hk_ hl_ => ?_⟩
              simp only [dL, updL, List.map_cons, List.map_nil]; by_cases e0_ : k_ = (n + 4); (focus subst e0_; refine bl_eq ?_; first | (refine' blec ?hb ?hl; (case hb => repeat (first | exact uE | assumption | refine uN (by omega) ?_ | fail)); (case hl => first | exact VLes.refl _ | ((repeat' (first | exact VLe.refl _ | exact VLe.own_sl _ _ _ | exact VLe.fl_sl _ _ | exact VLe.nil_sl _ | exact VLe.nil_fl _ | exact VLes.refl _ | exact .nil | refine VLe.tup ?_ | refine VLe.agg ?_ | refine .cons ?_ ?_ | (rw [Int.natCast_add]; exact VLe.refl _) | exact vle_int (by omega) | exact vle_bool (by first | rfl | assumption | (simp_all; done)) | fail)); done))) | (refine ble ?_; (repeat (first | exact uE | assumption | refine uN (by omega) ?_ | fail)); done)); refine bl_ne e0_ ?_; by_cases e1_ : k_ = (n + 5); (focus subst e1_; refine bl_eq ?_; first | (refine' blec ?hb ?hl; (case hb => repeat (first | exact uE | assumption | refine uN (by omega) ?_ | fail)); (case hl => first | exact VLes.refl _ | ((repeat' (first | exact VLe.refl _ | exact VLe.own_sl _ _ _ | exact VLe.fl_sl _ _ | exact VLe.nil_sl _ | exact VLe.nil_fl _ | exact VLes.refl _ | exact .nil | refine VLe.tup ?_ | refine VLe.agg ?_ | refine .cons ?_ ?_ | (rw [Int.natCast_add]; exact VLe.refl _) | exact vle_int (by omega) | exact vle_bool (by first | rfl | assumption | (simp_all; done)) | fail)); done))) | (refine ble ?_; (repeat (first | exact uE | assumption | refine uN (by omega) ?_ | fail)); done)); refine bl_ne e1_ ?_; exact ble (by repeat (first | exact rfl | refine uN (by first | assumption | omega) ?_ | assumption | exact hf60 _ (by omega) (by first | assumption | omega) (by first | assumption | omega) (by first | assumption | omega) (by first | assumption | omega) | fail))
            · skip
              refine rl0 (gy rfl rfl rfl rfl rfl rfl) rfl rfl (step_mv rfl rfl) trivial ?_
              refine' rl0 (gy rfl rfl rfl rfl rfl rfl) rfl rfl (step_load_one rfl (ev_mk rfl) F.one3 ?hv) ⟨?hb, trivial⟩ ?_
              case hb => repeat (first | exact uE | refine uN (by omega) ?_ | assumption | exact hd _ (by omega) | exact hd60 _ (by omega) | fail)
              case hv => rfl
              refine rl_eql (gy rfl rfl rfl rfl rfl rfl) rfl rfl rfl rfl rfl (fun h11 => ?_) (fun h11 => ?_)
              · skip
                refine rl0 (gn rfl) rfl rfl (step_pick rfl (ev_mk rfl) (ev_mk rfl)) trivial ?_
                refine' rls (gn rfl) rfl (step_store1 rfl rfl rfl rfl F.one4 rfl rfl ?hl ?hc) ⟨?hb, trivial⟩ ?hk ?_
                case hb => repeat (first | exact uE | refine uN (by omega) ?_ | assumption | exact hd _ (by omega) | exact hd60 _ (by omega) | fail)
                case hl => first | exact Nat.le_of_ble_eq_true rfl | decide | (simp; done) | (simp; omega) | (first | (simp; done) | (simp; omega) | omega)
                case hc => first | (simp only [List.set_cons_succ, List.set_cons_zero]; rfl) | rfl
                case hk => omega
                refine runsL_nil ?_
                refine runs_region ?_
                refine' rl0 (gn rfl) rfl rfl (step_load_one rfl (ev_mk rfl) F.one3 ?hv) ⟨?hb, trivial⟩ ?_
                case hb => repeat (first | exact uE | refine uN (by omega) ?_ | assumption | exact hd _ (by omega) | exact hd60 _ (by omega) | fail)
                case hv => rfl
                refine rl0 (gn rfl) rfl rfl (step_add rfl (ev_mk rfl) (ev_mk rfl) (w64 (by omega))) trivial ?_
                refine' rls (gn rfl) rfl (step_store1 rfl rfl rfl rfl F.one3 rfl rfl ?hl ?hc) ⟨?hb, trivial⟩ ?hk ?_
                case hb => repeat (first | exact uE | refine uN (by omega) ?_ | assumption | exact hd _ (by omega) | exact hd60 _ (by omega) | fail)
                case hl => first | exact Nat.le_of_ble_eq_true rfl | decide | (simp; done) | (simp; omega) | (first | (simp; done) | (simp; omega) | omega)
                case hc => first | (simp only [List.set_cons_succ, List.set_cons_zero]; rfl) | rfl
                case hk => omega
                refine runsL_nil ?_
                first | (have hem_ := met1 (x := x) (y := y) ht60 (by assumption)) | (have hem_ := met2 (x := x) (y := y) ht60 (by assumption)) | (have hem_ := met3 (x := x) (y := y) ht60 (by assumption) (by assumption))
                refine ⟨by exact (if_neg (fun h_ => nomatch h_.1)).symm, by repeat (first | exact uE | refine uN (by omega) ?_ | assumption | exact hd _ (by omega) | exact hd60 _ (by omega) | fail), fun k_ hk_ hl_ => ?_⟩
                simp only [dL, updL, List.map_cons, List.map_nil]; by_cases e0_ : k_ = (n + 4); (focus subst e0_; refine bl_eq ?_; first | (refine' blec ?hb ?hl; (case hb => repeat (first | exact uE | assumption | refine uN (by omega) ?_ | fail)); (case hl => first | exact VLes.refl _ | ((repeat' (first | exact VLe.refl _ | exact VLe.own_sl _ _ _ | exact VLe.fl_sl _ _ | exact VLe.nil_sl _ | exact VLe.nil_fl _ | exact VLes.refl _ | exact .nil | refine VLe.tup ?_ | refine VLe.agg ?_ | refine .cons ?_ ?_ | (rw [Int.natCast_add]; exact VLe.refl _) | exact vle_int (by omega) | exact vle_bool (by first | rfl | assumption | (simp_all; done)) | fail)); done))) | (refine ble ?_; (repeat (first | exact uE | assumption | refine uN (by omega) ?_ | fail)); done)); refine bl_ne e0_ ?_; by_cases e1_ : k_ = (n + 5); (focus subst e1_; refine bl_eq ?_; first | (refine' blec ?hb ?hl; (case hb => repeat (first | exact uE | assumption | refine uN (by omega) ?_ | fail)); (case hl => first | exact VLes.refl _ | ((repeat' (first | exact VLe.refl _ | exact VLe.own_sl _ _ _ | exact VLe.fl_sl _ _ | exact VLe.nil_sl _ | exact VLe.nil_fl _ | exact VLes.refl _ | exact .nil | refine VLe.tup ?_ | refine VLe.agg ?_ | refine .cons ?_ ?_ | (rw [Int.natCast_add]; exact VLe.refl _) | exact vle_int (by omega) | exact vle_bool (by first | rfl | assumption | (simp_all; done)) | fail)); done))) | (refine ble ?_; (repeat (first | exact uE | assumption | refine uN (by omega) ?_ | fail)); done)); refine bl_ne e1_ ?_; exact ble (by repeat (first | exact rfl | refine uN (by first | assumption | omega) ?_ | assumption | exact hf60 _ (by omega) (by first | assumption | omega) (by first | assumption | omega) (by first | assumption | omega) (by first | assumption | omega) | fail))
              · skip
                refine rl0 (gn rfl) rfl rfl (step_pick rfl (ev_mk rfl) (ev_mk rfl)) trivial ?_
                refine' rls (gn rfl) rfl (step_store1 rfl rfl rfl rfl F.one4 rfl rfl ?hl ?hc) ⟨?hb, trivial⟩ ?hk ?_
                case hb => repeat (first | exact uE | refine uN (by omega) ?_ | assumption | exact hd _ (by omega) | exact hd60 _ (by omega) | fail)
                case hl => first | exact Nat.le_of_ble_eq_true rfl | decide | (simp; done) | (simp; omega) | (first | (simp; done) | (simp; omega) | omega)
                case hc => first | (simp only [List.set_cons_succ, List.set_cons_zero]; rfl) | rfl
                case hk => omega
                refine runsL_nil ?_
                refine runs_region ?_
                refine' rl0 (gn rfl) rfl rfl (step_load_one rfl (ev_mk rfl) F.one3 ?hv) ⟨?hb, trivial⟩ ?_
                case hb => repeat (first | exact uE | refine uN (by omega) ?_ | assumption | exact hd _ (by omega) | exact hd60 _ (by omega) | fail)
                case hv => rfl
                refine rl0 (gn rfl) rfl rfl (step_add rfl (ev_mk rfl) (ev_mk rfl) (w64 (by omega))) trivial ?_
                refine' rls (gn rfl) rfl (step_store1 rfl rfl rfl rfl F.one3 rfl rfl ?hl ?hc) ⟨?hb, trivial⟩ ?hk ?_
                case hb => repeat (first | exact uE | refine uN (by omega) ?_ | assumption | exact hd _ (by omega) | exact hd60 _ (by omega) | fail)
                case hl => first | exact Nat.le_of_ble_eq_true rfl | decide | (simp; done) | (simp; omega) | (first | (simp; done) | (simp; omega) | omega)
                case hc => first | (simp only [List.set_cons_succ, List.set_cons_zero]; rfl) | rfl
                case hk => omega
                refine runsL_nil ?_
                first | (have hem_ := met1 (x := x) (y := y) ht60 (by assumption)) | (have hem_ := met2 (x := x) (y := y) ht60 (by assumption)) | (have hem_ := met3 (x := x) (y := y) ht60 (by assumption) (by assumption))
                refine ⟨by exact (if_neg (fun h_ => nomatch h_.1)).symm, by repeat (first | exact uE | refine uN (by omega) ?_ | assumption | exact hd _ (by omega) | exact hd60 _ (by omega) | fail), fun k_ hk_ hl_ => ?_⟩
                simp only [dL, updL, List.map_cons, List.map_nil]; by_cases e0_ : k_ = (n + 4); (focus subst e0_; refine bl_eq ?_; first | (refine' blec ?hb ?hl; (case hb => repeat (first | exact uE | assumption | refine uN (by omega) ?_ | fail)); (case hl => first | exact VLes.refl _ | ((repeat' (first | exact VLe.refl _ | exact VLe.own_sl _ _ _ | exact VLe.fl_sl _ _ | exact VLe.nil_sl _ | exact VLe.nil_fl _ | exact VLes.refl _ | exact .nil | refine VLe.tup ?_ | refine VLe.agg ?_ | refine .cons ?_ ?_ | (rw [Int.natCast_add]; exact VLe.refl _) | exact vle_int (by omega) | exact vle_bool (by first | rfl | assumption | (simp_all; done)) | fail)); done))) | (refine ble ?_; (repeat (first | exact uE | assumption | refine uN (by omega) ?_ | fail)); done)); refine bl_ne e0_ ?_; by_cases e1_ : k_ = (n + 5); (focus subst e1_; refine bl_eq ?_; first | (refine' blec ?hb ?hl; (case hb => repeat (first | exact uE | assumption | refine uN (by omega) ?_ | fail)); (case hl => first | exact VLes.refl _ | ((repeat' (first | exact VLe.refl _ | exact VLe.own_sl _ _ _ | exact VLe.fl_sl _ _ | exact VLe.nil_sl _ | exact VLe.nil_fl _ | exact VLes.refl _ | exact .nil | refine VLe.tup ?_ | refine VLe.agg ?_ | refine .cons ?_ ?_ | (rw [Int.natCast_add]; exact VLe.refl _) | exact vle_int (by omega) | exact vle_bool (by first | rfl | assumption | (simp_all; done)) | fail)); done))) | (refine ble ?_; (repeat (first | exact uE | assumption | refine uN (by omega) ?_ | fail)); done)); refine bl_ne e1_ ?_; exact ble (by repeat (first | exact rfl | refine uN (by first | assumption | omega) ?_ | assumption | exact hf60 _ (by omega) (by first | assumption | omega) (by first | assumption | omega) (by first | assumption | omega) (by first | assumption | omega) | fail))
          · intro bb60 b60 hb60
            simp only [dL, eM, updL, List.map_cons, List.map_nil] at hb60
            subst hb60
            refine runs_seq ?_
            refine runs_draw (by kernel_rfl) (by kernel_rfl) (by kernel_rfl) ?_
            refine' dl0 (gn rfl) rfl rfl (step_load_one rfl (ev_mk rfl) F.one3 ?hv) ⟨?hb, trivial⟩ ?_
            case hb => repeat (first | exact uE | refine uN (by omega) ?_ | assumption | exact hd _ (by omega) | fail)
            case hv => rfl
            refine' dl0 (gn rfl) rfl rfl (step_load_one rfl (ev_mk rfl) F.one35 ?hv) ⟨?hb, trivial⟩ ?_
            case hb => repeat (first | exact uE | refine uN (by omega) ?_ | assumption | exact hd _ (by omega) | fail)
            case hv => rfl
            refine dl0 (gn rfl) rfl rfl (step_len (m := (touL a b c d).length) rfl rfl (ev_mk rfl) (.inl ⟨⟨_, Try.underlying35⟩, .inl ⟨_, _, .inl rfl, List.length_map _⟩⟩)) trivial ?_
            refine dl_eql (gn rfl) rfl rfl rfl rfl rfl (fun h8 => ?_) (fun h8 => ?_)
            rotate_left
            · exact False.elim (by omega)
            refine dl0 (gn rfl) rfl rfl (step_mv rfl rfl) trivial ?_
            refine' dl0 (gy rfl rfl rfl rfl rfl rfl) rfl rfl (step_load_all rfl rfl F.agg24 ?hl) ⟨?hb, trivial⟩ ?_
            case hb => repeat (first | exact uE | refine uN (by omega) ?_ | assumption | exact hd _ (by omega) | fail)
            case hl => first | rfl | (simp; done) | (first | (simp; done) | (simp; omega) | omega)
            refine dl0 (gy rfl rfl rfl rfl rfl rfl) rfl rfl (step_callc rfl Try.func20 rfl rfl rfl (cnt_c g0 g1 g2 g3) (by repeat (first | exact .nil | refine .cons ?_ ?_ | exact VLe.refl _ | exact VLe.own_sl _ _ _ | exact VLe.fl_sl _ _ | exact VLe.nil_sl _ | exact VLe.nil_fl _ | refine VLe.agg ?_))) trivial ?_
            refine' dl0 (gy rfl rfl rfl rfl rfl rfl) rfl rfl (step_load_one rfl (ev_mk rfl) F.one3 ?hv) ⟨?hb, trivial⟩ ?_
            case hb => repeat (first | exact uE | refine uN (by omega) ?_ | assumption | exact hd _ (by omega) | fail)
            case hv => rfl
            refine dl_eql (gy rfl rfl rfl rfl rfl rfl) rfl rfl rfl rfl rfl (fun h9 => ?_) (fun h9 => ?_)
            rotate_left
            · exact False.elim (by omega)
            refine dl0 (gn rfl) rfl rfl (step_pick rfl (ev_mk rfl) (ev_mk rfl)) trivial ?_
            refine dl0 (gn rfl) rfl rfl (step_mv rfl rfl) trivial ?_
            refine' dl0 (gy rfl rfl rfl rfl rfl rfl) rfl rfl (step_load_all rfl rfl F.agg24 ?hl) ⟨?hb, trivial⟩ ?_
            case hb => repeat (first | exact uE | refine uN (by omega) ?_ | assumption | exact hd _ (by omega) | fail)
            case hl => first | rfl | (simp; done) | (first | (simp; done) | (simp; omega) | omega)
            refine dl0 (gy rfl rfl rfl rfl rfl rfl) rfl rfl (step_mv rfl rfl) trivial ?_
            refine dl0 (gy rfl rfl rfl rfl rfl rfl) rfl rfl (step_mv rfl rfl) trivial ?_
            refine dl0 (gy rfl rfl rfl rfl rfl rfl) rfl rfl (step_callc rfl Try.func7 rfl rfl rfl (has_c) (by repeat (first | exact .nil | refine .cons ?_ ?_ | exact VLe.refl _ | exact VLe.own_sl _ _ _ | exact VLe.fl_sl _ _ | exact VLe.nil_sl _ | exact VLe.nil_fl _ | refine VLe.agg ?_))) trivial ?_
            refine dl0 (gy rfl rfl rfl rfl rfl rfl) rfl rfl (step_unOp rfl (ev_mk rfl) (fun _ => rfl)) trivial ?_
            refine dl0 (gy rfl rfl rfl rfl rfl rfl) rfl rfl (step_mv rfl rfl) trivial ?_
            refine dl_bool (d := 111) rfl (fun h10 => ?_) (fun h10 => ?_)
            · skip
              refine dlk rfl rfl rfl rfl rfl (ngb rfl rfl) rfl rfl ?_
              refine dl0 (gy rfl rfl rfl rfl rfl rfl) rfl rfl (step_pick rfl (ev_mk rfl) (ev_mk rfl)) trivial ?_
              refine dl0 (gn rfl) rfl rfl (step_pick rfl (ev_mk rfl) (ev_mk rfl)) trivial ?_
              refine dl0 (gn rfl) rfl rfl (step_mv rfl rfl) trivial ?_
              refine dl0 (gy rfl rfl rfl rfl rfl rfl) rfl rfl (step_callc rfl Try.func14 rfl rfl rfl (works_c) (by repeat (first | exact .nil | refine .cons ?_ ?_ | exact VLe.refl _ | exact VLe.own_sl _ _ _ | exact VLe.fl_sl _ _ | exact VLe.nil_sl _ | exact VLe.nil_fl _ | refine VLe.agg ?_))) trivial ?_
              refine dl0 (gn rfl) rfl rfl (step_pick rfl (ev_mk rfl) (ev_mk rfl)) trivial ?_
              refine' dls (gn rfl) rfl (step_store1 rfl rfl rfl rfl F.one4 rfl rfl ?hl ?hc) ⟨?hb, trivial⟩ ?hk ?_
              case hb => repeat (first | exact uE | refine uN (by omega) ?_ | assumption | exact hd _ (by omega) | fail)
              case hl => first | exact Nat.le_of_ble_eq_true rfl | decide | (simp; done) | (simp; omega) | (first | (simp; done) | (simp; omega) | omega)
              case hc => first | (simp only [List.set_cons_succ, List.set_cons_zero]; rfl) | rfl
              case hk => omega
              refine dlnil ?_ ?_
              · repeat' (first | exact trivial | exact .inr (ap0 _ _ _ _) | exact .inr (ap2 _ _ _ _) | exact .inr (ap3 _ _ _ _) | exact .inr ⟨by first | (simp; done) | (simp; omega), by first | (simp; done) | (simp; omega)⟩ | exact .inl (by kernel_rfl) | refine ⟨?_, ?_⟩ | fail)
              refine runs_ret ?_
              refine ⟨by first | exact .inr rfl | exact .inl rfl, fin_mkg (resc1 rfl (by repeat (first | exact uE | refine uN (by omega) ?_ | assumption | exact hd _ (by omega) | fail)) F.one4 rfl res0) ?_ ?_ ?_ ?_ ?_⟩
              · (repeat' (first | exact VLe.refl _ | exact VLe.own_sl _ _ _ | exact VLe.fl_sl _ _ | exact VLe.nil_sl _ | exact VLe.nil_fl _ | exact VLes.refl _ | exact .nil | refine VLe.tup ?_ | refine VLe.agg ?_ | refine .cons ?_ ?_ | (rw [Int.natCast_add]; exact VLe.refl _) | exact vle_int (by omega) | exact vle_bool (by first | rfl | assumption | (simp_all; done)) | fail))
              · repeat (first | exact trivial | assumption | omega | (refine bdR_map (fun _ => ?_)) | (refine bdL_map (fun _ => ?_)) | refine ⟨?_, ?_⟩ | fail)
              · intro k_ hk_; exact ble (by repeat (first | exact rfl | refine uN (by omega) ?_ | assumption | fail))
              · intro p hp; cases hp
              · repeat (first | exact trivial | assumption | omega | (refine bdR_map (fun _ => ?_)) | (refine bdL_map (fun _ => ?_)) | refine ⟨?_, ?_⟩ | fail)
            · skip
              refine' dl0 (gy rfl rfl rfl rfl rfl rfl) rfl rfl (step_load_one rfl (ev_mk rfl) F.one4 ?hv) ⟨?hb, trivial⟩ ?_
              case hb => repeat (first | exact uE | refine uN (by omega) ?_ | assumption | exact hd _ (by omega) | fail)
              case hv => rfl
              refine dl_know (d := 112) (c := true) rfl (met_all g0 g1 g2 g3 hx hy (by assumption)) ?_
              refine dl0 (gy rfl rfl rfl rfl rfl rfl) rfl rfl (step_pick rfl (ev_mk rfl) (ev_mk rfl)) trivial ?_
              refine dl0 (gn rfl) rfl rfl (step_pick rfl (ev_mk rfl) (ev_mk rfl)) trivial ?_
              refine dl0 (gn rfl) rfl rfl (step_mv rfl rfl) trivial ?_
              refine dl0 (gy rfl rfl rfl rfl rfl rfl) rfl rfl (step_callc rfl Try.func14 rfl rfl rfl (works_c) (by repeat (first | exact .nil | refine .cons ?_ ?_ | exact VLe.refl _ | exact VLe.own_sl _ _ _ | exact VLe.fl_sl _ _ | exact VLe.nil_sl _ | exact VLe.nil_fl _ | refine VLe.agg ?_))) trivial ?_
              refine dl0 (gn rfl) rfl rfl (step_pick rfl (ev_mk rfl) (ev_mk rfl)) trivial ?_
              refine' dls (gn rfl) rfl (step_store1 rfl rfl rfl rfl F.one4 rfl rfl ?hl ?hc) ⟨?hb, trivial⟩ ?hk ?_
              case hb => repeat (first | exact uE | refine uN (by omega) ?_ | assumption | exact hd _ (by omega) | fail)
              case hl => first | exact Nat.le_of_ble_eq_true rfl | decide | (simp; done) | (simp; omega) | (first | (simp; done) | (simp; omega) | omega)
              case hc => first | (simp only [List.set_cons_succ, List.set_cons_zero]; rfl) | rfl
              case hk => omega
              refine dlnil ?_ ?_
              · repeat' (first | exact trivial | exact .inr (ap0 _ _ _ _) | exact .inr (ap2 _ _ _ _) | exact .inr (ap3 _ _ _ _) | exact .inr ⟨by first | (simp; done) | (simp; omega), by first | (simp; done) | (simp; omega)⟩ | exact .inl (by kernel_rfl) | refine ⟨?_, ?_⟩ | fail)
              refine runs_ret ?_
              refine ⟨by first | exact .inr rfl | exact .inl rfl, fin_mkg (resc1 rfl (by repeat (first | exact uE | refine uN (by omega) ?_ | assumption | exact hd _ (by omega) | fail)) F.one4 rfl res0) ?_ ?_ ?_ ?_ ?_⟩
              · (repeat' (first | exact VLe.refl _ | exact VLe.own_sl _ _ _ | exact VLe.fl_sl _ _ | exact VLe.nil_sl _ | exact VLe.nil_fl _ | exact VLes.refl _ | exact .nil | refine VLe.tup ?_ | refine VLe.agg ?_ | refine .cons ?_ ?_ | (rw [Int.natCast_add]; exact VLe.refl _) | exact vle_int (by omega) | exact vle_bool (by first | rfl | assumption | (simp_all; done)) | fail))
              · repeat (first | exact trivial | assumption | omega | (refine bdR_map (fun _ => ?_)) | (refine bdL_map (fun _ => ?_)) | refine ⟨?_, ?_⟩ | fail)
              · intro k_ hk_; exact ble (by repeat (first | exact rfl | refine uN (by omega) ?_ | assumption | fail))
              · intro p hp; cases hp
              · repeat (first | exact trivial | assumption | omega | (refine bdR_map (fun _ => ?_)) | (refine bdL_map (fun _ => ?_)) | refine ⟨?_, ?_⟩ | fail)
end Go.Proofs.Ytcemdkppkklfnaa
