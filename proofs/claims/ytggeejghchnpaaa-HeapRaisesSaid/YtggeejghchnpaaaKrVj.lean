/- Walks by the logic of values. -/
import Derived.Test.YtggeejghchnpaaaKrVmT
import Derived.Test.YtggeejghchnpaaaKrVmP
import Derived.Test.YtggeejghchnpaaaKrVmV
import Derived.Test.YtggeejghchnpaaaKrVmY
import Derived.Test.YtggeejghchnpaaaKrVa
import Derived.Test.YtggeejghchnpaaaKrVb
import Derived.Test.YtggeejghchnpaaaKrVc
import Derived.Test.YtggeejghchnpaaaKrVd
import Derived.Test.YtggeejghchnpaaaKrVe
import Derived.Test.YtggeejghchnpaaaKrVf
import Derived.Test.YtggeejghchnpaaaKrVg
import Derived.Test.YtggeejghchnpaaaKrVh
import Derived.Test.YtggeejghchnpaaaKrVi
namespace Go.Proofs.Ytggeejghchnpaaa
open Go.Vm
set_option linter.unusedVariables false
set_option linter.unusedSimpArgs false
abbrev wK0 : Nat → Int := fun _ => 0
abbrev wH0 : Nat → Nat := fun _ => 0
abbrev wK1 : Nat → Int := kgF wK0 0 5
abbrev wH1 : Nat → Nat := upF wK1 0 (upd1 wH0 0 0) 0
abbrev wK2 : Nat → Int := kgF wK1 1 3
abbrev wH2 : Nat → Nat := upF wK2 1 (upd1 wH1 1 1) 1
abbrev wK3 : Nat → Int := kgF wK2 1 9
abbrev wH3 : Nat → Nat := chF wK3 wH2 2 0
abbrev wH4 : Nat → Nat := popH wK3 wH3 2
abbrev wH5 : Nat → Nat := rmH wK3 wH4 1 0
abbrev wN5 : Nat := rmN wH4 1 0
abbrev wH6 : Nat → Nat := rmH wK3 wH5 wN5 1
abbrev wN6 : Nat := rmN wH5 wN5 1
theorem wS1 : Hst wK1 wH1 1 1 1 (insR [] ⟨5, 0⟩) := (Hst.nil wK0 wH0).put
theorem wS2 : Hst wK2 wH2 2 2 2 (insR (insR [] ⟨5, 0⟩) ⟨3, 1⟩) := wS1.put
theorem wS3 : Hst wK3 wH3 2 2 2 (insR (withR (insR (insR [] ⟨5, 0⟩) ⟨3, 1⟩) 1) ⟨9, 1⟩) := wS2.ch (j := 0) (x := 9) (by omega)
theorem wS4 : Hst wK3 wH4 1 2 2 ((insR (withR (insR (insR [] ⟨5, 0⟩) ⟨3, 1⟩) 1) ⟨9, 1⟩).drop 1) := wS3.pop (by omega)
theorem wS5 : Hst wK3 wH5 wN5 2 2 (withR ((insR (withR (insR (insR [] ⟨5, 0⟩) ⟨3, 1⟩) 1) ⟨9, 1⟩).drop 1) 0) := wS4.rm
theorem wS6 : Hst wK3 wH6 wN6 2 2 (withR (withR ((insR (withR (insR (insR [] ⟨5, 0⟩) ⟨3, 1⟩) 1) ⟨9, 1⟩).drop 1) 0) 1) := wS5.rm
theorem wN5_ : wN5 = 1 := by decide +kernel
theorem wN6_ : wN6 = 0 := by decide +kernel
theorem wP6 : popH wK3 wH6 wN6 = wH6 := if_pos wN6_
set_option maxRecDepth 100000 in
set_option maxHeartbeats 4000000 in
theorem works_c  : Does Try.prog 6 [] [] [] (.sc (.bool true)) := by
  refine does_mkg 300 Try.func6 rfl rfl rfl (fun n B bx hd hpre hup hvs hbx hgx => ?_)
  refine runs_seq ?_
  refine runs_region ?_
  refine rl0 (gn rfl) rfl rfl (step_as rfl rfl) trivial ?_
  refine runsL_nil ?_
  refine runs_seq ?_
  refine runs_region ?_
  refine rl1 (gn rfl) rfl rfl (step_callc rfl Try.func7 rfl rfl rfl (new_c (n + 0)) (by repeat (first | exact .nil | refine .cons ?_ ?_ | exact VLe.refl _ | exact vle_int (by first | rfl | omega) | exact VLe.own_sl _ _ _ | exact VLe.fl_sl _ _ | exact VLe.nil_sl _ | exact VLe.nil_fl _ | refine VLe.agg ?_))) ⟨by repeat (first | exact uE | refine uN (by omega) ?_ | assumption | exact hd _ (by omega) | fail), trivial⟩ (by omega) ?_
  refine rl0 (gn rfl) rfl rfl (step_as rfl rfl) trivial ?_
  refine runsL_nil ?_
  refine runs_seq ?_
  refine runs_seq ?_
  refine runs_region ?_
  refine rl0 (gn rfl) rfl rfl (step_mv rfl rfl) trivial ?_
  refine rl0 (gn rfl) rfl rfl (step_eq_nil (b := false) rfl (ev_mk rfl) (ev_mk rfl) Try.underlying24 ⟨_, .inl ⟨.inl ⟨_, _, rfl⟩, rfl⟩, .inl ⟨rfl, rfl⟩⟩) trivial ?_
  refine runsL_nil ?_
  refine runs_cond false (ev_mk rfl) (fun h_ => nomatch h_) (fun _ => ?_)
  refine runs_skip ?_
  refine runs_seq ?_
  refine runs_growgb (k := n + 0) (kn := n + 1) (q := 0) (e := 1) (by repeat (first | exact uE | refine uN (by omega) ?_ | assumption | exact hd _ (by omega) | fail)) rfl (by repeat (first | exact uE | refine uN (by omega) ?_ | assumption | exact hd _ (by omega) | fail)) (by omega) (by omega) ?_
  refine runs_region ?_
  refine rl0 (gn rfl) rfl rfl (step_mv rfl rfl) trivial ?_
  refine rl_fam (gn rfl) rfl rfl (step_callc rfl Try.func10 rfl rfl rfl (push_c wK1 wH0 (n + 10) (n + 0) (n + 1) 0 0 0 0 (by omega) (by omega) (by omega) (fun i_ j_ h_ => by omega) (fun j_ h_ => by omega) (by omega) (by omega) (by omega)) (by repeat (first | exact .nil | refine .cons ?_ ?_ | exact VLe.refl _ | exact vle_int (by first | rfl | omega) | exact VLe.own_sl _ _ _ | exact VLe.fl_sl _ _ | exact VLe.nil_sl _ | exact VLe.nil_fl _ | refine VLe.agg ?_))) ⟨by repeat (first | exact uE | refine uN (by omega) ?_ | assumption | exact hd _ (by omega) | fail), by repeat (first | exact uE | refine uN (by omega) ?_ | assumption | exact hd _ (by omega) | fail), by repeat (first | exact uE | refine uN (by omega) ?_ | assumption | exact hd _ (by omega) | fail), fam_ok (fun _ h_ => absurd h_ (Nat.not_lt_zero _))⟩ (by repeat (first | exact trivial | refine ⟨by omega, ?_⟩)) (by omega) (fun bz1 hfam1 hfz1 => ?_)
  simp only [upds] at hfz1
  refine rl0 (gn rfl) rfl rfl (step_as rfl rfl) trivial ?_
  refine runsL_nil ?_
  refine runs_seq ?_
  refine runs_region ?_
  refine rl0 (gn rfl) rfl rfl (step_mv rfl rfl) trivial ?_
  refine rl_fam (gn rfl) rfl rfl (step_callc rfl Try.func10 rfl rfl rfl (push_c wK2 wH1 (n + 10) (n + 0) (n + 1) 1 1 1 1 (by omega) (by omega) (by omega) wS1.inj wS1.lt (by omega) (by omega) (by omega)) (by repeat (first | exact .nil | refine .cons ?_ ?_ | exact VLe.refl _ | exact vle_int (by first | rfl | omega) | exact VLe.own_sl _ _ _ | exact VLe.fl_sl _ _ | exact VLe.nil_sl _ | exact VLe.nil_fl _ | refine VLe.agg ?_))) ⟨by repeat (first | exact uE | refine uN (by omega) ?_ | assumption | exact hd _ (by omega) | refine (hfz1 _ (by first | assumption | omega)).trans ?_ | fail), by repeat (first | exact uE | refine uN (by omega) ?_ | assumption | exact hd _ (by omega) | refine (hfz1 _ (by first | assumption | omega)).trans ?_ | fail), by repeat (first | exact uE | refine uN (by omega) ?_ | assumption | exact hd _ (by omega) | refine (hfz1 _ (by first | assumption | omega)).trans ?_ | fail), fam_ok (fam_kg hfam1)⟩ (by repeat (first | exact trivial | refine ⟨by omega, ?_⟩)) (by omega) (fun bz2 hfam2 hfz2 => ?_)
  simp only [upds] at hfz2
  refine rl0 (gn rfl) rfl rfl (step_as rfl rfl) trivial ?_
  refine runsL_nil ?_
  refine runs_seq ?_
  refine runs_seq ?_
  refine runs_region ?_
  refine rl0 (gn rfl) rfl rfl (step_mv rfl rfl) trivial ?_
  refine rl0 (gn rfl) rfl rfl (step_eq_nil (b := false) rfl (ev_mk rfl) (ev_mk rfl) Try.underlying34 ⟨_, .inl ⟨.inl ⟨_, _, rfl⟩, rfl⟩, .inl ⟨rfl, rfl⟩⟩) trivial ?_
  refine rl0 (gn rfl) rfl rfl (step_mv rfl rfl) trivial ?_
  refine rl0 (gy rfl rfl rfl rfl rfl rfl) rfl rfl (step_mv rfl rfl) trivial ?_
  refine rl0 (gy rfl rfl rfl rfl rfl rfl) rfl rfl (step_eq_nil (b := false) rfl (ev_mk rfl) (ev_mk rfl) Try.underlying34 ⟨_, .inl ⟨.inl ⟨_, _, rfl⟩, rfl⟩, .inl ⟨rfl, rfl⟩⟩) trivial ?_
  refine rl0 (gn rfl) rfl rfl (step_pick rfl (ev_mk rfl) (ev_mk rfl)) trivial ?_
  refine runsL_nil ?_
  refine runs_cond false (ev_mk rfl) (fun h_ => nomatch h_) (fun _ => ?_)
  refine runs_skip ?_
  refine runs_seq ?_
  refine runs_region ?_
  refine rl0 (gn rfl) rfl rfl (step_mv rfl rfl) trivial ?_
  refine rl0 (gn rfl) rfl rfl (step_callc rfl Try.func15 rfl rfl rfl (top_c wK2 wH2 (n + 10) (n + 0) (n + 1) 2 2 2 2 (by omega) wS2.lt) (by repeat (first | exact .nil | refine .cons ?_ ?_ | exact VLe.refl _ | exact vle_int (by first | rfl | omega) | exact VLe.own_sl _ _ _ | exact VLe.fl_sl _ _ | exact VLe.nil_sl _ | exact VLe.nil_fl _ | refine VLe.agg ?_))) ⟨by repeat (first | exact uE | refine uN (by omega) ?_ | assumption | exact hd _ (by omega) | refine (hfz1 _ (by first | assumption | omega)).trans ?_ | refine (hfz2 _ (by first | assumption | omega)).trans ?_ | fail), by repeat (first | exact uE | refine uN (by omega) ?_ | assumption | exact hd _ (by omega) | refine (hfz1 _ (by first | assumption | omega)).trans ?_ | refine (hfz2 _ (by first | assumption | omega)).trans ?_ | fail), fam_ok hfam2⟩ ?_
  refine rl0 (gn rfl) rfl rfl (step_mv rfl rfl) trivial ?_
  refine rl0 (gn rfl) rfl rfl (step_extract rfl (ev_mk rfl) rfl) trivial ?_
  refine rl0 (gn rfl) rfl rfl (step_extract rfl (ev_mk rfl) rfl) trivial ?_
  refine rl_know (d := 31) (c := true) rfl (by decide +kernel) ?_
  refine rl0 (gn rfl) rfl rfl (step_as rfl rfl) trivial ?_
  refine rl0 (gn rfl) rfl rfl (step_as rfl rfl) trivial ?_
  refine runsL_nil ?_
  refine runs_seq ?_
  refine runs_region ?_
  refine rl0 (gn rfl) rfl rfl (step_mv rfl rfl) trivial ?_
  refine rl0 (gn rfl) rfl rfl (step_mv rfl rfl) trivial ?_
  refine rl_fam (gn rfl) rfl rfl (step_callc rfl Try.func14 rfl rfl rfl (change_a wK2 wK3 wH2 (n + 10) (n + 0) (n + 1) 2 2 2 2 0 1 rfl (by omega) (by omega) (by omega) wS2.inj wS2.lt (fun v_ h_ => (kgF_o h_).symm) (by omega) (by omega) (by omega)) (by repeat (first | exact .nil | refine .cons ?_ ?_ | exact VLe.refl _ | exact vle_int (by first | rfl | omega) | exact VLe.own_sl _ _ _ | exact VLe.fl_sl _ _ | exact VLe.nil_sl _ | exact VLe.nil_fl _ | refine VLe.agg ?_))) ⟨by repeat (first | exact uE | refine uN (by omega) ?_ | assumption | exact hd _ (by omega) | refine (hfz1 _ (by first | assumption | omega)).trans ?_ | refine (hfz2 _ (by first | assumption | omega)).trans ?_ | fail), by repeat (first | exact uE | refine uN (by omega) ?_ | assumption | exact hd _ (by omega) | refine (hfz1 _ (by first | assumption | omega)).trans ?_ | refine (hfz2 _ (by first | assumption | omega)).trans ?_ | fail), fam_ok hfam2⟩ (by repeat (first | exact trivial | refine ⟨by omega, ?_⟩)) (by omega) (fun bz3 hfam3 hfz3 => ?_)
  simp only [upds] at hfz3
  refine rl0 (gn rfl) rfl rfl (step_as rfl rfl) trivial ?_
  refine runsL_nil ?_
  refine runs_seq ?_
  refine runs_region ?_
  refine rl0 (gn rfl) rfl rfl (step_mv rfl rfl) trivial ?_
  refine rl_fam (gn rfl) rfl rfl (step_callc rfl Try.func11 rfl rfl rfl (pop_c wK3 wH3 (n + 10) (n + 0) (n + 1) 2 2 2 2 (by omega) (by omega) wS3.inj wS3.lt (by omega) (by omega) (by omega)) (by repeat (first | exact .nil | refine .cons ?_ ?_ | exact VLe.refl _ | exact vle_int (by first | rfl | omega) | exact VLe.own_sl _ _ _ | exact VLe.fl_sl _ _ | exact VLe.nil_sl _ | exact VLe.nil_fl _ | refine VLe.agg ?_))) ⟨by repeat (first | exact uE | refine uN (by omega) ?_ | assumption | exact hd _ (by omega) | refine (hfz1 _ (by first | assumption | omega)).trans ?_ | refine (hfz2 _ (by first | assumption | omega)).trans ?_ | refine (hfz3 _ (by first | assumption | omega)).trans ?_ | fail), by repeat (first | exact uE | refine uN (by omega) ?_ | assumption | exact hd _ (by omega) | refine (hfz1 _ (by first | assumption | omega)).trans ?_ | refine (hfz2 _ (by first | assumption | omega)).trans ?_ | refine (hfz3 _ (by first | assumption | omega)).trans ?_ | fail), fam_ok hfam3⟩ (by repeat (first | exact trivial | refine ⟨by omega, ?_⟩)) (by omega) (fun bz4 hfam4 hfz4 => ?_)
  simp only [upds] at hfz4
  refine rl0 (gn rfl) rfl rfl (step_mv rfl rfl) trivial ?_
  refine rl0 (gn rfl) rfl rfl (step_extract rfl (ev_mk rfl) rfl) trivial ?_
  refine rl0 (gn rfl) rfl rfl (step_extract rfl (ev_mk rfl) rfl) trivial ?_
  refine rl_know (d := 39) (c := true) rfl (by decide +kernel) ?_
  refine rl0 (gn rfl) rfl rfl (step_as rfl rfl) trivial ?_
  refine rl0 (gn rfl) rfl rfl (step_as rfl rfl) trivial ?_
  refine runsL_nil ?_
  refine runs_seq ?_
  refine runs_region ?_
  refine rl0 (gn rfl) rfl rfl (step_mv rfl rfl) trivial ?_
  refine rl0 (gn rfl) rfl rfl (step_mv rfl rfl) trivial ?_
  refine rl_fam (gn rfl) rfl rfl (step_callc rfl Try.func13 rfl rfl rfl (remove_b wK3 wH4 (n + 10) (n + 0) (n + 1) 2 1 2 2 0 (by omega) (by omega) wS4.inj wS4.lt (by omega) (by omega) (by omega) (by omega)) (by repeat (first | exact .nil | refine .cons ?_ ?_ | exact VLe.refl _ | exact vle_int (by first | rfl | omega) | exact VLe.own_sl _ _ _ | exact VLe.fl_sl _ _ | exact VLe.nil_sl _ | exact VLe.nil_fl _ | refine VLe.agg ?_))) ⟨by repeat (first | exact uE | refine uN (by omega) ?_ | assumption | exact hd _ (by omega) | refine (hfz1 _ (by first | assumption | omega)).trans ?_ | refine (hfz2 _ (by first | assumption | omega)).trans ?_ | refine (hfz3 _ (by first | assumption | omega)).trans ?_ | refine (hfz4 _ (by first | assumption | omega)).trans ?_ | fail), by repeat (first | exact uE | refine uN (by omega) ?_ | assumption | exact hd _ (by omega) | refine (hfz1 _ (by first | assumption | omega)).trans ?_ | refine (hfz2 _ (by first | assumption | omega)).trans ?_ | refine (hfz3 _ (by first | assumption | omega)).trans ?_ | refine (hfz4 _ (by first | assumption | omega)).trans ?_ | fail), fam_ok hfam4⟩ (by repeat (first | exact trivial | refine ⟨by omega, ?_⟩)) (by omega) (fun bz5 hfam5 hfz5 => ?_)
  simp only [upds] at hfz5
  refine rl_know (d := 42) (c := false) rfl (by decide +kernel) ?_
  refine rl0 (gn rfl) rfl rfl (step_as rfl rfl) trivial ?_
  refine runsL_nil ?_
  refine runs_seq ?_
  have hx12_ : bz5 (n + 10 + 0) = .cells [.sc (.int .i64 (wK3 (0))), .sc (.int .i64 ((0 : Nat) : Int)), .sc (.int .i64 (posF wH5 wN5 0))] := hfam5 0 (by omega)
  refine runs_region ?_
  refine rl0 (gn rfl) rfl rfl (step_mv rfl rfl) trivial ?_
  refine rl0 (gn rfl) rfl rfl (step_callc rfl Try.func18 rfl rfl rfl (there_c wK3 (n + 10) 0 (posF wH5 wN5 0)) (by repeat (first | exact .nil | refine .cons ?_ ?_ | exact VLe.refl _ | exact vle_int (by first | rfl | omega) | exact VLe.own_sl _ _ _ | exact VLe.fl_sl _ _ | exact VLe.nil_sl _ | exact VLe.nil_fl _ | refine VLe.agg ?_))) ⟨by repeat (first | exact uE | refine uN (by omega) ?_ | assumption | exact hd _ (by omega) | refine (hfz1 _ (by first | assumption | omega)).trans ?_ | refine (hfz2 _ (by first | assumption | omega)).trans ?_ | refine (hfz3 _ (by first | assumption | omega)).trans ?_ | refine (hfz4 _ (by first | assumption | omega)).trans ?_ | refine (hfz5 _ (by first | assumption | omega)).trans ?_ | fail), trivial⟩ ?_
  refine rl_know (d := 44) (c := false) rfl (by decide +kernel) ?_
  refine rl0 (gn rfl) rfl rfl (step_as rfl rfl) trivial ?_
  refine runsL_nil ?_
  refine runs_seq ?_
  refine runs_region ?_
  refine rl0 (gn rfl) rfl rfl (step_mv rfl rfl) trivial ?_
  refine rl0 (gn rfl) rfl rfl (step_mv rfl rfl) trivial ?_
  refine rl_fam (gn rfl) rfl rfl (step_callc rfl Try.func13 rfl rfl rfl (remove_b wK3 wH5 (n + 10) (n + 0) (n + 1) 2 wN5 2 2 1 wS5.le (by rw [wN5_]; omega) wS5.inj wS5.lt (by omega) (by omega) (by omega) (by omega)) (by repeat (first | exact .nil | refine .cons ?_ ?_ | exact VLe.refl _ | exact vle_int (by first | rfl | omega) | exact VLe.own_sl _ _ _ | exact VLe.fl_sl _ _ | exact VLe.nil_sl _ | exact VLe.nil_fl _ | refine VLe.agg ?_))) ⟨by repeat (first | exact uE | refine uN (by omega) ?_ | assumption | exact hd _ (by omega) | refine (hfz1 _ (by first | assumption | omega)).trans ?_ | refine (hfz2 _ (by first | assumption | omega)).trans ?_ | refine (hfz3 _ (by first | assumption | omega)).trans ?_ | refine (hfz4 _ (by first | assumption | omega)).trans ?_ | refine (hfz5 _ (by first | assumption | omega)).trans ?_ | fail), by repeat (first | exact uE | refine uN (by omega) ?_ | assumption | exact hd _ (by omega) | refine (hfz1 _ (by first | assumption | omega)).trans ?_ | refine (hfz2 _ (by first | assumption | omega)).trans ?_ | refine (hfz3 _ (by first | assumption | omega)).trans ?_ | refine (hfz4 _ (by first | assumption | omega)).trans ?_ | refine (hfz5 _ (by first | assumption | omega)).trans ?_ | fail), fam_ok hfam5⟩ (by repeat (first | exact trivial | refine ⟨by omega, ?_⟩)) (by omega) (fun bz6 hfam6 hfz6 => ?_)
  simp only [upds] at hfz6
  refine rl_know (d := 47) (c := true) rfl (by decide +kernel) ?_
  refine rl0 (gn rfl) rfl rfl (step_as rfl rfl) trivial ?_
  refine runsL_nil ?_
  refine runs_seq ?_
  refine runs_region ?_
  refine rl0 (gn rfl) rfl rfl (step_mv rfl rfl) trivial ?_
  refine rl_fam (gn rfl) rfl rfl (step_callc rfl Try.func11 rfl rfl rfl (pop_c wK3 wH6 (n + 10) (n + 0) (n + 1) 2 wN6 2 2 wS6.le (by rw [wN6_]; omega) wS6.inj wS6.lt (by omega) (by omega) (by omega)) (by repeat (first | exact .nil | refine .cons ?_ ?_ | exact VLe.refl _ | exact vle_int (by first | rfl | omega) | exact VLe.own_sl _ _ _ | exact VLe.fl_sl _ _ | exact VLe.nil_sl _ | exact VLe.nil_fl _ | refine VLe.agg ?_))) ⟨by repeat (first | exact uE | refine uN (by omega) ?_ | assumption | exact hd _ (by omega) | refine (hfz1 _ (by first | assumption | omega)).trans ?_ | refine (hfz2 _ (by first | assumption | omega)).trans ?_ | refine (hfz3 _ (by first | assumption | omega)).trans ?_ | refine (hfz4 _ (by first | assumption | omega)).trans ?_ | refine (hfz5 _ (by first | assumption | omega)).trans ?_ | refine (hfz6 _ (by first | assumption | omega)).trans ?_ | fail), by repeat (first | exact uE | refine uN (by omega) ?_ | assumption | exact hd _ (by omega) | refine (hfz1 _ (by first | assumption | omega)).trans ?_ | refine (hfz2 _ (by first | assumption | omega)).trans ?_ | refine (hfz3 _ (by first | assumption | omega)).trans ?_ | refine (hfz4 _ (by first | assumption | omega)).trans ?_ | refine (hfz5 _ (by first | assumption | omega)).trans ?_ | refine (hfz6 _ (by first | assumption | omega)).trans ?_ | fail), fam_ok hfam6⟩ (by repeat (first | exact trivial | refine ⟨by omega, ?_⟩)) (by omega) (fun bz7 hfam7 hfz7 => ?_)
  simp only [upds] at hfz7
  refine rl0 (gn rfl) rfl rfl (step_mv rfl rfl) trivial ?_
  refine rl0 (gn rfl) rfl rfl (step_extract rfl (ev_mk rfl) rfl) trivial ?_
  refine rl0 (gn rfl) rfl rfl (step_extract rfl (ev_mk rfl) rfl) trivial ?_
  refine rl_know (d := 52) (c := false) rfl (by decide +kernel) ?_
  refine rl0 (gn rfl) rfl rfl (step_as rfl rfl) trivial ?_
  refine rl0 (gn rfl) rfl rfl (step_as rfl rfl) trivial ?_
  refine runsL_nil ?_
  refine runs_seq ?_
  have hx15_ : bz7 (n + 10 + 1) = .cells [.sc (.int .i64 (wK3 (1))), .sc (.int .i64 ((1 : Nat) : Int)), .sc (.int .i64 (posF (popH wK3 wH6 wN6) (wN6 - 1) 1))] := hfam7 1 (by omega)
  refine runs_region ?_
  refine rl0 (gn rfl) rfl rfl (step_mv rfl rfl) trivial ?_
  refine rl_eql (gn rfl) rfl rfl rfl rfl rfl (fun h1 => ?_) (fun h1 => ?_)
  rotate_left
  · exact False.elim (by exact h1 (by decide +kernel))
  refine rl0 (gn rfl) rfl rfl (step_mv rfl rfl) trivial ?_
  refine rl0 (gy rfl rfl rfl rfl rfl rfl) rfl rfl (step_mv rfl rfl) trivial ?_
  refine rl0 (gn rfl) rfl rfl (step_pick rfl (ev_mk rfl) (ev_mk rfl)) trivial ?_
  refine rl0 (gn rfl) rfl rfl (step_mv rfl rfl) trivial ?_
  refine rl0 (gy rfl rfl rfl rfl rfl rfl) rfl rfl (step_mv rfl rfl) trivial ?_
  refine rl0 (gn rfl) rfl rfl (step_pick rfl (ev_mk rfl) (ev_mk rfl)) trivial ?_
  refine rl0 (gn rfl) rfl rfl (step_mv rfl rfl) trivial ?_
  refine rl0 (gy rfl rfl rfl rfl rfl rfl) rfl rfl (step_mv rfl rfl) trivial ?_
  refine rl_eql (gy rfl rfl rfl rfl rfl rfl) rfl rfl rfl rfl rfl (fun h2 => ?_) (fun h2 => ?_)
  rotate_left
  · exact False.elim (by exact h2 (by decide +kernel))
  refine rl0 (gn rfl) rfl rfl (step_pick rfl (ev_mk rfl) (ev_mk rfl)) trivial ?_
  refine rl0 (gn rfl) rfl rfl (step_mv rfl rfl) trivial ?_
  refine rl0 (gy rfl rfl rfl rfl rfl rfl) rfl rfl (step_mv rfl rfl) trivial ?_
  refine rl0 (gn rfl) rfl rfl (step_pick rfl (ev_mk rfl) (ev_mk rfl)) trivial ?_
  refine rl0 (gn rfl) rfl rfl (step_mv rfl rfl) trivial ?_
  refine rl0 (gy rfl rfl rfl rfl rfl rfl) rfl rfl (step_mv rfl rfl) trivial ?_
  refine rl0 (gy rfl rfl rfl rfl rfl rfl) rfl rfl (step_unOp (c := .bool true) rfl (ev_mk rfl) (fun _ => rfl)) trivial ?_
  refine rl0 (gn rfl) rfl rfl (step_pick rfl (ev_mk rfl) (ev_mk rfl)) trivial ?_
  refine rl0 (gn rfl) rfl rfl (step_mv rfl rfl) trivial ?_
  refine rl0 (gy rfl rfl rfl rfl rfl rfl) rfl rfl (step_mv rfl rfl) trivial ?_
  refine rl0 (gy rfl rfl rfl rfl rfl rfl) rfl rfl (step_unOp (c := .bool true) rfl (ev_mk rfl) (fun _ => rfl)) trivial ?_
  refine rl0 (gn rfl) rfl rfl (step_pick rfl (ev_mk rfl) (ev_mk rfl)) trivial ?_
  refine rl0 (gn rfl) rfl rfl (step_mv rfl rfl) trivial ?_
  refine rl0 (gy rfl rfl rfl rfl rfl rfl) rfl rfl (step_mv rfl rfl) trivial ?_
  refine rl0 (gn rfl) rfl rfl (step_pick rfl (ev_mk rfl) (ev_mk rfl)) trivial ?_
  refine rl0 (gn rfl) rfl rfl (step_mv rfl rfl) trivial ?_
  refine rl0 (gy rfl rfl rfl rfl rfl rfl) rfl rfl (step_mv rfl rfl) trivial ?_
  refine rl0 (gy rfl rfl rfl rfl rfl rfl) rfl rfl (step_unOp (c := .bool true) rfl (ev_mk rfl) (fun _ => rfl)) trivial ?_
  refine rl0 (gn rfl) rfl rfl (step_pick rfl (ev_mk rfl) (ev_mk rfl)) trivial ?_
  refine rl0 (gn rfl) rfl rfl (step_mv rfl rfl) trivial ?_
  refine rl0 (gy rfl rfl rfl rfl rfl rfl) rfl rfl (step_mv rfl rfl) trivial ?_
  refine rl0 (gy rfl rfl rfl rfl rfl rfl) rfl rfl (step_callc rfl Try.func16 rfl rfl rfl (len_c (n + 0) (n + 1) 2 (wN6 - 1) 2) (by repeat (first | exact .nil | refine .cons ?_ ?_ | exact VLe.refl _ | exact vle_int (by first | rfl | omega) | exact VLe.own_sl _ _ _ | exact VLe.fl_sl _ _ | exact VLe.nil_sl _ | exact VLe.nil_fl _ | refine VLe.agg ?_))) ⟨by repeat (first | exact uE | refine uN (by omega) ?_ | assumption | exact hd _ (by omega) | refine (hfz1 _ (by first | assumption | omega)).trans ?_ | refine (hfz2 _ (by first | assumption | omega)).trans ?_ | refine (hfz3 _ (by first | assumption | omega)).trans ?_ | refine (hfz4 _ (by first | assumption | omega)).trans ?_ | refine (hfz5 _ (by first | assumption | omega)).trans ?_ | refine (hfz6 _ (by first | assumption | omega)).trans ?_ | refine (hfz7 _ (by first | assumption | omega)).trans ?_ | fail), trivial⟩ ?_
  refine rl_eql (gy rfl rfl rfl rfl rfl rfl) rfl rfl rfl rfl rfl (fun h3 => ?_) (fun h3 => ?_)
  rotate_left
  · exact False.elim (by exact h3 (by decide +kernel))
  refine rl0 (gn rfl) rfl rfl (step_pick rfl (ev_mk rfl) (ev_mk rfl)) trivial ?_
  refine rl0 (gn rfl) rfl rfl (step_mv rfl rfl) trivial ?_
  refine rl0 (gy rfl rfl rfl rfl rfl rfl) rfl rfl (step_mv rfl rfl) trivial ?_
  refine rl0 (gy rfl rfl rfl rfl rfl rfl) rfl rfl (step_callc rfl Try.func17 rfl rfl rfl (sound_c wK3 (popH wK3 wH6 wN6) (n + 10) (n + 0) (n + 1) 2 (wN6 - 1) 2 2 (by rw [wN6_]; omega) (by rw [wN6_]; omega) (fun i_ j_ h_ => by rw [wN6_] at h_; omega) (by rw [wP6]; exact wS6.lt) (fun j_ h0_ h_ => by rw [wN6_] at h_; omega)) (by repeat (first | exact .nil | refine .cons ?_ ?_ | exact VLe.refl _ | exact vle_int (by first | rfl | omega) | exact VLe.own_sl _ _ _ | exact VLe.fl_sl _ _ | exact VLe.nil_sl _ | exact VLe.nil_fl _ | refine VLe.agg ?_))) ⟨by repeat (first | exact uE | refine uN (by omega) ?_ | assumption | exact hd _ (by omega) | refine (hfz1 _ (by first | assumption | omega)).trans ?_ | refine (hfz2 _ (by first | assumption | omega)).trans ?_ | refine (hfz3 _ (by first | assumption | omega)).trans ?_ | refine (hfz4 _ (by first | assumption | omega)).trans ?_ | refine (hfz5 _ (by first | assumption | omega)).trans ?_ | refine (hfz6 _ (by first | assumption | omega)).trans ?_ | refine (hfz7 _ (by first | assumption | omega)).trans ?_ | fail), by repeat (first | exact uE | refine uN (by omega) ?_ | assumption | exact hd _ (by omega) | refine (hfz1 _ (by first | assumption | omega)).trans ?_ | refine (hfz2 _ (by first | assumption | omega)).trans ?_ | refine (hfz3 _ (by first | assumption | omega)).trans ?_ | refine (hfz4 _ (by first | assumption | omega)).trans ?_ | refine (hfz5 _ (by first | assumption | omega)).trans ?_ | refine (hfz6 _ (by first | assumption | omega)).trans ?_ | refine (hfz7 _ (by first | assumption | omega)).trans ?_ | fail), fam_ok hfam7⟩ ?_
  refine rl0 (gn rfl) rfl rfl (step_pick rfl (ev_mk rfl) (ev_mk rfl)) trivial ?_
  refine rl0 (gn rfl) rfl rfl (step_mv rfl rfl) trivial ?_
  refine rl0 (gy rfl rfl rfl rfl rfl rfl) rfl rfl (step_mv rfl rfl) trivial ?_
  refine rl0 (gy rfl rfl rfl rfl rfl rfl) rfl rfl (step_callc rfl Try.func18 rfl rfl rfl (there_c wK3 (n + 10) 1 (posF (popH wK3 wH6 wN6) (wN6 - 1) 1)) (by repeat (first | exact .nil | refine .cons ?_ ?_ | exact VLe.refl _ | exact vle_int (by first | rfl | omega) | exact VLe.own_sl _ _ _ | exact VLe.fl_sl _ _ | exact VLe.nil_sl _ | exact VLe.nil_fl _ | refine VLe.agg ?_))) ⟨by repeat (first | exact uE | refine uN (by omega) ?_ | assumption | exact hd _ (by omega) | refine (hfz1 _ (by first | assumption | omega)).trans ?_ | refine (hfz2 _ (by first | assumption | omega)).trans ?_ | refine (hfz3 _ (by first | assumption | omega)).trans ?_ | refine (hfz4 _ (by first | assumption | omega)).trans ?_ | refine (hfz5 _ (by first | assumption | omega)).trans ?_ | refine (hfz6 _ (by first | assumption | omega)).trans ?_ | refine (hfz7 _ (by first | assumption | omega)).trans ?_ | fail), trivial⟩ ?_
  refine rl_know (d := 94) (c := false) rfl (by decide +kernel) ?_
  refine rl0 (gy rfl rfl rfl rfl rfl rfl) rfl rfl (step_unOp (c := .bool true) rfl (ev_mk rfl) (fun _ => rfl)) trivial ?_
  refine rl0 (gn rfl) rfl rfl (step_pick rfl (ev_mk rfl) (ev_mk rfl)) trivial ?_
  refine rl0 (gn rfl) rfl rfl (step_as rfl rfl) trivial ?_
  refine runsL_nil ?_
  refine runs_ret ?_
  refine ⟨by first | exact .inr rfl | exact .inl rfl, fin_mkg (rest rfl res0) ?_ ?_ ?_ ?_ ?_⟩
  · (repeat' (first | exact VLe.refl _ | exact VLe.own_sl _ _ _ | exact VLe.fl_sl _ _ | exact VLe.nil_sl _ | exact VLe.nil_fl _ | exact VLes.refl _ | exact .nil | refine VLe.tup ?_ | refine VLe.agg ?_ | refine .cons ?_ ?_ | (rw [Int.natCast_add]; exact VLe.refl _) | exact vle_int (by omega) | exact vle_bool (by first | rfl | assumption | (simp_all; done) | fail) | fail))
  · repeat (first | exact trivial | assumption | omega | (refine bdR_map (fun _ => ?_)) | (refine bdL_map (fun _ => ?_)) | refine ⟨?_, ?_⟩ | fail)
  · intro k_ hk_; exact ble (by repeat (first | exact rfl | refine uN (by omega) ?_ | assumption | refine (hfz1 _ (by first | assumption | omega)).trans ?_ | refine (hfz2 _ (by first | assumption | omega)).trans ?_ | refine (hfz3 _ (by first | assumption | omega)).trans ?_ | refine (hfz4 _ (by first | assumption | omega)).trans ?_ | refine (hfz5 _ (by first | assumption | omega)).trans ?_ | refine (hfz6 _ (by first | assumption | omega)).trans ?_ | refine (hfz7 _ (by first | assumption | omega)).trans ?_ | fail))
  · intro p hp; cases hp
  · repeat (first | exact trivial | assumption | omega | (refine bdR_map (fun _ => ?_)) | (refine bdL_map (fun _ => ?_)) | refine ⟨?_, ?_⟩ | fail)
end Go.Proofs.Ytggeejghchnpaaa
