/- Walks of the platter, by the logic of values. -/
import Derived.Test.YtllpipiidjfhbaaVb
namespace Go.Proofs.Ytllpipiidjfhbaa
open Go.Vm
set_option linter.unusedVariables false
set_option linter.unusedSimpArgs false
set_option maxRecDepth 100000 in
set_option maxHeartbeats 4000000 in
theorem fuse_c (k1 k2 : Nat) (S : List (List Int)) (w f : Int) (kp : List Bool) (dn : Bool) (m : Int) (kq : List Bool) (hk : kq.length ≤ 1000000) : Does Try.prog 14 [.ref k1 0, .sc (.int .i64 m), .sl 1 (boolsV kq)] [(k1, .cells [.msl k2 0 (S).length (S).length 64, .sc (.int .i64 (w)), .sc (.int .i64 (f)), .sl 1 (boolsV (kp)), .sc (.bool (dn))]), (k2, .cells (S.flatten.map bV))] [(k1, .cells [.msl k2 0 (S).length (S).length 64, .sc (.int .i64 (w)), .sc (.int .i64 (if -1 > m then -1 else m)), .sl 1 (boolsV (kq)), .sc (.bool (dn))])] (.tup []) := by
  refine does_mk 20 Try.func14 rfl rfl rfl (fun n B bx hd hpre hup hvs hbx => ?_)
  have hp0 := hpre.1
  have hk0 := lt_cells hd hp0
  have hp1 := hpre.2.1
  have hk1 := lt_cells hd hp1
  refine runs_region ?_
  refine rl0 (gn rfl) rfl rfl (step_mv rfl rfl) trivial ?_
  refine rl0 (gn rfl) rfl rfl (step_mv rfl rfl) trivial ?_
  refine rl0 (gn rfl) rfl rfl (step_mv rfl rfl) trivial ?_
  refine rl0 (gn rfl) rfl rfl (step_max rfl (ev_mk rfl) (ev_mk rfl)) trivial ?_
  refine rl0 (gn rfl) rfl rfl (step_lit rfl Try.underlying30 F.sz4 F.zero4 (by first | rfl | simp) (by first | rfl | simp | decide) (by decide) rfl rfl (by first | (simp [V.cs, V.stor, oneV]; done) | (simp [V.cs, V.stor, oneV])) rfl) trivial ?_
  refine rl0 (gn rfl) rfl rfl (step_mv rfl rfl) trivial ?_
  first
    | (refine' rl1 (gn rfl) rfl rfl (step_append_own rfl rfl rfl Try.underlying30 ⟨_, Try.underlying30, fun k_ => by intro h_; cases h_⟩ F.el4 (ev_mk rfl) (ev_mk rfl) (gives_sl (.inl rfl)) ?hg) ⟨?hb, trivial⟩ (by omega) ?_; (case hb => repeat (first | exact upd_eq _ _ _ | refine (upd_ne _ _ _ _ (by omega)).trans ?_ | assumption | exact hd _ (by omega) | exact hd0 _ (by omega) | exact hd1 _ (by omega) | exact hd2 _ (by omega) | fail)); (case hg => simp [boolsV]; omega))
    | (refine' rl1 (gn rfl) rfl rfl (step_append_new (k := n + 0) rfl rfl rfl Try.underlying30 ⟨_, Try.underlying30, fun k_ => by intro h_; cases h_⟩ F.el4 (ev_mk rfl) (.inl rfl) (ev_mk rfl) (gives_sl (.inl rfl)) ?hg) ⟨?hb, trivial⟩ (by omega) ?_; (case hb => repeat (first | exact upd_eq _ _ _ | refine (upd_ne _ _ _ _ (by omega)).trans ?_ | assumption | exact hd _ (by omega) | exact hd0 _ (by omega) | exact hd1 _ (by omega) | exact hd2 _ (by omega) | fail)); (case hg => simp [boolsV]; omega))
    | (refine' rl1 (gn rfl) rfl rfl (step_append_new (k := n + 0) (xs := []) rfl rfl rfl Try.underlying30 ⟨_, Try.underlying30, fun k_ => by intro h_; cases h_⟩ F.el4 (ev_mk rfl) (.inr ⟨rfl, rfl⟩) (ev_mk rfl) (gives_sl (.inl rfl)) ?hg) ⟨?hb, trivial⟩ (by omega) ?_; (case hb => repeat (first | exact upd_eq _ _ _ | refine (upd_ne _ _ _ _ (by omega)).trans ?_ | assumption | exact hd _ (by omega) | exact hd0 _ (by omega) | exact hd1 _ (by omega) | exact hd2 _ (by omega) | fail)); (case hg => simp [boolsV]; omega))
    | (refine' rl1 (gn rfl) rfl rfl (step_append_own rfl rfl rfl Try.underlying30 ⟨_, Try.underlying30, fun k_ => by intro h_; cases h_⟩ F.el4 (ev_mk rfl) (ev_mk rfl) (gives_sl (.inr (.inl rfl))) ?hg) ⟨?hb, trivial⟩ (by omega) ?_; (case hb => repeat (first | exact upd_eq _ _ _ | refine (upd_ne _ _ _ _ (by omega)).trans ?_ | assumption | exact hd _ (by omega) | exact hd0 _ (by omega) | exact hd1 _ (by omega) | exact hd2 _ (by omega) | fail)); (case hg => simp [boolsV]; omega))
    | (refine' rl1 (gn rfl) rfl rfl (step_append_new (k := n + 0) rfl rfl rfl Try.underlying30 ⟨_, Try.underlying30, fun k_ => by intro h_; cases h_⟩ F.el4 (ev_mk rfl) (.inl rfl) (ev_mk rfl) (gives_sl (.inr (.inl rfl))) ?hg) ⟨?hb, trivial⟩ (by omega) ?_; (case hb => repeat (first | exact upd_eq _ _ _ | refine (upd_ne _ _ _ _ (by omega)).trans ?_ | assumption | exact hd _ (by omega) | exact hd0 _ (by omega) | exact hd1 _ (by omega) | exact hd2 _ (by omega) | fail)); (case hg => simp [boolsV]; omega))
    | (refine' rl1 (gn rfl) rfl rfl (step_append_new (k := n + 0) (xs := []) rfl rfl rfl Try.underlying30 ⟨_, Try.underlying30, fun k_ => by intro h_; cases h_⟩ F.el4 (ev_mk rfl) (.inr ⟨rfl, rfl⟩) (ev_mk rfl) (gives_sl (.inr (.inl rfl))) ?hg) ⟨?hb, trivial⟩ (by omega) ?_; (case hb => repeat (first | exact upd_eq _ _ _ | refine (upd_ne _ _ _ _ (by omega)).trans ?_ | assumption | exact hd _ (by omega) | exact hd0 _ (by omega) | exact hd1 _ (by omega) | exact hd2 _ (by omega) | fail)); (case hg => simp [boolsV]; omega))
    | (refine' rl1 (gn rfl) rfl rfl (step_append_own rfl rfl rfl Try.underlying30 ⟨_, Try.underlying30, fun k_ => by intro h_; cases h_⟩ F.el4 (ev_mk rfl) (ev_mk rfl) (gives_sl (.inr (.inr ⟨_, rfl⟩))) ?hg) ⟨?hb, trivial⟩ (by omega) ?_; (case hb => repeat (first | exact upd_eq _ _ _ | refine (upd_ne _ _ _ _ (by omega)).trans ?_ | assumption | exact hd _ (by omega) | exact hd0 _ (by omega) | exact hd1 _ (by omega) | exact hd2 _ (by omega) | fail)); (case hg => simp [boolsV]; omega))
    | (refine' rl1 (gn rfl) rfl rfl (step_append_new (k := n + 0) rfl rfl rfl Try.underlying30 ⟨_, Try.underlying30, fun k_ => by intro h_; cases h_⟩ F.el4 (ev_mk rfl) (.inl rfl) (ev_mk rfl) (gives_sl (.inr (.inr ⟨_, rfl⟩))) ?hg) ⟨?hb, trivial⟩ (by omega) ?_; (case hb => repeat (first | exact upd_eq _ _ _ | refine (upd_ne _ _ _ _ (by omega)).trans ?_ | assumption | exact hd _ (by omega) | exact hd0 _ (by omega) | exact hd1 _ (by omega) | exact hd2 _ (by omega) | fail)); (case hg => simp [boolsV]; omega))
    | (refine' rl1 (gn rfl) rfl rfl (step_append_new (k := n + 0) (xs := []) rfl rfl rfl Try.underlying30 ⟨_, Try.underlying30, fun k_ => by intro h_; cases h_⟩ F.el4 (ev_mk rfl) (.inr ⟨rfl, rfl⟩) (ev_mk rfl) (gives_sl (.inr (.inr ⟨_, rfl⟩))) ?hg) ⟨?hb, trivial⟩ (by omega) ?_; (case hb => repeat (first | exact upd_eq _ _ _ | refine (upd_ne _ _ _ _ (by omega)).trans ?_ | assumption | exact hd _ (by omega) | exact hd0 _ (by omega) | exact hd1 _ (by omega) | exact hd2 _ (by omega) | fail)); (case hg => simp [boolsV]; omega))
    | (refine' rl1 (gn rfl) rfl rfl (step_append_own rfl rfl rfl Try.underlying30 ⟨_, Try.underlying30, fun k_ => by intro h_; cases h_⟩ F.el4 (ev_mk rfl) (ev_mk rfl) gives_nil ?hg) ⟨?hb, trivial⟩ (by omega) ?_; (case hb => repeat (first | exact upd_eq _ _ _ | refine (upd_ne _ _ _ _ (by omega)).trans ?_ | assumption | exact hd _ (by omega) | exact hd0 _ (by omega) | exact hd1 _ (by omega) | exact hd2 _ (by omega) | fail)); (case hg => simp [boolsV]; omega))
    | (refine' rl1 (gn rfl) rfl rfl (step_append_new (k := n + 0) rfl rfl rfl Try.underlying30 ⟨_, Try.underlying30, fun k_ => by intro h_; cases h_⟩ F.el4 (ev_mk rfl) (.inl rfl) (ev_mk rfl) gives_nil ?hg) ⟨?hb, trivial⟩ (by omega) ?_; (case hb => repeat (first | exact upd_eq _ _ _ | refine (upd_ne _ _ _ _ (by omega)).trans ?_ | assumption | exact hd _ (by omega) | exact hd0 _ (by omega) | exact hd1 _ (by omega) | exact hd2 _ (by omega) | fail)); (case hg => simp [boolsV]; omega))
    | (refine' rl1 (gn rfl) rfl rfl (step_append_new (k := n + 0) (xs := []) rfl rfl rfl Try.underlying30 ⟨_, Try.underlying30, fun k_ => by intro h_; cases h_⟩ F.el4 (ev_mk rfl) (.inr ⟨rfl, rfl⟩) (ev_mk rfl) gives_nil ?hg) ⟨?hb, trivial⟩ (by omega) ?_; (case hb => repeat (first | exact upd_eq _ _ _ | refine (upd_ne _ _ _ _ (by omega)).trans ?_ | assumption | exact hd _ (by omega) | exact hd0 _ (by omega) | exact hd1 _ (by omega) | exact hd2 _ (by omega) | fail)); (case hg => simp [boolsV]; omega))
    | (refine' rl1 (gn rfl) rfl rfl (step_append_own rfl rfl rfl Try.underlying30 ⟨_, Try.underlying30, fun k_ => by intro h_; cases h_⟩ F.el4 (ev_mk rfl) (ev_mk rfl) (gives_msl ?hl ?hy) ?hg) ⟨?hb, ⟨?hm, trivial⟩⟩ (by omega) ?_; (case hb => repeat (first | exact upd_eq _ _ _ | refine (upd_ne _ _ _ _ (by omega)).trans ?_ | assumption | exact hd _ (by omega) | exact hd0 _ (by omega) | exact hd1 _ (by omega) | exact hd2 _ (by omega) | fail)); (case hg => simp [boolsV]; omega); (case hm => repeat (first | exact upd_eq _ _ _ | refine (upd_ne _ _ _ _ (by omega)).trans ?_ | assumption | exact hd _ (by omega) | exact hd0 _ (by omega) | exact hd1 _ (by omega) | exact hd2 _ (by omega) | fail)); (case hl => (simp; omega)); (case hy => rfl))
    | (refine' rl1 (gn rfl) rfl rfl (step_append_new (k := n + 0) rfl rfl rfl Try.underlying30 ⟨_, Try.underlying30, fun k_ => by intro h_; cases h_⟩ F.el4 (ev_mk rfl) (.inl rfl) (ev_mk rfl) (gives_msl ?hl ?hy) ?hg) ⟨?hb, ⟨?hm, trivial⟩⟩ (by omega) ?_; (case hb => repeat (first | exact upd_eq _ _ _ | refine (upd_ne _ _ _ _ (by omega)).trans ?_ | assumption | exact hd _ (by omega) | exact hd0 _ (by omega) | exact hd1 _ (by omega) | exact hd2 _ (by omega) | fail)); (case hg => simp [boolsV]; omega); (case hm => repeat (first | exact upd_eq _ _ _ | refine (upd_ne _ _ _ _ (by omega)).trans ?_ | assumption | exact hd _ (by omega) | exact hd0 _ (by omega) | exact hd1 _ (by omega) | exact hd2 _ (by omega) | fail)); (case hl => (simp; omega)); (case hy => rfl))
    | (refine' rl1 (gn rfl) rfl rfl (step_append_new (k := n + 0) (xs := []) rfl rfl rfl Try.underlying30 ⟨_, Try.underlying30, fun k_ => by intro h_; cases h_⟩ F.el4 (ev_mk rfl) (.inr ⟨rfl, rfl⟩) (ev_mk rfl) (gives_msl ?hl ?hy) ?hg) ⟨?hb, ⟨?hm, trivial⟩⟩ (by omega) ?_; (case hb => repeat (first | exact upd_eq _ _ _ | refine (upd_ne _ _ _ _ (by omega)).trans ?_ | assumption | exact hd _ (by omega) | exact hd0 _ (by omega) | exact hd1 _ (by omega) | exact hd2 _ (by omega) | fail)); (case hg => simp [boolsV]; omega); (case hm => repeat (first | exact upd_eq _ _ _ | refine (upd_ne _ _ _ _ (by omega)).trans ?_ | assumption | exact hd _ (by omega) | exact hd0 _ (by omega) | exact hd1 _ (by omega) | exact hd2 _ (by omega) | fail)); (case hl => (simp; omega)); (case hy => rfl))
  first | refine rl0 (gn rfl) rfl rfl (step_nilCheck rfl (ev_mk rfl) (.inl ⟨_, _, rfl⟩)) trivial ?_ | refine rl0 (gn rfl) rfl rfl (step_nilCheck rfl (ev_mk rfl) (.inr ⟨_, rfl⟩)) trivial ?_
  first | refine rl0 (gn rfl) rfl rfl (step_fieldAddr (off := 2) rfl (ev_mk rfl) Try.underlying55 rfl F.sz3 rfl) trivial ?_ | refine rl0 (gn rfl) rfl rfl (step_fieldAddr_ro (off := 2) rfl (ev_mk rfl) Try.underlying55 rfl F.sz3 rfl rfl) trivial ?_
  refine' rls (gn rfl) rfl (step_store1 rfl rfl rfl rfl F.one3 rfl rfl ?hl ?hc) ⟨?hb, trivial⟩ ?hk ?_
  case hb => repeat (first | exact upd_eq _ _ _ | refine (upd_ne _ _ _ _ (by omega)).trans ?_ | assumption | exact hd _ (by omega) | exact hd0 _ (by omega) | exact hd1 _ (by omega) | exact hd2 _ (by omega) | fail)
  case hl => first | decide | (simp; done) | (simp; omega) | (simp; omega)
  case hc => first | (simp only [List.set_cons_succ, List.set_cons_zero]; rfl) | rfl
  case hk => omega
  first | refine rl0 (gn rfl) rfl rfl (step_nilCheck rfl (ev_mk rfl) (.inl ⟨_, _, rfl⟩)) trivial ?_ | refine rl0 (gn rfl) rfl rfl (step_nilCheck rfl (ev_mk rfl) (.inr ⟨_, rfl⟩)) trivial ?_
  first | refine rl0 (gn rfl) rfl rfl (step_fieldAddr (off := 3) rfl (ev_mk rfl) Try.underlying55 rfl F.sz30 rfl) trivial ?_ | refine rl0 (gn rfl) rfl rfl (step_fieldAddr_ro (off := 3) rfl (ev_mk rfl) Try.underlying55 rfl F.sz30 rfl rfl) trivial ?_
  refine' rls (gn rfl) rfl (step_store1 rfl rfl rfl rfl F.one30 rfl rfl ?hl ?hc) ⟨?hb, trivial⟩ ?hk ?_
  case hb => repeat (first | exact upd_eq _ _ _ | refine (upd_ne _ _ _ _ (by omega)).trans ?_ | assumption | exact hd _ (by omega) | exact hd0 _ (by omega) | exact hd1 _ (by omega) | exact hd2 _ (by omega) | fail)
  case hl => first | decide | (simp; done) | (simp; omega) | (simp; omega)
  case hc => first | (simp only [List.set_cons_succ, List.set_cons_zero]; rfl) | rfl
  case hk => omega
  refine runsL_nil ?_
  refine ⟨by first | exact .inr rfl | exact .inl rfl, fin_mk res0 ?_ ?_ ?_ ?_⟩
  · first | exact VLe.refl _ | exact VLe.own_sl _ _ _ | exact VLe.fl_sl _ _
  · repeat (first | exact trivial | assumption | omega | exact bd_bs | exact bd_row | exact bd_secs | exact bd_bools | refine ⟨?_, ?_⟩ | fail)
  · intro k hk; simp only [upds]; by_cases ek1 : k = k1; (focus subst ek1; refine bl_eq ?_; first | (refine' blec ?hb ?hl; (case hb => repeat (first | exact upd_eq _ _ _ | assumption | refine (upd_ne _ _ _ _ (by omega)).trans ?_ | fail)); (case hl => first | exact VLes.refl _ | ((repeat (first | exact .nil | refine .cons ?_ ?_ | exact VLe.refl _ | exact VLe.own_sl _ _ _ | exact VLe.nil_sl _)); done))) | (refine ble ?_; (repeat (first | exact upd_eq _ _ _ | assumption | refine (upd_ne _ _ _ _ (by omega)).trans ?_ | fail)); done)); refine bl_ne ek1 ?_; exact ble (by first | exact rfl | (refine (upd_ne _ _ _ _ (by omega)).trans ?_; first | exact rfl | skip; repeat (first | exact rfl | refine (upd_ne _ _ _ _ (by omega)).trans ?_ | assumption | exact hf0 _ (by omega) | exact hf1 _ (by omega) | exact hf2 _ (by omega) | exact hf0 _ (by omega) (by first | assumption | omega) | exact hf1 _ (by omega) (by first | assumption | omega))) | exact hf0 _ (by omega) | exact hf1 _ (by omega) | exact hf2 _ (by omega) | exact hf0 _ (by omega) (by first | assumption | omega) | exact hf1 _ (by omega) (by first | assumption | omega))
  · intro p hp cs hcs; simp only [List.mem_cons, List.not_mem_nil, or_false] at hp; (first | (rcases hp with rfl | rfl) | (subst hp)) <;> (cases hcs; repeat (first | exact trivial | assumption | omega | exact bd_bs | exact bd_row | exact bd_secs | exact bd_bools | refine ⟨?_, ?_⟩ | fail))
set_option maxRecDepth 100000 in
set_option maxHeartbeats 4000000 in
theorem up_c (k1 k2 : Nat) (S : List (List Int)) (w f : Int) (kp : List Bool) (dn : Bool) : Does Try.prog 12 [.ref k1 0] [(k1, .cells [.msl k2 0 (S).length (S).length 64, .sc (.int .i64 (w)), .sc (.int .i64 (f)), .sl 1 (boolsV (kp)), .sc (.bool (dn))]), (k2, .cells (S.flatten.map bV))] [(k1, .cells [.msl k2 0 (S).length (S).length 64, .sc (.int .i64 (w)), .sc (.int .i64 (-1)), .sl 1 (boolsV ([])), .sc (.bool (false))])] (.tup []) := by
  refine does_mk 20 Try.func12 rfl rfl rfl (fun n B bx hd hpre hup hvs hbx => ?_)
  have hp0 := hpre.1
  have hk0 := lt_cells hd hp0
  have hp1 := hpre.2.1
  have hk1 := lt_cells hd hp1
  refine runs_region ?_
  refine rl0 (gn rfl) rfl rfl (step_mv rfl rfl) trivial ?_
  refine rl0 (gn rfl) rfl rfl (step_mv rfl rfl) trivial ?_
  refine rl0 (gn rfl) rfl rfl (step_mv rfl rfl) trivial ?_
  first | refine rl0 (gn rfl) rfl rfl (step_nilCheck rfl (ev_mk rfl) (.inl ⟨_, _, rfl⟩)) trivial ?_ | refine rl0 (gn rfl) rfl rfl (step_nilCheck rfl (ev_mk rfl) (.inr ⟨_, rfl⟩)) trivial ?_
  first | refine rl0 (gn rfl) rfl rfl (step_fieldAddr (off := 4) rfl (ev_mk rfl) Try.underlying55 rfl F.sz4 rfl) trivial ?_ | refine rl0 (gn rfl) rfl rfl (step_fieldAddr_ro (off := 4) rfl (ev_mk rfl) Try.underlying55 rfl F.sz4 rfl rfl) trivial ?_
  refine' rls (gn rfl) rfl (step_store1 rfl rfl rfl rfl F.one4 rfl rfl ?hl ?hc) ⟨?hb, trivial⟩ ?hk ?_
  case hb => repeat (first | exact upd_eq _ _ _ | refine (upd_ne _ _ _ _ (by omega)).trans ?_ | assumption | exact hd _ (by omega) | exact hd0 _ (by omega) | exact hd1 _ (by omega) | exact hd2 _ (by omega) | fail)
  case hl => first | decide | (simp; done) | (simp; omega) | (simp; omega)
  case hc => first | (simp only [List.set_cons_succ, List.set_cons_zero]; rfl) | rfl
  case hk => omega
  first | refine rl0 (gn rfl) rfl rfl (step_nilCheck rfl (ev_mk rfl) (.inl ⟨_, _, rfl⟩)) trivial ?_ | refine rl0 (gn rfl) rfl rfl (step_nilCheck rfl (ev_mk rfl) (.inr ⟨_, rfl⟩)) trivial ?_
  first | refine rl0 (gn rfl) rfl rfl (step_fieldAddr (off := 2) rfl (ev_mk rfl) Try.underlying55 rfl F.sz3 rfl) trivial ?_ | refine rl0 (gn rfl) rfl rfl (step_fieldAddr_ro (off := 2) rfl (ev_mk rfl) Try.underlying55 rfl F.sz3 rfl rfl) trivial ?_
  refine' rls (gn rfl) rfl (step_store1 rfl rfl rfl rfl F.one3 rfl rfl ?hl ?hc) ⟨?hb, trivial⟩ ?hk ?_
  case hb => repeat (first | exact upd_eq _ _ _ | refine (upd_ne _ _ _ _ (by omega)).trans ?_ | assumption | exact hd _ (by omega) | exact hd0 _ (by omega) | exact hd1 _ (by omega) | exact hd2 _ (by omega) | fail)
  case hl => first | decide | (simp; done) | (simp; omega) | (simp; omega)
  case hc => first | (simp only [List.set_cons_succ, List.set_cons_zero]; rfl) | rfl
  case hk => omega
  first | refine rl0 (gn rfl) rfl rfl (step_nilCheck rfl (ev_mk rfl) (.inl ⟨_, _, rfl⟩)) trivial ?_ | refine rl0 (gn rfl) rfl rfl (step_nilCheck rfl (ev_mk rfl) (.inr ⟨_, rfl⟩)) trivial ?_
  first | refine rl0 (gn rfl) rfl rfl (step_fieldAddr (off := 3) rfl (ev_mk rfl) Try.underlying55 rfl F.sz30 rfl) trivial ?_ | refine rl0 (gn rfl) rfl rfl (step_fieldAddr_ro (off := 3) rfl (ev_mk rfl) Try.underlying55 rfl F.sz30 rfl rfl) trivial ?_
  refine' rls (gn rfl) rfl (step_store1 rfl rfl rfl rfl F.one30 rfl rfl ?hl ?hc) ⟨?hb, trivial⟩ ?hk ?_
  case hb => repeat (first | exact upd_eq _ _ _ | refine (upd_ne _ _ _ _ (by omega)).trans ?_ | assumption | exact hd _ (by omega) | exact hd0 _ (by omega) | exact hd1 _ (by omega) | exact hd2 _ (by omega) | fail)
  case hl => first | decide | (simp; done) | (simp; omega) | (simp; omega)
  case hc => first | (simp only [List.set_cons_succ, List.set_cons_zero]; rfl) | rfl
  case hk => omega
  refine runsL_nil ?_
  refine ⟨by first | exact .inr rfl | exact .inl rfl, fin_mk res0 ?_ ?_ ?_ ?_⟩
  · first | exact VLe.refl _ | exact VLe.own_sl _ _ _ | exact VLe.fl_sl _ _
  · repeat (first | exact trivial | assumption | omega | exact bd_bs | exact bd_row | exact bd_secs | exact bd_bools | refine ⟨?_, ?_⟩ | fail)
  · intro k hk; simp only [upds]; by_cases ek1 : k = k1; (focus subst ek1; refine bl_eq ?_; first | (refine' blec ?hb ?hl; (case hb => repeat (first | exact upd_eq _ _ _ | assumption | refine (upd_ne _ _ _ _ (by omega)).trans ?_ | fail)); (case hl => first | exact VLes.refl _ | ((repeat (first | exact .nil | refine .cons ?_ ?_ | exact VLe.refl _ | exact VLe.own_sl _ _ _ | exact VLe.nil_sl _)); done))) | (refine ble ?_; (repeat (first | exact upd_eq _ _ _ | assumption | refine (upd_ne _ _ _ _ (by omega)).trans ?_ | fail)); done)); refine bl_ne ek1 ?_; exact ble (by first | exact rfl | (refine (upd_ne _ _ _ _ (by omega)).trans ?_; first | exact rfl | skip; repeat (first | exact rfl | refine (upd_ne _ _ _ _ (by omega)).trans ?_ | assumption | exact hf0 _ (by omega) | exact hf1 _ (by omega) | exact hf2 _ (by omega) | exact hf0 _ (by omega) (by first | assumption | omega) | exact hf1 _ (by omega) (by first | assumption | omega))) | exact hf0 _ (by omega) | exact hf1 _ (by omega) | exact hf2 _ (by omega) | exact hf0 _ (by omega) (by first | assumption | omega) | exact hf1 _ (by omega) (by first | assumption | omega))
  · intro p hp cs hcs; simp only [List.mem_cons, List.not_mem_nil, or_false] at hp; (first | (rcases hp with rfl | rfl) | (subst hp)) <;> (cases hcs; repeat (first | exact trivial | assumption | omega | exact bd_bs | exact bd_row | exact bd_secs | exact bd_bools | refine ⟨?_, ?_⟩ | fail))
set_option maxRecDepth 100000 in
set_option maxHeartbeats 4000000 in
theorem new_bad (m : Int) (hm : m < 1 ∨ m > 16384) : Does Try.prog 7 [.sc (.int .i64 m)] [] [] (.tup [.sc (.pointer none), .sc (.int .i64 2)]) := by
  refine does_mk 20 Try.func7 rfl rfl rfl (fun n B bx hd hpre hup hvs hbx => ?_)
  refine runs_seq ?_
  refine runs_region ?_
  refine rl0 (gn rfl) rfl rfl (step_as rfl rfl) trivial ?_
  refine rl0 (gn rfl) rfl rfl (step_as rfl rfl) trivial ?_
  refine runsL_nil ?_
  refine runs_seq ?_
  refine runs_seq ?_
  refine runs_region ?_
  refine rl0 (gn rfl) rfl rfl (step_mv rfl rfl) trivial ?_
  refine rl_lss (gn rfl) rfl rfl rfl rfl rfl (fun h1 => ?_) (fun h1 => ?_)
  · skip
    refine rl0 (gn rfl) rfl rfl (step_mv rfl rfl) trivial ?_
    refine rlk rfl rfl rfl rfl rfl (ngb rfl rfl) rfl rfl ?_
    refine rlk rfl rfl rfl rfl rfl (ngb rfl rfl) rfl rfl ?_
    refine rl0 (gn rfl) rfl rfl (step_pick rfl (ev_mk rfl) (ev_mk rfl)) trivial ?_
    refine runsL_nil ?_
    refine runs_cond true (ev_mk rfl) (fun _ => ?_) (fun h_ => nomatch h_)
    refine runs_seq ?_
    refine runs_region ?_
    refine rl0 (gn rfl) rfl rfl (step_as rfl rfl) trivial ?_
    refine rl0 (gn rfl) rfl rfl (step_as rfl rfl) trivial ?_
    refine runsL_nil ?_
    refine runs_ret ?_
    refine ⟨by first | exact .inr rfl | exact .inl rfl, fin_mk (rest rfl (rest rfl res0)) ?_ ?_ ?_ ?_⟩
    · first | exact VLe.refl _ | exact VLe.own_sl _ _ _ | exact VLe.fl_sl _ _
    · repeat (first | exact trivial | assumption | omega | exact bd_bs | exact bd_row | exact bd_secs | exact bd_bools | refine ⟨?_, ?_⟩ | fail)
    · intro k hk; exact ble (by first | exact rfl | (refine (upd_ne _ _ _ _ (by omega)).trans ?_; first | exact rfl | skip; repeat (first | exact rfl | refine (upd_ne _ _ _ _ (by omega)).trans ?_ | assumption | exact hf0 _ (by omega) | exact hf1 _ (by omega) | exact hf2 _ (by omega) | exact hf0 _ (by omega) (by first | assumption | omega) | exact hf1 _ (by omega) (by first | assumption | omega))) | exact hf0 _ (by omega) | exact hf1 _ (by omega) | exact hf2 _ (by omega) | exact hf0 _ (by omega) (by first | assumption | omega) | exact hf1 _ (by omega) (by first | assumption | omega))
    · intro p hp; cases hp
  · skip
    refine rl0 (gn rfl) rfl rfl (step_mv rfl rfl) trivial ?_
    refine rl0 (gy rfl rfl rfl rfl rfl rfl) rfl rfl (step_mv rfl rfl) trivial ?_
    refine rl_gtr (gy rfl rfl rfl rfl rfl rfl) rfl rfl rfl rfl rfl (fun h2 => ?_) (fun h2 => ?_)
    · skip
      refine rl0 (gn rfl) rfl rfl (step_pick rfl (ev_mk rfl) (ev_mk rfl)) trivial ?_
      refine runsL_nil ?_
      refine runs_cond true (ev_mk rfl) (fun _ => ?_) (fun h_ => nomatch h_)
      refine runs_seq ?_
      refine runs_region ?_
      refine rl0 (gn rfl) rfl rfl (step_as rfl rfl) trivial ?_
      refine rl0 (gn rfl) rfl rfl (step_as rfl rfl) trivial ?_
      refine runsL_nil ?_
      refine runs_ret ?_
      refine ⟨by first | exact .inr rfl | exact .inl rfl, fin_mk (rest rfl (rest rfl res0)) ?_ ?_ ?_ ?_⟩
      · first | exact VLe.refl _ | exact VLe.own_sl _ _ _ | exact VLe.fl_sl _ _
      · repeat (first | exact trivial | assumption | omega | exact bd_bs | exact bd_row | exact bd_secs | exact bd_bools | refine ⟨?_, ?_⟩ | fail)
      · intro k hk; exact ble (by first | exact rfl | (refine (upd_ne _ _ _ _ (by omega)).trans ?_; first | exact rfl | skip; repeat (first | exact rfl | refine (upd_ne _ _ _ _ (by omega)).trans ?_ | assumption | exact hf0 _ (by omega) | exact hf1 _ (by omega) | exact hf2 _ (by omega) | exact hf0 _ (by omega) (by first | assumption | omega) | exact hf1 _ (by omega) (by first | assumption | omega))) | exact hf0 _ (by omega) | exact hf1 _ (by omega) | exact hf2 _ (by omega) | exact hf0 _ (by omega) (by first | assumption | omega) | exact hf1 _ (by omega) (by first | assumption | omega))
      · intro p hp; cases hp
    · skip
      exact absurd hm (by omega)
def zS (m : Nat) : List (List Int) := List.replicate m (List.replicate 64 0)
theorem zS_len (m : Nat) : (zS m).length = m := by simp [zS]
theorem zS_row (m : Nat) : ∀ r ∈ zS m, r.length = 64 := fun r hr => by rw [List.eq_of_mem_replicate hr]; simp
theorem zS_cells (m : Nat) : (List.replicate m ((List.replicate 64 (Value.int .u8 0)).map V.sc)).flatten = (zS m).flatten.map bV := by
  unfold zS
  rw [List.map_flatten, List.map_replicate, List.map_replicate, List.map_replicate]
  rfl
set_option maxRecDepth 100000 in
set_option maxHeartbeats 4000000 in
theorem new_ok (m : Nat) (h1 : 1 ≤ m) (h2 : m ≤ 16384) (k1 k2 : Nat) (hkk : k1 ≠ k2) : Does Try.prog 7 [.sc (.int .i64 m)] [(k1, .dead), (k2, .dead)] [(k2, .cells ((zS m).flatten.map bV)), (k1, .cells [.msl k2 0 m m 64, .sc (.int .i64 0), .sc (.int .i64 (-1)), .sl 1 (boolsV []), .sc (.bool false)])] (.tup [.ref k1 0, .sc (.int .i64 0)]) := by
  refine does_mk 20 Try.func7 rfl rfl rfl (fun n B bx hd hpre hup hvs hbx => ?_)
  have hp0 := hpre.1
  have hp1 := hpre.2.1
  have hu0 := hup.1
  have hu1 := hup.2.1
  refine runs_seq ?_
  refine runs_region ?_
  refine rl0 (gn rfl) rfl rfl (step_as rfl rfl) trivial ?_
  refine rl0 (gn rfl) rfl rfl (step_as rfl rfl) trivial ?_
  refine runsL_nil ?_
  refine runs_seq ?_
  refine runs_seq ?_
  refine runs_region ?_
  refine rl0 (gn rfl) rfl rfl (step_mv rfl rfl) trivial ?_
  refine rl_lss (gn rfl) rfl rfl rfl rfl rfl (fun h1 => ?_) (fun h1 => ?_)
  · skip
    exact absurd h1 (by omega)
  · skip
    refine rl0 (gn rfl) rfl rfl (step_mv rfl rfl) trivial ?_
    refine rl0 (gy rfl rfl rfl rfl rfl rfl) rfl rfl (step_mv rfl rfl) trivial ?_
    refine rl_gtr (gy rfl rfl rfl rfl rfl rfl) rfl rfl rfl rfl rfl (fun h2 => ?_) (fun h2 => ?_)
    · skip
      exact absurd h2 (by omega)
    · skip
      refine rl0 (gn rfl) rfl rfl (step_pick rfl (ev_mk rfl) (ev_mk rfl)) trivial ?_
      refine runsL_nil ?_
      refine runs_cond false (ev_mk rfl) (fun h_ => nomatch h_) (fun _ => ?_)
      refine runs_skip ?_
      refine runs_seq ?_
      refine runs_region ?_
      refine rl0 (gn rfl) rfl rfl (step_mv rfl rfl) trivial ?_
      refine rl1 (gn rfl) rfl rfl (step_make_msl_ (k := k2) (len := m) (zs := List.replicate 64 (.int .u8 0)) rfl (ev_mk rfl) (ev_mk rfl) Try.underlying29 F.el48 F.zero48 rfl (by simp) (by simp [oneV]) (by omega)) ⟨by repeat (first | exact upd_eq _ _ _ | refine (upd_ne _ _ _ _ (by omega)).trans ?_ | assumption | exact hd _ (by omega) | exact hd0 _ (by omega) | exact hd1 _ (by omega) | exact hd2 _ (by omega) | fail), trivial⟩ (by omega) ?_
      refine rl0 (gn rfl) rfl rfl (step_build (ss := [1, 1, 1, 1, 1]) (zs := [.slice none 0 0, .int .i64 0, .int .i64 0, .slice none 0 0, .bool false]) rfl Try.underlying55 (by kernel_rfl) F.zero55 rfl rfl rfl) trivial ?_
      first | refine rl1 (gn rfl) rfl rfl (step_box_agg (k := k1) rfl rfl) ⟨by repeat (first | exact upd_eq _ _ _ | refine (upd_ne _ _ _ _ (by omega)).trans ?_ | assumption | exact hd _ (by omega) | exact hd0 _ (by omega) | exact hd1 _ (by omega) | exact hd2 _ (by omega) | fail), trivial⟩ (by omega) ?_ | refine rl1 (gn rfl) rfl rfl (step_box_one (k := k1) rfl rfl rfl rfl) ⟨by repeat (first | exact upd_eq _ _ _ | refine (upd_ne _ _ _ _ (by omega)).trans ?_ | assumption | exact hd _ (by omega) | exact hd0 _ (by omega) | exact hd1 _ (by omega) | exact hd2 _ (by omega) | fail), trivial⟩ (by omega) ?_
      refine rl0 (gn rfl) rfl rfl (step_as rfl rfl) trivial ?_
      refine rl0 (gn rfl) rfl rfl (step_as rfl rfl) trivial ?_
      refine runsL_nil ?_
      refine runs_ret ?_
      refine ⟨by first | exact .inr rfl | exact .inl rfl, fin_mk (rest rfl (rest rfl res0)) ?_ ?_ ?_ ?_⟩
      · first | exact VLe.refl _ | exact VLe.own_sl _ _ _ | exact VLe.fl_sl _ _
      · repeat (first | exact trivial | assumption | omega | exact bd_bs | exact bd_row | exact bd_secs | exact bd_bools | refine ⟨?_, ?_⟩ | fail)
      · intro k hk; simp only [upds]; by_cases ek1 : k = k1; (focus subst ek1; refine bl_eq ?_; first | (refine' blec ?hb ?hl; (case hb => repeat (first | exact upd_eq _ _ _ | assumption | refine (upd_ne _ _ _ _ (by omega)).trans ?_ | fail)); (case hl => first | exact VLes.refl _ | ((repeat (first | exact .nil | refine .cons ?_ ?_ | exact VLe.refl _ | exact VLe.own_sl _ _ _ | exact VLe.nil_sl _)); done))) | (refine ble ?_; (repeat (first | exact upd_eq _ _ _ | assumption | refine (upd_ne _ _ _ _ (by omega)).trans ?_ | fail)); done) | (refine' blec ?hb ?hl; (case hb => repeat (first | exact upd_eq _ _ _ | assumption | refine (upd_ne _ _ _ _ (by omega)).trans ?_ | fail)); (case hl => exact (zS_cells m ▸ VLes.refl _)))); refine bl_ne ek1 ?_; by_cases ek2 : k = k2; (focus subst ek2; refine bl_eq ?_; first | (refine' blec ?hb ?hl; (case hb => repeat (first | exact upd_eq _ _ _ | assumption | refine (upd_ne _ _ _ _ (by omega)).trans ?_ | fail)); (case hl => first | exact VLes.refl _ | ((repeat (first | exact .nil | refine .cons ?_ ?_ | exact VLe.refl _ | exact VLe.own_sl _ _ _ | exact VLe.nil_sl _)); done))) | (refine ble ?_; (repeat (first | exact upd_eq _ _ _ | assumption | refine (upd_ne _ _ _ _ (by omega)).trans ?_ | fail)); done) | (refine' blec ?hb ?hl; (case hb => repeat (first | exact upd_eq _ _ _ | assumption | refine (upd_ne _ _ _ _ (by omega)).trans ?_ | fail)); (case hl => exact (zS_cells m ▸ VLes.refl _)))); refine bl_ne ek2 ?_; exact ble (by first | exact rfl | (refine (upd_ne _ _ _ _ (by omega)).trans ?_; first | exact rfl | skip; repeat (first | exact rfl | refine (upd_ne _ _ _ _ (by omega)).trans ?_ | assumption | exact hf0 _ (by omega) | exact hf1 _ (by omega) | exact hf2 _ (by omega) | exact hf0 _ (by omega) (by first | assumption | omega) | exact hf1 _ (by omega) (by first | assumption | omega))) | exact hf0 _ (by omega) | exact hf1 _ (by omega) | exact hf2 _ (by omega) | exact hf0 _ (by omega) (by first | assumption | omega) | exact hf1 _ (by omega) (by first | assumption | omega))
      · intro p hp cs hcs; simp only [List.mem_cons, List.not_mem_nil, or_false] at hp; (first | (rcases hp with rfl | rfl) | (subst hp)) <;> (cases hcs; repeat (first | exact trivial | assumption | omega | exact bd_bs | exact bd_row | exact bd_secs | exact bd_bools | refine ⟨?_, ?_⟩ | fail))
def takeN (S : List (List Int)) (x n : Nat) : List (List Int) := (S.drop x).take n
theorem read_rows (S : List (List Int)) (hS : ∀ r ∈ S, r.length = 64) (x n : Nat) (h : x + n ≤ S.length) : rowsOf 64 n (((S.flatten.map bV).drop (x * 64)).take (n * 64)) = secsV (takeN S x n) := by
  have e1 : S.flatten.drop (x * 64) = (S.drop x).flatten := by
    have : ∀ (S : List (List Int)) (x : Nat), (∀ r ∈ S, r.length = 64) → S.flatten.drop (x * 64) = (S.drop x).flatten := by
      intro S
      induction S with
      | nil => intro x _; simp
      | cons r S ih =>
        intro x hS
        cases x with
        | zero => simp
        | succ x =>
          have hr := hS r (List.mem_cons_self ..)
          rw [List.flatten_cons, List.drop_append, List.drop_of_length_le (by rw [hr]; omega), List.nil_append, hr, show (x + 1) * 64 - 64 = x * 64 by omega, ih x (fun r' hr' => hS r' (List.mem_cons_of_mem _ hr'))]
          rfl
    exact this S x hS
  have e2 : (S.drop x).flatten.take (n * 64) = (takeN S x n).flatten := by
    have : ∀ (S : List (List Int)) (n : Nat), (∀ r ∈ S, r.length = 64) → S.flatten.take (n * 64) = (S.take n).flatten := by
      intro S
      induction S with
      | nil => intro x _; simp
      | cons r S ih =>
        intro n hS
        cases n with
        | zero => simp
        | succ n =>
          have hr := hS r (List.mem_cons_self ..)
          rw [List.flatten_cons, List.take_append, List.take_of_length_le (by rw [hr]; omega), hr, show (n + 1) * 64 - 64 = n * 64 by omega, ih n (fun r' hr' => hS r' (List.mem_cons_of_mem _ hr'))]
          rfl
    exact this (S.drop x) n (fun r hr => hS r (List.mem_of_mem_drop hr))
  have hl : (takeN S x n).length = n := by simp [takeN]; omega
  rw [← List.map_drop, e1, ← List.map_take, e2]
  have := secs_rows (takeN S x n) (fun r hr => hS r (List.mem_of_mem_drop (List.mem_of_mem_take hr)))
  rwa [hl] at this
theorem RDR_ (S : List (List Int)) (hS : ∀ r ∈ S, r.length = 64) (x m : Int) (hx : 0 ≤ x) (hm : 0 ≤ m) (h : x + m ≤ S.length) : rowsOf 64 m.toNat (((S.flatten.map bV).drop (if (x + m).toNat = x.toNat then 0 else 0 + x.toNat * 64)).take (m.toNat * 64)) = secsV (takeN S x.toNat m.toNat) := by
  by_cases hz : (x + m).toNat = x.toNat
  · have hm0 : m.toNat = 0 := by omega
    rw [hm0]
    simp [rowsOf, secsV, takeN]
  · rw [if_neg hz, Nat.zero_add]
    exact read_rows S hS x.toNat m.toNat (by omega)
theorem inside_q (k1 k2 L : Nat) (a b c d : V) (x m : Int) (q : Bool) (hL : L ≤ 1000000) (hx : -9223372036854775808 ≤ x ∧ x ≤ 9223372036854775807) (hm : -9223372036854775808 ≤ m ∧ m ≤ 9223372036854775807) (h : insideB L x m = q) :
    Does Try.prog 27 [.ref k1 0, .sc (.int .i64 x), .sc (.int .i64 m)] [(k1, .cells [.msl k2 0 L L 64, a, b, c, d])] [] (.sc (.bool q)) := h ▸ inside_c k1 k2 L a b c d x m hL hx hm
set_option maxRecDepth 100000 in
set_option maxHeartbeats 4000000 in
theorem read_range (k1 k2 : Nat) (S : List (List Int)) (w f : Int) (kp : List Bool) (dn : Bool) (x m : Int) (hL : S.length ≤ 100000) (hx : -9223372036854775808 ≤ x ∧ x ≤ 9223372036854775807) (hm : -9223372036854775808 ≤ m ∧ m ≤ 9223372036854775807) (hi : insideB S.length x m = false) : Does Try.prog 20 [.ref k1 0, .sc (.int .i64 x), .sc (.int .i64 m)] [(k1, .cells [.msl k2 0 (S).length (S).length 64, .sc (.int .i64 (w)), .sc (.int .i64 (f)), .sl 1 (boolsV (kp)), .sc (.bool (dn))]), (k2, .cells (S.flatten.map bV))] [] (.tup [.sl 64 [], .sc (.int .i64 2)]) := by
  refine does_mk 20 Try.func20 rfl rfl rfl (fun n B bx hd hpre hup hvs hbx => ?_)
  have hp0 := hpre.1
  have hk0 := lt_cells hd hp0
  have hp1 := hpre.2.1
  have hk1 := lt_cells hd hp1
  refine runs_seq ?_
  refine runs_region ?_
  refine rl0 (gn rfl) rfl rfl (step_as rfl rfl) trivial ?_
  refine rl0 (gn rfl) rfl rfl (step_as rfl rfl) trivial ?_
  refine runsL_nil ?_
  refine runs_seq ?_
  refine runs_block ?_
  refine runs_seq ?_
  refine runs_region ?_
  refine rl0 (gn rfl) rfl rfl (step_mv rfl rfl) trivial ?_
  refine rl0 (gn rfl) rfl rfl (step_mv rfl rfl) trivial ?_
  refine rl0 (gn rfl) rfl rfl (step_mv rfl rfl) trivial ?_
  refine rl0 (gn rfl) rfl rfl (step_callc rfl Try.func27 rfl rfl rfl (inside_q k1 k2 S.length _ _ _ _ x m _ (by omega) hx hm hi) (by repeat (first | exact .nil | refine .cons ?_ ?_ | exact VLe.refl _ | exact VLe.own_sl _ _ _ | exact VLe.fl_sl _ _ | exact VLe.nil_sl _ | exact VLe.nil_fl _ | refine VLe.agg ?_))) ⟨by repeat (first | exact upd_eq _ _ _ | refine (upd_ne _ _ _ _ (by omega)).trans ?_ | assumption | exact hd _ (by omega) | exact hd0 _ (by omega) | exact hd1 _ (by omega) | exact hd2 _ (by omega) | fail), trivial⟩ ?_
  refine rl0 (gn rfl) rfl rfl (step_unOp rfl (ev_mk rfl) (fun _ => rfl)) trivial ?_
  refine rl0 (gn rfl) rfl rfl (step_as rfl rfl) trivial ?_
  refine runsL_nil ?_
  refine runs_cond _ (ev_mk rfl) (fun h1 => ?_) (fun h1 => ?_)
  · skip
    refine runs_seq ?_
    refine runs_region ?_
    refine rl0 (gn rfl) rfl rfl (step_as rfl rfl) trivial ?_
    refine rl0 (gn rfl) rfl rfl (step_as rfl rfl) trivial ?_
    refine runsL_nil ?_
    refine runs_ret ?_
    refine ⟨by first | exact .inr rfl | exact .inl rfl, fin_mk (rest rfl (rest rfl res0)) ?_ ?_ ?_ ?_⟩
    · exact VLe.tup (.cons (VLe.nil_sl _) (.cons (VLe.refl _) .nil))
    · repeat (first | exact trivial | assumption | omega | exact bd_bs | exact bd_row | exact bd_secs | exact bd_bools | refine ⟨?_, ?_⟩ | fail)
    · intro k hk; exact ble (by first | exact rfl | (refine (upd_ne _ _ _ _ (by omega)).trans ?_; first | exact rfl | skip; repeat (first | exact rfl | refine (upd_ne _ _ _ _ (by omega)).trans ?_ | assumption | exact hf0 _ (by omega) | exact hf1 _ (by omega) | exact hf2 _ (by omega) | exact hf0 _ (by omega) (by first | assumption | omega) | exact hf1 _ (by omega) (by first | assumption | omega))) | exact hf0 _ (by omega) | exact hf1 _ (by omega) | exact hf2 _ (by omega) | exact hf0 _ (by omega) (by first | assumption | omega) | exact hf1 _ (by omega) (by first | assumption | omega))
    · intro p hp; cases hp
  · skip
    exact absurd ‹_› (by simp)
set_option maxRecDepth 100000 in
set_option maxHeartbeats 4000000 in
theorem read_down (k1 k2 : Nat) (S : List (List Int)) (w f : Int) (kp : List Bool) (dn : Bool) (x m : Int) (hL : S.length ≤ 100000) (hx : -9223372036854775808 ≤ x ∧ x ≤ 9223372036854775807) (hm : -9223372036854775808 ≤ m ∧ m ≤ 9223372036854775807) (hi : insideB S.length x m = true) (hdn : dn = true) : Does Try.prog 20 [.ref k1 0, .sc (.int .i64 x), .sc (.int .i64 m)] [(k1, .cells [.msl k2 0 (S).length (S).length 64, .sc (.int .i64 (w)), .sc (.int .i64 (f)), .sl 1 (boolsV (kp)), .sc (.bool (dn))]), (k2, .cells (S.flatten.map bV))] [] (.tup [.sl 64 [], .sc (.int .i64 4)]) := by
  refine does_mk 20 Try.func20 rfl rfl rfl (fun n B bx hd hpre hup hvs hbx => ?_)
  have hp0 := hpre.1
  have hk0 := lt_cells hd hp0
  have hp1 := hpre.2.1
  have hk1 := lt_cells hd hp1
  refine runs_seq ?_
  refine runs_region ?_
  refine rl0 (gn rfl) rfl rfl (step_as rfl rfl) trivial ?_
  refine rl0 (gn rfl) rfl rfl (step_as rfl rfl) trivial ?_
  refine runsL_nil ?_
  refine runs_seq ?_
  refine runs_block ?_
  refine runs_seq ?_
  refine runs_region ?_
  refine rl0 (gn rfl) rfl rfl (step_mv rfl rfl) trivial ?_
  refine rl0 (gn rfl) rfl rfl (step_mv rfl rfl) trivial ?_
  refine rl0 (gn rfl) rfl rfl (step_mv rfl rfl) trivial ?_
  refine rl0 (gn rfl) rfl rfl (step_callc rfl Try.func27 rfl rfl rfl (inside_q k1 k2 S.length _ _ _ _ x m _ (by omega) hx hm hi) (by repeat (first | exact .nil | refine .cons ?_ ?_ | exact VLe.refl _ | exact VLe.own_sl _ _ _ | exact VLe.fl_sl _ _ | exact VLe.nil_sl _ | exact VLe.nil_fl _ | refine VLe.agg ?_))) ⟨by repeat (first | exact upd_eq _ _ _ | refine (upd_ne _ _ _ _ (by omega)).trans ?_ | assumption | exact hd _ (by omega) | exact hd0 _ (by omega) | exact hd1 _ (by omega) | exact hd2 _ (by omega) | fail), trivial⟩ ?_
  refine rl0 (gn rfl) rfl rfl (step_unOp rfl (ev_mk rfl) (fun _ => rfl)) trivial ?_
  refine rl0 (gn rfl) rfl rfl (step_as rfl rfl) trivial ?_
  refine runsL_nil ?_
  refine runs_cond _ (ev_mk rfl) (fun h1 => ?_) (fun h1 => ?_)
  · skip
    exact absurd ‹_› (by simp)
  · skip
    refine runs_seq ?_
    refine runs_region ?_
    refine rl0 (gn rfl) rfl rfl (step_mv rfl rfl) trivial ?_
    first | refine rl0 (gn rfl) rfl rfl (step_nilCheck rfl (ev_mk rfl) (.inl ⟨_, _, rfl⟩)) trivial ?_ | refine rl0 (gn rfl) rfl rfl (step_nilCheck rfl (ev_mk rfl) (.inr ⟨_, rfl⟩)) trivial ?_
    first | refine rl0 (gn rfl) rfl rfl (step_fieldAddr (off := 4) rfl (ev_mk rfl) Try.underlying55 rfl F.sz4 rfl) trivial ?_ | refine rl0 (gn rfl) rfl rfl (step_fieldAddr_ro (off := 4) rfl (ev_mk rfl) Try.underlying55 rfl F.sz4 rfl rfl) trivial ?_
    first
      | (refine' rl0 (gn rfl) rfl rfl (step_load_one rfl (ev_mk rfl) F.one4 ?hv) ⟨?hb, trivial⟩ ?_; (case hb => repeat (first | exact upd_eq _ _ _ | refine (upd_ne _ _ _ _ (by omega)).trans ?_ | assumption | exact hd _ (by omega) | exact hd0 _ (by omega) | exact hd1 _ (by omega) | exact hd2 _ (by omega) | fail)); (case hv => exact rfl))
      | (refine rl0 (gn rfl) rfl rfl (step_load_ro rfl (ev_mk rfl) F.one4 rfl) trivial ?_)
    refine rl0 (gn rfl) rfl rfl (step_as rfl rfl) trivial ?_
    refine runsL_nil ?_
    refine runs_cond _ (ev_mk rfl) (fun h2 => ?_) (fun h2 => ?_)
    · skip
      refine runs_seq ?_
      refine runs_region ?_
      refine rl0 (gn rfl) rfl rfl (step_as rfl rfl) trivial ?_
      refine rl0 (gn rfl) rfl rfl (step_as rfl rfl) trivial ?_
      refine runsL_nil ?_
      refine runs_ret ?_
      refine ⟨by first | exact .inr rfl | exact .inl rfl, fin_mk (rest rfl (rest rfl res0)) ?_ ?_ ?_ ?_⟩
      · exact VLe.tup (.cons (VLe.nil_sl _) (.cons (VLe.refl _) .nil))
      · repeat (first | exact trivial | assumption | omega | exact bd_bs | exact bd_row | exact bd_secs | exact bd_bools | refine ⟨?_, ?_⟩ | fail)
      · intro k hk; exact ble (by first | exact rfl | (refine (upd_ne _ _ _ _ (by omega)).trans ?_; first | exact rfl | skip; repeat (first | exact rfl | refine (upd_ne _ _ _ _ (by omega)).trans ?_ | assumption | exact hf0 _ (by omega) | exact hf1 _ (by omega) | exact hf2 _ (by omega) | exact hf0 _ (by omega) (by first | assumption | omega) | exact hf1 _ (by omega) (by first | assumption | omega))) | exact hf0 _ (by omega) | exact hf1 _ (by omega) | exact hf2 _ (by omega) | exact hf0 _ (by omega) (by first | assumption | omega) | exact hf1 _ (by omega) (by first | assumption | omega))
      · intro p hp; cases hp
    · skip
      exact absurd ‹_› (by simp [hdn])
set_option maxRecDepth 100000 in
set_option maxHeartbeats 4000000 in
theorem read_ok (k1 k2 : Nat) (S : List (List Int)) (w f : Int) (kp : List Bool) (dn : Bool) (x m : Int) (hL : S.length ≤ 100000) (hx : -9223372036854775808 ≤ x ∧ x ≤ 9223372036854775807) (hm : -9223372036854775808 ≤ m ∧ m ≤ 9223372036854775807) (hS : ∀ r ∈ S, r.length = 64) (hi : insideB S.length x m = true) (hdn : dn = false) : Does Try.prog 20 [.ref k1 0, .sc (.int .i64 x), .sc (.int .i64 m)] [(k1, .cells [.msl k2 0 (S).length (S).length 64, .sc (.int .i64 (w)), .sc (.int .i64 (f)), .sl 1 (boolsV (kp)), .sc (.bool (dn))]), (k2, .cells (S.flatten.map bV))] [] (.tup [.sl 64 (secsV (takeN S x.toNat m.toNat)), .sc (.int .i64 0)]) := by
  refine does_mk 20 Try.func20 rfl rfl rfl (fun n B bx hd hpre hup hvs hbx => ?_)
  have hp0 := hpre.1
  have hk0 := lt_cells hd hp0
  have hp1 := hpre.2.1
  have hk1 := lt_cells hd hp1
  have hii := of_decide_eq_true hi
  have hsl : (x + m).toNat - x.toNat = m.toNat := by omega
  refine runs_seq ?_
  refine runs_region ?_
  refine rl0 (gn rfl) rfl rfl (step_as rfl rfl) trivial ?_
  refine rl0 (gn rfl) rfl rfl (step_as rfl rfl) trivial ?_
  refine runsL_nil ?_
  refine runs_seq ?_
  refine runs_block ?_
  refine runs_seq ?_
  refine runs_region ?_
  refine rl0 (gn rfl) rfl rfl (step_mv rfl rfl) trivial ?_
  refine rl0 (gn rfl) rfl rfl (step_mv rfl rfl) trivial ?_
  refine rl0 (gn rfl) rfl rfl (step_mv rfl rfl) trivial ?_
  refine rl0 (gn rfl) rfl rfl (step_callc rfl Try.func27 rfl rfl rfl (inside_q k1 k2 S.length _ _ _ _ x m _ (by omega) hx hm hi) (by repeat (first | exact .nil | refine .cons ?_ ?_ | exact VLe.refl _ | exact VLe.own_sl _ _ _ | exact VLe.fl_sl _ _ | exact VLe.nil_sl _ | exact VLe.nil_fl _ | refine VLe.agg ?_))) ⟨by repeat (first | exact upd_eq _ _ _ | refine (upd_ne _ _ _ _ (by omega)).trans ?_ | assumption | exact hd _ (by omega) | exact hd0 _ (by omega) | exact hd1 _ (by omega) | exact hd2 _ (by omega) | fail), trivial⟩ ?_
  refine rl0 (gn rfl) rfl rfl (step_unOp rfl (ev_mk rfl) (fun _ => rfl)) trivial ?_
  refine rl0 (gn rfl) rfl rfl (step_as rfl rfl) trivial ?_
  refine runsL_nil ?_
  refine runs_cond _ (ev_mk rfl) (fun h1 => ?_) (fun h1 => ?_)
  · skip
    exact absurd ‹_› (by simp)
  · skip
    refine runs_seq ?_
    refine runs_region ?_
    refine rl0 (gn rfl) rfl rfl (step_mv rfl rfl) trivial ?_
    first | refine rl0 (gn rfl) rfl rfl (step_nilCheck rfl (ev_mk rfl) (.inl ⟨_, _, rfl⟩)) trivial ?_ | refine rl0 (gn rfl) rfl rfl (step_nilCheck rfl (ev_mk rfl) (.inr ⟨_, rfl⟩)) trivial ?_
    first | refine rl0 (gn rfl) rfl rfl (step_fieldAddr (off := 4) rfl (ev_mk rfl) Try.underlying55 rfl F.sz4 rfl) trivial ?_ | refine rl0 (gn rfl) rfl rfl (step_fieldAddr_ro (off := 4) rfl (ev_mk rfl) Try.underlying55 rfl F.sz4 rfl rfl) trivial ?_
    first
      | (refine' rl0 (gn rfl) rfl rfl (step_load_one rfl (ev_mk rfl) F.one4 ?hv) ⟨?hb, trivial⟩ ?_; (case hb => repeat (first | exact upd_eq _ _ _ | refine (upd_ne _ _ _ _ (by omega)).trans ?_ | assumption | exact hd _ (by omega) | exact hd0 _ (by omega) | exact hd1 _ (by omega) | exact hd2 _ (by omega) | fail)); (case hv => exact rfl))
      | (refine rl0 (gn rfl) rfl rfl (step_load_ro rfl (ev_mk rfl) F.one4 rfl) trivial ?_)
    refine rl0 (gn rfl) rfl rfl (step_as rfl rfl) trivial ?_
    refine runsL_nil ?_
    refine runs_cond _ (ev_mk rfl) (fun h2 => ?_) (fun h2 => ?_)
    · skip
      exact absurd ‹_› (by simp [hdn])
    · skip
      refine runs_skip ?_
      refine runs_seq ?_
      refine runs_region ?_
      refine rl0 (gn rfl) rfl rfl (step_lit rfl Try.underlying29 F.sz48 F.zero48 (by first | rfl | simp) (by first | rfl | simp | decide) (by decide) rfl rfl (by first | (simp [V.cs, V.stor, oneV]; done) | (simp [V.cs, V.stor, oneV])) rfl) trivial ?_
      refine rl0 (gn rfl) rfl rfl (step_mv rfl rfl) trivial ?_
      first | refine rl0 (gn rfl) rfl rfl (step_nilCheck rfl (ev_mk rfl) (.inl ⟨_, _, rfl⟩)) trivial ?_ | refine rl0 (gn rfl) rfl rfl (step_nilCheck rfl (ev_mk rfl) (.inr ⟨_, rfl⟩)) trivial ?_
      first | refine rl0 (gn rfl) rfl rfl (step_fieldAddr (off := 0) rfl (ev_mk rfl) Try.underlying55 rfl F.sz29 rfl) trivial ?_ | refine rl0 (gn rfl) rfl rfl (step_fieldAddr_ro (off := 0) rfl (ev_mk rfl) Try.underlying55 rfl F.sz29 rfl rfl) trivial ?_
      first
        | (refine' rl0 (gn rfl) rfl rfl (step_load_one rfl (ev_mk rfl) F.one29 ?hv) ⟨?hb, trivial⟩ ?_; (case hb => repeat (first | exact upd_eq _ _ _ | refine (upd_ne _ _ _ _ (by omega)).trans ?_ | assumption | exact hd _ (by omega) | exact hd0 _ (by omega) | exact hd1 _ (by omega) | exact hd2 _ (by omega) | fail)); (case hv => exact rfl))
        | (refine rl0 (gn rfl) rfl rfl (step_load_ro rfl (ev_mk rfl) F.one29 rfl) trivial ?_)
      refine rl0 (gn rfl) rfl rfl (step_mv rfl rfl) trivial ?_
      refine rl0 (gn rfl) rfl rfl (step_mv rfl rfl) trivial ?_
      refine rl0 (gn rfl) rfl rfl (step_mv rfl rfl) trivial ?_
      refine rl0 (gn rfl) rfl rfl (step_add rfl (ev_mk rfl) (ev_mk rfl) (w64 (by omega))) trivial ?_
      refine rl0 (gn rfl) rfl rfl (step_mv rfl rfl) trivial ?_
      refine rl0 (gn rfl) rfl rfl (step_mv rfl rfl) trivial ?_
      refine rl0 (gn rfl) rfl rfl (step_add rfl (ev_mk rfl) (ev_mk rfl) (w64 (by omega))) trivial ?_
      refine rl0 (gn rfl) rfl rfl (step_slice_msl rfl (ev_mk rfl) Try.underlying29 F.sz48 (bndLo_some rfl (by omega)) (bndHi_some rfl (by omega)) (bndHi_some rfl (by omega)) (fun _ => rfl) (by omega) (by omega) (by omega)) trivial ?_
      rw [show (x + m).toNat - x.toNat = m.toNat by omega]
      first
        | (refine' rl1 (gn rfl) rfl rfl (step_append_new (k := n + 0) rfl rfl rfl Try.underlying29 ⟨_, Try.underlying29, fun k_ => by intro h_; cases h_⟩ F.el48 (ev_mk rfl) (.inl rfl) (ev_mk rfl) (gives_msl (ys := secsV (takeN S x.toNat m.toNat)) ?hl ?hy) ?hg) ⟨?hb, ⟨?hm, trivial⟩⟩ (by omega) ?_; (case hb => repeat (first | exact upd_eq _ _ _ | refine (upd_ne _ _ _ _ (by omega)).trans ?_ | assumption | exact hd _ (by omega) | exact hd0 _ (by omega) | exact hd1 _ (by omega) | exact hd2 _ (by omega) | fail)); (case hg => simp [secsV, takeN]; omega); (case hm => repeat (first | exact upd_eq _ _ _ | refine (upd_ne _ _ _ _ (by omega)).trans ?_ | assumption | exact hd _ (by omega) | exact hd0 _ (by omega) | exact hd1 _ (by omega) | exact hd2 _ (by omega) | fail)); (case hl => (rw [List.length_map, flat_len64 S hS]; split <;> omega)); (case hy => exact RDR_ S hS x m (by omega) (by omega) (by omega)))
      refine rl0 (gn rfl) rfl rfl (step_as rfl rfl) trivial ?_
      refine rl0 (gn rfl) rfl rfl (step_as rfl rfl) trivial ?_
      refine runsL_nil ?_
      refine runs_ret ?_
      refine ⟨by first | exact .inr rfl | exact .inl rfl, fin_mk (rest rfl (rest rfl res0)) ?_ ?_ ?_ ?_⟩
      · exact VLe.tup (.cons (VLe.own_sl _ _ _) (.cons (VLe.refl _) .nil))
      · repeat (first | exact trivial | assumption | omega | exact bd_bs | exact bd_row | exact bd_secs | exact bd_bools | refine ⟨?_, ?_⟩ | fail)
      · intro k hk; exact ble (by first | exact rfl | (refine (upd_ne _ _ _ _ (by omega)).trans ?_; first | exact rfl | skip; repeat (first | exact rfl | refine (upd_ne _ _ _ _ (by omega)).trans ?_ | assumption | exact hf0 _ (by omega) | exact hf1 _ (by omega) | exact hf2 _ (by omega) | exact hf0 _ (by omega) (by first | assumption | omega) | exact hf1 _ (by omega) (by first | assumption | omega))) | exact hf0 _ (by omega) | exact hf1 _ (by omega) | exact hf2 _ (by omega) | exact hf0 _ (by omega) (by first | assumption | omega) | exact hf1 _ (by omega) (by first | assumption | omega))
      · intro p hp; cases hp
end Go.Proofs.Ytllpipiidjfhbaa
