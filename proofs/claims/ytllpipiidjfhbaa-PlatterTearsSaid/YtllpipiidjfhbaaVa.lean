/- Walks of the platter, by the logic of values. -/
import Derived.Test.YtllpipiidjfhbaaVmT
namespace Go.Proofs.Ytllpipiidjfhbaa
open Go.Vm
set_option linter.unusedVariables false
set_option linter.unusedSimpArgs false
def bV (x : Int) : V := .sc (.int .u8 x)
theorem bd_b (n : Nat) (x : Int) : (bV x).bd n := trivial
theorem bd_bs {n : Nat} {xs : List Int} : bdL n (xs.map bV) := bdL_map fun x => trivial
theorem bd_row {n : Nat} {xs : List Int} : bdR n (xs.map fun x => [bV x]) := bdR_map fun x => ⟨trivial, trivial⟩
theorem bd_secs {n : Nat} {xs : List (List Int)} : bdR n (xs.map fun x => x.map bV) := bdR_map fun x => bd_bs
def fillT (b : Int) (j : Nat) : List Int := List.replicate j b ++ List.replicate (64 - j) 0
theorem fillT_len (b : Int) (j : Nat) (h : j ≤ 64) : (fillT b j).length = 64 := by simp [fillT]; omega
theorem fillT_set (b : Int) (j : Nat) (h : j < 64) : (fillT b j).set j b = fillT b (j + 1) := by
  unfold fillT
  rw [List.set_append_right _ _ (by simp)]
  have : List.replicate (64 - j) (0 : Int) = 0 :: List.replicate (64 - (j + 1)) 0 := by rw [show 64 - j = (64 - (j + 1)) + 1 by omega]; rfl
  rw [this, List.length_replicate, Nat.sub_self, List.set_cons_zero, List.replicate_succ', List.append_assoc]
  rfl
set_option maxRecDepth 100000 in
set_option maxHeartbeats 4000000 in
theorem filled_c (b : Int) : Does Try.prog 19 [bV b] [] [] (.agg ((List.replicate 64 b).map bV)) := by
  refine does_mk 20 Try.func19 rfl rfl rfl (fun n B bx hd hpre hup hvs hbx => ?_)
  refine runs_seq ?_
  refine runs_region ?_
  refine rl1 (gn rfl) rfl rfl (step_allocc (k := n + 0) (zs := (List.replicate 64 (.int .u8 0))) (cs := List.replicate 64 (.sc (.int .u8 0))) rfl F.zero48 (by first | rfl | simp) (by first | rfl | decide | simp) (by first | rfl | simp)) ⟨by repeat (first | exact upd_eq _ _ _ | refine (upd_ne _ _ _ _ (by omega)).trans ?_ | assumption | exact hd _ (by omega) | exact hd0 _ (by omega) | exact hd1 _ (by omega) | exact hd2 _ (by omega) | fail), trivial⟩ (by omega) ?_
  refine runsL_nil ?_
  refine runs_seq ?_
  refine runs_region ?_
  refine rl1 (gn rfl) rfl rfl (step_allocc (k := n + 1) (zs := (List.replicate 64 (.int .u8 0))) (cs := List.replicate 64 (.sc (.int .u8 0))) rfl F.zero48 (by first | rfl | simp) (by first | rfl | decide | simp) (by first | rfl | simp)) ⟨by repeat (first | exact upd_eq _ _ _ | refine (upd_ne _ _ _ _ (by omega)).trans ?_ | assumption | exact hd _ (by omega) | exact hd0 _ (by omega) | exact hd1 _ (by omega) | exact hd2 _ (by omega) | fail), trivial⟩ (by omega) ?_
  refine runsL_nil ?_
  refine runs_seq ?_
  refine runs_seq ?_
  refine runs_region ?_
  refine rl0 (gn rfl) rfl rfl (step_as rfl rfl) trivial ?_
  refine runsL_nil ?_
  refine runs_block ?_
  refine runs_loop (fun (i : Nat) (s : Go.Vm.S) => ∃ (j : Nat) (m0 : Nat) (b0 : Nat → Box), (s = ⟨mk [(0, bV b), (2, .ref (n + 0) 0), (3, .ref (n + 1) 0), (4, .sc (.int .i64 j))], m0, b0⟩) ∧ (i = 64 - j) ∧ (n ≤ m0) ∧ (∀ k, k < n → b0 k = bx k) ∧ (b0 (n + 0) = .cells (List.replicate 64 (bV 0))) ∧ (b0 (n + 1) = .cells ((fillT b j).map bV)) ∧ (j ≤ 64)) (64) ⟨_, sle ?_ (Nat.le_refl _), 0, _, _, rfl, rfl, ?_⟩ ?_
  · repeat (first | exact trivial | refine ⟨⟨_, rfl, by first | exact VLe.refl _ | exact VLe.own_sl _ _ _ | exact VLe.fl_sl _ _ | exact VLe.nil_sl _⟩, ?_⟩)
  · exact ⟨by omega, fun k hk => by first | exact rfl | (refine (upd_ne _ _ _ _ (by omega)).trans ?_; first | exact rfl | skip; repeat (first | exact rfl | refine (upd_ne _ _ _ _ (by omega)).trans ?_ | assumption | exact hf0 _ (by omega) | exact hf1 _ (by omega) | exact hf2 _ (by omega) | exact hf0 _ (by omega) (by first | assumption | omega) | exact hf1 _ (by omega) (by first | assumption | omega))) | exact hf0 _ (by omega) | exact hf1 _ (by omega) | exact hf2 _ (by omega) | exact hf0 _ (by omega) (by first | assumption | omega) | exact hf1 _ (by omega) (by first | assumption | omega), by repeat (first | exact upd_eq _ _ _ | refine (upd_ne _ _ _ _ (by omega)).trans ?_ | assumption | exact hd _ (by omega) | exact hd0 _ (by omega) | exact hd1 _ (by omega) | exact hd2 _ (by omega) | fail), by repeat (first | exact upd_eq _ _ _ | refine (upd_ne _ _ _ _ (by omega)).trans ?_ | assumption | exact hd _ (by omega) | exact hd0 _ (by omega) | exact hd1 _ (by omega) | exact hd2 _ (by omega) | fail), by omega⟩
  · rintro _ _ ⟨j, m0, b0, rfl, rfl, hm0, hf0, hB0_0, hB0_1, hF0_0⟩
    refine runs_know (fun hd0 => ?_)
    refine runs_bump 8 ?_
    simp only at hd0
    refine runs_seq ?_
    refine runs_seq ?_
    refine runs_region ?_
    refine rl0 (gn rfl) rfl rfl (step_mv rfl rfl) trivial ?_
    refine rl_lss (gn rfl) rfl rfl rfl rfl rfl (fun h1 => ?_) (fun h1 => ?_)
    · skip
      refine runsL_nil ?_
      refine runs_cond true (ev_mk rfl) (fun _ => ?_) (fun h_ => nomatch h_)
      refine runs_skip ?_
      refine runs_seq ?_
      refine runs_block ?_
      refine runs_region ?_
      refine rl0 (gn rfl) rfl rfl (step_mv rfl rfl) trivial ?_
      refine rl0 (gn rfl) rfl rfl (step_mv rfl rfl) trivial ?_
      refine rl0 (gn rfl) rfl rfl (step_index_arr rfl (ev_mk rfl) (ev_mk rfl) Try.underlying48 F.sz5 (by omega) (by omega)) trivial ?_
      refine' rls (gn rfl) rfl (step_store1 rfl rfl rfl rfl F.one5 rfl rfl ?hl ?hc) ⟨?hb, trivial⟩ ?hk ?_
      case hb => repeat (first | exact upd_eq _ _ _ | refine (upd_ne _ _ _ _ (by omega)).trans ?_ | assumption | exact hd _ (by omega) | exact hd0 _ (by omega) | exact hd1 _ (by omega) | exact hd2 _ (by omega) | fail)
      case hl => rw [List.length_map, fillT_len b j (by omega)]; omega
      case hc => rw [show 0 + (j : Int).toNat * 1 = j by omega, ← List.map_set, fillT_set b j (by omega)]
      case hk => omega
      refine runsL_nil ?_
      refine runs_region ?_
      refine rl0 (gn rfl) rfl rfl (step_mv rfl rfl) trivial ?_
      refine rl0 (gn rfl) rfl rfl (step_add rfl (ev_mk rfl) (ev_mk rfl) (w64 (by omega))) trivial ?_
      refine rl0 (gn rfl) rfl rfl (step_as rfl rfl) trivial ?_
      refine runsL_nil ?_
      refine ⟨_, _, ?_, sle ?_ (Nat.le_refl _), j + 1, _, _, rfl, rfl, by omega, ?_, ?_, ?_, by omega⟩
      · omega
      · exact ⟨⟨_, rfl, VLe.refl _⟩, ⟨_, rfl, VLe.refl _⟩, ⟨_, rfl, VLe.refl _⟩, ⟨_, rfl, by rw [Int.natCast_add]; exact VLe.refl _⟩, trivial⟩
      · intro k hk; exact (upd_ne _ _ _ _ (by omega)).trans (hf0 k hk)
      · exact (upd_ne _ _ _ _ (by omega)).trans hB0_0
      · exact upd_eq _ _ _
    · skip
      refine runsL_nil ?_
      refine runs_cond false (ev_mk rfl) (fun h_ => nomatch h_) (fun _ => ?_)
      refine runs_exit ?_
      refine runs_seq ?_
      refine runs_region ?_
      first
        | (refine' rl0 (gn rfl) rfl rfl (step_load_all rfl rfl F.agg48 ?hl) ⟨?hb, trivial⟩ ?_; (case hb => repeat (first | exact upd_eq _ _ _ | refine (upd_ne _ _ _ _ (by omega)).trans ?_ | assumption | exact hd _ (by omega) | exact hd0 _ (by omega) | exact hd1 _ (by omega) | exact hd2 _ (by omega) | fail)); (case hl => first | rfl | (simp; done) | (rw [List.length_map, fillT_len _ _ (by omega)])))
        | (refine rl0 (gn rfl) rfl rfl (step_load_ro_all rfl rfl F.agg48 (by first | rfl | (simp; done) | (rw [List.length_map, fillT_len _ _ (by omega)]))) trivial ?_)
        | (refine' rl0 (gn rfl) rfl rfl (step_load_agg rfl (ev_mk rfl) F.agg48 ?hc ?hl) ⟨?hb, trivial⟩ ?_; (case hb => repeat (first | exact upd_eq _ _ _ | refine (upd_ne _ _ _ _ (by omega)).trans ?_ | assumption | exact hd _ (by omega) | exact hd0 _ (by omega) | exact hd1 _ (by omega) | exact hd2 _ (by omega) | fail)); (case hc => rfl); (case hl => first | rfl | (simp; done)))
        | (refine rl0 (gn rfl) rfl rfl (step_load_ro_agg rfl (ev_mk rfl) F.agg48 rfl rfl) trivial ?_)
      first
        | (refine' rls (gn rfl) rfl (step_storeA rfl rfl rfl rfl F.agg48 ?hm ?hl) ⟨?hb, trivial⟩ ?hk ?_; (case hb => repeat (first | exact upd_eq _ _ _ | refine (upd_ne _ _ _ _ (by omega)).trans ?_ | assumption | exact hd _ (by omega) | exact hd0 _ (by omega) | exact hd1 _ (by omega) | exact hd2 _ (by omega) | fail)); (case hm => first | rfl | (simp; done) | (rw [List.length_map, fillT_len _ _ (by omega)])); (case hl => first | rfl | (simp; done) | (rw [List.length_map, fillT_len _ _ (by omega)])); (case hk => omega))
        | (refine' rls (gn rfl) rfl (step_storeS rfl rfl rfl rfl F.agg48 ?hm ?hl ?hc) ⟨?hb, trivial⟩ ?hk ?_; (case hb => repeat (first | exact upd_eq _ _ _ | refine (upd_ne _ _ _ _ (by omega)).trans ?_ | assumption | exact hd _ (by omega) | exact hd0 _ (by omega) | exact hd1 _ (by omega) | exact hd2 _ (by omega) | fail)); (case hm => first | rfl | (simp; done) | (rw [List.length_map, fillT_len _ _ (by omega)])); (case hl => first | decide | (simp; done) | (rw [List.length_map, fillT_len _ _ (by omega)])); (case hc => rfl); (case hk => omega))
      refine runsL_nil ?_
      refine runs_ret ?_
      refine ⟨by first | exact .inr rfl | exact .inl rfl, fin_mk (resc rfl (by repeat (first | exact upd_eq _ _ _ | refine (upd_ne _ _ _ _ (by omega)).trans ?_ | assumption | exact hd _ (by omega) | exact hd0 _ (by omega) | exact hd1 _ (by omega) | exact hd2 _ (by omega) | fail)) F.agg48 (by first | rfl | (rw [List.length_map, fillT_len _ _ (by omega)])) res0) ?_ ?_ ?_ ?_⟩
      · obtain rfl : j = 64 := by omega
        exact VLe.refl _
      · exact bd_bs
      · intro k hk; exact ble (by first | exact rfl | (refine (upd_ne _ _ _ _ (by omega)).trans ?_; first | exact rfl | skip; repeat (first | exact rfl | refine (upd_ne _ _ _ _ (by omega)).trans ?_ | assumption | exact hf0 _ (by omega) | exact hf1 _ (by omega) | exact hf2 _ (by omega) | exact hf0 _ (by omega) (by first | assumption | omega) | exact hf1 _ (by omega) (by first | assumption | omega))) | exact hf0 _ (by omega) | exact hf1 _ (by omega) | exact hf2 _ (by omega) | exact hf0 _ (by omega) (by first | assumption | omega) | exact hf1 _ (by omega) (by first | assumption | omega))
      · intro p hp; cases hp
end Go.Proofs.Ytllpipiidjfhbaa
