/- Walks of the platter, by the logic of values. -/
import Derived.Test.YtllpipiidjfhbaaVc
namespace Go.Proofs.Ytllpipiidjfhbaa
open Go.Vm
set_option linter.unusedVariables false
set_option linter.unusedSimpArgs false
set_option maxRecDepth 100000 in
set_option maxHeartbeats 4000000 in
theorem rinside_c (S : List (List Int)) (w f : Int) (kp : List Bool) (dn : Bool) (hL : S.length ≤ 1000000) (x m : Int) (hx : -9223372036854775808 ≤ x ∧ x ≤ 9223372036854775807) (hm : -9223372036854775808 ≤ m ∧ m ≤ 9223372036854775807) : Does Try.prog 28 [.agg [.sl 64 (secsV (S)), .sc (.int .i64 (w)), .sc (.int .i64 (f)), .sl 1 (boolsV (kp)), .sc (.bool (dn))], .sc (.int .i64 x), .sc (.int .i64 m)] [] [] (.sc (.bool (insideB S.length x m))) := by
  refine does_mk 20 Try.func28 rfl rfl rfl (fun n B bx hd hpre hup hvs hbx => ?_)
  refine runs_seq ?_
  refine runs_region ?_
  first | refine rl1 (gn rfl) rfl rfl (step_box_agg (k := n + 0) rfl rfl) ⟨by repeat (first | exact upd_eq _ _ _ | refine (upd_ne _ _ _ _ (by omega)).trans ?_ | assumption | exact hd _ (by omega) | exact hd0 _ (by omega) | exact hd1 _ (by omega) | exact hd2 _ (by omega) | fail), trivial⟩ (by omega) ?_ | refine rl1 (gn rfl) rfl rfl (step_box_one (k := n + 0) rfl rfl rfl rfl) ⟨by repeat (first | exact upd_eq _ _ _ | refine (upd_ne _ _ _ _ (by omega)).trans ?_ | assumption | exact hd _ (by omega) | exact hd0 _ (by omega) | exact hd1 _ (by omega) | exact hd2 _ (by omega) | fail), trivial⟩ (by omega) ?_
  refine rl0 (gn rfl) rfl rfl (step_as rfl rfl) trivial ?_
  refine runsL_nil ?_
  refine runs_seq ?_
  refine runs_region ?_
  refine rl0 (gn rfl) rfl rfl (step_mv rfl rfl) trivial ?_
  refine rl_geq (gn rfl) rfl rfl rfl rfl rfl (fun h1 => ?_) (fun h1 => ?_)
  · skip
    refine rl0 (gn rfl) rfl rfl (step_mv rfl rfl) trivial ?_
    refine rl0 (gy rfl rfl rfl rfl rfl rfl) rfl rfl (step_mv rfl rfl) trivial ?_
    first | refine rl0 (gy rfl rfl rfl rfl rfl rfl) rfl rfl (step_fieldAddr (off := 0) rfl (ev_mk rfl) Try.underlying32 rfl F.sz29 rfl) trivial ?_ | refine rl0 (gy rfl rfl rfl rfl rfl rfl) rfl rfl (step_fieldAddr_ro (off := 0) rfl (ev_mk rfl) Try.underlying32 rfl F.sz29 rfl rfl) trivial ?_
    first
      | (refine' rl0 (gy rfl rfl rfl rfl rfl rfl) rfl rfl (step_load_one rfl (ev_mk rfl) F.one29 ?hv) ⟨?hb, trivial⟩ ?_; (case hb => repeat (first | exact upd_eq _ _ _ | refine (upd_ne _ _ _ _ (by omega)).trans ?_ | assumption | exact hd _ (by omega) | exact hd0 _ (by omega) | exact hd1 _ (by omega) | exact hd2 _ (by omega) | fail)); (case hv => exact rfl))
      | (refine rl0 (gy rfl rfl rfl rfl rfl rfl) rfl rfl (step_load_ro rfl (ev_mk rfl) F.one29 rfl) trivial ?_)
    first
      | refine rl0 (gy rfl rfl rfl rfl rfl rfl) rfl rfl (step_len rfl rfl (ev_mk rfl) (.inl ⟨⟨_, Try.underlying29⟩, .inl ⟨_, _, .inl rfl, List.length_map _⟩⟩)) trivial ?_
      | refine rl0 (gy rfl rfl rfl rfl rfl rfl) rfl rfl (step_len rfl rfl (ev_mk rfl) (.inl ⟨⟨_, Try.underlying29⟩, .inl ⟨_, _, .inl rfl, rfl⟩⟩)) trivial ?_
      | refine rl0 (gy rfl rfl rfl rfl rfl rfl) rfl rfl (step_len rfl rfl (ev_mk rfl) (.inl ⟨⟨_, Try.underlying29⟩, .inl ⟨_, _, .inr (.inl rfl), List.length_map _⟩⟩)) trivial ?_
      | refine rl0 (gy rfl rfl rfl rfl rfl rfl) rfl rfl (step_len rfl rfl (ev_mk rfl) (.inl ⟨⟨_, Try.underlying29⟩, .inl ⟨_, _, .inr (.inl rfl), rfl⟩⟩)) trivial ?_
      | refine rl0 (gy rfl rfl rfl rfl rfl rfl) rfl rfl (step_len rfl rfl (ev_mk rfl) (.inl ⟨⟨_, Try.underlying29⟩, .inl ⟨_, _, .inr (.inr ⟨_, rfl⟩), List.length_map _⟩⟩)) trivial ?_
      | refine rl0 (gy rfl rfl rfl rfl rfl rfl) rfl rfl (step_len rfl rfl (ev_mk rfl) (.inl ⟨⟨_, Try.underlying29⟩, .inl ⟨_, _, .inr (.inr ⟨_, rfl⟩), rfl⟩⟩)) trivial ?_
      | refine rl0 (gy rfl rfl rfl rfl rfl rfl) rfl rfl (step_len rfl rfl (ev_mk rfl) (.inl ⟨⟨_, Try.underlying29⟩, .inr (.inl ⟨_, _, _, _, rfl⟩)⟩)) trivial ?_
      | refine rl0 (gy rfl rfl rfl rfl rfl rfl) rfl rfl (step_len (m := 0) rfl rfl (ev_mk rfl) (.inl ⟨⟨_, Try.underlying29⟩, .inr (.inr ⟨_, _, rfl⟩)⟩)) trivial ?_
    refine rl_lss (gy rfl rfl rfl rfl rfl rfl) rfl rfl rfl rfl rfl (fun h2 => ?_) (fun h2 => ?_)
    · skip
      refine rl0 (gn rfl) rfl rfl (step_pick rfl (ev_mk rfl) (ev_mk rfl)) trivial ?_
      refine rl0 (gn rfl) rfl rfl (step_mv rfl rfl) trivial ?_
      refine rl0 (gy rfl rfl rfl rfl rfl rfl) rfl rfl (step_mv rfl rfl) trivial ?_
      refine rl_geq (gy rfl rfl rfl rfl rfl rfl) rfl rfl rfl rfl rfl (fun h3 => ?_) (fun h3 => ?_)
      · skip
        refine rl0 (gn rfl) rfl rfl (step_pick rfl (ev_mk rfl) (ev_mk rfl)) trivial ?_
        refine rl0 (gn rfl) rfl rfl (step_mv rfl rfl) trivial ?_
        refine rl0 (gy rfl rfl rfl rfl rfl rfl) rfl rfl (step_mv rfl rfl) trivial ?_
        first | refine rl0 (gy rfl rfl rfl rfl rfl rfl) rfl rfl (step_fieldAddr (off := 0) rfl (ev_mk rfl) Try.underlying32 rfl F.sz29 rfl) trivial ?_ | refine rl0 (gy rfl rfl rfl rfl rfl rfl) rfl rfl (step_fieldAddr_ro (off := 0) rfl (ev_mk rfl) Try.underlying32 rfl F.sz29 rfl rfl) trivial ?_
        first
          | (refine' rl0 (gy rfl rfl rfl rfl rfl rfl) rfl rfl (step_load_one rfl (ev_mk rfl) F.one29 ?hv) ⟨?hb, trivial⟩ ?_; (case hb => repeat (first | exact upd_eq _ _ _ | refine (upd_ne _ _ _ _ (by omega)).trans ?_ | assumption | exact hd _ (by omega) | exact hd0 _ (by omega) | exact hd1 _ (by omega) | exact hd2 _ (by omega) | fail)); (case hv => exact rfl))
          | (refine rl0 (gy rfl rfl rfl rfl rfl rfl) rfl rfl (step_load_ro rfl (ev_mk rfl) F.one29 rfl) trivial ?_)
        first
          | refine rl0 (gy rfl rfl rfl rfl rfl rfl) rfl rfl (step_len rfl rfl (ev_mk rfl) (.inl ⟨⟨_, Try.underlying29⟩, .inl ⟨_, _, .inl rfl, List.length_map _⟩⟩)) trivial ?_
          | refine rl0 (gy rfl rfl rfl rfl rfl rfl) rfl rfl (step_len rfl rfl (ev_mk rfl) (.inl ⟨⟨_, Try.underlying29⟩, .inl ⟨_, _, .inl rfl, rfl⟩⟩)) trivial ?_
          | refine rl0 (gy rfl rfl rfl rfl rfl rfl) rfl rfl (step_len rfl rfl (ev_mk rfl) (.inl ⟨⟨_, Try.underlying29⟩, .inl ⟨_, _, .inr (.inl rfl), List.length_map _⟩⟩)) trivial ?_
          | refine rl0 (gy rfl rfl rfl rfl rfl rfl) rfl rfl (step_len rfl rfl (ev_mk rfl) (.inl ⟨⟨_, Try.underlying29⟩, .inl ⟨_, _, .inr (.inl rfl), rfl⟩⟩)) trivial ?_
          | refine rl0 (gy rfl rfl rfl rfl rfl rfl) rfl rfl (step_len rfl rfl (ev_mk rfl) (.inl ⟨⟨_, Try.underlying29⟩, .inl ⟨_, _, .inr (.inr ⟨_, rfl⟩), List.length_map _⟩⟩)) trivial ?_
          | refine rl0 (gy rfl rfl rfl rfl rfl rfl) rfl rfl (step_len rfl rfl (ev_mk rfl) (.inl ⟨⟨_, Try.underlying29⟩, .inl ⟨_, _, .inr (.inr ⟨_, rfl⟩), rfl⟩⟩)) trivial ?_
          | refine rl0 (gy rfl rfl rfl rfl rfl rfl) rfl rfl (step_len rfl rfl (ev_mk rfl) (.inl ⟨⟨_, Try.underlying29⟩, .inr (.inl ⟨_, _, _, _, rfl⟩)⟩)) trivial ?_
          | refine rl0 (gy rfl rfl rfl rfl rfl rfl) rfl rfl (step_len (m := 0) rfl rfl (ev_mk rfl) (.inl ⟨⟨_, Try.underlying29⟩, .inr (.inr ⟨_, _, rfl⟩)⟩)) trivial ?_
        refine rl0 (gy rfl rfl rfl rfl rfl rfl) rfl rfl (step_mv rfl rfl) trivial ?_
        refine rl0 (gy rfl rfl rfl rfl rfl rfl) rfl rfl (step_sub rfl (ev_mk rfl) (ev_mk rfl) (w64 (by omega))) trivial ?_
        refine rl_leq (gy rfl rfl rfl rfl rfl rfl) rfl rfl rfl rfl rfl (fun h4 => ?_) (fun h4 => ?_)
        · skip
          refine rl0 (gn rfl) rfl rfl (step_pick rfl (ev_mk rfl) (ev_mk rfl)) trivial ?_
          refine rl0 (gn rfl) rfl rfl (step_as rfl rfl) trivial ?_
          refine runsL_nil ?_
          refine runs_ret ?_
          refine ⟨by first | exact .inr rfl | exact .inl rfl, fin_mk (rest rfl res0) ?_ ?_ ?_ ?_⟩
          · rw [show insideB S.length x m = _ from by first | (exact decide_eq_true (by omega)) | (exact decide_eq_false (by omega))]; exact VLe.refl _
          · repeat (first | exact trivial | assumption | omega | exact bd_bs | exact bd_row | exact bd_secs | exact bd_bools | refine ⟨?_, ?_⟩ | fail)
          · intro k hk; exact ble (by first | exact rfl | (refine (upd_ne _ _ _ _ (by omega)).trans ?_; first | exact rfl | skip; repeat (first | exact rfl | refine (upd_ne _ _ _ _ (by omega)).trans ?_ | assumption | exact hf0 _ (by omega) | exact hf1 _ (by omega) | exact hf2 _ (by omega) | exact hf0 _ (by omega) (by first | assumption | omega) | exact hf1 _ (by omega) (by first | assumption | omega))) | exact hf0 _ (by omega) | exact hf1 _ (by omega) | exact hf2 _ (by omega) | exact hf0 _ (by omega) (by first | assumption | omega) | exact hf1 _ (by omega) (by first | assumption | omega))
          · intro p hp; cases hp
        · skip
          refine rl0 (gn rfl) rfl rfl (step_pick rfl (ev_mk rfl) (ev_mk rfl)) trivial ?_
          refine rl0 (gn rfl) rfl rfl (step_as rfl rfl) trivial ?_
          refine runsL_nil ?_
          refine runs_ret ?_
          refine ⟨by first | exact .inr rfl | exact .inl rfl, fin_mk (rest rfl res0) ?_ ?_ ?_ ?_⟩
          · rw [show insideB S.length x m = _ from by first | (exact decide_eq_true (by omega)) | (exact decide_eq_false (by omega))]; exact VLe.refl _
          · repeat (first | exact trivial | assumption | omega | exact bd_bs | exact bd_row | exact bd_secs | exact bd_bools | refine ⟨?_, ?_⟩ | fail)
          · intro k hk; exact ble (by first | exact rfl | (refine (upd_ne _ _ _ _ (by omega)).trans ?_; first | exact rfl | skip; repeat (first | exact rfl | refine (upd_ne _ _ _ _ (by omega)).trans ?_ | assumption | exact hf0 _ (by omega) | exact hf1 _ (by omega) | exact hf2 _ (by omega) | exact hf0 _ (by omega) (by first | assumption | omega) | exact hf1 _ (by omega) (by first | assumption | omega))) | exact hf0 _ (by omega) | exact hf1 _ (by omega) | exact hf2 _ (by omega) | exact hf0 _ (by omega) (by first | assumption | omega) | exact hf1 _ (by omega) (by first | assumption | omega))
          · intro p hp; cases hp
      · skip
        refine rl0 (gn rfl) rfl rfl (step_pick rfl (ev_mk rfl) (ev_mk rfl)) trivial ?_
        refine rl0 (gn rfl) rfl rfl (step_mv rfl rfl) trivial ?_
        refine rlk rfl rfl rfl rfl rfl (ngb rfl rfl) rfl rfl ?_
        refine rlk rfl rfl rfl rfl rfl (ngb rfl rfl) rfl rfl ?_
        refine rlk rfl rfl rfl rfl rfl (ngb rfl rfl) rfl rfl ?_
        refine rlk rfl rfl rfl rfl rfl (ngb rfl rfl) rfl rfl ?_
        refine rlk rfl rfl rfl rfl rfl (ngb rfl rfl) rfl rfl ?_
        refine rlk rfl rfl rfl rfl rfl (ngb rfl rfl) rfl rfl ?_
        refine rlk rfl rfl rfl rfl rfl (ngb rfl rfl) rfl rfl ?_
        refine rl0 (gn rfl) rfl rfl (step_pick rfl (ev_mk rfl) (ev_mk rfl)) trivial ?_
        refine rl0 (gn rfl) rfl rfl (step_as rfl rfl) trivial ?_
        refine runsL_nil ?_
        refine runs_ret ?_
        refine ⟨by first | exact .inr rfl | exact .inl rfl, fin_mk (rest rfl res0) ?_ ?_ ?_ ?_⟩
        · rw [show insideB S.length x m = _ from by first | (exact decide_eq_true (by omega)) | (exact decide_eq_false (by omega))]; exact VLe.refl _
        · repeat (first | exact trivial | assumption | omega | exact bd_bs | exact bd_row | exact bd_secs | exact bd_bools | refine ⟨?_, ?_⟩ | fail)
        · intro k hk; exact ble (by first | exact rfl | (refine (upd_ne _ _ _ _ (by omega)).trans ?_; first | exact rfl | skip; repeat (first | exact rfl | refine (upd_ne _ _ _ _ (by omega)).trans ?_ | assumption | exact hf0 _ (by omega) | exact hf1 _ (by omega) | exact hf2 _ (by omega) | exact hf0 _ (by omega) (by first | assumption | omega) | exact hf1 _ (by omega) (by first | assumption | omega))) | exact hf0 _ (by omega) | exact hf1 _ (by omega) | exact hf2 _ (by omega) | exact hf0 _ (by omega) (by first | assumption | omega) | exact hf1 _ (by omega) (by first | assumption | omega))
        · intro p hp; cases hp
    · skip
      refine rl0 (gn rfl) rfl rfl (step_pick rfl (ev_mk rfl) (ev_mk rfl)) trivial ?_
      refine rl0 (gn rfl) rfl rfl (step_mv rfl rfl) trivial ?_
      refine rlk rfl rfl rfl rfl rfl (ngb rfl rfl) rfl rfl ?_
      refine rlk rfl rfl rfl rfl rfl (ngb rfl rfl) rfl rfl ?_
      refine rl0 (gn rfl) rfl rfl (step_pick rfl (ev_mk rfl) (ev_mk rfl)) trivial ?_
      refine rl0 (gn rfl) rfl rfl (step_mv rfl rfl) trivial ?_
      refine rlk rfl rfl rfl rfl rfl (ngb rfl rfl) rfl rfl ?_
      refine rlk rfl rfl rfl rfl rfl (ngb rfl rfl) rfl rfl ?_
      refine rlk rfl rfl rfl rfl rfl (ngb rfl rfl) rfl rfl ?_
      refine rlk rfl rfl rfl rfl rfl (ngb rfl rfl) rfl rfl ?_
      refine rlk rfl rfl rfl rfl rfl (ngb rfl rfl) rfl rfl ?_
      refine rlk rfl rfl rfl rfl rfl (ngb rfl rfl) rfl rfl ?_
      refine rlk rfl rfl rfl rfl rfl (ngb rfl rfl) rfl rfl ?_
      refine rl0 (gn rfl) rfl rfl (step_pick rfl (ev_mk rfl) (ev_mk rfl)) trivial ?_
      refine rl0 (gn rfl) rfl rfl (step_as rfl rfl) trivial ?_
      refine runsL_nil ?_
      refine runs_ret ?_
      refine ⟨by first | exact .inr rfl | exact .inl rfl, fin_mk (rest rfl res0) ?_ ?_ ?_ ?_⟩
      · rw [show insideB S.length x m = _ from by first | (exact decide_eq_true (by omega)) | (exact decide_eq_false (by omega))]; exact VLe.refl _
      · repeat (first | exact trivial | assumption | omega | exact bd_bs | exact bd_row | exact bd_secs | exact bd_bools | refine ⟨?_, ?_⟩ | fail)
      · intro k hk; exact ble (by first | exact rfl | (refine (upd_ne _ _ _ _ (by omega)).trans ?_; first | exact rfl | skip; repeat (first | exact rfl | refine (upd_ne _ _ _ _ (by omega)).trans ?_ | assumption | exact hf0 _ (by omega) | exact hf1 _ (by omega) | exact hf2 _ (by omega) | exact hf0 _ (by omega) (by first | assumption | omega) | exact hf1 _ (by omega) (by first | assumption | omega))) | exact hf0 _ (by omega) | exact hf1 _ (by omega) | exact hf2 _ (by omega) | exact hf0 _ (by omega) (by first | assumption | omega) | exact hf1 _ (by omega) (by first | assumption | omega))
      · intro p hp; cases hp
  · skip
    refine rl0 (gn rfl) rfl rfl (step_mv rfl rfl) trivial ?_
    refine rlk rfl rfl rfl rfl rfl (ngb rfl rfl) rfl rfl ?_
    refine rlk rfl rfl rfl rfl rfl (ngb rfl rfl) rfl rfl ?_
    refine rlk rfl rfl rfl rfl rfl (ngb rfl rfl) rfl rfl ?_
    refine rlk rfl rfl rfl rfl rfl (ngb rfl rfl) rfl rfl ?_
    refine rlk rfl rfl rfl rfl rfl (ngb rfl rfl) rfl rfl ?_
    refine rl0 (gn rfl) rfl rfl (step_pick rfl (ev_mk rfl) (ev_mk rfl)) trivial ?_
    refine rl0 (gn rfl) rfl rfl (step_mv rfl rfl) trivial ?_
    refine rlk rfl rfl rfl rfl rfl (ngb rfl rfl) rfl rfl ?_
    refine rlk rfl rfl rfl rfl rfl (ngb rfl rfl) rfl rfl ?_
    refine rl0 (gn rfl) rfl rfl (step_pick rfl (ev_mk rfl) (ev_mk rfl)) trivial ?_
    refine rl0 (gn rfl) rfl rfl (step_mv rfl rfl) trivial ?_
    refine rlk rfl rfl rfl rfl rfl (ngb rfl rfl) rfl rfl ?_
    refine rlk rfl rfl rfl rfl rfl (ngb rfl rfl) rfl rfl ?_
    refine rlk rfl rfl rfl rfl rfl (ngb rfl rfl) rfl rfl ?_
    refine rlk rfl rfl rfl rfl rfl (ngb rfl rfl) rfl rfl ?_
    refine rlk rfl rfl rfl rfl rfl (ngb rfl rfl) rfl rfl ?_
    refine rlk rfl rfl rfl rfl rfl (ngb rfl rfl) rfl rfl ?_
    refine rlk rfl rfl rfl rfl rfl (ngb rfl rfl) rfl rfl ?_
    refine rl0 (gn rfl) rfl rfl (step_pick rfl (ev_mk rfl) (ev_mk rfl)) trivial ?_
    refine rl0 (gn rfl) rfl rfl (step_as rfl rfl) trivial ?_
    refine runsL_nil ?_
    refine runs_ret ?_
    refine ⟨by first | exact .inr rfl | exact .inl rfl, fin_mk (rest rfl res0) ?_ ?_ ?_ ?_⟩
    · rw [show insideB S.length x m = _ from by first | (exact decide_eq_true (by omega)) | (exact decide_eq_false (by omega))]; exact VLe.refl _
    · repeat (first | exact trivial | assumption | omega | exact bd_bs | exact bd_row | exact bd_secs | exact bd_bools | refine ⟨?_, ?_⟩ | fail)
    · intro k hk; exact ble (by first | exact rfl | (refine (upd_ne _ _ _ _ (by omega)).trans ?_; first | exact rfl | skip; repeat (first | exact rfl | refine (upd_ne _ _ _ _ (by omega)).trans ?_ | assumption | exact hf0 _ (by omega) | exact hf1 _ (by omega) | exact hf2 _ (by omega) | exact hf0 _ (by omega) (by first | assumption | omega) | exact hf1 _ (by omega) (by first | assumption | omega))) | exact hf0 _ (by omega) | exact hf1 _ (by omega) | exact hf2 _ (by omega) | exact hf0 _ (by omega) (by first | assumption | omega) | exact hf1 _ (by omega) (by first | assumption | omega))
    · intro p hp; cases hp
theorem rinside_q (S : List (List Int)) (w f : Int) (kp : List Bool) (dn : Bool) (hL : S.length ≤ 1000000) (x m : Int) (hx : -9223372036854775808 ≤ x ∧ x ≤ 9223372036854775807) (hm : -9223372036854775808 ≤ m ∧ m ≤ 9223372036854775807) (q : Bool) (h : insideB S.length x m = q) : Does Try.prog 28 [.agg [.sl 64 (secsV (S)), .sc (.int .i64 (w)), .sc (.int .i64 (f)), .sl 1 (boolsV (kp)), .sc (.bool (dn))], .sc (.int .i64 x), .sc (.int .i64 m)] [] [] (.sc (.bool q)) := h ▸ rinside_c S w f kp dn hL x m hx hm
def keptB (f : Int) (kp : List Bool) (i : Nat) : Bool := decide (f ≠ 0) || kp.getD i false
theorem kept_t {f : Int} {kp : List Bool} {i : Nat} (h : ¬ f = 0) : keptB f kp i = true := by simp [keptB, h]
theorem kept_g {f : Int} {kp : List Bool} {i : Nat} (h : f = 0) (hl : i < kp.length) : keptB f kp i = at' kp (i : Int) := by rw [at_nat _ _ hl]; simp [keptB, h, List.getD_eq_getElem?_getD, List.getElem?_eq_getElem hl]
theorem kept_f {f : Int} {kp : List Bool} {i : Nat} (h : f = 0) (hl : ¬ i < kp.length) : keptB f kp i = false := by simp [keptB, h, List.getD_eq_getElem?_getD, List.getElem?_eq_none (Nat.le_of_not_lt hl)]
set_option maxRecDepth 100000 in
set_option maxHeartbeats 4000000 in
theorem kept_c (S : List (List Int)) (w f : Int) (kp : List Bool) (dn : Bool) (i : Nat) (q : Bool) (hq : keptB f kp i = q) : Does Try.prog 29 [.agg [.sl 64 (secsV (S)), .sc (.int .i64 (w)), .sc (.int .i64 (f)), .sl 1 (boolsV (kp)), .sc (.bool (dn))], .sc (.int .i64 i)] [] [] (.sc (.bool q)) := by
  refine does_mk 20 Try.func29 rfl rfl rfl (fun n B bx hd hpre hup hvs hbx => ?_)
  refine runs_seq ?_
  refine runs_region ?_
  first | refine rl1 (gn rfl) rfl rfl (step_box_agg (k := n + 0) rfl rfl) ⟨by repeat (first | exact upd_eq _ _ _ | refine (upd_ne _ _ _ _ (by omega)).trans ?_ | assumption | exact hd _ (by omega) | exact hd0 _ (by omega) | exact hd1 _ (by omega) | exact hd2 _ (by omega) | fail), trivial⟩ (by omega) ?_ | refine rl1 (gn rfl) rfl rfl (step_box_one (k := n + 0) rfl rfl rfl rfl) ⟨by repeat (first | exact upd_eq _ _ _ | refine (upd_ne _ _ _ _ (by omega)).trans ?_ | assumption | exact hd _ (by omega) | exact hd0 _ (by omega) | exact hd1 _ (by omega) | exact hd2 _ (by omega) | fail), trivial⟩ (by omega) ?_
  refine rl0 (gn rfl) rfl rfl (step_as rfl rfl) trivial ?_
  refine runsL_nil ?_
  refine runs_seq ?_
  refine runs_region ?_
  first | refine rl0 (gn rfl) rfl rfl (step_fieldAddr (off := 2) rfl (ev_mk rfl) Try.underlying32 rfl F.sz3 rfl) trivial ?_ | refine rl0 (gn rfl) rfl rfl (step_fieldAddr_ro (off := 2) rfl (ev_mk rfl) Try.underlying32 rfl F.sz3 rfl rfl) trivial ?_
  first
    | (refine' rl0 (gn rfl) rfl rfl (step_load_one rfl (ev_mk rfl) F.one3 ?hv) ⟨?hb, trivial⟩ ?_; (case hb => repeat (first | exact upd_eq _ _ _ | refine (upd_ne _ _ _ _ (by omega)).trans ?_ | assumption | exact hd _ (by omega) | exact hd0 _ (by omega) | exact hd1 _ (by omega) | exact hd2 _ (by omega) | fail)); (case hv => exact rfl))
    | (refine rl0 (gn rfl) rfl rfl (step_load_ro rfl (ev_mk rfl) F.one3 rfl) trivial ?_)
  refine rl_neq (gn rfl) rfl rfl rfl rfl rfl (fun h1 => ?_) (fun h1 => ?_)
  · skip
    refine rl0 (gn rfl) rfl rfl (step_mv rfl rfl) trivial ?_
    refine rlk rfl rfl rfl rfl rfl (ngb rfl rfl) rfl rfl ?_
    refine rlk rfl rfl rfl rfl rfl (ngb rfl rfl) rfl rfl ?_
    refine rlk rfl rfl rfl rfl rfl (ngb rfl rfl) rfl rfl ?_
    refine rlk rfl rfl rfl rfl rfl (ngb rfl rfl) rfl rfl ?_
    refine rlk rfl rfl rfl rfl rfl (ngb rfl rfl) rfl rfl ?_
    refine rlk rfl rfl rfl rfl rfl (ngb rfl rfl) rfl rfl ?_
    refine rlk rfl rfl rfl rfl rfl (ngu rfl) rfl rfl ?_
    refine rlk rfl rfl rfl rfl rfl (ngu rfl) rfl rfl ?_
    refine rlk rfl rfl rfl rfl rfl (ngu rfl) rfl rfl ?_
    refine rlk rfl rfl rfl rfl rfl (ngu rfl) rfl rfl ?_
    refine rlk rfl rfl rfl rfl rfl (ngu rfl) rfl rfl ?_
    refine rlk rfl rfl rfl rfl rfl (ngb rfl rfl) rfl rfl ?_
    refine rl0 (gn rfl) rfl rfl (step_pick rfl (ev_mk rfl) (ev_mk rfl)) trivial ?_
    refine rl0 (gn rfl) rfl rfl (step_as rfl rfl) trivial ?_
    refine runsL_nil ?_
    refine runs_ret ?_
    refine ⟨by first | exact .inr rfl | exact .inl rfl, fin_mk (rest rfl res0) ?_ ?_ ?_ ?_⟩
    · (refine vle_bool ?_; subst hq; first | (refine (kept_t ?_).symm; assumption) | (refine (kept_g ?_ ?_).symm; assumption; omega) | (refine (kept_f ?_ ?_).symm; assumption; omega))
    · repeat (first | exact trivial | assumption | omega | exact bd_bs | exact bd_row | exact bd_secs | exact bd_bools | refine ⟨?_, ?_⟩ | fail)
    · intro k hk; exact ble (by first | exact rfl | (refine (upd_ne _ _ _ _ (by omega)).trans ?_; first | exact rfl | skip; repeat (first | exact rfl | refine (upd_ne _ _ _ _ (by omega)).trans ?_ | assumption | exact hf0 _ (by omega) | exact hf1 _ (by omega) | exact hf2 _ (by omega) | exact hf0 _ (by omega) (by first | assumption | omega) | exact hf1 _ (by omega) (by first | assumption | omega))) | exact hf0 _ (by omega) | exact hf1 _ (by omega) | exact hf2 _ (by omega) | exact hf0 _ (by omega) (by first | assumption | omega) | exact hf1 _ (by omega) (by first | assumption | omega))
    · intro p hp; cases hp
  · skip
    refine rl0 (gn rfl) rfl rfl (step_mv rfl rfl) trivial ?_
    refine rl0 (gy rfl rfl rfl rfl rfl rfl) rfl rfl (step_mv rfl rfl) trivial ?_
    first | refine rl0 (gy rfl rfl rfl rfl rfl rfl) rfl rfl (step_fieldAddr (off := 3) rfl (ev_mk rfl) Try.underlying32 rfl F.sz30 rfl) trivial ?_ | refine rl0 (gy rfl rfl rfl rfl rfl rfl) rfl rfl (step_fieldAddr_ro (off := 3) rfl (ev_mk rfl) Try.underlying32 rfl F.sz30 rfl rfl) trivial ?_
    first
      | (refine' rl0 (gy rfl rfl rfl rfl rfl rfl) rfl rfl (step_load_one rfl (ev_mk rfl) F.one30 ?hv) ⟨?hb, trivial⟩ ?_; (case hb => repeat (first | exact upd_eq _ _ _ | refine (upd_ne _ _ _ _ (by omega)).trans ?_ | assumption | exact hd _ (by omega) | exact hd0 _ (by omega) | exact hd1 _ (by omega) | exact hd2 _ (by omega) | fail)); (case hv => exact rfl))
      | (refine rl0 (gy rfl rfl rfl rfl rfl rfl) rfl rfl (step_load_ro rfl (ev_mk rfl) F.one30 rfl) trivial ?_)
    first
      | refine rl0 (gy rfl rfl rfl rfl rfl rfl) rfl rfl (step_len rfl rfl (ev_mk rfl) (.inl ⟨⟨_, Try.underlying30⟩, .inl ⟨_, _, .inl rfl, List.length_map _⟩⟩)) trivial ?_
      | refine rl0 (gy rfl rfl rfl rfl rfl rfl) rfl rfl (step_len rfl rfl (ev_mk rfl) (.inl ⟨⟨_, Try.underlying30⟩, .inl ⟨_, _, .inl rfl, rfl⟩⟩)) trivial ?_
      | refine rl0 (gy rfl rfl rfl rfl rfl rfl) rfl rfl (step_len rfl rfl (ev_mk rfl) (.inl ⟨⟨_, Try.underlying30⟩, .inl ⟨_, _, .inr (.inl rfl), List.length_map _⟩⟩)) trivial ?_
      | refine rl0 (gy rfl rfl rfl rfl rfl rfl) rfl rfl (step_len rfl rfl (ev_mk rfl) (.inl ⟨⟨_, Try.underlying30⟩, .inl ⟨_, _, .inr (.inl rfl), rfl⟩⟩)) trivial ?_
      | refine rl0 (gy rfl rfl rfl rfl rfl rfl) rfl rfl (step_len rfl rfl (ev_mk rfl) (.inl ⟨⟨_, Try.underlying30⟩, .inl ⟨_, _, .inr (.inr ⟨_, rfl⟩), List.length_map _⟩⟩)) trivial ?_
      | refine rl0 (gy rfl rfl rfl rfl rfl rfl) rfl rfl (step_len rfl rfl (ev_mk rfl) (.inl ⟨⟨_, Try.underlying30⟩, .inl ⟨_, _, .inr (.inr ⟨_, rfl⟩), rfl⟩⟩)) trivial ?_
      | refine rl0 (gy rfl rfl rfl rfl rfl rfl) rfl rfl (step_len rfl rfl (ev_mk rfl) (.inl ⟨⟨_, Try.underlying30⟩, .inr (.inl ⟨_, _, _, _, rfl⟩)⟩)) trivial ?_
      | refine rl0 (gy rfl rfl rfl rfl rfl rfl) rfl rfl (step_len (m := 0) rfl rfl (ev_mk rfl) (.inl ⟨⟨_, Try.underlying30⟩, .inr (.inr ⟨_, _, rfl⟩)⟩)) trivial ?_
    refine rl_lss (gy rfl rfl rfl rfl rfl rfl) rfl rfl rfl rfl rfl (fun h2 => ?_) (fun h2 => ?_)
    · skip
      refine rl0 (gy rfl rfl rfl rfl rfl rfl) rfl rfl (step_mv rfl rfl) trivial ?_
      first | refine rl0 (gy rfl rfl rfl rfl rfl rfl) rfl rfl (step_fieldAddr (off := 3) rfl (ev_mk rfl) Try.underlying32 rfl F.sz30 rfl) trivial ?_ | refine rl0 (gy rfl rfl rfl rfl rfl rfl) rfl rfl (step_fieldAddr_ro (off := 3) rfl (ev_mk rfl) Try.underlying32 rfl F.sz30 rfl rfl) trivial ?_
      first
        | (refine' rl0 (gy rfl rfl rfl rfl rfl rfl) rfl rfl (step_load_one rfl (ev_mk rfl) F.one30 ?hv) ⟨?hb, trivial⟩ ?_; (case hb => repeat (first | exact upd_eq _ _ _ | refine (upd_ne _ _ _ _ (by omega)).trans ?_ | assumption | exact hd _ (by omega) | exact hd0 _ (by omega) | exact hd1 _ (by omega) | exact hd2 _ (by omega) | fail)); (case hv => exact rfl))
        | (refine rl0 (gy rfl rfl rfl rfl rfl rfl) rfl rfl (step_load_ro rfl (ev_mk rfl) F.one30 rfl) trivial ?_)
      refine rl0 (gy rfl rfl rfl rfl rfl rfl) rfl rfl (step_mv rfl rfl) trivial ?_
      first
        | (refine' rl0 (gy rfl rfl rfl rfl rfl rfl) rfl rfl (step_index rfl (ev_mk rfl) (.inl rfl) (ev_mk rfl) Try.underlying30 F.sz4 (by omega) ?hr) trivial ?_; (case hr => exact map_at _ _ _ (by omega) (by omega)))
        | (refine' rl0 (gy rfl rfl rfl rfl rfl rfl) rfl rfl (step_index rfl (ev_mk rfl) (.inr (.inl rfl)) (ev_mk rfl) Try.underlying30 F.sz4 (by omega) ?hr) trivial ?_; (case hr => exact map_at _ _ _ (by omega) (by omega)))
        | (refine' rl0 (gy rfl rfl rfl rfl rfl rfl) rfl rfl (step_index rfl (ev_mk rfl) (.inr (.inr ⟨_, rfl⟩)) (ev_mk rfl) Try.underlying30 F.sz4 (by omega) ?hr) trivial ?_; (case hr => exact map_at _ _ _ (by omega) (by omega)))
        | (refine rl0 (gy rfl rfl rfl rfl rfl rfl) rfl rfl (step_index_msl rfl (ev_mk rfl) (ev_mk rfl) Try.underlying30 F.sz4 (by omega) (by omega)) trivial ?_)
      first
        | (refine' rl0 (gy rfl rfl rfl rfl rfl rfl) rfl rfl (step_load_one rfl (ev_mk rfl) F.one4 ?hv) ⟨?hb, trivial⟩ ?_; (case hb => repeat (first | exact upd_eq _ _ _ | refine (upd_ne _ _ _ _ (by omega)).trans ?_ | assumption | exact hd _ (by omega) | exact hd0 _ (by omega) | exact hd1 _ (by omega) | exact hd2 _ (by omega) | fail)); (case hv => exact rfl))
        | (refine rl0 (gy rfl rfl rfl rfl rfl rfl) rfl rfl (step_load_ro rfl (ev_mk rfl) F.one4 rfl) trivial ?_)
      refine rl0 (gy rfl rfl rfl rfl rfl rfl) rfl rfl (step_pick rfl (ev_mk rfl) (ev_mk rfl)) trivial ?_
      refine rl0 (gn rfl) rfl rfl (step_pick rfl (ev_mk rfl) (ev_mk rfl)) trivial ?_
      refine rl0 (gn rfl) rfl rfl (step_as rfl rfl) trivial ?_
      refine runsL_nil ?_
      refine runs_ret ?_
      refine ⟨by first | exact .inr rfl | exact .inl rfl, fin_mk (rest rfl res0) ?_ ?_ ?_ ?_⟩
      · (refine vle_bool ?_; subst hq; first | (refine (kept_t ?_).symm; assumption) | (refine (kept_g ?_ ?_).symm; assumption; omega) | (refine (kept_f ?_ ?_).symm; assumption; omega))
      · repeat (first | exact trivial | assumption | omega | exact bd_bs | exact bd_row | exact bd_secs | exact bd_bools | refine ⟨?_, ?_⟩ | fail)
      · intro k hk; exact ble (by first | exact rfl | (refine (upd_ne _ _ _ _ (by omega)).trans ?_; first | exact rfl | skip; repeat (first | exact rfl | refine (upd_ne _ _ _ _ (by omega)).trans ?_ | assumption | exact hf0 _ (by omega) | exact hf1 _ (by omega) | exact hf2 _ (by omega) | exact hf0 _ (by omega) (by first | assumption | omega) | exact hf1 _ (by omega) (by first | assumption | omega))) | exact hf0 _ (by omega) | exact hf1 _ (by omega) | exact hf2 _ (by omega) | exact hf0 _ (by omega) (by first | assumption | omega) | exact hf1 _ (by omega) (by first | assumption | omega))
      · intro p hp; cases hp
    · skip
      refine rl0 (gy rfl rfl rfl rfl rfl rfl) rfl rfl (step_mv rfl rfl) trivial ?_
      refine rlk rfl rfl rfl rfl rfl (ngb rfl rfl) rfl rfl ?_
      refine rlk rfl rfl rfl rfl rfl (ngb rfl rfl) rfl rfl ?_
      refine rlk rfl rfl rfl rfl rfl (ngb rfl rfl) rfl rfl ?_
      refine rlk rfl rfl rfl rfl rfl (ngb rfl rfl) rfl rfl ?_
      refine rlk rfl rfl rfl rfl rfl (ngb rfl rfl) rfl rfl ?_
      refine rl0 (gy rfl rfl rfl rfl rfl rfl) rfl rfl (step_pick rfl (ev_mk rfl) (ev_mk rfl)) trivial ?_
      refine rl0 (gn rfl) rfl rfl (step_pick rfl (ev_mk rfl) (ev_mk rfl)) trivial ?_
      refine rl0 (gn rfl) rfl rfl (step_as rfl rfl) trivial ?_
      refine runsL_nil ?_
      refine runs_ret ?_
      refine ⟨by first | exact .inr rfl | exact .inl rfl, fin_mk (rest rfl res0) ?_ ?_ ?_ ?_⟩
      · (refine vle_bool ?_; subst hq; first | (refine (kept_t ?_).symm; assumption) | (refine (kept_g ?_ ?_).symm; assumption; omega) | (refine (kept_f ?_ ?_).symm; assumption; omega))
      · repeat (first | exact trivial | assumption | omega | exact bd_bs | exact bd_row | exact bd_secs | exact bd_bools | refine ⟨?_, ?_⟩ | fail)
      · intro k hk; exact ble (by first | exact rfl | (refine (upd_ne _ _ _ _ (by omega)).trans ?_; first | exact rfl | skip; repeat (first | exact rfl | refine (upd_ne _ _ _ _ (by omega)).trans ?_ | assumption | exact hf0 _ (by omega) | exact hf1 _ (by omega) | exact hf2 _ (by omega) | exact hf0 _ (by omega) (by first | assumption | omega) | exact hf1 _ (by omega) (by first | assumption | omega))) | exact hf0 _ (by omega) | exact hf1 _ (by omega) | exact hf2 _ (by omega) | exact hf0 _ (by omega) (by first | assumption | omega) | exact hf1 _ (by omega) (by first | assumption | omega))
      · intro p hp; cases hp
set_option maxRecDepth 100000 in
set_option maxHeartbeats 4000000 in
theorem rfuse_c (S : List (List Int)) (w f : Int) (kp : List Bool) (dn : Bool) (m : Int) (kq : List Bool) : Does Try.prog 25 [.agg [.sl 64 (secsV (S)), .sc (.int .i64 (w)), .sc (.int .i64 (f)), .sl 1 (boolsV (kp)), .sc (.bool (dn))], .sc (.int .i64 m), .sl 1 (boolsV kq)] [] [] (.agg [.sl 64 (secsV (S)), .sc (.int .i64 (w)), .sc (.int .i64 (if -1 > m then -1 else m)), .sl 1 (boolsV (kq)), .sc (.bool (dn))]) := by
  refine does_mk 20 Try.func25 rfl rfl rfl (fun n B bx hd hpre hup hvs hbx => ?_)
  refine runs_seq ?_
  refine runs_region ?_
  first | refine rl1 (gn rfl) rfl rfl (step_box_agg (k := n + 0) rfl rfl) ⟨by repeat (first | exact upd_eq _ _ _ | refine (upd_ne _ _ _ _ (by omega)).trans ?_ | assumption | exact hd _ (by omega) | exact hd0 _ (by omega) | exact hd1 _ (by omega) | exact hd2 _ (by omega) | fail), trivial⟩ (by omega) ?_ | refine rl1 (gn rfl) rfl rfl (step_box_one (k := n + 0) rfl rfl rfl rfl) ⟨by repeat (first | exact upd_eq _ _ _ | refine (upd_ne _ _ _ _ (by omega)).trans ?_ | assumption | exact hd _ (by omega) | exact hd0 _ (by omega) | exact hd1 _ (by omega) | exact hd2 _ (by omega) | fail), trivial⟩ (by omega) ?_
  refine rl1 (gn rfl) rfl rfl (step_allocc (k := n + 1) (zs := [.slice none 0 0, .int .i64 0, .int .i64 0, .slice none 0 0, .bool false]) (cs := [.sc (.slice none 0 0), .sc (.int .i64 0), .sc (.int .i64 0), .sc (.slice none 0 0), .sc (.bool false)]) rfl F.zero32 (by first | rfl | simp) (by first | rfl | decide | simp) (by first | rfl | simp)) ⟨by repeat (first | exact upd_eq _ _ _ | refine (upd_ne _ _ _ _ (by omega)).trans ?_ | assumption | exact hd _ (by omega) | exact hd0 _ (by omega) | exact hd1 _ (by omega) | exact hd2 _ (by omega) | fail), trivial⟩ (by omega) ?_
  refine runsL_nil ?_
  refine runs_seq ?_
  refine runs_region ?_
  first
    | (refine' rl0 (gn rfl) rfl rfl (step_load_all rfl rfl F.agg32 ?hl) ⟨?hb, trivial⟩ ?_; (case hb => repeat (first | exact upd_eq _ _ _ | refine (upd_ne _ _ _ _ (by omega)).trans ?_ | assumption | exact hd _ (by omega) | exact hd0 _ (by omega) | exact hd1 _ (by omega) | exact hd2 _ (by omega) | fail)); (case hl => first | rfl | (simp; done) | (simp; omega)))
    | (refine rl0 (gn rfl) rfl rfl (step_load_ro_all rfl rfl F.agg32 (by first | rfl | (simp; done) | (simp; omega))) trivial ?_)
    | (refine' rl0 (gn rfl) rfl rfl (step_load_agg rfl (ev_mk rfl) F.agg32 ?hc ?hl) ⟨?hb, trivial⟩ ?_; (case hb => repeat (first | exact upd_eq _ _ _ | refine (upd_ne _ _ _ _ (by omega)).trans ?_ | assumption | exact hd _ (by omega) | exact hd0 _ (by omega) | exact hd1 _ (by omega) | exact hd2 _ (by omega) | fail)); (case hc => rfl); (case hl => first | rfl | (simp; done)))
    | (refine rl0 (gn rfl) rfl rfl (step_load_ro_agg rfl (ev_mk rfl) F.agg32 rfl rfl) trivial ?_)
  refine rl1 (gn rfl) rfl rfl (step_allocc (k := n + 2) (zs := [.slice none 0 0, .int .i64 0, .int .i64 0, .slice none 0 0, .bool false]) (cs := [.sc (.slice none 0 0), .sc (.int .i64 0), .sc (.int .i64 0), .sc (.slice none 0 0), .sc (.bool false)]) rfl F.zero32 (by first | rfl | simp) (by first | rfl | decide | simp) (by first | rfl | simp)) ⟨by repeat (first | exact upd_eq _ _ _ | refine (upd_ne _ _ _ _ (by omega)).trans ?_ | assumption | exact hd _ (by omega) | exact hd0 _ (by omega) | exact hd1 _ (by omega) | exact hd2 _ (by omega) | fail), trivial⟩ (by omega) ?_
  first
    | (refine' rls (gn rfl) rfl (step_storeA rfl rfl rfl rfl F.agg32 ?hm ?hl) ⟨?hb, trivial⟩ ?hk ?_; (case hb => repeat (first | exact upd_eq _ _ _ | refine (upd_ne _ _ _ _ (by omega)).trans ?_ | assumption | exact hd _ (by omega) | exact hd0 _ (by omega) | exact hd1 _ (by omega) | exact hd2 _ (by omega) | fail)); (case hm => first | rfl | (simp; done) | (simp; omega)); (case hl => first | rfl | (simp; done) | (simp; omega)); (case hk => omega))
    | (refine' rls (gn rfl) rfl (step_storeS rfl rfl rfl rfl F.agg32 ?hm ?hl ?hc) ⟨?hb, trivial⟩ ?hk ?_; (case hb => repeat (first | exact upd_eq _ _ _ | refine (upd_ne _ _ _ _ (by omega)).trans ?_ | assumption | exact hd _ (by omega) | exact hd0 _ (by omega) | exact hd1 _ (by omega) | exact hd2 _ (by omega) | fail)); (case hm => first | rfl | (simp; done) | (simp; omega)); (case hl => first | decide | (simp; done) | (simp; omega)); (case hc => rfl); (case hk => omega))
  refine runsL_nil ?_
  refine runs_seq ?_
  refine runs_region ?_
  refine rl0 (gn rfl) rfl rfl (step_mv rfl rfl) trivial ?_
  first | refine rl0 (gn rfl) rfl rfl (step_fieldAddr (off := 2) rfl (ev_mk rfl) Try.underlying32 rfl F.sz3 rfl) trivial ?_ | refine rl0 (gn rfl) rfl rfl (step_fieldAddr_ro (off := 2) rfl (ev_mk rfl) Try.underlying32 rfl F.sz3 rfl rfl) trivial ?_
  refine' rls (gn rfl) rfl (step_store1 rfl rfl rfl rfl F.one3 rfl rfl ?hl ?hc) ⟨?hb, trivial⟩ ?hk ?_
  case hb => repeat (first | exact upd_eq _ _ _ | refine (upd_ne _ _ _ _ (by omega)).trans ?_ | assumption | exact hd _ (by omega) | exact hd0 _ (by omega) | exact hd1 _ (by omega) | exact hd2 _ (by omega) | fail)
  case hl => first | decide | (simp; done) | (simp; omega) | (simp; omega)
  case hc => first | (simp only [List.set_cons_succ, List.set_cons_zero]; rfl) | rfl
  case hk => omega
  refine runsL_nil ?_
  refine runs_seq ?_
  refine runs_seq ?_
  refine runs_region ?_
  refine rl0 (gn rfl) rfl rfl (step_mv rfl rfl) trivial ?_
  refine rl_lss (gn rfl) rfl rfl rfl rfl rfl (fun h1 => ?_) (fun h1 => ?_)
  · skip
    refine runsL_nil ?_
    refine runs_cond true (ev_mk rfl) (fun _ => ?_) (fun h_ => nomatch h_)
    refine runs_region ?_
    first | refine rl0 (gn rfl) rfl rfl (step_fieldAddr (off := 2) rfl (ev_mk rfl) Try.underlying32 rfl F.sz3 rfl) trivial ?_ | refine rl0 (gn rfl) rfl rfl (step_fieldAddr_ro (off := 2) rfl (ev_mk rfl) Try.underlying32 rfl F.sz3 rfl rfl) trivial ?_
    refine' rls (gn rfl) rfl (step_store1 rfl rfl rfl rfl F.one3 rfl rfl ?hl ?hc) ⟨?hb, trivial⟩ ?hk ?_
    case hb => repeat (first | exact upd_eq _ _ _ | refine (upd_ne _ _ _ _ (by omega)).trans ?_ | assumption | exact hd _ (by omega) | exact hd0 _ (by omega) | exact hd1 _ (by omega) | exact hd2 _ (by omega) | fail)
    case hl => first | decide | (simp; done) | (simp; omega) | (simp; omega)
    case hc => first | (simp only [List.set_cons_succ, List.set_cons_zero]; rfl) | rfl
    case hk => omega
    refine runsL_nil ?_
    refine runs_seq ?_
    refine runs_region ?_
    refine rl0 (gn rfl) rfl rfl (step_mv rfl rfl) trivial ?_
    first | refine rl0 (gn rfl) rfl rfl (step_fieldAddr (off := 3) rfl (ev_mk rfl) Try.underlying32 rfl F.sz30 rfl) trivial ?_ | refine rl0 (gn rfl) rfl rfl (step_fieldAddr_ro (off := 3) rfl (ev_mk rfl) Try.underlying32 rfl F.sz30 rfl rfl) trivial ?_
    refine' rls (gn rfl) rfl (step_store1 rfl rfl rfl rfl F.one30 rfl rfl ?hl ?hc) ⟨?hb, trivial⟩ ?hk ?_
    case hb => repeat (first | exact upd_eq _ _ _ | refine (upd_ne _ _ _ _ (by omega)).trans ?_ | assumption | exact hd _ (by omega) | exact hd0 _ (by omega) | exact hd1 _ (by omega) | exact hd2 _ (by omega) | fail)
    case hl => first | decide | (simp; done) | (simp; omega) | (simp; omega)
    case hc => first | (simp only [List.set_cons_succ, List.set_cons_zero]; rfl) | rfl
    case hk => omega
    refine runsL_nil ?_
    refine runs_seq ?_
    refine runs_region ?_
    first
      | (refine' rl0 (gn rfl) rfl rfl (step_load_all rfl rfl F.agg32 ?hl) ⟨?hb, trivial⟩ ?_; (case hb => repeat (first | exact upd_eq _ _ _ | refine (upd_ne _ _ _ _ (by omega)).trans ?_ | assumption | exact hd _ (by omega) | exact hd0 _ (by omega) | exact hd1 _ (by omega) | exact hd2 _ (by omega) | fail)); (case hl => first | rfl | (simp; done) | (simp; omega)))
      | (refine rl0 (gn rfl) rfl rfl (step_load_ro_all rfl rfl F.agg32 (by first | rfl | (simp; done) | (simp; omega))) trivial ?_)
      | (refine' rl0 (gn rfl) rfl rfl (step_load_agg rfl (ev_mk rfl) F.agg32 ?hc ?hl) ⟨?hb, trivial⟩ ?_; (case hb => repeat (first | exact upd_eq _ _ _ | refine (upd_ne _ _ _ _ (by omega)).trans ?_ | assumption | exact hd _ (by omega) | exact hd0 _ (by omega) | exact hd1 _ (by omega) | exact hd2 _ (by omega) | fail)); (case hc => rfl); (case hl => first | rfl | (simp; done)))
      | (refine rl0 (gn rfl) rfl rfl (step_load_ro_agg rfl (ev_mk rfl) F.agg32 rfl rfl) trivial ?_)
    first
      | (refine' rls (gn rfl) rfl (step_storeA rfl rfl rfl rfl F.agg32 ?hm ?hl) ⟨?hb, trivial⟩ ?hk ?_; (case hb => repeat (first | exact upd_eq _ _ _ | refine (upd_ne _ _ _ _ (by omega)).trans ?_ | assumption | exact hd _ (by omega) | exact hd0 _ (by omega) | exact hd1 _ (by omega) | exact hd2 _ (by omega) | fail)); (case hm => first | rfl | (simp; done) | (simp; omega)); (case hl => first | rfl | (simp; done) | (simp; omega)); (case hk => omega))
      | (refine' rls (gn rfl) rfl (step_storeS rfl rfl rfl rfl F.agg32 ?hm ?hl ?hc) ⟨?hb, trivial⟩ ?hk ?_; (case hb => repeat (first | exact upd_eq _ _ _ | refine (upd_ne _ _ _ _ (by omega)).trans ?_ | assumption | exact hd _ (by omega) | exact hd0 _ (by omega) | exact hd1 _ (by omega) | exact hd2 _ (by omega) | fail)); (case hm => first | rfl | (simp; done) | (simp; omega)); (case hl => first | decide | (simp; done) | (simp; omega)); (case hc => rfl); (case hk => omega))
    refine runsL_nil ?_
    refine runs_ret ?_
    refine ⟨by first | exact .inr rfl | exact .inl rfl, fin_mk (resc rfl (by repeat (first | exact upd_eq _ _ _ | refine (upd_ne _ _ _ _ (by omega)).trans ?_ | assumption | exact hd _ (by omega) | exact hd0 _ (by omega) | exact hd1 _ (by omega) | exact hd2 _ (by omega) | fail)) F.agg32 (by first | rfl | (simp; omega)) res0) ?_ ?_ ?_ ?_⟩
    · split <;> first | exact VLe.refl _ | (rw [show m = -1 by omega]; exact VLe.refl _) | (exfalso; omega)
    · repeat (first | exact trivial | assumption | omega | exact bd_bs | exact bd_row | exact bd_secs | exact bd_bools | refine ⟨?_, ?_⟩ | fail)
    · intro k hk; exact ble (by first | exact rfl | (refine (upd_ne _ _ _ _ (by omega)).trans ?_; first | exact rfl | skip; repeat (first | exact rfl | refine (upd_ne _ _ _ _ (by omega)).trans ?_ | assumption | exact hf0 _ (by omega) | exact hf1 _ (by omega) | exact hf2 _ (by omega) | exact hf0 _ (by omega) (by first | assumption | omega) | exact hf1 _ (by omega) (by first | assumption | omega))) | exact hf0 _ (by omega) | exact hf1 _ (by omega) | exact hf2 _ (by omega) | exact hf0 _ (by omega) (by first | assumption | omega) | exact hf1 _ (by omega) (by first | assumption | omega))
    · intro p hp; cases hp
  · skip
    refine runsL_nil ?_
    refine runs_cond false (ev_mk rfl) (fun h_ => nomatch h_) (fun _ => ?_)
    refine runs_skip ?_
    refine runs_seq ?_
    refine runs_region ?_
    refine rl0 (gn rfl) rfl rfl (step_mv rfl rfl) trivial ?_
    first | refine rl0 (gn rfl) rfl rfl (step_fieldAddr (off := 3) rfl (ev_mk rfl) Try.underlying32 rfl F.sz30 rfl) trivial ?_ | refine rl0 (gn rfl) rfl rfl (step_fieldAddr_ro (off := 3) rfl (ev_mk rfl) Try.underlying32 rfl F.sz30 rfl rfl) trivial ?_
    refine' rls (gn rfl) rfl (step_store1 rfl rfl rfl rfl F.one30 rfl rfl ?hl ?hc) ⟨?hb, trivial⟩ ?hk ?_
    case hb => repeat (first | exact upd_eq _ _ _ | refine (upd_ne _ _ _ _ (by omega)).trans ?_ | assumption | exact hd _ (by omega) | exact hd0 _ (by omega) | exact hd1 _ (by omega) | exact hd2 _ (by omega) | fail)
    case hl => first | decide | (simp; done) | (simp; omega) | (simp; omega)
    case hc => first | (simp only [List.set_cons_succ, List.set_cons_zero]; rfl) | rfl
    case hk => omega
    refine runsL_nil ?_
    refine runs_seq ?_
    refine runs_region ?_
    first
      | (refine' rl0 (gn rfl) rfl rfl (step_load_all rfl rfl F.agg32 ?hl) ⟨?hb, trivial⟩ ?_; (case hb => repeat (first | exact upd_eq _ _ _ | refine (upd_ne _ _ _ _ (by omega)).trans ?_ | assumption | exact hd _ (by omega) | exact hd0 _ (by omega) | exact hd1 _ (by omega) | exact hd2 _ (by omega) | fail)); (case hl => first | rfl | (simp; done) | (simp; omega)))
      | (refine rl0 (gn rfl) rfl rfl (step_load_ro_all rfl rfl F.agg32 (by first | rfl | (simp; done) | (simp; omega))) trivial ?_)
      | (refine' rl0 (gn rfl) rfl rfl (step_load_agg rfl (ev_mk rfl) F.agg32 ?hc ?hl) ⟨?hb, trivial⟩ ?_; (case hb => repeat (first | exact upd_eq _ _ _ | refine (upd_ne _ _ _ _ (by omega)).trans ?_ | assumption | exact hd _ (by omega) | exact hd0 _ (by omega) | exact hd1 _ (by omega) | exact hd2 _ (by omega) | fail)); (case hc => rfl); (case hl => first | rfl | (simp; done)))
      | (refine rl0 (gn rfl) rfl rfl (step_load_ro_agg rfl (ev_mk rfl) F.agg32 rfl rfl) trivial ?_)
    first
      | (refine' rls (gn rfl) rfl (step_storeA rfl rfl rfl rfl F.agg32 ?hm ?hl) ⟨?hb, trivial⟩ ?hk ?_; (case hb => repeat (first | exact upd_eq _ _ _ | refine (upd_ne _ _ _ _ (by omega)).trans ?_ | assumption | exact hd _ (by omega) | exact hd0 _ (by omega) | exact hd1 _ (by omega) | exact hd2 _ (by omega) | fail)); (case hm => first | rfl | (simp; done) | (simp; omega)); (case hl => first | rfl | (simp; done) | (simp; omega)); (case hk => omega))
      | (refine' rls (gn rfl) rfl (step_storeS rfl rfl rfl rfl F.agg32 ?hm ?hl ?hc) ⟨?hb, trivial⟩ ?hk ?_; (case hb => repeat (first | exact upd_eq _ _ _ | refine (upd_ne _ _ _ _ (by omega)).trans ?_ | assumption | exact hd _ (by omega) | exact hd0 _ (by omega) | exact hd1 _ (by omega) | exact hd2 _ (by omega) | fail)); (case hm => first | rfl | (simp; done) | (simp; omega)); (case hl => first | decide | (simp; done) | (simp; omega)); (case hc => rfl); (case hk => omega))
    refine runsL_nil ?_
    refine runs_ret ?_
    refine ⟨by first | exact .inr rfl | exact .inl rfl, fin_mk (resc rfl (by repeat (first | exact upd_eq _ _ _ | refine (upd_ne _ _ _ _ (by omega)).trans ?_ | assumption | exact hd _ (by omega) | exact hd0 _ (by omega) | exact hd1 _ (by omega) | exact hd2 _ (by omega) | fail)) F.agg32 (by first | rfl | (simp; omega)) res0) ?_ ?_ ?_ ?_⟩
    · split <;> first | exact VLe.refl _ | (rw [show m = -1 by omega]; exact VLe.refl _) | (exfalso; omega)
    · repeat (first | exact trivial | assumption | omega | exact bd_bs | exact bd_row | exact bd_secs | exact bd_bools | refine ⟨?_, ?_⟩ | fail)
    · intro k hk; exact ble (by first | exact rfl | (refine (upd_ne _ _ _ _ (by omega)).trans ?_; first | exact rfl | skip; repeat (first | exact rfl | refine (upd_ne _ _ _ _ (by omega)).trans ?_ | assumption | exact hf0 _ (by omega) | exact hf1 _ (by omega) | exact hf2 _ (by omega) | exact hf0 _ (by omega) (by first | assumption | omega) | exact hf1 _ (by omega) (by first | assumption | omega))) | exact hf0 _ (by omega) | exact hf1 _ (by omega) | exact hf2 _ (by omega) | exact hf0 _ (by omega) (by first | assumption | omega) | exact hf1 _ (by omega) (by first | assumption | omega))
    · intro p hp; cases hp
set_option maxRecDepth 100000 in
set_option maxHeartbeats 4000000 in
theorem rup_c (S : List (List Int)) (w f : Int) (kp : List Bool) (dn : Bool) : Does Try.prog 26 [.agg [.sl 64 (secsV (S)), .sc (.int .i64 (w)), .sc (.int .i64 (f)), .sl 1 (boolsV (kp)), .sc (.bool (dn))]] [] [] (.agg [.sl 64 (secsV (S)), .sc (.int .i64 (w)), .sc (.int .i64 (-1)), .sl 1 (boolsV ([])), .sc (.bool (false))]) := by
  refine does_mk 20 Try.func26 rfl rfl rfl (fun n B bx hd hpre hup hvs hbx => ?_)
  refine runs_seq ?_
  refine runs_region ?_
  first | refine rl1 (gn rfl) rfl rfl (step_box_agg (k := n + 0) rfl rfl) ⟨by repeat (first | exact upd_eq _ _ _ | refine (upd_ne _ _ _ _ (by omega)).trans ?_ | assumption | exact hd _ (by omega) | exact hd0 _ (by omega) | exact hd1 _ (by omega) | exact hd2 _ (by omega) | fail), trivial⟩ (by omega) ?_ | refine rl1 (gn rfl) rfl rfl (step_box_one (k := n + 0) rfl rfl rfl rfl) ⟨by repeat (first | exact upd_eq _ _ _ | refine (upd_ne _ _ _ _ (by omega)).trans ?_ | assumption | exact hd _ (by omega) | exact hd0 _ (by omega) | exact hd1 _ (by omega) | exact hd2 _ (by omega) | fail), trivial⟩ (by omega) ?_
  refine rl1 (gn rfl) rfl rfl (step_allocc (k := n + 1) (zs := [.slice none 0 0, .int .i64 0, .int .i64 0, .slice none 0 0, .bool false]) (cs := [.sc (.slice none 0 0), .sc (.int .i64 0), .sc (.int .i64 0), .sc (.slice none 0 0), .sc (.bool false)]) rfl F.zero32 (by first | rfl | simp) (by first | rfl | decide | simp) (by first | rfl | simp)) ⟨by repeat (first | exact upd_eq _ _ _ | refine (upd_ne _ _ _ _ (by omega)).trans ?_ | assumption | exact hd _ (by omega) | exact hd0 _ (by omega) | exact hd1 _ (by omega) | exact hd2 _ (by omega) | fail), trivial⟩ (by omega) ?_
  refine runsL_nil ?_
  refine runs_seq ?_
  refine runs_region ?_
  first
    | (refine' rl0 (gn rfl) rfl rfl (step_load_all rfl rfl F.agg32 ?hl) ⟨?hb, trivial⟩ ?_; (case hb => repeat (first | exact upd_eq _ _ _ | refine (upd_ne _ _ _ _ (by omega)).trans ?_ | assumption | exact hd _ (by omega) | exact hd0 _ (by omega) | exact hd1 _ (by omega) | exact hd2 _ (by omega) | fail)); (case hl => first | rfl | (simp; done) | (simp; omega)))
    | (refine rl0 (gn rfl) rfl rfl (step_load_ro_all rfl rfl F.agg32 (by first | rfl | (simp; done) | (simp; omega))) trivial ?_)
    | (refine' rl0 (gn rfl) rfl rfl (step_load_agg rfl (ev_mk rfl) F.agg32 ?hc ?hl) ⟨?hb, trivial⟩ ?_; (case hb => repeat (first | exact upd_eq _ _ _ | refine (upd_ne _ _ _ _ (by omega)).trans ?_ | assumption | exact hd _ (by omega) | exact hd0 _ (by omega) | exact hd1 _ (by omega) | exact hd2 _ (by omega) | fail)); (case hc => rfl); (case hl => first | rfl | (simp; done)))
    | (refine rl0 (gn rfl) rfl rfl (step_load_ro_agg rfl (ev_mk rfl) F.agg32 rfl rfl) trivial ?_)
  refine rl1 (gn rfl) rfl rfl (step_allocc (k := n + 2) (zs := [.slice none 0 0, .int .i64 0, .int .i64 0, .slice none 0 0, .bool false]) (cs := [.sc (.slice none 0 0), .sc (.int .i64 0), .sc (.int .i64 0), .sc (.slice none 0 0), .sc (.bool false)]) rfl F.zero32 (by first | rfl | simp) (by first | rfl | decide | simp) (by first | rfl | simp)) ⟨by repeat (first | exact upd_eq _ _ _ | refine (upd_ne _ _ _ _ (by omega)).trans ?_ | assumption | exact hd _ (by omega) | exact hd0 _ (by omega) | exact hd1 _ (by omega) | exact hd2 _ (by omega) | fail), trivial⟩ (by omega) ?_
  first
    | (refine' rls (gn rfl) rfl (step_storeA rfl rfl rfl rfl F.agg32 ?hm ?hl) ⟨?hb, trivial⟩ ?hk ?_; (case hb => repeat (first | exact upd_eq _ _ _ | refine (upd_ne _ _ _ _ (by omega)).trans ?_ | assumption | exact hd _ (by omega) | exact hd0 _ (by omega) | exact hd1 _ (by omega) | exact hd2 _ (by omega) | fail)); (case hm => first | rfl | (simp; done) | (simp; omega)); (case hl => first | rfl | (simp; done) | (simp; omega)); (case hk => omega))
    | (refine' rls (gn rfl) rfl (step_storeS rfl rfl rfl rfl F.agg32 ?hm ?hl ?hc) ⟨?hb, trivial⟩ ?hk ?_; (case hb => repeat (first | exact upd_eq _ _ _ | refine (upd_ne _ _ _ _ (by omega)).trans ?_ | assumption | exact hd _ (by omega) | exact hd0 _ (by omega) | exact hd1 _ (by omega) | exact hd2 _ (by omega) | fail)); (case hm => first | rfl | (simp; done) | (simp; omega)); (case hl => first | decide | (simp; done) | (simp; omega)); (case hc => rfl); (case hk => omega))
  refine runsL_nil ?_
  refine runs_seq ?_
  refine runs_region ?_
  first | refine rl0 (gn rfl) rfl rfl (step_fieldAddr (off := 4) rfl (ev_mk rfl) Try.underlying32 rfl F.sz4 rfl) trivial ?_ | refine rl0 (gn rfl) rfl rfl (step_fieldAddr_ro (off := 4) rfl (ev_mk rfl) Try.underlying32 rfl F.sz4 rfl rfl) trivial ?_
  refine' rls (gn rfl) rfl (step_store1 rfl rfl rfl rfl F.one4 rfl rfl ?hl ?hc) ⟨?hb, trivial⟩ ?hk ?_
  case hb => repeat (first | exact upd_eq _ _ _ | refine (upd_ne _ _ _ _ (by omega)).trans ?_ | assumption | exact hd _ (by omega) | exact hd0 _ (by omega) | exact hd1 _ (by omega) | exact hd2 _ (by omega) | fail)
  case hl => first | decide | (simp; done) | (simp; omega) | (simp; omega)
  case hc => first | (simp only [List.set_cons_succ, List.set_cons_zero]; rfl) | rfl
  case hk => omega
  refine runsL_nil ?_
  refine runs_seq ?_
  refine runs_region ?_
  first | refine rl0 (gn rfl) rfl rfl (step_fieldAddr (off := 2) rfl (ev_mk rfl) Try.underlying32 rfl F.sz3 rfl) trivial ?_ | refine rl0 (gn rfl) rfl rfl (step_fieldAddr_ro (off := 2) rfl (ev_mk rfl) Try.underlying32 rfl F.sz3 rfl rfl) trivial ?_
  refine' rls (gn rfl) rfl (step_store1 rfl rfl rfl rfl F.one3 rfl rfl ?hl ?hc) ⟨?hb, trivial⟩ ?hk ?_
  case hb => repeat (first | exact upd_eq _ _ _ | refine (upd_ne _ _ _ _ (by omega)).trans ?_ | assumption | exact hd _ (by omega) | exact hd0 _ (by omega) | exact hd1 _ (by omega) | exact hd2 _ (by omega) | fail)
  case hl => first | decide | (simp; done) | (simp; omega) | (simp; omega)
  case hc => first | (simp only [List.set_cons_succ, List.set_cons_zero]; rfl) | rfl
  case hk => omega
  refine runsL_nil ?_
  refine runs_seq ?_
  refine runs_region ?_
  first | refine rl0 (gn rfl) rfl rfl (step_fieldAddr (off := 3) rfl (ev_mk rfl) Try.underlying32 rfl F.sz30 rfl) trivial ?_ | refine rl0 (gn rfl) rfl rfl (step_fieldAddr_ro (off := 3) rfl (ev_mk rfl) Try.underlying32 rfl F.sz30 rfl rfl) trivial ?_
  refine' rls (gn rfl) rfl (step_store1 rfl rfl rfl rfl F.one30 rfl rfl ?hl ?hc) ⟨?hb, trivial⟩ ?hk ?_
  case hb => repeat (first | exact upd_eq _ _ _ | refine (upd_ne _ _ _ _ (by omega)).trans ?_ | assumption | exact hd _ (by omega) | exact hd0 _ (by omega) | exact hd1 _ (by omega) | exact hd2 _ (by omega) | fail)
  case hl => first | decide | (simp; done) | (simp; omega) | (simp; omega)
  case hc => first | (simp only [List.set_cons_succ, List.set_cons_zero]; rfl) | rfl
  case hk => omega
  refine runsL_nil ?_
  refine runs_seq ?_
  refine runs_region ?_
  first
    | (refine' rl0 (gn rfl) rfl rfl (step_load_all rfl rfl F.agg32 ?hl) ⟨?hb, trivial⟩ ?_; (case hb => repeat (first | exact upd_eq _ _ _ | refine (upd_ne _ _ _ _ (by omega)).trans ?_ | assumption | exact hd _ (by omega) | exact hd0 _ (by omega) | exact hd1 _ (by omega) | exact hd2 _ (by omega) | fail)); (case hl => first | rfl | (simp; done) | (simp; omega)))
    | (refine rl0 (gn rfl) rfl rfl (step_load_ro_all rfl rfl F.agg32 (by first | rfl | (simp; done) | (simp; omega))) trivial ?_)
    | (refine' rl0 (gn rfl) rfl rfl (step_load_agg rfl (ev_mk rfl) F.agg32 ?hc ?hl) ⟨?hb, trivial⟩ ?_; (case hb => repeat (first | exact upd_eq _ _ _ | refine (upd_ne _ _ _ _ (by omega)).trans ?_ | assumption | exact hd _ (by omega) | exact hd0 _ (by omega) | exact hd1 _ (by omega) | exact hd2 _ (by omega) | fail)); (case hc => rfl); (case hl => first | rfl | (simp; done)))
    | (refine rl0 (gn rfl) rfl rfl (step_load_ro_agg rfl (ev_mk rfl) F.agg32 rfl rfl) trivial ?_)
  first
    | (refine' rls (gn rfl) rfl (step_storeA rfl rfl rfl rfl F.agg32 ?hm ?hl) ⟨?hb, trivial⟩ ?hk ?_; (case hb => repeat (first | exact upd_eq _ _ _ | refine (upd_ne _ _ _ _ (by omega)).trans ?_ | assumption | exact hd _ (by omega) | exact hd0 _ (by omega) | exact hd1 _ (by omega) | exact hd2 _ (by omega) | fail)); (case hm => first | rfl | (simp; done) | (simp; omega)); (case hl => first | rfl | (simp; done) | (simp; omega)); (case hk => omega))
    | (refine' rls (gn rfl) rfl (step_storeS rfl rfl rfl rfl F.agg32 ?hm ?hl ?hc) ⟨?hb, trivial⟩ ?hk ?_; (case hb => repeat (first | exact upd_eq _ _ _ | refine (upd_ne _ _ _ _ (by omega)).trans ?_ | assumption | exact hd _ (by omega) | exact hd0 _ (by omega) | exact hd1 _ (by omega) | exact hd2 _ (by omega) | fail)); (case hm => first | rfl | (simp; done) | (simp; omega)); (case hl => first | decide | (simp; done) | (simp; omega)); (case hc => rfl); (case hk => omega))
  refine runsL_nil ?_
  refine runs_ret ?_
  refine ⟨by first | exact .inr rfl | exact .inl rfl, fin_mk (resc rfl (by repeat (first | exact upd_eq _ _ _ | refine (upd_ne _ _ _ _ (by omega)).trans ?_ | assumption | exact hd _ (by omega) | exact hd0 _ (by omega) | exact hd1 _ (by omega) | exact hd2 _ (by omega) | fail)) F.agg32 (by first | rfl | (simp; omega)) res0) ?_ ?_ ?_ ?_⟩
  · exact VLe.agg (.cons (VLe.refl _) (.cons (VLe.refl _) (.cons (VLe.refl _) (.cons (VLe.nil_sl _) (.cons (VLe.refl _) .nil)))))
  · repeat (first | exact trivial | assumption | omega | exact bd_bs | exact bd_row | exact bd_secs | exact bd_bools | refine ⟨?_, ?_⟩ | fail)
  · intro k hk; exact ble (by first | exact rfl | (refine (upd_ne _ _ _ _ (by omega)).trans ?_; first | exact rfl | skip; repeat (first | exact rfl | refine (upd_ne _ _ _ _ (by omega)).trans ?_ | assumption | exact hf0 _ (by omega) | exact hf1 _ (by omega) | exact hf2 _ (by omega) | exact hf0 _ (by omega) (by first | assumption | omega) | exact hf1 _ (by omega) (by first | assumption | omega))) | exact hf0 _ (by omega) | exact hf1 _ (by omega) | exact hf2 _ (by omega) | exact hf0 _ (by omega) (by first | assumption | omega) | exact hf1 _ (by omega) (by first | assumption | omega))
  · intro p hp; cases hp
set_option maxRecDepth 100000 in
set_option maxHeartbeats 4000000 in
theorem rnew_bad (m : Int) (hm : m < 1 ∨ m > 16384) : Does Try.prog 8 [.sc (.int .i64 m)] [] [] (.tup [.agg [.sl 64 (secsV ([])), .sc (.int .i64 (0)), .sc (.int .i64 (0)), .sl 1 (boolsV ([])), .sc (.bool (false))], .sc (.int .i64 2)]) := by
  refine does_mk 20 Try.func8 rfl rfl rfl (fun n B bx hd hpre hup hvs hbx => ?_)
  refine runs_seq ?_
  refine runs_region ?_
  refine rl1 (gn rfl) rfl rfl (step_allocc (k := n + 0) (zs := [.slice none 0 0, .int .i64 0, .int .i64 0, .slice none 0 0, .bool false]) (cs := [.sc (.slice none 0 0), .sc (.int .i64 0), .sc (.int .i64 0), .sc (.slice none 0 0), .sc (.bool false)]) rfl F.zero32 (by first | rfl | simp) (by first | rfl | decide | simp) (by first | rfl | simp)) ⟨by repeat (first | exact upd_eq _ _ _ | refine (upd_ne _ _ _ _ (by omega)).trans ?_ | assumption | exact hd _ (by omega) | exact hd0 _ (by omega) | exact hd1 _ (by omega) | exact hd2 _ (by omega) | fail), trivial⟩ (by omega) ?_
  refine rl0 (gn rfl) rfl rfl (step_as rfl rfl) trivial ?_
  refine runsL_nil ?_
  refine runs_seq ?_
  refine runs_seq ?_
  refine runs_region ?_
  refine rl0 (gn rfl) rfl rfl (step_mv rfl rfl) trivial ?_
  refine rl_lss (gn rfl) rfl rfl rfl rfl rfl (fun h1 => ?_) (fun h1 => ?_)
  · skip
    refine rl0 (gn rfl) rfl rfl (step_mv rfl rfl) trivial ?_
    refine rlk rfl rfl rfl rfl rfl (ngb rfl rfl) rfl rfl ?_
    refine rlk rfl rfl rfl rfl rfl (ngb rfl rfl) rfl rfl ?_
    refine rl0 (gn rfl) rfl rfl (step_pick rfl (ev_mk rfl) (ev_mk rfl)) trivial ?_
    refine runsL_nil ?_
    refine runs_cond true (ev_mk rfl) (fun _ => ?_) (fun h_ => nomatch h_)
    refine runs_seq ?_
    refine runs_region ?_
    refine rl0 (gn rfl) rfl rfl (step_build (ss := [1, 1, 1, 1, 1]) (zs := [.slice none 0 0, .int .i64 0, .int .i64 0, .slice none 0 0, .bool false]) rfl Try.underlying32 (by kernel_rfl) F.zero32 rfl rfl rfl) trivial ?_
    first
      | (refine' rls (gn rfl) rfl (step_storeA rfl rfl rfl rfl F.agg32 ?hm ?hl) ⟨?hb, trivial⟩ ?hk ?_; (case hb => repeat (first | exact upd_eq _ _ _ | refine (upd_ne _ _ _ _ (by omega)).trans ?_ | assumption | exact hd _ (by omega) | exact hd0 _ (by omega) | exact hd1 _ (by omega) | exact hd2 _ (by omega) | fail)); (case hm => first | rfl | (simp; done) | (simp; omega)); (case hl => first | rfl | (simp; done) | (simp; omega)); (case hk => omega))
      | (refine' rls (gn rfl) rfl (step_storeS rfl rfl rfl rfl F.agg32 ?hm ?hl ?hc) ⟨?hb, trivial⟩ ?hk ?_; (case hb => repeat (first | exact upd_eq _ _ _ | refine (upd_ne _ _ _ _ (by omega)).trans ?_ | assumption | exact hd _ (by omega) | exact hd0 _ (by omega) | exact hd1 _ (by omega) | exact hd2 _ (by omega) | fail)); (case hm => first | rfl | (simp; done) | (simp; omega)); (case hl => first | decide | (simp; done) | (simp; omega)); (case hc => rfl); (case hk => omega))
    refine rl0 (gn rfl) rfl rfl (step_as rfl rfl) trivial ?_
    refine runsL_nil ?_
    refine runs_ret ?_
    refine ⟨by first | exact .inr rfl | exact .inl rfl, fin_mk (resc rfl (by repeat (first | exact upd_eq _ _ _ | refine (upd_ne _ _ _ _ (by omega)).trans ?_ | assumption | exact hd _ (by omega) | exact hd0 _ (by omega) | exact hd1 _ (by omega) | exact hd2 _ (by omega) | fail)) F.agg32 (by first | rfl | (simp; omega)) (rest rfl res0)) ?_ ?_ ?_ ?_⟩
    · exact VLe.tup (.cons (VLe.agg (.cons (VLe.nil_sl _) (.cons (VLe.refl _) (.cons (VLe.refl _) (.cons (VLe.nil_sl _) (.cons (VLe.refl _) .nil)))))) (.cons (VLe.refl _) .nil))
    · repeat (first | exact trivial | assumption | omega | exact bd_bs | exact bd_row | exact bd_secs | exact bd_bools | refine ⟨?_, ?_⟩ | fail)
    · intro k hk; exact ble (by first | exact rfl | (refine (upd_ne _ _ _ _ (by omega)).trans ?_; first | exact rfl | skip; repeat (first | exact rfl | refine (upd_ne _ _ _ _ (by omega)).trans ?_ | assumption | exact hf0 _ (by omega) | exact hf1 _ (by omega) | exact hf2 _ (by omega) | exact hf0 _ (by omega) (by first | assumption | omega) | exact hf1 _ (by omega) (by first | assumption | omega))) | exact hf0 _ (by omega) | exact hf1 _ (by omega) | exact hf2 _ (by omega) | exact hf0 _ (by omega) (by first | assumption | omega) | exact hf1 _ (by omega) (by first | assumption | omega))
    · intro p hp; cases hp
  · skip
    refine rl0 (gn rfl) rfl rfl (step_mv rfl rfl) trivial ?_
    refine rl0 (gy rfl rfl rfl rfl rfl rfl) rfl rfl (step_mv rfl rfl) trivial ?_
    refine rl_gtr (gy rfl rfl rfl rfl rfl rfl) rfl rfl rfl rfl rfl (fun h2 => ?_) (fun h2 => ?_)
    · skip
      refine rl0 (gn rfl) rfl rfl (step_pick rfl (ev_mk rfl) (ev_mk rfl)) trivial ?_
      refine runsL_nil ?_
      refine runs_cond true (ev_mk rfl) (fun _ => ?_) (fun h_ => nomatch h_)
      refine runs_seq ?_
      refine runs_region ?_
      refine rl0 (gn rfl) rfl rfl (step_build (ss := [1, 1, 1, 1, 1]) (zs := [.slice none 0 0, .int .i64 0, .int .i64 0, .slice none 0 0, .bool false]) rfl Try.underlying32 (by kernel_rfl) F.zero32 rfl rfl rfl) trivial ?_
      first
        | (refine' rls (gn rfl) rfl (step_storeA rfl rfl rfl rfl F.agg32 ?hm ?hl) ⟨?hb, trivial⟩ ?hk ?_; (case hb => repeat (first | exact upd_eq _ _ _ | refine (upd_ne _ _ _ _ (by omega)).trans ?_ | assumption | exact hd _ (by omega) | exact hd0 _ (by omega) | exact hd1 _ (by omega) | exact hd2 _ (by omega) | fail)); (case hm => first | rfl | (simp; done) | (simp; omega)); (case hl => first | rfl | (simp; done) | (simp; omega)); (case hk => omega))
        | (refine' rls (gn rfl) rfl (step_storeS rfl rfl rfl rfl F.agg32 ?hm ?hl ?hc) ⟨?hb, trivial⟩ ?hk ?_; (case hb => repeat (first | exact upd_eq _ _ _ | refine (upd_ne _ _ _ _ (by omega)).trans ?_ | assumption | exact hd _ (by omega) | exact hd0 _ (by omega) | exact hd1 _ (by omega) | exact hd2 _ (by omega) | fail)); (case hm => first | rfl | (simp; done) | (simp; omega)); (case hl => first | decide | (simp; done) | (simp; omega)); (case hc => rfl); (case hk => omega))
      refine rl0 (gn rfl) rfl rfl (step_as rfl rfl) trivial ?_
      refine runsL_nil ?_
      refine runs_ret ?_
      refine ⟨by first | exact .inr rfl | exact .inl rfl, fin_mk (resc rfl (by repeat (first | exact upd_eq _ _ _ | refine (upd_ne _ _ _ _ (by omega)).trans ?_ | assumption | exact hd _ (by omega) | exact hd0 _ (by omega) | exact hd1 _ (by omega) | exact hd2 _ (by omega) | fail)) F.agg32 (by first | rfl | (simp; omega)) (rest rfl res0)) ?_ ?_ ?_ ?_⟩
      · exact VLe.tup (.cons (VLe.agg (.cons (VLe.nil_sl _) (.cons (VLe.refl _) (.cons (VLe.refl _) (.cons (VLe.nil_sl _) (.cons (VLe.refl _) .nil)))))) (.cons (VLe.refl _) .nil))
      · repeat (first | exact trivial | assumption | omega | exact bd_bs | exact bd_row | exact bd_secs | exact bd_bools | refine ⟨?_, ?_⟩ | fail)
      · intro k hk; exact ble (by first | exact rfl | (refine (upd_ne _ _ _ _ (by omega)).trans ?_; first | exact rfl | skip; repeat (first | exact rfl | refine (upd_ne _ _ _ _ (by omega)).trans ?_ | assumption | exact hf0 _ (by omega) | exact hf1 _ (by omega) | exact hf2 _ (by omega) | exact hf0 _ (by omega) (by first | assumption | omega) | exact hf1 _ (by omega) (by first | assumption | omega))) | exact hf0 _ (by omega) | exact hf1 _ (by omega) | exact hf2 _ (by omega) | exact hf0 _ (by omega) (by first | assumption | omega) | exact hf1 _ (by omega) (by first | assumption | omega))
      · intro p hp; cases hp
    · skip
      exact absurd hm (by omega)
set_option maxRecDepth 100000 in
set_option maxHeartbeats 4000000 in
theorem rnew_ok (m : Nat) (h1 : 1 ≤ m) (h2 : m ≤ 16384) : Does Try.prog 8 [.sc (.int .i64 m)] [] [] (.tup [.agg [.sl 64 (secsV (zS m)), .sc (.int .i64 (0)), .sc (.int .i64 (-1)), .sl 1 (boolsV ([])), .sc (.bool (false))], .sc (.int .i64 0)]) := by
  refine does_mk 20 Try.func8 rfl rfl rfl (fun n B bx hd hpre hup hvs hbx => ?_)
  refine runs_seq ?_
  refine runs_region ?_
  refine rl1 (gn rfl) rfl rfl (step_allocc (k := n + 0) (zs := [.slice none 0 0, .int .i64 0, .int .i64 0, .slice none 0 0, .bool false]) (cs := [.sc (.slice none 0 0), .sc (.int .i64 0), .sc (.int .i64 0), .sc (.slice none 0 0), .sc (.bool false)]) rfl F.zero32 (by first | rfl | simp) (by first | rfl | decide | simp) (by first | rfl | simp)) ⟨by repeat (first | exact upd_eq _ _ _ | refine (upd_ne _ _ _ _ (by omega)).trans ?_ | assumption | exact hd _ (by omega) | exact hd0 _ (by omega) | exact hd1 _ (by omega) | exact hd2 _ (by omega) | fail), trivial⟩ (by omega) ?_
  refine rl0 (gn rfl) rfl rfl (step_as rfl rfl) trivial ?_
  refine runsL_nil ?_
  refine runs_seq ?_
  refine runs_seq ?_
  refine runs_region ?_
  refine rl0 (gn rfl) rfl rfl (step_mv rfl rfl) trivial ?_
  refine rl_lss (gn rfl) rfl rfl rfl rfl rfl (fun h1 => ?_) (fun h1 => ?_)
  · skip
    exact absurd h1 (by omega)
  · skip
    refine rl0 (gn rfl) rfl rfl (step_mv rfl rfl) trivial ?_
    refine rl0 (gy rfl rfl rfl rfl rfl rfl) rfl rfl (step_mv rfl rfl) trivial ?_
    refine rl_gtr (gy rfl rfl rfl rfl rfl rfl) rfl rfl rfl rfl rfl (fun h2 => ?_) (fun h2 => ?_)
    · skip
      exact absurd h2 (by omega)
    · skip
      refine rl0 (gn rfl) rfl rfl (step_pick rfl (ev_mk rfl) (ev_mk rfl)) trivial ?_
      refine runsL_nil ?_
      refine runs_cond false (ev_mk rfl) (fun h_ => nomatch h_) (fun _ => ?_)
      refine runs_skip ?_
      refine runs_seq ?_
      refine runs_region ?_
      refine rl0 (gn rfl) rfl rfl (step_mv rfl rfl) trivial ?_
      refine rl0 (gn rfl) rfl rfl (step_make_fl_ (len := m) (zs := List.replicate 64 (.int .u8 0)) rfl (ev_mk rfl) (ev_mk rfl) Try.underlying29 F.el48 F.zero48 rfl (by simp) (by simp [oneV]) (by omega)) trivial ?_
      rw [show List.replicate m ((List.replicate 64 (Value.int .u8 0)).map V.sc) = secsV (zS m) by simp [secsV, zS, bV]]
      refine rl0 (gn rfl) rfl rfl (step_build (ss := [1, 1, 1, 1, 1]) (zs := [.slice none 0 0, .int .i64 0, .int .i64 0, .slice none 0 0, .bool false]) rfl Try.underlying32 (by kernel_rfl) F.zero32 rfl rfl rfl) trivial ?_
      first
        | (refine' rls (gn rfl) rfl (step_storeA rfl rfl rfl rfl F.agg32 ?hm ?hl) ⟨?hb, trivial⟩ ?hk ?_; (case hb => repeat (first | exact upd_eq _ _ _ | refine (upd_ne _ _ _ _ (by omega)).trans ?_ | assumption | exact hd _ (by omega) | exact hd0 _ (by omega) | exact hd1 _ (by omega) | exact hd2 _ (by omega) | fail)); (case hm => first | rfl | (simp; done) | (simp; omega)); (case hl => first | rfl | (simp; done) | (simp; omega)); (case hk => omega))
        | (refine' rls (gn rfl) rfl (step_storeS rfl rfl rfl rfl F.agg32 ?hm ?hl ?hc) ⟨?hb, trivial⟩ ?hk ?_; (case hb => repeat (first | exact upd_eq _ _ _ | refine (upd_ne _ _ _ _ (by omega)).trans ?_ | assumption | exact hd _ (by omega) | exact hd0 _ (by omega) | exact hd1 _ (by omega) | exact hd2 _ (by omega) | fail)); (case hm => first | rfl | (simp; done) | (simp; omega)); (case hl => first | decide | (simp; done) | (simp; omega)); (case hc => rfl); (case hk => omega))
      refine rl0 (gn rfl) rfl rfl (step_as rfl rfl) trivial ?_
      refine runsL_nil ?_
      refine runs_ret ?_
      refine ⟨by first | exact .inr rfl | exact .inl rfl, fin_mk (resc rfl (by repeat (first | exact upd_eq _ _ _ | refine (upd_ne _ _ _ _ (by omega)).trans ?_ | assumption | exact hd _ (by omega) | exact hd0 _ (by omega) | exact hd1 _ (by omega) | exact hd2 _ (by omega) | fail)) F.agg32 (by first | rfl | (simp; omega)) (rest rfl res0)) ?_ ?_ ?_ ?_⟩
      · exact VLe.tup (.cons (VLe.agg (.cons (VLe.fl_sl _ _) (.cons (VLe.refl _) (.cons (VLe.refl _) (.cons (VLe.nil_sl _) (.cons (VLe.refl _) .nil)))))) (.cons (VLe.refl _) .nil))
      · repeat (first | exact trivial | assumption | omega | exact bd_bs | exact bd_row | exact bd_secs | exact bd_bools | refine ⟨?_, ?_⟩ | fail)
      · intro k hk; exact ble (by first | exact rfl | (refine (upd_ne _ _ _ _ (by omega)).trans ?_; first | exact rfl | skip; repeat (first | exact rfl | refine (upd_ne _ _ _ _ (by omega)).trans ?_ | assumption | exact hf0 _ (by omega) | exact hf1 _ (by omega) | exact hf2 _ (by omega) | exact hf0 _ (by omega) (by first | assumption | omega) | exact hf1 _ (by omega) (by first | assumption | omega))) | exact hf0 _ (by omega) | exact hf1 _ (by omega) | exact hf2 _ (by omega) | exact hf0 _ (by omega) (by first | assumption | omega) | exact hf1 _ (by omega) (by first | assumption | omega))
      · intro p hp; cases hp
theorem eqCs_ints : ∀ (a b : List Int), a.length = b.length → eqCs (a.map fun x => .int .u8 x) (b.map fun x => .int .u8 x) = decide (a = b)
  | [], [], h => by simp [eqCs]
  | x :: a, [], h => by simp at h
  | [], y :: b, h => by simp at h
  | x :: a, y :: b, h => by
    simp only [List.map_cons, eqCs, eqC, eqCs_ints a b (by simpa using h)]
    by_cases hx : x = y <;> by_cases hab : a = b <;> simp [hx, hab]
theorem fits_ints : ∀ (a : List Int) (n : Nat), a.length = n → fitsL (List.replicate n (CK.i .u8)) (a.map fun x => .int .u8 x) = true
  | [], 0, h => rfl
  | x :: a, n + 1, h => by simp only [List.replicate_succ, List.map_cons, fitsL, CK.fits, fits_ints a n (by simpa using h)]; rfl
  | [], n + 1, h => by simp at h
  | x :: a, 0, h => by simp at h
theorem bV_sc (a : List Int) : a.map bV = (a.map fun x => Value.int .u8 x).map V.sc := by rw [List.map_map]; rfl
theorem shape48 : shapeOf Try.prog 3 48 = some (List.replicate 64 (CK.i .u8)) := by kernel_rfl
theorem eqg48 : Try.prog.eqGuardType Try.prog.depth 48 = false := by kernel_rfl
theorem step_neq48 {o : Oper} {l : List (Nat × V)} {x y : Operand} {a b : List Int} {ty2 : TypeId} (ho : o.op = .binOp .neq 48 x y ty2) (hx : lko l x = some (.agg (a.map bV))) (hy : lko l y = some (.agg (b.map bV))) (ha : a.length = 64) (hb : b.length = 64) : StepOK Try.prog o (mk l) [] [] (.sc (.bool (!decide (a = b)))) := by
  rw [bV_sc] at hx hy
  refine step_eq_agg (xs := a.map fun x => Value.int .u8 x) (ys := b.map fun x => Value.int .u8 x) ho (ev_mk hx) (ev_mk hy) shape48 (by omega) ⟨_, Try.underlying48, rfl⟩ eqg48 (fits_ints a 64 ha) (fits_ints b 64 hb) (.inr ⟨rfl, ?_⟩)
  rw [eqCs_ints a b (by omega)]
theorem take_eq_snoc {a b : List (List Int)} {j : Nat} (ha : j < a.length) (hb : j < b.length) (h : a.take j = b.take j) (h2 : at' a (j : Int) = at' b (j : Int)) : a.take (j + 1) = b.take (j + 1) := by
  rw [at_nat _ _ ha, at_nat _ _ hb] at h2
  rw [List.take_add_one, List.take_add_one, h, List.getElem?_eq_getElem ha, List.getElem?_eq_getElem hb, h2]
theorem at_len64 {S : List (List Int)} (hS : ∀ r ∈ S, r.length = 64) {i : Int} (h0 : 0 ≤ i) (h : i < S.length) : (at' S i).length = 64 := by
  have hl : i.toNat < S.length := by omega
  have : at' S i = S[i.toNat] := by simp [at', List.getD_eq_getElem?_getD, List.getElem?_eq_getElem hl]
  rw [this]; exact hS _ (List.getElem_mem hl)
set_option maxRecDepth 100000 in
set_option maxHeartbeats 4000000 in
theorem same_c (a b : List (List Int)) (ha : ∀ r ∈ a, r.length = 64) (hb : ∀ r ∈ b, r.length = 64) (hl : a.length ≤ 1000000) (q : Bool) (hq : decide (a = b) = q) : Does Try.prog 17 [.sl 64 (secsV a), .sl 64 (secsV b)] [] [] (.sc (.bool q)) := by
  refine does_mk 20 Try.func17 rfl rfl rfl (fun n B bx hd hpre hup hvs hbx => ?_)
  subst hq
  refine runs_seq ?_
  refine runs_region ?_
  refine rl0 (gn rfl) rfl rfl (step_as rfl rfl) trivial ?_
  refine runsL_nil ?_
  refine runs_seq ?_
  refine runs_seq ?_
  refine runs_region ?_
  refine rl0 (gn rfl) rfl rfl (step_mv rfl rfl) trivial ?_
  first
    | refine rl0 (gn rfl) rfl rfl (step_len rfl rfl (ev_mk rfl) (.inl ⟨⟨_, Try.underlying29⟩, .inl ⟨_, _, .inl rfl, List.length_map _⟩⟩)) trivial ?_
    | refine rl0 (gn rfl) rfl rfl (step_len rfl rfl (ev_mk rfl) (.inl ⟨⟨_, Try.underlying29⟩, .inl ⟨_, _, .inl rfl, rfl⟩⟩)) trivial ?_
    | refine rl0 (gn rfl) rfl rfl (step_len rfl rfl (ev_mk rfl) (.inl ⟨⟨_, Try.underlying29⟩, .inl ⟨_, _, .inr (.inl rfl), List.length_map _⟩⟩)) trivial ?_
    | refine rl0 (gn rfl) rfl rfl (step_len rfl rfl (ev_mk rfl) (.inl ⟨⟨_, Try.underlying29⟩, .inl ⟨_, _, .inr (.inl rfl), rfl⟩⟩)) trivial ?_
    | refine rl0 (gn rfl) rfl rfl (step_len rfl rfl (ev_mk rfl) (.inl ⟨⟨_, Try.underlying29⟩, .inl ⟨_, _, .inr (.inr ⟨_, rfl⟩), List.length_map _⟩⟩)) trivial ?_
    | refine rl0 (gn rfl) rfl rfl (step_len rfl rfl (ev_mk rfl) (.inl ⟨⟨_, Try.underlying29⟩, .inl ⟨_, _, .inr (.inr ⟨_, rfl⟩), rfl⟩⟩)) trivial ?_
    | refine rl0 (gn rfl) rfl rfl (step_len rfl rfl (ev_mk rfl) (.inl ⟨⟨_, Try.underlying29⟩, .inr (.inl ⟨_, _, _, _, rfl⟩)⟩)) trivial ?_
    | refine rl0 (gn rfl) rfl rfl (step_len (m := 0) rfl rfl (ev_mk rfl) (.inl ⟨⟨_, Try.underlying29⟩, .inr (.inr ⟨_, _, rfl⟩)⟩)) trivial ?_
  refine rl0 (gn rfl) rfl rfl (step_mv rfl rfl) trivial ?_
  first
    | refine rl0 (gn rfl) rfl rfl (step_len rfl rfl (ev_mk rfl) (.inl ⟨⟨_, Try.underlying29⟩, .inl ⟨_, _, .inl rfl, List.length_map _⟩⟩)) trivial ?_
    | refine rl0 (gn rfl) rfl rfl (step_len rfl rfl (ev_mk rfl) (.inl ⟨⟨_, Try.underlying29⟩, .inl ⟨_, _, .inl rfl, rfl⟩⟩)) trivial ?_
    | refine rl0 (gn rfl) rfl rfl (step_len rfl rfl (ev_mk rfl) (.inl ⟨⟨_, Try.underlying29⟩, .inl ⟨_, _, .inr (.inl rfl), List.length_map _⟩⟩)) trivial ?_
    | refine rl0 (gn rfl) rfl rfl (step_len rfl rfl (ev_mk rfl) (.inl ⟨⟨_, Try.underlying29⟩, .inl ⟨_, _, .inr (.inl rfl), rfl⟩⟩)) trivial ?_
    | refine rl0 (gn rfl) rfl rfl (step_len rfl rfl (ev_mk rfl) (.inl ⟨⟨_, Try.underlying29⟩, .inl ⟨_, _, .inr (.inr ⟨_, rfl⟩), List.length_map _⟩⟩)) trivial ?_
    | refine rl0 (gn rfl) rfl rfl (step_len rfl rfl (ev_mk rfl) (.inl ⟨⟨_, Try.underlying29⟩, .inl ⟨_, _, .inr (.inr ⟨_, rfl⟩), rfl⟩⟩)) trivial ?_
    | refine rl0 (gn rfl) rfl rfl (step_len rfl rfl (ev_mk rfl) (.inl ⟨⟨_, Try.underlying29⟩, .inr (.inl ⟨_, _, _, _, rfl⟩)⟩)) trivial ?_
    | refine rl0 (gn rfl) rfl rfl (step_len (m := 0) rfl rfl (ev_mk rfl) (.inl ⟨⟨_, Try.underlying29⟩, .inr (.inr ⟨_, _, rfl⟩)⟩)) trivial ?_
  refine rl_neq (gn rfl) rfl rfl rfl rfl rfl (fun h1 => ?_) (fun h1 => ?_)
  · skip
    refine runsL_nil ?_
    refine runs_cond true (ev_mk rfl) (fun _ => ?_) (fun h_ => nomatch h_)
    refine runs_seq ?_
    refine runs_region ?_
    refine rl0 (gn rfl) rfl rfl (step_as rfl rfl) trivial ?_
    refine runsL_nil ?_
    refine runs_ret ?_
    refine ⟨by first | exact .inr rfl | exact .inl rfl, fin_mk (rest rfl res0) ?_ ?_ ?_ ?_⟩
    · (refine vle_bool ?_; symm; first | (apply decide_eq_false; intro e_; subst e_; simp_all; done) | (apply decide_eq_true; have h1_ := hF0_2; rw [List.take_of_length_le (by omega), List.take_of_length_le (by omega)] at h1_; exact h1_))
    · repeat (first | exact trivial | assumption | omega | exact bd_bs | exact bd_row | exact bd_secs | exact bd_bools | refine ⟨?_, ?_⟩ | fail)
    · intro k hk; exact ble (by first | exact rfl | (refine (upd_ne _ _ _ _ (by omega)).trans ?_; first | exact rfl | skip; repeat (first | exact rfl | refine (upd_ne _ _ _ _ (by omega)).trans ?_ | assumption | exact hf0 _ (by omega) | exact hf1 _ (by omega) | exact hf2 _ (by omega) | exact hf0 _ (by omega) (by first | assumption | omega) | exact hf1 _ (by omega) (by first | assumption | omega))) | exact hf0 _ (by omega) | exact hf1 _ (by omega) | exact hf2 _ (by omega) | exact hf0 _ (by omega) (by first | assumption | omega) | exact hf1 _ (by omega) (by first | assumption | omega))
    · intro p hp; cases hp
  · skip
    refine runsL_nil ?_
    refine runs_cond false (ev_mk rfl) (fun h_ => nomatch h_) (fun _ => ?_)
    refine runs_skip ?_
    refine runs_seq ?_
    refine runs_seq ?_
    refine runs_region ?_
    refine rl0 (gn rfl) rfl rfl (step_as rfl rfl) trivial ?_
    refine runsL_nil ?_
    refine runs_block ?_
    refine runs_loop (fun (i : Nat) (s : Go.Vm.S) => ∃ (j : Nat) (m0 : Nat) (b0 : Nat → Box), (s = ⟨mk [(0, .sl 64 (secsV a)), (1, .sl 64 (secsV b)), (4, .sc (.bool false)), (5, .sc (.int .i64 j))], m0, b0⟩) ∧ (i = a.length - j) ∧ (n ≤ m0) ∧ (∀ k, k < n → b0 k = bx k) ∧ (j ≤ a.length) ∧ (a.length = b.length) ∧ (a.take j = b.take j)) (a.length) ⟨_, sle ?_ (Nat.le_refl _), 0, _, _, rfl, rfl, ?_⟩ ?_
    · (repeat' (first | exact trivial | refine ⟨⟨_, rfl, ?_⟩, ?_⟩ | fail)); (all_goals first | exact VLe.refl _ | (rw [Int.natCast_add]; exact VLe.refl _) | exact VLe.own_sl _ _ _ | exact VLe.fl_sl _ _ | exact VLe.nil_sl _)
    · exact ⟨by omega, (fun k hk => by first | exact rfl | (refine (upd_ne _ _ _ _ (by omega)).trans ?_; first | exact rfl | skip; repeat (first | exact rfl | refine (upd_ne _ _ _ _ (by omega)).trans ?_ | assumption | exact hf0 _ (by omega) | exact hf1 _ (by omega) | exact hf2 _ (by omega) | exact hf0 _ (by omega) (by first | assumption | omega) | exact hf1 _ (by omega) (by first | assumption | omega))) | exact hf0 _ (by omega) | exact hf1 _ (by omega) | exact hf2 _ (by omega) | exact hf0 _ (by omega) (by first | assumption | omega) | exact hf1 _ (by omega) (by first | assumption | omega)), by omega, by omega, by rfl⟩
    · rintro _ _ ⟨j, m0, b0, rfl, rfl, hm0, hf0, hF0_0, hF0_1, hF0_2⟩
      refine runs_know (fun hd0 => ?_)
      refine runs_bump 8 ?_
      simp only at hd0
      refine runs_seq ?_
      refine runs_seq ?_
      refine runs_region ?_
      refine rl0 (gn rfl) rfl rfl (step_mv rfl rfl) trivial ?_
      refine rl0 (gn rfl) rfl rfl (step_mv rfl rfl) trivial ?_
      first
        | refine rl0 (gn rfl) rfl rfl (step_len rfl rfl (ev_mk rfl) (.inl ⟨⟨_, Try.underlying29⟩, .inl ⟨_, _, .inl rfl, List.length_map _⟩⟩)) trivial ?_
        | refine rl0 (gn rfl) rfl rfl (step_len rfl rfl (ev_mk rfl) (.inl ⟨⟨_, Try.underlying29⟩, .inl ⟨_, _, .inl rfl, rfl⟩⟩)) trivial ?_
        | refine rl0 (gn rfl) rfl rfl (step_len rfl rfl (ev_mk rfl) (.inl ⟨⟨_, Try.underlying29⟩, .inl ⟨_, _, .inr (.inl rfl), List.length_map _⟩⟩)) trivial ?_
        | refine rl0 (gn rfl) rfl rfl (step_len rfl rfl (ev_mk rfl) (.inl ⟨⟨_, Try.underlying29⟩, .inl ⟨_, _, .inr (.inl rfl), rfl⟩⟩)) trivial ?_
        | refine rl0 (gn rfl) rfl rfl (step_len rfl rfl (ev_mk rfl) (.inl ⟨⟨_, Try.underlying29⟩, .inl ⟨_, _, .inr (.inr ⟨_, rfl⟩), List.length_map _⟩⟩)) trivial ?_
        | refine rl0 (gn rfl) rfl rfl (step_len rfl rfl (ev_mk rfl) (.inl ⟨⟨_, Try.underlying29⟩, .inl ⟨_, _, .inr (.inr ⟨_, rfl⟩), rfl⟩⟩)) trivial ?_
        | refine rl0 (gn rfl) rfl rfl (step_len rfl rfl (ev_mk rfl) (.inl ⟨⟨_, Try.underlying29⟩, .inr (.inl ⟨_, _, _, _, rfl⟩)⟩)) trivial ?_
        | refine rl0 (gn rfl) rfl rfl (step_len (m := 0) rfl rfl (ev_mk rfl) (.inl ⟨⟨_, Try.underlying29⟩, .inr (.inr ⟨_, _, rfl⟩)⟩)) trivial ?_
      refine rl_lss (gn rfl) rfl rfl rfl rfl rfl (fun h2 => ?_) (fun h2 => ?_)
      · skip
        refine runsL_nil ?_
        refine runs_cond true (ev_mk rfl) (fun _ => ?_) (fun h_ => nomatch h_)
        refine runs_skip ?_
        refine runs_seq ?_
        refine runs_block ?_
        refine runs_seq ?_
        refine runs_draw (by kernel_rfl) (by kernel_rfl) (by kernel_rfl) ?_
        refine dl0 (gn rfl) rfl rfl (step_mv rfl rfl) trivial ?_
        refine dl0 (gn rfl) rfl rfl (step_mv rfl rfl) trivial ?_
        first
          | (refine' dl0 (gn rfl) rfl rfl (step_index rfl (ev_mk rfl) (.inl rfl) (ev_mk rfl) Try.underlying29 F.sz48 (by omega) ?hr) trivial ?_; (case hr => exact map_at _ _ _ (by omega) (by omega)))
          | (refine' dl0 (gn rfl) rfl rfl (step_index rfl (ev_mk rfl) (.inr (.inl rfl)) (ev_mk rfl) Try.underlying29 F.sz48 (by omega) ?hr) trivial ?_; (case hr => exact map_at _ _ _ (by omega) (by omega)))
          | (refine' dl0 (gn rfl) rfl rfl (step_index rfl (ev_mk rfl) (.inr (.inr ⟨_, rfl⟩)) (ev_mk rfl) Try.underlying29 F.sz48 (by omega) ?hr) trivial ?_; (case hr => exact map_at _ _ _ (by omega) (by omega)))
          | (refine dl0 (gn rfl) rfl rfl (step_index_msl rfl (ev_mk rfl) (ev_mk rfl) Try.underlying29 F.sz48 (by omega) (by omega)) trivial ?_)
        first
          | (refine' dl0 (gn rfl) rfl rfl (step_load_all rfl rfl F.agg48 ?hl) ⟨?hb, trivial⟩ ?_; (case hb => repeat (first | exact upd_eq _ _ _ | refine (upd_ne _ _ _ _ (by omega)).trans ?_ | assumption | exact hd _ (by omega) | exact hd0 _ (by omega) | exact hd1 _ (by omega) | exact hd2 _ (by omega) | fail)); (case hl => first | rfl | (simp; done) | (rw [List.length_map]; exact at_len64 (by assumption) (by omega) (by omega))))
          | (refine dl0 (gn rfl) rfl rfl (step_load_ro_all rfl rfl F.agg48 (by first | rfl | (simp; done) | (rw [List.length_map]; exact at_len64 (by assumption) (by omega) (by omega)))) trivial ?_)
          | (refine' dl0 (gn rfl) rfl rfl (step_load_agg rfl (ev_mk rfl) F.agg48 ?hc ?hl) ⟨?hb, trivial⟩ ?_; (case hb => repeat (first | exact upd_eq _ _ _ | refine (upd_ne _ _ _ _ (by omega)).trans ?_ | assumption | exact hd _ (by omega) | exact hd0 _ (by omega) | exact hd1 _ (by omega) | exact hd2 _ (by omega) | fail)); (case hc => rfl); (case hl => first | rfl | (simp; done)))
          | (refine dl0 (gn rfl) rfl rfl (step_load_ro_agg rfl (ev_mk rfl) F.agg48 rfl rfl) trivial ?_)
        refine dl0 (gn rfl) rfl rfl (step_mv rfl rfl) trivial ?_
        refine dl0 (gn rfl) rfl rfl (step_mv rfl rfl) trivial ?_
        first
          | (refine' dl0 (gn rfl) rfl rfl (step_index rfl (ev_mk rfl) (.inl rfl) (ev_mk rfl) Try.underlying29 F.sz48 (by omega) ?hr) trivial ?_; (case hr => exact map_at _ _ _ (by omega) (by omega)))
          | (refine' dl0 (gn rfl) rfl rfl (step_index rfl (ev_mk rfl) (.inr (.inl rfl)) (ev_mk rfl) Try.underlying29 F.sz48 (by omega) ?hr) trivial ?_; (case hr => exact map_at _ _ _ (by omega) (by omega)))
          | (refine' dl0 (gn rfl) rfl rfl (step_index rfl (ev_mk rfl) (.inr (.inr ⟨_, rfl⟩)) (ev_mk rfl) Try.underlying29 F.sz48 (by omega) ?hr) trivial ?_; (case hr => exact map_at _ _ _ (by omega) (by omega)))
          | (refine dl0 (gn rfl) rfl rfl (step_index_msl rfl (ev_mk rfl) (ev_mk rfl) Try.underlying29 F.sz48 (by omega) (by omega)) trivial ?_)
        first
          | (refine' dl0 (gn rfl) rfl rfl (step_load_all rfl rfl F.agg48 ?hl) ⟨?hb, trivial⟩ ?_; (case hb => repeat (first | exact upd_eq _ _ _ | refine (upd_ne _ _ _ _ (by omega)).trans ?_ | assumption | exact hd _ (by omega) | exact hd0 _ (by omega) | exact hd1 _ (by omega) | exact hd2 _ (by omega) | fail)); (case hl => first | rfl | (simp; done) | (rw [List.length_map]; exact at_len64 (by assumption) (by omega) (by omega))))
          | (refine dl0 (gn rfl) rfl rfl (step_load_ro_all rfl rfl F.agg48 (by first | rfl | (simp; done) | (rw [List.length_map]; exact at_len64 (by assumption) (by omega) (by omega)))) trivial ?_)
          | (refine' dl0 (gn rfl) rfl rfl (step_load_agg rfl (ev_mk rfl) F.agg48 ?hc ?hl) ⟨?hb, trivial⟩ ?_; (case hb => repeat (first | exact upd_eq _ _ _ | refine (upd_ne _ _ _ _ (by omega)).trans ?_ | assumption | exact hd _ (by omega) | exact hd0 _ (by omega) | exact hd1 _ (by omega) | exact hd2 _ (by omega) | fail)); (case hc => rfl); (case hl => first | rfl | (simp; done)))
          | (refine dl0 (gn rfl) rfl rfl (step_load_ro_agg rfl (ev_mk rfl) F.agg48 rfl rfl) trivial ?_)
        refine dl0 (gn rfl) rfl rfl (step_neq48 rfl rfl rfl (at_len64 ha (by omega) (by omega)) (at_len64 hb (by omega) (by omega))) trivial ?_
        refine dlnil ?_ ?_
        · repeat' (first | exact trivial | exact .inr (ap0 _ _ _ _) | exact .inr (ap2 _ _ _ _) | exact .inr (ap3 _ _ _ _) | exact .inr ⟨by first | (simp; done) | (simp; omega), by first | (simp; done) | (simp; omega)⟩ | exact .inl (by kernel_rfl) | refine ⟨?_, ?_⟩ | fail)
        refine runs_cond _ (ev_mk rfl) (fun h3 => ?_) (fun h3 => ?_)
        · skip
          refine runs_seq ?_
          refine runs_region ?_
          refine rl0 (gn rfl) rfl rfl (step_as rfl rfl) trivial ?_
          refine runsL_nil ?_
          refine runs_ret ?_
          refine ⟨by first | exact .inr rfl | exact .inl rfl, fin_mk (rest rfl res0) ?_ ?_ ?_ ?_⟩
          · (refine vle_bool ?_; symm; first | (apply decide_eq_false; intro e_; subst e_; simp_all; done) | (apply decide_eq_true; have h1_ := hF0_2; rw [List.take_of_length_le (by omega), List.take_of_length_le (by omega)] at h1_; exact h1_))
          · repeat (first | exact trivial | assumption | omega | exact bd_bs | exact bd_row | exact bd_secs | exact bd_bools | refine ⟨?_, ?_⟩ | fail)
          · intro k hk; exact ble (by first | exact rfl | (refine (upd_ne _ _ _ _ (by omega)).trans ?_; first | exact rfl | skip; repeat (first | exact rfl | refine (upd_ne _ _ _ _ (by omega)).trans ?_ | assumption | exact hf0 _ (by omega) | exact hf1 _ (by omega) | exact hf2 _ (by omega) | exact hf0 _ (by omega) (by first | assumption | omega) | exact hf1 _ (by omega) (by first | assumption | omega))) | exact hf0 _ (by omega) | exact hf1 _ (by omega) | exact hf2 _ (by omega) | exact hf0 _ (by omega) (by first | assumption | omega) | exact hf1 _ (by omega) (by first | assumption | omega))
          · intro p hp; cases hp
        · skip
          have hq_ : at' a (j : Int) = at' b (j : Int) := by simpa using ‹(!decide _) = false›
          refine runs_skip ?_
          refine runs_region ?_
          refine rl0 (gn rfl) rfl rfl (step_mv rfl rfl) trivial ?_
          refine rl0 (gn rfl) rfl rfl (step_add rfl (ev_mk rfl) (ev_mk rfl) (w64 (by omega))) trivial ?_
          refine rl0 (gn rfl) rfl rfl (step_as rfl rfl) trivial ?_
          refine runsL_nil ?_
          refine ⟨_, _, ?_, sle ?_ (Nat.le_refl _), j + 1, _, _, rfl, rfl, by omega, (fun k hk => by repeat (first | exact hf0 k hk | refine (upd_ne _ _ _ _ (by first | assumption | omega)).trans ?_ | fail)), by omega, by omega, take_eq_snoc (by omega) (by omega) hF0_2 hq_⟩
          · omega
          · (repeat' (first | exact trivial | refine ⟨⟨_, rfl, ?_⟩, ?_⟩ | fail)); (all_goals first | exact VLe.refl _ | (rw [Int.natCast_add]; exact VLe.refl _) | exact VLe.own_sl _ _ _ | exact VLe.fl_sl _ _ | exact VLe.nil_sl _)
      · skip
        refine runsL_nil ?_
        refine runs_cond false (ev_mk rfl) (fun h_ => nomatch h_) (fun _ => ?_)
        refine runs_exit ?_
        refine runs_seq ?_
        refine runs_region ?_
        refine rl0 (gn rfl) rfl rfl (step_as rfl rfl) trivial ?_
        refine runsL_nil ?_
        refine runs_ret ?_
        refine ⟨by first | exact .inr rfl | exact .inl rfl, fin_mk (rest rfl res0) ?_ ?_ ?_ ?_⟩
        · (refine vle_bool ?_; symm; first | (apply decide_eq_false; intro e_; subst e_; simp_all; done) | (apply decide_eq_true; have h1_ := hF0_2; rw [List.take_of_length_le (by omega), List.take_of_length_le (by omega)] at h1_; exact h1_))
        · repeat (first | exact trivial | assumption | omega | exact bd_bs | exact bd_row | exact bd_secs | exact bd_bools | refine ⟨?_, ?_⟩ | fail)
        · intro k hk; exact ble (by first | exact rfl | (refine (upd_ne _ _ _ _ (by omega)).trans ?_; first | exact rfl | skip; repeat (first | exact rfl | refine (upd_ne _ _ _ _ (by omega)).trans ?_ | assumption | exact hf0 _ (by omega) | exact hf1 _ (by omega) | exact hf2 _ (by omega) | exact hf0 _ (by omega) (by first | assumption | omega) | exact hf1 _ (by omega) (by first | assumption | omega))) | exact hf0 _ (by omega) | exact hf1 _ (by omega) | exact hf2 _ (by omega) | exact hf0 _ (by omega) (by first | assumption | omega) | exact hf1 _ (by omega) (by first | assumption | omega))
        · intro p hp; cases hp
end Go.Proofs.Ytllpipiidjfhbaa
