/- Walks of the platter, by the logic of values. -/
import Derived.Test.YtllpipiidjfhbaaVd
namespace Go.Proofs.Ytllpipiidjfhbaa
open Go.Vm
set_option linter.unusedVariables false
set_option linter.unusedSimpArgs false
theorem kept_i (S : List (List Int)) (w f : Int) (kp : List Bool) (dn : Bool) (i : Int) (h : 0 ≤ i) : Does Try.prog 29 [.agg [.sl 64 (secsV (S)), .sc (.int .i64 (w)), .sc (.int .i64 (f)), .sl 1 (boolsV (kp)), .sc (.bool (dn))], .sc (.int .i64 i)] [] [] (.sc (.bool (keptB f kp i.toNat))) := by
  have := kept_c S w f kp dn i.toNat _ rfl
  rwa [Int.toNat_of_nonneg h] at this
def mixAt (S : List (List Int)) (x : Int) (l : List (List Int)) (f : Int) (kp : List Bool) (i : Nat) : List Int :=
  if x ≤ i ∧ (i : Int) - x < l.length ∧ keptB f kp ((i : Int) - x).toNat = true then at' l ((i : Int) - x) else at' S (i : Int)
def mixS (S : List (List Int)) (x : Int) (l : List (List Int)) (f : Int) (kp : List Bool) : List (List Int) := (List.range S.length).map (mixAt S x l f kp)
theorem mixAt_in {S : List (List Int)} {x : Int} {l : List (List Int)} {f : Int} {kp : List Bool} {i : Nat} (h1 : x ≤ i) (h2 : (i : Int) - x < l.length) (h3 : keptB f kp ((i : Int) - x).toNat = true) : mixAt S x l f kp i = at' l ((i : Int) - x) := if_pos ⟨h1, h2, h3⟩
theorem mixAt_o1 {S : List (List Int)} {x : Int} {l : List (List Int)} {f : Int} {kp : List Bool} {i : Nat} (h1 : ¬ x ≤ i) : mixAt S x l f kp i = at' S (i : Int) := if_neg fun h => h1 h.1
theorem mixAt_o2 {S : List (List Int)} {x : Int} {l : List (List Int)} {f : Int} {kp : List Bool} {i : Nat} (h1 : ¬ (i : Int) - x < l.length) : mixAt S x l f kp i = at' S (i : Int) := if_neg fun h => h1 h.2.1
theorem mixAt_o3 {S : List (List Int)} {x : Int} {l : List (List Int)} {f : Int} {kp : List Bool} {i : Nat} (h1 : keptB f kp ((i : Int) - x).toNat = false) : mixAt S x l f kp i = at' S (i : Int) := if_neg fun h => by rw [h1] at h; cases h.2.2
theorem snoc_ (g : Nat → List Int) (j : Nat) (r : List Int) (h : g j = r) : secsV ((List.range j).map g) ++ [r.map bV] = secsV ((List.range (j + 1)).map g) := by
  rw [List.range_succ, List.map_append, ← h]; simp [secsV]
theorem sec_cut (S : List (List Int)) (x m : Int) (hx : 0 ≤ x) (hm : 0 ≤ m) : ((secsV S).take (x + m).toNat).drop x.toNat = secsV (takeN S x.toNat m.toNat) := by
  unfold secsV takeN
  rw [← List.map_take, ← List.map_drop, List.drop_take, show (x + m).toNat - x.toNat = m.toNat by omega]
set_option maxRecDepth 100000 in
set_option maxHeartbeats 4000000 in
theorem rwrite_out (S : List (List Int)) (w f : Int) (kp : List Bool) (dn : Bool) (hS : ∀ r ∈ S, r.length = 64) (l : List (List Int)) (hl64 : ∀ r ∈ l, r.length = 64) (x : Int) (hl : l.length ≤ 100000) (hL : S.length ≤ 100000) (hx : -9223372036854775808 ≤ x ∧ x ≤ 9223372036854775807) (hi : insideB S.length x l.length = false) : Does Try.prog 23 [.agg [.sl 64 (secsV (S)), .sc (.int .i64 (w)), .sc (.int .i64 (f)), .sl 1 (boolsV (kp)), .sc (.bool (dn))], .sc (.int .i64 x), .sl 64 (secsV l)] [] [] (.tup [.agg [.sl 64 (secsV (S)), .sc (.int .i64 (w)), .sc (.int .i64 (f)), .sl 1 (boolsV (kp)), .sc (.bool (dn))], .sc (.int .i64 2)]) := by
  refine does_mk 20 Try.func23 rfl rfl rfl (fun n B bx hd hpre hup hvs hbx => ?_)
  refine runs_seq ?_
  refine runs_region ?_
  first | refine rl1 (gn rfl) rfl rfl (step_box_agg (k := n + 0) rfl rfl) ⟨by repeat (first | exact upd_eq _ _ _ | refine (upd_ne _ _ _ _ (by omega)).trans ?_ | assumption | exact hd _ (by omega) | exact hd0 _ (by omega) | exact hd1 _ (by omega) | exact hd2 _ (by omega) | fail), trivial⟩ (by omega) ?_ | refine rl1 (gn rfl) rfl rfl (step_box_one (k := n + 0) rfl rfl rfl rfl) ⟨by repeat (first | exact upd_eq _ _ _ | refine (upd_ne _ _ _ _ (by omega)).trans ?_ | assumption | exact hd _ (by omega) | exact hd0 _ (by omega) | exact hd1 _ (by omega) | exact hd2 _ (by omega) | fail), trivial⟩ (by omega) ?_
  refine rl1 (gn rfl) rfl rfl (step_allocc (k := n + 1) (zs := [.slice none 0 0, .int .i64 0, .int .i64 0, .slice none 0 0, .bool false]) (cs := [.sc (.slice none 0 0), .sc (.int .i64 0), .sc (.int .i64 0), .sc (.slice none 0 0), .sc (.bool false)]) rfl F.zero32 (by first | rfl | simp) (by first | rfl | decide | simp) (by first | rfl | simp)) ⟨by repeat (first | exact upd_eq _ _ _ | refine (upd_ne _ _ _ _ (by omega)).trans ?_ | assumption | exact hd _ (by omega) | exact hd0 _ (by omega) | exact hd1 _ (by omega) | exact hd2 _ (by omega) | fail), trivial⟩ (by omega) ?_
  refine rl0 (gn rfl) rfl rfl (step_as rfl rfl) trivial ?_
  refine runsL_nil ?_
  refine runs_seq ?_
  refine runs_seq ?_
  refine runs_region ?_
  first
    | (refine' rl0 (gn rfl) rfl rfl (step_load_all rfl rfl F.agg32 ?hl) ⟨?hb, trivial⟩ ?_; (case hb => repeat (first | exact upd_eq _ _ _ | refine (upd_ne _ _ _ _ (by omega)).trans ?_ | assumption | exact hd _ (by omega) | exact hd0 _ (by omega) | exact hd1 _ (by omega) | exact hd2 _ (by omega) | fail)); (case hl => first | rfl | (simp; done) | (rw [List.length_map]; exact at_len64 (by assumption) (by omega) (by omega))))
    | (refine rl0 (gn rfl) rfl rfl (step_load_ro_all rfl rfl F.agg32 (by first | rfl | (simp; done) | (rw [List.length_map]; exact at_len64 (by assumption) (by omega) (by omega)))) trivial ?_)
    | (refine' rl0 (gn rfl) rfl rfl (step_load_agg rfl (ev_mk rfl) F.agg32 ?hc ?hl) ⟨?hb, trivial⟩ ?_; (case hb => repeat (first | exact upd_eq _ _ _ | refine (upd_ne _ _ _ _ (by omega)).trans ?_ | assumption | exact hd _ (by omega) | exact hd0 _ (by omega) | exact hd1 _ (by omega) | exact hd2 _ (by omega) | fail)); (case hc => rfl); (case hl => first | rfl | (simp; done)))
    | (refine rl0 (gn rfl) rfl rfl (step_load_ro_agg rfl (ev_mk rfl) F.agg32 rfl rfl) trivial ?_)
  refine rl0 (gn rfl) rfl rfl (step_mv rfl rfl) trivial ?_
  refine rl0 (gn rfl) rfl rfl (step_mv rfl rfl) trivial ?_
  first
    | refine rl0 (gn rfl) rfl rfl (step_len rfl rfl (ev_mk rfl) (.inl ⟨⟨_, Try.underlying29⟩, .inl ⟨_, _, .inl rfl, List.length_map _⟩⟩)) trivial ?_
    | refine rl0 (gn rfl) rfl rfl (step_len rfl rfl (ev_mk rfl) (.inl ⟨⟨_, Try.underlying29⟩, .inl ⟨_, _, .inl rfl, rfl⟩⟩)) trivial ?_
    | refine rl0 (gn rfl) rfl rfl (step_len rfl rfl (ev_mk rfl) (.inl ⟨⟨_, Try.underlying29⟩, .inl ⟨_, _, .inr (.inl rfl), List.length_map _⟩⟩)) trivial ?_
    | refine rl0 (gn rfl) rfl rfl (step_len rfl rfl (ev_mk rfl) (.inl ⟨⟨_, Try.underlying29⟩, .inl ⟨_, _, .inr (.inl rfl), rfl⟩⟩)) trivial ?_
    | refine rl0 (gn rfl) rfl rfl (step_len rfl rfl (ev_mk rfl) (.inl ⟨⟨_, Try.underlying29⟩, .inl ⟨_, _, .inr (.inr ⟨_, rfl⟩), List.length_map _⟩⟩)) trivial ?_
    | refine rl0 (gn rfl) rfl rfl (step_len rfl rfl (ev_mk rfl) (.inl ⟨⟨_, Try.underlying29⟩, .inl ⟨_, _, .inr (.inr ⟨_, rfl⟩), rfl⟩⟩)) trivial ?_
    | refine rl0 (gn rfl) rfl rfl (step_len rfl rfl (ev_mk rfl) (.inl ⟨⟨_, Try.underlying29⟩, .inr (.inl ⟨_, _, _, _, rfl⟩)⟩)) trivial ?_
    | refine rl0 (gn rfl) rfl rfl (step_len (m := 0) rfl rfl (ev_mk rfl) (.inl ⟨⟨_, Try.underlying29⟩, .inr (.inr ⟨_, _, rfl⟩)⟩)) trivial ?_
  refine rl0 (gn rfl) rfl rfl (step_callc rfl Try.func28 rfl rfl rfl (rinside_q S w f kp dn (by omega) x _ hx (by omega) _ hi) (by repeat (first | exact .nil | refine .cons ?_ ?_ | exact VLe.refl _ | exact VLe.own_sl _ _ _ | exact VLe.fl_sl _ _ | exact VLe.nil_sl _ | exact VLe.nil_fl _ | refine VLe.agg ?_))) trivial ?_
  refine rl0 (gn rfl) rfl rfl (step_unOp rfl (ev_mk rfl) (fun _ => rfl)) trivial ?_
  refine runsL_nil ?_
  refine runs_cond _ (ev_mk rfl) (fun h1 => ?_) (fun h1 => ?_)
  · skip
    refine runs_seq ?_
    refine runs_region ?_
    first
      | (refine' rl0 (gn rfl) rfl rfl (step_load_all rfl rfl F.agg32 ?hl) ⟨?hb, trivial⟩ ?_; (case hb => repeat (first | exact upd_eq _ _ _ | refine (upd_ne _ _ _ _ (by omega)).trans ?_ | assumption | exact hd _ (by omega) | exact hd0 _ (by omega) | exact hd1 _ (by omega) | exact hd2 _ (by omega) | fail)); (case hl => first | rfl | (simp; done) | (rw [List.length_map]; exact at_len64 (by assumption) (by omega) (by omega))))
      | (refine rl0 (gn rfl) rfl rfl (step_load_ro_all rfl rfl F.agg32 (by first | rfl | (simp; done) | (rw [List.length_map]; exact at_len64 (by assumption) (by omega) (by omega)))) trivial ?_)
      | (refine' rl0 (gn rfl) rfl rfl (step_load_agg rfl (ev_mk rfl) F.agg32 ?hc ?hl) ⟨?hb, trivial⟩ ?_; (case hb => repeat (first | exact upd_eq _ _ _ | refine (upd_ne _ _ _ _ (by omega)).trans ?_ | assumption | exact hd _ (by omega) | exact hd0 _ (by omega) | exact hd1 _ (by omega) | exact hd2 _ (by omega) | fail)); (case hc => rfl); (case hl => first | rfl | (simp; done)))
      | (refine rl0 (gn rfl) rfl rfl (step_load_ro_agg rfl (ev_mk rfl) F.agg32 rfl rfl) trivial ?_)
    first
      | (refine' rls (gn rfl) rfl (step_storeA rfl rfl rfl rfl F.agg32 ?hm ?hl) ⟨?hb, trivial⟩ ?hk ?_; (case hb => repeat (first | exact upd_eq _ _ _ | refine (upd_ne _ _ _ _ (by omega)).trans ?_ | assumption | exact hd _ (by omega) | exact hd0 _ (by omega) | exact hd1 _ (by omega) | exact hd2 _ (by omega) | fail)); (case hm => first | rfl | (simp; done) | (rw [List.length_map]; exact at_len64 (by assumption) (by omega) (by omega))); (case hl => first | rfl | (simp; done) | (rw [List.length_map]; exact at_len64 (by assumption) (by omega) (by omega))); (case hk => omega))
      | (refine' rls (gn rfl) rfl (step_storeS rfl rfl rfl rfl F.agg32 ?hm ?hl ?hc) ⟨?hb, trivial⟩ ?hk ?_; (case hb => repeat (first | exact upd_eq _ _ _ | refine (upd_ne _ _ _ _ (by omega)).trans ?_ | assumption | exact hd _ (by omega) | exact hd0 _ (by omega) | exact hd1 _ (by omega) | exact hd2 _ (by omega) | fail)); (case hm => first | rfl | (simp; done) | (rw [List.length_map]; exact at_len64 (by assumption) (by omega) (by omega))); (case hl => first | decide | (simp; done) | (rw [List.length_map]; exact at_len64 (by assumption) (by omega) (by omega))); (case hc => rfl); (case hk => omega))
    refine rl0 (gn rfl) rfl rfl (step_as rfl rfl) trivial ?_
    refine runsL_nil ?_
    refine runs_ret ?_
    refine ⟨by first | exact .inr rfl | exact .inl rfl, fin_mk (resc rfl (by repeat (first | exact upd_eq _ _ _ | refine (upd_ne _ _ _ _ (by omega)).trans ?_ | assumption | exact hd _ (by omega) | exact hd0 _ (by omega) | exact hd1 _ (by omega) | exact hd2 _ (by omega) | fail)) F.agg32 (by first | rfl | (rw [List.length_map]; exact at_len64 (by assumption) (by omega) (by omega))) (rest rfl res0)) ?_ ?_ ?_ ?_⟩
    · first | exact VLe.refl _ | exact VLe.own_sl _ _ _ | exact VLe.fl_sl _ _
    · repeat (first | exact trivial | assumption | omega | exact bd_bs | exact bd_row | exact bd_secs | exact bd_bools | refine ⟨?_, ?_⟩ | fail)
    · intro k hk; exact ble (by first | exact rfl | (refine (upd_ne _ _ _ _ (by omega)).trans ?_; first | exact rfl | skip; repeat (first | exact rfl | refine (upd_ne _ _ _ _ (by omega)).trans ?_ | assumption | exact hf0 _ (by omega) | exact hf1 _ (by omega) | exact hf2 _ (by omega) | exact hf0 _ (by omega) (by first | assumption | omega) | exact hf1 _ (by omega) (by first | assumption | omega))) | exact hf0 _ (by omega) | exact hf1 _ (by omega) | exact hf2 _ (by omega) | exact hf0 _ (by omega) (by first | assumption | omega) | exact hf1 _ (by omega) (by first | assumption | omega))
    · intro p hp; cases hp
  · skip
    exact absurd ‹_› (by simp)
set_option maxRecDepth 100000 in
set_option maxHeartbeats 4000000 in
theorem rwrite_down (S : List (List Int)) (w f : Int) (kp : List Bool) (dn : Bool) (hS : ∀ r ∈ S, r.length = 64) (l : List (List Int)) (hl64 : ∀ r ∈ l, r.length = 64) (x : Int) (hl : l.length ≤ 100000) (hL : S.length ≤ 100000) (hx : -9223372036854775808 ≤ x ∧ x ≤ 9223372036854775807) (hi : insideB S.length x l.length = true) (hdn : dn = true) : Does Try.prog 23 [.agg [.sl 64 (secsV (S)), .sc (.int .i64 (w)), .sc (.int .i64 (f)), .sl 1 (boolsV (kp)), .sc (.bool (dn))], .sc (.int .i64 x), .sl 64 (secsV l)] [] [] (.tup [.agg [.sl 64 (secsV (S)), .sc (.int .i64 (w)), .sc (.int .i64 (f)), .sl 1 (boolsV (kp)), .sc (.bool (dn))], .sc (.int .i64 4)]) := by
  refine does_mk 20 Try.func23 rfl rfl rfl (fun n B bx hd hpre hup hvs hbx => ?_)
  refine runs_seq ?_
  refine runs_region ?_
  first | refine rl1 (gn rfl) rfl rfl (step_box_agg (k := n + 0) rfl rfl) ⟨by repeat (first | exact upd_eq _ _ _ | refine (upd_ne _ _ _ _ (by omega)).trans ?_ | assumption | exact hd _ (by omega) | exact hd0 _ (by omega) | exact hd1 _ (by omega) | exact hd2 _ (by omega) | fail), trivial⟩ (by omega) ?_ | refine rl1 (gn rfl) rfl rfl (step_box_one (k := n + 0) rfl rfl rfl rfl) ⟨by repeat (first | exact upd_eq _ _ _ | refine (upd_ne _ _ _ _ (by omega)).trans ?_ | assumption | exact hd _ (by omega) | exact hd0 _ (by omega) | exact hd1 _ (by omega) | exact hd2 _ (by omega) | fail), trivial⟩ (by omega) ?_
  refine rl1 (gn rfl) rfl rfl (step_allocc (k := n + 1) (zs := [.slice none 0 0, .int .i64 0, .int .i64 0, .slice none 0 0, .bool false]) (cs := [.sc (.slice none 0 0), .sc (.int .i64 0), .sc (.int .i64 0), .sc (.slice none 0 0), .sc (.bool false)]) rfl F.zero32 (by first | rfl | simp) (by first | rfl | decide | simp) (by first | rfl | simp)) ⟨by repeat (first | exact upd_eq _ _ _ | refine (upd_ne _ _ _ _ (by omega)).trans ?_ | assumption | exact hd _ (by omega) | exact hd0 _ (by omega) | exact hd1 _ (by omega) | exact hd2 _ (by omega) | fail), trivial⟩ (by omega) ?_
  refine rl0 (gn rfl) rfl rfl (step_as rfl rfl) trivial ?_
  refine runsL_nil ?_
  refine runs_seq ?_
  refine runs_seq ?_
  refine runs_region ?_
  first
    | (refine' rl0 (gn rfl) rfl rfl (step_load_all rfl rfl F.agg32 ?hl) ⟨?hb, trivial⟩ ?_; (case hb => repeat (first | exact upd_eq _ _ _ | refine (upd_ne _ _ _ _ (by omega)).trans ?_ | assumption | exact hd _ (by omega) | exact hd0 _ (by omega) | exact hd1 _ (by omega) | exact hd2 _ (by omega) | fail)); (case hl => first | rfl | (simp; done) | (rw [List.length_map]; exact at_len64 (by assumption) (by omega) (by omega))))
    | (refine rl0 (gn rfl) rfl rfl (step_load_ro_all rfl rfl F.agg32 (by first | rfl | (simp; done) | (rw [List.length_map]; exact at_len64 (by assumption) (by omega) (by omega)))) trivial ?_)
    | (refine' rl0 (gn rfl) rfl rfl (step_load_agg rfl (ev_mk rfl) F.agg32 ?hc ?hl) ⟨?hb, trivial⟩ ?_; (case hb => repeat (first | exact upd_eq _ _ _ | refine (upd_ne _ _ _ _ (by omega)).trans ?_ | assumption | exact hd _ (by omega) | exact hd0 _ (by omega) | exact hd1 _ (by omega) | exact hd2 _ (by omega) | fail)); (case hc => rfl); (case hl => first | rfl | (simp; done)))
    | (refine rl0 (gn rfl) rfl rfl (step_load_ro_agg rfl (ev_mk rfl) F.agg32 rfl rfl) trivial ?_)
  refine rl0 (gn rfl) rfl rfl (step_mv rfl rfl) trivial ?_
  refine rl0 (gn rfl) rfl rfl (step_mv rfl rfl) trivial ?_
  first
    | refine rl0 (gn rfl) rfl rfl (step_len rfl rfl (ev_mk rfl) (.inl ⟨⟨_, Try.underlying29⟩, .inl ⟨_, _, .inl rfl, List.length_map _⟩⟩)) trivial ?_
    | refine rl0 (gn rfl) rfl rfl (step_len rfl rfl (ev_mk rfl) (.inl ⟨⟨_, Try.underlying29⟩, .inl ⟨_, _, .inl rfl, rfl⟩⟩)) trivial ?_
    | refine rl0 (gn rfl) rfl rfl (step_len rfl rfl (ev_mk rfl) (.inl ⟨⟨_, Try.underlying29⟩, .inl ⟨_, _, .inr (.inl rfl), List.length_map _⟩⟩)) trivial ?_
    | refine rl0 (gn rfl) rfl rfl (step_len rfl rfl (ev_mk rfl) (.inl ⟨⟨_, Try.underlying29⟩, .inl ⟨_, _, .inr (.inl rfl), rfl⟩⟩)) trivial ?_
    | refine rl0 (gn rfl) rfl rfl (step_len rfl rfl (ev_mk rfl) (.inl ⟨⟨_, Try.underlying29⟩, .inl ⟨_, _, .inr (.inr ⟨_, rfl⟩), List.length_map _⟩⟩)) trivial ?_
    | refine rl0 (gn rfl) rfl rfl (step_len rfl rfl (ev_mk rfl) (.inl ⟨⟨_, Try.underlying29⟩, .inl ⟨_, _, .inr (.inr ⟨_, rfl⟩), rfl⟩⟩)) trivial ?_
    | refine rl0 (gn rfl) rfl rfl (step_len rfl rfl (ev_mk rfl) (.inl ⟨⟨_, Try.underlying29⟩, .inr (.inl ⟨_, _, _, _, rfl⟩)⟩)) trivial ?_
    | refine rl0 (gn rfl) rfl rfl (step_len (m := 0) rfl rfl (ev_mk rfl) (.inl ⟨⟨_, Try.underlying29⟩, .inr (.inr ⟨_, _, rfl⟩)⟩)) trivial ?_
  refine rl0 (gn rfl) rfl rfl (step_callc rfl Try.func28 rfl rfl rfl (rinside_q S w f kp dn (by omega) x _ hx (by omega) _ hi) (by repeat (first | exact .nil | refine .cons ?_ ?_ | exact VLe.refl _ | exact VLe.own_sl _ _ _ | exact VLe.fl_sl _ _ | exact VLe.nil_sl _ | exact VLe.nil_fl _ | refine VLe.agg ?_))) trivial ?_
  refine rl0 (gn rfl) rfl rfl (step_unOp rfl (ev_mk rfl) (fun _ => rfl)) trivial ?_
  refine runsL_nil ?_
  refine runs_cond _ (ev_mk rfl) (fun h1 => ?_) (fun h1 => ?_)
  · skip
    exact absurd ‹_› (by simp)
  · skip
    refine runs_skip ?_
    refine runs_seq ?_
    refine runs_seq ?_
    refine runs_region ?_
    first | refine rl0 (gn rfl) rfl rfl (step_fieldAddr (off := 4) rfl (ev_mk rfl) Try.underlying32 rfl F.sz4 rfl) trivial ?_ | refine rl0 (gn rfl) rfl rfl (step_fieldAddr_ro (off := 4) rfl (ev_mk rfl) Try.underlying32 rfl F.sz4 rfl rfl) trivial ?_
    first
      | (refine' rl0 (gn rfl) rfl rfl (step_load_one rfl (ev_mk rfl) F.one4 ?hv) ⟨?hb, trivial⟩ ?_; (case hb => repeat (first | exact upd_eq _ _ _ | refine (upd_ne _ _ _ _ (by omega)).trans ?_ | assumption | exact hd _ (by omega) | exact hd0 _ (by omega) | exact hd1 _ (by omega) | exact hd2 _ (by omega) | fail)); (case hv => exact rfl))
      | (refine rl0 (gn rfl) rfl rfl (step_load_ro rfl (ev_mk rfl) F.one4 rfl) trivial ?_)
    refine runsL_nil ?_
    refine runs_cond _ (ev_mk rfl) (fun h2 => ?_) (fun h2 => ?_)
    · skip
      refine runs_seq ?_
      refine runs_region ?_
      first
        | (refine' rl0 (gn rfl) rfl rfl (step_load_all rfl rfl F.agg32 ?hl) ⟨?hb, trivial⟩ ?_; (case hb => repeat (first | exact upd_eq _ _ _ | refine (upd_ne _ _ _ _ (by omega)).trans ?_ | assumption | exact hd _ (by omega) | exact hd0 _ (by omega) | exact hd1 _ (by omega) | exact hd2 _ (by omega) | fail)); (case hl => first | rfl | (simp; done) | (rw [List.length_map]; exact at_len64 (by assumption) (by omega) (by omega))))
        | (refine rl0 (gn rfl) rfl rfl (step_load_ro_all rfl rfl F.agg32 (by first | rfl | (simp; done) | (rw [List.length_map]; exact at_len64 (by assumption) (by omega) (by omega)))) trivial ?_)
        | (refine' rl0 (gn rfl) rfl rfl (step_load_agg rfl (ev_mk rfl) F.agg32 ?hc ?hl) ⟨?hb, trivial⟩ ?_; (case hb => repeat (first | exact upd_eq _ _ _ | refine (upd_ne _ _ _ _ (by omega)).trans ?_ | assumption | exact hd _ (by omega) | exact hd0 _ (by omega) | exact hd1 _ (by omega) | exact hd2 _ (by omega) | fail)); (case hc => rfl); (case hl => first | rfl | (simp; done)))
        | (refine rl0 (gn rfl) rfl rfl (step_load_ro_agg rfl (ev_mk rfl) F.agg32 rfl rfl) trivial ?_)
      first
        | (refine' rls (gn rfl) rfl (step_storeA rfl rfl rfl rfl F.agg32 ?hm ?hl) ⟨?hb, trivial⟩ ?hk ?_; (case hb => repeat (first | exact upd_eq _ _ _ | refine (upd_ne _ _ _ _ (by omega)).trans ?_ | assumption | exact hd _ (by omega) | exact hd0 _ (by omega) | exact hd1 _ (by omega) | exact hd2 _ (by omega) | fail)); (case hm => first | rfl | (simp; done) | (rw [List.length_map]; exact at_len64 (by assumption) (by omega) (by omega))); (case hl => first | rfl | (simp; done) | (rw [List.length_map]; exact at_len64 (by assumption) (by omega) (by omega))); (case hk => omega))
        | (refine' rls (gn rfl) rfl (step_storeS rfl rfl rfl rfl F.agg32 ?hm ?hl ?hc) ⟨?hb, trivial⟩ ?hk ?_; (case hb => repeat (first | exact upd_eq _ _ _ | refine (upd_ne _ _ _ _ (by omega)).trans ?_ | assumption | exact hd _ (by omega) | exact hd0 _ (by omega) | exact hd1 _ (by omega) | exact hd2 _ (by omega) | fail)); (case hm => first | rfl | (simp; done) | (rw [List.length_map]; exact at_len64 (by assumption) (by omega) (by omega))); (case hl => first | decide | (simp; done) | (rw [List.length_map]; exact at_len64 (by assumption) (by omega) (by omega))); (case hc => rfl); (case hk => omega))
      refine rl0 (gn rfl) rfl rfl (step_as rfl rfl) trivial ?_
      refine runsL_nil ?_
      refine runs_ret ?_
      refine ⟨by first | exact .inr rfl | exact .inl rfl, fin_mk (resc rfl (by repeat (first | exact upd_eq _ _ _ | refine (upd_ne _ _ _ _ (by omega)).trans ?_ | assumption | exact hd _ (by omega) | exact hd0 _ (by omega) | exact hd1 _ (by omega) | exact hd2 _ (by omega) | fail)) F.agg32 (by first | rfl | (rw [List.length_map]; exact at_len64 (by assumption) (by omega) (by omega))) (rest rfl res0)) ?_ ?_ ?_ ?_⟩
      · first | exact VLe.refl _ | exact VLe.own_sl _ _ _ | exact VLe.fl_sl _ _
      · repeat (first | exact trivial | assumption | omega | exact bd_bs | exact bd_row | exact bd_secs | exact bd_bools | refine ⟨?_, ?_⟩ | fail)
      · intro k hk; exact ble (by first | exact rfl | (refine (upd_ne _ _ _ _ (by omega)).trans ?_; first | exact rfl | skip; repeat (first | exact rfl | refine (upd_ne _ _ _ _ (by omega)).trans ?_ | assumption | exact hf0 _ (by omega) | exact hf1 _ (by omega) | exact hf2 _ (by omega) | exact hf0 _ (by omega) (by first | assumption | omega) | exact hf1 _ (by omega) (by first | assumption | omega))) | exact hf0 _ (by omega) | exact hf1 _ (by omega) | exact hf2 _ (by omega) | exact hf0 _ (by omega) (by first | assumption | omega) | exact hf1 _ (by omega) (by first | assumption | omega))
      · intro p hp; cases hp
    · skip
      exact absurd ‹_› (by simp [hdn])
set_option maxRecDepth 100000 in
set_option maxHeartbeats 4000000 in
theorem rwrite_tear (S : List (List Int)) (w f : Int) (kp : List Bool) (dn : Bool) (hS : ∀ r ∈ S, r.length = 64) (l : List (List Int)) (hl64 : ∀ r ∈ l, r.length = 64) (x : Int) (hl : l.length ≤ 100000) (hL : S.length ≤ 100000) (hx : -9223372036854775808 ≤ x ∧ x ≤ 9223372036854775807) (hi : insideB S.length x l.length = true) (hdn : dn = false) (hf : f = 0) : Does Try.prog 23 [.agg [.sl 64 (secsV (S)), .sc (.int .i64 (w)), .sc (.int .i64 (f)), .sl 1 (boolsV (kp)), .sc (.bool (dn))], .sc (.int .i64 x), .sl 64 (secsV l)] [] [] (.tup [.agg [.sl 64 (secsV (mixS S x l f kp)), .sc (.int .i64 (w)), .sc (.int .i64 (f)), .sl 1 (boolsV (kp)), .sc (.bool (true))], .sc (.int .i64 4)]) := by
  refine does_mk 20 Try.func23 rfl rfl rfl (fun n B bx hd hpre hup hvs hbx => ?_)
  have hii := of_decide_eq_true hi
  refine runs_seq ?_
  refine runs_region ?_
  first | refine rl1 (gn rfl) rfl rfl (step_box_agg (k := n + 0) rfl rfl) ⟨by repeat (first | exact upd_eq _ _ _ | refine (upd_ne _ _ _ _ (by omega)).trans ?_ | assumption | exact hd _ (by omega) | exact hd0 _ (by omega) | exact hd1 _ (by omega) | exact hd2 _ (by omega) | fail), trivial⟩ (by omega) ?_ | refine rl1 (gn rfl) rfl rfl (step_box_one (k := n + 0) rfl rfl rfl rfl) ⟨by repeat (first | exact upd_eq _ _ _ | refine (upd_ne _ _ _ _ (by omega)).trans ?_ | assumption | exact hd _ (by omega) | exact hd0 _ (by omega) | exact hd1 _ (by omega) | exact hd2 _ (by omega) | fail), trivial⟩ (by omega) ?_
  refine rl1 (gn rfl) rfl rfl (step_allocc (k := n + 1) (zs := [.slice none 0 0, .int .i64 0, .int .i64 0, .slice none 0 0, .bool false]) (cs := [.sc (.slice none 0 0), .sc (.int .i64 0), .sc (.int .i64 0), .sc (.slice none 0 0), .sc (.bool false)]) rfl F.zero32 (by first | rfl | simp) (by first | rfl | decide | simp) (by first | rfl | simp)) ⟨by repeat (first | exact upd_eq _ _ _ | refine (upd_ne _ _ _ _ (by omega)).trans ?_ | assumption | exact hd _ (by omega) | exact hd0 _ (by omega) | exact hd1 _ (by omega) | exact hd2 _ (by omega) | fail), trivial⟩ (by omega) ?_
  refine rl0 (gn rfl) rfl rfl (step_as rfl rfl) trivial ?_
  refine runsL_nil ?_
  refine runs_seq ?_
  refine runs_seq ?_
  refine runs_region ?_
  first
    | (refine' rl0 (gn rfl) rfl rfl (step_load_all rfl rfl F.agg32 ?hl) ⟨?hb, trivial⟩ ?_; (case hb => repeat (first | exact upd_eq _ _ _ | refine (upd_ne _ _ _ _ (by omega)).trans ?_ | assumption | exact hd _ (by omega) | exact hd0 _ (by omega) | exact hd1 _ (by omega) | exact hd2 _ (by omega) | fail)); (case hl => first | rfl | (simp; done) | (rw [List.length_map]; exact at_len64 (by assumption) (by omega) (by omega))))
    | (refine rl0 (gn rfl) rfl rfl (step_load_ro_all rfl rfl F.agg32 (by first | rfl | (simp; done) | (rw [List.length_map]; exact at_len64 (by assumption) (by omega) (by omega)))) trivial ?_)
    | (refine' rl0 (gn rfl) rfl rfl (step_load_agg rfl (ev_mk rfl) F.agg32 ?hc ?hl) ⟨?hb, trivial⟩ ?_; (case hb => repeat (first | exact upd_eq _ _ _ | refine (upd_ne _ _ _ _ (by omega)).trans ?_ | assumption | exact hd _ (by omega) | exact hd0 _ (by omega) | exact hd1 _ (by omega) | exact hd2 _ (by omega) | fail)); (case hc => rfl); (case hl => first | rfl | (simp; done)))
    | (refine rl0 (gn rfl) rfl rfl (step_load_ro_agg rfl (ev_mk rfl) F.agg32 rfl rfl) trivial ?_)
  refine rl0 (gn rfl) rfl rfl (step_mv rfl rfl) trivial ?_
  refine rl0 (gn rfl) rfl rfl (step_mv rfl rfl) trivial ?_
  first
    | refine rl0 (gn rfl) rfl rfl (step_len rfl rfl (ev_mk rfl) (.inl ⟨⟨_, Try.underlying29⟩, .inl ⟨_, _, .inl rfl, List.length_map _⟩⟩)) trivial ?_
    | refine rl0 (gn rfl) rfl rfl (step_len rfl rfl (ev_mk rfl) (.inl ⟨⟨_, Try.underlying29⟩, .inl ⟨_, _, .inl rfl, rfl⟩⟩)) trivial ?_
    | refine rl0 (gn rfl) rfl rfl (step_len rfl rfl (ev_mk rfl) (.inl ⟨⟨_, Try.underlying29⟩, .inl ⟨_, _, .inr (.inl rfl), List.length_map _⟩⟩)) trivial ?_
    | refine rl0 (gn rfl) rfl rfl (step_len rfl rfl (ev_mk rfl) (.inl ⟨⟨_, Try.underlying29⟩, .inl ⟨_, _, .inr (.inl rfl), rfl⟩⟩)) trivial ?_
    | refine rl0 (gn rfl) rfl rfl (step_len rfl rfl (ev_mk rfl) (.inl ⟨⟨_, Try.underlying29⟩, .inl ⟨_, _, .inr (.inr ⟨_, rfl⟩), List.length_map _⟩⟩)) trivial ?_
    | refine rl0 (gn rfl) rfl rfl (step_len rfl rfl (ev_mk rfl) (.inl ⟨⟨_, Try.underlying29⟩, .inl ⟨_, _, .inr (.inr ⟨_, rfl⟩), rfl⟩⟩)) trivial ?_
    | refine rl0 (gn rfl) rfl rfl (step_len rfl rfl (ev_mk rfl) (.inl ⟨⟨_, Try.underlying29⟩, .inr (.inl ⟨_, _, _, _, rfl⟩)⟩)) trivial ?_
    | refine rl0 (gn rfl) rfl rfl (step_len (m := 0) rfl rfl (ev_mk rfl) (.inl ⟨⟨_, Try.underlying29⟩, .inr (.inr ⟨_, _, rfl⟩)⟩)) trivial ?_
  refine rl0 (gn rfl) rfl rfl (step_callc rfl Try.func28 rfl rfl rfl (rinside_q S w f kp dn (by omega) x _ hx (by omega) _ hi) (by repeat (first | exact .nil | refine .cons ?_ ?_ | exact VLe.refl _ | exact VLe.own_sl _ _ _ | exact VLe.fl_sl _ _ | exact VLe.nil_sl _ | exact VLe.nil_fl _ | refine VLe.agg ?_))) trivial ?_
  refine rl0 (gn rfl) rfl rfl (step_unOp rfl (ev_mk rfl) (fun _ => rfl)) trivial ?_
  refine runsL_nil ?_
  refine runs_cond _ (ev_mk rfl) (fun h1 => ?_) (fun h1 => ?_)
  · skip
    exact absurd ‹_› (by simp)
  · skip
    refine runs_skip ?_
    refine runs_seq ?_
    refine runs_seq ?_
    refine runs_region ?_
    first | refine rl0 (gn rfl) rfl rfl (step_fieldAddr (off := 4) rfl (ev_mk rfl) Try.underlying32 rfl F.sz4 rfl) trivial ?_ | refine rl0 (gn rfl) rfl rfl (step_fieldAddr_ro (off := 4) rfl (ev_mk rfl) Try.underlying32 rfl F.sz4 rfl rfl) trivial ?_
    first
      | (refine' rl0 (gn rfl) rfl rfl (step_load_one rfl (ev_mk rfl) F.one4 ?hv) ⟨?hb, trivial⟩ ?_; (case hb => repeat (first | exact upd_eq _ _ _ | refine (upd_ne _ _ _ _ (by omega)).trans ?_ | assumption | exact hd _ (by omega) | exact hd0 _ (by omega) | exact hd1 _ (by omega) | exact hd2 _ (by omega) | fail)); (case hv => exact rfl))
      | (refine rl0 (gn rfl) rfl rfl (step_load_ro rfl (ev_mk rfl) F.one4 rfl) trivial ?_)
    refine runsL_nil ?_
    refine runs_cond _ (ev_mk rfl) (fun h2 => ?_) (fun h2 => ?_)
    · skip
      exact absurd ‹_› (by simp [hdn])
    · skip
      refine runs_skip ?_
      refine runs_seq ?_
      refine runs_region ?_
      first
        | (refine' rl0 (gn rfl) rfl rfl (step_load_all rfl rfl F.agg32 ?hl) ⟨?hb, trivial⟩ ?_; (case hb => repeat (first | exact upd_eq _ _ _ | refine (upd_ne _ _ _ _ (by omega)).trans ?_ | assumption | exact hd _ (by omega) | exact hd0 _ (by omega) | exact hd1 _ (by omega) | exact hd2 _ (by omega) | fail)); (case hl => first | rfl | (simp; done) | (rw [List.length_map]; exact at_len64 (by assumption) (by omega) (by omega))))
        | (refine rl0 (gn rfl) rfl rfl (step_load_ro_all rfl rfl F.agg32 (by first | rfl | (simp; done) | (rw [List.length_map]; exact at_len64 (by assumption) (by omega) (by omega)))) trivial ?_)
        | (refine' rl0 (gn rfl) rfl rfl (step_load_agg rfl (ev_mk rfl) F.agg32 ?hc ?hl) ⟨?hb, trivial⟩ ?_; (case hb => repeat (first | exact upd_eq _ _ _ | refine (upd_ne _ _ _ _ (by omega)).trans ?_ | assumption | exact hd _ (by omega) | exact hd0 _ (by omega) | exact hd1 _ (by omega) | exact hd2 _ (by omega) | fail)); (case hc => rfl); (case hl => first | rfl | (simp; done)))
        | (refine rl0 (gn rfl) rfl rfl (step_load_ro_agg rfl (ev_mk rfl) F.agg32 rfl rfl) trivial ?_)
      refine rl1 (gn rfl) rfl rfl (step_allocc (k := n + 2) (zs := [.slice none 0 0, .int .i64 0, .int .i64 0, .slice none 0 0, .bool false]) (cs := [.sc (.slice none 0 0), .sc (.int .i64 0), .sc (.int .i64 0), .sc (.slice none 0 0), .sc (.bool false)]) rfl F.zero32 (by first | rfl | simp) (by first | rfl | decide | simp) (by first | rfl | simp)) ⟨by repeat (first | exact upd_eq _ _ _ | refine (upd_ne _ _ _ _ (by omega)).trans ?_ | assumption | exact hd _ (by omega) | exact hd0 _ (by omega) | exact hd1 _ (by omega) | exact hd2 _ (by omega) | fail), trivial⟩ (by omega) ?_
      first
        | (refine' rls (gn rfl) rfl (step_storeA rfl rfl rfl rfl F.agg32 ?hm ?hl) ⟨?hb, trivial⟩ ?hk ?_; (case hb => repeat (first | exact upd_eq _ _ _ | refine (upd_ne _ _ _ _ (by omega)).trans ?_ | assumption | exact hd _ (by omega) | exact hd0 _ (by omega) | exact hd1 _ (by omega) | exact hd2 _ (by omega) | fail)); (case hm => first | rfl | (simp; done) | (rw [List.length_map]; exact at_len64 (by assumption) (by omega) (by omega))); (case hl => first | rfl | (simp; done) | (rw [List.length_map]; exact at_len64 (by assumption) (by omega) (by omega))); (case hk => omega))
        | (refine' rls (gn rfl) rfl (step_storeS rfl rfl rfl rfl F.agg32 ?hm ?hl ?hc) ⟨?hb, trivial⟩ ?hk ?_; (case hb => repeat (first | exact upd_eq _ _ _ | refine (upd_ne _ _ _ _ (by omega)).trans ?_ | assumption | exact hd _ (by omega) | exact hd0 _ (by omega) | exact hd1 _ (by omega) | exact hd2 _ (by omega) | fail)); (case hm => first | rfl | (simp; done) | (rw [List.length_map]; exact at_len64 (by assumption) (by omega) (by omega))); (case hl => first | decide | (simp; done) | (rw [List.length_map]; exact at_len64 (by assumption) (by omega) (by omega))); (case hc => rfl); (case hk => omega))
      refine runsL_nil ?_
      refine runs_seq ?_
      refine runs_region ?_
      first | refine rl0 (gn rfl) rfl rfl (step_fieldAddr (off := 0) rfl (ev_mk rfl) Try.underlying32 rfl F.sz29 rfl) trivial ?_ | refine rl0 (gn rfl) rfl rfl (step_fieldAddr_ro (off := 0) rfl (ev_mk rfl) Try.underlying32 rfl F.sz29 rfl rfl) trivial ?_
      refine' rls (gn rfl) rfl (step_store1 rfl rfl rfl rfl F.one29 rfl rfl ?hl ?hc) ⟨?hb, trivial⟩ ?hk ?_
      case hb => repeat (first | exact upd_eq _ _ _ | refine (upd_ne _ _ _ _ (by omega)).trans ?_ | assumption | exact hd _ (by omega) | exact hd0 _ (by omega) | exact hd1 _ (by omega) | exact hd2 _ (by omega) | fail)
      case hl => first | decide | (simp; done) | (simp; omega) | (rw [List.length_map]; exact at_len64 (by assumption) (by omega) (by omega))
      case hc => first | (simp only [List.set_cons_succ, List.set_cons_zero]; rfl) | rfl
      case hk => omega
      refine runsL_nil ?_
      refine runs_seq ?_
      refine runs_seq ?_
      refine runs_region ?_
      refine rl0 (gn rfl) rfl rfl (step_as rfl rfl) trivial ?_
      refine runsL_nil ?_
      refine runs_block ?_
      refine runs_growb (k := n + 2) (kn := n + 3) (q := 0) (e := 64) (by repeat (first | exact upd_eq _ _ _ | refine (upd_ne _ _ _ _ (by omega)).trans ?_ | assumption | exact hd _ (by omega) | exact hd0 _ (by omega) | exact hd1 _ (by omega) | exact hd2 _ (by omega) | fail)) rfl (by repeat (first | exact upd_eq _ _ _ | refine (upd_ne _ _ _ _ (by omega)).trans ?_ | assumption | exact hd _ (by omega) | exact hd0 _ (by omega) | exact hd1 _ (by omega) | exact hd2 _ (by omega) | fail)) (by omega) (by omega) ?_
      refine runs_loop (fun (i : Nat) (s : Go.Vm.S) => ∃ (j : Nat) (m0 : Nat) (b0 : Nat → Box), (s = ⟨mk [(1, .sc (.int .i64 x)), (2, .sl 64 (secsV l)), (3, .ref (n + 0) 0), (6, .ref (n + 1) 0), (7, .sc (.int .i64 0)), (8, .ref (n + 2) 0), (9, .sc (.int .i64 j))], m0, b0⟩) ∧ (i = S.length - j) ∧ (n + 4 ≤ m0) ∧ (∀ k, k < n → b0 k = bx k) ∧ (b0 (n + 0) = .cells [.sl 64 (secsV (S)), .sc (.int .i64 (w)), .sc (.int .i64 (f)), .sl 1 (boolsV (kp)), .sc (.bool (dn))]) ∧ (b0 (n + 1) = .cells [.sc (.slice none 0 0), .sc (.int .i64 0), .sc (.int .i64 0), .sc (.slice none 0 0), .sc (.bool false)]) ∧ (b0 (n + 2) = .cells [.own 64 (secsV ((List.range j).map (mixAt S x l f kp))) (n + 3), .sc (.int .i64 w), .sc (.int .i64 f), .sl 1 (boolsV kp), .sc (.bool dn)]) ∧ (b0 (n + 3) = .tail (secsV ((List.range j).map (mixAt S x l f kp))).length) ∧ (j ≤ S.length)) (S.length) ⟨_, sle ?_ (Nat.le_refl _), 0, _, _, rfl, rfl, ?_⟩ ?_
      · (repeat' (first | exact trivial | refine ⟨⟨_, rfl, ?_⟩, ?_⟩ | fail)); (all_goals first | exact VLe.refl _ | (rw [Int.natCast_add]; exact VLe.refl _) | exact VLe.own_sl _ _ _ | exact VLe.fl_sl _ _ | exact VLe.nil_sl _)
      · exact ⟨by omega, (fun k hk => by first | exact rfl | (refine (upd_ne _ _ _ _ (by omega)).trans ?_; first | exact rfl | skip; repeat (first | exact rfl | refine (upd_ne _ _ _ _ (by omega)).trans ?_ | assumption | exact hf0 _ (by omega) | exact hf1 _ (by omega) | exact hf2 _ (by omega) | exact hf0 _ (by omega) (by first | assumption | omega) | exact hf1 _ (by omega) (by first | assumption | omega))) | exact hf0 _ (by omega) | exact hf1 _ (by omega) | exact hf2 _ (by omega) | exact hf0 _ (by omega) (by first | assumption | omega) | exact hf1 _ (by omega) (by first | assumption | omega)), by repeat (first | exact upd_eq _ _ _ | assumption | refine (upd_ne _ _ _ _ (by omega)).trans ?_ | fail), by repeat (first | exact upd_eq _ _ _ | assumption | refine (upd_ne _ _ _ _ (by omega)).trans ?_ | fail), by (repeat (first | exact upd_eq _ _ _ | assumption | refine (upd_ne _ _ _ _ (by omega)).trans ?_ | fail)), by repeat (first | exact upd_eq _ _ _ | assumption | refine (upd_ne _ _ _ _ (by omega)).trans ?_ | fail), by omega⟩
      · rintro _ _ ⟨j, m0, b0, rfl, rfl, hm0, hf0, hB0_0, hB0_1, hB0_2, hB0_3, hF0_0⟩
        refine runs_know (fun hd0 => ?_)
        refine runs_bump 8 ?_
        simp only at hd0
        refine runs_seq ?_
        refine runs_seq ?_
        refine runs_region ?_
        refine rl0 (gn rfl) rfl rfl (step_mv rfl rfl) trivial ?_
        first | refine rl0 (gn rfl) rfl rfl (step_fieldAddr (off := 0) rfl (ev_mk rfl) Try.underlying32 rfl F.sz29 rfl) trivial ?_ | refine rl0 (gn rfl) rfl rfl (step_fieldAddr_ro (off := 0) rfl (ev_mk rfl) Try.underlying32 rfl F.sz29 rfl rfl) trivial ?_
        first
          | (refine' rl0 (gn rfl) rfl rfl (step_load_one rfl (ev_mk rfl) F.one29 ?hv) ⟨?hb, trivial⟩ ?_; (case hb => repeat (first | exact upd_eq _ _ _ | refine (upd_ne _ _ _ _ (by omega)).trans ?_ | assumption | exact hd _ (by omega) | exact hd0 _ (by omega) | exact hd1 _ (by omega) | exact hd2 _ (by omega) | fail)); (case hv => exact rfl))
          | (refine rl0 (gn rfl) rfl rfl (step_load_ro rfl (ev_mk rfl) F.one29 rfl) trivial ?_)
        first
          | refine rl0 (gn rfl) rfl rfl (step_len rfl rfl (ev_mk rfl) (.inl ⟨⟨_, Try.underlying29⟩, .inl ⟨_, _, .inl rfl, List.length_map _⟩⟩)) trivial ?_
          | refine rl0 (gn rfl) rfl rfl (step_len rfl rfl (ev_mk rfl) (.inl ⟨⟨_, Try.underlying29⟩, .inl ⟨_, _, .inl rfl, rfl⟩⟩)) trivial ?_
          | refine rl0 (gn rfl) rfl rfl (step_len rfl rfl (ev_mk rfl) (.inl ⟨⟨_, Try.underlying29⟩, .inl ⟨_, _, .inr (.inl rfl), List.length_map _⟩⟩)) trivial ?_
          | refine rl0 (gn rfl) rfl rfl (step_len rfl rfl (ev_mk rfl) (.inl ⟨⟨_, Try.underlying29⟩, .inl ⟨_, _, .inr (.inl rfl), rfl⟩⟩)) trivial ?_
          | refine rl0 (gn rfl) rfl rfl (step_len rfl rfl (ev_mk rfl) (.inl ⟨⟨_, Try.underlying29⟩, .inl ⟨_, _, .inr (.inr ⟨_, rfl⟩), List.length_map _⟩⟩)) trivial ?_
          | refine rl0 (gn rfl) rfl rfl (step_len rfl rfl (ev_mk rfl) (.inl ⟨⟨_, Try.underlying29⟩, .inl ⟨_, _, .inr (.inr ⟨_, rfl⟩), rfl⟩⟩)) trivial ?_
          | refine rl0 (gn rfl) rfl rfl (step_len rfl rfl (ev_mk rfl) (.inl ⟨⟨_, Try.underlying29⟩, .inr (.inl ⟨_, _, _, _, rfl⟩)⟩)) trivial ?_
          | refine rl0 (gn rfl) rfl rfl (step_len (m := 0) rfl rfl (ev_mk rfl) (.inl ⟨⟨_, Try.underlying29⟩, .inr (.inr ⟨_, _, rfl⟩)⟩)) trivial ?_
        refine rl_lss (gn rfl) rfl rfl rfl rfl rfl (fun h3 => ?_) (fun h3 => ?_)
        · skip
          refine runsL_nil ?_
          refine runs_cond true (ev_mk rfl) (fun _ => ?_) (fun h_ => nomatch h_)
          refine runs_skip ?_
          refine runs_seq ?_
          refine runs_block ?_
          refine runs_seq ?_
          refine runs_region ?_
          refine rl0 (gn rfl) rfl rfl (step_mv rfl rfl) trivial ?_
          refine rl0 (gn rfl) rfl rfl (step_mv rfl rfl) trivial ?_
          refine rl_geq (gn rfl) rfl rfl rfl rfl rfl (fun h4 => ?_) (fun h4 => ?_)
          · skip
            refine rl0 (gn rfl) rfl rfl (step_mv rfl rfl) trivial ?_
            refine rl0 (gy rfl rfl rfl rfl rfl rfl) rfl rfl (step_mv rfl rfl) trivial ?_
            refine rl0 (gy rfl rfl rfl rfl rfl rfl) rfl rfl (step_mv rfl rfl) trivial ?_
            refine rl0 (gy rfl rfl rfl rfl rfl rfl) rfl rfl (step_sub rfl (ev_mk rfl) (ev_mk rfl) (w64 (by omega))) trivial ?_
            refine rl0 (gy rfl rfl rfl rfl rfl rfl) rfl rfl (step_mv rfl rfl) trivial ?_
            first
              | refine rl0 (gy rfl rfl rfl rfl rfl rfl) rfl rfl (step_len rfl rfl (ev_mk rfl) (.inl ⟨⟨_, Try.underlying29⟩, .inl ⟨_, _, .inl rfl, List.length_map _⟩⟩)) trivial ?_
              | refine rl0 (gy rfl rfl rfl rfl rfl rfl) rfl rfl (step_len rfl rfl (ev_mk rfl) (.inl ⟨⟨_, Try.underlying29⟩, .inl ⟨_, _, .inl rfl, rfl⟩⟩)) trivial ?_
              | refine rl0 (gy rfl rfl rfl rfl rfl rfl) rfl rfl (step_len rfl rfl (ev_mk rfl) (.inl ⟨⟨_, Try.underlying29⟩, .inl ⟨_, _, .inr (.inl rfl), List.length_map _⟩⟩)) trivial ?_
              | refine rl0 (gy rfl rfl rfl rfl rfl rfl) rfl rfl (step_len rfl rfl (ev_mk rfl) (.inl ⟨⟨_, Try.underlying29⟩, .inl ⟨_, _, .inr (.inl rfl), rfl⟩⟩)) trivial ?_
              | refine rl0 (gy rfl rfl rfl rfl rfl rfl) rfl rfl (step_len rfl rfl (ev_mk rfl) (.inl ⟨⟨_, Try.underlying29⟩, .inl ⟨_, _, .inr (.inr ⟨_, rfl⟩), List.length_map _⟩⟩)) trivial ?_
              | refine rl0 (gy rfl rfl rfl rfl rfl rfl) rfl rfl (step_len rfl rfl (ev_mk rfl) (.inl ⟨⟨_, Try.underlying29⟩, .inl ⟨_, _, .inr (.inr ⟨_, rfl⟩), rfl⟩⟩)) trivial ?_
              | refine rl0 (gy rfl rfl rfl rfl rfl rfl) rfl rfl (step_len rfl rfl (ev_mk rfl) (.inl ⟨⟨_, Try.underlying29⟩, .inr (.inl ⟨_, _, _, _, rfl⟩)⟩)) trivial ?_
              | refine rl0 (gy rfl rfl rfl rfl rfl rfl) rfl rfl (step_len (m := 0) rfl rfl (ev_mk rfl) (.inl ⟨⟨_, Try.underlying29⟩, .inr (.inr ⟨_, _, rfl⟩)⟩)) trivial ?_
            refine rl_lss (gy rfl rfl rfl rfl rfl rfl) rfl rfl rfl rfl rfl (fun h5 => ?_) (fun h5 => ?_)
            · skip
              refine rl0 (gn rfl) rfl rfl (step_pick rfl (ev_mk rfl) (ev_mk rfl)) trivial ?_
              refine rl0 (gn rfl) rfl rfl (step_mv rfl rfl) trivial ?_
              first
                | (refine' rl0 (gy rfl rfl rfl rfl rfl rfl) rfl rfl (step_load_all rfl rfl F.agg32 ?hl) ⟨?hb, trivial⟩ ?_; (case hb => repeat (first | exact upd_eq _ _ _ | refine (upd_ne _ _ _ _ (by omega)).trans ?_ | assumption | exact hd _ (by omega) | exact hd0 _ (by omega) | exact hd1 _ (by omega) | exact hd2 _ (by omega) | fail)); (case hl => first | rfl | (simp; done) | (rw [List.length_map]; exact at_len64 (by assumption) (by omega) (by omega))))
                | (refine rl0 (gy rfl rfl rfl rfl rfl rfl) rfl rfl (step_load_ro_all rfl rfl F.agg32 (by first | rfl | (simp; done) | (rw [List.length_map]; exact at_len64 (by assumption) (by omega) (by omega)))) trivial ?_)
                | (refine' rl0 (gy rfl rfl rfl rfl rfl rfl) rfl rfl (step_load_agg rfl (ev_mk rfl) F.agg32 ?hc ?hl) ⟨?hb, trivial⟩ ?_; (case hb => repeat (first | exact upd_eq _ _ _ | refine (upd_ne _ _ _ _ (by omega)).trans ?_ | assumption | exact hd _ (by omega) | exact hd0 _ (by omega) | exact hd1 _ (by omega) | exact hd2 _ (by omega) | fail)); (case hc => rfl); (case hl => first | rfl | (simp; done)))
                | (refine rl0 (gy rfl rfl rfl rfl rfl rfl) rfl rfl (step_load_ro_agg rfl (ev_mk rfl) F.agg32 rfl rfl) trivial ?_)
              refine rl0 (gy rfl rfl rfl rfl rfl rfl) rfl rfl (step_mv rfl rfl) trivial ?_
              refine rl0 (gy rfl rfl rfl rfl rfl rfl) rfl rfl (step_mv rfl rfl) trivial ?_
              refine rl0 (gy rfl rfl rfl rfl rfl rfl) rfl rfl (step_sub rfl (ev_mk rfl) (ev_mk rfl) (w64 (by omega))) trivial ?_
              refine rl0 (gy rfl rfl rfl rfl rfl rfl) rfl rfl (step_callc rfl Try.func29 rfl rfl rfl (kept_i S w f kp dn ((j : Int) - x) (by omega)) (by repeat (first | exact .nil | refine .cons ?_ ?_ | exact VLe.refl _ | exact VLe.own_sl _ _ _ | exact VLe.fl_sl _ _ | exact VLe.nil_sl _ | exact VLe.nil_fl _ | refine VLe.agg ?_))) trivial ?_
              refine rl0 (gn rfl) rfl rfl (step_pick rfl (ev_mk rfl) (ev_mk rfl)) trivial ?_
              refine runsL_nil ?_
              refine runs_cond _ (ev_mk rfl) (fun h6 => ?_) (fun h6 => ?_)
              · skip
                refine runs_draw (by kernel_rfl) (by kernel_rfl) (by kernel_rfl) ?_
                first | refine dl0 (gn rfl) rfl rfl (step_fieldAddr (off := 0) rfl (ev_mk rfl) Try.underlying32 rfl F.sz29 rfl) trivial ?_ | refine dl0 (gn rfl) rfl rfl (step_fieldAddr_ro (off := 0) rfl (ev_mk rfl) Try.underlying32 rfl F.sz29 rfl rfl) trivial ?_
                first
                  | (refine' dl0 (gn rfl) rfl rfl (step_load_one rfl (ev_mk rfl) F.one29 ?hv) ⟨?hb, trivial⟩ ?_; (case hb => repeat (first | exact upd_eq _ _ _ | refine (upd_ne _ _ _ _ (by omega)).trans ?_ | assumption | exact hd _ (by omega) | exact hd0 _ (by omega) | exact hd1 _ (by omega) | exact hd2 _ (by omega) | fail)); (case hv => exact rfl))
                  | (refine dl0 (gn rfl) rfl rfl (step_load_ro rfl (ev_mk rfl) F.one29 rfl) trivial ?_)
                refine dl0 (gn rfl) rfl rfl (step_mv rfl rfl) trivial ?_
                refine dl0 (gn rfl) rfl rfl (step_mv rfl rfl) trivial ?_
                refine dl0 (gn rfl) rfl rfl (step_mv rfl rfl) trivial ?_
                refine dl0 (gn rfl) rfl rfl (step_sub rfl (ev_mk rfl) (ev_mk rfl) (w64 (by omega))) trivial ?_
                first
                  | (refine' dl0 (gn rfl) rfl rfl (step_index rfl (ev_mk rfl) (.inl rfl) (ev_mk rfl) Try.underlying29 F.sz48 (by omega) ?hr) trivial ?_; (case hr => exact map_at _ _ _ (by omega) (by omega)))
                  | (refine' dl0 (gn rfl) rfl rfl (step_index rfl (ev_mk rfl) (.inr (.inl rfl)) (ev_mk rfl) Try.underlying29 F.sz48 (by omega) ?hr) trivial ?_; (case hr => exact map_at _ _ _ (by omega) (by omega)))
                  | (refine' dl0 (gn rfl) rfl rfl (step_index rfl (ev_mk rfl) (.inr (.inr ⟨_, rfl⟩)) (ev_mk rfl) Try.underlying29 F.sz48 (by omega) ?hr) trivial ?_; (case hr => exact map_at _ _ _ (by omega) (by omega)))
                  | (refine dl0 (gn rfl) rfl rfl (step_index_msl rfl (ev_mk rfl) (ev_mk rfl) Try.underlying29 F.sz48 (by omega) (by omega)) trivial ?_)
                first
                  | (refine' dl0 (gn rfl) rfl rfl (step_load_all rfl rfl F.agg48 ?hl) ⟨?hb, trivial⟩ ?_; (case hb => repeat (first | exact upd_eq _ _ _ | refine (upd_ne _ _ _ _ (by omega)).trans ?_ | assumption | exact hd _ (by omega) | exact hd0 _ (by omega) | exact hd1 _ (by omega) | exact hd2 _ (by omega) | fail)); (case hl => first | rfl | (simp; done) | (rw [List.length_map]; exact at_len64 (by assumption) (by omega) (by omega))))
                  | (refine dl0 (gn rfl) rfl rfl (step_load_ro_all rfl rfl F.agg48 (by first | rfl | (simp; done) | (rw [List.length_map]; exact at_len64 (by assumption) (by omega) (by omega)))) trivial ?_)
                  | (refine' dl0 (gn rfl) rfl rfl (step_load_agg rfl (ev_mk rfl) F.agg48 ?hc ?hl) ⟨?hb, trivial⟩ ?_; (case hb => repeat (first | exact upd_eq _ _ _ | refine (upd_ne _ _ _ _ (by omega)).trans ?_ | assumption | exact hd _ (by omega) | exact hd0 _ (by omega) | exact hd1 _ (by omega) | exact hd2 _ (by omega) | fail)); (case hc => rfl); (case hl => first | rfl | (simp; done)))
                  | (refine dl0 (gn rfl) rfl rfl (step_load_ro_agg rfl (ev_mk rfl) F.agg48 rfl rfl) trivial ?_)
                refine dl0 (gn rfl) rfl rfl (step_lit rfl Try.underlying29 F.sz48 F.zero48 (by first | rfl | simp) (by first | rfl | simp | decide) (by decide) rfl rfl (by first | (simp [V.cs, V.stor, oneV]; done) | (simp [V.cs, V.stor, oneV]; exact at_len64 (by assumption) (by omega) (by omega))) rfl) trivial ?_
                first
                  | (refine' dl1 (gn rfl) rfl rfl (step_append_own rfl rfl rfl Try.underlying29 ⟨_, Try.underlying29, fun k_ => by intro h_; cases h_⟩ F.el48 (ev_mk rfl) (ev_mk rfl) (gives_sl (.inl rfl)) ?hg) ⟨?hb, trivial⟩ (by omega) ?_; (case hb => repeat (first | exact upd_eq _ _ _ | refine (upd_ne _ _ _ _ (by omega)).trans ?_ | assumption | exact hd _ (by omega) | exact hd0 _ (by omega) | exact hd1 _ (by omega) | exact hd2 _ (by omega) | fail)); (case hg => (simp [secsV]; omega)))
                  | (refine' dl1 (gn rfl) rfl rfl (step_append_new (k := m0 + 0) rfl rfl rfl Try.underlying29 ⟨_, Try.underlying29, fun k_ => by intro h_; cases h_⟩ F.el48 (ev_mk rfl) (.inl rfl) (ev_mk rfl) (gives_sl (.inl rfl)) ?hg) ⟨?hb, trivial⟩ (by omega) ?_; (case hb => repeat (first | exact upd_eq _ _ _ | refine (upd_ne _ _ _ _ (by omega)).trans ?_ | assumption | exact hd _ (by omega) | exact hd0 _ (by omega) | exact hd1 _ (by omega) | exact hd2 _ (by omega) | fail)); (case hg => (simp [secsV]; omega)))
                  | (refine' dl1 (gn rfl) rfl rfl (step_append_new (k := m0 + 0) (xs := []) rfl rfl rfl Try.underlying29 ⟨_, Try.underlying29, fun k_ => by intro h_; cases h_⟩ F.el48 (ev_mk rfl) (.inr ⟨rfl, rfl⟩) (ev_mk rfl) (gives_sl (.inl rfl)) ?hg) ⟨?hb, trivial⟩ (by omega) ?_; (case hb => repeat (first | exact upd_eq _ _ _ | refine (upd_ne _ _ _ _ (by omega)).trans ?_ | assumption | exact hd _ (by omega) | exact hd0 _ (by omega) | exact hd1 _ (by omega) | exact hd2 _ (by omega) | fail)); (case hg => (simp [secsV]; omega)))
                  | (refine' dl1 (gn rfl) rfl rfl (step_append_own rfl rfl rfl Try.underlying29 ⟨_, Try.underlying29, fun k_ => by intro h_; cases h_⟩ F.el48 (ev_mk rfl) (ev_mk rfl) (gives_sl (.inr (.inl rfl))) ?hg) ⟨?hb, trivial⟩ (by omega) ?_; (case hb => repeat (first | exact upd_eq _ _ _ | refine (upd_ne _ _ _ _ (by omega)).trans ?_ | assumption | exact hd _ (by omega) | exact hd0 _ (by omega) | exact hd1 _ (by omega) | exact hd2 _ (by omega) | fail)); (case hg => (simp [secsV]; omega)))
                  | (refine' dl1 (gn rfl) rfl rfl (step_append_new (k := m0 + 0) rfl rfl rfl Try.underlying29 ⟨_, Try.underlying29, fun k_ => by intro h_; cases h_⟩ F.el48 (ev_mk rfl) (.inl rfl) (ev_mk rfl) (gives_sl (.inr (.inl rfl))) ?hg) ⟨?hb, trivial⟩ (by omega) ?_; (case hb => repeat (first | exact upd_eq _ _ _ | refine (upd_ne _ _ _ _ (by omega)).trans ?_ | assumption | exact hd _ (by omega) | exact hd0 _ (by omega) | exact hd1 _ (by omega) | exact hd2 _ (by omega) | fail)); (case hg => (simp [secsV]; omega)))
                  | (refine' dl1 (gn rfl) rfl rfl (step_append_new (k := m0 + 0) (xs := []) rfl rfl rfl Try.underlying29 ⟨_, Try.underlying29, fun k_ => by intro h_; cases h_⟩ F.el48 (ev_mk rfl) (.inr ⟨rfl, rfl⟩) (ev_mk rfl) (gives_sl (.inr (.inl rfl))) ?hg) ⟨?hb, trivial⟩ (by omega) ?_; (case hb => repeat (first | exact upd_eq _ _ _ | refine (upd_ne _ _ _ _ (by omega)).trans ?_ | assumption | exact hd _ (by omega) | exact hd0 _ (by omega) | exact hd1 _ (by omega) | exact hd2 _ (by omega) | fail)); (case hg => (simp [secsV]; omega)))
                  | (refine' dl1 (gn rfl) rfl rfl (step_append_own rfl rfl rfl Try.underlying29 ⟨_, Try.underlying29, fun k_ => by intro h_; cases h_⟩ F.el48 (ev_mk rfl) (ev_mk rfl) (gives_sl (.inr (.inr ⟨_, rfl⟩))) ?hg) ⟨?hb, trivial⟩ (by omega) ?_; (case hb => repeat (first | exact upd_eq _ _ _ | refine (upd_ne _ _ _ _ (by omega)).trans ?_ | assumption | exact hd _ (by omega) | exact hd0 _ (by omega) | exact hd1 _ (by omega) | exact hd2 _ (by omega) | fail)); (case hg => (simp [secsV]; omega)))
                  | (refine' dl1 (gn rfl) rfl rfl (step_append_new (k := m0 + 0) rfl rfl rfl Try.underlying29 ⟨_, Try.underlying29, fun k_ => by intro h_; cases h_⟩ F.el48 (ev_mk rfl) (.inl rfl) (ev_mk rfl) (gives_sl (.inr (.inr ⟨_, rfl⟩))) ?hg) ⟨?hb, trivial⟩ (by omega) ?_; (case hb => repeat (first | exact upd_eq _ _ _ | refine (upd_ne _ _ _ _ (by omega)).trans ?_ | assumption | exact hd _ (by omega) | exact hd0 _ (by omega) | exact hd1 _ (by omega) | exact hd2 _ (by omega) | fail)); (case hg => (simp [secsV]; omega)))
                  | (refine' dl1 (gn rfl) rfl rfl (step_append_new (k := m0 + 0) (xs := []) rfl rfl rfl Try.underlying29 ⟨_, Try.underlying29, fun k_ => by intro h_; cases h_⟩ F.el48 (ev_mk rfl) (.inr ⟨rfl, rfl⟩) (ev_mk rfl) (gives_sl (.inr (.inr ⟨_, rfl⟩))) ?hg) ⟨?hb, trivial⟩ (by omega) ?_; (case hb => repeat (first | exact upd_eq _ _ _ | refine (upd_ne _ _ _ _ (by omega)).trans ?_ | assumption | exact hd _ (by omega) | exact hd0 _ (by omega) | exact hd1 _ (by omega) | exact hd2 _ (by omega) | fail)); (case hg => (simp [secsV]; omega)))
                  | (refine' dl1 (gn rfl) rfl rfl (step_append_own rfl rfl rfl Try.underlying29 ⟨_, Try.underlying29, fun k_ => by intro h_; cases h_⟩ F.el48 (ev_mk rfl) (ev_mk rfl) gives_nil ?hg) ⟨?hb, trivial⟩ (by omega) ?_; (case hb => repeat (first | exact upd_eq _ _ _ | refine (upd_ne _ _ _ _ (by omega)).trans ?_ | assumption | exact hd _ (by omega) | exact hd0 _ (by omega) | exact hd1 _ (by omega) | exact hd2 _ (by omega) | fail)); (case hg => (simp [secsV]; omega)))
                  | (refine' dl1 (gn rfl) rfl rfl (step_append_new (k := m0 + 0) rfl rfl rfl Try.underlying29 ⟨_, Try.underlying29, fun k_ => by intro h_; cases h_⟩ F.el48 (ev_mk rfl) (.inl rfl) (ev_mk rfl) gives_nil ?hg) ⟨?hb, trivial⟩ (by omega) ?_; (case hb => repeat (first | exact upd_eq _ _ _ | refine (upd_ne _ _ _ _ (by omega)).trans ?_ | assumption | exact hd _ (by omega) | exact hd0 _ (by omega) | exact hd1 _ (by omega) | exact hd2 _ (by omega) | fail)); (case hg => (simp [secsV]; omega)))
                  | (refine' dl1 (gn rfl) rfl rfl (step_append_new (k := m0 + 0) (xs := []) rfl rfl rfl Try.underlying29 ⟨_, Try.underlying29, fun k_ => by intro h_; cases h_⟩ F.el48 (ev_mk rfl) (.inr ⟨rfl, rfl⟩) (ev_mk rfl) gives_nil ?hg) ⟨?hb, trivial⟩ (by omega) ?_; (case hb => repeat (first | exact upd_eq _ _ _ | refine (upd_ne _ _ _ _ (by omega)).trans ?_ | assumption | exact hd _ (by omega) | exact hd0 _ (by omega) | exact hd1 _ (by omega) | exact hd2 _ (by omega) | fail)); (case hg => (simp [secsV]; omega)))
                  | (refine' dl1 (gn rfl) rfl rfl (step_append_own rfl rfl rfl Try.underlying29 ⟨_, Try.underlying29, fun k_ => by intro h_; cases h_⟩ F.el48 (ev_mk rfl) (ev_mk rfl) (gives_msl ?hl ?hy) ?hg) ⟨?hb, ⟨?hm, trivial⟩⟩ (by omega) ?_; (case hb => repeat (first | exact upd_eq _ _ _ | refine (upd_ne _ _ _ _ (by omega)).trans ?_ | assumption | exact hd _ (by omega) | exact hd0 _ (by omega) | exact hd1 _ (by omega) | exact hd2 _ (by omega) | fail)); (case hg => (simp [secsV]; omega)); (case hm => repeat (first | exact upd_eq _ _ _ | refine (upd_ne _ _ _ _ (by omega)).trans ?_ | assumption | exact hd _ (by omega) | exact hd0 _ (by omega) | exact hd1 _ (by omega) | exact hd2 _ (by omega) | fail)); (case hl => (rw [List.length_map]; exact at_len64 (by assumption) (by omega) (by omega))); (case hy => rfl))
                  | (refine' dl1 (gn rfl) rfl rfl (step_append_new (k := m0 + 0) rfl rfl rfl Try.underlying29 ⟨_, Try.underlying29, fun k_ => by intro h_; cases h_⟩ F.el48 (ev_mk rfl) (.inl rfl) (ev_mk rfl) (gives_msl ?hl ?hy) ?hg) ⟨?hb, ⟨?hm, trivial⟩⟩ (by omega) ?_; (case hb => repeat (first | exact upd_eq _ _ _ | refine (upd_ne _ _ _ _ (by omega)).trans ?_ | assumption | exact hd _ (by omega) | exact hd0 _ (by omega) | exact hd1 _ (by omega) | exact hd2 _ (by omega) | fail)); (case hg => (simp [secsV]; omega)); (case hm => repeat (first | exact upd_eq _ _ _ | refine (upd_ne _ _ _ _ (by omega)).trans ?_ | assumption | exact hd _ (by omega) | exact hd0 _ (by omega) | exact hd1 _ (by omega) | exact hd2 _ (by omega) | fail)); (case hl => (rw [List.length_map]; exact at_len64 (by assumption) (by omega) (by omega))); (case hy => rfl))
                  | (refine' dl1 (gn rfl) rfl rfl (step_append_new (k := m0 + 0) (xs := []) rfl rfl rfl Try.underlying29 ⟨_, Try.underlying29, fun k_ => by intro h_; cases h_⟩ F.el48 (ev_mk rfl) (.inr ⟨rfl, rfl⟩) (ev_mk rfl) (gives_msl ?hl ?hy) ?hg) ⟨?hb, ⟨?hm, trivial⟩⟩ (by omega) ?_; (case hb => repeat (first | exact upd_eq _ _ _ | refine (upd_ne _ _ _ _ (by omega)).trans ?_ | assumption | exact hd _ (by omega) | exact hd0 _ (by omega) | exact hd1 _ (by omega) | exact hd2 _ (by omega) | fail)); (case hg => (simp [secsV]; omega)); (case hm => repeat (first | exact upd_eq _ _ _ | refine (upd_ne _ _ _ _ (by omega)).trans ?_ | assumption | exact hd _ (by omega) | exact hd0 _ (by omega) | exact hd1 _ (by omega) | exact hd2 _ (by omega) | fail)); (case hl => (rw [List.length_map]; exact at_len64 (by assumption) (by omega) (by omega))); (case hy => rfl))
                first | refine dl0 (gn rfl) rfl rfl (step_fieldAddr (off := 0) rfl (ev_mk rfl) Try.underlying32 rfl F.sz29 rfl) trivial ?_ | refine dl0 (gn rfl) rfl rfl (step_fieldAddr_ro (off := 0) rfl (ev_mk rfl) Try.underlying32 rfl F.sz29 rfl rfl) trivial ?_
                refine' dls (gn rfl) rfl (step_store1 rfl rfl rfl rfl F.one29 rfl rfl ?hl ?hc) ⟨?hb, trivial⟩ ?hk ?_
                case hb => repeat (first | exact upd_eq _ _ _ | refine (upd_ne _ _ _ _ (by omega)).trans ?_ | assumption | exact hd _ (by omega) | exact hd0 _ (by omega) | exact hd1 _ (by omega) | exact hd2 _ (by omega) | fail)
                case hl => first | decide | (simp; done) | (simp; omega) | (rw [List.length_map]; exact at_len64 (by assumption) (by omega) (by omega))
                case hc => first | (simp only [List.set_cons_succ, List.set_cons_zero]; rfl) | rfl
                case hk => omega
                refine dlnil ?_ ?_
                · repeat' (first | exact trivial | exact .inr (ap0 _ _ _ _) | exact .inr (ap2 _ _ _ _) | exact .inr (ap3 _ _ _ _) | exact .inr ⟨by first | (simp; done) | (simp; omega), by first | (simp; done) | (simp; omega)⟩ | exact .inl (by kernel_rfl) | refine ⟨?_, ?_⟩ | fail)
                refine runs_region ?_
                refine rl0 (gn rfl) rfl rfl (step_mv rfl rfl) trivial ?_
                refine rl0 (gn rfl) rfl rfl (step_add rfl (ev_mk rfl) (ev_mk rfl) (w64 (by omega))) trivial ?_
                refine rl0 (gn rfl) rfl rfl (step_as rfl rfl) trivial ?_
                refine runsL_nil ?_
                have hr_ := mixAt_in (S := S) (l := l) (f := f) (kp := kp) (i := j) (x := x) (by omega) (by omega) (by assumption)
                have hsn_ := snoc_ _ j _ hr_
                refine ⟨_, _, ?_, sle ?_ (Nat.le_refl _), j + 1, _, _, rfl, rfl, by omega, (fun k hk => by repeat (first | exact hf0 k hk | refine (upd_ne _ _ _ _ (by first | assumption | omega)).trans ?_ | fail)), by repeat (first | exact upd_eq _ _ _ | assumption | refine (upd_ne _ _ _ _ (by omega)).trans ?_ | fail), by repeat (first | exact upd_eq _ _ _ | assumption | refine (upd_ne _ _ _ _ (by omega)).trans ?_ | fail), by (rw [← hsn_]; repeat (first | exact upd_eq _ _ _ | assumption | refine (upd_ne _ _ _ _ (by omega)).trans ?_ | fail)), by (rw [← hsn_]; repeat (first | exact upd_eq _ _ _ | assumption | refine (upd_ne _ _ _ _ (by omega)).trans ?_ | fail)), by omega⟩
                · omega
                · (repeat' (first | exact trivial | refine ⟨⟨_, rfl, ?_⟩, ?_⟩ | fail)); (all_goals first | exact VLe.refl _ | (rw [Int.natCast_add]; exact VLe.refl _) | exact VLe.own_sl _ _ _ | exact VLe.fl_sl _ _ | exact VLe.nil_sl _)
              · skip
                refine runs_draw (by kernel_rfl) (by kernel_rfl) (by kernel_rfl) ?_
                first | refine dl0 (gn rfl) rfl rfl (step_fieldAddr (off := 0) rfl (ev_mk rfl) Try.underlying32 rfl F.sz29 rfl) trivial ?_ | refine dl0 (gn rfl) rfl rfl (step_fieldAddr_ro (off := 0) rfl (ev_mk rfl) Try.underlying32 rfl F.sz29 rfl rfl) trivial ?_
                first
                  | (refine' dl0 (gn rfl) rfl rfl (step_load_one rfl (ev_mk rfl) F.one29 ?hv) ⟨?hb, trivial⟩ ?_; (case hb => repeat (first | exact upd_eq _ _ _ | refine (upd_ne _ _ _ _ (by omega)).trans ?_ | assumption | exact hd _ (by omega) | exact hd0 _ (by omega) | exact hd1 _ (by omega) | exact hd2 _ (by omega) | fail)); (case hv => exact rfl))
                  | (refine dl0 (gn rfl) rfl rfl (step_load_ro rfl (ev_mk rfl) F.one29 rfl) trivial ?_)
                first | refine dl0 (gn rfl) rfl rfl (step_fieldAddr (off := 0) rfl (ev_mk rfl) Try.underlying32 rfl F.sz29 rfl) trivial ?_ | refine dl0 (gn rfl) rfl rfl (step_fieldAddr_ro (off := 0) rfl (ev_mk rfl) Try.underlying32 rfl F.sz29 rfl rfl) trivial ?_
                first
                  | (refine' dl0 (gn rfl) rfl rfl (step_load_one rfl (ev_mk rfl) F.one29 ?hv) ⟨?hb, trivial⟩ ?_; (case hb => repeat (first | exact upd_eq _ _ _ | refine (upd_ne _ _ _ _ (by omega)).trans ?_ | assumption | exact hd _ (by omega) | exact hd0 _ (by omega) | exact hd1 _ (by omega) | exact hd2 _ (by omega) | fail)); (case hv => exact rfl))
                  | (refine dl0 (gn rfl) rfl rfl (step_load_ro rfl (ev_mk rfl) F.one29 rfl) trivial ?_)
                refine dl0 (gn rfl) rfl rfl (step_mv rfl rfl) trivial ?_
                first
                  | (refine' dl0 (gn rfl) rfl rfl (step_index rfl (ev_mk rfl) (.inl rfl) (ev_mk rfl) Try.underlying29 F.sz48 (by omega) ?hr) trivial ?_; (case hr => exact map_at _ _ _ (by omega) (by omega)))
                  | (refine' dl0 (gn rfl) rfl rfl (step_index rfl (ev_mk rfl) (.inr (.inl rfl)) (ev_mk rfl) Try.underlying29 F.sz48 (by omega) ?hr) trivial ?_; (case hr => exact map_at _ _ _ (by omega) (by omega)))
                  | (refine' dl0 (gn rfl) rfl rfl (step_index rfl (ev_mk rfl) (.inr (.inr ⟨_, rfl⟩)) (ev_mk rfl) Try.underlying29 F.sz48 (by omega) ?hr) trivial ?_; (case hr => exact map_at _ _ _ (by omega) (by omega)))
                  | (refine dl0 (gn rfl) rfl rfl (step_index_msl rfl (ev_mk rfl) (ev_mk rfl) Try.underlying29 F.sz48 (by omega) (by omega)) trivial ?_)
                first
                  | (refine' dl0 (gn rfl) rfl rfl (step_load_all rfl rfl F.agg48 ?hl) ⟨?hb, trivial⟩ ?_; (case hb => repeat (first | exact upd_eq _ _ _ | refine (upd_ne _ _ _ _ (by omega)).trans ?_ | assumption | exact hd _ (by omega) | exact hd0 _ (by omega) | exact hd1 _ (by omega) | exact hd2 _ (by omega) | fail)); (case hl => first | rfl | (simp; done) | (rw [List.length_map]; exact at_len64 (by assumption) (by omega) (by omega))))
                  | (refine dl0 (gn rfl) rfl rfl (step_load_ro_all rfl rfl F.agg48 (by first | rfl | (simp; done) | (rw [List.length_map]; exact at_len64 (by assumption) (by omega) (by omega)))) trivial ?_)
                  | (refine' dl0 (gn rfl) rfl rfl (step_load_agg rfl (ev_mk rfl) F.agg48 ?hc ?hl) ⟨?hb, trivial⟩ ?_; (case hb => repeat (first | exact upd_eq _ _ _ | refine (upd_ne _ _ _ _ (by omega)).trans ?_ | assumption | exact hd _ (by omega) | exact hd0 _ (by omega) | exact hd1 _ (by omega) | exact hd2 _ (by omega) | fail)); (case hc => rfl); (case hl => first | rfl | (simp; done)))
                  | (refine dl0 (gn rfl) rfl rfl (step_load_ro_agg rfl (ev_mk rfl) F.agg48 rfl rfl) trivial ?_)
                refine dl0 (gn rfl) rfl rfl (step_lit rfl Try.underlying29 F.sz48 F.zero48 (by first | rfl | simp) (by first | rfl | simp | decide) (by decide) rfl rfl (by first | (simp [V.cs, V.stor, oneV]; done) | (simp [V.cs, V.stor, oneV]; exact at_len64 (by assumption) (by omega) (by omega))) rfl) trivial ?_
                first
                  | (refine' dl1 (gn rfl) rfl rfl (step_append_own rfl rfl rfl Try.underlying29 ⟨_, Try.underlying29, fun k_ => by intro h_; cases h_⟩ F.el48 (ev_mk rfl) (ev_mk rfl) (gives_sl (.inl rfl)) ?hg) ⟨?hb, trivial⟩ (by omega) ?_; (case hb => repeat (first | exact upd_eq _ _ _ | refine (upd_ne _ _ _ _ (by omega)).trans ?_ | assumption | exact hd _ (by omega) | exact hd0 _ (by omega) | exact hd1 _ (by omega) | exact hd2 _ (by omega) | fail)); (case hg => (simp [secsV]; omega)))
                  | (refine' dl1 (gn rfl) rfl rfl (step_append_new (k := m0 + 0) rfl rfl rfl Try.underlying29 ⟨_, Try.underlying29, fun k_ => by intro h_; cases h_⟩ F.el48 (ev_mk rfl) (.inl rfl) (ev_mk rfl) (gives_sl (.inl rfl)) ?hg) ⟨?hb, trivial⟩ (by omega) ?_; (case hb => repeat (first | exact upd_eq _ _ _ | refine (upd_ne _ _ _ _ (by omega)).trans ?_ | assumption | exact hd _ (by omega) | exact hd0 _ (by omega) | exact hd1 _ (by omega) | exact hd2 _ (by omega) | fail)); (case hg => (simp [secsV]; omega)))
                  | (refine' dl1 (gn rfl) rfl rfl (step_append_new (k := m0 + 0) (xs := []) rfl rfl rfl Try.underlying29 ⟨_, Try.underlying29, fun k_ => by intro h_; cases h_⟩ F.el48 (ev_mk rfl) (.inr ⟨rfl, rfl⟩) (ev_mk rfl) (gives_sl (.inl rfl)) ?hg) ⟨?hb, trivial⟩ (by omega) ?_; (case hb => repeat (first | exact upd_eq _ _ _ | refine (upd_ne _ _ _ _ (by omega)).trans ?_ | assumption | exact hd _ (by omega) | exact hd0 _ (by omega) | exact hd1 _ (by omega) | exact hd2 _ (by omega) | fail)); (case hg => (simp [secsV]; omega)))
                  | (refine' dl1 (gn rfl) rfl rfl (step_append_own rfl rfl rfl Try.underlying29 ⟨_, Try.underlying29, fun k_ => by intro h_; cases h_⟩ F.el48 (ev_mk rfl) (ev_mk rfl) (gives_sl (.inr (.inl rfl))) ?hg) ⟨?hb, trivial⟩ (by omega) ?_; (case hb => repeat (first | exact upd_eq _ _ _ | refine (upd_ne _ _ _ _ (by omega)).trans ?_ | assumption | exact hd _ (by omega) | exact hd0 _ (by omega) | exact hd1 _ (by omega) | exact hd2 _ (by omega) | fail)); (case hg => (simp [secsV]; omega)))
                  | (refine' dl1 (gn rfl) rfl rfl (step_append_new (k := m0 + 0) rfl rfl rfl Try.underlying29 ⟨_, Try.underlying29, fun k_ => by intro h_; cases h_⟩ F.el48 (ev_mk rfl) (.inl rfl) (ev_mk rfl) (gives_sl (.inr (.inl rfl))) ?hg) ⟨?hb, trivial⟩ (by omega) ?_; (case hb => repeat (first | exact upd_eq _ _ _ | refine (upd_ne _ _ _ _ (by omega)).trans ?_ | assumption | exact hd _ (by omega) | exact hd0 _ (by omega) | exact hd1 _ (by omega) | exact hd2 _ (by omega) | fail)); (case hg => (simp [secsV]; omega)))
                  | (refine' dl1 (gn rfl) rfl rfl (step_append_new (k := m0 + 0) (xs := []) rfl rfl rfl Try.underlying29 ⟨_, Try.underlying29, fun k_ => by intro h_; cases h_⟩ F.el48 (ev_mk rfl) (.inr ⟨rfl, rfl⟩) (ev_mk rfl) (gives_sl (.inr (.inl rfl))) ?hg) ⟨?hb, trivial⟩ (by omega) ?_; (case hb => repeat (first | exact upd_eq _ _ _ | refine (upd_ne _ _ _ _ (by omega)).trans ?_ | assumption | exact hd _ (by omega) | exact hd0 _ (by omega) | exact hd1 _ (by omega) | exact hd2 _ (by omega) | fail)); (case hg => (simp [secsV]; omega)))
                  | (refine' dl1 (gn rfl) rfl rfl (step_append_own rfl rfl rfl Try.underlying29 ⟨_, Try.underlying29, fun k_ => by intro h_; cases h_⟩ F.el48 (ev_mk rfl) (ev_mk rfl) (gives_sl (.inr (.inr ⟨_, rfl⟩))) ?hg) ⟨?hb, trivial⟩ (by omega) ?_; (case hb => repeat (first | exact upd_eq _ _ _ | refine (upd_ne _ _ _ _ (by omega)).trans ?_ | assumption | exact hd _ (by omega) | exact hd0 _ (by omega) | exact hd1 _ (by omega) | exact hd2 _ (by omega) | fail)); (case hg => (simp [secsV]; omega)))
                  | (refine' dl1 (gn rfl) rfl rfl (step_append_new (k := m0 + 0) rfl rfl rfl Try.underlying29 ⟨_, Try.underlying29, fun k_ => by intro h_; cases h_⟩ F.el48 (ev_mk rfl) (.inl rfl) (ev_mk rfl) (gives_sl (.inr (.inr ⟨_, rfl⟩))) ?hg) ⟨?hb, trivial⟩ (by omega) ?_; (case hb => repeat (first | exact upd_eq _ _ _ | refine (upd_ne _ _ _ _ (by omega)).trans ?_ | assumption | exact hd _ (by omega) | exact hd0 _ (by omega) | exact hd1 _ (by omega) | exact hd2 _ (by omega) | fail)); (case hg => (simp [secsV]; omega)))
                  | (refine' dl1 (gn rfl) rfl rfl (step_append_new (k := m0 + 0) (xs := []) rfl rfl rfl Try.underlying29 ⟨_, Try.underlying29, fun k_ => by intro h_; cases h_⟩ F.el48 (ev_mk rfl) (.inr ⟨rfl, rfl⟩) (ev_mk rfl) (gives_sl (.inr (.inr ⟨_, rfl⟩))) ?hg) ⟨?hb, trivial⟩ (by omega) ?_; (case hb => repeat (first | exact upd_eq _ _ _ | refine (upd_ne _ _ _ _ (by omega)).trans ?_ | assumption | exact hd _ (by omega) | exact hd0 _ (by omega) | exact hd1 _ (by omega) | exact hd2 _ (by omega) | fail)); (case hg => (simp [secsV]; omega)))
                  | (refine' dl1 (gn rfl) rfl rfl (step_append_own rfl rfl rfl Try.underlying29 ⟨_, Try.underlying29, fun k_ => by intro h_; cases h_⟩ F.el48 (ev_mk rfl) (ev_mk rfl) gives_nil ?hg) ⟨?hb, trivial⟩ (by omega) ?_; (case hb => repeat (first | exact upd_eq _ _ _ | refine (upd_ne _ _ _ _ (by omega)).trans ?_ | assumption | exact hd _ (by omega) | exact hd0 _ (by omega) | exact hd1 _ (by omega) | exact hd2 _ (by omega) | fail)); (case hg => (simp [secsV]; omega)))
                  | (refine' dl1 (gn rfl) rfl rfl (step_append_new (k := m0 + 0) rfl rfl rfl Try.underlying29 ⟨_, Try.underlying29, fun k_ => by intro h_; cases h_⟩ F.el48 (ev_mk rfl) (.inl rfl) (ev_mk rfl) gives_nil ?hg) ⟨?hb, trivial⟩ (by omega) ?_; (case hb => repeat (first | exact upd_eq _ _ _ | refine (upd_ne _ _ _ _ (by omega)).trans ?_ | assumption | exact hd _ (by omega) | exact hd0 _ (by omega) | exact hd1 _ (by omega) | exact hd2 _ (by omega) | fail)); (case hg => (simp [secsV]; omega)))
                  | (refine' dl1 (gn rfl) rfl rfl (step_append_new (k := m0 + 0) (xs := []) rfl rfl rfl Try.underlying29 ⟨_, Try.underlying29, fun k_ => by intro h_; cases h_⟩ F.el48 (ev_mk rfl) (.inr ⟨rfl, rfl⟩) (ev_mk rfl) gives_nil ?hg) ⟨?hb, trivial⟩ (by omega) ?_; (case hb => repeat (first | exact upd_eq _ _ _ | refine (upd_ne _ _ _ _ (by omega)).trans ?_ | assumption | exact hd _ (by omega) | exact hd0 _ (by omega) | exact hd1 _ (by omega) | exact hd2 _ (by omega) | fail)); (case hg => (simp [secsV]; omega)))
                  | (refine' dl1 (gn rfl) rfl rfl (step_append_own rfl rfl rfl Try.underlying29 ⟨_, Try.underlying29, fun k_ => by intro h_; cases h_⟩ F.el48 (ev_mk rfl) (ev_mk rfl) (gives_msl ?hl ?hy) ?hg) ⟨?hb, ⟨?hm, trivial⟩⟩ (by omega) ?_; (case hb => repeat (first | exact upd_eq _ _ _ | refine (upd_ne _ _ _ _ (by omega)).trans ?_ | assumption | exact hd _ (by omega) | exact hd0 _ (by omega) | exact hd1 _ (by omega) | exact hd2 _ (by omega) | fail)); (case hg => (simp [secsV]; omega)); (case hm => repeat (first | exact upd_eq _ _ _ | refine (upd_ne _ _ _ _ (by omega)).trans ?_ | assumption | exact hd _ (by omega) | exact hd0 _ (by omega) | exact hd1 _ (by omega) | exact hd2 _ (by omega) | fail)); (case hl => (rw [List.length_map]; exact at_len64 (by assumption) (by omega) (by omega))); (case hy => rfl))
                  | (refine' dl1 (gn rfl) rfl rfl (step_append_new (k := m0 + 0) rfl rfl rfl Try.underlying29 ⟨_, Try.underlying29, fun k_ => by intro h_; cases h_⟩ F.el48 (ev_mk rfl) (.inl rfl) (ev_mk rfl) (gives_msl ?hl ?hy) ?hg) ⟨?hb, ⟨?hm, trivial⟩⟩ (by omega) ?_; (case hb => repeat (first | exact upd_eq _ _ _ | refine (upd_ne _ _ _ _ (by omega)).trans ?_ | assumption | exact hd _ (by omega) | exact hd0 _ (by omega) | exact hd1 _ (by omega) | exact hd2 _ (by omega) | fail)); (case hg => (simp [secsV]; omega)); (case hm => repeat (first | exact upd_eq _ _ _ | refine (upd_ne _ _ _ _ (by omega)).trans ?_ | assumption | exact hd _ (by omega) | exact hd0 _ (by omega) | exact hd1 _ (by omega) | exact hd2 _ (by omega) | fail)); (case hl => (rw [List.length_map]; exact at_len64 (by assumption) (by omega) (by omega))); (case hy => rfl))
                  | (refine' dl1 (gn rfl) rfl rfl (step_append_new (k := m0 + 0) (xs := []) rfl rfl rfl Try.underlying29 ⟨_, Try.underlying29, fun k_ => by intro h_; cases h_⟩ F.el48 (ev_mk rfl) (.inr ⟨rfl, rfl⟩) (ev_mk rfl) (gives_msl ?hl ?hy) ?hg) ⟨?hb, ⟨?hm, trivial⟩⟩ (by omega) ?_; (case hb => repeat (first | exact upd_eq _ _ _ | refine (upd_ne _ _ _ _ (by omega)).trans ?_ | assumption | exact hd _ (by omega) | exact hd0 _ (by omega) | exact hd1 _ (by omega) | exact hd2 _ (by omega) | fail)); (case hg => (simp [secsV]; omega)); (case hm => repeat (first | exact upd_eq _ _ _ | refine (upd_ne _ _ _ _ (by omega)).trans ?_ | assumption | exact hd _ (by omega) | exact hd0 _ (by omega) | exact hd1 _ (by omega) | exact hd2 _ (by omega) | fail)); (case hl => (rw [List.length_map]; exact at_len64 (by assumption) (by omega) (by omega))); (case hy => rfl))
                first | refine dl0 (gn rfl) rfl rfl (step_fieldAddr (off := 0) rfl (ev_mk rfl) Try.underlying32 rfl F.sz29 rfl) trivial ?_ | refine dl0 (gn rfl) rfl rfl (step_fieldAddr_ro (off := 0) rfl (ev_mk rfl) Try.underlying32 rfl F.sz29 rfl rfl) trivial ?_
                refine' dls (gn rfl) rfl (step_store1 rfl rfl rfl rfl F.one29 rfl rfl ?hl ?hc) ⟨?hb, trivial⟩ ?hk ?_
                case hb => repeat (first | exact upd_eq _ _ _ | refine (upd_ne _ _ _ _ (by omega)).trans ?_ | assumption | exact hd _ (by omega) | exact hd0 _ (by omega) | exact hd1 _ (by omega) | exact hd2 _ (by omega) | fail)
                case hl => first | decide | (simp; done) | (simp; omega) | (rw [List.length_map]; exact at_len64 (by assumption) (by omega) (by omega))
                case hc => first | (simp only [List.set_cons_succ, List.set_cons_zero]; rfl) | rfl
                case hk => omega
                refine dlnil ?_ ?_
                · repeat' (first | exact trivial | exact .inr (ap0 _ _ _ _) | exact .inr (ap2 _ _ _ _) | exact .inr (ap3 _ _ _ _) | exact .inr ⟨by first | (simp; done) | (simp; omega), by first | (simp; done) | (simp; omega)⟩ | exact .inl (by kernel_rfl) | refine ⟨?_, ?_⟩ | fail)
                refine runs_region ?_
                refine rl0 (gn rfl) rfl rfl (step_mv rfl rfl) trivial ?_
                refine rl0 (gn rfl) rfl rfl (step_add rfl (ev_mk rfl) (ev_mk rfl) (w64 (by omega))) trivial ?_
                refine rl0 (gn rfl) rfl rfl (step_as rfl rfl) trivial ?_
                refine runsL_nil ?_
                have hr_ := mixAt_o3 (S := S) (l := l) (f := f) (kp := kp) (i := j) (x := x) (by assumption)
                have hsn_ := snoc_ _ j _ hr_
                refine ⟨_, _, ?_, sle ?_ (Nat.le_refl _), j + 1, _, _, rfl, rfl, by omega, (fun k hk => by repeat (first | exact hf0 k hk | refine (upd_ne _ _ _ _ (by first | assumption | omega)).trans ?_ | fail)), by repeat (first | exact upd_eq _ _ _ | assumption | refine (upd_ne _ _ _ _ (by omega)).trans ?_ | fail), by repeat (first | exact upd_eq _ _ _ | assumption | refine (upd_ne _ _ _ _ (by omega)).trans ?_ | fail), by (rw [← hsn_]; repeat (first | exact upd_eq _ _ _ | assumption | refine (upd_ne _ _ _ _ (by omega)).trans ?_ | fail)), by (rw [← hsn_]; repeat (first | exact upd_eq _ _ _ | assumption | refine (upd_ne _ _ _ _ (by omega)).trans ?_ | fail)), by omega⟩
                · omega
                · (repeat' (first | exact trivial | refine ⟨⟨_, rfl, ?_⟩, ?_⟩ | fail)); (all_goals first | exact VLe.refl _ | (rw [Int.natCast_add]; exact VLe.refl _) | exact VLe.own_sl _ _ _ | exact VLe.fl_sl _ _ | exact VLe.nil_sl _)
            · skip
              refine rl0 (gn rfl) rfl rfl (step_pick rfl (ev_mk rfl) (ev_mk rfl)) trivial ?_
              refine rl0 (gn rfl) rfl rfl (step_mv rfl rfl) trivial ?_
              refine rlk rfl rfl rfl rfl rfl (ngb rfl rfl) rfl rfl ?_
              refine rlk rfl rfl rfl rfl rfl (ngb rfl rfl) rfl rfl ?_
              refine rlk rfl rfl rfl rfl rfl (ngb rfl rfl) rfl rfl ?_
              refine rlk rfl rfl rfl rfl rfl (ngb rfl rfl) rfl rfl ?_
              refine rlk rfl rfl rfl rfl rfl (ngb rfl rfl) rfl rfl ?_
              refine rl0 (gn rfl) rfl rfl (step_pick rfl (ev_mk rfl) (ev_mk rfl)) trivial ?_
              refine runsL_nil ?_
              refine runs_cond false (ev_mk rfl) (fun h_ => nomatch h_) (fun _ => ?_)
              refine runs_draw (by kernel_rfl) (by kernel_rfl) (by kernel_rfl) ?_
              first | refine dl0 (gn rfl) rfl rfl (step_fieldAddr (off := 0) rfl (ev_mk rfl) Try.underlying32 rfl F.sz29 rfl) trivial ?_ | refine dl0 (gn rfl) rfl rfl (step_fieldAddr_ro (off := 0) rfl (ev_mk rfl) Try.underlying32 rfl F.sz29 rfl rfl) trivial ?_
              first
                | (refine' dl0 (gn rfl) rfl rfl (step_load_one rfl (ev_mk rfl) F.one29 ?hv) ⟨?hb, trivial⟩ ?_; (case hb => repeat (first | exact upd_eq _ _ _ | refine (upd_ne _ _ _ _ (by omega)).trans ?_ | assumption | exact hd _ (by omega) | exact hd0 _ (by omega) | exact hd1 _ (by omega) | exact hd2 _ (by omega) | fail)); (case hv => exact rfl))
                | (refine dl0 (gn rfl) rfl rfl (step_load_ro rfl (ev_mk rfl) F.one29 rfl) trivial ?_)
              first | refine dl0 (gn rfl) rfl rfl (step_fieldAddr (off := 0) rfl (ev_mk rfl) Try.underlying32 rfl F.sz29 rfl) trivial ?_ | refine dl0 (gn rfl) rfl rfl (step_fieldAddr_ro (off := 0) rfl (ev_mk rfl) Try.underlying32 rfl F.sz29 rfl rfl) trivial ?_
              first
                | (refine' dl0 (gn rfl) rfl rfl (step_load_one rfl (ev_mk rfl) F.one29 ?hv) ⟨?hb, trivial⟩ ?_; (case hb => repeat (first | exact upd_eq _ _ _ | refine (upd_ne _ _ _ _ (by omega)).trans ?_ | assumption | exact hd _ (by omega) | exact hd0 _ (by omega) | exact hd1 _ (by omega) | exact hd2 _ (by omega) | fail)); (case hv => exact rfl))
                | (refine dl0 (gn rfl) rfl rfl (step_load_ro rfl (ev_mk rfl) F.one29 rfl) trivial ?_)
              refine dl0 (gn rfl) rfl rfl (step_mv rfl rfl) trivial ?_
              first
                | (refine' dl0 (gn rfl) rfl rfl (step_index rfl (ev_mk rfl) (.inl rfl) (ev_mk rfl) Try.underlying29 F.sz48 (by omega) ?hr) trivial ?_; (case hr => exact map_at _ _ _ (by omega) (by omega)))
                | (refine' dl0 (gn rfl) rfl rfl (step_index rfl (ev_mk rfl) (.inr (.inl rfl)) (ev_mk rfl) Try.underlying29 F.sz48 (by omega) ?hr) trivial ?_; (case hr => exact map_at _ _ _ (by omega) (by omega)))
                | (refine' dl0 (gn rfl) rfl rfl (step_index rfl (ev_mk rfl) (.inr (.inr ⟨_, rfl⟩)) (ev_mk rfl) Try.underlying29 F.sz48 (by omega) ?hr) trivial ?_; (case hr => exact map_at _ _ _ (by omega) (by omega)))
                | (refine dl0 (gn rfl) rfl rfl (step_index_msl rfl (ev_mk rfl) (ev_mk rfl) Try.underlying29 F.sz48 (by omega) (by omega)) trivial ?_)
              first
                | (refine' dl0 (gn rfl) rfl rfl (step_load_all rfl rfl F.agg48 ?hl) ⟨?hb, trivial⟩ ?_; (case hb => repeat (first | exact upd_eq _ _ _ | refine (upd_ne _ _ _ _ (by omega)).trans ?_ | assumption | exact hd _ (by omega) | exact hd0 _ (by omega) | exact hd1 _ (by omega) | exact hd2 _ (by omega) | fail)); (case hl => first | rfl | (simp; done) | (rw [List.length_map]; exact at_len64 (by assumption) (by omega) (by omega))))
                | (refine dl0 (gn rfl) rfl rfl (step_load_ro_all rfl rfl F.agg48 (by first | rfl | (simp; done) | (rw [List.length_map]; exact at_len64 (by assumption) (by omega) (by omega)))) trivial ?_)
                | (refine' dl0 (gn rfl) rfl rfl (step_load_agg rfl (ev_mk rfl) F.agg48 ?hc ?hl) ⟨?hb, trivial⟩ ?_; (case hb => repeat (first | exact upd_eq _ _ _ | refine (upd_ne _ _ _ _ (by omega)).trans ?_ | assumption | exact hd _ (by omega) | exact hd0 _ (by omega) | exact hd1 _ (by omega) | exact hd2 _ (by omega) | fail)); (case hc => rfl); (case hl => first | rfl | (simp; done)))
                | (refine dl0 (gn rfl) rfl rfl (step_load_ro_agg rfl (ev_mk rfl) F.agg48 rfl rfl) trivial ?_)
              refine dl0 (gn rfl) rfl rfl (step_lit rfl Try.underlying29 F.sz48 F.zero48 (by first | rfl | simp) (by first | rfl | simp | decide) (by decide) rfl rfl (by first | (simp [V.cs, V.stor, oneV]; done) | (simp [V.cs, V.stor, oneV]; exact at_len64 (by assumption) (by omega) (by omega))) rfl) trivial ?_
              first
                | (refine' dl1 (gn rfl) rfl rfl (step_append_own rfl rfl rfl Try.underlying29 ⟨_, Try.underlying29, fun k_ => by intro h_; cases h_⟩ F.el48 (ev_mk rfl) (ev_mk rfl) (gives_sl (.inl rfl)) ?hg) ⟨?hb, trivial⟩ (by omega) ?_; (case hb => repeat (first | exact upd_eq _ _ _ | refine (upd_ne _ _ _ _ (by omega)).trans ?_ | assumption | exact hd _ (by omega) | exact hd0 _ (by omega) | exact hd1 _ (by omega) | exact hd2 _ (by omega) | fail)); (case hg => (simp [secsV]; omega)))
                | (refine' dl1 (gn rfl) rfl rfl (step_append_new (k := m0 + 0) rfl rfl rfl Try.underlying29 ⟨_, Try.underlying29, fun k_ => by intro h_; cases h_⟩ F.el48 (ev_mk rfl) (.inl rfl) (ev_mk rfl) (gives_sl (.inl rfl)) ?hg) ⟨?hb, trivial⟩ (by omega) ?_; (case hb => repeat (first | exact upd_eq _ _ _ | refine (upd_ne _ _ _ _ (by omega)).trans ?_ | assumption | exact hd _ (by omega) | exact hd0 _ (by omega) | exact hd1 _ (by omega) | exact hd2 _ (by omega) | fail)); (case hg => (simp [secsV]; omega)))
                | (refine' dl1 (gn rfl) rfl rfl (step_append_new (k := m0 + 0) (xs := []) rfl rfl rfl Try.underlying29 ⟨_, Try.underlying29, fun k_ => by intro h_; cases h_⟩ F.el48 (ev_mk rfl) (.inr ⟨rfl, rfl⟩) (ev_mk rfl) (gives_sl (.inl rfl)) ?hg) ⟨?hb, trivial⟩ (by omega) ?_; (case hb => repeat (first | exact upd_eq _ _ _ | refine (upd_ne _ _ _ _ (by omega)).trans ?_ | assumption | exact hd _ (by omega) | exact hd0 _ (by omega) | exact hd1 _ (by omega) | exact hd2 _ (by omega) | fail)); (case hg => (simp [secsV]; omega)))
                | (refine' dl1 (gn rfl) rfl rfl (step_append_own rfl rfl rfl Try.underlying29 ⟨_, Try.underlying29, fun k_ => by intro h_; cases h_⟩ F.el48 (ev_mk rfl) (ev_mk rfl) (gives_sl (.inr (.inl rfl))) ?hg) ⟨?hb, trivial⟩ (by omega) ?_; (case hb => repeat (first | exact upd_eq _ _ _ | refine (upd_ne _ _ _ _ (by omega)).trans ?_ | assumption | exact hd _ (by omega) | exact hd0 _ (by omega) | exact hd1 _ (by omega) | exact hd2 _ (by omega) | fail)); (case hg => (simp [secsV]; omega)))
                | (refine' dl1 (gn rfl) rfl rfl (step_append_new (k := m0 + 0) rfl rfl rfl Try.underlying29 ⟨_, Try.underlying29, fun k_ => by intro h_; cases h_⟩ F.el48 (ev_mk rfl) (.inl rfl) (ev_mk rfl) (gives_sl (.inr (.inl rfl))) ?hg) ⟨?hb, trivial⟩ (by omega) ?_; (case hb => repeat (first | exact upd_eq _ _ _ | refine (upd_ne _ _ _ _ (by omega)).trans ?_ | assumption | exact hd _ (by omega) | exact hd0 _ (by omega) | exact hd1 _ (by omega) | exact hd2 _ (by omega) | fail)); (case hg => (simp [secsV]; omega)))
                | (refine' dl1 (gn rfl) rfl rfl (step_append_new (k := m0 + 0) (xs := []) rfl rfl rfl Try.underlying29 ⟨_, Try.underlying29, fun k_ => by intro h_; cases h_⟩ F.el48 (ev_mk rfl) (.inr ⟨rfl, rfl⟩) (ev_mk rfl) (gives_sl (.inr (.inl rfl))) ?hg) ⟨?hb, trivial⟩ (by omega) ?_; (case hb => repeat (first | exact upd_eq _ _ _ | refine (upd_ne _ _ _ _ (by omega)).trans ?_ | assumption | exact hd _ (by omega) | exact hd0 _ (by omega) | exact hd1 _ (by omega) | exact hd2 _ (by omega) | fail)); (case hg => (simp [secsV]; omega)))
                | (refine' dl1 (gn rfl) rfl rfl (step_append_own rfl rfl rfl Try.underlying29 ⟨_, Try.underlying29, fun k_ => by intro h_; cases h_⟩ F.el48 (ev_mk rfl) (ev_mk rfl) (gives_sl (.inr (.inr ⟨_, rfl⟩))) ?hg) ⟨?hb, trivial⟩ (by omega) ?_; (case hb => repeat (first | exact upd_eq _ _ _ | refine (upd_ne _ _ _ _ (by omega)).trans ?_ | assumption | exact hd _ (by omega) | exact hd0 _ (by omega) | exact hd1 _ (by omega) | exact hd2 _ (by omega) | fail)); (case hg => (simp [secsV]; omega)))
                | (refine' dl1 (gn rfl) rfl rfl (step_append_new (k := m0 + 0) rfl rfl rfl Try.underlying29 ⟨_, Try.underlying29, fun k_ => by intro h_; cases h_⟩ F.el48 (ev_mk rfl) (.inl rfl) (ev_mk rfl) (gives_sl (.inr (.inr ⟨_, rfl⟩))) ?hg) ⟨?hb, trivial⟩ (by omega) ?_; (case hb => repeat (first | exact upd_eq _ _ _ | refine (upd_ne _ _ _ _ (by omega)).trans ?_ | assumption | exact hd _ (by omega) | exact hd0 _ (by omega) | exact hd1 _ (by omega) | exact hd2 _ (by omega) | fail)); (case hg => (simp [secsV]; omega)))
                | (refine' dl1 (gn rfl) rfl rfl (step_append_new (k := m0 + 0) (xs := []) rfl rfl rfl Try.underlying29 ⟨_, Try.underlying29, fun k_ => by intro h_; cases h_⟩ F.el48 (ev_mk rfl) (.inr ⟨rfl, rfl⟩) (ev_mk rfl) (gives_sl (.inr (.inr ⟨_, rfl⟩))) ?hg) ⟨?hb, trivial⟩ (by omega) ?_; (case hb => repeat (first | exact upd_eq _ _ _ | refine (upd_ne _ _ _ _ (by omega)).trans ?_ | assumption | exact hd _ (by omega) | exact hd0 _ (by omega) | exact hd1 _ (by omega) | exact hd2 _ (by omega) | fail)); (case hg => (simp [secsV]; omega)))
                | (refine' dl1 (gn rfl) rfl rfl (step_append_own rfl rfl rfl Try.underlying29 ⟨_, Try.underlying29, fun k_ => by intro h_; cases h_⟩ F.el48 (ev_mk rfl) (ev_mk rfl) gives_nil ?hg) ⟨?hb, trivial⟩ (by omega) ?_; (case hb => repeat (first | exact upd_eq _ _ _ | refine (upd_ne _ _ _ _ (by omega)).trans ?_ | assumption | exact hd _ (by omega) | exact hd0 _ (by omega) | exact hd1 _ (by omega) | exact hd2 _ (by omega) | fail)); (case hg => (simp [secsV]; omega)))
                | (refine' dl1 (gn rfl) rfl rfl (step_append_new (k := m0 + 0) rfl rfl rfl Try.underlying29 ⟨_, Try.underlying29, fun k_ => by intro h_; cases h_⟩ F.el48 (ev_mk rfl) (.inl rfl) (ev_mk rfl) gives_nil ?hg) ⟨?hb, trivial⟩ (by omega) ?_; (case hb => repeat (first | exact upd_eq _ _ _ | refine (upd_ne _ _ _ _ (by omega)).trans ?_ | assumption | exact hd _ (by omega) | exact hd0 _ (by omega) | exact hd1 _ (by omega) | exact hd2 _ (by omega) | fail)); (case hg => (simp [secsV]; omega)))
                | (refine' dl1 (gn rfl) rfl rfl (step_append_new (k := m0 + 0) (xs := []) rfl rfl rfl Try.underlying29 ⟨_, Try.underlying29, fun k_ => by intro h_; cases h_⟩ F.el48 (ev_mk rfl) (.inr ⟨rfl, rfl⟩) (ev_mk rfl) gives_nil ?hg) ⟨?hb, trivial⟩ (by omega) ?_; (case hb => repeat (first | exact upd_eq _ _ _ | refine (upd_ne _ _ _ _ (by omega)).trans ?_ | assumption | exact hd _ (by omega) | exact hd0 _ (by omega) | exact hd1 _ (by omega) | exact hd2 _ (by omega) | fail)); (case hg => (simp [secsV]; omega)))
                | (refine' dl1 (gn rfl) rfl rfl (step_append_own rfl rfl rfl Try.underlying29 ⟨_, Try.underlying29, fun k_ => by intro h_; cases h_⟩ F.el48 (ev_mk rfl) (ev_mk rfl) (gives_msl ?hl ?hy) ?hg) ⟨?hb, ⟨?hm, trivial⟩⟩ (by omega) ?_; (case hb => repeat (first | exact upd_eq _ _ _ | refine (upd_ne _ _ _ _ (by omega)).trans ?_ | assumption | exact hd _ (by omega) | exact hd0 _ (by omega) | exact hd1 _ (by omega) | exact hd2 _ (by omega) | fail)); (case hg => (simp [secsV]; omega)); (case hm => repeat (first | exact upd_eq _ _ _ | refine (upd_ne _ _ _ _ (by omega)).trans ?_ | assumption | exact hd _ (by omega) | exact hd0 _ (by omega) | exact hd1 _ (by omega) | exact hd2 _ (by omega) | fail)); (case hl => (rw [List.length_map]; exact at_len64 (by assumption) (by omega) (by omega))); (case hy => rfl))
                | (refine' dl1 (gn rfl) rfl rfl (step_append_new (k := m0 + 0) rfl rfl rfl Try.underlying29 ⟨_, Try.underlying29, fun k_ => by intro h_; cases h_⟩ F.el48 (ev_mk rfl) (.inl rfl) (ev_mk rfl) (gives_msl ?hl ?hy) ?hg) ⟨?hb, ⟨?hm, trivial⟩⟩ (by omega) ?_; (case hb => repeat (first | exact upd_eq _ _ _ | refine (upd_ne _ _ _ _ (by omega)).trans ?_ | assumption | exact hd _ (by omega) | exact hd0 _ (by omega) | exact hd1 _ (by omega) | exact hd2 _ (by omega) | fail)); (case hg => (simp [secsV]; omega)); (case hm => repeat (first | exact upd_eq _ _ _ | refine (upd_ne _ _ _ _ (by omega)).trans ?_ | assumption | exact hd _ (by omega) | exact hd0 _ (by omega) | exact hd1 _ (by omega) | exact hd2 _ (by omega) | fail)); (case hl => (rw [List.length_map]; exact at_len64 (by assumption) (by omega) (by omega))); (case hy => rfl))
                | (refine' dl1 (gn rfl) rfl rfl (step_append_new (k := m0 + 0) (xs := []) rfl rfl rfl Try.underlying29 ⟨_, Try.underlying29, fun k_ => by intro h_; cases h_⟩ F.el48 (ev_mk rfl) (.inr ⟨rfl, rfl⟩) (ev_mk rfl) (gives_msl ?hl ?hy) ?hg) ⟨?hb, ⟨?hm, trivial⟩⟩ (by omega) ?_; (case hb => repeat (first | exact upd_eq _ _ _ | refine (upd_ne _ _ _ _ (by omega)).trans ?_ | assumption | exact hd _ (by omega) | exact hd0 _ (by omega) | exact hd1 _ (by omega) | exact hd2 _ (by omega) | fail)); (case hg => (simp [secsV]; omega)); (case hm => repeat (first | exact upd_eq _ _ _ | refine (upd_ne _ _ _ _ (by omega)).trans ?_ | assumption | exact hd _ (by omega) | exact hd0 _ (by omega) | exact hd1 _ (by omega) | exact hd2 _ (by omega) | fail)); (case hl => (rw [List.length_map]; exact at_len64 (by assumption) (by omega) (by omega))); (case hy => rfl))
              first | refine dl0 (gn rfl) rfl rfl (step_fieldAddr (off := 0) rfl (ev_mk rfl) Try.underlying32 rfl F.sz29 rfl) trivial ?_ | refine dl0 (gn rfl) rfl rfl (step_fieldAddr_ro (off := 0) rfl (ev_mk rfl) Try.underlying32 rfl F.sz29 rfl rfl) trivial ?_
              refine' dls (gn rfl) rfl (step_store1 rfl rfl rfl rfl F.one29 rfl rfl ?hl ?hc) ⟨?hb, trivial⟩ ?hk ?_
              case hb => repeat (first | exact upd_eq _ _ _ | refine (upd_ne _ _ _ _ (by omega)).trans ?_ | assumption | exact hd _ (by omega) | exact hd0 _ (by omega) | exact hd1 _ (by omega) | exact hd2 _ (by omega) | fail)
              case hl => first | decide | (simp; done) | (simp; omega) | (rw [List.length_map]; exact at_len64 (by assumption) (by omega) (by omega))
              case hc => first | (simp only [List.set_cons_succ, List.set_cons_zero]; rfl) | rfl
              case hk => omega
              refine dlnil ?_ ?_
              · repeat' (first | exact trivial | exact .inr (ap0 _ _ _ _) | exact .inr (ap2 _ _ _ _) | exact .inr (ap3 _ _ _ _) | exact .inr ⟨by first | (simp; done) | (simp; omega), by first | (simp; done) | (simp; omega)⟩ | exact .inl (by kernel_rfl) | refine ⟨?_, ?_⟩ | fail)
              refine runs_region ?_
              refine rl0 (gn rfl) rfl rfl (step_mv rfl rfl) trivial ?_
              refine rl0 (gn rfl) rfl rfl (step_add rfl (ev_mk rfl) (ev_mk rfl) (w64 (by omega))) trivial ?_
              refine rl0 (gn rfl) rfl rfl (step_as rfl rfl) trivial ?_
              refine runsL_nil ?_
              have hr_ := mixAt_o2 (S := S) (l := l) (f := f) (kp := kp) (i := j) (x := x) (by omega)
              have hsn_ := snoc_ _ j _ hr_
              refine ⟨_, _, ?_, sle ?_ (Nat.le_refl _), j + 1, _, _, rfl, rfl, by omega, (fun k hk => by repeat (first | exact hf0 k hk | refine (upd_ne _ _ _ _ (by first | assumption | omega)).trans ?_ | fail)), by repeat (first | exact upd_eq _ _ _ | assumption | refine (upd_ne _ _ _ _ (by omega)).trans ?_ | fail), by repeat (first | exact upd_eq _ _ _ | assumption | refine (upd_ne _ _ _ _ (by omega)).trans ?_ | fail), by (rw [← hsn_]; repeat (first | exact upd_eq _ _ _ | assumption | refine (upd_ne _ _ _ _ (by omega)).trans ?_ | fail)), by (rw [← hsn_]; repeat (first | exact upd_eq _ _ _ | assumption | refine (upd_ne _ _ _ _ (by omega)).trans ?_ | fail)), by omega⟩
              · omega
              · (repeat' (first | exact trivial | refine ⟨⟨_, rfl, ?_⟩, ?_⟩ | fail)); (all_goals first | exact VLe.refl _ | (rw [Int.natCast_add]; exact VLe.refl _) | exact VLe.own_sl _ _ _ | exact VLe.fl_sl _ _ | exact VLe.nil_sl _)
          · skip
            refine rl0 (gn rfl) rfl rfl (step_mv rfl rfl) trivial ?_
            refine rlk rfl rfl rfl rfl rfl (ngb rfl rfl) rfl rfl ?_
            refine rlk rfl rfl rfl rfl rfl (ngb rfl rfl) rfl rfl ?_
            refine rlk rfl rfl rfl rfl rfl (ngb rfl rfl) rfl rfl ?_
            refine rlk rfl rfl rfl rfl rfl (ngb rfl rfl) rfl rfl ?_
            refine rlk rfl rfl rfl rfl rfl (ngb rfl rfl) rfl rfl ?_
            refine rlk rfl rfl rfl rfl rfl (ngb rfl rfl) rfl rfl ?_
            refine rl0 (gn rfl) rfl rfl (step_pick rfl (ev_mk rfl) (ev_mk rfl)) trivial ?_
            refine rl0 (gn rfl) rfl rfl (step_mv rfl rfl) trivial ?_
            refine rlk rfl rfl rfl rfl rfl (ngb rfl rfl) rfl rfl ?_
            refine rlk rfl rfl rfl rfl rfl (ngb rfl rfl) rfl rfl ?_
            refine rlk rfl rfl rfl rfl rfl (ngb rfl rfl) rfl rfl ?_
            refine rlk rfl rfl rfl rfl rfl (ngb rfl rfl) rfl rfl ?_
            refine rlk rfl rfl rfl rfl rfl (ngb rfl rfl) rfl rfl ?_
            refine rl0 (gn rfl) rfl rfl (step_pick rfl (ev_mk rfl) (ev_mk rfl)) trivial ?_
            refine runsL_nil ?_
            refine runs_cond false (ev_mk rfl) (fun h_ => nomatch h_) (fun _ => ?_)
            refine runs_draw (by kernel_rfl) (by kernel_rfl) (by kernel_rfl) ?_
            first | refine dl0 (gn rfl) rfl rfl (step_fieldAddr (off := 0) rfl (ev_mk rfl) Try.underlying32 rfl F.sz29 rfl) trivial ?_ | refine dl0 (gn rfl) rfl rfl (step_fieldAddr_ro (off := 0) rfl (ev_mk rfl) Try.underlying32 rfl F.sz29 rfl rfl) trivial ?_
            first
              | (refine' dl0 (gn rfl) rfl rfl (step_load_one rfl (ev_mk rfl) F.one29 ?hv) ⟨?hb, trivial⟩ ?_; (case hb => repeat (first | exact upd_eq _ _ _ | refine (upd_ne _ _ _ _ (by omega)).trans ?_ | assumption | exact hd _ (by omega) | exact hd0 _ (by omega) | exact hd1 _ (by omega) | exact hd2 _ (by omega) | fail)); (case hv => exact rfl))
              | (refine dl0 (gn rfl) rfl rfl (step_load_ro rfl (ev_mk rfl) F.one29 rfl) trivial ?_)
            first | refine dl0 (gn rfl) rfl rfl (step_fieldAddr (off := 0) rfl (ev_mk rfl) Try.underlying32 rfl F.sz29 rfl) trivial ?_ | refine dl0 (gn rfl) rfl rfl (step_fieldAddr_ro (off := 0) rfl (ev_mk rfl) Try.underlying32 rfl F.sz29 rfl rfl) trivial ?_
            first
              | (refine' dl0 (gn rfl) rfl rfl (step_load_one rfl (ev_mk rfl) F.one29 ?hv) ⟨?hb, trivial⟩ ?_; (case hb => repeat (first | exact upd_eq _ _ _ | refine (upd_ne _ _ _ _ (by omega)).trans ?_ | assumption | exact hd _ (by omega) | exact hd0 _ (by omega) | exact hd1 _ (by omega) | exact hd2 _ (by omega) | fail)); (case hv => exact rfl))
              | (refine dl0 (gn rfl) rfl rfl (step_load_ro rfl (ev_mk rfl) F.one29 rfl) trivial ?_)
            refine dl0 (gn rfl) rfl rfl (step_mv rfl rfl) trivial ?_
            first
              | (refine' dl0 (gn rfl) rfl rfl (step_index rfl (ev_mk rfl) (.inl rfl) (ev_mk rfl) Try.underlying29 F.sz48 (by omega) ?hr) trivial ?_; (case hr => exact map_at _ _ _ (by omega) (by omega)))
              | (refine' dl0 (gn rfl) rfl rfl (step_index rfl (ev_mk rfl) (.inr (.inl rfl)) (ev_mk rfl) Try.underlying29 F.sz48 (by omega) ?hr) trivial ?_; (case hr => exact map_at _ _ _ (by omega) (by omega)))
              | (refine' dl0 (gn rfl) rfl rfl (step_index rfl (ev_mk rfl) (.inr (.inr ⟨_, rfl⟩)) (ev_mk rfl) Try.underlying29 F.sz48 (by omega) ?hr) trivial ?_; (case hr => exact map_at _ _ _ (by omega) (by omega)))
              | (refine dl0 (gn rfl) rfl rfl (step_index_msl rfl (ev_mk rfl) (ev_mk rfl) Try.underlying29 F.sz48 (by omega) (by omega)) trivial ?_)
            first
              | (refine' dl0 (gn rfl) rfl rfl (step_load_all rfl rfl F.agg48 ?hl) ⟨?hb, trivial⟩ ?_; (case hb => repeat (first | exact upd_eq _ _ _ | refine (upd_ne _ _ _ _ (by omega)).trans ?_ | assumption | exact hd _ (by omega) | exact hd0 _ (by omega) | exact hd1 _ (by omega) | exact hd2 _ (by omega) | fail)); (case hl => first | rfl | (simp; done) | (rw [List.length_map]; exact at_len64 (by assumption) (by omega) (by omega))))
              | (refine dl0 (gn rfl) rfl rfl (step_load_ro_all rfl rfl F.agg48 (by first | rfl | (simp; done) | (rw [List.length_map]; exact at_len64 (by assumption) (by omega) (by omega)))) trivial ?_)
              | (refine' dl0 (gn rfl) rfl rfl (step_load_agg rfl (ev_mk rfl) F.agg48 ?hc ?hl) ⟨?hb, trivial⟩ ?_; (case hb => repeat (first | exact upd_eq _ _ _ | refine (upd_ne _ _ _ _ (by omega)).trans ?_ | assumption | exact hd _ (by omega) | exact hd0 _ (by omega) | exact hd1 _ (by omega) | exact hd2 _ (by omega) | fail)); (case hc => rfl); (case hl => first | rfl | (simp; done)))
              | (refine dl0 (gn rfl) rfl rfl (step_load_ro_agg rfl (ev_mk rfl) F.agg48 rfl rfl) trivial ?_)
            refine dl0 (gn rfl) rfl rfl (step_lit rfl Try.underlying29 F.sz48 F.zero48 (by first | rfl | simp) (by first | rfl | simp | decide) (by decide) rfl rfl (by first | (simp [V.cs, V.stor, oneV]; done) | (simp [V.cs, V.stor, oneV]; exact at_len64 (by assumption) (by omega) (by omega))) rfl) trivial ?_
            first
              | (refine' dl1 (gn rfl) rfl rfl (step_append_own rfl rfl rfl Try.underlying29 ⟨_, Try.underlying29, fun k_ => by intro h_; cases h_⟩ F.el48 (ev_mk rfl) (ev_mk rfl) (gives_sl (.inl rfl)) ?hg) ⟨?hb, trivial⟩ (by omega) ?_; (case hb => repeat (first | exact upd_eq _ _ _ | refine (upd_ne _ _ _ _ (by omega)).trans ?_ | assumption | exact hd _ (by omega) | exact hd0 _ (by omega) | exact hd1 _ (by omega) | exact hd2 _ (by omega) | fail)); (case hg => (simp [secsV]; omega)))
              | (refine' dl1 (gn rfl) rfl rfl (step_append_new (k := m0 + 0) rfl rfl rfl Try.underlying29 ⟨_, Try.underlying29, fun k_ => by intro h_; cases h_⟩ F.el48 (ev_mk rfl) (.inl rfl) (ev_mk rfl) (gives_sl (.inl rfl)) ?hg) ⟨?hb, trivial⟩ (by omega) ?_; (case hb => repeat (first | exact upd_eq _ _ _ | refine (upd_ne _ _ _ _ (by omega)).trans ?_ | assumption | exact hd _ (by omega) | exact hd0 _ (by omega) | exact hd1 _ (by omega) | exact hd2 _ (by omega) | fail)); (case hg => (simp [secsV]; omega)))
              | (refine' dl1 (gn rfl) rfl rfl (step_append_new (k := m0 + 0) (xs := []) rfl rfl rfl Try.underlying29 ⟨_, Try.underlying29, fun k_ => by intro h_; cases h_⟩ F.el48 (ev_mk rfl) (.inr ⟨rfl, rfl⟩) (ev_mk rfl) (gives_sl (.inl rfl)) ?hg) ⟨?hb, trivial⟩ (by omega) ?_; (case hb => repeat (first | exact upd_eq _ _ _ | refine (upd_ne _ _ _ _ (by omega)).trans ?_ | assumption | exact hd _ (by omega) | exact hd0 _ (by omega) | exact hd1 _ (by omega) | exact hd2 _ (by omega) | fail)); (case hg => (simp [secsV]; omega)))
              | (refine' dl1 (gn rfl) rfl rfl (step_append_own rfl rfl rfl Try.underlying29 ⟨_, Try.underlying29, fun k_ => by intro h_; cases h_⟩ F.el48 (ev_mk rfl) (ev_mk rfl) (gives_sl (.inr (.inl rfl))) ?hg) ⟨?hb, trivial⟩ (by omega) ?_; (case hb => repeat (first | exact upd_eq _ _ _ | refine (upd_ne _ _ _ _ (by omega)).trans ?_ | assumption | exact hd _ (by omega) | exact hd0 _ (by omega) | exact hd1 _ (by omega) | exact hd2 _ (by omega) | fail)); (case hg => (simp [secsV]; omega)))
              | (refine' dl1 (gn rfl) rfl rfl (step_append_new (k := m0 + 0) rfl rfl rfl Try.underlying29 ⟨_, Try.underlying29, fun k_ => by intro h_; cases h_⟩ F.el48 (ev_mk rfl) (.inl rfl) (ev_mk rfl) (gives_sl (.inr (.inl rfl))) ?hg) ⟨?hb, trivial⟩ (by omega) ?_; (case hb => repeat (first | exact upd_eq _ _ _ | refine (upd_ne _ _ _ _ (by omega)).trans ?_ | assumption | exact hd _ (by omega) | exact hd0 _ (by omega) | exact hd1 _ (by omega) | exact hd2 _ (by omega) | fail)); (case hg => (simp [secsV]; omega)))
              | (refine' dl1 (gn rfl) rfl rfl (step_append_new (k := m0 + 0) (xs := []) rfl rfl rfl Try.underlying29 ⟨_, Try.underlying29, fun k_ => by intro h_; cases h_⟩ F.el48 (ev_mk rfl) (.inr ⟨rfl, rfl⟩) (ev_mk rfl) (gives_sl (.inr (.inl rfl))) ?hg) ⟨?hb, trivial⟩ (by omega) ?_; (case hb => repeat (first | exact upd_eq _ _ _ | refine (upd_ne _ _ _ _ (by omega)).trans ?_ | assumption | exact hd _ (by omega) | exact hd0 _ (by omega) | exact hd1 _ (by omega) | exact hd2 _ (by omega) | fail)); (case hg => (simp [secsV]; omega)))
              | (refine' dl1 (gn rfl) rfl rfl (step_append_own rfl rfl rfl Try.underlying29 ⟨_, Try.underlying29, fun k_ => by intro h_; cases h_⟩ F.el48 (ev_mk rfl) (ev_mk rfl) (gives_sl (.inr (.inr ⟨_, rfl⟩))) ?hg) ⟨?hb, trivial⟩ (by omega) ?_; (case hb => repeat (first | exact upd_eq _ _ _ | refine (upd_ne _ _ _ _ (by omega)).trans ?_ | assumption | exact hd _ (by omega) | exact hd0 _ (by omega) | exact hd1 _ (by omega) | exact hd2 _ (by omega) | fail)); (case hg => (simp [secsV]; omega)))
              | (refine' dl1 (gn rfl) rfl rfl (step_append_new (k := m0 + 0) rfl rfl rfl Try.underlying29 ⟨_, Try.underlying29, fun k_ => by intro h_; cases h_⟩ F.el48 (ev_mk rfl) (.inl rfl) (ev_mk rfl) (gives_sl (.inr (.inr ⟨_, rfl⟩))) ?hg) ⟨?hb, trivial⟩ (by omega) ?_; (case hb => repeat (first | exact upd_eq _ _ _ | refine (upd_ne _ _ _ _ (by omega)).trans ?_ | assumption | exact hd _ (by omega) | exact hd0 _ (by omega) | exact hd1 _ (by omega) | exact hd2 _ (by omega) | fail)); (case hg => (simp [secsV]; omega)))
              | (refine' dl1 (gn rfl) rfl rfl (step_append_new (k := m0 + 0) (xs := []) rfl rfl rfl Try.underlying29 ⟨_, Try.underlying29, fun k_ => by intro h_; cases h_⟩ F.el48 (ev_mk rfl) (.inr ⟨rfl, rfl⟩) (ev_mk rfl) (gives_sl (.inr (.inr ⟨_, rfl⟩))) ?hg) ⟨?hb, trivial⟩ (by omega) ?_; (case hb => repeat (first | exact upd_eq _ _ _ | refine (upd_ne _ _ _ _ (by omega)).trans ?_ | assumption | exact hd _ (by omega) | exact hd0 _ (by omega) | exact hd1 _ (by omega) | exact hd2 _ (by omega) | fail)); (case hg => (simp [secsV]; omega)))
              | (refine' dl1 (gn rfl) rfl rfl (step_append_own rfl rfl rfl Try.underlying29 ⟨_, Try.underlying29, fun k_ => by intro h_; cases h_⟩ F.el48 (ev_mk rfl) (ev_mk rfl) gives_nil ?hg) ⟨?hb, trivial⟩ (by omega) ?_; (case hb => repeat (first | exact upd_eq _ _ _ | refine (upd_ne _ _ _ _ (by omega)).trans ?_ | assumption | exact hd _ (by omega) | exact hd0 _ (by omega) | exact hd1 _ (by omega) | exact hd2 _ (by omega) | fail)); (case hg => (simp [secsV]; omega)))
              | (refine' dl1 (gn rfl) rfl rfl (step_append_new (k := m0 + 0) rfl rfl rfl Try.underlying29 ⟨_, Try.underlying29, fun k_ => by intro h_; cases h_⟩ F.el48 (ev_mk rfl) (.inl rfl) (ev_mk rfl) gives_nil ?hg) ⟨?hb, trivial⟩ (by omega) ?_; (case hb => repeat (first | exact upd_eq _ _ _ | refine (upd_ne _ _ _ _ (by omega)).trans ?_ | assumption | exact hd _ (by omega) | exact hd0 _ (by omega) | exact hd1 _ (by omega) | exact hd2 _ (by omega) | fail)); (case hg => (simp [secsV]; omega)))
              | (refine' dl1 (gn rfl) rfl rfl (step_append_new (k := m0 + 0) (xs := []) rfl rfl rfl Try.underlying29 ⟨_, Try.underlying29, fun k_ => by intro h_; cases h_⟩ F.el48 (ev_mk rfl) (.inr ⟨rfl, rfl⟩) (ev_mk rfl) gives_nil ?hg) ⟨?hb, trivial⟩ (by omega) ?_; (case hb => repeat (first | exact upd_eq _ _ _ | refine (upd_ne _ _ _ _ (by omega)).trans ?_ | assumption | exact hd _ (by omega) | exact hd0 _ (by omega) | exact hd1 _ (by omega) | exact hd2 _ (by omega) | fail)); (case hg => (simp [secsV]; omega)))
              | (refine' dl1 (gn rfl) rfl rfl (step_append_own rfl rfl rfl Try.underlying29 ⟨_, Try.underlying29, fun k_ => by intro h_; cases h_⟩ F.el48 (ev_mk rfl) (ev_mk rfl) (gives_msl ?hl ?hy) ?hg) ⟨?hb, ⟨?hm, trivial⟩⟩ (by omega) ?_; (case hb => repeat (first | exact upd_eq _ _ _ | refine (upd_ne _ _ _ _ (by omega)).trans ?_ | assumption | exact hd _ (by omega) | exact hd0 _ (by omega) | exact hd1 _ (by omega) | exact hd2 _ (by omega) | fail)); (case hg => (simp [secsV]; omega)); (case hm => repeat (first | exact upd_eq _ _ _ | refine (upd_ne _ _ _ _ (by omega)).trans ?_ | assumption | exact hd _ (by omega) | exact hd0 _ (by omega) | exact hd1 _ (by omega) | exact hd2 _ (by omega) | fail)); (case hl => (rw [List.length_map]; exact at_len64 (by assumption) (by omega) (by omega))); (case hy => rfl))
              | (refine' dl1 (gn rfl) rfl rfl (step_append_new (k := m0 + 0) rfl rfl rfl Try.underlying29 ⟨_, Try.underlying29, fun k_ => by intro h_; cases h_⟩ F.el48 (ev_mk rfl) (.inl rfl) (ev_mk rfl) (gives_msl ?hl ?hy) ?hg) ⟨?hb, ⟨?hm, trivial⟩⟩ (by omega) ?_; (case hb => repeat (first | exact upd_eq _ _ _ | refine (upd_ne _ _ _ _ (by omega)).trans ?_ | assumption | exact hd _ (by omega) | exact hd0 _ (by omega) | exact hd1 _ (by omega) | exact hd2 _ (by omega) | fail)); (case hg => (simp [secsV]; omega)); (case hm => repeat (first | exact upd_eq _ _ _ | refine (upd_ne _ _ _ _ (by omega)).trans ?_ | assumption | exact hd _ (by omega) | exact hd0 _ (by omega) | exact hd1 _ (by omega) | exact hd2 _ (by omega) | fail)); (case hl => (rw [List.length_map]; exact at_len64 (by assumption) (by omega) (by omega))); (case hy => rfl))
              | (refine' dl1 (gn rfl) rfl rfl (step_append_new (k := m0 + 0) (xs := []) rfl rfl rfl Try.underlying29 ⟨_, Try.underlying29, fun k_ => by intro h_; cases h_⟩ F.el48 (ev_mk rfl) (.inr ⟨rfl, rfl⟩) (ev_mk rfl) (gives_msl ?hl ?hy) ?hg) ⟨?hb, ⟨?hm, trivial⟩⟩ (by omega) ?_; (case hb => repeat (first | exact upd_eq _ _ _ | refine (upd_ne _ _ _ _ (by omega)).trans ?_ | assumption | exact hd _ (by omega) | exact hd0 _ (by omega) | exact hd1 _ (by omega) | exact hd2 _ (by omega) | fail)); (case hg => (simp [secsV]; omega)); (case hm => repeat (first | exact upd_eq _ _ _ | refine (upd_ne _ _ _ _ (by omega)).trans ?_ | assumption | exact hd _ (by omega) | exact hd0 _ (by omega) | exact hd1 _ (by omega) | exact hd2 _ (by omega) | fail)); (case hl => (rw [List.length_map]; exact at_len64 (by assumption) (by omega) (by omega))); (case hy => rfl))
            first | refine dl0 (gn rfl) rfl rfl (step_fieldAddr (off := 0) rfl (ev_mk rfl) Try.underlying32 rfl F.sz29 rfl) trivial ?_ | refine dl0 (gn rfl) rfl rfl (step_fieldAddr_ro (off := 0) rfl (ev_mk rfl) Try.underlying32 rfl F.sz29 rfl rfl) trivial ?_
            refine' dls (gn rfl) rfl (step_store1 rfl rfl rfl rfl F.one29 rfl rfl ?hl ?hc) ⟨?hb, trivial⟩ ?hk ?_
            case hb => repeat (first | exact upd_eq _ _ _ | refine (upd_ne _ _ _ _ (by omega)).trans ?_ | assumption | exact hd _ (by omega) | exact hd0 _ (by omega) | exact hd1 _ (by omega) | exact hd2 _ (by omega) | fail)
            case hl => first | decide | (simp; done) | (simp; omega) | (rw [List.length_map]; exact at_len64 (by assumption) (by omega) (by omega))
            case hc => first | (simp only [List.set_cons_succ, List.set_cons_zero]; rfl) | rfl
            case hk => omega
            refine dlnil ?_ ?_
            · repeat' (first | exact trivial | exact .inr (ap0 _ _ _ _) | exact .inr (ap2 _ _ _ _) | exact .inr (ap3 _ _ _ _) | exact .inr ⟨by first | (simp; done) | (simp; omega), by first | (simp; done) | (simp; omega)⟩ | exact .inl (by kernel_rfl) | refine ⟨?_, ?_⟩ | fail)
            refine runs_region ?_
            refine rl0 (gn rfl) rfl rfl (step_mv rfl rfl) trivial ?_
            refine rl0 (gn rfl) rfl rfl (step_add rfl (ev_mk rfl) (ev_mk rfl) (w64 (by omega))) trivial ?_
            refine rl0 (gn rfl) rfl rfl (step_as rfl rfl) trivial ?_
            refine runsL_nil ?_
            have hr_ := mixAt_o1 (S := S) (l := l) (f := f) (kp := kp) (i := j) (x := x) (by omega)
            have hsn_ := snoc_ _ j _ hr_
            refine ⟨_, _, ?_, sle ?_ (Nat.le_refl _), j + 1, _, _, rfl, rfl, by omega, (fun k hk => by repeat (first | exact hf0 k hk | refine (upd_ne _ _ _ _ (by first | assumption | omega)).trans ?_ | fail)), by repeat (first | exact upd_eq _ _ _ | assumption | refine (upd_ne _ _ _ _ (by omega)).trans ?_ | fail), by repeat (first | exact upd_eq _ _ _ | assumption | refine (upd_ne _ _ _ _ (by omega)).trans ?_ | fail), by (rw [← hsn_]; repeat (first | exact upd_eq _ _ _ | assumption | refine (upd_ne _ _ _ _ (by omega)).trans ?_ | fail)), by (rw [← hsn_]; repeat (first | exact upd_eq _ _ _ | assumption | refine (upd_ne _ _ _ _ (by omega)).trans ?_ | fail)), by omega⟩
            · omega
            · (repeat' (first | exact trivial | refine ⟨⟨_, rfl, ?_⟩, ?_⟩ | fail)); (all_goals first | exact VLe.refl _ | (rw [Int.natCast_add]; exact VLe.refl _) | exact VLe.own_sl _ _ _ | exact VLe.fl_sl _ _ | exact VLe.nil_sl _)
        · skip
          refine runsL_nil ?_
          refine runs_cond false (ev_mk rfl) (fun h_ => nomatch h_) (fun _ => ?_)
          refine runs_exit ?_
          refine runs_seq ?_
          refine runs_seq ?_
          refine runs_region ?_
          first | refine rl0 (gn rfl) rfl rfl (step_fieldAddr (off := 2) rfl (ev_mk rfl) Try.underlying32 rfl F.sz3 rfl) trivial ?_ | refine rl0 (gn rfl) rfl rfl (step_fieldAddr_ro (off := 2) rfl (ev_mk rfl) Try.underlying32 rfl F.sz3 rfl rfl) trivial ?_
          first
            | (refine' rl0 (gn rfl) rfl rfl (step_load_one rfl (ev_mk rfl) F.one3 ?hv) ⟨?hb, trivial⟩ ?_; (case hb => repeat (first | exact upd_eq _ _ _ | refine (upd_ne _ _ _ _ (by omega)).trans ?_ | assumption | exact hd _ (by omega) | exact hd0 _ (by omega) | exact hd1 _ (by omega) | exact hd2 _ (by omega) | fail)); (case hv => exact rfl))
            | (refine rl0 (gn rfl) rfl rfl (step_load_ro rfl (ev_mk rfl) F.one3 rfl) trivial ?_)
          refine rl_eql (gn rfl) rfl rfl rfl rfl rfl (fun h4 => ?_) (fun h4 => ?_)
          · skip
            refine runsL_nil ?_
            refine runs_cond true (ev_mk rfl) (fun _ => ?_) (fun h_ => nomatch h_)
            refine runs_seq ?_
            refine runs_region ?_
            first | refine rl0 (gn rfl) rfl rfl (step_fieldAddr (off := 4) rfl (ev_mk rfl) Try.underlying32 rfl F.sz4 rfl) trivial ?_ | refine rl0 (gn rfl) rfl rfl (step_fieldAddr_ro (off := 4) rfl (ev_mk rfl) Try.underlying32 rfl F.sz4 rfl rfl) trivial ?_
            refine' rls (gn rfl) rfl (step_store1 rfl rfl rfl rfl F.one4 rfl rfl ?hl ?hc) ⟨?hb, trivial⟩ ?hk ?_
            case hb => repeat (first | exact upd_eq _ _ _ | refine (upd_ne _ _ _ _ (by omega)).trans ?_ | assumption | exact hd _ (by omega) | exact hd0 _ (by omega) | exact hd1 _ (by omega) | exact hd2 _ (by omega) | fail)
            case hl => first | decide | (simp; done) | (simp; omega) | (rw [List.length_map]; exact at_len64 (by assumption) (by omega) (by omega))
            case hc => first | (simp only [List.set_cons_succ, List.set_cons_zero]; rfl) | rfl
            case hk => omega
            refine runsL_nil ?_
            refine runs_seq ?_
            refine runs_region ?_
            first
              | (refine' rl0 (gn rfl) rfl rfl (step_load_all rfl rfl F.agg32 ?hl) ⟨?hb, trivial⟩ ?_; (case hb => repeat (first | exact upd_eq _ _ _ | refine (upd_ne _ _ _ _ (by omega)).trans ?_ | assumption | exact hd _ (by omega) | exact hd0 _ (by omega) | exact hd1 _ (by omega) | exact hd2 _ (by omega) | fail)); (case hl => first | rfl | (simp; done) | (rw [List.length_map]; exact at_len64 (by assumption) (by omega) (by omega))))
              | (refine rl0 (gn rfl) rfl rfl (step_load_ro_all rfl rfl F.agg32 (by first | rfl | (simp; done) | (rw [List.length_map]; exact at_len64 (by assumption) (by omega) (by omega)))) trivial ?_)
              | (refine' rl0 (gn rfl) rfl rfl (step_load_agg rfl (ev_mk rfl) F.agg32 ?hc ?hl) ⟨?hb, trivial⟩ ?_; (case hb => repeat (first | exact upd_eq _ _ _ | refine (upd_ne _ _ _ _ (by omega)).trans ?_ | assumption | exact hd _ (by omega) | exact hd0 _ (by omega) | exact hd1 _ (by omega) | exact hd2 _ (by omega) | fail)); (case hc => rfl); (case hl => first | rfl | (simp; done)))
              | (refine rl0 (gn rfl) rfl rfl (step_load_ro_agg rfl (ev_mk rfl) F.agg32 rfl rfl) trivial ?_)
            first
              | (refine' rls (gn rfl) rfl (step_storeA rfl rfl rfl rfl F.agg32 ?hm ?hl) ⟨?hb, trivial⟩ ?hk ?_; (case hb => repeat (first | exact upd_eq _ _ _ | refine (upd_ne _ _ _ _ (by omega)).trans ?_ | assumption | exact hd _ (by omega) | exact hd0 _ (by omega) | exact hd1 _ (by omega) | exact hd2 _ (by omega) | fail)); (case hm => first | rfl | (simp; done) | (rw [List.length_map]; exact at_len64 (by assumption) (by omega) (by omega))); (case hl => first | rfl | (simp; done) | (rw [List.length_map]; exact at_len64 (by assumption) (by omega) (by omega))); (case hk => omega))
              | (refine' rls (gn rfl) rfl (step_storeS rfl rfl rfl rfl F.agg32 ?hm ?hl ?hc) ⟨?hb, trivial⟩ ?hk ?_; (case hb => repeat (first | exact upd_eq _ _ _ | refine (upd_ne _ _ _ _ (by omega)).trans ?_ | assumption | exact hd _ (by omega) | exact hd0 _ (by omega) | exact hd1 _ (by omega) | exact hd2 _ (by omega) | fail)); (case hm => first | rfl | (simp; done) | (rw [List.length_map]; exact at_len64 (by assumption) (by omega) (by omega))); (case hl => first | decide | (simp; done) | (rw [List.length_map]; exact at_len64 (by assumption) (by omega) (by omega))); (case hc => rfl); (case hk => omega))
            refine rl0 (gn rfl) rfl rfl (step_as rfl rfl) trivial ?_
            refine runsL_nil ?_
            refine runs_ret ?_
            refine ⟨by first | exact .inr rfl | exact .inl rfl, fin_mk (resc rfl (by repeat (first | exact upd_eq _ _ _ | refine (upd_ne _ _ _ _ (by omega)).trans ?_ | assumption | exact hd _ (by omega) | exact hd0 _ (by omega) | exact hd1 _ (by omega) | exact hd2 _ (by omega) | fail)) F.agg32 (by first | rfl | (rw [List.length_map]; exact at_len64 (by assumption) (by omega) (by omega))) (rest rfl res0)) ?_ ?_ ?_ ?_⟩
            · (obtain rfl : j = S.length := by omega); exact VLe.tup (.cons (VLe.agg (.cons (VLe.own_sl _ _ _) (.cons (VLe.refl _) (.cons (VLe.refl _) (.cons (VLe.refl _) (.cons (VLe.refl _) .nil)))))) (.cons (VLe.refl _) .nil))
            · repeat (first | exact trivial | assumption | omega | exact bd_bs | exact bd_row | exact bd_secs | exact bd_bools | refine ⟨?_, ?_⟩ | fail)
            · intro k hk; exact ble (by first | exact rfl | (refine (upd_ne _ _ _ _ (by omega)).trans ?_; first | exact rfl | skip; repeat (first | exact rfl | refine (upd_ne _ _ _ _ (by omega)).trans ?_ | assumption | exact hf0 _ (by omega) | exact hf1 _ (by omega) | exact hf2 _ (by omega) | exact hf0 _ (by omega) (by first | assumption | omega) | exact hf1 _ (by omega) (by first | assumption | omega))) | exact hf0 _ (by omega) | exact hf1 _ (by omega) | exact hf2 _ (by omega) | exact hf0 _ (by omega) (by first | assumption | omega) | exact hf1 _ (by omega) (by first | assumption | omega))
            · intro p hp; cases hp
          · skip
            exact absurd hf (by assumption)
set_option maxRecDepth 100000 in
set_option maxHeartbeats 4000000 in
theorem rwrite_ok (S : List (List Int)) (w f : Int) (kp : List Bool) (dn : Bool) (hS : ∀ r ∈ S, r.length = 64) (l : List (List Int)) (hl64 : ∀ r ∈ l, r.length = 64) (x : Int) (hl : l.length ≤ 100000) (hL : S.length ≤ 100000) (hx : -9223372036854775808 ≤ x ∧ x ≤ 9223372036854775807) (hi : insideB S.length x l.length = true) (hdn : dn = false) (hf : f ≠ 0) (hw : 0 ≤ w ∧ w ≤ 1000000000000) (hff : -1 ≤ f ∧ f ≤ 9223372036854775807) : Does Try.prog 23 [.agg [.sl 64 (secsV (S)), .sc (.int .i64 (w)), .sc (.int .i64 (f)), .sl 1 (boolsV (kp)), .sc (.bool (dn))], .sc (.int .i64 x), .sl 64 (secsV l)] [] [] (.tup [.agg [.sl 64 (secsV (mixS S x l f kp)), .sc (.int .i64 (w + 1)), .sc (.int .i64 (if f > 0 then f - 1 else f)), .sl 1 (boolsV (kp)), .sc (.bool (dn))], .sc (.int .i64 0)]) := by
  refine does_mk 20 Try.func23 rfl rfl rfl (fun n B bx hd hpre hup hvs hbx => ?_)
  have hii := of_decide_eq_true hi
  refine runs_seq ?_
  refine runs_region ?_
  first | refine rl1 (gn rfl) rfl rfl (step_box_agg (k := n + 0) rfl rfl) ⟨by repeat (first | exact upd_eq _ _ _ | refine (upd_ne _ _ _ _ (by omega)).trans ?_ | assumption | exact hd _ (by omega) | exact hd0 _ (by omega) | exact hd1 _ (by omega) | exact hd2 _ (by omega) | fail), trivial⟩ (by omega) ?_ | refine rl1 (gn rfl) rfl rfl (step_box_one (k := n + 0) rfl rfl rfl rfl) ⟨by repeat (first | exact upd_eq _ _ _ | refine (upd_ne _ _ _ _ (by omega)).trans ?_ | assumption | exact hd _ (by omega) | exact hd0 _ (by omega) | exact hd1 _ (by omega) | exact hd2 _ (by omega) | fail), trivial⟩ (by omega) ?_
  refine rl1 (gn rfl) rfl rfl (step_allocc (k := n + 1) (zs := [.slice none 0 0, .int .i64 0, .int .i64 0, .slice none 0 0, .bool false]) (cs := [.sc (.slice none 0 0), .sc (.int .i64 0), .sc (.int .i64 0), .sc (.slice none 0 0), .sc (.bool false)]) rfl F.zero32 (by first | rfl | simp) (by first | rfl | decide | simp) (by first | rfl | simp)) ⟨by repeat (first | exact upd_eq _ _ _ | refine (upd_ne _ _ _ _ (by omega)).trans ?_ | assumption | exact hd _ (by omega) | exact hd0 _ (by omega) | exact hd1 _ (by omega) | exact hd2 _ (by omega) | fail), trivial⟩ (by omega) ?_
  refine rl0 (gn rfl) rfl rfl (step_as rfl rfl) trivial ?_
  refine runsL_nil ?_
  refine runs_seq ?_
  refine runs_seq ?_
  refine runs_region ?_
  first
    | (refine' rl0 (gn rfl) rfl rfl (step_load_all rfl rfl F.agg32 ?hl) ⟨?hb, trivial⟩ ?_; (case hb => repeat (first | exact upd_eq _ _ _ | refine (upd_ne _ _ _ _ (by omega)).trans ?_ | assumption | exact hd _ (by omega) | exact hd0 _ (by omega) | exact hd1 _ (by omega) | exact hd2 _ (by omega) | fail)); (case hl => first | rfl | (simp; done) | (rw [List.length_map]; exact at_len64 (by assumption) (by omega) (by omega))))
    | (refine rl0 (gn rfl) rfl rfl (step_load_ro_all rfl rfl F.agg32 (by first | rfl | (simp; done) | (rw [List.length_map]; exact at_len64 (by assumption) (by omega) (by omega)))) trivial ?_)
    | (refine' rl0 (gn rfl) rfl rfl (step_load_agg rfl (ev_mk rfl) F.agg32 ?hc ?hl) ⟨?hb, trivial⟩ ?_; (case hb => repeat (first | exact upd_eq _ _ _ | refine (upd_ne _ _ _ _ (by omega)).trans ?_ | assumption | exact hd _ (by omega) | exact hd0 _ (by omega) | exact hd1 _ (by omega) | exact hd2 _ (by omega) | fail)); (case hc => rfl); (case hl => first | rfl | (simp; done)))
    | (refine rl0 (gn rfl) rfl rfl (step_load_ro_agg rfl (ev_mk rfl) F.agg32 rfl rfl) trivial ?_)
  refine rl0 (gn rfl) rfl rfl (step_mv rfl rfl) trivial ?_
  refine rl0 (gn rfl) rfl rfl (step_mv rfl rfl) trivial ?_
  first
    | refine rl0 (gn rfl) rfl rfl (step_len rfl rfl (ev_mk rfl) (.inl ⟨⟨_, Try.underlying29⟩, .inl ⟨_, _, .inl rfl, List.length_map _⟩⟩)) trivial ?_
    | refine rl0 (gn rfl) rfl rfl (step_len rfl rfl (ev_mk rfl) (.inl ⟨⟨_, Try.underlying29⟩, .inl ⟨_, _, .inl rfl, rfl⟩⟩)) trivial ?_
    | refine rl0 (gn rfl) rfl rfl (step_len rfl rfl (ev_mk rfl) (.inl ⟨⟨_, Try.underlying29⟩, .inl ⟨_, _, .inr (.inl rfl), List.length_map _⟩⟩)) trivial ?_
    | refine rl0 (gn rfl) rfl rfl (step_len rfl rfl (ev_mk rfl) (.inl ⟨⟨_, Try.underlying29⟩, .inl ⟨_, _, .inr (.inl rfl), rfl⟩⟩)) trivial ?_
    | refine rl0 (gn rfl) rfl rfl (step_len rfl rfl (ev_mk rfl) (.inl ⟨⟨_, Try.underlying29⟩, .inl ⟨_, _, .inr (.inr ⟨_, rfl⟩), List.length_map _⟩⟩)) trivial ?_
    | refine rl0 (gn rfl) rfl rfl (step_len rfl rfl (ev_mk rfl) (.inl ⟨⟨_, Try.underlying29⟩, .inl ⟨_, _, .inr (.inr ⟨_, rfl⟩), rfl⟩⟩)) trivial ?_
    | refine rl0 (gn rfl) rfl rfl (step_len rfl rfl (ev_mk rfl) (.inl ⟨⟨_, Try.underlying29⟩, .inr (.inl ⟨_, _, _, _, rfl⟩)⟩)) trivial ?_
    | refine rl0 (gn rfl) rfl rfl (step_len (m := 0) rfl rfl (ev_mk rfl) (.inl ⟨⟨_, Try.underlying29⟩, .inr (.inr ⟨_, _, rfl⟩)⟩)) trivial ?_
  refine rl0 (gn rfl) rfl rfl (step_callc rfl Try.func28 rfl rfl rfl (rinside_q S w f kp dn (by omega) x _ hx (by omega) _ hi) (by repeat (first | exact .nil | refine .cons ?_ ?_ | exact VLe.refl _ | exact VLe.own_sl _ _ _ | exact VLe.fl_sl _ _ | exact VLe.nil_sl _ | exact VLe.nil_fl _ | refine VLe.agg ?_))) trivial ?_
  refine rl0 (gn rfl) rfl rfl (step_unOp rfl (ev_mk rfl) (fun _ => rfl)) trivial ?_
  refine runsL_nil ?_
  refine runs_cond _ (ev_mk rfl) (fun h1 => ?_) (fun h1 => ?_)
  · skip
    exact absurd ‹_› (by simp)
  · skip
    refine runs_skip ?_
    refine runs_seq ?_
    refine runs_seq ?_
    refine runs_region ?_
    first | refine rl0 (gn rfl) rfl rfl (step_fieldAddr (off := 4) rfl (ev_mk rfl) Try.underlying32 rfl F.sz4 rfl) trivial ?_ | refine rl0 (gn rfl) rfl rfl (step_fieldAddr_ro (off := 4) rfl (ev_mk rfl) Try.underlying32 rfl F.sz4 rfl rfl) trivial ?_
    first
      | (refine' rl0 (gn rfl) rfl rfl (step_load_one rfl (ev_mk rfl) F.one4 ?hv) ⟨?hb, trivial⟩ ?_; (case hb => repeat (first | exact upd_eq _ _ _ | refine (upd_ne _ _ _ _ (by omega)).trans ?_ | assumption | exact hd _ (by omega) | exact hd0 _ (by omega) | exact hd1 _ (by omega) | exact hd2 _ (by omega) | fail)); (case hv => exact rfl))
      | (refine rl0 (gn rfl) rfl rfl (step_load_ro rfl (ev_mk rfl) F.one4 rfl) trivial ?_)
    refine runsL_nil ?_
    refine runs_cond _ (ev_mk rfl) (fun h2 => ?_) (fun h2 => ?_)
    · skip
      exact absurd ‹_› (by simp [hdn])
    · skip
      refine runs_skip ?_
      refine runs_seq ?_
      refine runs_region ?_
      first
        | (refine' rl0 (gn rfl) rfl rfl (step_load_all rfl rfl F.agg32 ?hl) ⟨?hb, trivial⟩ ?_; (case hb => repeat (first | exact upd_eq _ _ _ | refine (upd_ne _ _ _ _ (by omega)).trans ?_ | assumption | exact hd _ (by omega) | exact hd0 _ (by omega) | exact hd1 _ (by omega) | exact hd2 _ (by omega) | fail)); (case hl => first | rfl | (simp; done) | (rw [List.length_map]; exact at_len64 (by assumption) (by omega) (by omega))))
        | (refine rl0 (gn rfl) rfl rfl (step_load_ro_all rfl rfl F.agg32 (by first | rfl | (simp; done) | (rw [List.length_map]; exact at_len64 (by assumption) (by omega) (by omega)))) trivial ?_)
        | (refine' rl0 (gn rfl) rfl rfl (step_load_agg rfl (ev_mk rfl) F.agg32 ?hc ?hl) ⟨?hb, trivial⟩ ?_; (case hb => repeat (first | exact upd_eq _ _ _ | refine (upd_ne _ _ _ _ (by omega)).trans ?_ | assumption | exact hd _ (by omega) | exact hd0 _ (by omega) | exact hd1 _ (by omega) | exact hd2 _ (by omega) | fail)); (case hc => rfl); (case hl => first | rfl | (simp; done)))
        | (refine rl0 (gn rfl) rfl rfl (step_load_ro_agg rfl (ev_mk rfl) F.agg32 rfl rfl) trivial ?_)
      refine rl1 (gn rfl) rfl rfl (step_allocc (k := n + 2) (zs := [.slice none 0 0, .int .i64 0, .int .i64 0, .slice none 0 0, .bool false]) (cs := [.sc (.slice none 0 0), .sc (.int .i64 0), .sc (.int .i64 0), .sc (.slice none 0 0), .sc (.bool false)]) rfl F.zero32 (by first | rfl | simp) (by first | rfl | decide | simp) (by first | rfl | simp)) ⟨by repeat (first | exact upd_eq _ _ _ | refine (upd_ne _ _ _ _ (by omega)).trans ?_ | assumption | exact hd _ (by omega) | exact hd0 _ (by omega) | exact hd1 _ (by omega) | exact hd2 _ (by omega) | fail), trivial⟩ (by omega) ?_
      first
        | (refine' rls (gn rfl) rfl (step_storeA rfl rfl rfl rfl F.agg32 ?hm ?hl) ⟨?hb, trivial⟩ ?hk ?_; (case hb => repeat (first | exact upd_eq _ _ _ | refine (upd_ne _ _ _ _ (by omega)).trans ?_ | assumption | exact hd _ (by omega) | exact hd0 _ (by omega) | exact hd1 _ (by omega) | exact hd2 _ (by omega) | fail)); (case hm => first | rfl | (simp; done) | (rw [List.length_map]; exact at_len64 (by assumption) (by omega) (by omega))); (case hl => first | rfl | (simp; done) | (rw [List.length_map]; exact at_len64 (by assumption) (by omega) (by omega))); (case hk => omega))
        | (refine' rls (gn rfl) rfl (step_storeS rfl rfl rfl rfl F.agg32 ?hm ?hl ?hc) ⟨?hb, trivial⟩ ?hk ?_; (case hb => repeat (first | exact upd_eq _ _ _ | refine (upd_ne _ _ _ _ (by omega)).trans ?_ | assumption | exact hd _ (by omega) | exact hd0 _ (by omega) | exact hd1 _ (by omega) | exact hd2 _ (by omega) | fail)); (case hm => first | rfl | (simp; done) | (rw [List.length_map]; exact at_len64 (by assumption) (by omega) (by omega))); (case hl => first | decide | (simp; done) | (rw [List.length_map]; exact at_len64 (by assumption) (by omega) (by omega))); (case hc => rfl); (case hk => omega))
      refine runsL_nil ?_
      refine runs_seq ?_
      refine runs_region ?_
      first | refine rl0 (gn rfl) rfl rfl (step_fieldAddr (off := 0) rfl (ev_mk rfl) Try.underlying32 rfl F.sz29 rfl) trivial ?_ | refine rl0 (gn rfl) rfl rfl (step_fieldAddr_ro (off := 0) rfl (ev_mk rfl) Try.underlying32 rfl F.sz29 rfl rfl) trivial ?_
      refine' rls (gn rfl) rfl (step_store1 rfl rfl rfl rfl F.one29 rfl rfl ?hl ?hc) ⟨?hb, trivial⟩ ?hk ?_
      case hb => repeat (first | exact upd_eq _ _ _ | refine (upd_ne _ _ _ _ (by omega)).trans ?_ | assumption | exact hd _ (by omega) | exact hd0 _ (by omega) | exact hd1 _ (by omega) | exact hd2 _ (by omega) | fail)
      case hl => first | decide | (simp; done) | (simp; omega) | (rw [List.length_map]; exact at_len64 (by assumption) (by omega) (by omega))
      case hc => first | (simp only [List.set_cons_succ, List.set_cons_zero]; rfl) | rfl
      case hk => omega
      refine runsL_nil ?_
      refine runs_seq ?_
      refine runs_seq ?_
      refine runs_region ?_
      refine rl0 (gn rfl) rfl rfl (step_as rfl rfl) trivial ?_
      refine runsL_nil ?_
      refine runs_block ?_
      refine runs_growb (k := n + 2) (kn := n + 3) (q := 0) (e := 64) (by repeat (first | exact upd_eq _ _ _ | refine (upd_ne _ _ _ _ (by omega)).trans ?_ | assumption | exact hd _ (by omega) | exact hd0 _ (by omega) | exact hd1 _ (by omega) | exact hd2 _ (by omega) | fail)) rfl (by repeat (first | exact upd_eq _ _ _ | refine (upd_ne _ _ _ _ (by omega)).trans ?_ | assumption | exact hd _ (by omega) | exact hd0 _ (by omega) | exact hd1 _ (by omega) | exact hd2 _ (by omega) | fail)) (by omega) (by omega) ?_
      refine runs_loop (fun (i : Nat) (s : Go.Vm.S) => ∃ (j : Nat) (m0 : Nat) (b0 : Nat → Box), (s = ⟨mk [(1, .sc (.int .i64 x)), (2, .sl 64 (secsV l)), (3, .ref (n + 0) 0), (6, .ref (n + 1) 0), (7, .sc (.int .i64 0)), (8, .ref (n + 2) 0), (9, .sc (.int .i64 j))], m0, b0⟩) ∧ (i = S.length - j) ∧ (n + 4 ≤ m0) ∧ (∀ k, k < n → b0 k = bx k) ∧ (b0 (n + 0) = .cells [.sl 64 (secsV (S)), .sc (.int .i64 (w)), .sc (.int .i64 (f)), .sl 1 (boolsV (kp)), .sc (.bool (dn))]) ∧ (b0 (n + 1) = .cells [.sc (.slice none 0 0), .sc (.int .i64 0), .sc (.int .i64 0), .sc (.slice none 0 0), .sc (.bool false)]) ∧ (b0 (n + 2) = .cells [.own 64 (secsV ((List.range j).map (mixAt S x l f kp))) (n + 3), .sc (.int .i64 w), .sc (.int .i64 f), .sl 1 (boolsV kp), .sc (.bool dn)]) ∧ (b0 (n + 3) = .tail (secsV ((List.range j).map (mixAt S x l f kp))).length) ∧ (j ≤ S.length)) (S.length) ⟨_, sle ?_ (Nat.le_refl _), 0, _, _, rfl, rfl, ?_⟩ ?_
      · (repeat' (first | exact trivial | refine ⟨⟨_, rfl, ?_⟩, ?_⟩ | fail)); (all_goals first | exact VLe.refl _ | (rw [Int.natCast_add]; exact VLe.refl _) | exact VLe.own_sl _ _ _ | exact VLe.fl_sl _ _ | exact VLe.nil_sl _)
      · exact ⟨by omega, (fun k hk => by first | exact rfl | (refine (upd_ne _ _ _ _ (by omega)).trans ?_; first | exact rfl | skip; repeat (first | exact rfl | refine (upd_ne _ _ _ _ (by omega)).trans ?_ | assumption | exact hf0 _ (by omega) | exact hf1 _ (by omega) | exact hf2 _ (by omega) | exact hf0 _ (by omega) (by first | assumption | omega) | exact hf1 _ (by omega) (by first | assumption | omega))) | exact hf0 _ (by omega) | exact hf1 _ (by omega) | exact hf2 _ (by omega) | exact hf0 _ (by omega) (by first | assumption | omega) | exact hf1 _ (by omega) (by first | assumption | omega)), by repeat (first | exact upd_eq _ _ _ | assumption | refine (upd_ne _ _ _ _ (by omega)).trans ?_ | fail), by repeat (first | exact upd_eq _ _ _ | assumption | refine (upd_ne _ _ _ _ (by omega)).trans ?_ | fail), by (repeat (first | exact upd_eq _ _ _ | assumption | refine (upd_ne _ _ _ _ (by omega)).trans ?_ | fail)), by repeat (first | exact upd_eq _ _ _ | assumption | refine (upd_ne _ _ _ _ (by omega)).trans ?_ | fail), by omega⟩
      · rintro _ _ ⟨j, m0, b0, rfl, rfl, hm0, hf0, hB0_0, hB0_1, hB0_2, hB0_3, hF0_0⟩
        refine runs_know (fun hd0 => ?_)
        refine runs_bump 8 ?_
        simp only at hd0
        refine runs_seq ?_
        refine runs_seq ?_
        refine runs_region ?_
        refine rl0 (gn rfl) rfl rfl (step_mv rfl rfl) trivial ?_
        first | refine rl0 (gn rfl) rfl rfl (step_fieldAddr (off := 0) rfl (ev_mk rfl) Try.underlying32 rfl F.sz29 rfl) trivial ?_ | refine rl0 (gn rfl) rfl rfl (step_fieldAddr_ro (off := 0) rfl (ev_mk rfl) Try.underlying32 rfl F.sz29 rfl rfl) trivial ?_
        first
          | (refine' rl0 (gn rfl) rfl rfl (step_load_one rfl (ev_mk rfl) F.one29 ?hv) ⟨?hb, trivial⟩ ?_; (case hb => repeat (first | exact upd_eq _ _ _ | refine (upd_ne _ _ _ _ (by omega)).trans ?_ | assumption | exact hd _ (by omega) | exact hd0 _ (by omega) | exact hd1 _ (by omega) | exact hd2 _ (by omega) | fail)); (case hv => exact rfl))
          | (refine rl0 (gn rfl) rfl rfl (step_load_ro rfl (ev_mk rfl) F.one29 rfl) trivial ?_)
        first
          | refine rl0 (gn rfl) rfl rfl (step_len rfl rfl (ev_mk rfl) (.inl ⟨⟨_, Try.underlying29⟩, .inl ⟨_, _, .inl rfl, List.length_map _⟩⟩)) trivial ?_
          | refine rl0 (gn rfl) rfl rfl (step_len rfl rfl (ev_mk rfl) (.inl ⟨⟨_, Try.underlying29⟩, .inl ⟨_, _, .inl rfl, rfl⟩⟩)) trivial ?_
          | refine rl0 (gn rfl) rfl rfl (step_len rfl rfl (ev_mk rfl) (.inl ⟨⟨_, Try.underlying29⟩, .inl ⟨_, _, .inr (.inl rfl), List.length_map _⟩⟩)) trivial ?_
          | refine rl0 (gn rfl) rfl rfl (step_len rfl rfl (ev_mk rfl) (.inl ⟨⟨_, Try.underlying29⟩, .inl ⟨_, _, .inr (.inl rfl), rfl⟩⟩)) trivial ?_
          | refine rl0 (gn rfl) rfl rfl (step_len rfl rfl (ev_mk rfl) (.inl ⟨⟨_, Try.underlying29⟩, .inl ⟨_, _, .inr (.inr ⟨_, rfl⟩), List.length_map _⟩⟩)) trivial ?_
          | refine rl0 (gn rfl) rfl rfl (step_len rfl rfl (ev_mk rfl) (.inl ⟨⟨_, Try.underlying29⟩, .inl ⟨_, _, .inr (.inr ⟨_, rfl⟩), rfl⟩⟩)) trivial ?_
          | refine rl0 (gn rfl) rfl rfl (step_len rfl rfl (ev_mk rfl) (.inl ⟨⟨_, Try.underlying29⟩, .inr (.inl ⟨_, _, _, _, rfl⟩)⟩)) trivial ?_
          | refine rl0 (gn rfl) rfl rfl (step_len (m := 0) rfl rfl (ev_mk rfl) (.inl ⟨⟨_, Try.underlying29⟩, .inr (.inr ⟨_, _, rfl⟩)⟩)) trivial ?_
        refine rl_lss (gn rfl) rfl rfl rfl rfl rfl (fun h3 => ?_) (fun h3 => ?_)
        · skip
          refine runsL_nil ?_
          refine runs_cond true (ev_mk rfl) (fun _ => ?_) (fun h_ => nomatch h_)
          refine runs_skip ?_
          refine runs_seq ?_
          refine runs_block ?_
          refine runs_seq ?_
          refine runs_region ?_
          refine rl0 (gn rfl) rfl rfl (step_mv rfl rfl) trivial ?_
          refine rl0 (gn rfl) rfl rfl (step_mv rfl rfl) trivial ?_
          refine rl_geq (gn rfl) rfl rfl rfl rfl rfl (fun h4 => ?_) (fun h4 => ?_)
          · skip
            refine rl0 (gn rfl) rfl rfl (step_mv rfl rfl) trivial ?_
            refine rl0 (gy rfl rfl rfl rfl rfl rfl) rfl rfl (step_mv rfl rfl) trivial ?_
            refine rl0 (gy rfl rfl rfl rfl rfl rfl) rfl rfl (step_mv rfl rfl) trivial ?_
            refine rl0 (gy rfl rfl rfl rfl rfl rfl) rfl rfl (step_sub rfl (ev_mk rfl) (ev_mk rfl) (w64 (by omega))) trivial ?_
            refine rl0 (gy rfl rfl rfl rfl rfl rfl) rfl rfl (step_mv rfl rfl) trivial ?_
            first
              | refine rl0 (gy rfl rfl rfl rfl rfl rfl) rfl rfl (step_len rfl rfl (ev_mk rfl) (.inl ⟨⟨_, Try.underlying29⟩, .inl ⟨_, _, .inl rfl, List.length_map _⟩⟩)) trivial ?_
              | refine rl0 (gy rfl rfl rfl rfl rfl rfl) rfl rfl (step_len rfl rfl (ev_mk rfl) (.inl ⟨⟨_, Try.underlying29⟩, .inl ⟨_, _, .inl rfl, rfl⟩⟩)) trivial ?_
              | refine rl0 (gy rfl rfl rfl rfl rfl rfl) rfl rfl (step_len rfl rfl (ev_mk rfl) (.inl ⟨⟨_, Try.underlying29⟩, .inl ⟨_, _, .inr (.inl rfl), List.length_map _⟩⟩)) trivial ?_
              | refine rl0 (gy rfl rfl rfl rfl rfl rfl) rfl rfl (step_len rfl rfl (ev_mk rfl) (.inl ⟨⟨_, Try.underlying29⟩, .inl ⟨_, _, .inr (.inl rfl), rfl⟩⟩)) trivial ?_
              | refine rl0 (gy rfl rfl rfl rfl rfl rfl) rfl rfl (step_len rfl rfl (ev_mk rfl) (.inl ⟨⟨_, Try.underlying29⟩, .inl ⟨_, _, .inr (.inr ⟨_, rfl⟩), List.length_map _⟩⟩)) trivial ?_
              | refine rl0 (gy rfl rfl rfl rfl rfl rfl) rfl rfl (step_len rfl rfl (ev_mk rfl) (.inl ⟨⟨_, Try.underlying29⟩, .inl ⟨_, _, .inr (.inr ⟨_, rfl⟩), rfl⟩⟩)) trivial ?_
              | refine rl0 (gy rfl rfl rfl rfl rfl rfl) rfl rfl (step_len rfl rfl (ev_mk rfl) (.inl ⟨⟨_, Try.underlying29⟩, .inr (.inl ⟨_, _, _, _, rfl⟩)⟩)) trivial ?_
              | refine rl0 (gy rfl rfl rfl rfl rfl rfl) rfl rfl (step_len (m := 0) rfl rfl (ev_mk rfl) (.inl ⟨⟨_, Try.underlying29⟩, .inr (.inr ⟨_, _, rfl⟩)⟩)) trivial ?_
            refine rl_lss (gy rfl rfl rfl rfl rfl rfl) rfl rfl rfl rfl rfl (fun h5 => ?_) (fun h5 => ?_)
            · skip
              refine rl0 (gn rfl) rfl rfl (step_pick rfl (ev_mk rfl) (ev_mk rfl)) trivial ?_
              refine rl0 (gn rfl) rfl rfl (step_mv rfl rfl) trivial ?_
              first
                | (refine' rl0 (gy rfl rfl rfl rfl rfl rfl) rfl rfl (step_load_all rfl rfl F.agg32 ?hl) ⟨?hb, trivial⟩ ?_; (case hb => repeat (first | exact upd_eq _ _ _ | refine (upd_ne _ _ _ _ (by omega)).trans ?_ | assumption | exact hd _ (by omega) | exact hd0 _ (by omega) | exact hd1 _ (by omega) | exact hd2 _ (by omega) | fail)); (case hl => first | rfl | (simp; done) | (rw [List.length_map]; exact at_len64 (by assumption) (by omega) (by omega))))
                | (refine rl0 (gy rfl rfl rfl rfl rfl rfl) rfl rfl (step_load_ro_all rfl rfl F.agg32 (by first | rfl | (simp; done) | (rw [List.length_map]; exact at_len64 (by assumption) (by omega) (by omega)))) trivial ?_)
                | (refine' rl0 (gy rfl rfl rfl rfl rfl rfl) rfl rfl (step_load_agg rfl (ev_mk rfl) F.agg32 ?hc ?hl) ⟨?hb, trivial⟩ ?_; (case hb => repeat (first | exact upd_eq _ _ _ | refine (upd_ne _ _ _ _ (by omega)).trans ?_ | assumption | exact hd _ (by omega) | exact hd0 _ (by omega) | exact hd1 _ (by omega) | exact hd2 _ (by omega) | fail)); (case hc => rfl); (case hl => first | rfl | (simp; done)))
                | (refine rl0 (gy rfl rfl rfl rfl rfl rfl) rfl rfl (step_load_ro_agg rfl (ev_mk rfl) F.agg32 rfl rfl) trivial ?_)
              refine rl0 (gy rfl rfl rfl rfl rfl rfl) rfl rfl (step_mv rfl rfl) trivial ?_
              refine rl0 (gy rfl rfl rfl rfl rfl rfl) rfl rfl (step_mv rfl rfl) trivial ?_
              refine rl0 (gy rfl rfl rfl rfl rfl rfl) rfl rfl (step_sub rfl (ev_mk rfl) (ev_mk rfl) (w64 (by omega))) trivial ?_
              refine rl0 (gy rfl rfl rfl rfl rfl rfl) rfl rfl (step_callc rfl Try.func29 rfl rfl rfl (kept_i S w f kp dn ((j : Int) - x) (by omega)) (by repeat (first | exact .nil | refine .cons ?_ ?_ | exact VLe.refl _ | exact VLe.own_sl _ _ _ | exact VLe.fl_sl _ _ | exact VLe.nil_sl _ | exact VLe.nil_fl _ | refine VLe.agg ?_))) trivial ?_
              refine rl0 (gn rfl) rfl rfl (step_pick rfl (ev_mk rfl) (ev_mk rfl)) trivial ?_
              refine runsL_nil ?_
              refine runs_cond _ (ev_mk rfl) (fun h6 => ?_) (fun h6 => ?_)
              · skip
                refine runs_draw (by kernel_rfl) (by kernel_rfl) (by kernel_rfl) ?_
                first | refine dl0 (gn rfl) rfl rfl (step_fieldAddr (off := 0) rfl (ev_mk rfl) Try.underlying32 rfl F.sz29 rfl) trivial ?_ | refine dl0 (gn rfl) rfl rfl (step_fieldAddr_ro (off := 0) rfl (ev_mk rfl) Try.underlying32 rfl F.sz29 rfl rfl) trivial ?_
                first
                  | (refine' dl0 (gn rfl) rfl rfl (step_load_one rfl (ev_mk rfl) F.one29 ?hv) ⟨?hb, trivial⟩ ?_; (case hb => repeat (first | exact upd_eq _ _ _ | refine (upd_ne _ _ _ _ (by omega)).trans ?_ | assumption | exact hd _ (by omega) | exact hd0 _ (by omega) | exact hd1 _ (by omega) | exact hd2 _ (by omega) | fail)); (case hv => exact rfl))
                  | (refine dl0 (gn rfl) rfl rfl (step_load_ro rfl (ev_mk rfl) F.one29 rfl) trivial ?_)
                refine dl0 (gn rfl) rfl rfl (step_mv rfl rfl) trivial ?_
                refine dl0 (gn rfl) rfl rfl (step_mv rfl rfl) trivial ?_
                refine dl0 (gn rfl) rfl rfl (step_mv rfl rfl) trivial ?_
                refine dl0 (gn rfl) rfl rfl (step_sub rfl (ev_mk rfl) (ev_mk rfl) (w64 (by omega))) trivial ?_
                first
                  | (refine' dl0 (gn rfl) rfl rfl (step_index rfl (ev_mk rfl) (.inl rfl) (ev_mk rfl) Try.underlying29 F.sz48 (by omega) ?hr) trivial ?_; (case hr => exact map_at _ _ _ (by omega) (by omega)))
                  | (refine' dl0 (gn rfl) rfl rfl (step_index rfl (ev_mk rfl) (.inr (.inl rfl)) (ev_mk rfl) Try.underlying29 F.sz48 (by omega) ?hr) trivial ?_; (case hr => exact map_at _ _ _ (by omega) (by omega)))
                  | (refine' dl0 (gn rfl) rfl rfl (step_index rfl (ev_mk rfl) (.inr (.inr ⟨_, rfl⟩)) (ev_mk rfl) Try.underlying29 F.sz48 (by omega) ?hr) trivial ?_; (case hr => exact map_at _ _ _ (by omega) (by omega)))
                  | (refine dl0 (gn rfl) rfl rfl (step_index_msl rfl (ev_mk rfl) (ev_mk rfl) Try.underlying29 F.sz48 (by omega) (by omega)) trivial ?_)
                first
                  | (refine' dl0 (gn rfl) rfl rfl (step_load_all rfl rfl F.agg48 ?hl) ⟨?hb, trivial⟩ ?_; (case hb => repeat (first | exact upd_eq _ _ _ | refine (upd_ne _ _ _ _ (by omega)).trans ?_ | assumption | exact hd _ (by omega) | exact hd0 _ (by omega) | exact hd1 _ (by omega) | exact hd2 _ (by omega) | fail)); (case hl => first | rfl | (simp; done) | (rw [List.length_map]; exact at_len64 (by assumption) (by omega) (by omega))))
                  | (refine dl0 (gn rfl) rfl rfl (step_load_ro_all rfl rfl F.agg48 (by first | rfl | (simp; done) | (rw [List.length_map]; exact at_len64 (by assumption) (by omega) (by omega)))) trivial ?_)
                  | (refine' dl0 (gn rfl) rfl rfl (step_load_agg rfl (ev_mk rfl) F.agg48 ?hc ?hl) ⟨?hb, trivial⟩ ?_; (case hb => repeat (first | exact upd_eq _ _ _ | refine (upd_ne _ _ _ _ (by omega)).trans ?_ | assumption | exact hd _ (by omega) | exact hd0 _ (by omega) | exact hd1 _ (by omega) | exact hd2 _ (by omega) | fail)); (case hc => rfl); (case hl => first | rfl | (simp; done)))
                  | (refine dl0 (gn rfl) rfl rfl (step_load_ro_agg rfl (ev_mk rfl) F.agg48 rfl rfl) trivial ?_)
                refine dl0 (gn rfl) rfl rfl (step_lit rfl Try.underlying29 F.sz48 F.zero48 (by first | rfl | simp) (by first | rfl | simp | decide) (by decide) rfl rfl (by first | (simp [V.cs, V.stor, oneV]; done) | (simp [V.cs, V.stor, oneV]; exact at_len64 (by assumption) (by omega) (by omega))) rfl) trivial ?_
                first
                  | (refine' dl1 (gn rfl) rfl rfl (step_append_own rfl rfl rfl Try.underlying29 ⟨_, Try.underlying29, fun k_ => by intro h_; cases h_⟩ F.el48 (ev_mk rfl) (ev_mk rfl) (gives_sl (.inl rfl)) ?hg) ⟨?hb, trivial⟩ (by omega) ?_; (case hb => repeat (first | exact upd_eq _ _ _ | refine (upd_ne _ _ _ _ (by omega)).trans ?_ | assumption | exact hd _ (by omega) | exact hd0 _ (by omega) | exact hd1 _ (by omega) | exact hd2 _ (by omega) | fail)); (case hg => (simp [secsV]; omega)))
                  | (refine' dl1 (gn rfl) rfl rfl (step_append_new (k := m0 + 0) rfl rfl rfl Try.underlying29 ⟨_, Try.underlying29, fun k_ => by intro h_; cases h_⟩ F.el48 (ev_mk rfl) (.inl rfl) (ev_mk rfl) (gives_sl (.inl rfl)) ?hg) ⟨?hb, trivial⟩ (by omega) ?_; (case hb => repeat (first | exact upd_eq _ _ _ | refine (upd_ne _ _ _ _ (by omega)).trans ?_ | assumption | exact hd _ (by omega) | exact hd0 _ (by omega) | exact hd1 _ (by omega) | exact hd2 _ (by omega) | fail)); (case hg => (simp [secsV]; omega)))
                  | (refine' dl1 (gn rfl) rfl rfl (step_append_new (k := m0 + 0) (xs := []) rfl rfl rfl Try.underlying29 ⟨_, Try.underlying29, fun k_ => by intro h_; cases h_⟩ F.el48 (ev_mk rfl) (.inr ⟨rfl, rfl⟩) (ev_mk rfl) (gives_sl (.inl rfl)) ?hg) ⟨?hb, trivial⟩ (by omega) ?_; (case hb => repeat (first | exact upd_eq _ _ _ | refine (upd_ne _ _ _ _ (by omega)).trans ?_ | assumption | exact hd _ (by omega) | exact hd0 _ (by omega) | exact hd1 _ (by omega) | exact hd2 _ (by omega) | fail)); (case hg => (simp [secsV]; omega)))
                  | (refine' dl1 (gn rfl) rfl rfl (step_append_own rfl rfl rfl Try.underlying29 ⟨_, Try.underlying29, fun k_ => by intro h_; cases h_⟩ F.el48 (ev_mk rfl) (ev_mk rfl) (gives_sl (.inr (.inl rfl))) ?hg) ⟨?hb, trivial⟩ (by omega) ?_; (case hb => repeat (first | exact upd_eq _ _ _ | refine (upd_ne _ _ _ _ (by omega)).trans ?_ | assumption | exact hd _ (by omega) | exact hd0 _ (by omega) | exact hd1 _ (by omega) | exact hd2 _ (by omega) | fail)); (case hg => (simp [secsV]; omega)))
                  | (refine' dl1 (gn rfl) rfl rfl (step_append_new (k := m0 + 0) rfl rfl rfl Try.underlying29 ⟨_, Try.underlying29, fun k_ => by intro h_; cases h_⟩ F.el48 (ev_mk rfl) (.inl rfl) (ev_mk rfl) (gives_sl (.inr (.inl rfl))) ?hg) ⟨?hb, trivial⟩ (by omega) ?_; (case hb => repeat (first | exact upd_eq _ _ _ | refine (upd_ne _ _ _ _ (by omega)).trans ?_ | assumption | exact hd _ (by omega) | exact hd0 _ (by omega) | exact hd1 _ (by omega) | exact hd2 _ (by omega) | fail)); (case hg => (simp [secsV]; omega)))
                  | (refine' dl1 (gn rfl) rfl rfl (step_append_new (k := m0 + 0) (xs := []) rfl rfl rfl Try.underlying29 ⟨_, Try.underlying29, fun k_ => by intro h_; cases h_⟩ F.el48 (ev_mk rfl) (.inr ⟨rfl, rfl⟩) (ev_mk rfl) (gives_sl (.inr (.inl rfl))) ?hg) ⟨?hb, trivial⟩ (by omega) ?_; (case hb => repeat (first | exact upd_eq _ _ _ | refine (upd_ne _ _ _ _ (by omega)).trans ?_ | assumption | exact hd _ (by omega) | exact hd0 _ (by omega) | exact hd1 _ (by omega) | exact hd2 _ (by omega) | fail)); (case hg => (simp [secsV]; omega)))
                  | (refine' dl1 (gn rfl) rfl rfl (step_append_own rfl rfl rfl Try.underlying29 ⟨_, Try.underlying29, fun k_ => by intro h_; cases h_⟩ F.el48 (ev_mk rfl) (ev_mk rfl) (gives_sl (.inr (.inr ⟨_, rfl⟩))) ?hg) ⟨?hb, trivial⟩ (by omega) ?_; (case hb => repeat (first | exact upd_eq _ _ _ | refine (upd_ne _ _ _ _ (by omega)).trans ?_ | assumption | exact hd _ (by omega) | exact hd0 _ (by omega) | exact hd1 _ (by omega) | exact hd2 _ (by omega) | fail)); (case hg => (simp [secsV]; omega)))
                  | (refine' dl1 (gn rfl) rfl rfl (step_append_new (k := m0 + 0) rfl rfl rfl Try.underlying29 ⟨_, Try.underlying29, fun k_ => by intro h_; cases h_⟩ F.el48 (ev_mk rfl) (.inl rfl) (ev_mk rfl) (gives_sl (.inr (.inr ⟨_, rfl⟩))) ?hg) ⟨?hb, trivial⟩ (by omega) ?_; (case hb => repeat (first | exact upd_eq _ _ _ | refine (upd_ne _ _ _ _ (by omega)).trans ?_ | assumption | exact hd _ (by omega) | exact hd0 _ (by omega) | exact hd1 _ (by omega) | exact hd2 _ (by omega) | fail)); (case hg => (simp [secsV]; omega)))
                  | (refine' dl1 (gn rfl) rfl rfl (step_append_new (k := m0 + 0) (xs := []) rfl rfl rfl Try.underlying29 ⟨_, Try.underlying29, fun k_ => by intro h_; cases h_⟩ F.el48 (ev_mk rfl) (.inr ⟨rfl, rfl⟩) (ev_mk rfl) (gives_sl (.inr (.inr ⟨_, rfl⟩))) ?hg) ⟨?hb, trivial⟩ (by omega) ?_; (case hb => repeat (first | exact upd_eq _ _ _ | refine (upd_ne _ _ _ _ (by omega)).trans ?_ | assumption | exact hd _ (by omega) | exact hd0 _ (by omega) | exact hd1 _ (by omega) | exact hd2 _ (by omega) | fail)); (case hg => (simp [secsV]; omega)))
                  | (refine' dl1 (gn rfl) rfl rfl (step_append_own rfl rfl rfl Try.underlying29 ⟨_, Try.underlying29, fun k_ => by intro h_; cases h_⟩ F.el48 (ev_mk rfl) (ev_mk rfl) gives_nil ?hg) ⟨?hb, trivial⟩ (by omega) ?_; (case hb => repeat (first | exact upd_eq _ _ _ | refine (upd_ne _ _ _ _ (by omega)).trans ?_ | assumption | exact hd _ (by omega) | exact hd0 _ (by omega) | exact hd1 _ (by omega) | exact hd2 _ (by omega) | fail)); (case hg => (simp [secsV]; omega)))
                  | (refine' dl1 (gn rfl) rfl rfl (step_append_new (k := m0 + 0) rfl rfl rfl Try.underlying29 ⟨_, Try.underlying29, fun k_ => by intro h_; cases h_⟩ F.el48 (ev_mk rfl) (.inl rfl) (ev_mk rfl) gives_nil ?hg) ⟨?hb, trivial⟩ (by omega) ?_; (case hb => repeat (first | exact upd_eq _ _ _ | refine (upd_ne _ _ _ _ (by omega)).trans ?_ | assumption | exact hd _ (by omega) | exact hd0 _ (by omega) | exact hd1 _ (by omega) | exact hd2 _ (by omega) | fail)); (case hg => (simp [secsV]; omega)))
                  | (refine' dl1 (gn rfl) rfl rfl (step_append_new (k := m0 + 0) (xs := []) rfl rfl rfl Try.underlying29 ⟨_, Try.underlying29, fun k_ => by intro h_; cases h_⟩ F.el48 (ev_mk rfl) (.inr ⟨rfl, rfl⟩) (ev_mk rfl) gives_nil ?hg) ⟨?hb, trivial⟩ (by omega) ?_; (case hb => repeat (first | exact upd_eq _ _ _ | refine (upd_ne _ _ _ _ (by omega)).trans ?_ | assumption | exact hd _ (by omega) | exact hd0 _ (by omega) | exact hd1 _ (by omega) | exact hd2 _ (by omega) | fail)); (case hg => (simp [secsV]; omega)))
                  | (refine' dl1 (gn rfl) rfl rfl (step_append_own rfl rfl rfl Try.underlying29 ⟨_, Try.underlying29, fun k_ => by intro h_; cases h_⟩ F.el48 (ev_mk rfl) (ev_mk rfl) (gives_msl ?hl ?hy) ?hg) ⟨?hb, ⟨?hm, trivial⟩⟩ (by omega) ?_; (case hb => repeat (first | exact upd_eq _ _ _ | refine (upd_ne _ _ _ _ (by omega)).trans ?_ | assumption | exact hd _ (by omega) | exact hd0 _ (by omega) | exact hd1 _ (by omega) | exact hd2 _ (by omega) | fail)); (case hg => (simp [secsV]; omega)); (case hm => repeat (first | exact upd_eq _ _ _ | refine (upd_ne _ _ _ _ (by omega)).trans ?_ | assumption | exact hd _ (by omega) | exact hd0 _ (by omega) | exact hd1 _ (by omega) | exact hd2 _ (by omega) | fail)); (case hl => (rw [List.length_map]; exact at_len64 (by assumption) (by omega) (by omega))); (case hy => rfl))
                  | (refine' dl1 (gn rfl) rfl rfl (step_append_new (k := m0 + 0) rfl rfl rfl Try.underlying29 ⟨_, Try.underlying29, fun k_ => by intro h_; cases h_⟩ F.el48 (ev_mk rfl) (.inl rfl) (ev_mk rfl) (gives_msl ?hl ?hy) ?hg) ⟨?hb, ⟨?hm, trivial⟩⟩ (by omega) ?_; (case hb => repeat (first | exact upd_eq _ _ _ | refine (upd_ne _ _ _ _ (by omega)).trans ?_ | assumption | exact hd _ (by omega) | exact hd0 _ (by omega) | exact hd1 _ (by omega) | exact hd2 _ (by omega) | fail)); (case hg => (simp [secsV]; omega)); (case hm => repeat (first | exact upd_eq _ _ _ | refine (upd_ne _ _ _ _ (by omega)).trans ?_ | assumption | exact hd _ (by omega) | exact hd0 _ (by omega) | exact hd1 _ (by omega) | exact hd2 _ (by omega) | fail)); (case hl => (rw [List.length_map]; exact at_len64 (by assumption) (by omega) (by omega))); (case hy => rfl))
                  | (refine' dl1 (gn rfl) rfl rfl (step_append_new (k := m0 + 0) (xs := []) rfl rfl rfl Try.underlying29 ⟨_, Try.underlying29, fun k_ => by intro h_; cases h_⟩ F.el48 (ev_mk rfl) (.inr ⟨rfl, rfl⟩) (ev_mk rfl) (gives_msl ?hl ?hy) ?hg) ⟨?hb, ⟨?hm, trivial⟩⟩ (by omega) ?_; (case hb => repeat (first | exact upd_eq _ _ _ | refine (upd_ne _ _ _ _ (by omega)).trans ?_ | assumption | exact hd _ (by omega) | exact hd0 _ (by omega) | exact hd1 _ (by omega) | exact hd2 _ (by omega) | fail)); (case hg => (simp [secsV]; omega)); (case hm => repeat (first | exact upd_eq _ _ _ | refine (upd_ne _ _ _ _ (by omega)).trans ?_ | assumption | exact hd _ (by omega) | exact hd0 _ (by omega) | exact hd1 _ (by omega) | exact hd2 _ (by omega) | fail)); (case hl => (rw [List.length_map]; exact at_len64 (by assumption) (by omega) (by omega))); (case hy => rfl))
                first | refine dl0 (gn rfl) rfl rfl (step_fieldAddr (off := 0) rfl (ev_mk rfl) Try.underlying32 rfl F.sz29 rfl) trivial ?_ | refine dl0 (gn rfl) rfl rfl (step_fieldAddr_ro (off := 0) rfl (ev_mk rfl) Try.underlying32 rfl F.sz29 rfl rfl) trivial ?_
                refine' dls (gn rfl) rfl (step_store1 rfl rfl rfl rfl F.one29 rfl rfl ?hl ?hc) ⟨?hb, trivial⟩ ?hk ?_
                case hb => repeat (first | exact upd_eq _ _ _ | refine (upd_ne _ _ _ _ (by omega)).trans ?_ | assumption | exact hd _ (by omega) | exact hd0 _ (by omega) | exact hd1 _ (by omega) | exact hd2 _ (by omega) | fail)
                case hl => first | decide | (simp; done) | (simp; omega) | (rw [List.length_map]; exact at_len64 (by assumption) (by omega) (by omega))
                case hc => first | (simp only [List.set_cons_succ, List.set_cons_zero]; rfl) | rfl
                case hk => omega
                refine dlnil ?_ ?_
                · repeat' (first | exact trivial | exact .inr (ap0 _ _ _ _) | exact .inr (ap2 _ _ _ _) | exact .inr (ap3 _ _ _ _) | exact .inr ⟨by first | (simp; done) | (simp; omega), by first | (simp; done) | (simp; omega)⟩ | exact .inl (by kernel_rfl) | refine ⟨?_, ?_⟩ | fail)
                refine runs_region ?_
                refine rl0 (gn rfl) rfl rfl (step_mv rfl rfl) trivial ?_
                refine rl0 (gn rfl) rfl rfl (step_add rfl (ev_mk rfl) (ev_mk rfl) (w64 (by omega))) trivial ?_
                refine rl0 (gn rfl) rfl rfl (step_as rfl rfl) trivial ?_
                refine runsL_nil ?_
                have hr_ := mixAt_in (S := S) (l := l) (f := f) (kp := kp) (i := j) (x := x) (by omega) (by omega) (by assumption)
                have hsn_ := snoc_ _ j _ hr_
                refine ⟨_, _, ?_, sle ?_ (Nat.le_refl _), j + 1, _, _, rfl, rfl, by omega, (fun k hk => by repeat (first | exact hf0 k hk | refine (upd_ne _ _ _ _ (by first | assumption | omega)).trans ?_ | fail)), by repeat (first | exact upd_eq _ _ _ | assumption | refine (upd_ne _ _ _ _ (by omega)).trans ?_ | fail), by repeat (first | exact upd_eq _ _ _ | assumption | refine (upd_ne _ _ _ _ (by omega)).trans ?_ | fail), by (rw [← hsn_]; repeat (first | exact upd_eq _ _ _ | assumption | refine (upd_ne _ _ _ _ (by omega)).trans ?_ | fail)), by (rw [← hsn_]; repeat (first | exact upd_eq _ _ _ | assumption | refine (upd_ne _ _ _ _ (by omega)).trans ?_ | fail)), by omega⟩
                · omega
                · (repeat' (first | exact trivial | refine ⟨⟨_, rfl, ?_⟩, ?_⟩ | fail)); (all_goals first | exact VLe.refl _ | (rw [Int.natCast_add]; exact VLe.refl _) | exact VLe.own_sl _ _ _ | exact VLe.fl_sl _ _ | exact VLe.nil_sl _)
              · skip
                refine runs_draw (by kernel_rfl) (by kernel_rfl) (by kernel_rfl) ?_
                first | refine dl0 (gn rfl) rfl rfl (step_fieldAddr (off := 0) rfl (ev_mk rfl) Try.underlying32 rfl F.sz29 rfl) trivial ?_ | refine dl0 (gn rfl) rfl rfl (step_fieldAddr_ro (off := 0) rfl (ev_mk rfl) Try.underlying32 rfl F.sz29 rfl rfl) trivial ?_
                first
                  | (refine' dl0 (gn rfl) rfl rfl (step_load_one rfl (ev_mk rfl) F.one29 ?hv) ⟨?hb, trivial⟩ ?_; (case hb => repeat (first | exact upd_eq _ _ _ | refine (upd_ne _ _ _ _ (by omega)).trans ?_ | assumption | exact hd _ (by omega) | exact hd0 _ (by omega) | exact hd1 _ (by omega) | exact hd2 _ (by omega) | fail)); (case hv => exact rfl))
                  | (refine dl0 (gn rfl) rfl rfl (step_load_ro rfl (ev_mk rfl) F.one29 rfl) trivial ?_)
                first | refine dl0 (gn rfl) rfl rfl (step_fieldAddr (off := 0) rfl (ev_mk rfl) Try.underlying32 rfl F.sz29 rfl) trivial ?_ | refine dl0 (gn rfl) rfl rfl (step_fieldAddr_ro (off := 0) rfl (ev_mk rfl) Try.underlying32 rfl F.sz29 rfl rfl) trivial ?_
                first
                  | (refine' dl0 (gn rfl) rfl rfl (step_load_one rfl (ev_mk rfl) F.one29 ?hv) ⟨?hb, trivial⟩ ?_; (case hb => repeat (first | exact upd_eq _ _ _ | refine (upd_ne _ _ _ _ (by omega)).trans ?_ | assumption | exact hd _ (by omega) | exact hd0 _ (by omega) | exact hd1 _ (by omega) | exact hd2 _ (by omega) | fail)); (case hv => exact rfl))
                  | (refine dl0 (gn rfl) rfl rfl (step_load_ro rfl (ev_mk rfl) F.one29 rfl) trivial ?_)
                refine dl0 (gn rfl) rfl rfl (step_mv rfl rfl) trivial ?_
                first
                  | (refine' dl0 (gn rfl) rfl rfl (step_index rfl (ev_mk rfl) (.inl rfl) (ev_mk rfl) Try.underlying29 F.sz48 (by omega) ?hr) trivial ?_; (case hr => exact map_at _ _ _ (by omega) (by omega)))
                  | (refine' dl0 (gn rfl) rfl rfl (step_index rfl (ev_mk rfl) (.inr (.inl rfl)) (ev_mk rfl) Try.underlying29 F.sz48 (by omega) ?hr) trivial ?_; (case hr => exact map_at _ _ _ (by omega) (by omega)))
                  | (refine' dl0 (gn rfl) rfl rfl (step_index rfl (ev_mk rfl) (.inr (.inr ⟨_, rfl⟩)) (ev_mk rfl) Try.underlying29 F.sz48 (by omega) ?hr) trivial ?_; (case hr => exact map_at _ _ _ (by omega) (by omega)))
                  | (refine dl0 (gn rfl) rfl rfl (step_index_msl rfl (ev_mk rfl) (ev_mk rfl) Try.underlying29 F.sz48 (by omega) (by omega)) trivial ?_)
                first
                  | (refine' dl0 (gn rfl) rfl rfl (step_load_all rfl rfl F.agg48 ?hl) ⟨?hb, trivial⟩ ?_; (case hb => repeat (first | exact upd_eq _ _ _ | refine (upd_ne _ _ _ _ (by omega)).trans ?_ | assumption | exact hd _ (by omega) | exact hd0 _ (by omega) | exact hd1 _ (by omega) | exact hd2 _ (by omega) | fail)); (case hl => first | rfl | (simp; done) | (rw [List.length_map]; exact at_len64 (by assumption) (by omega) (by omega))))
                  | (refine dl0 (gn rfl) rfl rfl (step_load_ro_all rfl rfl F.agg48 (by first | rfl | (simp; done) | (rw [List.length_map]; exact at_len64 (by assumption) (by omega) (by omega)))) trivial ?_)
                  | (refine' dl0 (gn rfl) rfl rfl (step_load_agg rfl (ev_mk rfl) F.agg48 ?hc ?hl) ⟨?hb, trivial⟩ ?_; (case hb => repeat (first | exact upd_eq _ _ _ | refine (upd_ne _ _ _ _ (by omega)).trans ?_ | assumption | exact hd _ (by omega) | exact hd0 _ (by omega) | exact hd1 _ (by omega) | exact hd2 _ (by omega) | fail)); (case hc => rfl); (case hl => first | rfl | (simp; done)))
                  | (refine dl0 (gn rfl) rfl rfl (step_load_ro_agg rfl (ev_mk rfl) F.agg48 rfl rfl) trivial ?_)
                refine dl0 (gn rfl) rfl rfl (step_lit rfl Try.underlying29 F.sz48 F.zero48 (by first | rfl | simp) (by first | rfl | simp | decide) (by decide) rfl rfl (by first | (simp [V.cs, V.stor, oneV]; done) | (simp [V.cs, V.stor, oneV]; exact at_len64 (by assumption) (by omega) (by omega))) rfl) trivial ?_
                first
                  | (refine' dl1 (gn rfl) rfl rfl (step_append_own rfl rfl rfl Try.underlying29 ⟨_, Try.underlying29, fun k_ => by intro h_; cases h_⟩ F.el48 (ev_mk rfl) (ev_mk rfl) (gives_sl (.inl rfl)) ?hg) ⟨?hb, trivial⟩ (by omega) ?_; (case hb => repeat (first | exact upd_eq _ _ _ | refine (upd_ne _ _ _ _ (by omega)).trans ?_ | assumption | exact hd _ (by omega) | exact hd0 _ (by omega) | exact hd1 _ (by omega) | exact hd2 _ (by omega) | fail)); (case hg => (simp [secsV]; omega)))
                  | (refine' dl1 (gn rfl) rfl rfl (step_append_new (k := m0 + 0) rfl rfl rfl Try.underlying29 ⟨_, Try.underlying29, fun k_ => by intro h_; cases h_⟩ F.el48 (ev_mk rfl) (.inl rfl) (ev_mk rfl) (gives_sl (.inl rfl)) ?hg) ⟨?hb, trivial⟩ (by omega) ?_; (case hb => repeat (first | exact upd_eq _ _ _ | refine (upd_ne _ _ _ _ (by omega)).trans ?_ | assumption | exact hd _ (by omega) | exact hd0 _ (by omega) | exact hd1 _ (by omega) | exact hd2 _ (by omega) | fail)); (case hg => (simp [secsV]; omega)))
                  | (refine' dl1 (gn rfl) rfl rfl (step_append_new (k := m0 + 0) (xs := []) rfl rfl rfl Try.underlying29 ⟨_, Try.underlying29, fun k_ => by intro h_; cases h_⟩ F.el48 (ev_mk rfl) (.inr ⟨rfl, rfl⟩) (ev_mk rfl) (gives_sl (.inl rfl)) ?hg) ⟨?hb, trivial⟩ (by omega) ?_; (case hb => repeat (first | exact upd_eq _ _ _ | refine (upd_ne _ _ _ _ (by omega)).trans ?_ | assumption | exact hd _ (by omega) | exact hd0 _ (by omega) | exact hd1 _ (by omega) | exact hd2 _ (by omega) | fail)); (case hg => (simp [secsV]; omega)))
                  | (refine' dl1 (gn rfl) rfl rfl (step_append_own rfl rfl rfl Try.underlying29 ⟨_, Try.underlying29, fun k_ => by intro h_; cases h_⟩ F.el48 (ev_mk rfl) (ev_mk rfl) (gives_sl (.inr (.inl rfl))) ?hg) ⟨?hb, trivial⟩ (by omega) ?_; (case hb => repeat (first | exact upd_eq _ _ _ | refine (upd_ne _ _ _ _ (by omega)).trans ?_ | assumption | exact hd _ (by omega) | exact hd0 _ (by omega) | exact hd1 _ (by omega) | exact hd2 _ (by omega) | fail)); (case hg => (simp [secsV]; omega)))
                  | (refine' dl1 (gn rfl) rfl rfl (step_append_new (k := m0 + 0) rfl rfl rfl Try.underlying29 ⟨_, Try.underlying29, fun k_ => by intro h_; cases h_⟩ F.el48 (ev_mk rfl) (.inl rfl) (ev_mk rfl) (gives_sl (.inr (.inl rfl))) ?hg) ⟨?hb, trivial⟩ (by omega) ?_; (case hb => repeat (first | exact upd_eq _ _ _ | refine (upd_ne _ _ _ _ (by omega)).trans ?_ | assumption | exact hd _ (by omega) | exact hd0 _ (by omega) | exact hd1 _ (by omega) | exact hd2 _ (by omega) | fail)); (case hg => (simp [secsV]; omega)))
                  | (refine' dl1 (gn rfl) rfl rfl (step_append_new (k := m0 + 0) (xs := []) rfl rfl rfl Try.underlying29 ⟨_, Try.underlying29, fun k_ => by intro h_; cases h_⟩ F.el48 (ev_mk rfl) (.inr ⟨rfl, rfl⟩) (ev_mk rfl) (gives_sl (.inr (.inl rfl))) ?hg) ⟨?hb, trivial⟩ (by omega) ?_; (case hb => repeat (first | exact upd_eq _ _ _ | refine (upd_ne _ _ _ _ (by omega)).trans ?_ | assumption | exact hd _ (by omega) | exact hd0 _ (by omega) | exact hd1 _ (by omega) | exact hd2 _ (by omega) | fail)); (case hg => (simp [secsV]; omega)))
                  | (refine' dl1 (gn rfl) rfl rfl (step_append_own rfl rfl rfl Try.underlying29 ⟨_, Try.underlying29, fun k_ => by intro h_; cases h_⟩ F.el48 (ev_mk rfl) (ev_mk rfl) (gives_sl (.inr (.inr ⟨_, rfl⟩))) ?hg) ⟨?hb, trivial⟩ (by omega) ?_; (case hb => repeat (first | exact upd_eq _ _ _ | refine (upd_ne _ _ _ _ (by omega)).trans ?_ | assumption | exact hd _ (by omega) | exact hd0 _ (by omega) | exact hd1 _ (by omega) | exact hd2 _ (by omega) | fail)); (case hg => (simp [secsV]; omega)))
                  | (refine' dl1 (gn rfl) rfl rfl (step_append_new (k := m0 + 0) rfl rfl rfl Try.underlying29 ⟨_, Try.underlying29, fun k_ => by intro h_; cases h_⟩ F.el48 (ev_mk rfl) (.inl rfl) (ev_mk rfl) (gives_sl (.inr (.inr ⟨_, rfl⟩))) ?hg) ⟨?hb, trivial⟩ (by omega) ?_; (case hb => repeat (first | exact upd_eq _ _ _ | refine (upd_ne _ _ _ _ (by omega)).trans ?_ | assumption | exact hd _ (by omega) | exact hd0 _ (by omega) | exact hd1 _ (by omega) | exact hd2 _ (by omega) | fail)); (case hg => (simp [secsV]; omega)))
                  | (refine' dl1 (gn rfl) rfl rfl (step_append_new (k := m0 + 0) (xs := []) rfl rfl rfl Try.underlying29 ⟨_, Try.underlying29, fun k_ => by intro h_; cases h_⟩ F.el48 (ev_mk rfl) (.inr ⟨rfl, rfl⟩) (ev_mk rfl) (gives_sl (.inr (.inr ⟨_, rfl⟩))) ?hg) ⟨?hb, trivial⟩ (by omega) ?_; (case hb => repeat (first | exact upd_eq _ _ _ | refine (upd_ne _ _ _ _ (by omega)).trans ?_ | assumption | exact hd _ (by omega) | exact hd0 _ (by omega) | exact hd1 _ (by omega) | exact hd2 _ (by omega) | fail)); (case hg => (simp [secsV]; omega)))
                  | (refine' dl1 (gn rfl) rfl rfl (step_append_own rfl rfl rfl Try.underlying29 ⟨_, Try.underlying29, fun k_ => by intro h_; cases h_⟩ F.el48 (ev_mk rfl) (ev_mk rfl) gives_nil ?hg) ⟨?hb, trivial⟩ (by omega) ?_; (case hb => repeat (first | exact upd_eq _ _ _ | refine (upd_ne _ _ _ _ (by omega)).trans ?_ | assumption | exact hd _ (by omega) | exact hd0 _ (by omega) | exact hd1 _ (by omega) | exact hd2 _ (by omega) | fail)); (case hg => (simp [secsV]; omega)))
                  | (refine' dl1 (gn rfl) rfl rfl (step_append_new (k := m0 + 0) rfl rfl rfl Try.underlying29 ⟨_, Try.underlying29, fun k_ => by intro h_; cases h_⟩ F.el48 (ev_mk rfl) (.inl rfl) (ev_mk rfl) gives_nil ?hg) ⟨?hb, trivial⟩ (by omega) ?_; (case hb => repeat (first | exact upd_eq _ _ _ | refine (upd_ne _ _ _ _ (by omega)).trans ?_ | assumption | exact hd _ (by omega) | exact hd0 _ (by omega) | exact hd1 _ (by omega) | exact hd2 _ (by omega) | fail)); (case hg => (simp [secsV]; omega)))
                  | (refine' dl1 (gn rfl) rfl rfl (step_append_new (k := m0 + 0) (xs := []) rfl rfl rfl Try.underlying29 ⟨_, Try.underlying29, fun k_ => by intro h_; cases h_⟩ F.el48 (ev_mk rfl) (.inr ⟨rfl, rfl⟩) (ev_mk rfl) gives_nil ?hg) ⟨?hb, trivial⟩ (by omega) ?_; (case hb => repeat (first | exact upd_eq _ _ _ | refine (upd_ne _ _ _ _ (by omega)).trans ?_ | assumption | exact hd _ (by omega) | exact hd0 _ (by omega) | exact hd1 _ (by omega) | exact hd2 _ (by omega) | fail)); (case hg => (simp [secsV]; omega)))
                  | (refine' dl1 (gn rfl) rfl rfl (step_append_own rfl rfl rfl Try.underlying29 ⟨_, Try.underlying29, fun k_ => by intro h_; cases h_⟩ F.el48 (ev_mk rfl) (ev_mk rfl) (gives_msl ?hl ?hy) ?hg) ⟨?hb, ⟨?hm, trivial⟩⟩ (by omega) ?_; (case hb => repeat (first | exact upd_eq _ _ _ | refine (upd_ne _ _ _ _ (by omega)).trans ?_ | assumption | exact hd _ (by omega) | exact hd0 _ (by omega) | exact hd1 _ (by omega) | exact hd2 _ (by omega) | fail)); (case hg => (simp [secsV]; omega)); (case hm => repeat (first | exact upd_eq _ _ _ | refine (upd_ne _ _ _ _ (by omega)).trans ?_ | assumption | exact hd _ (by omega) | exact hd0 _ (by omega) | exact hd1 _ (by omega) | exact hd2 _ (by omega) | fail)); (case hl => (rw [List.length_map]; exact at_len64 (by assumption) (by omega) (by omega))); (case hy => rfl))
                  | (refine' dl1 (gn rfl) rfl rfl (step_append_new (k := m0 + 0) rfl rfl rfl Try.underlying29 ⟨_, Try.underlying29, fun k_ => by intro h_; cases h_⟩ F.el48 (ev_mk rfl) (.inl rfl) (ev_mk rfl) (gives_msl ?hl ?hy) ?hg) ⟨?hb, ⟨?hm, trivial⟩⟩ (by omega) ?_; (case hb => repeat (first | exact upd_eq _ _ _ | refine (upd_ne _ _ _ _ (by omega)).trans ?_ | assumption | exact hd _ (by omega) | exact hd0 _ (by omega) | exact hd1 _ (by omega) | exact hd2 _ (by omega) | fail)); (case hg => (simp [secsV]; omega)); (case hm => repeat (first | exact upd_eq _ _ _ | refine (upd_ne _ _ _ _ (by omega)).trans ?_ | assumption | exact hd _ (by omega) | exact hd0 _ (by omega) | exact hd1 _ (by omega) | exact hd2 _ (by omega) | fail)); (case hl => (rw [List.length_map]; exact at_len64 (by assumption) (by omega) (by omega))); (case hy => rfl))
                  | (refine' dl1 (gn rfl) rfl rfl (step_append_new (k := m0 + 0) (xs := []) rfl rfl rfl Try.underlying29 ⟨_, Try.underlying29, fun k_ => by intro h_; cases h_⟩ F.el48 (ev_mk rfl) (.inr ⟨rfl, rfl⟩) (ev_mk rfl) (gives_msl ?hl ?hy) ?hg) ⟨?hb, ⟨?hm, trivial⟩⟩ (by omega) ?_; (case hb => repeat (first | exact upd_eq _ _ _ | refine (upd_ne _ _ _ _ (by omega)).trans ?_ | assumption | exact hd _ (by omega) | exact hd0 _ (by omega) | exact hd1 _ (by omega) | exact hd2 _ (by omega) | fail)); (case hg => (simp [secsV]; omega)); (case hm => repeat (first | exact upd_eq _ _ _ | refine (upd_ne _ _ _ _ (by omega)).trans ?_ | assumption | exact hd _ (by omega) | exact hd0 _ (by omega) | exact hd1 _ (by omega) | exact hd2 _ (by omega) | fail)); (case hl => (rw [List.length_map]; exact at_len64 (by assumption) (by omega) (by omega))); (case hy => rfl))
                first | refine dl0 (gn rfl) rfl rfl (step_fieldAddr (off := 0) rfl (ev_mk rfl) Try.underlying32 rfl F.sz29 rfl) trivial ?_ | refine dl0 (gn rfl) rfl rfl (step_fieldAddr_ro (off := 0) rfl (ev_mk rfl) Try.underlying32 rfl F.sz29 rfl rfl) trivial ?_
                refine' dls (gn rfl) rfl (step_store1 rfl rfl rfl rfl F.one29 rfl rfl ?hl ?hc) ⟨?hb, trivial⟩ ?hk ?_
                case hb => repeat (first | exact upd_eq _ _ _ | refine (upd_ne _ _ _ _ (by omega)).trans ?_ | assumption | exact hd _ (by omega) | exact hd0 _ (by omega) | exact hd1 _ (by omega) | exact hd2 _ (by omega) | fail)
                case hl => first | decide | (simp; done) | (simp; omega) | (rw [List.length_map]; exact at_len64 (by assumption) (by omega) (by omega))
                case hc => first | (simp only [List.set_cons_succ, List.set_cons_zero]; rfl) | rfl
                case hk => omega
                refine dlnil ?_ ?_
                · repeat' (first | exact trivial | exact .inr (ap0 _ _ _ _) | exact .inr (ap2 _ _ _ _) | exact .inr (ap3 _ _ _ _) | exact .inr ⟨by first | (simp; done) | (simp; omega), by first | (simp; done) | (simp; omega)⟩ | exact .inl (by kernel_rfl) | refine ⟨?_, ?_⟩ | fail)
                refine runs_region ?_
                refine rl0 (gn rfl) rfl rfl (step_mv rfl rfl) trivial ?_
                refine rl0 (gn rfl) rfl rfl (step_add rfl (ev_mk rfl) (ev_mk rfl) (w64 (by omega))) trivial ?_
                refine rl0 (gn rfl) rfl rfl (step_as rfl rfl) trivial ?_
                refine runsL_nil ?_
                have hr_ := mixAt_o3 (S := S) (l := l) (f := f) (kp := kp) (i := j) (x := x) (by assumption)
                have hsn_ := snoc_ _ j _ hr_
                refine ⟨_, _, ?_, sle ?_ (Nat.le_refl _), j + 1, _, _, rfl, rfl, by omega, (fun k hk => by repeat (first | exact hf0 k hk | refine (upd_ne _ _ _ _ (by first | assumption | omega)).trans ?_ | fail)), by repeat (first | exact upd_eq _ _ _ | assumption | refine (upd_ne _ _ _ _ (by omega)).trans ?_ | fail), by repeat (first | exact upd_eq _ _ _ | assumption | refine (upd_ne _ _ _ _ (by omega)).trans ?_ | fail), by (rw [← hsn_]; repeat (first | exact upd_eq _ _ _ | assumption | refine (upd_ne _ _ _ _ (by omega)).trans ?_ | fail)), by (rw [← hsn_]; repeat (first | exact upd_eq _ _ _ | assumption | refine (upd_ne _ _ _ _ (by omega)).trans ?_ | fail)), by omega⟩
                · omega
                · (repeat' (first | exact trivial | refine ⟨⟨_, rfl, ?_⟩, ?_⟩ | fail)); (all_goals first | exact VLe.refl _ | (rw [Int.natCast_add]; exact VLe.refl _) | exact VLe.own_sl _ _ _ | exact VLe.fl_sl _ _ | exact VLe.nil_sl _)
            · skip
              refine rl0 (gn rfl) rfl rfl (step_pick rfl (ev_mk rfl) (ev_mk rfl)) trivial ?_
              refine rl0 (gn rfl) rfl rfl (step_mv rfl rfl) trivial ?_
              refine rlk rfl rfl rfl rfl rfl (ngb rfl rfl) rfl rfl ?_
              refine rlk rfl rfl rfl rfl rfl (ngb rfl rfl) rfl rfl ?_
              refine rlk rfl rfl rfl rfl rfl (ngb rfl rfl) rfl rfl ?_
              refine rlk rfl rfl rfl rfl rfl (ngb rfl rfl) rfl rfl ?_
              refine rlk rfl rfl rfl rfl rfl (ngb rfl rfl) rfl rfl ?_
              refine rl0 (gn rfl) rfl rfl (step_pick rfl (ev_mk rfl) (ev_mk rfl)) trivial ?_
              refine runsL_nil ?_
              refine runs_cond false (ev_mk rfl) (fun h_ => nomatch h_) (fun _ => ?_)
              refine runs_draw (by kernel_rfl) (by kernel_rfl) (by kernel_rfl) ?_
              first | refine dl0 (gn rfl) rfl rfl (step_fieldAddr (off := 0) rfl (ev_mk rfl) Try.underlying32 rfl F.sz29 rfl) trivial ?_ | refine dl0 (gn rfl) rfl rfl (step_fieldAddr_ro (off := 0) rfl (ev_mk rfl) Try.underlying32 rfl F.sz29 rfl rfl) trivial ?_
              first
                | (refine' dl0 (gn rfl) rfl rfl (step_load_one rfl (ev_mk rfl) F.one29 ?hv) ⟨?hb, trivial⟩ ?_; (case hb => repeat (first | exact upd_eq _ _ _ | refine (upd_ne _ _ _ _ (by omega)).trans ?_ | assumption | exact hd _ (by omega) | exact hd0 _ (by omega) | exact hd1 _ (by omega) | exact hd2 _ (by omega) | fail)); (case hv => exact rfl))
                | (refine dl0 (gn rfl) rfl rfl (step_load_ro rfl (ev_mk rfl) F.one29 rfl) trivial ?_)
              first | refine dl0 (gn rfl) rfl rfl (step_fieldAddr (off := 0) rfl (ev_mk rfl) Try.underlying32 rfl F.sz29 rfl) trivial ?_ | refine dl0 (gn rfl) rfl rfl (step_fieldAddr_ro (off := 0) rfl (ev_mk rfl) Try.underlying32 rfl F.sz29 rfl rfl) trivial ?_
              first
                | (refine' dl0 (gn rfl) rfl rfl (step_load_one rfl (ev_mk rfl) F.one29 ?hv) ⟨?hb, trivial⟩ ?_; (case hb => repeat (first | exact upd_eq _ _ _ | refine (upd_ne _ _ _ _ (by omega)).trans ?_ | assumption | exact hd _ (by omega) | exact hd0 _ (by omega) | exact hd1 _ (by omega) | exact hd2 _ (by omega) | fail)); (case hv => exact rfl))
                | (refine dl0 (gn rfl) rfl rfl (step_load_ro rfl (ev_mk rfl) F.one29 rfl) trivial ?_)
              refine dl0 (gn rfl) rfl rfl (step_mv rfl rfl) trivial ?_
              first
                | (refine' dl0 (gn rfl) rfl rfl (step_index rfl (ev_mk rfl) (.inl rfl) (ev_mk rfl) Try.underlying29 F.sz48 (by omega) ?hr) trivial ?_; (case hr => exact map_at _ _ _ (by omega) (by omega)))
                | (refine' dl0 (gn rfl) rfl rfl (step_index rfl (ev_mk rfl) (.inr (.inl rfl)) (ev_mk rfl) Try.underlying29 F.sz48 (by omega) ?hr) trivial ?_; (case hr => exact map_at _ _ _ (by omega) (by omega)))
                | (refine' dl0 (gn rfl) rfl rfl (step_index rfl (ev_mk rfl) (.inr (.inr ⟨_, rfl⟩)) (ev_mk rfl) Try.underlying29 F.sz48 (by omega) ?hr) trivial ?_; (case hr => exact map_at _ _ _ (by omega) (by omega)))
                | (refine dl0 (gn rfl) rfl rfl (step_index_msl rfl (ev_mk rfl) (ev_mk rfl) Try.underlying29 F.sz48 (by omega) (by omega)) trivial ?_)
              first
                | (refine' dl0 (gn rfl) rfl rfl (step_load_all rfl rfl F.agg48 ?hl) ⟨?hb, trivial⟩ ?_; (case hb => repeat (first | exact upd_eq _ _ _ | refine (upd_ne _ _ _ _ (by omega)).trans ?_ | assumption | exact hd _ (by omega) | exact hd0 _ (by omega) | exact hd1 _ (by omega) | exact hd2 _ (by omega) | fail)); (case hl => first | rfl | (simp; done) | (rw [List.length_map]; exact at_len64 (by assumption) (by omega) (by omega))))
                | (refine dl0 (gn rfl) rfl rfl (step_load_ro_all rfl rfl F.agg48 (by first | rfl | (simp; done) | (rw [List.length_map]; exact at_len64 (by assumption) (by omega) (by omega)))) trivial ?_)
                | (refine' dl0 (gn rfl) rfl rfl (step_load_agg rfl (ev_mk rfl) F.agg48 ?hc ?hl) ⟨?hb, trivial⟩ ?_; (case hb => repeat (first | exact upd_eq _ _ _ | refine (upd_ne _ _ _ _ (by omega)).trans ?_ | assumption | exact hd _ (by omega) | exact hd0 _ (by omega) | exact hd1 _ (by omega) | exact hd2 _ (by omega) | fail)); (case hc => rfl); (case hl => first | rfl | (simp; done)))
                | (refine dl0 (gn rfl) rfl rfl (step_load_ro_agg rfl (ev_mk rfl) F.agg48 rfl rfl) trivial ?_)
              refine dl0 (gn rfl) rfl rfl (step_lit rfl Try.underlying29 F.sz48 F.zero48 (by first | rfl | simp) (by first | rfl | simp | decide) (by decide) rfl rfl (by first | (simp [V.cs, V.stor, oneV]; done) | (simp [V.cs, V.stor, oneV]; exact at_len64 (by assumption) (by omega) (by omega))) rfl) trivial ?_
              first
                | (refine' dl1 (gn rfl) rfl rfl (step_append_own rfl rfl rfl Try.underlying29 ⟨_, Try.underlying29, fun k_ => by intro h_; cases h_⟩ F.el48 (ev_mk rfl) (ev_mk rfl) (gives_sl (.inl rfl)) ?hg) ⟨?hb, trivial⟩ (by omega) ?_; (case hb => repeat (first | exact upd_eq _ _ _ | refine (upd_ne _ _ _ _ (by omega)).trans ?_ | assumption | exact hd _ (by omega) | exact hd0 _ (by omega) | exact hd1 _ (by omega) | exact hd2 _ (by omega) | fail)); (case hg => (simp [secsV]; omega)))
                | (refine' dl1 (gn rfl) rfl rfl (step_append_new (k := m0 + 0) rfl rfl rfl Try.underlying29 ⟨_, Try.underlying29, fun k_ => by intro h_; cases h_⟩ F.el48 (ev_mk rfl) (.inl rfl) (ev_mk rfl) (gives_sl (.inl rfl)) ?hg) ⟨?hb, trivial⟩ (by omega) ?_; (case hb => repeat (first | exact upd_eq _ _ _ | refine (upd_ne _ _ _ _ (by omega)).trans ?_ | assumption | exact hd _ (by omega) | exact hd0 _ (by omega) | exact hd1 _ (by omega) | exact hd2 _ (by omega) | fail)); (case hg => (simp [secsV]; omega)))
                | (refine' dl1 (gn rfl) rfl rfl (step_append_new (k := m0 + 0) (xs := []) rfl rfl rfl Try.underlying29 ⟨_, Try.underlying29, fun k_ => by intro h_; cases h_⟩ F.el48 (ev_mk rfl) (.inr ⟨rfl, rfl⟩) (ev_mk rfl) (gives_sl (.inl rfl)) ?hg) ⟨?hb, trivial⟩ (by omega) ?_; (case hb => repeat (first | exact upd_eq _ _ _ | refine (upd_ne _ _ _ _ (by omega)).trans ?_ | assumption | exact hd _ (by omega) | exact hd0 _ (by omega) | exact hd1 _ (by omega) | exact hd2 _ (by omega) | fail)); (case hg => (simp [secsV]; omega)))
                | (refine' dl1 (gn rfl) rfl rfl (step_append_own rfl rfl rfl Try.underlying29 ⟨_, Try.underlying29, fun k_ => by intro h_; cases h_⟩ F.el48 (ev_mk rfl) (ev_mk rfl) (gives_sl (.inr (.inl rfl))) ?hg) ⟨?hb, trivial⟩ (by omega) ?_; (case hb => repeat (first | exact upd_eq _ _ _ | refine (upd_ne _ _ _ _ (by omega)).trans ?_ | assumption | exact hd _ (by omega) | exact hd0 _ (by omega) | exact hd1 _ (by omega) | exact hd2 _ (by omega) | fail)); (case hg => (simp [secsV]; omega)))
                | (refine' dl1 (gn rfl) rfl rfl (step_append_new (k := m0 + 0) rfl rfl rfl Try.underlying29 ⟨_, Try.underlying29, fun k_ => by intro h_; cases h_⟩ F.el48 (ev_mk rfl) (.inl rfl) (ev_mk rfl) (gives_sl (.inr (.inl rfl))) ?hg) ⟨?hb, trivial⟩ (by omega) ?_; (case hb => repeat (first | exact upd_eq _ _ _ | refine (upd_ne _ _ _ _ (by omega)).trans ?_ | assumption | exact hd _ (by omega) | exact hd0 _ (by omega) | exact hd1 _ (by omega) | exact hd2 _ (by omega) | fail)); (case hg => (simp [secsV]; omega)))
                | (refine' dl1 (gn rfl) rfl rfl (step_append_new (k := m0 + 0) (xs := []) rfl rfl rfl Try.underlying29 ⟨_, Try.underlying29, fun k_ => by intro h_; cases h_⟩ F.el48 (ev_mk rfl) (.inr ⟨rfl, rfl⟩) (ev_mk rfl) (gives_sl (.inr (.inl rfl))) ?hg) ⟨?hb, trivial⟩ (by omega) ?_; (case hb => repeat (first | exact upd_eq _ _ _ | refine (upd_ne _ _ _ _ (by omega)).trans ?_ | assumption | exact hd _ (by omega) | exact hd0 _ (by omega) | exact hd1 _ (by omega) | exact hd2 _ (by omega) | fail)); (case hg => (simp [secsV]; omega)))
                | (refine' dl1 (gn rfl) rfl rfl (step_append_own rfl rfl rfl Try.underlying29 ⟨_, Try.underlying29, fun k_ => by intro h_; cases h_⟩ F.el48 (ev_mk rfl) (ev_mk rfl) (gives_sl (.inr (.inr ⟨_, rfl⟩))) ?hg) ⟨?hb, trivial⟩ (by omega) ?_; (case hb => repeat (first | exact upd_eq _ _ _ | refine (upd_ne _ _ _ _ (by omega)).trans ?_ | assumption | exact hd _ (by omega) | exact hd0 _ (by omega) | exact hd1 _ (by omega) | exact hd2 _ (by omega) | fail)); (case hg => (simp [secsV]; omega)))
                | (refine' dl1 (gn rfl) rfl rfl (step_append_new (k := m0 + 0) rfl rfl rfl Try.underlying29 ⟨_, Try.underlying29, fun k_ => by intro h_; cases h_⟩ F.el48 (ev_mk rfl) (.inl rfl) (ev_mk rfl) (gives_sl (.inr (.inr ⟨_, rfl⟩))) ?hg) ⟨?hb, trivial⟩ (by omega) ?_; (case hb => repeat (first | exact upd_eq _ _ _ | refine (upd_ne _ _ _ _ (by omega)).trans ?_ | assumption | exact hd _ (by omega) | exact hd0 _ (by omega) | exact hd1 _ (by omega) | exact hd2 _ (by omega) | fail)); (case hg => (simp [secsV]; omega)))
                | (refine' dl1 (gn rfl) rfl rfl (step_append_new (k := m0 + 0) (xs := []) rfl rfl rfl Try.underlying29 ⟨_, Try.underlying29, fun k_ => by intro h_; cases h_⟩ F.el48 (ev_mk rfl) (.inr ⟨rfl, rfl⟩) (ev_mk rfl) (gives_sl (.inr (.inr ⟨_, rfl⟩))) ?hg) ⟨?hb, trivial⟩ (by omega) ?_; (case hb => repeat (first | exact upd_eq _ _ _ | refine (upd_ne _ _ _ _ (by omega)).trans ?_ | assumption | exact hd _ (by omega) | exact hd0 _ (by omega) | exact hd1 _ (by omega) | exact hd2 _ (by omega) | fail)); (case hg => (simp [secsV]; omega)))
                | (refine' dl1 (gn rfl) rfl rfl (step_append_own rfl rfl rfl Try.underlying29 ⟨_, Try.underlying29, fun k_ => by intro h_; cases h_⟩ F.el48 (ev_mk rfl) (ev_mk rfl) gives_nil ?hg) ⟨?hb, trivial⟩ (by omega) ?_; (case hb => repeat (first | exact upd_eq _ _ _ | refine (upd_ne _ _ _ _ (by omega)).trans ?_ | assumption | exact hd _ (by omega) | exact hd0 _ (by omega) | exact hd1 _ (by omega) | exact hd2 _ (by omega) | fail)); (case hg => (simp [secsV]; omega)))
                | (refine' dl1 (gn rfl) rfl rfl (step_append_new (k := m0 + 0) rfl rfl rfl Try.underlying29 ⟨_, Try.underlying29, fun k_ => by intro h_; cases h_⟩ F.el48 (ev_mk rfl) (.inl rfl) (ev_mk rfl) gives_nil ?hg) ⟨?hb, trivial⟩ (by omega) ?_; (case hb => repeat (first | exact upd_eq _ _ _ | refine (upd_ne _ _ _ _ (by omega)).trans ?_ | assumption | exact hd _ (by omega) | exact hd0 _ (by omega) | exact hd1 _ (by omega) | exact hd2 _ (by omega) | fail)); (case hg => (simp [secsV]; omega)))
                | (refine' dl1 (gn rfl) rfl rfl (step_append_new (k := m0 + 0) (xs := []) rfl rfl rfl Try.underlying29 ⟨_, Try.underlying29, fun k_ => by intro h_; cases h_⟩ F.el48 (ev_mk rfl) (.inr ⟨rfl, rfl⟩) (ev_mk rfl) gives_nil ?hg) ⟨?hb, trivial⟩ (by omega) ?_; (case hb => repeat (first | exact upd_eq _ _ _ | refine (upd_ne _ _ _ _ (by omega)).trans ?_ | assumption | exact hd _ (by omega) | exact hd0 _ (by omega) | exact hd1 _ (by omega) | exact hd2 _ (by omega) | fail)); (case hg => (simp [secsV]; omega)))
                | (refine' dl1 (gn rfl) rfl rfl (step_append_own rfl rfl rfl Try.underlying29 ⟨_, Try.underlying29, fun k_ => by intro h_; cases h_⟩ F.el48 (ev_mk rfl) (ev_mk rfl) (gives_msl ?hl ?hy) ?hg) ⟨?hb, ⟨?hm, trivial⟩⟩ (by omega) ?_; (case hb => repeat (first | exact upd_eq _ _ _ | refine (upd_ne _ _ _ _ (by omega)).trans ?_ | assumption | exact hd _ (by omega) | exact hd0 _ (by omega) | exact hd1 _ (by omega) | exact hd2 _ (by omega) | fail)); (case hg => (simp [secsV]; omega)); (case hm => repeat (first | exact upd_eq _ _ _ | refine (upd_ne _ _ _ _ (by omega)).trans ?_ | assumption | exact hd _ (by omega) | exact hd0 _ (by omega) | exact hd1 _ (by omega) | exact hd2 _ (by omega) | fail)); (case hl => (rw [List.length_map]; exact at_len64 (by assumption) (by omega) (by omega))); (case hy => rfl))
                | (refine' dl1 (gn rfl) rfl rfl (step_append_new (k := m0 + 0) rfl rfl rfl Try.underlying29 ⟨_, Try.underlying29, fun k_ => by intro h_; cases h_⟩ F.el48 (ev_mk rfl) (.inl rfl) (ev_mk rfl) (gives_msl ?hl ?hy) ?hg) ⟨?hb, ⟨?hm, trivial⟩⟩ (by omega) ?_; (case hb => repeat (first | exact upd_eq _ _ _ | refine (upd_ne _ _ _ _ (by omega)).trans ?_ | assumption | exact hd _ (by omega) | exact hd0 _ (by omega) | exact hd1 _ (by omega) | exact hd2 _ (by omega) | fail)); (case hg => (simp [secsV]; omega)); (case hm => repeat (first | exact upd_eq _ _ _ | refine (upd_ne _ _ _ _ (by omega)).trans ?_ | assumption | exact hd _ (by omega) | exact hd0 _ (by omega) | exact hd1 _ (by omega) | exact hd2 _ (by omega) | fail)); (case hl => (rw [List.length_map]; exact at_len64 (by assumption) (by omega) (by omega))); (case hy => rfl))
                | (refine' dl1 (gn rfl) rfl rfl (step_append_new (k := m0 + 0) (xs := []) rfl rfl rfl Try.underlying29 ⟨_, Try.underlying29, fun k_ => by intro h_; cases h_⟩ F.el48 (ev_mk rfl) (.inr ⟨rfl, rfl⟩) (ev_mk rfl) (gives_msl ?hl ?hy) ?hg) ⟨?hb, ⟨?hm, trivial⟩⟩ (by omega) ?_; (case hb => repeat (first | exact upd_eq _ _ _ | refine (upd_ne _ _ _ _ (by omega)).trans ?_ | assumption | exact hd _ (by omega) | exact hd0 _ (by omega) | exact hd1 _ (by omega) | exact hd2 _ (by omega) | fail)); (case hg => (simp [secsV]; omega)); (case hm => repeat (first | exact upd_eq _ _ _ | refine (upd_ne _ _ _ _ (by omega)).trans ?_ | assumption | exact hd _ (by omega) | exact hd0 _ (by omega) | exact hd1 _ (by omega) | exact hd2 _ (by omega) | fail)); (case hl => (rw [List.length_map]; exact at_len64 (by assumption) (by omega) (by omega))); (case hy => rfl))
              first | refine dl0 (gn rfl) rfl rfl (step_fieldAddr (off := 0) rfl (ev_mk rfl) Try.underlying32 rfl F.sz29 rfl) trivial ?_ | refine dl0 (gn rfl) rfl rfl (step_fieldAddr_ro (off := 0) rfl (ev_mk rfl) Try.underlying32 rfl F.sz29 rfl rfl) trivial ?_
              refine' dls (gn rfl) rfl (step_store1 rfl rfl rfl rfl F.one29 rfl rfl ?hl ?hc) ⟨?hb, trivial⟩ ?hk ?_
              case hb => repeat (first | exact upd_eq _ _ _ | refine (upd_ne _ _ _ _ (by omega)).trans ?_ | assumption | exact hd _ (by omega) | exact hd0 _ (by omega) | exact hd1 _ (by omega) | exact hd2 _ (by omega) | fail)
              case hl => first | decide | (simp; done) | (simp; omega) | (rw [List.length_map]; exact at_len64 (by assumption) (by omega) (by omega))
              case hc => first | (simp only [List.set_cons_succ, List.set_cons_zero]; rfl) | rfl
              case hk => omega
              refine dlnil ?_ ?_
              · repeat' (first | exact trivial | exact .inr (ap0 _ _ _ _) | exact .inr (ap2 _ _ _ _) | exact .inr (ap3 _ _ _ _) | exact .inr ⟨by first | (simp; done) | (simp; omega), by first | (simp; done) | (simp; omega)⟩ | exact .inl (by kernel_rfl) | refine ⟨?_, ?_⟩ | fail)
              refine runs_region ?_
              refine rl0 (gn rfl) rfl rfl (step_mv rfl rfl) trivial ?_
              refine rl0 (gn rfl) rfl rfl (step_add rfl (ev_mk rfl) (ev_mk rfl) (w64 (by omega))) trivial ?_
              refine rl0 (gn rfl) rfl rfl (step_as rfl rfl) trivial ?_
              refine runsL_nil ?_
              have hr_ := mixAt_o2 (S := S) (l := l) (f := f) (kp := kp) (i := j) (x := x) (by omega)
              have hsn_ := snoc_ _ j _ hr_
              refine ⟨_, _, ?_, sle ?_ (Nat.le_refl _), j + 1, _, _, rfl, rfl, by omega, (fun k hk => by repeat (first | exact hf0 k hk | refine (upd_ne _ _ _ _ (by first | assumption | omega)).trans ?_ | fail)), by repeat (first | exact upd_eq _ _ _ | assumption | refine (upd_ne _ _ _ _ (by omega)).trans ?_ | fail), by repeat (first | exact upd_eq _ _ _ | assumption | refine (upd_ne _ _ _ _ (by omega)).trans ?_ | fail), by (rw [← hsn_]; repeat (first | exact upd_eq _ _ _ | assumption | refine (upd_ne _ _ _ _ (by omega)).trans ?_ | fail)), by (rw [← hsn_]; repeat (first | exact upd_eq _ _ _ | assumption | refine (upd_ne _ _ _ _ (by omega)).trans ?_ | fail)), by omega⟩
              · omega
              · (repeat' (first | exact trivial | refine ⟨⟨_, rfl, ?_⟩, ?_⟩ | fail)); (all_goals first | exact VLe.refl _ | (rw [Int.natCast_add]; exact VLe.refl _) | exact VLe.own_sl _ _ _ | exact VLe.fl_sl _ _ | exact VLe.nil_sl _)
          · skip
            refine rl0 (gn rfl) rfl rfl (step_mv rfl rfl) trivial ?_
            refine rlk rfl rfl rfl rfl rfl (ngb rfl rfl) rfl rfl ?_
            refine rlk rfl rfl rfl rfl rfl (ngb rfl rfl) rfl rfl ?_
            refine rlk rfl rfl rfl rfl rfl (ngb rfl rfl) rfl rfl ?_
            refine rlk rfl rfl rfl rfl rfl (ngb rfl rfl) rfl rfl ?_
            refine rlk rfl rfl rfl rfl rfl (ngb rfl rfl) rfl rfl ?_
            refine rlk rfl rfl rfl rfl rfl (ngb rfl rfl) rfl rfl ?_
            refine rl0 (gn rfl) rfl rfl (step_pick rfl (ev_mk rfl) (ev_mk rfl)) trivial ?_
            refine rl0 (gn rfl) rfl rfl (step_mv rfl rfl) trivial ?_
            refine rlk rfl rfl rfl rfl rfl (ngb rfl rfl) rfl rfl ?_
            refine rlk rfl rfl rfl rfl rfl (ngb rfl rfl) rfl rfl ?_
            refine rlk rfl rfl rfl rfl rfl (ngb rfl rfl) rfl rfl ?_
            refine rlk rfl rfl rfl rfl rfl (ngb rfl rfl) rfl rfl ?_
            refine rlk rfl rfl rfl rfl rfl (ngb rfl rfl) rfl rfl ?_
            refine rl0 (gn rfl) rfl rfl (step_pick rfl (ev_mk rfl) (ev_mk rfl)) trivial ?_
            refine runsL_nil ?_
            refine runs_cond false (ev_mk rfl) (fun h_ => nomatch h_) (fun _ => ?_)
            refine runs_draw (by kernel_rfl) (by kernel_rfl) (by kernel_rfl) ?_
            first | refine dl0 (gn rfl) rfl rfl (step_fieldAddr (off := 0) rfl (ev_mk rfl) Try.underlying32 rfl F.sz29 rfl) trivial ?_ | refine dl0 (gn rfl) rfl rfl (step_fieldAddr_ro (off := 0) rfl (ev_mk rfl) Try.underlying32 rfl F.sz29 rfl rfl) trivial ?_
            first
              | (refine' dl0 (gn rfl) rfl rfl (step_load_one rfl (ev_mk rfl) F.one29 ?hv) ⟨?hb, trivial⟩ ?_; (case hb => repeat (first | exact upd_eq _ _ _ | refine (upd_ne _ _ _ _ (by omega)).trans ?_ | assumption | exact hd _ (by omega) | exact hd0 _ (by omega) | exact hd1 _ (by omega) | exact hd2 _ (by omega) | fail)); (case hv => exact rfl))
              | (refine dl0 (gn rfl) rfl rfl (step_load_ro rfl (ev_mk rfl) F.one29 rfl) trivial ?_)
            first | refine dl0 (gn rfl) rfl rfl (step_fieldAddr (off := 0) rfl (ev_mk rfl) Try.underlying32 rfl F.sz29 rfl) trivial ?_ | refine dl0 (gn rfl) rfl rfl (step_fieldAddr_ro (off := 0) rfl (ev_mk rfl) Try.underlying32 rfl F.sz29 rfl rfl) trivial ?_
            first
              | (refine' dl0 (gn rfl) rfl rfl (step_load_one rfl (ev_mk rfl) F.one29 ?hv) ⟨?hb, trivial⟩ ?_; (case hb => repeat (first | exact upd_eq _ _ _ | refine (upd_ne _ _ _ _ (by omega)).trans ?_ | assumption | exact hd _ (by omega) | exact hd0 _ (by omega) | exact hd1 _ (by omega) | exact hd2 _ (by omega) | fail)); (case hv => exact rfl))
              | (refine dl0 (gn rfl) rfl rfl (step_load_ro rfl (ev_mk rfl) F.one29 rfl) trivial ?_)
            refine dl0 (gn rfl) rfl rfl (step_mv rfl rfl) trivial ?_
            first
              | (refine' dl0 (gn rfl) rfl rfl (step_index rfl (ev_mk rfl) (.inl rfl) (ev_mk rfl) Try.underlying29 F.sz48 (by omega) ?hr) trivial ?_; (case hr => exact map_at _ _ _ (by omega) (by omega)))
              | (refine' dl0 (gn rfl) rfl rfl (step_index rfl (ev_mk rfl) (.inr (.inl rfl)) (ev_mk rfl) Try.underlying29 F.sz48 (by omega) ?hr) trivial ?_; (case hr => exact map_at _ _ _ (by omega) (by omega)))
              | (refine' dl0 (gn rfl) rfl rfl (step_index rfl (ev_mk rfl) (.inr (.inr ⟨_, rfl⟩)) (ev_mk rfl) Try.underlying29 F.sz48 (by omega) ?hr) trivial ?_; (case hr => exact map_at _ _ _ (by omega) (by omega)))
              | (refine dl0 (gn rfl) rfl rfl (step_index_msl rfl (ev_mk rfl) (ev_mk rfl) Try.underlying29 F.sz48 (by omega) (by omega)) trivial ?_)
            first
              | (refine' dl0 (gn rfl) rfl rfl (step_load_all rfl rfl F.agg48 ?hl) ⟨?hb, trivial⟩ ?_; (case hb => repeat (first | exact upd_eq _ _ _ | refine (upd_ne _ _ _ _ (by omega)).trans ?_ | assumption | exact hd _ (by omega) | exact hd0 _ (by omega) | exact hd1 _ (by omega) | exact hd2 _ (by omega) | fail)); (case hl => first | rfl | (simp; done) | (rw [List.length_map]; exact at_len64 (by assumption) (by omega) (by omega))))
              | (refine dl0 (gn rfl) rfl rfl (step_load_ro_all rfl rfl F.agg48 (by first | rfl | (simp; done) | (rw [List.length_map]; exact at_len64 (by assumption) (by omega) (by omega)))) trivial ?_)
              | (refine' dl0 (gn rfl) rfl rfl (step_load_agg rfl (ev_mk rfl) F.agg48 ?hc ?hl) ⟨?hb, trivial⟩ ?_; (case hb => repeat (first | exact upd_eq _ _ _ | refine (upd_ne _ _ _ _ (by omega)).trans ?_ | assumption | exact hd _ (by omega) | exact hd0 _ (by omega) | exact hd1 _ (by omega) | exact hd2 _ (by omega) | fail)); (case hc => rfl); (case hl => first | rfl | (simp; done)))
              | (refine dl0 (gn rfl) rfl rfl (step_load_ro_agg rfl (ev_mk rfl) F.agg48 rfl rfl) trivial ?_)
            refine dl0 (gn rfl) rfl rfl (step_lit rfl Try.underlying29 F.sz48 F.zero48 (by first | rfl | simp) (by first | rfl | simp | decide) (by decide) rfl rfl (by first | (simp [V.cs, V.stor, oneV]; done) | (simp [V.cs, V.stor, oneV]; exact at_len64 (by assumption) (by omega) (by omega))) rfl) trivial ?_
            first
              | (refine' dl1 (gn rfl) rfl rfl (step_append_own rfl rfl rfl Try.underlying29 ⟨_, Try.underlying29, fun k_ => by intro h_; cases h_⟩ F.el48 (ev_mk rfl) (ev_mk rfl) (gives_sl (.inl rfl)) ?hg) ⟨?hb, trivial⟩ (by omega) ?_; (case hb => repeat (first | exact upd_eq _ _ _ | refine (upd_ne _ _ _ _ (by omega)).trans ?_ | assumption | exact hd _ (by omega) | exact hd0 _ (by omega) | exact hd1 _ (by omega) | exact hd2 _ (by omega) | fail)); (case hg => (simp [secsV]; omega)))
              | (refine' dl1 (gn rfl) rfl rfl (step_append_new (k := m0 + 0) rfl rfl rfl Try.underlying29 ⟨_, Try.underlying29, fun k_ => by intro h_; cases h_⟩ F.el48 (ev_mk rfl) (.inl rfl) (ev_mk rfl) (gives_sl (.inl rfl)) ?hg) ⟨?hb, trivial⟩ (by omega) ?_; (case hb => repeat (first | exact upd_eq _ _ _ | refine (upd_ne _ _ _ _ (by omega)).trans ?_ | assumption | exact hd _ (by omega) | exact hd0 _ (by omega) | exact hd1 _ (by omega) | exact hd2 _ (by omega) | fail)); (case hg => (simp [secsV]; omega)))
              | (refine' dl1 (gn rfl) rfl rfl (step_append_new (k := m0 + 0) (xs := []) rfl rfl rfl Try.underlying29 ⟨_, Try.underlying29, fun k_ => by intro h_; cases h_⟩ F.el48 (ev_mk rfl) (.inr ⟨rfl, rfl⟩) (ev_mk rfl) (gives_sl (.inl rfl)) ?hg) ⟨?hb, trivial⟩ (by omega) ?_; (case hb => repeat (first | exact upd_eq _ _ _ | refine (upd_ne _ _ _ _ (by omega)).trans ?_ | assumption | exact hd _ (by omega) | exact hd0 _ (by omega) | exact hd1 _ (by omega) | exact hd2 _ (by omega) | fail)); (case hg => (simp [secsV]; omega)))
              | (refine' dl1 (gn rfl) rfl rfl (step_append_own rfl rfl rfl Try.underlying29 ⟨_, Try.underlying29, fun k_ => by intro h_; cases h_⟩ F.el48 (ev_mk rfl) (ev_mk rfl) (gives_sl (.inr (.inl rfl))) ?hg) ⟨?hb, trivial⟩ (by omega) ?_; (case hb => repeat (first | exact upd_eq _ _ _ | refine (upd_ne _ _ _ _ (by omega)).trans ?_ | assumption | exact hd _ (by omega) | exact hd0 _ (by omega) | exact hd1 _ (by omega) | exact hd2 _ (by omega) | fail)); (case hg => (simp [secsV]; omega)))
              | (refine' dl1 (gn rfl) rfl rfl (step_append_new (k := m0 + 0) rfl rfl rfl Try.underlying29 ⟨_, Try.underlying29, fun k_ => by intro h_; cases h_⟩ F.el48 (ev_mk rfl) (.inl rfl) (ev_mk rfl) (gives_sl (.inr (.inl rfl))) ?hg) ⟨?hb, trivial⟩ (by omega) ?_; (case hb => repeat (first | exact upd_eq _ _ _ | refine (upd_ne _ _ _ _ (by omega)).trans ?_ | assumption | exact hd _ (by omega) | exact hd0 _ (by omega) | exact hd1 _ (by omega) | exact hd2 _ (by omega) | fail)); (case hg => (simp [secsV]; omega)))
              | (refine' dl1 (gn rfl) rfl rfl (step_append_new (k := m0 + 0) (xs := []) rfl rfl rfl Try.underlying29 ⟨_, Try.underlying29, fun k_ => by intro h_; cases h_⟩ F.el48 (ev_mk rfl) (.inr ⟨rfl, rfl⟩) (ev_mk rfl) (gives_sl (.inr (.inl rfl))) ?hg) ⟨?hb, trivial⟩ (by omega) ?_; (case hb => repeat (first | exact upd_eq _ _ _ | refine (upd_ne _ _ _ _ (by omega)).trans ?_ | assumption | exact hd _ (by omega) | exact hd0 _ (by omega) | exact hd1 _ (by omega) | exact hd2 _ (by omega) | fail)); (case hg => (simp [secsV]; omega)))
              | (refine' dl1 (gn rfl) rfl rfl (step_append_own rfl rfl rfl Try.underlying29 ⟨_, Try.underlying29, fun k_ => by intro h_; cases h_⟩ F.el48 (ev_mk rfl) (ev_mk rfl) (gives_sl (.inr (.inr ⟨_, rfl⟩))) ?hg) ⟨?hb, trivial⟩ (by omega) ?_; (case hb => repeat (first | exact upd_eq _ _ _ | refine (upd_ne _ _ _ _ (by omega)).trans ?_ | assumption | exact hd _ (by omega) | exact hd0 _ (by omega) | exact hd1 _ (by omega) | exact hd2 _ (by omega) | fail)); (case hg => (simp [secsV]; omega)))
              | (refine' dl1 (gn rfl) rfl rfl (step_append_new (k := m0 + 0) rfl rfl rfl Try.underlying29 ⟨_, Try.underlying29, fun k_ => by intro h_; cases h_⟩ F.el48 (ev_mk rfl) (.inl rfl) (ev_mk rfl) (gives_sl (.inr (.inr ⟨_, rfl⟩))) ?hg) ⟨?hb, trivial⟩ (by omega) ?_; (case hb => repeat (first | exact upd_eq _ _ _ | refine (upd_ne _ _ _ _ (by omega)).trans ?_ | assumption | exact hd _ (by omega) | exact hd0 _ (by omega) | exact hd1 _ (by omega) | exact hd2 _ (by omega) | fail)); (case hg => (simp [secsV]; omega)))
              | (refine' dl1 (gn rfl) rfl rfl (step_append_new (k := m0 + 0) (xs := []) rfl rfl rfl Try.underlying29 ⟨_, Try.underlying29, fun k_ => by intro h_; cases h_⟩ F.el48 (ev_mk rfl) (.inr ⟨rfl, rfl⟩) (ev_mk rfl) (gives_sl (.inr (.inr ⟨_, rfl⟩))) ?hg) ⟨?hb, trivial⟩ (by omega) ?_; (case hb => repeat (first | exact upd_eq _ _ _ | refine (upd_ne _ _ _ _ (by omega)).trans ?_ | assumption | exact hd _ (by omega) | exact hd0 _ (by omega) | exact hd1 _ (by omega) | exact hd2 _ (by omega) | fail)); (case hg => (simp [secsV]; omega)))
              | (refine' dl1 (gn rfl) rfl rfl (step_append_own rfl rfl rfl Try.underlying29 ⟨_, Try.underlying29, fun k_ => by intro h_; cases h_⟩ F.el48 (ev_mk rfl) (ev_mk rfl) gives_nil ?hg) ⟨?hb, trivial⟩ (by omega) ?_; (case hb => repeat (first | exact upd_eq _ _ _ | refine (upd_ne _ _ _ _ (by omega)).trans ?_ | assumption | exact hd _ (by omega) | exact hd0 _ (by omega) | exact hd1 _ (by omega) | exact hd2 _ (by omega) | fail)); (case hg => (simp [secsV]; omega)))
              | (refine' dl1 (gn rfl) rfl rfl (step_append_new (k := m0 + 0) rfl rfl rfl Try.underlying29 ⟨_, Try.underlying29, fun k_ => by intro h_; cases h_⟩ F.el48 (ev_mk rfl) (.inl rfl) (ev_mk rfl) gives_nil ?hg) ⟨?hb, trivial⟩ (by omega) ?_; (case hb => repeat (first | exact upd_eq _ _ _ | refine (upd_ne _ _ _ _ (by omega)).trans ?_ | assumption | exact hd _ (by omega) | exact hd0 _ (by omega) | exact hd1 _ (by omega) | exact hd2 _ (by omega) | fail)); (case hg => (simp [secsV]; omega)))
              | (refine' dl1 (gn rfl) rfl rfl (step_append_new (k := m0 + 0) (xs := []) rfl rfl rfl Try.underlying29 ⟨_, Try.underlying29, fun k_ => by intro h_; cases h_⟩ F.el48 (ev_mk rfl) (.inr ⟨rfl, rfl⟩) (ev_mk rfl) gives_nil ?hg) ⟨?hb, trivial⟩ (by omega) ?_; (case hb => repeat (first | exact upd_eq _ _ _ | refine (upd_ne _ _ _ _ (by omega)).trans ?_ | assumption | exact hd _ (by omega) | exact hd0 _ (by omega) | exact hd1 _ (by omega) | exact hd2 _ (by omega) | fail)); (case hg => (simp [secsV]; omega)))
              | (refine' dl1 (gn rfl) rfl rfl (step_append_own rfl rfl rfl Try.underlying29 ⟨_, Try.underlying29, fun k_ => by intro h_; cases h_⟩ F.el48 (ev_mk rfl) (ev_mk rfl) (gives_msl ?hl ?hy) ?hg) ⟨?hb, ⟨?hm, trivial⟩⟩ (by omega) ?_; (case hb => repeat (first | exact upd_eq _ _ _ | refine (upd_ne _ _ _ _ (by omega)).trans ?_ | assumption | exact hd _ (by omega) | exact hd0 _ (by omega) | exact hd1 _ (by omega) | exact hd2 _ (by omega) | fail)); (case hg => (simp [secsV]; omega)); (case hm => repeat (first | exact upd_eq _ _ _ | refine (upd_ne _ _ _ _ (by omega)).trans ?_ | assumption | exact hd _ (by omega) | exact hd0 _ (by omega) | exact hd1 _ (by omega) | exact hd2 _ (by omega) | fail)); (case hl => (rw [List.length_map]; exact at_len64 (by assumption) (by omega) (by omega))); (case hy => rfl))
              | (refine' dl1 (gn rfl) rfl rfl (step_append_new (k := m0 + 0) rfl rfl rfl Try.underlying29 ⟨_, Try.underlying29, fun k_ => by intro h_; cases h_⟩ F.el48 (ev_mk rfl) (.inl rfl) (ev_mk rfl) (gives_msl ?hl ?hy) ?hg) ⟨?hb, ⟨?hm, trivial⟩⟩ (by omega) ?_; (case hb => repeat (first | exact upd_eq _ _ _ | refine (upd_ne _ _ _ _ (by omega)).trans ?_ | assumption | exact hd _ (by omega) | exact hd0 _ (by omega) | exact hd1 _ (by omega) | exact hd2 _ (by omega) | fail)); (case hg => (simp [secsV]; omega)); (case hm => repeat (first | exact upd_eq _ _ _ | refine (upd_ne _ _ _ _ (by omega)).trans ?_ | assumption | exact hd _ (by omega) | exact hd0 _ (by omega) | exact hd1 _ (by omega) | exact hd2 _ (by omega) | fail)); (case hl => (rw [List.length_map]; exact at_len64 (by assumption) (by omega) (by omega))); (case hy => rfl))
              | (refine' dl1 (gn rfl) rfl rfl (step_append_new (k := m0 + 0) (xs := []) rfl rfl rfl Try.underlying29 ⟨_, Try.underlying29, fun k_ => by intro h_; cases h_⟩ F.el48 (ev_mk rfl) (.inr ⟨rfl, rfl⟩) (ev_mk rfl) (gives_msl ?hl ?hy) ?hg) ⟨?hb, ⟨?hm, trivial⟩⟩ (by omega) ?_; (case hb => repeat (first | exact upd_eq _ _ _ | refine (upd_ne _ _ _ _ (by omega)).trans ?_ | assumption | exact hd _ (by omega) | exact hd0 _ (by omega) | exact hd1 _ (by omega) | exact hd2 _ (by omega) | fail)); (case hg => (simp [secsV]; omega)); (case hm => repeat (first | exact upd_eq _ _ _ | refine (upd_ne _ _ _ _ (by omega)).trans ?_ | assumption | exact hd _ (by omega) | exact hd0 _ (by omega) | exact hd1 _ (by omega) | exact hd2 _ (by omega) | fail)); (case hl => (rw [List.length_map]; exact at_len64 (by assumption) (by omega) (by omega))); (case hy => rfl))
            first | refine dl0 (gn rfl) rfl rfl (step_fieldAddr (off := 0) rfl (ev_mk rfl) Try.underlying32 rfl F.sz29 rfl) trivial ?_ | refine dl0 (gn rfl) rfl rfl (step_fieldAddr_ro (off := 0) rfl (ev_mk rfl) Try.underlying32 rfl F.sz29 rfl rfl) trivial ?_
            refine' dls (gn rfl) rfl (step_store1 rfl rfl rfl rfl F.one29 rfl rfl ?hl ?hc) ⟨?hb, trivial⟩ ?hk ?_
            case hb => repeat (first | exact upd_eq _ _ _ | refine (upd_ne _ _ _ _ (by omega)).trans ?_ | assumption | exact hd _ (by omega) | exact hd0 _ (by omega) | exact hd1 _ (by omega) | exact hd2 _ (by omega) | fail)
            case hl => first | decide | (simp; done) | (simp; omega) | (rw [List.length_map]; exact at_len64 (by assumption) (by omega) (by omega))
            case hc => first | (simp only [List.set_cons_succ, List.set_cons_zero]; rfl) | rfl
            case hk => omega
            refine dlnil ?_ ?_
            · repeat' (first | exact trivial | exact .inr (ap0 _ _ _ _) | exact .inr (ap2 _ _ _ _) | exact .inr (ap3 _ _ _ _) | exact .inr ⟨by first | (simp; done) | (simp; omega), by first | (simp; done) | (simp; omega)⟩ | exact .inl (by kernel_rfl) | refine ⟨?_, ?_⟩ | fail)
            refine runs_region ?_
            refine rl0 (gn rfl) rfl rfl (step_mv rfl rfl) trivial ?_
            refine rl0 (gn rfl) rfl rfl (step_add rfl (ev_mk rfl) (ev_mk rfl) (w64 (by omega))) trivial ?_
            refine rl0 (gn rfl) rfl rfl (step_as rfl rfl) trivial ?_
            refine runsL_nil ?_
            have hr_ := mixAt_o1 (S := S) (l := l) (f := f) (kp := kp) (i := j) (x := x) (by omega)
            have hsn_ := snoc_ _ j _ hr_
            refine ⟨_, _, ?_, sle ?_ (Nat.le_refl _), j + 1, _, _, rfl, rfl, by omega, (fun k hk => by repeat (first | exact hf0 k hk | refine (upd_ne _ _ _ _ (by first | assumption | omega)).trans ?_ | fail)), by repeat (first | exact upd_eq _ _ _ | assumption | refine (upd_ne _ _ _ _ (by omega)).trans ?_ | fail), by repeat (first | exact upd_eq _ _ _ | assumption | refine (upd_ne _ _ _ _ (by omega)).trans ?_ | fail), by (rw [← hsn_]; repeat (first | exact upd_eq _ _ _ | assumption | refine (upd_ne _ _ _ _ (by omega)).trans ?_ | fail)), by (rw [← hsn_]; repeat (first | exact upd_eq _ _ _ | assumption | refine (upd_ne _ _ _ _ (by omega)).trans ?_ | fail)), by omega⟩
            · omega
            · (repeat' (first | exact trivial | refine ⟨⟨_, rfl, ?_⟩, ?_⟩ | fail)); (all_goals first | exact VLe.refl _ | (rw [Int.natCast_add]; exact VLe.refl _) | exact VLe.own_sl _ _ _ | exact VLe.fl_sl _ _ | exact VLe.nil_sl _)
        · skip
          refine runsL_nil ?_
          refine runs_cond false (ev_mk rfl) (fun h_ => nomatch h_) (fun _ => ?_)
          refine runs_exit ?_
          refine runs_seq ?_
          refine runs_seq ?_
          refine runs_region ?_
          first | refine rl0 (gn rfl) rfl rfl (step_fieldAddr (off := 2) rfl (ev_mk rfl) Try.underlying32 rfl F.sz3 rfl) trivial ?_ | refine rl0 (gn rfl) rfl rfl (step_fieldAddr_ro (off := 2) rfl (ev_mk rfl) Try.underlying32 rfl F.sz3 rfl rfl) trivial ?_
          first
            | (refine' rl0 (gn rfl) rfl rfl (step_load_one rfl (ev_mk rfl) F.one3 ?hv) ⟨?hb, trivial⟩ ?_; (case hb => repeat (first | exact upd_eq _ _ _ | refine (upd_ne _ _ _ _ (by omega)).trans ?_ | assumption | exact hd _ (by omega) | exact hd0 _ (by omega) | exact hd1 _ (by omega) | exact hd2 _ (by omega) | fail)); (case hv => exact rfl))
            | (refine rl0 (gn rfl) rfl rfl (step_load_ro rfl (ev_mk rfl) F.one3 rfl) trivial ?_)
          refine rl_eql (gn rfl) rfl rfl rfl rfl rfl (fun h4 => ?_) (fun h4 => ?_)
          · skip
            exact absurd (by assumption) hf
          · skip
            refine runsL_nil ?_
            refine runs_cond false (ev_mk rfl) (fun h_ => nomatch h_) (fun _ => ?_)
            refine runs_skip ?_
            refine runs_seq ?_
            refine runs_seq ?_
            refine runs_region ?_
            first | refine rl0 (gn rfl) rfl rfl (step_fieldAddr (off := 2) rfl (ev_mk rfl) Try.underlying32 rfl F.sz3 rfl) trivial ?_ | refine rl0 (gn rfl) rfl rfl (step_fieldAddr_ro (off := 2) rfl (ev_mk rfl) Try.underlying32 rfl F.sz3 rfl rfl) trivial ?_
            first
              | (refine' rl0 (gn rfl) rfl rfl (step_load_one rfl (ev_mk rfl) F.one3 ?hv) ⟨?hb, trivial⟩ ?_; (case hb => repeat (first | exact upd_eq _ _ _ | refine (upd_ne _ _ _ _ (by omega)).trans ?_ | assumption | exact hd _ (by omega) | exact hd0 _ (by omega) | exact hd1 _ (by omega) | exact hd2 _ (by omega) | fail)); (case hv => exact rfl))
              | (refine rl0 (gn rfl) rfl rfl (step_load_ro rfl (ev_mk rfl) F.one3 rfl) trivial ?_)
            refine rl_gtr (gn rfl) rfl rfl rfl rfl rfl (fun h5 => ?_) (fun h5 => ?_)
            · skip
              rw [show (if f > 0 then f - 1 else f) = f - 1 from if_pos (by omega)]
              refine runsL_nil ?_
              refine runs_cond true (ev_mk rfl) (fun _ => ?_) (fun h_ => nomatch h_)
              refine runs_region ?_
              first | refine rl0 (gn rfl) rfl rfl (step_fieldAddr (off := 2) rfl (ev_mk rfl) Try.underlying32 rfl F.sz3 rfl) trivial ?_ | refine rl0 (gn rfl) rfl rfl (step_fieldAddr_ro (off := 2) rfl (ev_mk rfl) Try.underlying32 rfl F.sz3 rfl rfl) trivial ?_
              first
                | (refine' rl0 (gn rfl) rfl rfl (step_load_one rfl (ev_mk rfl) F.one3 ?hv) ⟨?hb, trivial⟩ ?_; (case hb => repeat (first | exact upd_eq _ _ _ | refine (upd_ne _ _ _ _ (by omega)).trans ?_ | assumption | exact hd _ (by omega) | exact hd0 _ (by omega) | exact hd1 _ (by omega) | exact hd2 _ (by omega) | fail)); (case hv => exact rfl))
                | (refine rl0 (gn rfl) rfl rfl (step_load_ro rfl (ev_mk rfl) F.one3 rfl) trivial ?_)
              refine rl0 (gn rfl) rfl rfl (step_sub rfl (ev_mk rfl) (ev_mk rfl) (w64 (by omega))) trivial ?_
              first | refine rl0 (gn rfl) rfl rfl (step_fieldAddr (off := 2) rfl (ev_mk rfl) Try.underlying32 rfl F.sz3 rfl) trivial ?_ | refine rl0 (gn rfl) rfl rfl (step_fieldAddr_ro (off := 2) rfl (ev_mk rfl) Try.underlying32 rfl F.sz3 rfl rfl) trivial ?_
              refine' rls (gn rfl) rfl (step_store1 rfl rfl rfl rfl F.one3 rfl rfl ?hl ?hc) ⟨?hb, trivial⟩ ?hk ?_
              case hb => repeat (first | exact upd_eq _ _ _ | refine (upd_ne _ _ _ _ (by omega)).trans ?_ | assumption | exact hd _ (by omega) | exact hd0 _ (by omega) | exact hd1 _ (by omega) | exact hd2 _ (by omega) | fail)
              case hl => first | decide | (simp; done) | (simp; omega) | (rw [List.length_map]; exact at_len64 (by assumption) (by omega) (by omega))
              case hc => first | (simp only [List.set_cons_succ, List.set_cons_zero]; rfl) | rfl
              case hk => omega
              refine runsL_nil ?_
              refine runs_seq ?_
              refine runs_region ?_
              first | refine rl0 (gn rfl) rfl rfl (step_fieldAddr (off := 1) rfl (ev_mk rfl) Try.underlying32 rfl F.sz3 rfl) trivial ?_ | refine rl0 (gn rfl) rfl rfl (step_fieldAddr_ro (off := 1) rfl (ev_mk rfl) Try.underlying32 rfl F.sz3 rfl rfl) trivial ?_
              first
                | (refine' rl0 (gn rfl) rfl rfl (step_load_one rfl (ev_mk rfl) F.one3 ?hv) ⟨?hb, trivial⟩ ?_; (case hb => repeat (first | exact upd_eq _ _ _ | refine (upd_ne _ _ _ _ (by omega)).trans ?_ | assumption | exact hd _ (by omega) | exact hd0 _ (by omega) | exact hd1 _ (by omega) | exact hd2 _ (by omega) | fail)); (case hv => exact rfl))
                | (refine rl0 (gn rfl) rfl rfl (step_load_ro rfl (ev_mk rfl) F.one3 rfl) trivial ?_)
              refine rl0 (gn rfl) rfl rfl (step_add rfl (ev_mk rfl) (ev_mk rfl) (w64 (by omega))) trivial ?_
              first | refine rl0 (gn rfl) rfl rfl (step_fieldAddr (off := 1) rfl (ev_mk rfl) Try.underlying32 rfl F.sz3 rfl) trivial ?_ | refine rl0 (gn rfl) rfl rfl (step_fieldAddr_ro (off := 1) rfl (ev_mk rfl) Try.underlying32 rfl F.sz3 rfl rfl) trivial ?_
              refine' rls (gn rfl) rfl (step_store1 rfl rfl rfl rfl F.one3 rfl rfl ?hl ?hc) ⟨?hb, trivial⟩ ?hk ?_
              case hb => repeat (first | exact upd_eq _ _ _ | refine (upd_ne _ _ _ _ (by omega)).trans ?_ | assumption | exact hd _ (by omega) | exact hd0 _ (by omega) | exact hd1 _ (by omega) | exact hd2 _ (by omega) | fail)
              case hl => first | decide | (simp; done) | (simp; omega) | (rw [List.length_map]; exact at_len64 (by assumption) (by omega) (by omega))
              case hc => first | (simp only [List.set_cons_succ, List.set_cons_zero]; rfl) | rfl
              case hk => omega
              refine runsL_nil ?_
              refine runs_seq ?_
              refine runs_region ?_
              first
                | (refine' rl0 (gn rfl) rfl rfl (step_load_all rfl rfl F.agg32 ?hl) ⟨?hb, trivial⟩ ?_; (case hb => repeat (first | exact upd_eq _ _ _ | refine (upd_ne _ _ _ _ (by omega)).trans ?_ | assumption | exact hd _ (by omega) | exact hd0 _ (by omega) | exact hd1 _ (by omega) | exact hd2 _ (by omega) | fail)); (case hl => first | rfl | (simp; done) | (rw [List.length_map]; exact at_len64 (by assumption) (by omega) (by omega))))
                | (refine rl0 (gn rfl) rfl rfl (step_load_ro_all rfl rfl F.agg32 (by first | rfl | (simp; done) | (rw [List.length_map]; exact at_len64 (by assumption) (by omega) (by omega)))) trivial ?_)
                | (refine' rl0 (gn rfl) rfl rfl (step_load_agg rfl (ev_mk rfl) F.agg32 ?hc ?hl) ⟨?hb, trivial⟩ ?_; (case hb => repeat (first | exact upd_eq _ _ _ | refine (upd_ne _ _ _ _ (by omega)).trans ?_ | assumption | exact hd _ (by omega) | exact hd0 _ (by omega) | exact hd1 _ (by omega) | exact hd2 _ (by omega) | fail)); (case hc => rfl); (case hl => first | rfl | (simp; done)))
                | (refine rl0 (gn rfl) rfl rfl (step_load_ro_agg rfl (ev_mk rfl) F.agg32 rfl rfl) trivial ?_)
              first
                | (refine' rls (gn rfl) rfl (step_storeA rfl rfl rfl rfl F.agg32 ?hm ?hl) ⟨?hb, trivial⟩ ?hk ?_; (case hb => repeat (first | exact upd_eq _ _ _ | refine (upd_ne _ _ _ _ (by omega)).trans ?_ | assumption | exact hd _ (by omega) | exact hd0 _ (by omega) | exact hd1 _ (by omega) | exact hd2 _ (by omega) | fail)); (case hm => first | rfl | (simp; done) | (rw [List.length_map]; exact at_len64 (by assumption) (by omega) (by omega))); (case hl => first | rfl | (simp; done) | (rw [List.length_map]; exact at_len64 (by assumption) (by omega) (by omega))); (case hk => omega))
                | (refine' rls (gn rfl) rfl (step_storeS rfl rfl rfl rfl F.agg32 ?hm ?hl ?hc) ⟨?hb, trivial⟩ ?hk ?_; (case hb => repeat (first | exact upd_eq _ _ _ | refine (upd_ne _ _ _ _ (by omega)).trans ?_ | assumption | exact hd _ (by omega) | exact hd0 _ (by omega) | exact hd1 _ (by omega) | exact hd2 _ (by omega) | fail)); (case hm => first | rfl | (simp; done) | (rw [List.length_map]; exact at_len64 (by assumption) (by omega) (by omega))); (case hl => first | decide | (simp; done) | (rw [List.length_map]; exact at_len64 (by assumption) (by omega) (by omega))); (case hc => rfl); (case hk => omega))
              refine rl0 (gn rfl) rfl rfl (step_as rfl rfl) trivial ?_
              refine runsL_nil ?_
              refine runs_ret ?_
              refine ⟨by first | exact .inr rfl | exact .inl rfl, fin_mk (resc rfl (by repeat (first | exact upd_eq _ _ _ | refine (upd_ne _ _ _ _ (by omega)).trans ?_ | assumption | exact hd _ (by omega) | exact hd0 _ (by omega) | exact hd1 _ (by omega) | exact hd2 _ (by omega) | fail)) F.agg32 (by first | rfl | (rw [List.length_map]; exact at_len64 (by assumption) (by omega) (by omega))) (rest rfl res0)) ?_ ?_ ?_ ?_⟩
              · (obtain rfl : j = S.length := by omega); exact VLe.tup (.cons (VLe.agg (.cons (VLe.own_sl _ _ _) (.cons (VLe.refl _) (.cons (VLe.refl _) (.cons (VLe.refl _) (.cons (VLe.refl _) .nil)))))) (.cons (VLe.refl _) .nil))
              · repeat (first | exact trivial | assumption | omega | exact bd_bs | exact bd_row | exact bd_secs | exact bd_bools | refine ⟨?_, ?_⟩ | fail)
              · intro k hk; exact ble (by first | exact rfl | (refine (upd_ne _ _ _ _ (by omega)).trans ?_; first | exact rfl | skip; repeat (first | exact rfl | refine (upd_ne _ _ _ _ (by omega)).trans ?_ | assumption | exact hf0 _ (by omega) | exact hf1 _ (by omega) | exact hf2 _ (by omega) | exact hf0 _ (by omega) (by first | assumption | omega) | exact hf1 _ (by omega) (by first | assumption | omega))) | exact hf0 _ (by omega) | exact hf1 _ (by omega) | exact hf2 _ (by omega) | exact hf0 _ (by omega) (by first | assumption | omega) | exact hf1 _ (by omega) (by first | assumption | omega))
              · intro p hp; cases hp
            · skip
              rw [show (if f > 0 then f - 1 else f) = f from if_neg (by omega)]
              refine runsL_nil ?_
              refine runs_cond false (ev_mk rfl) (fun h_ => nomatch h_) (fun _ => ?_)
              refine runs_skip ?_
              refine runs_seq ?_
              refine runs_region ?_
              first | refine rl0 (gn rfl) rfl rfl (step_fieldAddr (off := 1) rfl (ev_mk rfl) Try.underlying32 rfl F.sz3 rfl) trivial ?_ | refine rl0 (gn rfl) rfl rfl (step_fieldAddr_ro (off := 1) rfl (ev_mk rfl) Try.underlying32 rfl F.sz3 rfl rfl) trivial ?_
              first
                | (refine' rl0 (gn rfl) rfl rfl (step_load_one rfl (ev_mk rfl) F.one3 ?hv) ⟨?hb, trivial⟩ ?_; (case hb => repeat (first | exact upd_eq _ _ _ | refine (upd_ne _ _ _ _ (by omega)).trans ?_ | assumption | exact hd _ (by omega) | exact hd0 _ (by omega) | exact hd1 _ (by omega) | exact hd2 _ (by omega) | fail)); (case hv => exact rfl))
                | (refine rl0 (gn rfl) rfl rfl (step_load_ro rfl (ev_mk rfl) F.one3 rfl) trivial ?_)
              refine rl0 (gn rfl) rfl rfl (step_add rfl (ev_mk rfl) (ev_mk rfl) (w64 (by omega))) trivial ?_
              first | refine rl0 (gn rfl) rfl rfl (step_fieldAddr (off := 1) rfl (ev_mk rfl) Try.underlying32 rfl F.sz3 rfl) trivial ?_ | refine rl0 (gn rfl) rfl rfl (step_fieldAddr_ro (off := 1) rfl (ev_mk rfl) Try.underlying32 rfl F.sz3 rfl rfl) trivial ?_
              refine' rls (gn rfl) rfl (step_store1 rfl rfl rfl rfl F.one3 rfl rfl ?hl ?hc) ⟨?hb, trivial⟩ ?hk ?_
              case hb => repeat (first | exact upd_eq _ _ _ | refine (upd_ne _ _ _ _ (by omega)).trans ?_ | assumption | exact hd _ (by omega) | exact hd0 _ (by omega) | exact hd1 _ (by omega) | exact hd2 _ (by omega) | fail)
              case hl => first | decide | (simp; done) | (simp; omega) | (rw [List.length_map]; exact at_len64 (by assumption) (by omega) (by omega))
              case hc => first | (simp only [List.set_cons_succ, List.set_cons_zero]; rfl) | rfl
              case hk => omega
              refine runsL_nil ?_
              refine runs_seq ?_
              refine runs_region ?_
              first
                | (refine' rl0 (gn rfl) rfl rfl (step_load_all rfl rfl F.agg32 ?hl) ⟨?hb, trivial⟩ ?_; (case hb => repeat (first | exact upd_eq _ _ _ | refine (upd_ne _ _ _ _ (by omega)).trans ?_ | assumption | exact hd _ (by omega) | exact hd0 _ (by omega) | exact hd1 _ (by omega) | exact hd2 _ (by omega) | fail)); (case hl => first | rfl | (simp; done) | (rw [List.length_map]; exact at_len64 (by assumption) (by omega) (by omega))))
                | (refine rl0 (gn rfl) rfl rfl (step_load_ro_all rfl rfl F.agg32 (by first | rfl | (simp; done) | (rw [List.length_map]; exact at_len64 (by assumption) (by omega) (by omega)))) trivial ?_)
                | (refine' rl0 (gn rfl) rfl rfl (step_load_agg rfl (ev_mk rfl) F.agg32 ?hc ?hl) ⟨?hb, trivial⟩ ?_; (case hb => repeat (first | exact upd_eq _ _ _ | refine (upd_ne _ _ _ _ (by omega)).trans ?_ | assumption | exact hd _ (by omega) | exact hd0 _ (by omega) | exact hd1 _ (by omega) | exact hd2 _ (by omega) | fail)); (case hc => rfl); (case hl => first | rfl | (simp; done)))
                | (refine rl0 (gn rfl) rfl rfl (step_load_ro_agg rfl (ev_mk rfl) F.agg32 rfl rfl) trivial ?_)
              first
                | (refine' rls (gn rfl) rfl (step_storeA rfl rfl rfl rfl F.agg32 ?hm ?hl) ⟨?hb, trivial⟩ ?hk ?_; (case hb => repeat (first | exact upd_eq _ _ _ | refine (upd_ne _ _ _ _ (by omega)).trans ?_ | assumption | exact hd _ (by omega) | exact hd0 _ (by omega) | exact hd1 _ (by omega) | exact hd2 _ (by omega) | fail)); (case hm => first | rfl | (simp; done) | (rw [List.length_map]; exact at_len64 (by assumption) (by omega) (by omega))); (case hl => first | rfl | (simp; done) | (rw [List.length_map]; exact at_len64 (by assumption) (by omega) (by omega))); (case hk => omega))
                | (refine' rls (gn rfl) rfl (step_storeS rfl rfl rfl rfl F.agg32 ?hm ?hl ?hc) ⟨?hb, trivial⟩ ?hk ?_; (case hb => repeat (first | exact upd_eq _ _ _ | refine (upd_ne _ _ _ _ (by omega)).trans ?_ | assumption | exact hd _ (by omega) | exact hd0 _ (by omega) | exact hd1 _ (by omega) | exact hd2 _ (by omega) | fail)); (case hm => first | rfl | (simp; done) | (rw [List.length_map]; exact at_len64 (by assumption) (by omega) (by omega))); (case hl => first | decide | (simp; done) | (rw [List.length_map]; exact at_len64 (by assumption) (by omega) (by omega))); (case hc => rfl); (case hk => omega))
              refine rl0 (gn rfl) rfl rfl (step_as rfl rfl) trivial ?_
              refine runsL_nil ?_
              refine runs_ret ?_
              refine ⟨by first | exact .inr rfl | exact .inl rfl, fin_mk (resc rfl (by repeat (first | exact upd_eq _ _ _ | refine (upd_ne _ _ _ _ (by omega)).trans ?_ | assumption | exact hd _ (by omega) | exact hd0 _ (by omega) | exact hd1 _ (by omega) | exact hd2 _ (by omega) | fail)) F.agg32 (by first | rfl | (rw [List.length_map]; exact at_len64 (by assumption) (by omega) (by omega))) (rest rfl res0)) ?_ ?_ ?_ ?_⟩
              · (obtain rfl : j = S.length := by omega); exact VLe.tup (.cons (VLe.agg (.cons (VLe.own_sl _ _ _) (.cons (VLe.refl _) (.cons (VLe.refl _) (.cons (VLe.refl _) (.cons (VLe.refl _) .nil)))))) (.cons (VLe.refl _) .nil))
              · repeat (first | exact trivial | assumption | omega | exact bd_bs | exact bd_row | exact bd_secs | exact bd_bools | refine ⟨?_, ?_⟩ | fail)
              · intro k hk; exact ble (by first | exact rfl | (refine (upd_ne _ _ _ _ (by omega)).trans ?_; first | exact rfl | skip; repeat (first | exact rfl | refine (upd_ne _ _ _ _ (by omega)).trans ?_ | assumption | exact hf0 _ (by omega) | exact hf1 _ (by omega) | exact hf2 _ (by omega) | exact hf0 _ (by omega) (by first | assumption | omega) | exact hf1 _ (by omega) (by first | assumption | omega))) | exact hf0 _ (by omega) | exact hf1 _ (by omega) | exact hf2 _ (by omega) | exact hf0 _ (by omega) (by first | assumption | omega) | exact hf1 _ (by omega) (by first | assumption | omega))
              · intro p hp; cases hp
set_option maxRecDepth 100000 in
set_option maxHeartbeats 4000000 in
theorem rread_out (S : List (List Int)) (w f : Int) (kp : List Bool) (dn : Bool) (hL : S.length ≤ 100000) (x m : Int) (hx : -9223372036854775808 ≤ x ∧ x ≤ 9223372036854775807) (hm : -9223372036854775808 ≤ m ∧ m ≤ 9223372036854775807) (hi : insideB S.length x m = false) : Does Try.prog 24 [.agg [.sl 64 (secsV (S)), .sc (.int .i64 (w)), .sc (.int .i64 (f)), .sl 1 (boolsV (kp)), .sc (.bool (dn))], .sc (.int .i64 x), .sc (.int .i64 m)] [] [] (.tup [.sl 64 [], .sc (.int .i64 2)]) := by
  refine does_mk 20 Try.func24 rfl rfl rfl (fun n B bx hd hpre hup hvs hbx => ?_)
  refine runs_seq ?_
  refine runs_region ?_
  first | refine rl1 (gn rfl) rfl rfl (step_box_agg (k := n + 0) rfl rfl) ⟨by repeat (first | exact upd_eq _ _ _ | refine (upd_ne _ _ _ _ (by omega)).trans ?_ | assumption | exact hd _ (by omega) | exact hd0 _ (by omega) | exact hd1 _ (by omega) | exact hd2 _ (by omega) | fail), trivial⟩ (by omega) ?_ | refine rl1 (gn rfl) rfl rfl (step_box_one (k := n + 0) rfl rfl rfl rfl) ⟨by repeat (first | exact upd_eq _ _ _ | refine (upd_ne _ _ _ _ (by omega)).trans ?_ | assumption | exact hd _ (by omega) | exact hd0 _ (by omega) | exact hd1 _ (by omega) | exact hd2 _ (by omega) | fail), trivial⟩ (by omega) ?_
  refine rl0 (gn rfl) rfl rfl (step_as rfl rfl) trivial ?_
  refine rl0 (gn rfl) rfl rfl (step_as rfl rfl) trivial ?_
  refine runsL_nil ?_
  refine runs_seq ?_
  refine runs_seq ?_
  refine runs_region ?_
  first
    | (refine' rl0 (gn rfl) rfl rfl (step_load_all rfl rfl F.agg32 ?hl) ⟨?hb, trivial⟩ ?_; (case hb => repeat (first | exact upd_eq _ _ _ | refine (upd_ne _ _ _ _ (by omega)).trans ?_ | assumption | exact hd _ (by omega) | exact hd0 _ (by omega) | exact hd1 _ (by omega) | exact hd2 _ (by omega) | fail)); (case hl => first | rfl | (simp; done) | (simp; omega)))
    | (refine rl0 (gn rfl) rfl rfl (step_load_ro_all rfl rfl F.agg32 (by first | rfl | (simp; done) | (simp; omega))) trivial ?_)
    | (refine' rl0 (gn rfl) rfl rfl (step_load_agg rfl (ev_mk rfl) F.agg32 ?hc ?hl) ⟨?hb, trivial⟩ ?_; (case hb => repeat (first | exact upd_eq _ _ _ | refine (upd_ne _ _ _ _ (by omega)).trans ?_ | assumption | exact hd _ (by omega) | exact hd0 _ (by omega) | exact hd1 _ (by omega) | exact hd2 _ (by omega) | fail)); (case hc => rfl); (case hl => first | rfl | (simp; done)))
    | (refine rl0 (gn rfl) rfl rfl (step_load_ro_agg rfl (ev_mk rfl) F.agg32 rfl rfl) trivial ?_)
  refine rl0 (gn rfl) rfl rfl (step_mv rfl rfl) trivial ?_
  refine rl0 (gn rfl) rfl rfl (step_mv rfl rfl) trivial ?_
  refine rl0 (gn rfl) rfl rfl (step_callc rfl Try.func28 rfl rfl rfl (rinside_q S w f kp dn (by omega) x m hx hm _ hi) (by repeat (first | exact .nil | refine .cons ?_ ?_ | exact VLe.refl _ | exact VLe.own_sl _ _ _ | exact VLe.fl_sl _ _ | exact VLe.nil_sl _ | exact VLe.nil_fl _ | refine VLe.agg ?_))) trivial ?_
  refine rl0 (gn rfl) rfl rfl (step_unOp rfl (ev_mk rfl) (fun _ => rfl)) trivial ?_
  refine runsL_nil ?_
  refine runs_cond _ (ev_mk rfl) (fun h1 => ?_) (fun h1 => ?_)
  · skip
    refine runs_seq ?_
    refine runs_region ?_
    refine rl0 (gn rfl) rfl rfl (step_as rfl rfl) trivial ?_
    refine rl0 (gn rfl) rfl rfl (step_as rfl rfl) trivial ?_
    refine runsL_nil ?_
    refine runs_ret ?_
    refine ⟨by first | exact .inr rfl | exact .inl rfl, fin_mk (rest rfl (rest rfl res0)) ?_ ?_ ?_ ?_⟩
    · exact VLe.tup (.cons (VLe.nil_sl _) (.cons (VLe.refl _) .nil))
    · repeat (first | exact trivial | assumption | omega | exact bd_bs | exact bd_row | exact bd_secs | exact bd_bools | refine ⟨?_, ?_⟩ | fail)
    · intro k hk; exact ble (by first | exact rfl | (refine (upd_ne _ _ _ _ (by omega)).trans ?_; first | exact rfl | skip; repeat (first | exact rfl | refine (upd_ne _ _ _ _ (by omega)).trans ?_ | assumption | exact hf0 _ (by omega) | exact hf1 _ (by omega) | exact hf2 _ (by omega) | exact hf0 _ (by omega) (by first | assumption | omega) | exact hf1 _ (by omega) (by first | assumption | omega))) | exact hf0 _ (by omega) | exact hf1 _ (by omega) | exact hf2 _ (by omega) | exact hf0 _ (by omega) (by first | assumption | omega) | exact hf1 _ (by omega) (by first | assumption | omega))
    · intro p hp; cases hp
  · skip
    exact absurd ‹_› (by simp)
set_option maxRecDepth 100000 in
set_option maxHeartbeats 4000000 in
theorem rread_down (S : List (List Int)) (w f : Int) (kp : List Bool) (dn : Bool) (hL : S.length ≤ 100000) (x m : Int) (hx : -9223372036854775808 ≤ x ∧ x ≤ 9223372036854775807) (hm : -9223372036854775808 ≤ m ∧ m ≤ 9223372036854775807) (hi : insideB S.length x m = true) (hdn : dn = true) : Does Try.prog 24 [.agg [.sl 64 (secsV (S)), .sc (.int .i64 (w)), .sc (.int .i64 (f)), .sl 1 (boolsV (kp)), .sc (.bool (dn))], .sc (.int .i64 x), .sc (.int .i64 m)] [] [] (.tup [.sl 64 [], .sc (.int .i64 4)]) := by
  refine does_mk 20 Try.func24 rfl rfl rfl (fun n B bx hd hpre hup hvs hbx => ?_)
  refine runs_seq ?_
  refine runs_region ?_
  first | refine rl1 (gn rfl) rfl rfl (step_box_agg (k := n + 0) rfl rfl) ⟨by repeat (first | exact upd_eq _ _ _ | refine (upd_ne _ _ _ _ (by omega)).trans ?_ | assumption | exact hd _ (by omega) | exact hd0 _ (by omega) | exact hd1 _ (by omega) | exact hd2 _ (by omega) | fail), trivial⟩ (by omega) ?_ | refine rl1 (gn rfl) rfl rfl (step_box_one (k := n + 0) rfl rfl rfl rfl) ⟨by repeat (first | exact upd_eq _ _ _ | refine (upd_ne _ _ _ _ (by omega)).trans ?_ | assumption | exact hd _ (by omega) | exact hd0 _ (by omega) | exact hd1 _ (by omega) | exact hd2 _ (by omega) | fail), trivial⟩ (by omega) ?_
  refine rl0 (gn rfl) rfl rfl (step_as rfl rfl) trivial ?_
  refine rl0 (gn rfl) rfl rfl (step_as rfl rfl) trivial ?_
  refine runsL_nil ?_
  refine runs_seq ?_
  refine runs_seq ?_
  refine runs_region ?_
  first
    | (refine' rl0 (gn rfl) rfl rfl (step_load_all rfl rfl F.agg32 ?hl) ⟨?hb, trivial⟩ ?_; (case hb => repeat (first | exact upd_eq _ _ _ | refine (upd_ne _ _ _ _ (by omega)).trans ?_ | assumption | exact hd _ (by omega) | exact hd0 _ (by omega) | exact hd1 _ (by omega) | exact hd2 _ (by omega) | fail)); (case hl => first | rfl | (simp; done) | (simp; omega)))
    | (refine rl0 (gn rfl) rfl rfl (step_load_ro_all rfl rfl F.agg32 (by first | rfl | (simp; done) | (simp; omega))) trivial ?_)
    | (refine' rl0 (gn rfl) rfl rfl (step_load_agg rfl (ev_mk rfl) F.agg32 ?hc ?hl) ⟨?hb, trivial⟩ ?_; (case hb => repeat (first | exact upd_eq _ _ _ | refine (upd_ne _ _ _ _ (by omega)).trans ?_ | assumption | exact hd _ (by omega) | exact hd0 _ (by omega) | exact hd1 _ (by omega) | exact hd2 _ (by omega) | fail)); (case hc => rfl); (case hl => first | rfl | (simp; done)))
    | (refine rl0 (gn rfl) rfl rfl (step_load_ro_agg rfl (ev_mk rfl) F.agg32 rfl rfl) trivial ?_)
  refine rl0 (gn rfl) rfl rfl (step_mv rfl rfl) trivial ?_
  refine rl0 (gn rfl) rfl rfl (step_mv rfl rfl) trivial ?_
  refine rl0 (gn rfl) rfl rfl (step_callc rfl Try.func28 rfl rfl rfl (rinside_q S w f kp dn (by omega) x m hx hm _ hi) (by repeat (first | exact .nil | refine .cons ?_ ?_ | exact VLe.refl _ | exact VLe.own_sl _ _ _ | exact VLe.fl_sl _ _ | exact VLe.nil_sl _ | exact VLe.nil_fl _ | refine VLe.agg ?_))) trivial ?_
  refine rl0 (gn rfl) rfl rfl (step_unOp rfl (ev_mk rfl) (fun _ => rfl)) trivial ?_
  refine runsL_nil ?_
  refine runs_cond _ (ev_mk rfl) (fun h1 => ?_) (fun h1 => ?_)
  · skip
    exact absurd ‹_› (by simp)
  · skip
    refine runs_skip ?_
    refine runs_seq ?_
    refine runs_seq ?_
    refine runs_region ?_
    first | refine rl0 (gn rfl) rfl rfl (step_fieldAddr (off := 4) rfl (ev_mk rfl) Try.underlying32 rfl F.sz4 rfl) trivial ?_ | refine rl0 (gn rfl) rfl rfl (step_fieldAddr_ro (off := 4) rfl (ev_mk rfl) Try.underlying32 rfl F.sz4 rfl rfl) trivial ?_
    first
      | (refine' rl0 (gn rfl) rfl rfl (step_load_one rfl (ev_mk rfl) F.one4 ?hv) ⟨?hb, trivial⟩ ?_; (case hb => repeat (first | exact upd_eq _ _ _ | refine (upd_ne _ _ _ _ (by omega)).trans ?_ | assumption | exact hd _ (by omega) | exact hd0 _ (by omega) | exact hd1 _ (by omega) | exact hd2 _ (by omega) | fail)); (case hv => exact rfl))
      | (refine rl0 (gn rfl) rfl rfl (step_load_ro rfl (ev_mk rfl) F.one4 rfl) trivial ?_)
    refine runsL_nil ?_
    refine runs_cond _ (ev_mk rfl) (fun h2 => ?_) (fun h2 => ?_)
    · skip
      refine runs_seq ?_
      refine runs_region ?_
      refine rl0 (gn rfl) rfl rfl (step_as rfl rfl) trivial ?_
      refine rl0 (gn rfl) rfl rfl (step_as rfl rfl) trivial ?_
      refine runsL_nil ?_
      refine runs_ret ?_
      refine ⟨by first | exact .inr rfl | exact .inl rfl, fin_mk (rest rfl (rest rfl res0)) ?_ ?_ ?_ ?_⟩
      · exact VLe.tup (.cons (VLe.nil_sl _) (.cons (VLe.refl _) .nil))
      · repeat (first | exact trivial | assumption | omega | exact bd_bs | exact bd_row | exact bd_secs | exact bd_bools | refine ⟨?_, ?_⟩ | fail)
      · intro k hk; exact ble (by first | exact rfl | (refine (upd_ne _ _ _ _ (by omega)).trans ?_; first | exact rfl | skip; repeat (first | exact rfl | refine (upd_ne _ _ _ _ (by omega)).trans ?_ | assumption | exact hf0 _ (by omega) | exact hf1 _ (by omega) | exact hf2 _ (by omega) | exact hf0 _ (by omega) (by first | assumption | omega) | exact hf1 _ (by omega) (by first | assumption | omega))) | exact hf0 _ (by omega) | exact hf1 _ (by omega) | exact hf2 _ (by omega) | exact hf0 _ (by omega) (by first | assumption | omega) | exact hf1 _ (by omega) (by first | assumption | omega))
      · intro p hp; cases hp
    · skip
      exact absurd ‹_› (by simp [hdn])
set_option maxRecDepth 100000 in
set_option maxHeartbeats 4000000 in
theorem rread_ok (S : List (List Int)) (w f : Int) (kp : List Bool) (dn : Bool) (hL : S.length ≤ 100000) (x m : Int) (hx : -9223372036854775808 ≤ x ∧ x ≤ 9223372036854775807) (hm : -9223372036854775808 ≤ m ∧ m ≤ 9223372036854775807) (hi : insideB S.length x m = true) (hdn : dn = false) : Does Try.prog 24 [.agg [.sl 64 (secsV (S)), .sc (.int .i64 (w)), .sc (.int .i64 (f)), .sl 1 (boolsV (kp)), .sc (.bool (dn))], .sc (.int .i64 x), .sc (.int .i64 m)] [] [] (.tup [.sl 64 (secsV (takeN S x.toNat m.toNat)), .sc (.int .i64 0)]) := by
  refine does_mk 20 Try.func24 rfl rfl rfl (fun n B bx hd hpre hup hvs hbx => ?_)
  have hii := of_decide_eq_true hi
  refine runs_seq ?_
  refine runs_region ?_
  first | refine rl1 (gn rfl) rfl rfl (step_box_agg (k := n + 0) rfl rfl) ⟨by repeat (first | exact upd_eq _ _ _ | refine (upd_ne _ _ _ _ (by omega)).trans ?_ | assumption | exact hd _ (by omega) | exact hd0 _ (by omega) | exact hd1 _ (by omega) | exact hd2 _ (by omega) | fail), trivial⟩ (by omega) ?_ | refine rl1 (gn rfl) rfl rfl (step_box_one (k := n + 0) rfl rfl rfl rfl) ⟨by repeat (first | exact upd_eq _ _ _ | refine (upd_ne _ _ _ _ (by omega)).trans ?_ | assumption | exact hd _ (by omega) | exact hd0 _ (by omega) | exact hd1 _ (by omega) | exact hd2 _ (by omega) | fail), trivial⟩ (by omega) ?_
  refine rl0 (gn rfl) rfl rfl (step_as rfl rfl) trivial ?_
  refine rl0 (gn rfl) rfl rfl (step_as rfl rfl) trivial ?_
  refine runsL_nil ?_
  refine runs_seq ?_
  refine runs_seq ?_
  refine runs_region ?_
  first
    | (refine' rl0 (gn rfl) rfl rfl (step_load_all rfl rfl F.agg32 ?hl) ⟨?hb, trivial⟩ ?_; (case hb => repeat (first | exact upd_eq _ _ _ | refine (upd_ne _ _ _ _ (by omega)).trans ?_ | assumption | exact hd _ (by omega) | exact hd0 _ (by omega) | exact hd1 _ (by omega) | exact hd2 _ (by omega) | fail)); (case hl => first | rfl | (simp; done) | (simp; omega)))
    | (refine rl0 (gn rfl) rfl rfl (step_load_ro_all rfl rfl F.agg32 (by first | rfl | (simp; done) | (simp; omega))) trivial ?_)
    | (refine' rl0 (gn rfl) rfl rfl (step_load_agg rfl (ev_mk rfl) F.agg32 ?hc ?hl) ⟨?hb, trivial⟩ ?_; (case hb => repeat (first | exact upd_eq _ _ _ | refine (upd_ne _ _ _ _ (by omega)).trans ?_ | assumption | exact hd _ (by omega) | exact hd0 _ (by omega) | exact hd1 _ (by omega) | exact hd2 _ (by omega) | fail)); (case hc => rfl); (case hl => first | rfl | (simp; done)))
    | (refine rl0 (gn rfl) rfl rfl (step_load_ro_agg rfl (ev_mk rfl) F.agg32 rfl rfl) trivial ?_)
  refine rl0 (gn rfl) rfl rfl (step_mv rfl rfl) trivial ?_
  refine rl0 (gn rfl) rfl rfl (step_mv rfl rfl) trivial ?_
  refine rl0 (gn rfl) rfl rfl (step_callc rfl Try.func28 rfl rfl rfl (rinside_q S w f kp dn (by omega) x m hx hm _ hi) (by repeat (first | exact .nil | refine .cons ?_ ?_ | exact VLe.refl _ | exact VLe.own_sl _ _ _ | exact VLe.fl_sl _ _ | exact VLe.nil_sl _ | exact VLe.nil_fl _ | refine VLe.agg ?_))) trivial ?_
  refine rl0 (gn rfl) rfl rfl (step_unOp rfl (ev_mk rfl) (fun _ => rfl)) trivial ?_
  refine runsL_nil ?_
  refine runs_cond _ (ev_mk rfl) (fun h1 => ?_) (fun h1 => ?_)
  · skip
    exact absurd ‹_› (by simp)
  · skip
    refine runs_skip ?_
    refine runs_seq ?_
    refine runs_seq ?_
    refine runs_region ?_
    first | refine rl0 (gn rfl) rfl rfl (step_fieldAddr (off := 4) rfl (ev_mk rfl) Try.underlying32 rfl F.sz4 rfl) trivial ?_ | refine rl0 (gn rfl) rfl rfl (step_fieldAddr_ro (off := 4) rfl (ev_mk rfl) Try.underlying32 rfl F.sz4 rfl rfl) trivial ?_
    first
      | (refine' rl0 (gn rfl) rfl rfl (step_load_one rfl (ev_mk rfl) F.one4 ?hv) ⟨?hb, trivial⟩ ?_; (case hb => repeat (first | exact upd_eq _ _ _ | refine (upd_ne _ _ _ _ (by omega)).trans ?_ | assumption | exact hd _ (by omega) | exact hd0 _ (by omega) | exact hd1 _ (by omega) | exact hd2 _ (by omega) | fail)); (case hv => exact rfl))
      | (refine rl0 (gn rfl) rfl rfl (step_load_ro rfl (ev_mk rfl) F.one4 rfl) trivial ?_)
    refine runsL_nil ?_
    refine runs_cond _ (ev_mk rfl) (fun h2 => ?_) (fun h2 => ?_)
    · skip
      exact absurd ‹_› (by simp [hdn])
    · skip
      refine runs_skip ?_
      refine runs_seq ?_
      refine runs_region ?_
      first | refine rl0 (gn rfl) rfl rfl (step_fieldAddr (off := 0) rfl (ev_mk rfl) Try.underlying32 rfl F.sz29 rfl) trivial ?_ | refine rl0 (gn rfl) rfl rfl (step_fieldAddr_ro (off := 0) rfl (ev_mk rfl) Try.underlying32 rfl F.sz29 rfl rfl) trivial ?_
      first
        | (refine' rl0 (gn rfl) rfl rfl (step_load_one rfl (ev_mk rfl) F.one29 ?hv) ⟨?hb, trivial⟩ ?_; (case hb => repeat (first | exact upd_eq _ _ _ | refine (upd_ne _ _ _ _ (by omega)).trans ?_ | assumption | exact hd _ (by omega) | exact hd0 _ (by omega) | exact hd1 _ (by omega) | exact hd2 _ (by omega) | fail)); (case hv => exact rfl))
        | (refine rl0 (gn rfl) rfl rfl (step_load_ro rfl (ev_mk rfl) F.one29 rfl) trivial ?_)
      refine rl0 (gn rfl) rfl rfl (step_mv rfl rfl) trivial ?_
      refine rl0 (gn rfl) rfl rfl (step_mv rfl rfl) trivial ?_
      refine rl0 (gn rfl) rfl rfl (step_mv rfl rfl) trivial ?_
      refine rl0 (gn rfl) rfl rfl (step_add rfl (ev_mk rfl) (ev_mk rfl) (w64 (by omega))) trivial ?_
      refine rl0 (gn rfl) rfl rfl (step_slice rfl (ev_mk rfl) (.inl rfl) Try.underlying29 F.sz48 (bndLo_some rfl (by omega)) (bndHi_some rfl (by omega)) (by omega) (by simp [secsV]; omega) (sec_cut S x m (by omega) (by omega))) trivial ?_
      refine rl0 (gn rfl) rfl rfl (step_as rfl rfl) trivial ?_
      refine rl0 (gn rfl) rfl rfl (step_as rfl rfl) trivial ?_
      refine runsL_nil ?_
      refine runs_ret ?_
      refine ⟨by first | exact .inr rfl | exact .inl rfl, fin_mk (rest rfl (rest rfl res0)) ?_ ?_ ?_ ?_⟩
      · first | exact VLe.refl _ | exact VLe.own_sl _ _ _ | exact VLe.fl_sl _ _
      · repeat (first | exact trivial | assumption | omega | exact bd_bs | exact bd_row | exact bd_secs | exact bd_bools | refine ⟨?_, ?_⟩ | fail)
      · intro k hk; exact ble (by first | exact rfl | (refine (upd_ne _ _ _ _ (by omega)).trans ?_; first | exact rfl | skip; repeat (first | exact rfl | refine (upd_ne _ _ _ _ (by omega)).trans ?_ | assumption | exact hf0 _ (by omega) | exact hf1 _ (by omega) | exact hf2 _ (by omega) | exact hf0 _ (by omega) (by first | assumption | omega) | exact hf1 _ (by omega) (by first | assumption | omega))) | exact hf0 _ (by omega) | exact hf1 _ (by omega) | exact hf2 _ (by omega) | exact hf0 _ (by omega) (by first | assumption | omega) | exact hf1 _ (by omega) (by first | assumption | omega))
      · intro p hp; cases hp
end Go.Proofs.Ytllpipiidjfhbaa
