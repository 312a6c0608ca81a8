/- Walks of the leaf, by the logic of values. -/
import Derived.Test.YtdcmcmgbnkolbaaVg
import Derived.Test.YtdcmcmgbnkolbaaVmK
namespace Go.Proofs.Ytdcmcmgbnkolbaa
open Go.Vm
set_option linter.unusedVariables false
set_option linter.unusedSimpArgs false
theorem flat_get : ∀ (L : List (List Int)), (∀ r ∈ L, r.length = 56) → ∀ i, i < L.length * 56 → L.flatten[i]? = some (at' (at' L ((i / 56 : Nat) : Int)) ((i % 56 : Nat) : Int))
  | [], _, i, hi => by simp at hi
  | r :: L, h, i, hi => by
    have hr := h r (List.mem_cons_self ..)
    rw [List.flatten_cons]
    by_cases h1 : i < 56
    · rw [List.getElem?_append_left (by omega), show i / 56 = 0 by omega, show i % 56 = i by omega, show at' (r :: L) ((0 : Nat) : Int) = r from rfl, at_nat _ _ (by omega), List.getElem?_eq_getElem (by omega)]
    · rw [List.getElem?_append_right (by omega), hr, flat_get L (fun q hq => h q (List.mem_cons_of_mem _ hq)) (i - 56) (by simp only [List.length_cons] at hi; omega)]
      have e1 : i / 56 = (i - 56) / 56 + 1 := by omega
      have e2 : i % 56 = (i - 56) % 56 := by omega
      rw [e1, e2]
      rfl
def gQ (l : List (List Int)) (j : Nat) : List Int := ((List.range j).map fun i : Nat => at' (at' l ((i : Int) / 56)) ((i : Int) % 56)) ++ List.replicate (224 - j) 0
theorem gQ_len (l : List (List Int)) {j : Nat} (h : j ≤ 224) : (gQ l j).length = 224 := by unfold gQ; rw [List.length_append, List.length_map, List.length_range, List.length_replicate]; omega
theorem gQ_set (l : List (List Int)) {j : Nat} (h : j < 224) : ((gQ l j).map bV).set (0 + (j : Int).toNat * 1) (bV (at' (at' l ((j : Int) / 56)) ((j : Int) % 56))) = (gQ l (j + 1)).map bV := by
  rw [show 0 + (j : Int).toNat * 1 = j by omega, ← List.map_set]
  unfold gQ
  rw [List.set_append_right _ _ (by rw [List.length_map, List.length_range]; omega), List.length_map, List.length_range, Nat.sub_self, show List.replicate (224 - j) (0 : Int) = 0 :: List.replicate (224 - (j + 1)) 0 by rw [show 224 - j = (224 - (j + 1)) + 1 by omega]; rfl, List.set_cons_zero, List.range_succ]
  simp only [List.map_append, List.append_assoc, List.map_cons, List.map_nil]
  rfl
theorem gQ_all {l : List (List Int)} (hl : ∀ r ∈ l, r.length = 64) (h4 : l.length = 4) : gQ l 224 = pgO l 4 := by
  apply List.ext_getElem?
  intro i
  have hp := pgO_len hl 4 (by omega) h4
  have hg := gQ_len l (j := 224) (by omega)
  by_cases hi : i < 224
  · have e1 : pgO l 4 = (l.map (·.take 56)).flatten := by
      unfold pgO; rw [List.take_of_length_le (by omega)]; simp
    have hrow : ∀ r ∈ l.map (·.take 56), r.length = 56 := by
      intro r hr; simp only [List.mem_map] at hr; obtain ⟨q, hq, rfl⟩ := hr; simp [hl q hq]
    rw [e1, flat_get _ hrow i (by rw [List.length_map]; omega)]
    have h5 : i / 56 < l.length := by omega
    rw [at_nat (l.map (·.take 56)) _ (by rw [List.length_map]; exact h5), List.getElem_map, at_nat _ (i % 56) (by rw [List.length_take, hl _ (List.getElem_mem h5)]; omega)]
    unfold gQ
    rw [List.getElem?_append_left (by rw [List.length_map, List.length_range]; exact hi), List.getElem?_map, List.getElem?_range hi, Option.map_some, show ((i : Int) / 56) = ((i / 56 : Nat) : Int) by omega, show ((i : Int) % 56) = ((i % 56 : Nat) : Int) by omega, at_nat _ _ h5, at_nat _ _ (by rw [hl _ (List.getElem_mem h5)]; omega), List.getElem_take]
  · rw [List.getElem?_eq_none (by omega), List.getElem?_eq_none (by omega)]
theorem at_int {l : List (List Int)} {i : Int} (h0 : 0 ≤ i) (h : i < l.length) : at' l i ∈ l := by
  obtain ⟨j, rfl⟩ : ∃ j : Nat, i = j := ⟨i.toNat, by omega⟩
  exact at_memS (by omega)
set_option maxRecDepth 100000 in
set_option maxHeartbeats 4000000 in
theorem rg_len (l : List (List Int)) (hl : ∀ r ∈ l, r.length = 64) (hb : ∀ r ∈ l, bytes r) (hL : (l.length : Int) ≤ 9223372036854775807) (h4 : ¬ l.length = 4) : Does Try.prog 9 [.sl 64 (secsV l)] [] [] (.tup [.agg (List.replicate 224 (bV 0)), .sc (.int .u64 0), .sc (.bool false)]) := by
  refine does_mk 20 Try.func9 rfl rfl rfl (fun n B bx hd hpre hup hvs hbx => ?_)
  refine runs_seq ?_
  refine runs_region ?_
  refine rl1 (gn rfl) rfl rfl (step_allocc (k := n + 0) (zs := (List.replicate 224 (.int .u8 0))) (cs := List.replicate 224 (.sc (.int .u8 0))) rfl F.zero22 (by first | rfl | simp) (by first | rfl | decide | simp) (by first | rfl | simp)) ⟨by repeat (first | exact upd_eq _ _ _ | refine (upd_ne _ _ _ _ (by omega)).trans ?_ | assumption | exact hd _ (by omega) | exact hd0 _ (by omega) | exact hd1 _ (by omega) | exact hd2 _ (by omega) | fail), trivial⟩ (by omega) ?_
  refine rl0 (gn rfl) rfl rfl (step_as rfl rfl) trivial ?_
  refine rl0 (gn rfl) rfl rfl (step_as rfl rfl) trivial ?_
  refine runsL_nil ?_
  refine runs_seq ?_
  refine runs_region ?_
  refine rl1 (gn rfl) rfl rfl (step_allocc (k := n + 1) (zs := (List.replicate 224 (.int .u8 0))) (cs := List.replicate 224 (.sc (.int .u8 0))) rfl F.zero22 (by first | rfl | simp) (by first | rfl | decide | simp) (by first | rfl | simp)) ⟨by repeat (first | exact upd_eq _ _ _ | refine (upd_ne _ _ _ _ (by omega)).trans ?_ | assumption | exact hd _ (by omega) | exact hd0 _ (by omega) | exact hd1 _ (by omega) | exact hd2 _ (by omega) | fail), trivial⟩ (by omega) ?_
  refine runsL_nil ?_
  refine runs_seq ?_
  refine runs_seq ?_
  refine runs_region ?_
  refine rl0 (gn rfl) rfl rfl (step_mv rfl rfl) trivial ?_
  first
    | refine rl0 (gn rfl) rfl rfl (step_len rfl rfl (ev_mk rfl) (.inl ⟨⟨_, Try.underlying24⟩, .inl ⟨_, _, .inl rfl, List.length_map _⟩⟩)) trivial ?_
    | refine rl0 (gn rfl) rfl rfl (step_len rfl rfl (ev_mk rfl) (.inl ⟨⟨_, Try.underlying24⟩, .inl ⟨_, _, .inl rfl, rfl⟩⟩)) trivial ?_
    | refine rl0 (gn rfl) rfl rfl (step_len rfl rfl (ev_mk rfl) (.inl ⟨⟨_, Try.underlying24⟩, .inl ⟨_, _, .inr (.inl rfl), List.length_map _⟩⟩)) trivial ?_
    | refine rl0 (gn rfl) rfl rfl (step_len rfl rfl (ev_mk rfl) (.inl ⟨⟨_, Try.underlying24⟩, .inl ⟨_, _, .inr (.inl rfl), rfl⟩⟩)) trivial ?_
    | refine rl0 (gn rfl) rfl rfl (step_len rfl rfl (ev_mk rfl) (.inl ⟨⟨_, Try.underlying24⟩, .inl ⟨_, _, .inr (.inr ⟨_, rfl⟩), List.length_map _⟩⟩)) trivial ?_
    | refine rl0 (gn rfl) rfl rfl (step_len rfl rfl (ev_mk rfl) (.inl ⟨⟨_, Try.underlying24⟩, .inl ⟨_, _, .inr (.inr ⟨_, rfl⟩), rfl⟩⟩)) trivial ?_
    | refine rl0 (gn rfl) rfl rfl (step_len rfl rfl (ev_mk rfl) (.inl ⟨⟨_, Try.underlying24⟩, .inr (.inl ⟨_, _, _, _, rfl⟩)⟩)) trivial ?_
    | refine rl0 (gn rfl) rfl rfl (step_len (m := 0) rfl rfl (ev_mk rfl) (.inl ⟨⟨_, Try.underlying24⟩, .inr (.inr ⟨_, _, rfl⟩)⟩)) trivial ?_
  refine rl_neq (gn rfl) rfl rfl rfl rfl rfl (fun h1 => ?_) (fun h1 => ?_)
  · skip
    refine runsL_nil ?_
    refine runs_cond true (ev_mk rfl) (fun _ => ?_) (fun h_ => nomatch h_)
    refine runs_seq ?_
    refine runs_region ?_
    first
      | (refine' rl0 (gn rfl) rfl rfl (step_load_all rfl rfl F.agg22 ?hl) ⟨?hb, trivial⟩ ?_; (case hb => repeat (first | exact upd_eq _ _ _ | refine (upd_ne _ _ _ _ (by omega)).trans ?_ | assumption | exact hd _ (by omega) | exact hd0 _ (by omega) | exact hd1 _ (by omega) | exact hd2 _ (by omega) | fail)); (case hl => first | rfl | (simp; done) | (simp; omega)))
      | (refine rl0 (gn rfl) rfl rfl (step_load_ro_all rfl rfl F.agg22 (by first | rfl | (simp; done) | (simp; omega))) trivial ?_)
      | (refine' rl0 (gn rfl) rfl rfl (step_load_agg rfl (ev_mk rfl) F.agg22 ?hc ?hl) ⟨?hb, trivial⟩ ?_; (case hb => repeat (first | exact upd_eq _ _ _ | refine (upd_ne _ _ _ _ (by omega)).trans ?_ | assumption | exact hd _ (by omega) | exact hd0 _ (by omega) | exact hd1 _ (by omega) | exact hd2 _ (by omega) | fail)); (case hc => rfl); (case hl => first | rfl | (simp; done)))
      | (refine rl0 (gn rfl) rfl rfl (step_load_ro_agg rfl (ev_mk rfl) F.agg22 rfl rfl) trivial ?_)
    first
      | (refine' rls (gn rfl) rfl (step_storeA rfl rfl rfl rfl F.agg22 ?hm ?hl) ⟨?hb, trivial⟩ ?hk ?_; (case hb => repeat (first | exact upd_eq _ _ _ | refine (upd_ne _ _ _ _ (by omega)).trans ?_ | assumption | exact hd _ (by omega) | exact hd0 _ (by omega) | exact hd1 _ (by omega) | exact hd2 _ (by omega) | fail)); (case hm => first | rfl | (simp; done) | (simp; omega)); (case hl => first | rfl | (simp; done) | (simp; omega)); (case hk => omega))
      | (refine' rls (gn rfl) rfl (step_storeS rfl rfl rfl rfl F.agg22 ?hm ?hl ?hc) ⟨?hb, trivial⟩ ?hk ?_; (case hb => repeat (first | exact upd_eq _ _ _ | refine (upd_ne _ _ _ _ (by omega)).trans ?_ | assumption | exact hd _ (by omega) | exact hd0 _ (by omega) | exact hd1 _ (by omega) | exact hd2 _ (by omega) | fail)); (case hm => first | rfl | (simp; done) | (simp; omega)); (case hl => first | decide | (simp; done) | (simp; omega)); (case hc => rfl); (case hk => omega))
    refine rl0 (gn rfl) rfl rfl (step_as rfl rfl) trivial ?_
    refine rl0 (gn rfl) rfl rfl (step_as rfl rfl) trivial ?_
    refine runsL_nil ?_
    refine runs_ret ?_
    refine ⟨by first | exact .inr rfl | exact .inl rfl, fin_mk (resc rfl (by repeat (first | exact upd_eq _ _ _ | refine (upd_ne _ _ _ _ (by omega)).trans ?_ | assumption | exact hd _ (by omega) | exact hd0 _ (by omega) | exact hd1 _ (by omega) | exact hd2 _ (by omega) | fail)) F.agg22 (by first | rfl | (simp; omega)) (rest rfl (rest rfl res0))) ?_ ?_ ?_ ?_⟩
    · first | exact VLe.refl _ | exact VLe.own_sl _ _ _ | exact VLe.fl_sl _ _
    · repeat (first | exact trivial | assumption | omega | exact bd_bs | exact bd_row | exact bd_secs | exact bd_bools | refine ⟨?_, ?_⟩ | fail)
    · intro k hk; exact ble (by first | exact rfl | (refine (upd_ne _ _ _ _ (by omega)).trans ?_; first | exact rfl | skip; repeat (first | exact rfl | refine (upd_ne _ _ _ _ (by omega)).trans ?_ | assumption | exact hf0 _ (by omega) | exact hf1 _ (by omega) | exact hf2 _ (by omega) | exact hf0 _ (by omega) (by first | assumption | omega) | exact hf1 _ (by omega) (by first | assumption | omega))) | exact hf0 _ (by omega) | exact hf1 _ (by omega) | exact hf2 _ (by omega) | exact hf0 _ (by omega) (by first | assumption | omega) | exact hf1 _ (by omega) (by first | assumption | omega))
    · intro p hp; cases hp
  · skip
    exact absurd h4 (by omega)
set_option maxRecDepth 100000 in
set_option maxHeartbeats 4000000 in
theorem rg_torn (l : List (List Int)) (hl : ∀ r ∈ l, r.length = 64) (hb : ∀ r ∈ l, bytes r) (hL : (l.length : Int) ≤ 9223372036854775807) (h4 : l.length = 4) (ht : ∃ r ∈ l, beN (r.drop 56) ≠ beN ((at' l 0).drop 56)) : Does Try.prog 9 [.sl 64 (secsV l)] [] [] (.tup [.agg (List.replicate 224 (bV 0)), .sc (.int .u64 0), .sc (.bool false)]) := by
  refine does_mk 20 Try.func9 rfl rfl rfl (fun n B bx hd hpre hup hvs hbx => ?_)
  refine runs_seq ?_
  refine runs_region ?_
  refine rl1 (gn rfl) rfl rfl (step_allocc (k := n + 0) (zs := (List.replicate 224 (.int .u8 0))) (cs := List.replicate 224 (.sc (.int .u8 0))) rfl F.zero22 (by first | rfl | simp) (by first | rfl | decide | simp) (by first | rfl | simp)) ⟨by repeat (first | exact upd_eq _ _ _ | refine (upd_ne _ _ _ _ (by omega)).trans ?_ | assumption | exact hd _ (by omega) | exact hd0 _ (by omega) | exact hd1 _ (by omega) | exact hd2 _ (by omega) | fail), trivial⟩ (by omega) ?_
  refine rl0 (gn rfl) rfl rfl (step_as rfl rfl) trivial ?_
  refine rl0 (gn rfl) rfl rfl (step_as rfl rfl) trivial ?_
  refine runsL_nil ?_
  refine runs_seq ?_
  refine runs_region ?_
  refine rl1 (gn rfl) rfl rfl (step_allocc (k := n + 1) (zs := (List.replicate 224 (.int .u8 0))) (cs := List.replicate 224 (.sc (.int .u8 0))) rfl F.zero22 (by first | rfl | simp) (by first | rfl | decide | simp) (by first | rfl | simp)) ⟨by repeat (first | exact upd_eq _ _ _ | refine (upd_ne _ _ _ _ (by omega)).trans ?_ | assumption | exact hd _ (by omega) | exact hd0 _ (by omega) | exact hd1 _ (by omega) | exact hd2 _ (by omega) | fail), trivial⟩ (by omega) ?_
  refine runsL_nil ?_
  refine runs_seq ?_
  refine runs_seq ?_
  refine runs_region ?_
  refine rl0 (gn rfl) rfl rfl (step_mv rfl rfl) trivial ?_
  first
    | refine rl0 (gn rfl) rfl rfl (step_len rfl rfl (ev_mk rfl) (.inl ⟨⟨_, Try.underlying24⟩, .inl ⟨_, _, .inl rfl, List.length_map _⟩⟩)) trivial ?_
    | refine rl0 (gn rfl) rfl rfl (step_len rfl rfl (ev_mk rfl) (.inl ⟨⟨_, Try.underlying24⟩, .inl ⟨_, _, .inl rfl, rfl⟩⟩)) trivial ?_
    | refine rl0 (gn rfl) rfl rfl (step_len rfl rfl (ev_mk rfl) (.inl ⟨⟨_, Try.underlying24⟩, .inl ⟨_, _, .inr (.inl rfl), List.length_map _⟩⟩)) trivial ?_
    | refine rl0 (gn rfl) rfl rfl (step_len rfl rfl (ev_mk rfl) (.inl ⟨⟨_, Try.underlying24⟩, .inl ⟨_, _, .inr (.inl rfl), rfl⟩⟩)) trivial ?_
    | refine rl0 (gn rfl) rfl rfl (step_len rfl rfl (ev_mk rfl) (.inl ⟨⟨_, Try.underlying24⟩, .inl ⟨_, _, .inr (.inr ⟨_, rfl⟩), List.length_map _⟩⟩)) trivial ?_
    | refine rl0 (gn rfl) rfl rfl (step_len rfl rfl (ev_mk rfl) (.inl ⟨⟨_, Try.underlying24⟩, .inl ⟨_, _, .inr (.inr ⟨_, rfl⟩), rfl⟩⟩)) trivial ?_
    | refine rl0 (gn rfl) rfl rfl (step_len rfl rfl (ev_mk rfl) (.inl ⟨⟨_, Try.underlying24⟩, .inr (.inl ⟨_, _, _, _, rfl⟩)⟩)) trivial ?_
    | refine rl0 (gn rfl) rfl rfl (step_len (m := 0) rfl rfl (ev_mk rfl) (.inl ⟨⟨_, Try.underlying24⟩, .inr (.inr ⟨_, _, rfl⟩)⟩)) trivial ?_
  refine rl_neq (gn rfl) rfl rfl rfl rfl rfl (fun h1 => ?_) (fun h1 => ?_)
  · exact absurd h1 (by omega)
  refine runsL_nil ?_
  refine runs_cond false (ev_mk rfl) (fun h_ => nomatch h_) (fun _ => ?_)
  refine runs_skip ?_
  refine runs_seq ?_
  refine runs_seq ?_
  refine runs_region ?_
  refine rl0 (gn rfl) rfl rfl (step_as rfl rfl) trivial ?_
  refine runsL_nil ?_
  refine runs_block ?_
  refine runs_loop (fun (i : Nat) (s : Go.Vm.S) => ∃ (j : Nat) (m0 : Nat) (b0 : Nat → Box), (s = ⟨mk [(0, .sl 64 (secsV l)), (2, .ref (n + 0) 0), (5, .ref (n + 1) 0), (6, .sc (.int .i64 j))], m0, b0⟩) ∧ (i = 4 - j) ∧ (n + 2 ≤ m0) ∧ (∀ k, k < n → b0 k = bx k) ∧ (b0 (n + 0) = .cells (List.replicate 224 (bV 0))) ∧ (b0 (n + 1) = .cells (List.replicate 224 (bV 0))) ∧ (1 ≤ j ∧ j ≤ 4) ∧ (∀ i : Nat, i < j → beN ((at' l (i : Int)).drop 56) = beN ((at' l 0).drop 56))) (3) ⟨_, sle ?_ (Nat.le_refl _), 1, _, _, rfl, rfl, ?_⟩ ?_
  · (repeat' (first | exact trivial | refine ⟨⟨_, rfl, ?_⟩, ?_⟩ | fail)); (all_goals first | exact VLe.refl _ | (rw [Int.natCast_add]; exact VLe.refl _) | exact VLe.own_sl _ _ _ | exact VLe.fl_sl _ _ | exact VLe.nil_sl _)
  · exact ⟨by omega, (fun k hk => by first | exact rfl | (refine (upd_ne _ _ _ _ (by omega)).trans ?_; first | exact rfl | skip; repeat (first | exact rfl | refine (upd_ne _ _ _ _ (by omega)).trans ?_ | assumption | exact hf0 _ (by omega) | exact hf1 _ (by omega) | exact hf2 _ (by omega) | exact hf0 _ (by omega) (by first | assumption | omega) | exact hf1 _ (by omega) (by first | assumption | omega))) | exact hf0 _ (by omega) | exact hf1 _ (by omega) | exact hf2 _ (by omega) | exact hf0 _ (by omega) (by first | assumption | omega) | exact hf1 _ (by omega) (by first | assumption | omega)), by repeat (first | exact upd_eq _ _ _ | assumption | refine (upd_ne _ _ _ _ (by omega)).trans ?_ | fail), by repeat (first | exact upd_eq _ _ _ | assumption | refine (upd_ne _ _ _ _ (by omega)).trans ?_ | fail), by omega, fun i hi => by (obtain rfl : i = 0 := by omega); rfl⟩
  · rintro _ _ ⟨j, m0, b0, rfl, rfl, hm0, hf0, hB0_0, hB0_1, hF0_0, hF0_1⟩
    refine runs_know (fun hd0 => ?_)
    refine runs_bump 8 ?_
    simp only at hd0
    refine runs_seq ?_
    refine runs_seq ?_
    refine runs_region ?_
    refine rl0 (gn rfl) rfl rfl (step_mv rfl rfl) trivial ?_
    refine rl_lss (gn rfl) rfl rfl rfl rfl rfl (fun h2 => ?_) (fun h2 => ?_)
    · skip
      refine runsL_nil ?_
      refine runs_cond true (ev_mk rfl) (fun _ => ?_) (fun h_ => nomatch h_)
      refine runs_skip ?_
      refine runs_seq ?_
      refine runs_block ?_
      refine runs_seq ?_
      refine runs_draw (by kernel_rfl) (by kernel_rfl) (by kernel_rfl) ?_
      refine dl0 (gn rfl) rfl rfl (step_mv rfl rfl) trivial ?_
      refine dl0 (gn rfl) rfl rfl (step_mv rfl rfl) trivial ?_
      first
        | (refine' dl0 (gn rfl) rfl rfl (step_index rfl (ev_mk rfl) (.inl rfl) (ev_mk rfl) Try.underlying24 F.sz45 (by omega) ?hr) trivial ?_; (case hr => exact map_at _ _ _ (by omega) (by omega)))
        | (refine' dl0 (gn rfl) rfl rfl (step_index rfl (ev_mk rfl) (.inr (.inl rfl)) (ev_mk rfl) Try.underlying24 F.sz45 (by omega) ?hr) trivial ?_; (case hr => exact map_at _ _ _ (by omega) (by omega)))
        | (refine' dl0 (gn rfl) rfl rfl (step_index rfl (ev_mk rfl) (.inr (.inr ⟨_, rfl⟩)) (ev_mk rfl) Try.underlying24 F.sz45 (by omega) ?hr) trivial ?_; (case hr => exact map_at _ _ _ (by omega) (by omega)))
        | (refine dl0 (gn rfl) rfl rfl (step_index_msl rfl (ev_mk rfl) (ev_mk rfl) Try.underlying24 F.sz45 (by omega) (by omega)) trivial ?_)
      first
        | (refine' dl0 (gn rfl) rfl rfl (step_load_all rfl rfl F.agg45 ?hl) ⟨?hb, trivial⟩ ?_; (case hb => repeat (first | exact upd_eq _ _ _ | refine (upd_ne _ _ _ _ (by omega)).trans ?_ | assumption | exact hd _ (by omega) | exact hd0 _ (by omega) | exact hd1 _ (by omega) | exact hd2 _ (by omega) | fail)); (case hl => first | rfl | (simp; done) | (first | (simp; done) | (rw [List.length_map]; exact hl _ (at_int (by omega) (by omega))) | (rw [List.length_map, gQ_len _ (by omega)]))))
        | (refine dl0 (gn rfl) rfl rfl (step_load_ro_all rfl rfl F.agg45 (by first | rfl | (simp; done) | (first | (simp; done) | (rw [List.length_map]; exact hl _ (at_int (by omega) (by omega))) | (rw [List.length_map, gQ_len _ (by omega)])))) trivial ?_)
        | (refine' dl0 (gn rfl) rfl rfl (step_load_agg rfl (ev_mk rfl) F.agg45 ?hc ?hl) ⟨?hb, trivial⟩ ?_; (case hb => repeat (first | exact upd_eq _ _ _ | refine (upd_ne _ _ _ _ (by omega)).trans ?_ | assumption | exact hd _ (by omega) | exact hd0 _ (by omega) | exact hd1 _ (by omega) | exact hd2 _ (by omega) | fail)); (case hc => rfl); (case hl => first | rfl | (simp; done)))
        | (refine dl0 (gn rfl) rfl rfl (step_load_ro_agg rfl (ev_mk rfl) F.agg45 rfl rfl) trivial ?_)
      refine dl0 (gn rfl) rfl rfl (step_callc rfl Try.func23 rfl rfl rfl (mark_c (at' l (j : Int)) (hl _ (at_int (by omega) (by omega))) (hb _ (at_int (by omega) (by omega)))) (by repeat (first | exact .nil | refine .cons ?_ ?_ | exact VLe.refl _ | exact VLe.own_sl _ _ _ | exact VLe.fl_sl _ _ | exact VLe.nil_sl _ | exact VLe.nil_fl _ | refine VLe.agg ?_))) trivial ?_
      refine dl0 (gn rfl) rfl rfl (step_mv rfl rfl) trivial ?_
      first
        | (refine' dl0 (gn rfl) rfl rfl (step_index rfl (ev_mk rfl) (.inl rfl) (ev_mk rfl) Try.underlying24 F.sz45 (by omega) ?hr) trivial ?_; (case hr => exact map_at _ _ _ (by omega) (by omega)))
        | (refine' dl0 (gn rfl) rfl rfl (step_index rfl (ev_mk rfl) (.inr (.inl rfl)) (ev_mk rfl) Try.underlying24 F.sz45 (by omega) ?hr) trivial ?_; (case hr => exact map_at _ _ _ (by omega) (by omega)))
        | (refine' dl0 (gn rfl) rfl rfl (step_index rfl (ev_mk rfl) (.inr (.inr ⟨_, rfl⟩)) (ev_mk rfl) Try.underlying24 F.sz45 (by omega) ?hr) trivial ?_; (case hr => exact map_at _ _ _ (by omega) (by omega)))
        | (refine dl0 (gn rfl) rfl rfl (step_index_msl rfl (ev_mk rfl) (ev_mk rfl) Try.underlying24 F.sz45 (by omega) (by omega)) trivial ?_)
      first
        | (refine' dl0 (gn rfl) rfl rfl (step_load_all rfl rfl F.agg45 ?hl) ⟨?hb, trivial⟩ ?_; (case hb => repeat (first | exact upd_eq _ _ _ | refine (upd_ne _ _ _ _ (by omega)).trans ?_ | assumption | exact hd _ (by omega) | exact hd0 _ (by omega) | exact hd1 _ (by omega) | exact hd2 _ (by omega) | fail)); (case hl => first | rfl | (simp; done) | (first | (simp; done) | (rw [List.length_map]; exact hl _ (at_int (by omega) (by omega))) | (rw [List.length_map, gQ_len _ (by omega)]))))
        | (refine dl0 (gn rfl) rfl rfl (step_load_ro_all rfl rfl F.agg45 (by first | rfl | (simp; done) | (first | (simp; done) | (rw [List.length_map]; exact hl _ (at_int (by omega) (by omega))) | (rw [List.length_map, gQ_len _ (by omega)])))) trivial ?_)
        | (refine' dl0 (gn rfl) rfl rfl (step_load_agg rfl (ev_mk rfl) F.agg45 ?hc ?hl) ⟨?hb, trivial⟩ ?_; (case hb => repeat (first | exact upd_eq _ _ _ | refine (upd_ne _ _ _ _ (by omega)).trans ?_ | assumption | exact hd _ (by omega) | exact hd0 _ (by omega) | exact hd1 _ (by omega) | exact hd2 _ (by omega) | fail)); (case hc => rfl); (case hl => first | rfl | (simp; done)))
        | (refine dl0 (gn rfl) rfl rfl (step_load_ro_agg rfl (ev_mk rfl) F.agg45 rfl rfl) trivial ?_)
      refine dl0 (gn rfl) rfl rfl (step_callc rfl Try.func23 rfl rfl rfl (mark_c (at' l 0) (hl _ (at_int (by omega) (by omega))) (hb _ (at_int (by omega) (by omega)))) (by repeat (first | exact .nil | refine .cons ?_ ?_ | exact VLe.refl _ | exact VLe.own_sl _ _ _ | exact VLe.fl_sl _ _ | exact VLe.nil_sl _ | exact VLe.nil_fl _ | refine VLe.agg ?_))) trivial ?_
      refine dl_neq (gn rfl) rfl rfl rfl rfl rfl (fun h3 => ?_) (fun h3 => ?_)
      · skip
        refine dlnil ?_ ?_
        · repeat' (first | exact trivial | exact .inr (ap0 _ _ _ _) | exact .inr (ap2 _ _ _ _) | exact .inr (ap3 _ _ _ _) | exact .inr ⟨by first | (simp; done) | (simp; omega), by first | (simp; done) | (simp; omega)⟩ | exact .inl (by kernel_rfl) | refine ⟨?_, ?_⟩ | fail)
        refine runs_cond true (ev_mk rfl) (fun _ => ?_) (fun h_ => nomatch h_)
        refine runs_seq ?_
        refine runs_region ?_
        first
          | (refine' rl0 (gn rfl) rfl rfl (step_load_all rfl rfl F.agg22 ?hl) ⟨?hb, trivial⟩ ?_; (case hb => repeat (first | exact upd_eq _ _ _ | refine (upd_ne _ _ _ _ (by omega)).trans ?_ | assumption | exact hd _ (by omega) | exact hd0 _ (by omega) | exact hd1 _ (by omega) | exact hd2 _ (by omega) | fail)); (case hl => first | rfl | (simp; done) | (first | (simp; done) | (rw [List.length_map]; exact hl _ (at_int (by omega) (by omega))) | (rw [List.length_map, gQ_len _ (by omega)]))))
          | (refine rl0 (gn rfl) rfl rfl (step_load_ro_all rfl rfl F.agg22 (by first | rfl | (simp; done) | (first | (simp; done) | (rw [List.length_map]; exact hl _ (at_int (by omega) (by omega))) | (rw [List.length_map, gQ_len _ (by omega)])))) trivial ?_)
          | (refine' rl0 (gn rfl) rfl rfl (step_load_agg rfl (ev_mk rfl) F.agg22 ?hc ?hl) ⟨?hb, trivial⟩ ?_; (case hb => repeat (first | exact upd_eq _ _ _ | refine (upd_ne _ _ _ _ (by omega)).trans ?_ | assumption | exact hd _ (by omega) | exact hd0 _ (by omega) | exact hd1 _ (by omega) | exact hd2 _ (by omega) | fail)); (case hc => rfl); (case hl => first | rfl | (simp; done)))
          | (refine rl0 (gn rfl) rfl rfl (step_load_ro_agg rfl (ev_mk rfl) F.agg22 rfl rfl) trivial ?_)
        first
          | (refine' rls (gn rfl) rfl (step_storeA rfl rfl rfl rfl F.agg22 ?hm ?hl) ⟨?hb, trivial⟩ ?hk ?_; (case hb => repeat (first | exact upd_eq _ _ _ | refine (upd_ne _ _ _ _ (by omega)).trans ?_ | assumption | exact hd _ (by omega) | exact hd0 _ (by omega) | exact hd1 _ (by omega) | exact hd2 _ (by omega) | fail)); (case hm => first | rfl | (simp; done) | (first | (simp; done) | (rw [List.length_map]; exact hl _ (at_int (by omega) (by omega))) | (rw [List.length_map, gQ_len _ (by omega)]))); (case hl => first | rfl | (simp; done) | (first | (simp; done) | (rw [List.length_map]; exact hl _ (at_int (by omega) (by omega))) | (rw [List.length_map, gQ_len _ (by omega)]))); (case hk => omega))
          | (refine' rls (gn rfl) rfl (step_storeS rfl rfl rfl rfl F.agg22 ?hm ?hl ?hc) ⟨?hb, trivial⟩ ?hk ?_; (case hb => repeat (first | exact upd_eq _ _ _ | refine (upd_ne _ _ _ _ (by omega)).trans ?_ | assumption | exact hd _ (by omega) | exact hd0 _ (by omega) | exact hd1 _ (by omega) | exact hd2 _ (by omega) | fail)); (case hm => first | rfl | (simp; done) | (first | (simp; done) | (rw [List.length_map]; exact hl _ (at_int (by omega) (by omega))) | (rw [List.length_map, gQ_len _ (by omega)]))); (case hl => first | decide | (simp; done) | (first | (simp; done) | (rw [List.length_map]; exact hl _ (at_int (by omega) (by omega))) | (rw [List.length_map, gQ_len _ (by omega)]))); (case hc => rfl); (case hk => omega))
        refine rl0 (gn rfl) rfl rfl (step_as rfl rfl) trivial ?_
        refine rl0 (gn rfl) rfl rfl (step_as rfl rfl) trivial ?_
        refine runsL_nil ?_
        refine runs_ret ?_
        refine ⟨by first | exact .inr rfl | exact .inl rfl, fin_mk (resc rfl (by repeat (first | exact upd_eq _ _ _ | refine (upd_ne _ _ _ _ (by omega)).trans ?_ | assumption | exact hd _ (by omega) | exact hd0 _ (by omega) | exact hd1 _ (by omega) | exact hd2 _ (by omega) | fail)) F.agg22 (by first | rfl | (first | (simp; done) | (rw [List.length_map]; exact hl _ (at_int (by omega) (by omega))) | (rw [List.length_map, gQ_len _ (by omega)]))) (rest rfl (rest rfl res0))) ?_ ?_ ?_ ?_⟩
        · first | exact VLe.refl _ | exact VLe.own_sl _ _ _ | exact VLe.fl_sl _ _
        · repeat (first | exact trivial | assumption | omega | exact bd_bs | exact bd_row | exact bd_secs | exact bd_bools | refine ⟨?_, ?_⟩ | fail)
        · intro k hk; exact ble (by first | exact rfl | (refine (upd_ne _ _ _ _ (by omega)).trans ?_; first | exact rfl | skip; repeat (first | exact rfl | refine (upd_ne _ _ _ _ (by omega)).trans ?_ | assumption | exact hf0 _ (by omega) | exact hf1 _ (by omega) | exact hf2 _ (by omega) | exact hf0 _ (by omega) (by first | assumption | omega) | exact hf1 _ (by omega) (by first | assumption | omega))) | exact hf0 _ (by omega) | exact hf1 _ (by omega) | exact hf2 _ (by omega) | exact hf0 _ (by omega) (by first | assumption | omega) | exact hf1 _ (by omega) (by first | assumption | omega))
        · intro p hp; cases hp
      · skip
        refine dlnil ?_ ?_
        · repeat' (first | exact trivial | exact .inr (ap0 _ _ _ _) | exact .inr (ap2 _ _ _ _) | exact .inr (ap3 _ _ _ _) | exact .inr ⟨by first | (simp; done) | (simp; omega), by first | (simp; done) | (simp; omega)⟩ | exact .inl (by kernel_rfl) | refine ⟨?_, ?_⟩ | fail)
        refine runs_cond false (ev_mk rfl) (fun h_ => nomatch h_) (fun _ => ?_)
        refine runs_skip ?_
        refine runs_region ?_
        refine rl0 (gn rfl) rfl rfl (step_mv rfl rfl) trivial ?_
        refine rl0 (gn rfl) rfl rfl (step_add rfl (ev_mk rfl) (ev_mk rfl) (w64 (by omega))) trivial ?_
        refine rl0 (gn rfl) rfl rfl (step_as rfl rfl) trivial ?_
        refine runsL_nil ?_
        refine ⟨_, _, ?_, sle ?_ (Nat.le_refl _), j + 1, _, _, rfl, rfl, by omega, (fun k hk => by repeat (first | exact hf0 k hk | exact hf0 k hk | exact hf1 k hk | exact hf2 k hk | refine (upd_ne _ _ _ _ (by first | assumption | omega)).trans ?_ | fail)), by repeat (first | exact upd_eq _ _ _ | assumption | refine (upd_ne _ _ _ _ (by omega)).trans ?_ | fail), by repeat (first | exact upd_eq _ _ _ | assumption | refine (upd_ne _ _ _ _ (by omega)).trans ?_ | fail), by omega, fun i hi => by (rcases Nat.lt_succ_iff_lt_or_eq.mp hi with h_ | h_); exact hF0_1 i h_; (subst h_; assumption)⟩
        · omega
        · (repeat' (first | exact trivial | refine ⟨⟨_, rfl, ?_⟩, ?_⟩ | fail)); (all_goals first | exact VLe.refl _ | (rw [Int.natCast_add]; exact VLe.refl _) | exact VLe.own_sl _ _ _ | exact VLe.fl_sl _ _ | exact VLe.nil_sl _)
    · skip
      exfalso
      obtain ⟨r, hr, hn⟩ := ht
      obtain ⟨i, hi, rfl⟩ := List.getElem_of_mem hr
      exact hn (by have h_ := hF0_1 i (by omega); rwa [at_nat _ _ hi] at h_)
set_option maxRecDepth 100000 in
set_option maxHeartbeats 4000000 in
theorem rg_ok (l : List (List Int)) (hl : ∀ r ∈ l, r.length = 64) (hb : ∀ r ∈ l, bytes r) (hL : (l.length : Int) ≤ 9223372036854775807) (h4 : l.length = 4) (ht : ∀ r ∈ l, beN (r.drop 56) = beN ((at' l 0).drop 56)) : Does Try.prog 9 [.sl 64 (secsV l)] [] [] (.tup [.agg ((pgO l 4).map bV), .sc (.int .u64 (beN ((at' l 0).drop 56))), .sc (.bool true)]) := by
  refine does_mk 20 Try.func9 rfl rfl rfl (fun n B bx hd hpre hup hvs hbx => ?_)
  refine runs_seq ?_
  refine runs_region ?_
  refine rl1 (gn rfl) rfl rfl (step_allocc (k := n + 0) (zs := (List.replicate 224 (.int .u8 0))) (cs := List.replicate 224 (.sc (.int .u8 0))) rfl F.zero22 (by first | rfl | simp) (by first | rfl | decide | simp) (by first | rfl | simp)) ⟨by repeat (first | exact upd_eq _ _ _ | refine (upd_ne _ _ _ _ (by omega)).trans ?_ | assumption | exact hd _ (by omega) | exact hd0 _ (by omega) | exact hd1 _ (by omega) | exact hd2 _ (by omega) | fail), trivial⟩ (by omega) ?_
  refine rl0 (gn rfl) rfl rfl (step_as rfl rfl) trivial ?_
  refine rl0 (gn rfl) rfl rfl (step_as rfl rfl) trivial ?_
  refine runsL_nil ?_
  refine runs_seq ?_
  refine runs_region ?_
  refine rl1 (gn rfl) rfl rfl (step_allocc (k := n + 1) (zs := (List.replicate 224 (.int .u8 0))) (cs := List.replicate 224 (.sc (.int .u8 0))) rfl F.zero22 (by first | rfl | simp) (by first | rfl | decide | simp) (by first | rfl | simp)) ⟨by repeat (first | exact upd_eq _ _ _ | refine (upd_ne _ _ _ _ (by omega)).trans ?_ | assumption | exact hd _ (by omega) | exact hd0 _ (by omega) | exact hd1 _ (by omega) | exact hd2 _ (by omega) | fail), trivial⟩ (by omega) ?_
  refine runsL_nil ?_
  refine runs_seq ?_
  refine runs_seq ?_
  refine runs_region ?_
  refine rl0 (gn rfl) rfl rfl (step_mv rfl rfl) trivial ?_
  first
    | refine rl0 (gn rfl) rfl rfl (step_len rfl rfl (ev_mk rfl) (.inl ⟨⟨_, Try.underlying24⟩, .inl ⟨_, _, .inl rfl, List.length_map _⟩⟩)) trivial ?_
    | refine rl0 (gn rfl) rfl rfl (step_len rfl rfl (ev_mk rfl) (.inl ⟨⟨_, Try.underlying24⟩, .inl ⟨_, _, .inl rfl, rfl⟩⟩)) trivial ?_
    | refine rl0 (gn rfl) rfl rfl (step_len rfl rfl (ev_mk rfl) (.inl ⟨⟨_, Try.underlying24⟩, .inl ⟨_, _, .inr (.inl rfl), List.length_map _⟩⟩)) trivial ?_
    | refine rl0 (gn rfl) rfl rfl (step_len rfl rfl (ev_mk rfl) (.inl ⟨⟨_, Try.underlying24⟩, .inl ⟨_, _, .inr (.inl rfl), rfl⟩⟩)) trivial ?_
    | refine rl0 (gn rfl) rfl rfl (step_len rfl rfl (ev_mk rfl) (.inl ⟨⟨_, Try.underlying24⟩, .inl ⟨_, _, .inr (.inr ⟨_, rfl⟩), List.length_map _⟩⟩)) trivial ?_
    | refine rl0 (gn rfl) rfl rfl (step_len rfl rfl (ev_mk rfl) (.inl ⟨⟨_, Try.underlying24⟩, .inl ⟨_, _, .inr (.inr ⟨_, rfl⟩), rfl⟩⟩)) trivial ?_
    | refine rl0 (gn rfl) rfl rfl (step_len rfl rfl (ev_mk rfl) (.inl ⟨⟨_, Try.underlying24⟩, .inr (.inl ⟨_, _, _, _, rfl⟩)⟩)) trivial ?_
    | refine rl0 (gn rfl) rfl rfl (step_len (m := 0) rfl rfl (ev_mk rfl) (.inl ⟨⟨_, Try.underlying24⟩, .inr (.inr ⟨_, _, rfl⟩)⟩)) trivial ?_
  refine rl_neq (gn rfl) rfl rfl rfl rfl rfl (fun h1 => ?_) (fun h1 => ?_)
  · exact absurd h1 (by omega)
  refine runsL_nil ?_
  refine runs_cond false (ev_mk rfl) (fun h_ => nomatch h_) (fun _ => ?_)
  refine runs_skip ?_
  refine runs_seq ?_
  refine runs_seq ?_
  refine runs_region ?_
  refine rl0 (gn rfl) rfl rfl (step_as rfl rfl) trivial ?_
  refine runsL_nil ?_
  refine runs_block ?_
  refine runs_loop (fun (i : Nat) (s : Go.Vm.S) => ∃ (j : Nat) (m0 : Nat) (b0 : Nat → Box), (s = ⟨mk [(0, .sl 64 (secsV l)), (2, .ref (n + 0) 0), (5, .ref (n + 1) 0), (6, .sc (.int .i64 j))], m0, b0⟩) ∧ (i = 4 - j) ∧ (n + 2 ≤ m0) ∧ (∀ k, k < n → b0 k = bx k) ∧ (b0 (n + 0) = .cells (List.replicate 224 (bV 0))) ∧ (b0 (n + 1) = .cells (List.replicate 224 (bV 0))) ∧ (1 ≤ j ∧ j ≤ 4) ∧ (∀ i : Nat, i < j → beN ((at' l (i : Int)).drop 56) = beN ((at' l 0).drop 56))) (3) ⟨_, sle ?_ (Nat.le_refl _), 1, _, _, rfl, rfl, ?_⟩ ?_
  · (repeat' (first | exact trivial | refine ⟨⟨_, rfl, ?_⟩, ?_⟩ | fail)); (all_goals first | exact VLe.refl _ | (rw [Int.natCast_add]; exact VLe.refl _) | exact VLe.own_sl _ _ _ | exact VLe.fl_sl _ _ | exact VLe.nil_sl _)
  · exact ⟨by omega, (fun k hk => by first | exact rfl | (refine (upd_ne _ _ _ _ (by omega)).trans ?_; first | exact rfl | skip; repeat (first | exact rfl | refine (upd_ne _ _ _ _ (by omega)).trans ?_ | assumption | exact hf0 _ (by omega) | exact hf1 _ (by omega) | exact hf2 _ (by omega) | exact hf0 _ (by omega) (by first | assumption | omega) | exact hf1 _ (by omega) (by first | assumption | omega))) | exact hf0 _ (by omega) | exact hf1 _ (by omega) | exact hf2 _ (by omega) | exact hf0 _ (by omega) (by first | assumption | omega) | exact hf1 _ (by omega) (by first | assumption | omega)), by repeat (first | exact upd_eq _ _ _ | assumption | refine (upd_ne _ _ _ _ (by omega)).trans ?_ | fail), by repeat (first | exact upd_eq _ _ _ | assumption | refine (upd_ne _ _ _ _ (by omega)).trans ?_ | fail), by omega, fun i hi => by (obtain rfl : i = 0 := by omega); rfl⟩
  · rintro _ _ ⟨j, m0, b0, rfl, rfl, hm0, hf0, hB0_0, hB0_1, hF0_0, hF0_1⟩
    refine runs_know (fun hd0 => ?_)
    refine runs_bump 8 ?_
    simp only at hd0
    refine runs_seq ?_
    refine runs_seq ?_
    refine runs_region ?_
    refine rl0 (gn rfl) rfl rfl (step_mv rfl rfl) trivial ?_
    refine rl_lss (gn rfl) rfl rfl rfl rfl rfl (fun h2 => ?_) (fun h2 => ?_)
    · skip
      refine runsL_nil ?_
      refine runs_cond true (ev_mk rfl) (fun _ => ?_) (fun h_ => nomatch h_)
      refine runs_skip ?_
      refine runs_seq ?_
      refine runs_block ?_
      refine runs_seq ?_
      refine runs_draw (by kernel_rfl) (by kernel_rfl) (by kernel_rfl) ?_
      refine dl0 (gn rfl) rfl rfl (step_mv rfl rfl) trivial ?_
      refine dl0 (gn rfl) rfl rfl (step_mv rfl rfl) trivial ?_
      first
        | (refine' dl0 (gn rfl) rfl rfl (step_index rfl (ev_mk rfl) (.inl rfl) (ev_mk rfl) Try.underlying24 F.sz45 (by omega) ?hr) trivial ?_; (case hr => exact map_at _ _ _ (by omega) (by omega)))
        | (refine' dl0 (gn rfl) rfl rfl (step_index rfl (ev_mk rfl) (.inr (.inl rfl)) (ev_mk rfl) Try.underlying24 F.sz45 (by omega) ?hr) trivial ?_; (case hr => exact map_at _ _ _ (by omega) (by omega)))
        | (refine' dl0 (gn rfl) rfl rfl (step_index rfl (ev_mk rfl) (.inr (.inr ⟨_, rfl⟩)) (ev_mk rfl) Try.underlying24 F.sz45 (by omega) ?hr) trivial ?_; (case hr => exact map_at _ _ _ (by omega) (by omega)))
        | (refine dl0 (gn rfl) rfl rfl (step_index_msl rfl (ev_mk rfl) (ev_mk rfl) Try.underlying24 F.sz45 (by omega) (by omega)) trivial ?_)
      first
        | (refine' dl0 (gn rfl) rfl rfl (step_load_all rfl rfl F.agg45 ?hl) ⟨?hb, trivial⟩ ?_; (case hb => repeat (first | exact upd_eq _ _ _ | refine (upd_ne _ _ _ _ (by omega)).trans ?_ | assumption | exact hd _ (by omega) | exact hd0 _ (by omega) | exact hd1 _ (by omega) | exact hd2 _ (by omega) | fail)); (case hl => first | rfl | (simp; done) | (first | (simp; done) | (rw [List.length_map]; exact hl _ (at_int (by omega) (by omega))) | (rw [List.length_map, gQ_len _ (by omega)]))))
        | (refine dl0 (gn rfl) rfl rfl (step_load_ro_all rfl rfl F.agg45 (by first | rfl | (simp; done) | (first | (simp; done) | (rw [List.length_map]; exact hl _ (at_int (by omega) (by omega))) | (rw [List.length_map, gQ_len _ (by omega)])))) trivial ?_)
        | (refine' dl0 (gn rfl) rfl rfl (step_load_agg rfl (ev_mk rfl) F.agg45 ?hc ?hl) ⟨?hb, trivial⟩ ?_; (case hb => repeat (first | exact upd_eq _ _ _ | refine (upd_ne _ _ _ _ (by omega)).trans ?_ | assumption | exact hd _ (by omega) | exact hd0 _ (by omega) | exact hd1 _ (by omega) | exact hd2 _ (by omega) | fail)); (case hc => rfl); (case hl => first | rfl | (simp; done)))
        | (refine dl0 (gn rfl) rfl rfl (step_load_ro_agg rfl (ev_mk rfl) F.agg45 rfl rfl) trivial ?_)
      refine dl0 (gn rfl) rfl rfl (step_callc rfl Try.func23 rfl rfl rfl (mark_c (at' l (j : Int)) (hl _ (at_int (by omega) (by omega))) (hb _ (at_int (by omega) (by omega)))) (by repeat (first | exact .nil | refine .cons ?_ ?_ | exact VLe.refl _ | exact VLe.own_sl _ _ _ | exact VLe.fl_sl _ _ | exact VLe.nil_sl _ | exact VLe.nil_fl _ | refine VLe.agg ?_))) trivial ?_
      refine dl0 (gn rfl) rfl rfl (step_mv rfl rfl) trivial ?_
      first
        | (refine' dl0 (gn rfl) rfl rfl (step_index rfl (ev_mk rfl) (.inl rfl) (ev_mk rfl) Try.underlying24 F.sz45 (by omega) ?hr) trivial ?_; (case hr => exact map_at _ _ _ (by omega) (by omega)))
        | (refine' dl0 (gn rfl) rfl rfl (step_index rfl (ev_mk rfl) (.inr (.inl rfl)) (ev_mk rfl) Try.underlying24 F.sz45 (by omega) ?hr) trivial ?_; (case hr => exact map_at _ _ _ (by omega) (by omega)))
        | (refine' dl0 (gn rfl) rfl rfl (step_index rfl (ev_mk rfl) (.inr (.inr ⟨_, rfl⟩)) (ev_mk rfl) Try.underlying24 F.sz45 (by omega) ?hr) trivial ?_; (case hr => exact map_at _ _ _ (by omega) (by omega)))
        | (refine dl0 (gn rfl) rfl rfl (step_index_msl rfl (ev_mk rfl) (ev_mk rfl) Try.underlying24 F.sz45 (by omega) (by omega)) trivial ?_)
      first
        | (refine' dl0 (gn rfl) rfl rfl (step_load_all rfl rfl F.agg45 ?hl) ⟨?hb, trivial⟩ ?_; (case hb => repeat (first | exact upd_eq _ _ _ | refine (upd_ne _ _ _ _ (by omega)).trans ?_ | assumption | exact hd _ (by omega) | exact hd0 _ (by omega) | exact hd1 _ (by omega) | exact hd2 _ (by omega) | fail)); (case hl => first | rfl | (simp; done) | (first | (simp; done) | (rw [List.length_map]; exact hl _ (at_int (by omega) (by omega))) | (rw [List.length_map, gQ_len _ (by omega)]))))
        | (refine dl0 (gn rfl) rfl rfl (step_load_ro_all rfl rfl F.agg45 (by first | rfl | (simp; done) | (first | (simp; done) | (rw [List.length_map]; exact hl _ (at_int (by omega) (by omega))) | (rw [List.length_map, gQ_len _ (by omega)])))) trivial ?_)
        | (refine' dl0 (gn rfl) rfl rfl (step_load_agg rfl (ev_mk rfl) F.agg45 ?hc ?hl) ⟨?hb, trivial⟩ ?_; (case hb => repeat (first | exact upd_eq _ _ _ | refine (upd_ne _ _ _ _ (by omega)).trans ?_ | assumption | exact hd _ (by omega) | exact hd0 _ (by omega) | exact hd1 _ (by omega) | exact hd2 _ (by omega) | fail)); (case hc => rfl); (case hl => first | rfl | (simp; done)))
        | (refine dl0 (gn rfl) rfl rfl (step_load_ro_agg rfl (ev_mk rfl) F.agg45 rfl rfl) trivial ?_)
      refine dl0 (gn rfl) rfl rfl (step_callc rfl Try.func23 rfl rfl rfl (mark_c (at' l 0) (hl _ (at_int (by omega) (by omega))) (hb _ (at_int (by omega) (by omega)))) (by repeat (first | exact .nil | refine .cons ?_ ?_ | exact VLe.refl _ | exact VLe.own_sl _ _ _ | exact VLe.fl_sl _ _ | exact VLe.nil_sl _ | exact VLe.nil_fl _ | refine VLe.agg ?_))) trivial ?_
      refine dl_neq (gn rfl) rfl rfl rfl rfl rfl (fun h3 => ?_) (fun h3 => ?_)
      · skip
        exact absurd (ht _ (at_int (i := (j : Int)) (by omega) (by omega))) (by assumption)
      · skip
        refine dlnil ?_ ?_
        · repeat' (first | exact trivial | exact .inr (ap0 _ _ _ _) | exact .inr (ap2 _ _ _ _) | exact .inr (ap3 _ _ _ _) | exact .inr ⟨by first | (simp; done) | (simp; omega), by first | (simp; done) | (simp; omega)⟩ | exact .inl (by kernel_rfl) | refine ⟨?_, ?_⟩ | fail)
        refine runs_cond false (ev_mk rfl) (fun h_ => nomatch h_) (fun _ => ?_)
        refine runs_skip ?_
        refine runs_region ?_
        refine rl0 (gn rfl) rfl rfl (step_mv rfl rfl) trivial ?_
        refine rl0 (gn rfl) rfl rfl (step_add rfl (ev_mk rfl) (ev_mk rfl) (w64 (by omega))) trivial ?_
        refine rl0 (gn rfl) rfl rfl (step_as rfl rfl) trivial ?_
        refine runsL_nil ?_
        refine ⟨_, _, ?_, sle ?_ (Nat.le_refl _), j + 1, _, _, rfl, rfl, by omega, (fun k hk => by repeat (first | exact hf0 k hk | exact hf0 k hk | exact hf1 k hk | exact hf2 k hk | refine (upd_ne _ _ _ _ (by first | assumption | omega)).trans ?_ | fail)), by repeat (first | exact upd_eq _ _ _ | assumption | refine (upd_ne _ _ _ _ (by omega)).trans ?_ | fail), by repeat (first | exact upd_eq _ _ _ | assumption | refine (upd_ne _ _ _ _ (by omega)).trans ?_ | fail), by omega, fun i hi => by (rcases Nat.lt_succ_iff_lt_or_eq.mp hi with h_ | h_); exact hF0_1 i h_; (subst h_; assumption)⟩
        · omega
        · (repeat' (first | exact trivial | refine ⟨⟨_, rfl, ?_⟩, ?_⟩ | fail)); (all_goals first | exact VLe.refl _ | (rw [Int.natCast_add]; exact VLe.refl _) | exact VLe.own_sl _ _ _ | exact VLe.fl_sl _ _ | exact VLe.nil_sl _)
    · skip
      refine runsL_nil ?_
      refine runs_cond false (ev_mk rfl) (fun h_ => nomatch h_) (fun _ => ?_)
      refine runs_exit ?_
      refine runs_seq ?_
      refine runs_seq ?_
      refine runs_region ?_
      refine rl0 (gn rfl) rfl rfl (step_as rfl rfl) trivial ?_
      refine runsL_nil ?_
      refine runs_block ?_
      refine runs_loop (fun (i : Nat) (s : Go.Vm.S) => ∃ (k : Nat) (m1 : Nat) (b1 : Nat → Box), (s = ⟨mk [(0, .sl 64 (secsV l)), (2, .ref (n + 0) 0), (5, .ref (n + 1) 0), (7, .sc (.int .i64 k))], m1, b1⟩) ∧ (i = 224 - k) ∧ (n + 2 ≤ m1) ∧ (∀ k, k < n → b1 k = bx k) ∧ (b1 (n + 0) = .cells (List.replicate 224 (bV 0))) ∧ (b1 (n + 1) = .cells ((gQ l k).map bV)) ∧ (k ≤ 224)) (224) ⟨_, sle ?_ (Nat.le_refl _), 0, _, _, rfl, rfl, ?_⟩ ?_
      · (repeat' (first | exact trivial | refine ⟨⟨_, rfl, ?_⟩, ?_⟩ | fail)); (all_goals first | exact VLe.refl _ | (rw [Int.natCast_add]; exact VLe.refl _) | exact VLe.own_sl _ _ _ | exact VLe.fl_sl _ _ | exact VLe.nil_sl _)
      · exact ⟨by omega, (fun k hk => by first | exact rfl | (refine (upd_ne _ _ _ _ (by omega)).trans ?_; first | exact rfl | skip; repeat (first | exact rfl | refine (upd_ne _ _ _ _ (by omega)).trans ?_ | assumption | exact hf0 _ (by omega) | exact hf1 _ (by omega) | exact hf2 _ (by omega) | exact hf0 _ (by omega) (by first | assumption | omega) | exact hf1 _ (by omega) (by first | assumption | omega))) | exact hf0 _ (by omega) | exact hf1 _ (by omega) | exact hf2 _ (by omega) | exact hf0 _ (by omega) (by first | assumption | omega) | exact hf1 _ (by omega) (by first | assumption | omega)), by repeat (first | exact upd_eq _ _ _ | assumption | refine (upd_ne _ _ _ _ (by omega)).trans ?_ | fail), by repeat (first | exact upd_eq _ _ _ | assumption | refine (upd_ne _ _ _ _ (by omega)).trans ?_ | fail), by omega⟩
      · rintro _ _ ⟨k, m1, b1, rfl, rfl, hm1, hf1, hB1_0, hB1_1, hF1_0⟩
        refine runs_know (fun hd1 => ?_)
        refine runs_bump 8 ?_
        simp only at hd1
        refine runs_seq ?_
        refine runs_seq ?_
        refine runs_region ?_
        refine rl0 (gn rfl) rfl rfl (step_mv rfl rfl) trivial ?_
        refine rl_lss (gn rfl) rfl rfl rfl rfl rfl (fun h3 => ?_) (fun h3 => ?_)
        · skip
          refine runsL_nil ?_
          refine runs_cond true (ev_mk rfl) (fun _ => ?_) (fun h_ => nomatch h_)
          refine runs_skip ?_
          refine runs_seq ?_
          refine runs_block ?_
          refine runs_region ?_
          refine rl0 (gn rfl) rfl rfl (step_mv rfl rfl) trivial ?_
          refine rl0 (gn rfl) rfl rfl (step_mv rfl rfl) trivial ?_
          refine rl0 (gn rfl) rfl rfl (step_mv rfl rfl) trivial ?_
          refine rl0 (gn rfl) rfl rfl (step_quo rfl (ev_mk rfl) (ev_mk rfl) (by omega) (by omega) (w64 (by omega))) trivial ?_
          refine rl0 (gn rfl) rfl rfl (step_mv rfl rfl) trivial ?_
          refine rl0 (gn rfl) rfl rfl (step_rem rfl (ev_mk rfl) (ev_mk rfl) (by omega) (by omega)) trivial ?_
          first
            | (refine' rl0 (gn rfl) rfl rfl (step_index rfl (ev_mk rfl) (.inl rfl) (ev_mk rfl) Try.underlying24 F.sz45 (by omega) ?hr) trivial ?_; (case hr => exact map_at _ _ _ (by omega) (by omega)))
            | (refine' rl0 (gn rfl) rfl rfl (step_index rfl (ev_mk rfl) (.inr (.inl rfl)) (ev_mk rfl) Try.underlying24 F.sz45 (by omega) ?hr) trivial ?_; (case hr => exact map_at _ _ _ (by omega) (by omega)))
            | (refine' rl0 (gn rfl) rfl rfl (step_index rfl (ev_mk rfl) (.inr (.inr ⟨_, rfl⟩)) (ev_mk rfl) Try.underlying24 F.sz45 (by omega) ?hr) trivial ?_; (case hr => exact map_at _ _ _ (by omega) (by omega)))
            | (refine rl0 (gn rfl) rfl rfl (step_index_msl rfl (ev_mk rfl) (ev_mk rfl) Try.underlying24 F.sz45 (by omega) (by omega)) trivial ?_)
          refine' rl0 (gn rfl) rfl rfl (step_index_ro rfl (ev_mk rfl) (ev_mk rfl) Try.underlying45 F.sz5 (by omega) (by omega) ?hr) trivial ?_
          case hr => exact map_atV bV _ _ (by omega) (by rw [hl _ (at_int (by omega) (by omega))]; omega)
          first
            | (refine' rl0 (gn rfl) rfl rfl (step_load_one rfl (ev_mk rfl) F.one5 ?hv) ⟨?hb, trivial⟩ ?_; (case hb => repeat (first | exact upd_eq _ _ _ | refine (upd_ne _ _ _ _ (by omega)).trans ?_ | assumption | exact hd _ (by omega) | exact hd0 _ (by omega) | exact hd1 _ (by omega) | exact hd2 _ (by omega) | fail)); (case hv => exact rfl))
            | (refine rl0 (gn rfl) rfl rfl (step_load_ro rfl (ev_mk rfl) F.one5 rfl) trivial ?_)
          refine rl0 (gn rfl) rfl rfl (step_index_arr rfl (ev_mk rfl) (ev_mk rfl) Try.underlying22 F.sz5 (by omega) (by omega)) trivial ?_
          refine' rls (gn rfl) rfl (step_store1 rfl rfl rfl rfl F.one5 rfl rfl ?hl ?hc) ⟨?hb, trivial⟩ ?hk ?_
          case hb => repeat (first | exact upd_eq _ _ _ | refine (upd_ne _ _ _ _ (by omega)).trans ?_ | assumption | exact hd _ (by omega) | exact hd0 _ (by omega) | exact hd1 _ (by omega) | exact hd2 _ (by omega) | fail)
          case hl => rw [List.length_map, gQ_len _ (by omega)]; omega
          case hc => exact gQ_set l (by omega)
          case hk => omega
          refine runsL_nil ?_
          refine runs_region ?_
          refine rl0 (gn rfl) rfl rfl (step_mv rfl rfl) trivial ?_
          refine rl0 (gn rfl) rfl rfl (step_add rfl (ev_mk rfl) (ev_mk rfl) (w64 (by omega))) trivial ?_
          refine rl0 (gn rfl) rfl rfl (step_as rfl rfl) trivial ?_
          refine runsL_nil ?_
          refine ⟨_, _, ?_, sle ?_ (Nat.le_refl _), k + 1, _, _, rfl, rfl, by omega, (fun k hk => by repeat (first | exact hf1 k hk | exact hf0 k hk | exact hf1 k hk | exact hf2 k hk | refine (upd_ne _ _ _ _ (by first | assumption | omega)).trans ?_ | fail)), by repeat (first | exact upd_eq _ _ _ | assumption | refine (upd_ne _ _ _ _ (by omega)).trans ?_ | fail), by repeat (first | exact upd_eq _ _ _ | assumption | refine (upd_ne _ _ _ _ (by omega)).trans ?_ | fail), by omega⟩
          · omega
          · (repeat' (first | exact trivial | refine ⟨⟨_, rfl, ?_⟩, ?_⟩ | fail)); (all_goals first | exact VLe.refl _ | (rw [Int.natCast_add]; exact VLe.refl _) | exact VLe.own_sl _ _ _ | exact VLe.fl_sl _ _ | exact VLe.nil_sl _)
        · skip
          refine runsL_nil ?_
          refine runs_cond false (ev_mk rfl) (fun h_ => nomatch h_) (fun _ => ?_)
          refine runs_exit ?_
          refine runs_seq ?_
          refine runs_draw (by kernel_rfl) (by kernel_rfl) (by kernel_rfl) ?_
          first
            | (refine' dl0 (gn rfl) rfl rfl (step_load_all rfl rfl F.agg22 ?hl) ⟨?hb, trivial⟩ ?_; (case hb => repeat (first | exact upd_eq _ _ _ | refine (upd_ne _ _ _ _ (by omega)).trans ?_ | assumption | exact hd _ (by omega) | exact hd0 _ (by omega) | exact hd1 _ (by omega) | exact hd2 _ (by omega) | fail)); (case hl => first | rfl | (simp; done) | (first | (simp; done) | (rw [List.length_map]; exact hl _ (at_int (by omega) (by omega))) | (rw [List.length_map, gQ_len _ (by omega)]))))
            | (refine dl0 (gn rfl) rfl rfl (step_load_ro_all rfl rfl F.agg22 (by first | rfl | (simp; done) | (first | (simp; done) | (rw [List.length_map]; exact hl _ (at_int (by omega) (by omega))) | (rw [List.length_map, gQ_len _ (by omega)])))) trivial ?_)
            | (refine' dl0 (gn rfl) rfl rfl (step_load_agg rfl (ev_mk rfl) F.agg22 ?hc ?hl) ⟨?hb, trivial⟩ ?_; (case hb => repeat (first | exact upd_eq _ _ _ | refine (upd_ne _ _ _ _ (by omega)).trans ?_ | assumption | exact hd _ (by omega) | exact hd0 _ (by omega) | exact hd1 _ (by omega) | exact hd2 _ (by omega) | fail)); (case hc => rfl); (case hl => first | rfl | (simp; done)))
            | (refine dl0 (gn rfl) rfl rfl (step_load_ro_agg rfl (ev_mk rfl) F.agg22 rfl rfl) trivial ?_)
          refine dl0 (gn rfl) rfl rfl (step_mv rfl rfl) trivial ?_
          first
            | (refine' dl0 (gn rfl) rfl rfl (step_index rfl (ev_mk rfl) (.inl rfl) (ev_mk rfl) Try.underlying24 F.sz45 (by omega) ?hr) trivial ?_; (case hr => exact map_at _ _ _ (by omega) (by omega)))
            | (refine' dl0 (gn rfl) rfl rfl (step_index rfl (ev_mk rfl) (.inr (.inl rfl)) (ev_mk rfl) Try.underlying24 F.sz45 (by omega) ?hr) trivial ?_; (case hr => exact map_at _ _ _ (by omega) (by omega)))
            | (refine' dl0 (gn rfl) rfl rfl (step_index rfl (ev_mk rfl) (.inr (.inr ⟨_, rfl⟩)) (ev_mk rfl) Try.underlying24 F.sz45 (by omega) ?hr) trivial ?_; (case hr => exact map_at _ _ _ (by omega) (by omega)))
            | (refine dl0 (gn rfl) rfl rfl (step_index_msl rfl (ev_mk rfl) (ev_mk rfl) Try.underlying24 F.sz45 (by omega) (by omega)) trivial ?_)
          first
            | (refine' dl0 (gn rfl) rfl rfl (step_load_all rfl rfl F.agg45 ?hl) ⟨?hb, trivial⟩ ?_; (case hb => repeat (first | exact upd_eq _ _ _ | refine (upd_ne _ _ _ _ (by omega)).trans ?_ | assumption | exact hd _ (by omega) | exact hd0 _ (by omega) | exact hd1 _ (by omega) | exact hd2 _ (by omega) | fail)); (case hl => first | rfl | (simp; done) | (first | (simp; done) | (rw [List.length_map]; exact hl _ (at_int (by omega) (by omega))) | (rw [List.length_map, gQ_len _ (by omega)]))))
            | (refine dl0 (gn rfl) rfl rfl (step_load_ro_all rfl rfl F.agg45 (by first | rfl | (simp; done) | (first | (simp; done) | (rw [List.length_map]; exact hl _ (at_int (by omega) (by omega))) | (rw [List.length_map, gQ_len _ (by omega)])))) trivial ?_)
            | (refine' dl0 (gn rfl) rfl rfl (step_load_agg rfl (ev_mk rfl) F.agg45 ?hc ?hl) ⟨?hb, trivial⟩ ?_; (case hb => repeat (first | exact upd_eq _ _ _ | refine (upd_ne _ _ _ _ (by omega)).trans ?_ | assumption | exact hd _ (by omega) | exact hd0 _ (by omega) | exact hd1 _ (by omega) | exact hd2 _ (by omega) | fail)); (case hc => rfl); (case hl => first | rfl | (simp; done)))
            | (refine dl0 (gn rfl) rfl rfl (step_load_ro_agg rfl (ev_mk rfl) F.agg45 rfl rfl) trivial ?_)
          refine dl0 (gn rfl) rfl rfl (step_callc rfl Try.func23 rfl rfl rfl (mark_c (at' l 0) (hl _ (at_int (by omega) (by omega))) (hb _ (at_int (by omega) (by omega)))) (by repeat (first | exact .nil | refine .cons ?_ ?_ | exact VLe.refl _ | exact VLe.own_sl _ _ _ | exact VLe.fl_sl _ _ | exact VLe.nil_sl _ | exact VLe.nil_fl _ | refine VLe.agg ?_))) trivial ?_
          first
            | (refine' dls (gn rfl) rfl (step_storeA rfl rfl rfl rfl F.agg22 ?hm ?hl) ⟨?hb, trivial⟩ ?hk ?_; (case hb => repeat (first | exact upd_eq _ _ _ | refine (upd_ne _ _ _ _ (by omega)).trans ?_ | assumption | exact hd _ (by omega) | exact hd0 _ (by omega) | exact hd1 _ (by omega) | exact hd2 _ (by omega) | fail)); (case hm => first | rfl | (simp; done) | (first | (simp; done) | (rw [List.length_map]; exact hl _ (at_int (by omega) (by omega))) | (rw [List.length_map, gQ_len _ (by omega)]))); (case hl => first | rfl | (simp; done) | (first | (simp; done) | (rw [List.length_map]; exact hl _ (at_int (by omega) (by omega))) | (rw [List.length_map, gQ_len _ (by omega)]))); (case hk => omega))
            | (refine' dls (gn rfl) rfl (step_storeS rfl rfl rfl rfl F.agg22 ?hm ?hl ?hc) ⟨?hb, trivial⟩ ?hk ?_; (case hb => repeat (first | exact upd_eq _ _ _ | refine (upd_ne _ _ _ _ (by omega)).trans ?_ | assumption | exact hd _ (by omega) | exact hd0 _ (by omega) | exact hd1 _ (by omega) | exact hd2 _ (by omega) | fail)); (case hm => first | rfl | (simp; done) | (first | (simp; done) | (rw [List.length_map]; exact hl _ (at_int (by omega) (by omega))) | (rw [List.length_map, gQ_len _ (by omega)]))); (case hl => first | decide | (simp; done) | (first | (simp; done) | (rw [List.length_map]; exact hl _ (at_int (by omega) (by omega))) | (rw [List.length_map, gQ_len _ (by omega)]))); (case hc => rfl); (case hk => omega))
          refine dl0 (gn rfl) rfl rfl (step_as rfl rfl) trivial ?_
          refine dl0 (gn rfl) rfl rfl (step_as rfl rfl) trivial ?_
          refine dlnil ?_ ?_
          · repeat' (first | exact trivial | exact .inr (ap0 _ _ _ _) | exact .inr (ap2 _ _ _ _) | exact .inr (ap3 _ _ _ _) | exact .inr ⟨by first | (simp; done) | (simp; omega), by first | (simp; done) | (simp; omega)⟩ | exact .inl (by kernel_rfl) | refine ⟨?_, ?_⟩ | fail)
          refine runs_ret ?_
          refine ⟨by first | exact .inr rfl | exact .inl rfl, fin_mk (resc rfl (by repeat (first | exact upd_eq _ _ _ | refine (upd_ne _ _ _ _ (by omega)).trans ?_ | assumption | exact hd _ (by omega) | exact hd0 _ (by omega) | exact hd1 _ (by omega) | exact hd2 _ (by omega) | fail)) F.agg22 (by first | rfl | (first | (simp; done) | (rw [List.length_map]; exact hl _ (at_int (by omega) (by omega))) | (rw [List.length_map, gQ_len _ (by omega)]))) (rest rfl (rest rfl res0))) ?_ ?_ ?_ ?_⟩
          · (obtain rfl : k = 224 := by omega); rw [← gQ_all hl h4]; exact VLe.refl _
          · repeat (first | exact trivial | assumption | omega | exact bd_bs | exact bd_row | exact bd_secs | exact bd_bools | refine ⟨?_, ?_⟩ | fail)
          · intro k hk; exact ble (by first | exact rfl | (refine (upd_ne _ _ _ _ (by omega)).trans ?_; first | exact rfl | skip; repeat (first | exact rfl | refine (upd_ne _ _ _ _ (by omega)).trans ?_ | assumption | exact hf0 _ (by omega) | exact hf1 _ (by omega) | exact hf2 _ (by omega) | exact hf0 _ (by omega) (by first | assumption | omega) | exact hf1 _ (by omega) (by first | assumption | omega))) | exact hf0 _ (by omega) | exact hf1 _ (by omega) | exact hf2 _ (by omega) | exact hf0 _ (by omega) (by first | assumption | omega) | exact hf1 _ (by omega) (by first | assumption | omega))
          · intro p hp; cases hp
theorem rg_all (l : List (List Int)) (h : okL l) (hL : (l.length : Int) ≤ 9223372036854775807) : Does Try.prog 9 [.sl 64 (secsV l)] [] [] (.tup [.agg ((getP l).map bV), .sc (.int .u64 (getN l)), .sc (.bool (getB l))]) := by
  obtain ⟨hl, hb⟩ := h
  by_cases h4 : l.length = 4
  · by_cases ht : ∀ r ∈ l, beN (r.drop 56) = beN ((at' l 0).drop 56)
    · have e : getB l = true := decide_eq_true ⟨h4, ht⟩
      rw [getP, getN, e]
      exact rg_ok l hl hb hL h4 ht
    · have e : getB l = false := decide_eq_false fun h => ht h.2
      rw [getP, getN, e]
      simp only [Bool.false_eq_true, if_false, zP_cells]
      exact rg_torn l hl hb hL h4 (by
        refine Classical.byContradiction fun hc => ht fun r hr => ?_
        exact Classical.byContradiction fun hn => hc ⟨r, hr, hn⟩)
  · have e : getB l = false := decide_eq_false fun h => h4 h.1
    rw [getP, getN, e]
    simp only [Bool.false_eq_true, if_false, zP_cells]
    exact rg_len l hl hb hL h4
theorem shape22 : shapeOf Try.prog 3 22 = some (List.replicate 224 (CK.i .u8)) := by kernel_rfl
theorem eqg22 : Try.prog.eqGuardType Try.prog.depth 22 = false := by kernel_rfl
theorem step_eql22 {o : Oper} {l : List (Nat × V)} {x y : Operand} {a b : List Int} {q : Bool} {ty2 : TypeId} (ho : o.op = .binOp .eql 22 x y ty2) (hx : lko l x = some (.agg (a.map bV))) (hy : lko l y = some (.agg (b.map bV))) (ha : a.length = 224) (hb : b.length = 224) (hq : decide (a = b) = q) : StepOK Try.prog o (mk l) [] [] (.sc (.bool q)) := by
  subst hq
  rw [bV_sc] at hx hy
  refine step_eq_agg (xs := a.map fun x => Value.int .u8 x) (ys := b.map fun x => Value.int .u8 x) ho (ev_mk hx) (ev_mk hy) shape22 (by omega) ⟨_, Try.underlying22, rfl⟩ eqg22 (fits_ints a 224 ha) (fits_ints b 224 hb) (.inl ⟨rfl, ?_⟩)
  rw [eqCs_ints a b (by omega)]
theorem zP_len : zP.length = 224 := List.length_replicate ..
set_option maxRecDepth 100000 in
set_option maxHeartbeats 4000000 in
theorem blank_c (p : List Int) (hp : p.length = 224) (q : Bool) (hq : decide (p = zP) = q) : Does Try.prog 19 [.agg (p.map bV)] [] [] (.sc (.bool q)) := by
  refine does_mk 20 Try.func19 rfl rfl rfl (fun n B bx hd hpre hup hvs hbx => ?_)
  refine runs_seq ?_
  refine runs_region ?_
  first | refine rl1 (gn rfl) rfl rfl (step_box_agg (k := n + 0) rfl rfl) ⟨by repeat (first | exact upd_eq _ _ _ | refine (upd_ne _ _ _ _ (by omega)).trans ?_ | assumption | exact hd _ (by omega) | exact hd0 _ (by omega) | exact hd1 _ (by omega) | exact hd2 _ (by omega) | fail), trivial⟩ (by omega) ?_ | refine rl1 (gn rfl) rfl rfl (step_box_one (k := n + 0) rfl rfl rfl rfl) ⟨by repeat (first | exact upd_eq _ _ _ | refine (upd_ne _ _ _ _ (by omega)).trans ?_ | assumption | exact hd _ (by omega) | exact hd0 _ (by omega) | exact hd1 _ (by omega) | exact hd2 _ (by omega) | fail), trivial⟩ (by omega) ?_
  refine rl0 (gn rfl) rfl rfl (step_as rfl rfl) trivial ?_
  refine runsL_nil ?_
  refine runs_seq ?_
  refine runs_region ?_
  first
    | (refine' rl0 (gn rfl) rfl rfl (step_load_all rfl rfl F.agg22 ?hl) ⟨?hb, trivial⟩ ?_; (case hb => repeat (first | exact upd_eq _ _ _ | refine (upd_ne _ _ _ _ (by omega)).trans ?_ | assumption | exact hd _ (by omega) | exact hd0 _ (by omega) | exact hd1 _ (by omega) | exact hd2 _ (by omega) | fail)); (case hl => first | rfl | (simp; done) | (rw [List.length_map]; exact hp)))
    | (refine rl0 (gn rfl) rfl rfl (step_load_ro_all rfl rfl F.agg22 (by first | rfl | (simp; done) | (rw [List.length_map]; exact hp))) trivial ?_)
    | (refine' rl0 (gn rfl) rfl rfl (step_load_agg rfl (ev_mk rfl) F.agg22 ?hc ?hl) ⟨?hb, trivial⟩ ?_; (case hb => repeat (first | exact upd_eq _ _ _ | refine (upd_ne _ _ _ _ (by omega)).trans ?_ | assumption | exact hd _ (by omega) | exact hd0 _ (by omega) | exact hd1 _ (by omega) | exact hd2 _ (by omega) | fail)); (case hc => rfl); (case hl => first | rfl | (simp; done)))
    | (refine rl0 (gn rfl) rfl rfl (step_load_ro_agg rfl (ev_mk rfl) F.agg22 rfl rfl) trivial ?_)
  refine rl0 (gn rfl) rfl rfl (step_build_zero rfl rfl Try.underlying22 F.sz5 F.zero22 rfl) trivial ?_
  refine rl0 (gn rfl) rfl rfl (step_eql22 (b := zP) rfl rfl (congrArg (fun x => some (V.agg x)) zP_cells.symm) hp zP_len hq) trivial ?_
  refine rl0 (gn rfl) rfl rfl (step_as rfl rfl) trivial ?_
  refine runsL_nil ?_
  refine runs_ret ?_
  refine ⟨by first | exact .inr rfl | exact .inl rfl, fin_mk (rest rfl res0) ?_ ?_ ?_ ?_⟩
  · first | exact VLe.refl _ | exact VLe.own_sl _ _ _ | exact VLe.fl_sl _ _
  · repeat (first | exact trivial | assumption | omega | exact bd_bs | exact bd_row | exact bd_secs | exact bd_bools | refine ⟨?_, ?_⟩ | fail)
  · intro k hk; exact ble (by first | exact rfl | (refine (upd_ne _ _ _ _ (by omega)).trans ?_; first | exact rfl | skip; repeat (first | exact rfl | refine (upd_ne _ _ _ _ (by omega)).trans ?_ | assumption | exact hf0 _ (by omega) | exact hf1 _ (by omega) | exact hf2 _ (by omega) | exact hf0 _ (by omega) (by first | assumption | omega) | exact hf1 _ (by omega) (by first | assumption | omega))) | exact hf0 _ (by omega) | exact hf1 _ (by omega) | exact hf2 _ (by omega) | exact hf0 _ (by omega) (by first | assumption | omega) | exact hf1 _ (by omega) (by first | assumption | omega))
  · intro p hp; cases hp
end Go.Proofs.Ytdcmcmgbnkolbaa
