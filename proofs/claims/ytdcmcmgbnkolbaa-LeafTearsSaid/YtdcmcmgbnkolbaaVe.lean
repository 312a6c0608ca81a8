/- Walks of the leaf, by the logic of values. -/
import Derived.Test.YtdcmcmgbnkolbaaVd
import Derived.Test.YtdcmcmgbnkolbaaVmK
namespace Go.Proofs.Ytdcmcmgbnkolbaa
open Go.Vm
set_option linter.unusedVariables false
set_option linter.unusedSimpArgs false
def pc (p : List Int) (j : Nat) : List Int := (p.drop (56 * j)).take 56
def putS (p : List Int) (v : Int) (j : Nat) : List (List Int) := (List.range j).map fun i => pc p i ++ beB 8 v
theorem pc_len {p : List Int} (hp : p.length = 224) {j : Nat} (h : j < 4) : (pc p j).length = 56 := by simp [pc, hp]; omega
theorem putS_len (p : List Int) (v : Int) (j : Nat) : (putS p v j).length = j := by simp [putS]
theorem putS_snoc (p : List Int) (v : Int) (j : Nat) : secsV (putS p v j) ++ [(pc p j ++ beB 8 v).map bV] = secsV (putS p v (j + 1)) := by simp [putS, secsV, List.range_succ]
theorem putS_row {p : List Int} (hp : p.length = 224) (v : Int) : ∀ r ∈ putS p v 4, r.length = 64 := by
  intro r hr
  simp only [putS, List.mem_map, List.mem_range] at hr
  obtain ⟨i, hi, rfl⟩ := hr
  rw [List.length_append, pc_len hp hi, beB_len]
theorem bytesV_flat (xs : List Int) : (bytesV xs).flatten = xs.map bV := by
  unfold bytesV
  induction xs with
  | nil => rfl
  | cons x xs ih => rw [List.map_cons, List.flatten_cons, ih]; rfl
theorem sec_a {p : List Int} (hp : p.length = 224) {j : Nat} (h : j < 4) : setSeg (List.replicate 64 (V.sc (.int .u8 0))) 0 (bytesV (pc p j)).flatten = (pc p j ++ List.replicate 8 0).map bV := by
  unfold setSeg
  rw [bytesV_flat, List.length_map, pc_len hp h, List.take_zero, List.nil_append, List.drop_replicate, List.map_append, List.map_replicate]
  rfl
theorem sec_b {p : List Int} (hp : p.length = 224) {j : Nat} (h : j < 4) (v : Int) : setSeg ((pc p j ++ List.replicate 8 0).map bV) 56 (bytesV (beB 8 v)).flatten = (pc p j ++ beB 8 v).map bV := by
  unfold setSeg
  have h1 := pc_len hp h
  rw [bytesV_flat, List.length_map, beB_len, List.map_append, List.take_append_of_le_length (by rw [List.length_map]; omega), List.take_of_length_le (by rw [List.length_map]; omega), List.drop_of_length_le (by rw [List.length_append, List.length_map, List.length_map, List.length_replicate]; omega), List.append_nil, List.map_append]
theorem rows_of (b : List Int) : rowsOf 1 b.length (b.map bV) = bytesV b := by
  induction b with
  | nil => rfl
  | cons x xs ih => simp only [List.length_cons, rowsOf, List.map_cons, List.take_succ_cons, List.take_zero, List.drop_succ_cons, List.drop_zero]; rw [ih]; rfl
theorem rows_pc {p : List Int} (hp : p.length = 224) {j : Nat} (h : j < 4) : rowsOf 1 56 (((p.map bV).drop (56 * j)).take (56 * 1)) = bytesV (pc p j) := by
  have := rows_of (pc p j)
  rw [pc_len hp h] at this
  rw [← List.map_drop, ← List.map_take]
  exact this
theorem sec_len {p : List Int} (hp : p.length = 224) {j : Nat} (h : j < 4) (v : Int) : ((pc p j ++ beB 8 v).map bV).length = 64 := by rw [List.length_map, List.length_append, pc_len hp h, beB_len]
theorem sec_len0 {p : List Int} (hp : p.length = 224) {j : Nat} (h : j < 4) : ((pc p j ++ List.replicate 8 0).map bV).length = 64 := by rw [List.length_map, List.length_append, pc_len hp h, List.length_replicate]
set_option maxRecDepth 100000 in
set_option maxHeartbeats 4000000 in
theorem put_c (p : List Int) (hp : p.length = 224) (v : Int) (hv : U64 v) : Does Try.prog 7 [.agg (p.map bV), .sc (.int .u64 v)] [] [] (.sl 64 (secsV (putS p v 4))) := by
  refine does_mk 20 Try.func7 rfl rfl rfl (fun n B bx hd hpre hup hvs hbx => ?_)
  refine runs_seq ?_
  refine runs_region ?_
  first | refine rl1 (gn rfl) rfl rfl (step_box_agg (k := n + 0) rfl rfl) ⟨by repeat (first | exact upd_eq _ _ _ | refine (upd_ne _ _ _ _ (by omega)).trans ?_ | assumption | exact hd _ (by omega) | exact hd0 _ (by omega) | exact hd1 _ (by omega) | exact hd2 _ (by omega) | fail), trivial⟩ (by omega) ?_ | refine rl1 (gn rfl) rfl rfl (step_box_one (k := n + 0) rfl rfl rfl rfl) ⟨by repeat (first | exact upd_eq _ _ _ | refine (upd_ne _ _ _ _ (by omega)).trans ?_ | assumption | exact hd _ (by omega) | exact hd0 _ (by omega) | exact hd1 _ (by omega) | exact hd2 _ (by omega) | fail), trivial⟩ (by omega) ?_
  refine rl0 (gn rfl) rfl rfl (step_as rfl rfl) trivial ?_
  refine runsL_nil ?_
  refine runs_seq ?_
  refine runs_region ?_
  refine rl0 (gn rfl) rfl rfl (step_as rfl rfl) trivial ?_
  refine runsL_nil ?_
  refine runs_seq ?_
  refine runs_seq ?_
  refine runs_region ?_
  refine rl0 (gn rfl) rfl rfl (step_mv rfl rfl) trivial ?_
  refine runsL_nil ?_
  refine runs_block ?_
  refine runs_grow (l' := []) (d := 5) (k := n + 1) (e := 64) rfl (.inr ⟨rfl, rfl⟩) (by repeat (first | exact upd_eq _ _ _ | refine (upd_ne _ _ _ _ (by omega)).trans ?_ | assumption | exact hd _ (by omega) | exact hd0 _ (by omega) | exact hd1 _ (by omega) | exact hd2 _ (by omega) | fail)) (by omega) ?_
  refine runs_loop (fun (i : Nat) (s : Go.Vm.S) => ∃ (j : Nat) (m0 : Nat) (b0 : Nat → Box), (s = ⟨mk [(1, .sc (.int .u64 v)), (2, .ref (n + 0) 0), (5, .own 64 (secsV (putS p v j)) (n + 1)), (8, .sc (.int .i64 j))], m0, b0⟩) ∧ (i = 4 - j) ∧ (n + 2 ≤ m0) ∧ (∀ k, k < n → b0 k = bx k) ∧ (b0 (n + 0) = .cells (p.map bV)) ∧ (b0 (n + 1) = .tail (secsV (putS p v j)).length) ∧ (j ≤ 4)) (4) ⟨_, sle ?_ (Nat.le_refl _), 0, _, _, rfl, rfl, ?_⟩ ?_
  · (repeat' (first | exact trivial | refine ⟨⟨_, rfl, ?_⟩, ?_⟩ | fail)); (all_goals first | exact VLe.refl _ | (rw [Int.natCast_add]; exact VLe.refl _) | exact VLe.own_sl _ _ _ | exact VLe.fl_sl _ _ | exact VLe.nil_sl _ | (rw [← hsn_]; exact VLe.refl _))
  · exact ⟨by omega, (fun k hk => by first | exact rfl | (refine (upd_ne _ _ _ _ (by omega)).trans ?_; first | exact rfl | skip; repeat (first | exact rfl | refine (upd_ne _ _ _ _ (by omega)).trans ?_ | assumption | exact hf0 _ (by omega) | exact hf1 _ (by omega) | exact hf2 _ (by omega) | exact hf0 _ (by omega) (by first | assumption | omega) | exact hf1 _ (by omega) (by first | assumption | omega))) | exact hf0 _ (by omega) | exact hf1 _ (by omega) | exact hf2 _ (by omega) | exact hf0 _ (by omega) (by first | assumption | omega) | exact hf1 _ (by omega) (by first | assumption | omega)), by repeat (first | exact upd_eq _ _ _ | assumption | refine (upd_ne _ _ _ _ (by omega)).trans ?_ | fail), by repeat (first | exact upd_eq _ _ _ | assumption | refine (upd_ne _ _ _ _ (by omega)).trans ?_ | fail), by omega⟩
  · rintro _ _ ⟨j, m0, b0, rfl, rfl, hm0, hf0, hB0_0, hB0_1, hF0_0⟩
    refine runs_know (fun hd0 => ?_)
    refine runs_bump 8 ?_
    simp only at hd0
    refine runs_seq ?_
    refine runs_region ?_
    refine rl_lss (gn rfl) rfl rfl rfl rfl rfl (fun h1 => ?_) (fun h1 => ?_)
    · skip
      refine runsL_nil ?_
      refine runs_seq ?_
      refine runs_cond true (ev_mk rfl) (fun _ => ?_) (fun h_ => nomatch h_)
      refine runs_skip ?_
      refine runs_seq ?_
      refine runs_block ?_
      refine runs_seq ?_
      refine runs_region ?_
      refine rl0 (gn rfl) rfl rfl (step_mv rfl rfl) trivial ?_
      refine rl0 (gn rfl) rfl rfl (step_as rfl rfl) trivial ?_
      refine runsL_nil ?_
      refine runs_seq ?_
      refine runs_region ?_
      refine rl1 (gn rfl) rfl rfl (step_allocc (k := m0 + 0) (zs := (List.replicate 64 (.int .u8 0))) (cs := List.replicate 64 (.sc (.int .u8 0))) rfl F.zero45 (by first | rfl | simp) (by first | rfl | decide | simp) (by first | rfl | simp)) ⟨by repeat (first | exact upd_eq _ _ _ | refine (upd_ne _ _ _ _ (by omega)).trans ?_ | assumption | exact hd _ (by omega) | exact hd0 _ (by omega) | exact hd1 _ (by omega) | exact hd2 _ (by omega) | fail), trivial⟩ (by omega) ?_
      refine runsL_nil ?_
      refine runs_seq ?_
      refine runs_draw (by kernel_rfl) (by kernel_rfl) (by kernel_rfl) ?_
      first
        | (refine dl0 (gn rfl) rfl rfl (step_sl_arr (a := 0) (h := 64) (m := 64) (q' := 0) (n' := 64) (c' := 64) rfl (ev_mk rfl) Try.underlying45 F.sz5 bndLo_none bndHi_none bndHi_none (fun h_ => by first | rfl | nomatch h_) (by omega) (by omega) (by omega) (.inl ⟨by omega, by omega⟩) (by first | rfl | omega) (by first | rfl | omega)) trivial ?_)
        | (refine dl0 (gn rfl) rfl rfl (step_slice_ro (a := 0) (h := 64) rfl (ev_mk rfl) Try.underlying45 F.sz5 bndLo_none bndHi_none (by omega) (by omega) (by first | rfl | (simp; done) | (first | (simp; done) | exact sec_len hp (j := j) (by omega) v | (rw [List.length_map]; exact hp) | exact sec_len0 hp (j := j) (by omega))) (rfl)) trivial ?_)
      refine dl0 (gn rfl) rfl rfl (step_mv rfl rfl) trivial ?_
      refine dl0 (gn rfl) rfl rfl (step_mul rfl (ev_mk rfl) (ev_mk rfl) (w64 (by omega))) trivial ?_
      refine dl0 (gn rfl) rfl rfl (step_mv rfl rfl) trivial ?_
      refine dl0 (gn rfl) rfl rfl (step_add rfl (ev_mk rfl) (ev_mk rfl) (w64 (by omega))) trivial ?_
      refine dl0 (gn rfl) rfl rfl (step_mul rfl (ev_mk rfl) (ev_mk rfl) (w64 (by omega))) trivial ?_
      first
        | (refine dl0 (gn rfl) rfl rfl (step_sl_arr (a := (56 * j)) (h := (56 * (j + 1))) (m := 224) (q' := (56 * j)) (n' := 56) (c' := (224 - 56 * j)) rfl (ev_mk rfl) Try.underlying22 F.sz5 (bndLo_nat (a := (56 * j)) rfl (by omega)) (bndHi_nat (a := (56 * (j + 1))) rfl (by omega)) bndHi_none (fun h_ => by first | rfl | nomatch h_) (by omega) (by omega) (by omega) (.inl ⟨by omega, by omega⟩) (by first | rfl | omega) (by first | rfl | omega)) trivial ?_)
        | (refine dl0 (gn rfl) rfl rfl (step_slice_ro (a := (56 * j)) (h := (56 * (j + 1))) rfl (ev_mk rfl) Try.underlying22 F.sz5 (bndLo_nat (a := (56 * j)) rfl (by omega)) (bndHi_nat (a := (56 * (j + 1))) rfl (by omega)) (by omega) (by omega) (by first | rfl | (simp; done) | (first | (simp; done) | exact sec_len hp (j := j) (by omega) v | (rw [List.length_map]; exact hp) | exact sec_len0 hp (j := j) (by omega))) (rfl)) trivial ?_)
      refine' dl1 (gn rfl) rfl rfl (step_copy rfl rfl Try.underlying48 F.sz5 (ev_mk rfl) (ev_mk rfl) (gives_msl (ys := bytesV (pc p j)) ?hl2 ?hy2) ?hmn ?hl ?hcs) ⟨?hb, ⟨?hm2, trivial⟩⟩ (by omega) ?_
      case hb => repeat (first | exact upd_eq _ _ _ | refine (upd_ne _ _ _ _ (by omega)).trans ?_ | assumption | exact hd _ (by omega) | exact hd0 _ (by omega) | exact hd1 _ (by omega) | exact hd2 _ (by omega) | fail)
      case hmn => exact Nat.min_eq_left (by rw [bytesV, List.length_map, pc_len hp (by omega)]; omega)
      case hl => first | (simp; done) | decide
      case hcs => exact (congrArg (setSeg _ _) (congrArg List.flatten (List.take_of_length_le (Nat.le_refl _)))).trans (sec_a hp (j := j) (by omega))
      case hm2 => repeat (first | exact upd_eq _ _ _ | refine (upd_ne _ _ _ _ (by omega)).trans ?_ | assumption | exact hd _ (by omega) | exact hd0 _ (by omega) | exact hd1 _ (by omega) | exact hd2 _ (by omega) | fail)
      case hl2 => rw [List.length_map, hp]; omega
      case hy2 => exact rows_pc hp (j := j) (by omega)
      refine dlnil ?_ ?_
      · repeat' (first | exact trivial | exact .inr (ap0 _ _ _ _) | exact .inr (ap2 _ _ _ _) | exact .inr (ap3 _ _ _ _) | exact .inr ⟨by first | (simp; done) | (simp; omega), by first | (simp; done) | (simp; omega)⟩ | exact .inl (by kernel_rfl) | refine ⟨?_, ?_⟩ | fail)
      refine runs_seq ?_
      refine runs_draw (by kernel_rfl) (by kernel_rfl) (by kernel_rfl) ?_
      first
        | (refine dl0 (gn rfl) rfl rfl (step_sl_arr (a := 56) (h := 64) (m := 64) (q' := 56) (n' := 8) (c' := 8) rfl (ev_mk rfl) Try.underlying45 F.sz5 (bndLo_nat (a := 56) rfl (by omega)) bndHi_none bndHi_none (fun h_ => by first | rfl | nomatch h_) (by omega) (by omega) (by omega) (.inl ⟨by omega, by omega⟩) (by first | rfl | omega) (by first | rfl | omega)) trivial ?_)
        | (refine dl0 (gn rfl) rfl rfl (step_slice_ro (a := 56) (h := 64) rfl (ev_mk rfl) Try.underlying45 F.sz5 (bndLo_nat (a := 56) rfl (by omega)) bndHi_none (by omega) (by omega) (by first | rfl | (simp; done) | (first | (simp; done) | exact sec_len hp (j := j) (by omega) v | (rw [List.length_map]; exact hp) | exact sec_len0 hp (j := j) (by omega))) (rfl)) trivial ?_)
      refine dl0 (gn rfl) rfl rfl (step_mv rfl rfl) trivial ?_
      refine dl0 (gn rfl) rfl rfl (step_callc rfl Try.func21 rfl rfl rfl (wput_c v hv) (by repeat (first | exact .nil | refine .cons ?_ ?_ | exact VLe.refl _ | exact VLe.own_sl _ _ _ | exact VLe.fl_sl _ _ | exact VLe.nil_sl _ | exact VLe.nil_fl _ | refine VLe.agg ?_))) trivial ?_
      refine' dl1 (gn rfl) rfl rfl (step_copy rfl rfl Try.underlying48 F.sz5 (ev_mk rfl) (ev_mk rfl) (gives_sl (.inl rfl)) ?hmn ?hl ?hcs) ⟨?hb, trivial⟩ (by omega) ?_
      case hb => repeat (first | exact upd_eq _ _ _ | refine (upd_ne _ _ _ _ (by omega)).trans ?_ | assumption | exact hd _ (by omega) | exact hd0 _ (by omega) | exact hd1 _ (by omega) | exact hd2 _ (by omega) | fail)
      case hmn => exact Nat.min_eq_left (by rw [bytesV, List.length_map, beB_len]; omega)
      case hl => rw [sec_len0 hp (show j < 4 by omega)]; omega
      case hcs => exact (congrArg (setSeg _ _) (congrArg List.flatten (List.take_of_length_le (Nat.le_refl _)))).trans (sec_b hp (j := j) (by omega) v)
      refine dlnil ?_ ?_
      · repeat' (first | exact trivial | exact .inr (ap0 _ _ _ _) | exact .inr (ap2 _ _ _ _) | exact .inr (ap3 _ _ _ _) | exact .inr ⟨by first | (simp; done) | (simp; omega), by first | (simp; done) | (simp; omega)⟩ | exact .inl (by kernel_rfl) | refine ⟨?_, ?_⟩ | fail)
      refine runs_region ?_
      refine rl0 (gn rfl) rfl rfl (step_mv rfl rfl) trivial ?_
      first
        | (refine' rl0 (gn rfl) rfl rfl (step_load_all rfl rfl F.agg45 ?hl) ⟨?hb, trivial⟩ ?_; (case hb => repeat (first | exact upd_eq _ _ _ | refine (upd_ne _ _ _ _ (by omega)).trans ?_ | assumption | exact hd _ (by omega) | exact hd0 _ (by omega) | exact hd1 _ (by omega) | exact hd2 _ (by omega) | fail)); (case hl => first | rfl | (simp; done) | (first | (simp; done) | exact sec_len hp (j := j) (by omega) v | (rw [List.length_map]; exact hp) | exact sec_len0 hp (j := j) (by omega))))
        | (refine rl0 (gn rfl) rfl rfl (step_load_ro_all rfl rfl F.agg45 (by first | rfl | (simp; done) | (first | (simp; done) | exact sec_len hp (j := j) (by omega) v | (rw [List.length_map]; exact hp) | exact sec_len0 hp (j := j) (by omega)))) trivial ?_)
        | (refine' rl0 (gn rfl) rfl rfl (step_load_agg rfl (ev_mk rfl) F.agg45 ?hc ?hl) ⟨?hb, trivial⟩ ?_; (case hb => repeat (first | exact upd_eq _ _ _ | refine (upd_ne _ _ _ _ (by omega)).trans ?_ | assumption | exact hd _ (by omega) | exact hd0 _ (by omega) | exact hd1 _ (by omega) | exact hd2 _ (by omega) | fail)); (case hc => rfl); (case hl => first | rfl | (simp; done)))
        | (refine rl0 (gn rfl) rfl rfl (step_load_ro_agg rfl (ev_mk rfl) F.agg45 rfl rfl) trivial ?_)
      refine rl0 (gn rfl) rfl rfl (step_lit rfl Try.underlying24 F.sz45 F.zero45 (by first | rfl | simp) (by first | rfl | simp | decide) (by decide) rfl rfl (by first | (simp [V.cs, V.stor, oneV]; done) | ((intro v_1 h_; rw [List.mem_singleton] at h_; subst h_; exact ⟨sec_len hp (show j < 4 by omega) v, rfl⟩))) rfl) trivial ?_
      first
        | (refine' rl1 (gn rfl) rfl rfl (step_append_own rfl rfl rfl Try.underlying24 ⟨_, Try.underlying24, fun k_ => by intro h_; cases h_⟩ F.el45 (ev_mk rfl) (ev_mk rfl) (gives_sl (.inl rfl)) ?hg) ⟨?hb, trivial⟩ (by omega) ?_; (case hb => repeat (first | exact upd_eq _ _ _ | refine (upd_ne _ _ _ _ (by omega)).trans ?_ | assumption | exact hd _ (by omega) | exact hd0 _ (by omega) | exact hd1 _ (by omega) | exact hd2 _ (by omega) | fail)); (case hg => (simp [secsV, putS_len]; omega)))
        | (refine' rl1 (gn rfl) rfl rfl (step_append_new (k := m0 + 1) rfl rfl rfl Try.underlying24 ⟨_, Try.underlying24, fun k_ => by intro h_; cases h_⟩ F.el45 (ev_mk rfl) (.inl rfl) (ev_mk rfl) (gives_sl (.inl rfl)) ?hg) ⟨?hb, trivial⟩ (by omega) ?_; (case hb => repeat (first | exact upd_eq _ _ _ | refine (upd_ne _ _ _ _ (by omega)).trans ?_ | assumption | exact hd _ (by omega) | exact hd0 _ (by omega) | exact hd1 _ (by omega) | exact hd2 _ (by omega) | fail)); (case hg => (simp [secsV, putS_len]; omega)))
        | (refine' rl1 (gn rfl) rfl rfl (step_append_new (k := m0 + 1) (xs := []) rfl rfl rfl Try.underlying24 ⟨_, Try.underlying24, fun k_ => by intro h_; cases h_⟩ F.el45 (ev_mk rfl) (.inr ⟨rfl, rfl⟩) (ev_mk rfl) (gives_sl (.inl rfl)) ?hg) ⟨?hb, trivial⟩ (by omega) ?_; (case hb => repeat (first | exact upd_eq _ _ _ | refine (upd_ne _ _ _ _ (by omega)).trans ?_ | assumption | exact hd _ (by omega) | exact hd0 _ (by omega) | exact hd1 _ (by omega) | exact hd2 _ (by omega) | fail)); (case hg => (simp [secsV, putS_len]; omega)))
        | (refine' rl1 (gn rfl) rfl rfl (step_append_own rfl rfl rfl Try.underlying24 ⟨_, Try.underlying24, fun k_ => by intro h_; cases h_⟩ F.el45 (ev_mk rfl) (ev_mk rfl) (gives_sl (.inr (.inl rfl))) ?hg) ⟨?hb, trivial⟩ (by omega) ?_; (case hb => repeat (first | exact upd_eq _ _ _ | refine (upd_ne _ _ _ _ (by omega)).trans ?_ | assumption | exact hd _ (by omega) | exact hd0 _ (by omega) | exact hd1 _ (by omega) | exact hd2 _ (by omega) | fail)); (case hg => (simp [secsV, putS_len]; omega)))
        | (refine' rl1 (gn rfl) rfl rfl (step_append_new (k := m0 + 1) rfl rfl rfl Try.underlying24 ⟨_, Try.underlying24, fun k_ => by intro h_; cases h_⟩ F.el45 (ev_mk rfl) (.inl rfl) (ev_mk rfl) (gives_sl (.inr (.inl rfl))) ?hg) ⟨?hb, trivial⟩ (by omega) ?_; (case hb => repeat (first | exact upd_eq _ _ _ | refine (upd_ne _ _ _ _ (by omega)).trans ?_ | assumption | exact hd _ (by omega) | exact hd0 _ (by omega) | exact hd1 _ (by omega) | exact hd2 _ (by omega) | fail)); (case hg => (simp [secsV, putS_len]; omega)))
        | (refine' rl1 (gn rfl) rfl rfl (step_append_new (k := m0 + 1) (xs := []) rfl rfl rfl Try.underlying24 ⟨_, Try.underlying24, fun k_ => by intro h_; cases h_⟩ F.el45 (ev_mk rfl) (.inr ⟨rfl, rfl⟩) (ev_mk rfl) (gives_sl (.inr (.inl rfl))) ?hg) ⟨?hb, trivial⟩ (by omega) ?_; (case hb => repeat (first | exact upd_eq _ _ _ | refine (upd_ne _ _ _ _ (by omega)).trans ?_ | assumption | exact hd _ (by omega) | exact hd0 _ (by omega) | exact hd1 _ (by omega) | exact hd2 _ (by omega) | fail)); (case hg => (simp [secsV, putS_len]; omega)))
        | (refine' rl1 (gn rfl) rfl rfl (step_append_own rfl rfl rfl Try.underlying24 ⟨_, Try.underlying24, fun k_ => by intro h_; cases h_⟩ F.el45 (ev_mk rfl) (ev_mk rfl) (gives_sl (.inr (.inr ⟨_, rfl⟩))) ?hg) ⟨?hb, trivial⟩ (by omega) ?_; (case hb => repeat (first | exact upd_eq _ _ _ | refine (upd_ne _ _ _ _ (by omega)).trans ?_ | assumption | exact hd _ (by omega) | exact hd0 _ (by omega) | exact hd1 _ (by omega) | exact hd2 _ (by omega) | fail)); (case hg => (simp [secsV, putS_len]; omega)))
        | (refine' rl1 (gn rfl) rfl rfl (step_append_new (k := m0 + 1) rfl rfl rfl Try.underlying24 ⟨_, Try.underlying24, fun k_ => by intro h_; cases h_⟩ F.el45 (ev_mk rfl) (.inl rfl) (ev_mk rfl) (gives_sl (.inr (.inr ⟨_, rfl⟩))) ?hg) ⟨?hb, trivial⟩ (by omega) ?_; (case hb => repeat (first | exact upd_eq _ _ _ | refine (upd_ne _ _ _ _ (by omega)).trans ?_ | assumption | exact hd _ (by omega) | exact hd0 _ (by omega) | exact hd1 _ (by omega) | exact hd2 _ (by omega) | fail)); (case hg => (simp [secsV, putS_len]; omega)))
        | (refine' rl1 (gn rfl) rfl rfl (step_append_new (k := m0 + 1) (xs := []) rfl rfl rfl Try.underlying24 ⟨_, Try.underlying24, fun k_ => by intro h_; cases h_⟩ F.el45 (ev_mk rfl) (.inr ⟨rfl, rfl⟩) (ev_mk rfl) (gives_sl (.inr (.inr ⟨_, rfl⟩))) ?hg) ⟨?hb, trivial⟩ (by omega) ?_; (case hb => repeat (first | exact upd_eq _ _ _ | refine (upd_ne _ _ _ _ (by omega)).trans ?_ | assumption | exact hd _ (by omega) | exact hd0 _ (by omega) | exact hd1 _ (by omega) | exact hd2 _ (by omega) | fail)); (case hg => (simp [secsV, putS_len]; omega)))
        | (refine' rl1 (gn rfl) rfl rfl (step_append_own rfl rfl rfl Try.underlying24 ⟨_, Try.underlying24, fun k_ => by intro h_; cases h_⟩ F.el45 (ev_mk rfl) (ev_mk rfl) gives_nil ?hg) ⟨?hb, trivial⟩ (by omega) ?_; (case hb => repeat (first | exact upd_eq _ _ _ | refine (upd_ne _ _ _ _ (by omega)).trans ?_ | assumption | exact hd _ (by omega) | exact hd0 _ (by omega) | exact hd1 _ (by omega) | exact hd2 _ (by omega) | fail)); (case hg => (simp [secsV, putS_len]; omega)))
        | (refine' rl1 (gn rfl) rfl rfl (step_append_new (k := m0 + 1) rfl rfl rfl Try.underlying24 ⟨_, Try.underlying24, fun k_ => by intro h_; cases h_⟩ F.el45 (ev_mk rfl) (.inl rfl) (ev_mk rfl) gives_nil ?hg) ⟨?hb, trivial⟩ (by omega) ?_; (case hb => repeat (first | exact upd_eq _ _ _ | refine (upd_ne _ _ _ _ (by omega)).trans ?_ | assumption | exact hd _ (by omega) | exact hd0 _ (by omega) | exact hd1 _ (by omega) | exact hd2 _ (by omega) | fail)); (case hg => (simp [secsV, putS_len]; omega)))
        | (refine' rl1 (gn rfl) rfl rfl (step_append_new (k := m0 + 1) (xs := []) rfl rfl rfl Try.underlying24 ⟨_, Try.underlying24, fun k_ => by intro h_; cases h_⟩ F.el45 (ev_mk rfl) (.inr ⟨rfl, rfl⟩) (ev_mk rfl) gives_nil ?hg) ⟨?hb, trivial⟩ (by omega) ?_; (case hb => repeat (first | exact upd_eq _ _ _ | refine (upd_ne _ _ _ _ (by omega)).trans ?_ | assumption | exact hd _ (by omega) | exact hd0 _ (by omega) | exact hd1 _ (by omega) | exact hd2 _ (by omega) | fail)); (case hg => (simp [secsV, putS_len]; omega)))
        | (refine' rl1 (gn rfl) rfl rfl (step_append_own rfl rfl rfl Try.underlying24 ⟨_, Try.underlying24, fun k_ => by intro h_; cases h_⟩ F.el45 (ev_mk rfl) (ev_mk rfl) (gives_msl ?hl ?hy) ?hg) ⟨?hb, ⟨?hm, trivial⟩⟩ (by omega) ?_; (case hb => repeat (first | exact upd_eq _ _ _ | refine (upd_ne _ _ _ _ (by omega)).trans ?_ | assumption | exact hd _ (by omega) | exact hd0 _ (by omega) | exact hd1 _ (by omega) | exact hd2 _ (by omega) | fail)); (case hg => (simp [secsV, putS_len]; omega)); (case hm => repeat (first | exact upd_eq _ _ _ | refine (upd_ne _ _ _ _ (by omega)).trans ?_ | assumption | exact hd _ (by omega) | exact hd0 _ (by omega) | exact hd1 _ (by omega) | exact hd2 _ (by omega) | fail)); (case hl => (first | (simp; done) | exact sec_len hp (j := j) (by omega) v | (rw [List.length_map]; exact hp) | exact sec_len0 hp (j := j) (by omega))); (case hy => rfl))
        | (refine' rl1 (gn rfl) rfl rfl (step_append_new (k := m0 + 1) rfl rfl rfl Try.underlying24 ⟨_, Try.underlying24, fun k_ => by intro h_; cases h_⟩ F.el45 (ev_mk rfl) (.inl rfl) (ev_mk rfl) (gives_msl ?hl ?hy) ?hg) ⟨?hb, ⟨?hm, trivial⟩⟩ (by omega) ?_; (case hb => repeat (first | exact upd_eq _ _ _ | refine (upd_ne _ _ _ _ (by omega)).trans ?_ | assumption | exact hd _ (by omega) | exact hd0 _ (by omega) | exact hd1 _ (by omega) | exact hd2 _ (by omega) | fail)); (case hg => (simp [secsV, putS_len]; omega)); (case hm => repeat (first | exact upd_eq _ _ _ | refine (upd_ne _ _ _ _ (by omega)).trans ?_ | assumption | exact hd _ (by omega) | exact hd0 _ (by omega) | exact hd1 _ (by omega) | exact hd2 _ (by omega) | fail)); (case hl => (first | (simp; done) | exact sec_len hp (j := j) (by omega) v | (rw [List.length_map]; exact hp) | exact sec_len0 hp (j := j) (by omega))); (case hy => rfl))
        | (refine' rl1 (gn rfl) rfl rfl (step_append_new (k := m0 + 1) (xs := []) rfl rfl rfl Try.underlying24 ⟨_, Try.underlying24, fun k_ => by intro h_; cases h_⟩ F.el45 (ev_mk rfl) (.inr ⟨rfl, rfl⟩) (ev_mk rfl) (gives_msl ?hl ?hy) ?hg) ⟨?hb, ⟨?hm, trivial⟩⟩ (by omega) ?_; (case hb => repeat (first | exact upd_eq _ _ _ | refine (upd_ne _ _ _ _ (by omega)).trans ?_ | assumption | exact hd _ (by omega) | exact hd0 _ (by omega) | exact hd1 _ (by omega) | exact hd2 _ (by omega) | fail)); (case hg => (simp [secsV, putS_len]; omega)); (case hm => repeat (first | exact upd_eq _ _ _ | refine (upd_ne _ _ _ _ (by omega)).trans ?_ | assumption | exact hd _ (by omega) | exact hd0 _ (by omega) | exact hd1 _ (by omega) | exact hd2 _ (by omega) | fail)); (case hl => (first | (simp; done) | exact sec_len hp (j := j) (by omega) v | (rw [List.length_map]; exact hp) | exact sec_len0 hp (j := j) (by omega))); (case hy => rfl))
      refine rl0 (gn rfl) rfl rfl (step_as rfl rfl) trivial ?_
      refine runsL_nil ?_
      refine runs_region ?_
      refine rl0 (gn rfl) rfl rfl (step_add rfl (ev_mk rfl) (ev_mk rfl) (w64 (by omega))) trivial ?_
      refine rl0 (gn rfl) rfl rfl (step_mv rfl rfl) trivial ?_
      refine runsL_nil ?_
      have hsn_ := putS_snoc p v j
      refine ⟨_, _, ?_, sle ?_ (Nat.le_refl _), j + 1, _, _, rfl, rfl, by omega, (fun k hk => by repeat (first | exact hf0 k hk | exact hf0 k hk | exact hf1 k hk | exact hf2 k hk | refine (upd_ne _ _ _ _ (by first | assumption | omega)).trans ?_ | fail)), by repeat (first | exact upd_eq _ _ _ | assumption | refine (upd_ne _ _ _ _ (by omega)).trans ?_ | fail), by (rw [← hsn_]; repeat (first | exact upd_eq _ _ _ | assumption | refine (upd_ne _ _ _ _ (by omega)).trans ?_ | fail)), by omega⟩
      · omega
      · (repeat' (first | exact trivial | refine ⟨⟨_, rfl, ?_⟩, ?_⟩ | fail)); (all_goals first | exact VLe.refl _ | (rw [Int.natCast_add]; exact VLe.refl _) | exact VLe.own_sl _ _ _ | exact VLe.fl_sl _ _ | exact VLe.nil_sl _ | (rw [← hsn_]; exact VLe.refl _))
    · skip
      refine runsL_nil ?_
      refine runs_seq ?_
      refine runs_cond false (ev_mk rfl) (fun h_ => nomatch h_) (fun _ => ?_)
      refine runs_exit ?_
      refine runs_seq ?_
      refine runs_region ?_
      refine rl0 (gn rfl) rfl rfl (step_mv rfl rfl) trivial ?_
      refine rl0 (gn rfl) rfl rfl (step_as rfl rfl) trivial ?_
      refine runsL_nil ?_
      refine runs_ret ?_
      refine ⟨by first | exact .inr rfl | exact .inl rfl, fin_mk (rest rfl res0) ?_ ?_ ?_ ?_⟩
      · (obtain rfl : j = 4 := by omega); exact VLe.own_sl _ _ _
      · repeat (first | exact trivial | assumption | omega | exact bd_bs | exact bd_row | exact bd_secs | exact bd_bools | refine ⟨?_, ?_⟩ | fail)
      · intro k hk; exact ble (by first | exact rfl | (refine (upd_ne _ _ _ _ (by omega)).trans ?_; first | exact rfl | skip; repeat (first | exact rfl | refine (upd_ne _ _ _ _ (by omega)).trans ?_ | assumption | exact hf0 _ (by omega) | exact hf1 _ (by omega) | exact hf2 _ (by omega) | exact hf0 _ (by omega) (by first | assumption | omega) | exact hf1 _ (by omega) (by first | assumption | omega))) | exact hf0 _ (by omega) | exact hf1 _ (by omega) | exact hf2 _ (by omega) | exact hf0 _ (by omega) (by first | assumption | omega) | exact hf1 _ (by omega) (by first | assumption | omega))
      · intro p hp; cases hp
theorem bytes_take {r : List Int} (h : bytes r) (n : Nat) : bytes (r.take n) := fun x hx => h x (List.mem_of_mem_take hx)
theorem mark_snoc {r : List Int} (hr : r.length = 64) {j : Nat} (h : j < 8) : bytesV ((r.drop 56).take j) ++ [[bV (at' r (56 + (j : Int)))]] = bytesV ((r.drop 56).take (j + 1)) := by
  rw [show (56 : Int) + (j : Int) = ((56 + j : Nat) : Int) by omega, at_nat _ _ (by omega), List.take_add_one (l := r.drop 56), List.getElem?_eq_getElem (by rw [drop56 hr]; exact h)]
  simp [bytesV, List.getElem_drop]
theorem map_one (r : List Int) (i : Int) (h0 : 0 ≤ i) (h : i < r.length) : (r.map bV)[0 + i.toNat * 1]? = some (bV (at' r i)) := by
  rw [show 0 + i.toNat * 1 = i.toNat by omega]; exact map_atV bV r i h0 h
set_option maxRecDepth 100000 in
set_option maxHeartbeats 4000000 in
theorem rget_c (b : List Int) (hb : bytes b) (hl : b.length = 8) : Does Try.prog 28 [.sl 1 (bytesV b)] [] [] (.sc (.int .u64 (beN b))) := by
  refine does_mk 20 Try.func28 rfl rfl rfl (fun n B bx hd hpre hup hvs hbx => ?_)
  have hbt := fun (j : Nat) (hj : j < 8) => beN_8 hb hl (j := j) hj
  have hba := fun (j : Nat) (hj : j < 8) => at_byte hb (i := (j : Int)) (by omega) (by omega)
  refine runs_seq ?_
  refine runs_region ?_
  refine rl0 (gn rfl) rfl rfl (step_as rfl rfl) trivial ?_
  refine runsL_nil ?_
  refine runs_seq ?_
  refine runs_region ?_
  refine rl0 (gn rfl) rfl rfl (step_as rfl rfl) trivial ?_
  refine runsL_nil ?_
  refine runs_seq ?_
  refine runs_seq ?_
  refine runs_region ?_
  refine rl0 (gn rfl) rfl rfl (step_as rfl rfl) trivial ?_
  refine runsL_nil ?_
  refine runs_block ?_
  refine runs_loop (fun (i : Nat) (s : Go.Vm.S) => ∃ (j : Nat) (m0 : Nat) (b0 : Nat → Box), (s = ⟨mk [(0, .sl 1 (bytesV b)), (3, .sc (.int .u64 (beN (b.take j)))), (4, .sc (.int .i64 j))], m0, b0⟩) ∧ (i = 8 - j) ∧ (n ≤ m0) ∧ (∀ k, k < n → b0 k = bx k) ∧ (j ≤ 8)) (8) ⟨_, sle ?_ (Nat.le_refl _), 0, _, _, rfl, rfl, ?_⟩ ?_
  · (repeat' (first | exact trivial | refine ⟨⟨_, rfl, ?_⟩, ?_⟩ | fail)); (all_goals first | exact VLe.refl _ | (rw [Int.natCast_add]; exact VLe.refl _) | exact VLe.own_sl _ _ _ | exact VLe.fl_sl _ _ | exact VLe.nil_sl _ | (rw [beN_take (by omega)]; exact VLe.refl _))
  · exact ⟨by omega, (fun k hk => by first | exact rfl | (refine (upd_ne _ _ _ _ (by omega)).trans ?_; first | exact rfl | skip; repeat (first | exact rfl | refine (upd_ne _ _ _ _ (by omega)).trans ?_ | assumption | exact hf0 _ (by omega) | exact hf1 _ (by omega) | exact hf2 _ (by omega) | exact hf0 _ (by omega) (by first | assumption | omega) | exact hf1 _ (by omega) (by first | assumption | omega))) | exact hf0 _ (by omega) | exact hf1 _ (by omega) | exact hf2 _ (by omega) | exact hf0 _ (by omega) (by first | assumption | omega) | exact hf1 _ (by omega) (by first | assumption | omega)), by omega⟩
  · rintro _ _ ⟨j, m0, b0, rfl, rfl, hm0, hf0, hF0_0⟩
    refine runs_know (fun hd0 => ?_)
    refine runs_bump 8 ?_
    simp only at hd0
    refine runs_seq ?_
    refine runs_seq ?_
    refine runs_region ?_
    refine rl0 (gn rfl) rfl rfl (step_mv rfl rfl) trivial ?_
    refine rl0 (gn rfl) rfl rfl (step_mv rfl rfl) trivial ?_
    first
      | refine rl0 (gn rfl) rfl rfl (step_len rfl rfl (ev_mk rfl) (.inl ⟨⟨_, Try.underlying48⟩, .inl ⟨_, _, .inl rfl, List.length_map _⟩⟩)) trivial ?_
      | refine rl0 (gn rfl) rfl rfl (step_len rfl rfl (ev_mk rfl) (.inl ⟨⟨_, Try.underlying48⟩, .inl ⟨_, _, .inl rfl, rfl⟩⟩)) trivial ?_
      | refine rl0 (gn rfl) rfl rfl (step_len rfl rfl (ev_mk rfl) (.inl ⟨⟨_, Try.underlying48⟩, .inl ⟨_, _, .inr (.inl rfl), List.length_map _⟩⟩)) trivial ?_
      | refine rl0 (gn rfl) rfl rfl (step_len rfl rfl (ev_mk rfl) (.inl ⟨⟨_, Try.underlying48⟩, .inl ⟨_, _, .inr (.inl rfl), rfl⟩⟩)) trivial ?_
      | refine rl0 (gn rfl) rfl rfl (step_len rfl rfl (ev_mk rfl) (.inl ⟨⟨_, Try.underlying48⟩, .inl ⟨_, _, .inr (.inr ⟨_, rfl⟩), List.length_map _⟩⟩)) trivial ?_
      | refine rl0 (gn rfl) rfl rfl (step_len rfl rfl (ev_mk rfl) (.inl ⟨⟨_, Try.underlying48⟩, .inl ⟨_, _, .inr (.inr ⟨_, rfl⟩), rfl⟩⟩)) trivial ?_
      | refine rl0 (gn rfl) rfl rfl (step_len rfl rfl (ev_mk rfl) (.inl ⟨⟨_, Try.underlying48⟩, .inr (.inl ⟨_, _, _, _, rfl⟩)⟩)) trivial ?_
      | refine rl0 (gn rfl) rfl rfl (step_len (m := 0) rfl rfl (ev_mk rfl) (.inl ⟨⟨_, Try.underlying48⟩, .inr (.inr ⟨_, _, rfl⟩)⟩)) trivial ?_
    refine rl_lss (gn rfl) rfl rfl rfl rfl rfl (fun h1 => ?_) (fun h1 => ?_)
    · skip
      refine runsL_nil ?_
      refine runs_cond true (ev_mk rfl) (fun _ => ?_) (fun h_ => nomatch h_)
      refine runs_skip ?_
      refine runs_seq ?_
      refine runs_block ?_
      refine runs_region ?_
      refine rl0 (gn rfl) rfl rfl (step_mv rfl rfl) trivial ?_
      refine rl0 (gn rfl) rfl rfl (step_mul rfl (ev_mk rfl) (ev_mk rfl) (wu64 (by have h_ := hbt j (by omega); omega))) trivial ?_
      refine rl0 (gn rfl) rfl rfl (step_mv rfl rfl) trivial ?_
      refine rl0 (gn rfl) rfl rfl (step_mv rfl rfl) trivial ?_
      first
        | (refine' rl0 (gn rfl) rfl rfl (step_index rfl (ev_mk rfl) (.inl rfl) (ev_mk rfl) Try.underlying48 F.sz5 (by omega) ?hr) trivial ?_; (case hr => exact map_at _ _ _ (by omega) (by omega)))
        | (refine' rl0 (gn rfl) rfl rfl (step_index rfl (ev_mk rfl) (.inr (.inl rfl)) (ev_mk rfl) Try.underlying48 F.sz5 (by omega) ?hr) trivial ?_; (case hr => exact map_at _ _ _ (by omega) (by omega)))
        | (refine' rl0 (gn rfl) rfl rfl (step_index rfl (ev_mk rfl) (.inr (.inr ⟨_, rfl⟩)) (ev_mk rfl) Try.underlying48 F.sz5 (by omega) ?hr) trivial ?_; (case hr => exact map_at _ _ _ (by omega) (by omega)))
        | (refine rl0 (gn rfl) rfl rfl (step_index_msl rfl (ev_mk rfl) (ev_mk rfl) Try.underlying48 F.sz5 (by omega) (by omega)) trivial ?_)
      first
        | (refine' rl0 (gn rfl) rfl rfl (step_load_one rfl (ev_mk rfl) F.one5 ?hv) ⟨?hb, trivial⟩ ?_; (case hb => repeat (first | exact upd_eq _ _ _ | refine (upd_ne _ _ _ _ (by omega)).trans ?_ | assumption | exact hd _ (by omega) | exact hd0 _ (by omega) | exact hd1 _ (by omega) | exact hd2 _ (by omega) | fail)); (case hv => exact rfl))
        | (refine rl0 (gn rfl) rfl rfl (step_load_ro rfl (ev_mk rfl) F.one5 rfl) trivial ?_)
      refine rl0 (gn rfl) rfl rfl (step_conv_id rfl rfl Try.underlying5 Try.underlying23 (wu64 (by have h2_ := hba j (by omega); omega))) trivial ?_
      refine rl0 (gn rfl) rfl rfl (step_add rfl (ev_mk rfl) (ev_mk rfl) (wu64 (by have h_ := hbt j (by omega); have h2_ := hba j (by omega); omega))) trivial ?_
      refine rl0 (gn rfl) rfl rfl (step_as rfl rfl) trivial ?_
      refine runsL_nil ?_
      refine runs_region ?_
      refine rl0 (gn rfl) rfl rfl (step_mv rfl rfl) trivial ?_
      refine rl0 (gn rfl) rfl rfl (step_add rfl (ev_mk rfl) (ev_mk rfl) (w64 (by omega))) trivial ?_
      refine rl0 (gn rfl) rfl rfl (step_as rfl rfl) trivial ?_
      refine runsL_nil ?_
      refine ⟨_, _, ?_, sle ?_ (Nat.le_refl _), j + 1, _, _, rfl, rfl, by omega, (fun k hk => by repeat (first | exact hf0 k hk | exact hf0 k hk | exact hf1 k hk | exact hf2 k hk | refine (upd_ne _ _ _ _ (by first | assumption | omega)).trans ?_ | fail)), by omega⟩
      · omega
      · (repeat' (first | exact trivial | refine ⟨⟨_, rfl, ?_⟩, ?_⟩ | fail)); (all_goals first | exact VLe.refl _ | (rw [Int.natCast_add]; exact VLe.refl _) | exact VLe.own_sl _ _ _ | exact VLe.fl_sl _ _ | exact VLe.nil_sl _ | (rw [beN_take (by omega)]; exact VLe.refl _))
    · skip
      refine runsL_nil ?_
      refine runs_cond false (ev_mk rfl) (fun h_ => nomatch h_) (fun _ => ?_)
      refine runs_exit ?_
      refine runs_seq ?_
      refine runs_region ?_
      refine rl0 (gn rfl) rfl rfl (step_mv rfl rfl) trivial ?_
      refine rl0 (gn rfl) rfl rfl (step_as rfl rfl) trivial ?_
      refine runsL_nil ?_
      refine runs_ret ?_
      refine ⟨by first | exact .inr rfl | exact .inl rfl, fin_mk (rest rfl res0) ?_ ?_ ?_ ?_⟩
      · (obtain rfl : j = 8 := by omega); rw [List.take_of_length_le (by omega)]; exact VLe.refl _
      · repeat (first | exact trivial | assumption | omega | exact bd_bs | exact bd_row | exact bd_secs | exact bd_bools | refine ⟨?_, ?_⟩ | fail)
      · intro k hk; exact ble (by first | exact rfl | (refine (upd_ne _ _ _ _ (by omega)).trans ?_; first | exact rfl | skip; repeat (first | exact rfl | refine (upd_ne _ _ _ _ (by omega)).trans ?_ | assumption | exact hf0 _ (by omega) | exact hf1 _ (by omega) | exact hf2 _ (by omega) | exact hf0 _ (by omega) (by first | assumption | omega) | exact hf1 _ (by omega) (by first | assumption | omega))) | exact hf0 _ (by omega) | exact hf1 _ (by omega) | exact hf2 _ (by omega) | exact hf0 _ (by omega) (by first | assumption | omega) | exact hf1 _ (by omega) (by first | assumption | omega))
      · intro p hp; cases hp
set_option maxRecDepth 100000 in
set_option maxHeartbeats 4000000 in
theorem mark_c (r : List Int) (hr : r.length = 64) (hb : bytes r) : Does Try.prog 23 [.agg (r.map bV)] [] [] (.sc (.int .u64 (beN (r.drop 56)))) := by
  refine does_mk 20 Try.func23 rfl rfl rfl (fun n B bx hd hpre hup hvs hbx => ?_)
  refine runs_seq ?_
  refine runs_region ?_
  first | refine rl1 (gn rfl) rfl rfl (step_box_agg (k := n + 0) rfl rfl) ⟨by repeat (first | exact upd_eq _ _ _ | refine (upd_ne _ _ _ _ (by omega)).trans ?_ | assumption | exact hd _ (by omega) | exact hd0 _ (by omega) | exact hd1 _ (by omega) | exact hd2 _ (by omega) | fail), trivial⟩ (by omega) ?_ | refine rl1 (gn rfl) rfl rfl (step_box_one (k := n + 0) rfl rfl rfl rfl) ⟨by repeat (first | exact upd_eq _ _ _ | refine (upd_ne _ _ _ _ (by omega)).trans ?_ | assumption | exact hd _ (by omega) | exact hd0 _ (by omega) | exact hd1 _ (by omega) | exact hd2 _ (by omega) | fail), trivial⟩ (by omega) ?_
  refine rl0 (gn rfl) rfl rfl (step_as rfl rfl) trivial ?_
  refine runsL_nil ?_
  refine runs_seq ?_
  refine runs_region ?_
  refine rl0 (gn rfl) rfl rfl (step_as rfl rfl) trivial ?_
  refine runsL_nil ?_
  refine runs_seq ?_
  refine runs_seq ?_
  refine runs_region ?_
  refine rl0 (gn rfl) rfl rfl (step_as rfl rfl) trivial ?_
  refine runsL_nil ?_
  refine runs_block ?_
  refine runs_grow (l' := []) (d := 3) (k := n + 1) (e := 1) rfl (.inr ⟨rfl, rfl⟩) (by repeat (first | exact upd_eq _ _ _ | refine (upd_ne _ _ _ _ (by omega)).trans ?_ | assumption | exact hd _ (by omega) | exact hd0 _ (by omega) | exact hd1 _ (by omega) | exact hd2 _ (by omega) | fail)) (by omega) ?_
  refine runs_loop (fun (i : Nat) (s : Go.Vm.S) => ∃ (j : Nat) (m0 : Nat) (b0 : Nat → Box), (s = ⟨mk [(1, .ref (n + 0) 0), (3, .own 1 (bytesV ((r.drop 56).take j)) (n + 1)), (4, .sc (.int .i64 (56 + (j : Int))))], m0, b0⟩) ∧ (i = 8 - j) ∧ (n + 2 ≤ m0) ∧ (∀ k, k < n → b0 k = bx k) ∧ (b0 (n + 0) = .cells (r.map bV)) ∧ (b0 (n + 1) = .tail (bytesV ((r.drop 56).take j)).length) ∧ (j ≤ 8)) (8) ⟨_, sle ?_ (Nat.le_refl _), 0, _, _, rfl, rfl, ?_⟩ ?_
  · (repeat' (first | exact trivial | refine ⟨⟨_, rfl, ?_⟩, ?_⟩ | fail)); (all_goals first | exact VLe.refl _ | (rw [Int.natCast_add]; exact VLe.refl _) | exact VLe.own_sl _ _ _ | exact VLe.fl_sl _ _ | exact VLe.nil_sl _ | (rw [← hsn_]; exact VLe.refl _) | (rw [show (56 : Int) + ((j + 1 : Nat) : Int) = 56 + (j : Int) + 1 by omega]; exact VLe.refl _))
  · exact ⟨by omega, (fun k hk => by first | exact rfl | (refine (upd_ne _ _ _ _ (by omega)).trans ?_; first | exact rfl | skip; repeat (first | exact rfl | refine (upd_ne _ _ _ _ (by omega)).trans ?_ | assumption | exact hf0 _ (by omega) | exact hf1 _ (by omega) | exact hf2 _ (by omega) | exact hf0 _ (by omega) (by first | assumption | omega) | exact hf1 _ (by omega) (by first | assumption | omega))) | exact hf0 _ (by omega) | exact hf1 _ (by omega) | exact hf2 _ (by omega) | exact hf0 _ (by omega) (by first | assumption | omega) | exact hf1 _ (by omega) (by first | assumption | omega)), by repeat (first | exact upd_eq _ _ _ | assumption | refine (upd_ne _ _ _ _ (by omega)).trans ?_ | fail), by repeat (first | exact upd_eq _ _ _ | assumption | refine (upd_ne _ _ _ _ (by omega)).trans ?_ | fail), by omega⟩
  · rintro _ _ ⟨j, m0, b0, rfl, rfl, hm0, hf0, hB0_0, hB0_1, hF0_0⟩
    refine runs_know (fun hd0 => ?_)
    refine runs_bump 8 ?_
    simp only at hd0
    refine runs_seq ?_
    refine runs_seq ?_
    refine runs_region ?_
    refine rl0 (gn rfl) rfl rfl (step_mv rfl rfl) trivial ?_
    refine rl_lss (gn rfl) rfl rfl rfl rfl rfl (fun h1 => ?_) (fun h1 => ?_)
    · skip
      refine runsL_nil ?_
      refine runs_cond true (ev_mk rfl) (fun _ => ?_) (fun h_ => nomatch h_)
      refine runs_skip ?_
      refine runs_seq ?_
      refine runs_block ?_
      refine runs_region ?_
      refine rl0 (gn rfl) rfl rfl (step_mv rfl rfl) trivial ?_
      refine rl0 (gn rfl) rfl rfl (step_mv rfl rfl) trivial ?_
      refine rl0 (gn rfl) rfl rfl (step_index_arr rfl (ev_mk rfl) (ev_mk rfl) Try.underlying45 F.sz5 (by omega) (by omega)) trivial ?_
      first
        | (refine' rl0 (gn rfl) rfl rfl (step_load_one rfl (ev_mk rfl) F.one5 ?hv) ⟨?hb, trivial⟩ ?_; (case hb => repeat (first | exact upd_eq _ _ _ | refine (upd_ne _ _ _ _ (by omega)).trans ?_ | assumption | exact hd _ (by omega) | exact hd0 _ (by omega) | exact hd1 _ (by omega) | exact hd2 _ (by omega) | fail)); (case hv => exact map_one r _ (by omega) (by omega)))
        | (refine rl0 (gn rfl) rfl rfl (step_load_ro rfl (ev_mk rfl) F.one5 rfl) trivial ?_)
      refine rl0 (gn rfl) rfl rfl (step_lit rfl Try.underlying48 F.sz5 F.zero5 (by first | rfl | simp) (by first | rfl | simp | decide) (by decide) rfl rfl (by first | (simp [V.cs, V.stor, oneV]; done) | (simp [V.cs, V.stor, oneV]; exact ⟨rfl, rfl⟩)) rfl) trivial ?_
      first
        | (refine' rl1 (gn rfl) rfl rfl (step_append_own rfl rfl rfl Try.underlying48 ⟨_, Try.underlying48, fun k_ => by intro h_; cases h_⟩ F.el5 (ev_mk rfl) (ev_mk rfl) (gives_sl (.inl rfl)) ?hg) ⟨?hb, trivial⟩ (by omega) ?_; (case hb => repeat (first | exact upd_eq _ _ _ | refine (upd_ne _ _ _ _ (by omega)).trans ?_ | assumption | exact hd _ (by omega) | exact hd0 _ (by omega) | exact hd1 _ (by omega) | exact hd2 _ (by omega) | fail)); (case hg => (simp [bytesV]; omega)))
        | (refine' rl1 (gn rfl) rfl rfl (step_append_new (k := m0 + 0) rfl rfl rfl Try.underlying48 ⟨_, Try.underlying48, fun k_ => by intro h_; cases h_⟩ F.el5 (ev_mk rfl) (.inl rfl) (ev_mk rfl) (gives_sl (.inl rfl)) ?hg) ⟨?hb, trivial⟩ (by omega) ?_; (case hb => repeat (first | exact upd_eq _ _ _ | refine (upd_ne _ _ _ _ (by omega)).trans ?_ | assumption | exact hd _ (by omega) | exact hd0 _ (by omega) | exact hd1 _ (by omega) | exact hd2 _ (by omega) | fail)); (case hg => (simp [bytesV]; omega)))
        | (refine' rl1 (gn rfl) rfl rfl (step_append_new (k := m0 + 0) (xs := []) rfl rfl rfl Try.underlying48 ⟨_, Try.underlying48, fun k_ => by intro h_; cases h_⟩ F.el5 (ev_mk rfl) (.inr ⟨rfl, rfl⟩) (ev_mk rfl) (gives_sl (.inl rfl)) ?hg) ⟨?hb, trivial⟩ (by omega) ?_; (case hb => repeat (first | exact upd_eq _ _ _ | refine (upd_ne _ _ _ _ (by omega)).trans ?_ | assumption | exact hd _ (by omega) | exact hd0 _ (by omega) | exact hd1 _ (by omega) | exact hd2 _ (by omega) | fail)); (case hg => (simp [bytesV]; omega)))
        | (refine' rl1 (gn rfl) rfl rfl (step_append_own rfl rfl rfl Try.underlying48 ⟨_, Try.underlying48, fun k_ => by intro h_; cases h_⟩ F.el5 (ev_mk rfl) (ev_mk rfl) (gives_sl (.inr (.inl rfl))) ?hg) ⟨?hb, trivial⟩ (by omega) ?_; (case hb => repeat (first | exact upd_eq _ _ _ | refine (upd_ne _ _ _ _ (by omega)).trans ?_ | assumption | exact hd _ (by omega) | exact hd0 _ (by omega) | exact hd1 _ (by omega) | exact hd2 _ (by omega) | fail)); (case hg => (simp [bytesV]; omega)))
        | (refine' rl1 (gn rfl) rfl rfl (step_append_new (k := m0 + 0) rfl rfl rfl Try.underlying48 ⟨_, Try.underlying48, fun k_ => by intro h_; cases h_⟩ F.el5 (ev_mk rfl) (.inl rfl) (ev_mk rfl) (gives_sl (.inr (.inl rfl))) ?hg) ⟨?hb, trivial⟩ (by omega) ?_; (case hb => repeat (first | exact upd_eq _ _ _ | refine (upd_ne _ _ _ _ (by omega)).trans ?_ | assumption | exact hd _ (by omega) | exact hd0 _ (by omega) | exact hd1 _ (by omega) | exact hd2 _ (by omega) | fail)); (case hg => (simp [bytesV]; omega)))
        | (refine' rl1 (gn rfl) rfl rfl (step_append_new (k := m0 + 0) (xs := []) rfl rfl rfl Try.underlying48 ⟨_, Try.underlying48, fun k_ => by intro h_; cases h_⟩ F.el5 (ev_mk rfl) (.inr ⟨rfl, rfl⟩) (ev_mk rfl) (gives_sl (.inr (.inl rfl))) ?hg) ⟨?hb, trivial⟩ (by omega) ?_; (case hb => repeat (first | exact upd_eq _ _ _ | refine (upd_ne _ _ _ _ (by omega)).trans ?_ | assumption | exact hd _ (by omega) | exact hd0 _ (by omega) | exact hd1 _ (by omega) | exact hd2 _ (by omega) | fail)); (case hg => (simp [bytesV]; omega)))
        | (refine' rl1 (gn rfl) rfl rfl (step_append_own rfl rfl rfl Try.underlying48 ⟨_, Try.underlying48, fun k_ => by intro h_; cases h_⟩ F.el5 (ev_mk rfl) (ev_mk rfl) (gives_sl (.inr (.inr ⟨_, rfl⟩))) ?hg) ⟨?hb, trivial⟩ (by omega) ?_; (case hb => repeat (first | exact upd_eq _ _ _ | refine (upd_ne _ _ _ _ (by omega)).trans ?_ | assumption | exact hd _ (by omega) | exact hd0 _ (by omega) | exact hd1 _ (by omega) | exact hd2 _ (by omega) | fail)); (case hg => (simp [bytesV]; omega)))
        | (refine' rl1 (gn rfl) rfl rfl (step_append_new (k := m0 + 0) rfl rfl rfl Try.underlying48 ⟨_, Try.underlying48, fun k_ => by intro h_; cases h_⟩ F.el5 (ev_mk rfl) (.inl rfl) (ev_mk rfl) (gives_sl (.inr (.inr ⟨_, rfl⟩))) ?hg) ⟨?hb, trivial⟩ (by omega) ?_; (case hb => repeat (first | exact upd_eq _ _ _ | refine (upd_ne _ _ _ _ (by omega)).trans ?_ | assumption | exact hd _ (by omega) | exact hd0 _ (by omega) | exact hd1 _ (by omega) | exact hd2 _ (by omega) | fail)); (case hg => (simp [bytesV]; omega)))
        | (refine' rl1 (gn rfl) rfl rfl (step_append_new (k := m0 + 0) (xs := []) rfl rfl rfl Try.underlying48 ⟨_, Try.underlying48, fun k_ => by intro h_; cases h_⟩ F.el5 (ev_mk rfl) (.inr ⟨rfl, rfl⟩) (ev_mk rfl) (gives_sl (.inr (.inr ⟨_, rfl⟩))) ?hg) ⟨?hb, trivial⟩ (by omega) ?_; (case hb => repeat (first | exact upd_eq _ _ _ | refine (upd_ne _ _ _ _ (by omega)).trans ?_ | assumption | exact hd _ (by omega) | exact hd0 _ (by omega) | exact hd1 _ (by omega) | exact hd2 _ (by omega) | fail)); (case hg => (simp [bytesV]; omega)))
        | (refine' rl1 (gn rfl) rfl rfl (step_append_own rfl rfl rfl Try.underlying48 ⟨_, Try.underlying48, fun k_ => by intro h_; cases h_⟩ F.el5 (ev_mk rfl) (ev_mk rfl) gives_nil ?hg) ⟨?hb, trivial⟩ (by omega) ?_; (case hb => repeat (first | exact upd_eq _ _ _ | refine (upd_ne _ _ _ _ (by omega)).trans ?_ | assumption | exact hd _ (by omega) | exact hd0 _ (by omega) | exact hd1 _ (by omega) | exact hd2 _ (by omega) | fail)); (case hg => (simp [bytesV]; omega)))
        | (refine' rl1 (gn rfl) rfl rfl (step_append_new (k := m0 + 0) rfl rfl rfl Try.underlying48 ⟨_, Try.underlying48, fun k_ => by intro h_; cases h_⟩ F.el5 (ev_mk rfl) (.inl rfl) (ev_mk rfl) gives_nil ?hg) ⟨?hb, trivial⟩ (by omega) ?_; (case hb => repeat (first | exact upd_eq _ _ _ | refine (upd_ne _ _ _ _ (by omega)).trans ?_ | assumption | exact hd _ (by omega) | exact hd0 _ (by omega) | exact hd1 _ (by omega) | exact hd2 _ (by omega) | fail)); (case hg => (simp [bytesV]; omega)))
        | (refine' rl1 (gn rfl) rfl rfl (step_append_new (k := m0 + 0) (xs := []) rfl rfl rfl Try.underlying48 ⟨_, Try.underlying48, fun k_ => by intro h_; cases h_⟩ F.el5 (ev_mk rfl) (.inr ⟨rfl, rfl⟩) (ev_mk rfl) gives_nil ?hg) ⟨?hb, trivial⟩ (by omega) ?_; (case hb => repeat (first | exact upd_eq _ _ _ | refine (upd_ne _ _ _ _ (by omega)).trans ?_ | assumption | exact hd _ (by omega) | exact hd0 _ (by omega) | exact hd1 _ (by omega) | exact hd2 _ (by omega) | fail)); (case hg => (simp [bytesV]; omega)))
        | (refine' rl1 (gn rfl) rfl rfl (step_append_own rfl rfl rfl Try.underlying48 ⟨_, Try.underlying48, fun k_ => by intro h_; cases h_⟩ F.el5 (ev_mk rfl) (ev_mk rfl) (gives_msl ?hl ?hy) ?hg) ⟨?hb, ⟨?hm, trivial⟩⟩ (by omega) ?_; (case hb => repeat (first | exact upd_eq _ _ _ | refine (upd_ne _ _ _ _ (by omega)).trans ?_ | assumption | exact hd _ (by omega) | exact hd0 _ (by omega) | exact hd1 _ (by omega) | exact hd2 _ (by omega) | fail)); (case hg => (simp [bytesV]; omega)); (case hm => repeat (first | exact upd_eq _ _ _ | refine (upd_ne _ _ _ _ (by omega)).trans ?_ | assumption | exact hd _ (by omega) | exact hd0 _ (by omega) | exact hd1 _ (by omega) | exact hd2 _ (by omega) | fail)); (case hl => (simp; omega)); (case hy => rfl))
        | (refine' rl1 (gn rfl) rfl rfl (step_append_new (k := m0 + 0) rfl rfl rfl Try.underlying48 ⟨_, Try.underlying48, fun k_ => by intro h_; cases h_⟩ F.el5 (ev_mk rfl) (.inl rfl) (ev_mk rfl) (gives_msl ?hl ?hy) ?hg) ⟨?hb, ⟨?hm, trivial⟩⟩ (by omega) ?_; (case hb => repeat (first | exact upd_eq _ _ _ | refine (upd_ne _ _ _ _ (by omega)).trans ?_ | assumption | exact hd _ (by omega) | exact hd0 _ (by omega) | exact hd1 _ (by omega) | exact hd2 _ (by omega) | fail)); (case hg => (simp [bytesV]; omega)); (case hm => repeat (first | exact upd_eq _ _ _ | refine (upd_ne _ _ _ _ (by omega)).trans ?_ | assumption | exact hd _ (by omega) | exact hd0 _ (by omega) | exact hd1 _ (by omega) | exact hd2 _ (by omega) | fail)); (case hl => (simp; omega)); (case hy => rfl))
        | (refine' rl1 (gn rfl) rfl rfl (step_append_new (k := m0 + 0) (xs := []) rfl rfl rfl Try.underlying48 ⟨_, Try.underlying48, fun k_ => by intro h_; cases h_⟩ F.el5 (ev_mk rfl) (.inr ⟨rfl, rfl⟩) (ev_mk rfl) (gives_msl ?hl ?hy) ?hg) ⟨?hb, ⟨?hm, trivial⟩⟩ (by omega) ?_; (case hb => repeat (first | exact upd_eq _ _ _ | refine (upd_ne _ _ _ _ (by omega)).trans ?_ | assumption | exact hd _ (by omega) | exact hd0 _ (by omega) | exact hd1 _ (by omega) | exact hd2 _ (by omega) | fail)); (case hg => (simp [bytesV]; omega)); (case hm => repeat (first | exact upd_eq _ _ _ | refine (upd_ne _ _ _ _ (by omega)).trans ?_ | assumption | exact hd _ (by omega) | exact hd0 _ (by omega) | exact hd1 _ (by omega) | exact hd2 _ (by omega) | fail)); (case hl => (simp; omega)); (case hy => rfl))
      refine rl0 (gn rfl) rfl rfl (step_as rfl rfl) trivial ?_
      refine runsL_nil ?_
      refine runs_region ?_
      refine rl0 (gn rfl) rfl rfl (step_mv rfl rfl) trivial ?_
      refine rl0 (gn rfl) rfl rfl (step_add rfl (ev_mk rfl) (ev_mk rfl) (w64 (by omega))) trivial ?_
      refine rl0 (gn rfl) rfl rfl (step_as rfl rfl) trivial ?_
      refine runsL_nil ?_
      have hsn_ := mark_snoc hr (j := j) (by omega)
      refine ⟨_, _, ?_, sle ?_ (Nat.le_refl _), j + 1, _, _, rfl, rfl, by omega, (fun k hk => by repeat (first | exact hf0 k hk | exact hf0 k hk | exact hf1 k hk | exact hf2 k hk | refine (upd_ne _ _ _ _ (by first | assumption | omega)).trans ?_ | fail)), by repeat (first | exact upd_eq _ _ _ | assumption | refine (upd_ne _ _ _ _ (by omega)).trans ?_ | fail), by (rw [← hsn_]; repeat (first | exact upd_eq _ _ _ | assumption | refine (upd_ne _ _ _ _ (by omega)).trans ?_ | fail)), by omega⟩
      · omega
      · (repeat' (first | exact trivial | refine ⟨⟨_, rfl, ?_⟩, ?_⟩ | fail)); (all_goals first | exact VLe.refl _ | (rw [Int.natCast_add]; exact VLe.refl _) | exact VLe.own_sl _ _ _ | exact VLe.fl_sl _ _ | exact VLe.nil_sl _ | (rw [← hsn_]; exact VLe.refl _) | (rw [show (56 : Int) + ((j + 1 : Nat) : Int) = 56 + (j : Int) + 1 by omega]; exact VLe.refl _))
    · skip
      refine runsL_nil ?_
      refine runs_cond false (ev_mk rfl) (fun h_ => nomatch h_) (fun _ => ?_)
      refine runs_exit ?_
      refine runs_seq ?_
      refine runs_region ?_
      refine rl0 (gn rfl) rfl rfl (step_mv rfl rfl) trivial ?_
      refine rl0 (gn rfl) rfl rfl (step_callc rfl Try.func28 rfl rfl rfl (rget_c ((r.drop 56).take j) (bytes_take (bytes_drop hb 56) j) (by rw [List.length_take, drop56 hr]; omega)) (by repeat (first | exact .nil | refine .cons ?_ ?_ | exact VLe.refl _ | exact VLe.own_sl _ _ _ | exact VLe.fl_sl _ _ | exact VLe.nil_sl _ | exact VLe.nil_fl _ | refine VLe.agg ?_))) trivial ?_
      refine rl0 (gn rfl) rfl rfl (step_as rfl rfl) trivial ?_
      refine runsL_nil ?_
      refine runs_ret ?_
      refine ⟨by first | exact .inr rfl | exact .inl rfl, fin_mk (rest rfl res0) ?_ ?_ ?_ ?_⟩
      · (obtain rfl : j = 8 := by omega); rw [List.take_of_length_le (l := r.drop 56) (by rw [drop56 hr]; omega)]; exact VLe.refl _
      · repeat (first | exact trivial | assumption | omega | exact bd_bs | exact bd_row | exact bd_secs | exact bd_bools | refine ⟨?_, ?_⟩ | fail)
      · intro k hk; exact ble (by first | exact rfl | (refine (upd_ne _ _ _ _ (by omega)).trans ?_; first | exact rfl | skip; repeat (first | exact rfl | refine (upd_ne _ _ _ _ (by omega)).trans ?_ | assumption | exact hf0 _ (by omega) | exact hf1 _ (by omega) | exact hf2 _ (by omega) | exact hf0 _ (by omega) (by first | assumption | omega) | exact hf1 _ (by omega) (by first | assumption | omega))) | exact hf0 _ (by omega) | exact hf1 _ (by omega) | exact hf2 _ (by omega) | exact hf0 _ (by omega) (by first | assumption | omega) | exact hf1 _ (by omega) (by first | assumption | omega))
      · intro p hp; cases hp
end Go.Proofs.Ytdcmcmgbnkolbaa
