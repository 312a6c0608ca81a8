/- Walks by the logic of values. -/
import Derived.Test.YtdcmcmgbnkolbaaVa
import Derived.Test.YtdcmcmgbnkolbaaVb
import Derived.Test.YtdcmcmgbnkolbaaVc
import Derived.Test.YtdcmcmgbnkolbaaVd
import Derived.Test.YtdcmcmgbnkolbaaVe
import Derived.Test.YtdcmcmgbnkolbaaVf
import Derived.Test.YtdcmcmgbnkolbaaVg
import Derived.Test.YtdcmcmgbnkolbaaVh
import Derived.Test.YtdcmcmgbnkolbaaVi
import Derived.Test.YtdcmcmgbnkolbaaVj
import Derived.Test.YtdcmcmgbnkolbaaVk
import Derived.Test.YtdcmcmgbnkolbaaVl
import Derived.Test.YtdcmcmgbnkolbaaVmP
namespace Go.Proofs.Ytdcmcmgbnkolbaa
open Go.Vm
set_option linter.unusedVariables false
set_option linter.unusedSimpArgs false
theorem secs_at {l : List (List Int)} {i : Nat} (h : i < l.length) : (secsV l)[i]? = some ((at' l (i : Int)).map bV) := by
  rw [at_nat _ _ h]; unfold secsV; rw [List.getElem?_map, List.getElem?_eq_getElem h]; rfl
theorem secV_len (l : List (List Int)) : (secsV l).length = l.length := by simp [secsV]
theorem secs_ne {l : List (List Int)} (h : 0 < l.length) : secsV l ≠ [] := by intro e; have := congrArg List.length e; simp [secsV] at this; rw [this] at h; simp at h
set_option maxRecDepth 100000 in
set_option maxHeartbeats 4000000 in
theorem put_g (p : List Int) (hp : p.length = 224) (v : Int) (hv : U64 v) (kk : Nat) : Does Try.prog 7 [.agg (p.map bV), .sc (.int .u64 v)] [(kk, .dead)] [(kk, .gcells 4 64 (secsV (putS p v 4)))] (.gsl kk 4 0 4 64) := by
  refine does_mkg 40 Try.func7 rfl rfl rfl (fun n B bx hd hpre hup hvs hbx hgx => ?_)
  have hp0 := hpre.1
  have hz0 := hp0
  have hu0 := hup.1
  refine runs_seq ?_
  refine runs_region ?_
  refine rl1 (gn rfl) rfl rfl (step_box_agg (k := n + 0) rfl rfl) ⟨by repeat (first | exact upd_eq _ _ _ | refine (upd_ne _ _ _ _ (by omega)).trans ?_ | assumption | exact hd _ (by omega) | exact hd0 _ (by omega) | exact hd1 _ (by omega) | exact hd2 _ (by omega) | exact hd3 _ (by omega) | fail), trivial⟩ (by omega) ?_
  refine rl0 (gn rfl) rfl rfl (step_as rfl rfl) trivial ?_
  refine runsL_nil ?_
  refine runs_seq ?_
  refine runs_region ?_
  refine rl0 (gn rfl) rfl rfl (step_as rfl rfl) trivial ?_
  refine runsL_nil ?_
  refine runs_seq ?_
  refine runs_seq ?_
  refine runs_region ?_
  refine rl0 (gn rfl) rfl rfl (step_mv rfl rfl) trivial ?_
  refine runsL_nil ?_
  refine runs_block ?_
  refine runs_growg (d := 5) (k := kk) (e := 64) rfl (by repeat (first | exact upd_eq _ _ _ | refine (upd_ne _ _ _ _ (by omega)).trans ?_ | assumption | exact hd _ (by omega) | exact hd0 _ (by omega) | exact hd1 _ (by omega) | exact hd2 _ (by omega) | exact hd3 _ (by omega) | fail)) (by omega) ?_
  refine runs_loop (fun (ri_ : Nat) (st_ : Go.Vm.S) => ∃ (j : Nat) (m0 : Nat) (b0 : Nat → Box), (st_ = ⟨mk [(1, .sc (.int .u64 v)), (2, .ref (n + 0) 0), (4, .sc (.slice none 0 0)), (5, .gsl kk j 0 j 64), (8, .sc (.int .i64 j))], m0, b0⟩) ∧ (ri_ = 4 - j) ∧ (n + 1 ≤ m0) ∧ (∀ k_, k_ < n → k_ ≠ kk → b0 k_ = bx k_) ∧ (b0 kk = .gcells j 64 (secsV (putS p v j))) ∧ (b0 (n + 0) = .cells (p.map bV)) ∧ (j ≤ 4)) (4 - 0) ⟨_, sle ?_ (Nat.le_refl _), 0, _, _, rfl, rfl, ?_⟩ ?_
  · (repeat' (first | exact trivial | refine ⟨⟨_, rfl, ?_⟩, ?_⟩ | fail)); all_goals (repeat' (first | exact VLe.refl _ | exact VLe.own_sl _ _ _ | exact VLe.fl_sl _ _ | exact VLe.nil_sl _ | exact VLe.nil_fl _ | exact VLes.refl _ | exact .nil | refine VLe.tup ?_ | refine VLe.agg ?_ | refine .cons ?_ ?_ | (rw [Int.natCast_add]; exact VLe.refl _) | exact vle_int (by omega) | exact vle_bool (by first | rfl | assumption | (simp_all; done)) | fail))
  · exact ⟨by omega, (fun k_ hk_ e0_ => by first | exact rfl | (refine (upd_ne _ _ _ _ (by omega)).trans ?_; first | exact rfl | skip; repeat (first | exact rfl | refine (upd_ne _ _ _ _ (by omega)).trans ?_ | assumption | exact hf0 _ (by omega) | exact hf1 _ (by omega) | exact hf2 _ (by omega) | exact hf3 _ (by omega) | exact hf0 _ (by omega) (by first | assumption | omega) | exact hf1 _ (by omega) (by first | assumption | omega) | exact hf2 _ (by omega) (by first | assumption | omega) | exact hf3 _ (by omega) (by first | assumption | omega) | exact hf0 _ (by omega) (by first | assumption | omega) (by first | assumption | omega) | exact hf1 _ (by omega) (by first | assumption | omega) (by first | assumption | omega) | exact hf2 _ (by omega) (by first | assumption | omega) (by first | assumption | omega) | exact hf3 _ (by omega) (by first | assumption | omega) (by first | assumption | omega))) | exact hf0 _ (by omega) | exact hf1 _ (by omega) | exact hf2 _ (by omega) | exact hf3 _ (by omega) | exact hf0 _ (by omega) (by first | assumption | omega) | exact hf1 _ (by omega) (by first | assumption | omega) | exact hf2 _ (by omega) (by first | assumption | omega) | exact hf3 _ (by omega) (by first | assumption | omega) | exact hf0 _ (by omega) (by first | assumption | omega) (by first | assumption | omega) | exact hf1 _ (by omega) (by first | assumption | omega) (by first | assumption | omega) | exact hf2 _ (by omega) (by first | assumption | omega) (by first | assumption | omega) | exact hf3 _ (by omega) (by first | assumption | omega) (by first | assumption | omega)), by first | ((repeat (first | exact upd_eq _ _ _ | assumption | refine (upd_ne _ _ _ _ (by omega)).trans ?_ | fail)); done) | exact tl_eq (by repeat (first | exact upd_eq _ _ _ | assumption | refine (upd_ne _ _ _ _ (by omega)).trans ?_ | fail)) (by first | rfl | (simp [bytesV, beB_len]; done) | (simp [bytesV, beB_len]; omega) | omega), by first | ((repeat (first | exact upd_eq _ _ _ | assumption | refine (upd_ne _ _ _ _ (by omega)).trans ?_ | fail)); done) | exact tl_eq (by repeat (first | exact upd_eq _ _ _ | assumption | refine (upd_ne _ _ _ _ (by omega)).trans ?_ | fail)) (by first | rfl | (simp [bytesV, beB_len]; done) | (simp [bytesV, beB_len]; omega) | omega), by omega⟩
  · rintro _ _ ⟨j, m0, b0, rfl, rfl, hm0, hf0, hB0_0, hB0_1, hF0_0⟩
    refine runs_know (fun hd0 => ?_)
    refine runs_bump 20 ?_
    simp only at hd0
    refine runs_seq ?_
    refine runs_region ?_
    refine rl_lss (gn rfl) rfl rfl rfl rfl rfl (fun h1 => ?_) (fun h1 => ?_)
    · skip
      refine runsL_nil ?_
      refine runs_seq ?_
      refine runs_cond true (ev_mk rfl) (fun _ => ?_) (fun h_ => nomatch h_)
      refine runs_skip ?_
      refine runs_seq ?_
      refine runs_block ?_
      refine runs_seq ?_
      refine runs_region ?_
      refine rl0 (gn rfl) rfl rfl (step_mv rfl rfl) trivial ?_
      refine rl0 (gn rfl) rfl rfl (step_as rfl rfl) trivial ?_
      refine runsL_nil ?_
      refine runs_seq ?_
      refine runs_region ?_
      refine rl1 (gn rfl) rfl rfl (step_allocc (k := m0 + 0) (zs := (List.replicate 64 (.int .u8 0))) (cs := List.replicate 64 (.sc (.int .u8 0))) rfl F.zero45 (by first | rfl | simp) (by first | rfl | decide | simp) (by first | rfl | simp)) ⟨by repeat (first | exact upd_eq _ _ _ | refine (upd_ne _ _ _ _ (by omega)).trans ?_ | assumption | exact hd _ (by omega) | exact hd0 _ (by omega) | exact hd1 _ (by omega) | exact hd2 _ (by omega) | exact hd3 _ (by omega) | fail), trivial⟩ (by omega) ?_
      refine runsL_nil ?_
      refine runs_seq ?_
      refine runs_draw (by kernel_rfl) (by kernel_rfl) (by kernel_rfl) ?_
      refine dl0 (gn rfl) rfl rfl (step_sl_arr (a := 0) (h := 64) (m := 64) (q' := 0) (n' := 64) (c' := 64) rfl (ev_mk rfl) Try.underlying45 F.sz5 bndLo_none bndHi_none bndHi_none (fun h_ => by first | rfl | nomatch h_) (by omega) (by omega) (by omega) (by first | exact .inl ⟨by omega, by omega⟩ | exact .inr ⟨by omega, by omega⟩) (by first | rfl | omega) (by first | rfl | omega)) trivial ?_
      refine dl0 (gn rfl) rfl rfl (step_mv rfl rfl) trivial ?_
      refine dl0 (gn rfl) rfl rfl (step_mul rfl (ev_mk rfl) (ev_mk rfl) (w64 (by omega))) trivial ?_
      refine dl0 (gn rfl) rfl rfl (step_mv rfl rfl) trivial ?_
      refine dl0 (gn rfl) rfl rfl (step_add rfl (ev_mk rfl) (ev_mk rfl) (w64 (by omega))) trivial ?_
      refine dl0 (gn rfl) rfl rfl (step_mul rfl (ev_mk rfl) (ev_mk rfl) (w64 (by omega))) trivial ?_
      refine dl0 (gn rfl) rfl rfl (step_sl_arr (a := (56 * j)) (h := (56 * (j + 1))) (m := 224) (q' := (56 * j)) (n' := 56) (c' := (224 - 56 * j)) rfl (ev_mk rfl) Try.underlying22 F.sz5 (bndLo_nat (a := (56 * j)) rfl (by first | omega | (split <;> omega) | (first | (simp; done) | exact sec_len hp (j := j) (by omega) v | (rw [List.length_map]; exact hp) | exact sec_len0 hp (j := j) (by omega) | (simp [secsV, putS_len]; done)))) (bndHi_nat (a := (56 * (j + 1))) rfl (by first | omega | (split <;> omega) | (first | (simp; done) | exact sec_len hp (j := j) (by omega) v | (rw [List.length_map]; exact hp) | exact sec_len0 hp (j := j) (by omega) | (simp [secsV, putS_len]; done)))) bndHi_none (fun h_ => by first | rfl | nomatch h_) (by omega) (by omega) (by omega) (by first | exact .inl ⟨by omega, by omega⟩ | exact .inr ⟨by omega, by omega⟩) (by first | rfl | omega) (by first | rfl | omega)) trivial ?_
      refine' dl1 (gn rfl) rfl rfl (step_copy (m := (bytesV (pc p j)).length) (cs' := (pc p j ++ List.replicate 8 0).map bV) rfl rfl Try.underlying48 F.sz5 (ev_mk rfl) (ev_mk rfl) (gives_msl (ys := bytesV (pc p j)) ?gl ?gy) ?hmn ?hl ?hcs) ⟨?hb, ?gb, trivial⟩ (by omega) ?_
      case hb => repeat (first | exact upd_eq _ _ _ | refine (upd_ne _ _ _ _ (by omega)).trans ?_ | assumption | exact hd _ (by omega) | exact hd0 _ (by omega) | exact hd1 _ (by omega) | exact hd2 _ (by omega) | exact hd3 _ (by omega) | fail)
      case gb => repeat (first | exact upd_eq _ _ _ | refine (upd_ne _ _ _ _ (by omega)).trans ?_ | assumption | exact hd _ (by omega) | exact hd0 _ (by omega) | exact hd1 _ (by omega) | exact hd2 _ (by omega) | exact hd3 _ (by omega) | fail)
      case gl => rw [List.length_map, hp]; omega
      case gy => exact rows_pc hp (j := j) (by omega)
      case hmn => exact Nat.min_eq_left (by rw [bytesV, List.length_map, pc_len hp (by omega)]; omega)
      case hl => first | (simp; done) | decide
      case hcs => exact (congrArg (setSeg _ _) (congrArg List.flatten (List.take_of_length_le (Nat.le_refl _)))).trans (sec_a hp (j := j) (by omega))
      refine dlnil ?_ ?_
      · repeat' (first | exact trivial | exact .inr (ap0 _ _ _ _) | exact .inr (ap2 _ _ _ _) | exact .inr (ap3 _ _ _ _) | exact .inr ⟨by first | (simp; done) | (simp; omega), by first | (simp; done) | (simp; omega)⟩ | exact .inl (by kernel_rfl) | refine ⟨?_, ?_⟩ | fail)
      refine runs_seq ?_
      refine runs_draw (by kernel_rfl) (by kernel_rfl) (by kernel_rfl) ?_
      refine dl0 (gn rfl) rfl rfl (step_sl_arr (a := 56) (h := 64) (m := 64) (q' := 56) (n' := 8) (c' := 8) rfl (ev_mk rfl) Try.underlying45 F.sz5 (bndLo_nat (a := 56) rfl (by first | omega | (split <;> omega) | (first | (simp; done) | exact sec_len hp (j := j) (by omega) v | (rw [List.length_map]; exact hp) | exact sec_len0 hp (j := j) (by omega) | (simp [secsV, putS_len]; done)))) bndHi_none bndHi_none (fun h_ => by first | rfl | nomatch h_) (by omega) (by omega) (by omega) (by first | exact .inl ⟨by omega, by omega⟩ | exact .inr ⟨by omega, by omega⟩) (by first | rfl | omega) (by first | rfl | omega)) trivial ?_
      refine dl0 (gn rfl) rfl rfl (step_mv rfl rfl) trivial ?_
      refine dl0 (gn rfl) rfl rfl (step_callc rfl Try.func21 rfl rfl rfl (wput_c v hv) (by repeat (first | exact .nil | refine .cons ?_ ?_ | exact VLe.refl _ | exact VLe.own_sl _ _ _ | exact VLe.fl_sl _ _ | exact VLe.nil_sl _ | exact VLe.nil_fl _ | refine VLe.agg ?_))) trivial ?_
      refine' dl1 (gn rfl) rfl rfl (step_copy (m := (bytesV (beB 8 v)).length) (cs' := (pc p j ++ beB 8 v).map bV) rfl rfl Try.underlying48 F.sz5 (ev_mk rfl) (ev_mk rfl) (gives_sl (.inl rfl)) ?hmn ?hl ?hcs) ⟨?hb, trivial⟩ (by omega) ?_
      case hb => repeat (first | exact upd_eq _ _ _ | refine (upd_ne _ _ _ _ (by omega)).trans ?_ | assumption | exact hd _ (by omega) | exact hd0 _ (by omega) | exact hd1 _ (by omega) | exact hd2 _ (by omega) | exact hd3 _ (by omega) | fail)
      case hmn => exact Nat.min_eq_left (by rw [bytesV, List.length_map, beB_len]; omega)
      case hl => rw [sec_len0 hp (show j < 4 by omega)]; omega
      case hcs => exact (congrArg (setSeg _ _) (congrArg List.flatten (List.take_of_length_le (Nat.le_refl _)))).trans (sec_b hp (j := j) (by omega) v)
      refine dlnil ?_ ?_
      · repeat' (first | exact trivial | exact .inr (ap0 _ _ _ _) | exact .inr (ap2 _ _ _ _) | exact .inr (ap3 _ _ _ _) | exact .inr ⟨by first | (simp; done) | (simp; omega), by first | (simp; done) | (simp; omega)⟩ | exact .inl (by kernel_rfl) | refine ⟨?_, ?_⟩ | fail)
      refine runs_region ?_
      refine rl0 (gn rfl) rfl rfl (step_mv rfl rfl) trivial ?_
      refine' rl0 (gn rfl) rfl rfl (step_load_all rfl rfl F.agg45 ?hl) ⟨?hb, trivial⟩ ?_
      case hb => repeat (first | exact upd_eq _ _ _ | refine (upd_ne _ _ _ _ (by omega)).trans ?_ | assumption | exact hd _ (by omega) | exact hd0 _ (by omega) | exact hd1 _ (by omega) | exact hd2 _ (by omega) | exact hd3 _ (by omega) | fail)
      case hl => first | rfl | (simp; done) | (first | (simp; done) | exact sec_len hp (j := j) (by omega) v | (rw [List.length_map]; exact hp) | exact sec_len0 hp (j := j) (by omega) | (simp [secsV, putS_len]; done))
      refine rl0 (gn rfl) rfl rfl (step_lit rfl Try.underlying24 F.sz45 F.zero45 (by first | rfl | simp) (by first | rfl | simp | decide) (by decide) rfl rfl (by first | (simp [V.cs, V.stor, oneV]; done) | ((intro v_1 h_; rw [List.mem_singleton] at h_; subst h_; exact ⟨sec_len hp (show j < 4 by omega) v, rfl⟩))) rfl) trivial ?_
      refine' rl1 (gn rfl) rfl rfl (step_append_g (xs' := secsV (putS p v (j + 1))) rfl rfl rfl Try.underlying24 ⟨_, Try.underlying24, fun k_ => by intro h_; cases h_⟩ F.el45 (ev_mk rfl) (ev_mk rfl) (gives_sl (.inr (.inl rfl))) ?hl ?hg ?hx) ⟨?hb, trivial⟩ (by omega) ?_
      case hb => repeat (first | exact upd_eq _ _ _ | refine (upd_ne _ _ _ _ (by omega)).trans ?_ | assumption | exact hd _ (by omega) | exact hd0 _ (by omega) | exact hd1 _ (by omega) | exact hd2 _ (by omega) | exact hd3 _ (by omega) | fail)
      case hl => first | omega | (simp; done) | (first | (simp; done) | exact sec_len hp (j := j) (by omega) v | (rw [List.length_map]; exact hp) | exact sec_len0 hp (j := j) (by omega) | (simp [secsV, putS_len]; done))
      case hg => (simp [secsV, putS_len]; omega)
      case hx => rw [List.take_of_length_le (by simp [secsV, putS_len])]; exact putS_snoc p v j
      refine rl0 (gn rfl) rfl rfl (step_as rfl rfl) trivial ?_
      refine runsL_nil ?_
      refine runs_region ?_
      refine rl0 (gn rfl) rfl rfl (step_add rfl (ev_mk rfl) (ev_mk rfl) (w64 (by omega))) trivial ?_
      refine rl0 (gn rfl) rfl rfl (step_mv rfl rfl) trivial ?_
      refine runsL_nil ?_
      refine ⟨_, _, ?_, sle ?_ (Nat.le_refl _), (j + 1), _, _, rfl, rfl, by omega, (fun k_ hk_ e0_ => by repeat (first | exact hf0 k_ hk_ e0_ | exact hf1 k_ hk_ | exact hf2 k_ hk_ | exact hf3 k_ hk_ | refine (upd_ne _ _ _ _ (by first | assumption | omega)).trans ?_ | fail)), by first | ((repeat (first | exact upd_eq _ _ _ | assumption | refine (upd_ne _ _ _ _ (by omega)).trans ?_ | fail)); done) | exact tl_eq (by repeat (first | exact upd_eq _ _ _ | assumption | refine (upd_ne _ _ _ _ (by omega)).trans ?_ | fail)) (by first | rfl | (simp [bytesV, beB_len]; done) | (simp [bytesV, beB_len]; omega) | omega), by first | ((repeat (first | exact upd_eq _ _ _ | assumption | refine (upd_ne _ _ _ _ (by omega)).trans ?_ | fail)); done) | exact tl_eq (by repeat (first | exact upd_eq _ _ _ | assumption | refine (upd_ne _ _ _ _ (by omega)).trans ?_ | fail)) (by first | rfl | (simp [bytesV, beB_len]; done) | (simp [bytesV, beB_len]; omega) | omega), by omega⟩
      · omega
      · (repeat' (first | exact trivial | refine ⟨⟨_, rfl, ?_⟩, ?_⟩ | fail)); all_goals (repeat' (first | exact VLe.refl _ | exact VLe.own_sl _ _ _ | exact VLe.fl_sl _ _ | exact VLe.nil_sl _ | exact VLe.nil_fl _ | exact VLes.refl _ | exact .nil | refine VLe.tup ?_ | refine VLe.agg ?_ | refine .cons ?_ ?_ | (rw [Int.natCast_add]; exact VLe.refl _) | exact vle_int (by omega) | exact vle_bool (by first | rfl | assumption | (simp_all; done)) | fail))
    · skip
      refine runsL_nil ?_
      refine runs_seq ?_
      refine runs_cond false (ev_mk rfl) (fun h_ => nomatch h_) (fun _ => ?_)
      refine runs_exit ?_
      refine runs_seq ?_
      refine runs_region ?_
      refine rl0 (gn rfl) rfl rfl (step_mv rfl rfl) trivial ?_
      refine rl0 (gn rfl) rfl rfl (step_as rfl rfl) trivial ?_
      refine runsL_nil ?_
      refine runs_ret ?_
      obtain rfl : j = 4 := by omega
      refine ⟨by first | exact .inr rfl | exact .inl rfl, fin_mkg (rest rfl res0) ?_ ?_ ?_ ?_ ?_⟩
      · (repeat' (first | exact VLe.refl _ | exact VLe.own_sl _ _ _ | exact VLe.fl_sl _ _ | exact VLe.nil_sl _ | exact VLe.nil_fl _ | exact VLes.refl _ | exact .nil | refine VLe.tup ?_ | refine VLe.agg ?_ | refine .cons ?_ ?_ | (rw [Int.natCast_add]; exact VLe.refl _) | exact vle_int (by omega) | exact vle_bool (by first | rfl | assumption | (simp_all; done)) | fail))
      · repeat (first | exact trivial | assumption | omega | exact bd_bs | exact bd_row | exact bd_secs | exact bd_bools | (refine bdR_map (fun _ => ?_)) | (refine bdL_map (fun _ => ?_)) | refine ⟨?_, ?_⟩ | fail)
      · intro k_ hk_; simp only [upds]; by_cases e_ : k_ = kk; (focus subst e_; refine bl_eq ?_; first | (refine' blec ?hb ?hl; (case hb => repeat (first | exact upd_eq _ _ _ | assumption | refine (upd_ne _ _ _ _ (by omega)).trans ?_ | fail)); (case hl => first | exact VLes.refl _ | ((repeat' (first | exact VLe.refl _ | exact VLe.own_sl _ _ _ | exact VLe.fl_sl _ _ | exact VLe.nil_sl _ | exact VLe.nil_fl _ | exact VLes.refl _ | exact .nil | refine VLe.tup ?_ | refine VLe.agg ?_ | refine .cons ?_ ?_ | (rw [Int.natCast_add]; exact VLe.refl _) | exact vle_int (by omega) | exact vle_bool (by first | rfl | assumption | (simp_all; done)) | fail)); done))) | (refine ble ?_; (repeat (first | exact upd_eq _ _ _ | assumption | refine (upd_ne _ _ _ _ (by omega)).trans ?_ | fail)); done) | exact ble (tl_eq (by repeat (first | exact upd_eq _ _ _ | assumption | refine (upd_ne _ _ _ _ (by omega)).trans ?_ | fail)) (by first | rfl | (simp [bytesV, beB_len]; done) | (simp [bytesV, beB_len]; omega) | omega))); refine bl_ne e_ ?_; exact ble (by first | exact rfl | (refine (upd_ne _ _ _ _ (by omega)).trans ?_; first | exact rfl | skip; repeat (first | exact rfl | refine (upd_ne _ _ _ _ (by omega)).trans ?_ | assumption | exact hf0 _ (by omega) | exact hf1 _ (by omega) | exact hf2 _ (by omega) | exact hf3 _ (by omega) | exact hf0 _ (by omega) (by first | assumption | omega) | exact hf1 _ (by omega) (by first | assumption | omega) | exact hf2 _ (by omega) (by first | assumption | omega) | exact hf3 _ (by omega) (by first | assumption | omega) | exact hf0 _ (by omega) (by first | assumption | omega) (by first | assumption | omega) | exact hf1 _ (by omega) (by first | assumption | omega) (by first | assumption | omega) | exact hf2 _ (by omega) (by first | assumption | omega) (by first | assumption | omega) | exact hf3 _ (by omega) (by first | assumption | omega) (by first | assumption | omega))) | exact hf0 _ (by omega) | exact hf1 _ (by omega) | exact hf2 _ (by omega) | exact hf3 _ (by omega) | exact hf0 _ (by omega) (by first | assumption | omega) | exact hf1 _ (by omega) (by first | assumption | omega) | exact hf2 _ (by omega) (by first | assumption | omega) | exact hf3 _ (by omega) (by first | assumption | omega) | exact hf0 _ (by omega) (by first | assumption | omega) (by first | assumption | omega) | exact hf1 _ (by omega) (by first | assumption | omega) (by first | assumption | omega) | exact hf2 _ (by omega) (by first | assumption | omega) (by first | assumption | omega) | exact hf3 _ (by omega) (by first | assumption | omega) (by first | assumption | omega))
      · intro p hp cs hcs; simp only [List.mem_cons, List.not_mem_nil, or_false] at hp; (first | (rcases hp with rfl)) <;> (first | (cases hcs; done) | (cases hcs; repeat (first | exact trivial | assumption | omega | exact bd_bs | exact bd_row | exact bd_secs | exact bd_bools | (refine bdR_map (fun _ => ?_)) | (refine bdL_map (fun _ => ?_)) | refine ⟨?_, ?_⟩ | fail)))
      · repeat (first | exact trivial | assumption | omega | exact bd_bs | exact bd_row | exact bd_secs | exact bd_bools | (refine bdR_map (fun _ => ?_)) | (refine bdL_map (fun _ => ?_)) | refine ⟨?_, ?_⟩ | fail)
set_option maxRecDepth 100000 in
set_option maxHeartbeats 4000000 in
theorem get_g (kk vv q i c : Nat) (rows : List (List V)) (r : List V) (b : List Int) (hb : bytes b) (hl : b.length = 8) (hi : rows[i]? = some r) (hq : q = i * 64 + c) (hcs : ∀ j : Nat, j < 8 → r[c + j]? = some (bV (at' b (j : Int)))) : Does Try.prog 22 [.gsl kk vv q 8 1] [(kk, .gcells vv 64 rows)] [] (.sc (.int .u64 (beN b))) := by
  refine does_mkg 40 Try.func22 rfl rfl rfl (fun n B bx hd hpre hup hvs hbx hgx => ?_)
  have hp0 := hpre.1
  have hk0 := lt_gcells hd hp0
  have hne : rows ≠ [] := by intro e; rw [e] at hi; simp at hi
  refine runs_seq ?_
  refine runs_region ?_
  refine rl0 (gn rfl) rfl rfl (step_as rfl rfl) trivial ?_
  refine runsL_nil ?_
  refine runs_seq ?_
  refine runs_region ?_
  refine rl0 (gn rfl) rfl rfl (step_as rfl rfl) trivial ?_
  refine runsL_nil ?_
  refine runs_seq ?_
  refine runs_seq ?_
  refine runs_region ?_
  refine rl0 (gn rfl) rfl rfl (step_mv rfl rfl) trivial ?_
  refine rl0 (gn rfl) rfl rfl (step_mv rfl rfl) trivial ?_
  refine rl0 (gn rfl) rfl rfl (step_len_g rfl rfl (ev_mk rfl) Try.underlying48) trivial ?_
  refine rl0 (gn rfl) rfl rfl (step_sub rfl (ev_mk rfl) (ev_mk rfl) (w64 (by omega))) trivial ?_
  refine rl0 (gn rfl) rfl rfl (step_max rfl (ev_mk rfl) (ev_mk rfl)) trivial ?_
  refine rl0 (gn rfl) rfl rfl (step_slice_g (l := 0) (h := 8) (q' := q) (n' := 8) rfl (ev_mk rfl) Try.underlying48 F.sz5 (bndLo_nat (a := 0) rfl (by first | omega | (split <;> omega) | (exact hcs j (by omega)))) bndHi_none (by omega) (by omega) (by first | rfl | omega) (by first | rfl | omega)) trivial ?_
  refine rl0 (gn rfl) rfl rfl (step_len_g rfl rfl (ev_mk rfl) Try.underlying48) trivial ?_
  refine rl0 (gn rfl) rfl rfl (step_mv rfl rfl) trivial ?_
  refine runsL_nil ?_
  refine runs_block ?_
  refine runs_loop (fun (ri_ : Nat) (st_ : Go.Vm.S) => ∃ (j : Nat) (m0 : Nat) (b0 : Nat → Box), (st_ = ⟨mk [(2, .sc (.int .u64 0)), (3, .sc (.int .u64 (beN (b.take j)))), (11, .gsl kk vv q 8 1), (12, .sc (.int .i64 8)), (13, .sc (.int .i64 j))], m0, b0⟩) ∧ (ri_ = 8 - j) ∧ (n + 0 ≤ m0) ∧ (∀ k_, k_ < n → b0 k_ = bx k_) ∧ (b0 kk = .gcells vv 64 rows) ∧ (j ≤ 8)) (8 - 0) ⟨_, sle ?_ (Nat.le_refl _), 0, _, _, rfl, rfl, ?_⟩ ?_
  · (repeat' (first | exact trivial | refine ⟨⟨_, rfl, ?_⟩, ?_⟩ | fail)); all_goals (repeat' (first | exact VLe.refl _ | exact VLe.own_sl _ _ _ | exact VLe.fl_sl _ _ | exact VLe.nil_sl _ | exact VLe.nil_fl _ | exact VLes.refl _ | exact .nil | refine VLe.tup ?_ | refine VLe.agg ?_ | refine .cons ?_ ?_ | (rw [Int.natCast_add]; exact VLe.refl _) | exact vle_int (by omega) | exact vle_bool (by first | rfl | assumption | (simp_all; done)) | fail))
  · exact ⟨by omega, (fun k_ hk_ => by first | exact rfl | (refine (upd_ne _ _ _ _ (by omega)).trans ?_; first | exact rfl | skip; repeat (first | exact rfl | refine (upd_ne _ _ _ _ (by omega)).trans ?_ | assumption | exact hf0 _ (by omega) | exact hf1 _ (by omega) | exact hf2 _ (by omega) | exact hf3 _ (by omega) | exact hf0 _ (by omega) (by first | assumption | omega) | exact hf1 _ (by omega) (by first | assumption | omega) | exact hf2 _ (by omega) (by first | assumption | omega) | exact hf3 _ (by omega) (by first | assumption | omega) | exact hf0 _ (by omega) (by first | assumption | omega) (by first | assumption | omega) | exact hf1 _ (by omega) (by first | assumption | omega) (by first | assumption | omega) | exact hf2 _ (by omega) (by first | assumption | omega) (by first | assumption | omega) | exact hf3 _ (by omega) (by first | assumption | omega) (by first | assumption | omega))) | exact hf0 _ (by omega) | exact hf1 _ (by omega) | exact hf2 _ (by omega) | exact hf3 _ (by omega) | exact hf0 _ (by omega) (by first | assumption | omega) | exact hf1 _ (by omega) (by first | assumption | omega) | exact hf2 _ (by omega) (by first | assumption | omega) | exact hf3 _ (by omega) (by first | assumption | omega) | exact hf0 _ (by omega) (by first | assumption | omega) (by first | assumption | omega) | exact hf1 _ (by omega) (by first | assumption | omega) (by first | assumption | omega) | exact hf2 _ (by omega) (by first | assumption | omega) (by first | assumption | omega) | exact hf3 _ (by omega) (by first | assumption | omega) (by first | assumption | omega)), by first | ((repeat (first | exact upd_eq _ _ _ | assumption | refine (upd_ne _ _ _ _ (by omega)).trans ?_ | fail)); done) | exact tl_eq (by repeat (first | exact upd_eq _ _ _ | assumption | refine (upd_ne _ _ _ _ (by omega)).trans ?_ | fail)) (by first | rfl | (simp [bytesV, beB_len]; done) | (simp [bytesV, beB_len]; omega) | omega), by omega⟩
  · rintro _ _ ⟨j, m0, b0, rfl, rfl, hm0, hf0, hB0_0, hF0_0⟩
    refine runs_know (fun hd0 => ?_)
    refine runs_bump 20 ?_
    simp only at hd0
    refine runs_seq ?_
    refine runs_region ?_
    refine rl_lss (gn rfl) rfl rfl rfl rfl rfl (fun h1 => ?_) (fun h1 => ?_)
    · skip
      refine runsL_nil ?_
      refine runs_seq ?_
      refine runs_cond true (ev_mk rfl) (fun _ => ?_) (fun h_ => nomatch h_)
      refine runs_skip ?_
      refine runs_seq ?_
      refine runs_block ?_
      refine runs_seq ?_
      refine runs_region ?_
      refine' rl0 (gn rfl) rfl rfl (step_index_gs rfl (ev_mk rfl) (ev_mk rfl) Try.underlying48 F.sz5 (by omega) (by omega) ?h0) ⟨?hb, trivial⟩ ?_
      case hb => repeat (first | exact upd_eq _ _ _ | refine (upd_ne _ _ _ _ (by omega)).trans ?_ | assumption | exact hd _ (by omega) | exact hd0 _ (by omega) | exact hd1 _ (by omega) | exact hd2 _ (by omega) | exact hd3 _ (by omega) | fail)
      case h0 => assumption
      refine' rl0 (gn rfl) rfl rfl (step_load_g1 (i := i) (c := (c + j)) (r := r) rfl (ev_mk rfl) F.one5 ?hi ?hc ?hq) ⟨?hb, trivial⟩ ?_
      case hb => repeat (first | exact upd_eq _ _ _ | refine (upd_ne _ _ _ _ (by omega)).trans ?_ | assumption | exact hd _ (by omega) | exact hd0 _ (by omega) | exact hd1 _ (by omega) | exact hd2 _ (by omega) | exact hd3 _ (by omega) | fail)
      case hi => exact hi
      case hc => first | rfl | (exact hcs j (by omega))
      case hq => first | rfl | omega
      refine rl0 (gn rfl) rfl rfl (step_as rfl rfl) trivial ?_
      refine runsL_nil ?_
      refine runs_region ?_
      refine rl0 (gn rfl) rfl rfl (step_mv rfl rfl) trivial ?_
      refine rl0 (gn rfl) rfl rfl (step_shl (r := beN (b.take j) * 256) rfl (ev_mk rfl) (ev_mk rfl) (by omega) (by show IntKind.u64.wrap (_ * 2 ^ 8) = _; rw [show (2 : Int) ^ 8 = 256 from rfl]; have h_ := beN_8 hb hl (j := j) (by omega); exact wu64 (by omega))) trivial ?_
      refine rl0 (gn rfl) rfl rfl (step_mv rfl rfl) trivial ?_
      refine rl0 (gn rfl) rfl rfl (step_conv_id rfl rfl Try.underlying5 Try.underlying23 (wu64 (by have h2_ := at_byte hb (i := (j : Int)) (by omega) (by omega); omega))) trivial ?_
      refine rl0 (gn rfl) rfl rfl (step_bits (r := beN (b.take (j + 1))) rfl (ev_mk rfl) (ev_mk rfl) (.inr (.inl rfl)) (by rw [beN_take (by omega)]; have h_ := beN_8 hb hl (j := j) (by omega); have h2_ := at_byte hb (i := (j : Int)) (by omega) (by omega); exact or_join8 h_.1 (by omega) h2_.1 h2_.2)) trivial ?_
      refine rl0 (gn rfl) rfl rfl (step_as rfl rfl) trivial ?_
      refine runsL_nil ?_
      refine runs_region ?_
      refine rl0 (gn rfl) rfl rfl (step_add rfl (ev_mk rfl) (ev_mk rfl) (w64 (by omega))) trivial ?_
      refine rl0 (gn rfl) rfl rfl (step_mv rfl rfl) trivial ?_
      refine runsL_nil ?_
      refine ⟨_, _, ?_, sle ?_ (Nat.le_refl _), (j + 1), _, _, rfl, rfl, by omega, (fun k_ hk_ => by repeat (first | exact hf0 k_ hk_ | exact hf1 k_ hk_ | exact hf2 k_ hk_ | exact hf3 k_ hk_ | refine (upd_ne _ _ _ _ (by first | assumption | omega)).trans ?_ | fail)), by first | ((repeat (first | exact upd_eq _ _ _ | assumption | refine (upd_ne _ _ _ _ (by omega)).trans ?_ | fail)); done) | exact tl_eq (by repeat (first | exact upd_eq _ _ _ | assumption | refine (upd_ne _ _ _ _ (by omega)).trans ?_ | fail)) (by first | rfl | (simp [bytesV, beB_len]; done) | (simp [bytesV, beB_len]; omega) | omega), by omega⟩
      · omega
      · (repeat' (first | exact trivial | refine ⟨⟨_, rfl, ?_⟩, ?_⟩ | fail)); all_goals (repeat' (first | exact VLe.refl _ | exact VLe.own_sl _ _ _ | exact VLe.fl_sl _ _ | exact VLe.nil_sl _ | exact VLe.nil_fl _ | exact VLes.refl _ | exact .nil | refine VLe.tup ?_ | refine VLe.agg ?_ | refine .cons ?_ ?_ | (rw [Int.natCast_add]; exact VLe.refl _) | exact vle_int (by omega) | exact vle_bool (by first | rfl | assumption | (simp_all; done)) | fail))
    · skip
      refine runsL_nil ?_
      refine runs_seq ?_
      refine runs_cond false (ev_mk rfl) (fun h_ => nomatch h_) (fun _ => ?_)
      refine runs_exit ?_
      refine runs_seq ?_
      refine runs_region ?_
      refine rl0 (gn rfl) rfl rfl (step_mv rfl rfl) trivial ?_
      refine rl0 (gn rfl) rfl rfl (step_as rfl rfl) trivial ?_
      refine runsL_nil ?_
      refine runs_ret ?_
      obtain rfl : j = 8 := by omega
      refine ⟨by first | exact .inr rfl | exact .inl rfl, fin_mkg (rest rfl res0) ?_ ?_ ?_ ?_ ?_⟩
      · (repeat' (first | exact VLe.refl _ | exact VLe.own_sl _ _ _ | exact VLe.fl_sl _ _ | exact VLe.nil_sl _ | exact VLe.nil_fl _ | exact VLes.refl _ | exact .nil | refine VLe.tup ?_ | refine VLe.agg ?_ | refine .cons ?_ ?_ | (rw [Int.natCast_add]; exact VLe.refl _) | exact vle_int (by omega) | exact vle_bool (by first | rfl | assumption | (simp_all; done)) | ((rw [List.take_of_length_le (by omega)]; exact VLe.refl _)) | fail))
      · repeat (first | exact trivial | assumption | omega | exact bd_bs | exact bd_row | exact bd_secs | exact bd_bools | (refine bdR_map (fun _ => ?_)) | (refine bdL_map (fun _ => ?_)) | refine ⟨?_, ?_⟩ | fail)
      · intro k_ hk_; exact ble (by first | exact rfl | (refine (upd_ne _ _ _ _ (by omega)).trans ?_; first | exact rfl | skip; repeat (first | exact rfl | refine (upd_ne _ _ _ _ (by omega)).trans ?_ | assumption | exact hf0 _ (by omega) | exact hf1 _ (by omega) | exact hf2 _ (by omega) | exact hf3 _ (by omega) | exact hf0 _ (by omega) (by first | assumption | omega) | exact hf1 _ (by omega) (by first | assumption | omega) | exact hf2 _ (by omega) (by first | assumption | omega) | exact hf3 _ (by omega) (by first | assumption | omega) | exact hf0 _ (by omega) (by first | assumption | omega) (by first | assumption | omega) | exact hf1 _ (by omega) (by first | assumption | omega) (by first | assumption | omega) | exact hf2 _ (by omega) (by first | assumption | omega) (by first | assumption | omega) | exact hf3 _ (by omega) (by first | assumption | omega) (by first | assumption | omega))) | exact hf0 _ (by omega) | exact hf1 _ (by omega) | exact hf2 _ (by omega) | exact hf3 _ (by omega) | exact hf0 _ (by omega) (by first | assumption | omega) | exact hf1 _ (by omega) (by first | assumption | omega) | exact hf2 _ (by omega) (by first | assumption | omega) | exact hf3 _ (by omega) (by first | assumption | omega) | exact hf0 _ (by omega) (by first | assumption | omega) (by first | assumption | omega) | exact hf1 _ (by omega) (by first | assumption | omega) (by first | assumption | omega) | exact hf2 _ (by omega) (by first | assumption | omega) (by first | assumption | omega) | exact hf3 _ (by omega) (by first | assumption | omega) (by first | assumption | omega))
      · intro p hp; cases hp
      · repeat (first | exact trivial | assumption | omega | exact bd_bs | exact bd_row | exact bd_secs | exact bd_bools | (refine bdR_map (fun _ => ?_)) | (refine bdL_map (fun _ => ?_)) | refine ⟨?_, ?_⟩ | fail)
set_option maxRecDepth 100000 in
set_option maxHeartbeats 4000000 in
theorem lgetg_torn (l : List (List Int)) (hl : ∀ r ∈ l, r.length = 64) (hb : ∀ r ∈ l, bytes r) (h4 : l.length = 4) (kk vv : Nat) (ht : ∃ r ∈ l, beN (r.drop 56) ≠ beN ((at' l 0).drop 56)) : Does Try.prog 8 [.gsl kk vv 0 4 64] [(kk, .gcells vv 64 (secsV l))] [] (.tup [.agg (List.replicate 224 (bV 0)), .sc (.int .u64 0), .sc (.bool false)]) := by
  refine does_mkg 40 Try.func8 rfl rfl rfl (fun n B bx hd hpre hup hvs hbx hgx => ?_)
  have hp0 := hpre.1
  have hk0 := lt_gcells hd hp0
  have hne : secsV l ≠ [] := secs_ne (by omega)
  refine runs_seq ?_
  refine runs_region ?_
  refine rl1 (gn rfl) rfl rfl (step_allocc (k := n + 0) (zs := (List.replicate 224 (.int .u8 0))) (cs := List.replicate 224 (.sc (.int .u8 0))) rfl F.zero22 (by first | rfl | simp) (by first | rfl | decide | simp) (by first | rfl | simp)) ⟨by repeat (first | exact upd_eq _ _ _ | refine (upd_ne _ _ _ _ (by omega)).trans ?_ | assumption | exact hd _ (by omega) | exact hd0 _ (by omega) | exact hd1 _ (by omega) | exact hd2 _ (by omega) | exact hd3 _ (by omega) | fail), trivial⟩ (by omega) ?_
  refine rl0 (gn rfl) rfl rfl (step_as rfl rfl) trivial ?_
  refine rl0 (gn rfl) rfl rfl (step_as rfl rfl) trivial ?_
  refine runsL_nil ?_
  refine runs_seq ?_
  refine runs_region ?_
  refine rl1 (gn rfl) rfl rfl (step_allocc (k := n + 1) (zs := (List.replicate 224 (.int .u8 0))) (cs := List.replicate 224 (.sc (.int .u8 0))) rfl F.zero22 (by first | rfl | simp) (by first | rfl | decide | simp) (by first | rfl | simp)) ⟨by repeat (first | exact upd_eq _ _ _ | refine (upd_ne _ _ _ _ (by omega)).trans ?_ | assumption | exact hd _ (by omega) | exact hd0 _ (by omega) | exact hd1 _ (by omega) | exact hd2 _ (by omega) | exact hd3 _ (by omega) | fail), trivial⟩ (by omega) ?_
  refine runsL_nil ?_
  refine runs_seq ?_
  refine runs_seq ?_
  refine runs_region ?_
  refine rl0 (gn rfl) rfl rfl (step_mv rfl rfl) trivial ?_
  refine rl0 (gn rfl) rfl rfl (step_len_g rfl rfl (ev_mk rfl) Try.underlying24) trivial ?_
  refine rl_neq (gn rfl) rfl rfl rfl rfl rfl (fun h1 => ?_) (fun h1 => ?_)
  · exact False.elim (by omega)
  refine runsL_nil ?_
  refine runs_cond false (ev_mk rfl) (fun h_ => nomatch h_) (fun _ => ?_)
  refine runs_skip ?_
  refine runs_seq ?_
  refine runs_region ?_
  refine rl0 (gn rfl) rfl rfl (step_mv rfl rfl) trivial ?_
  refine' rl0 (gn rfl) rfl rfl (step_index_g rfl (ev_mk rfl) (ev_mk rfl) Try.underlying24 F.sz45 (by omega) (by omega) ?hl) ⟨?hb, trivial⟩ ?_
  case hb => repeat (first | exact upd_eq _ _ _ | refine (upd_ne _ _ _ _ (by omega)).trans ?_ | assumption | exact hd _ (by omega) | exact hd0 _ (by omega) | exact hd1 _ (by omega) | exact hd2 _ (by omega) | exact hd3 _ (by omega) | fail)
  case hl => first | omega | (first | (simp; done) | exact (List.take_of_length_le (by rw [List.drop_zero, List.length_map, hl _ (at_memS (j := j) (by omega))]; exact Nat.le_refl _)) | (rw [List.drop_zero, List.take_of_length_le (by rw [List.length_map, hl _ (at_memS (j := j) (by omega))]; exact Nat.le_refl _), List.length_map]; exact hl _ (at_memS (j := j) (by omega))) | (rw [secV_len]; omega) | (rw [List.length_map]; exact hl _ (at_memS (j := j) (by omega))) | (rw [List.length_map]; exact hl _ (at_memS (j := 0) (by omega))) | (rw [List.length_map, pgO_len hl j (by omega) (by omega)]) | (rw [List.length_map, pgO_len hl 4 (by omega) (by omega)]))
  refine' rl0 (gn rfl) rfl rfl (step_slice_gref (l := 56) (h := 64) (q' := 56) (n' := 8) rfl (ev_mk rfl) Try.underlying45 F.sz5 (bndLo_nat (a := 56) rfl (by first | omega | (split <;> omega) | (first | (simp; done) | exact (List.take_of_length_le (by rw [List.drop_zero, List.length_map, hl _ (at_memS (j := j) (by omega))]; exact Nat.le_refl _)) | (rw [List.drop_zero, List.take_of_length_le (by rw [List.length_map, hl _ (at_memS (j := j) (by omega))]; exact Nat.le_refl _), List.length_map]; exact hl _ (at_memS (j := j) (by omega))) | (rw [secV_len]; omega) | (rw [List.length_map]; exact hl _ (at_memS (j := j) (by omega))) | (rw [List.length_map]; exact hl _ (at_memS (j := 0) (by omega))) | (rw [List.length_map, pgO_len hl j (by omega) (by omega)]) | (rw [List.length_map, pgO_len hl 4 (by omega) (by omega)])))) bndHi_none (by omega) (by omega) (by omega) (by first | rfl | omega) (by first | rfl | omega) ?h0 ?hB) ⟨?hb, trivial⟩ ?_
  case hb => repeat (first | exact upd_eq _ _ _ | refine (upd_ne _ _ _ _ (by omega)).trans ?_ | assumption | exact hd _ (by omega) | exact hd0 _ (by omega) | exact hd1 _ (by omega) | exact hd2 _ (by omega) | exact hd3 _ (by omega) | fail)
  case h0 => assumption
  case hB => rw [secV_len]; omega
  refine rl0 (gn rfl) rfl rfl (step_callc rfl Try.func22 rfl rfl rfl (get_g kk vv 56 0 56 (secsV l) ((at' l 0).map bV) ((at' l 0).drop 56) (bytes_drop (hb _ (at_memS (j := 0) (by omega))) 56) (drop56 (hl _ (at_memS (j := 0) (by omega)))) (secs_at (i := 0) (by omega)) rfl (fun i hi => at_drop (hl _ (at_memS (j := 0) (by omega))) hi)) (by repeat (first | exact .nil | refine .cons ?_ ?_ | exact VLe.refl _ | exact VLe.own_sl _ _ _ | exact VLe.fl_sl _ _ | exact VLe.nil_sl _ | exact VLe.nil_fl _ | refine VLe.agg ?_))) ⟨by repeat (first | exact upd_eq _ _ _ | refine (upd_ne _ _ _ _ (by omega)).trans ?_ | assumption | exact hd _ (by omega) | exact hd0 _ (by omega) | exact hd1 _ (by omega) | exact hd2 _ (by omega) | exact hd3 _ (by omega) | fail), trivial⟩ ?_
  refine rl0 (gn rfl) rfl rfl (step_as rfl rfl) trivial ?_
  refine runsL_nil ?_
  refine runs_seq ?_
  refine runs_seq ?_
  refine runs_region ?_
  refine rl0 (gn rfl) rfl rfl (step_mv rfl rfl) trivial ?_
  refine rl0 (gn rfl) rfl rfl (step_len_g rfl rfl (ev_mk rfl) Try.underlying24) trivial ?_
  refine rl0 (gn rfl) rfl rfl (step_mv rfl rfl) trivial ?_
  refine runsL_nil ?_
  refine runs_block ?_
  refine runs_loop (fun (ri_ : Nat) (st_ : Go.Vm.S) => ∃ (j : Nat) (m0 : Nat) (b0 : Nat → Box), (st_ = ⟨mk [(2, .ref (n + 0) 0), (3, .sc (.int .u64 0)), (4, .sc (.bool false)), (5, .ref (n + 1) 0), (6, .sc (.int .u64 (beN ((at' l 0).drop 56)))), (17, .gsl kk vv 0 4 64), (18, .sc (.int .i64 4)), (19, .sc (.int .i64 j))], m0, b0⟩) ∧ (ri_ = 4 - j) ∧ (n + 2 ≤ m0) ∧ (∀ k_, k_ < n → b0 k_ = bx k_) ∧ (b0 kk = .gcells vv 64 (secsV l)) ∧ (b0 (n + 0) = .cells (List.replicate 224 (.sc (.int .u8 0)))) ∧ (b0 (n + 1) = .cells ((pgO l j).map bV)) ∧ (j ≤ 4) ∧ (∀ i : Nat, i < j → beN ((at' l (i : Int)).drop 56) = beN ((at' l 0).drop 56))) (4 - 0) ⟨_, sle ?_ (Nat.le_refl _), 0, _, _, rfl, rfl, ?_⟩ ?_
  · (repeat' (first | exact trivial | refine ⟨⟨_, rfl, ?_⟩, ?_⟩ | fail)); all_goals (repeat' (first | exact VLe.refl _ | exact VLe.own_sl _ _ _ | exact VLe.fl_sl _ _ | exact VLe.nil_sl _ | exact VLe.nil_fl _ | exact VLes.refl _ | exact .nil | refine VLe.tup ?_ | refine VLe.agg ?_ | refine .cons ?_ ?_ | (rw [Int.natCast_add]; exact VLe.refl _) | exact vle_int (by omega) | exact vle_bool (by first | rfl | assumption | (simp_all; done)) | fail))
  · exact ⟨by omega, (fun k_ hk_ => by first | exact rfl | (refine (upd_ne _ _ _ _ (by omega)).trans ?_; first | exact rfl | skip; repeat (first | exact rfl | refine (upd_ne _ _ _ _ (by omega)).trans ?_ | assumption | exact hf0 _ (by omega) | exact hf1 _ (by omega) | exact hf2 _ (by omega) | exact hf3 _ (by omega) | exact hf0 _ (by omega) (by first | assumption | omega) | exact hf1 _ (by omega) (by first | assumption | omega) | exact hf2 _ (by omega) (by first | assumption | omega) | exact hf3 _ (by omega) (by first | assumption | omega) | exact hf0 _ (by omega) (by first | assumption | omega) (by first | assumption | omega) | exact hf1 _ (by omega) (by first | assumption | omega) (by first | assumption | omega) | exact hf2 _ (by omega) (by first | assumption | omega) (by first | assumption | omega) | exact hf3 _ (by omega) (by first | assumption | omega) (by first | assumption | omega))) | exact hf0 _ (by omega) | exact hf1 _ (by omega) | exact hf2 _ (by omega) | exact hf3 _ (by omega) | exact hf0 _ (by omega) (by first | assumption | omega) | exact hf1 _ (by omega) (by first | assumption | omega) | exact hf2 _ (by omega) (by first | assumption | omega) | exact hf3 _ (by omega) (by first | assumption | omega) | exact hf0 _ (by omega) (by first | assumption | omega) (by first | assumption | omega) | exact hf1 _ (by omega) (by first | assumption | omega) (by first | assumption | omega) | exact hf2 _ (by omega) (by first | assumption | omega) (by first | assumption | omega) | exact hf3 _ (by omega) (by first | assumption | omega) (by first | assumption | omega)), by first | ((repeat (first | exact upd_eq _ _ _ | assumption | refine (upd_ne _ _ _ _ (by omega)).trans ?_ | fail)); done) | exact tl_eq (by repeat (first | exact upd_eq _ _ _ | assumption | refine (upd_ne _ _ _ _ (by omega)).trans ?_ | fail)) (by first | rfl | (simp [bytesV, beB_len]; done) | (simp [bytesV, beB_len]; omega) | omega), by first | ((repeat (first | exact upd_eq _ _ _ | assumption | refine (upd_ne _ _ _ _ (by omega)).trans ?_ | fail)); done) | exact tl_eq (by repeat (first | exact upd_eq _ _ _ | assumption | refine (upd_ne _ _ _ _ (by omega)).trans ?_ | fail)) (by first | rfl | (simp [bytesV, beB_len]; done) | (simp [bytesV, beB_len]; omega) | omega), by first | ((repeat (first | exact upd_eq _ _ _ | assumption | refine (upd_ne _ _ _ _ (by omega)).trans ?_ | fail)); done) | exact tl_eq (by repeat (first | exact upd_eq _ _ _ | assumption | refine (upd_ne _ _ _ _ (by omega)).trans ?_ | fail)) (by first | rfl | (simp [bytesV, beB_len]; done) | (simp [bytesV, beB_len]; omega) | omega), by omega, fun i hi => by omega⟩
  · rintro _ _ ⟨j, m0, b0, rfl, rfl, hm0, hf0, hB0_0, hB0_1, hB0_2, hF0_0, hF0_1⟩
    refine runs_know (fun hd0 => ?_)
    refine runs_bump 20 ?_
    simp only at hd0
    refine runs_seq ?_
    refine runs_region ?_
    refine rl_lss (gn rfl) rfl rfl rfl rfl rfl (fun h2 => ?_) (fun h2 => ?_)
    · skip
      refine runsL_nil ?_
      refine runs_seq ?_
      refine runs_cond true (ev_mk rfl) (fun _ => ?_) (fun h_ => nomatch h_)
      refine runs_skip ?_
      refine runs_seq ?_
      refine runs_block ?_
      refine runs_seq ?_
      refine runs_region ?_
      refine rl0 (gn rfl) rfl rfl (step_mv rfl rfl) trivial ?_
      refine' rl0 (gn rfl) rfl rfl (step_index_g rfl (ev_mk rfl) (ev_mk rfl) Try.underlying24 F.sz45 (by omega) (by omega) ?hl) ⟨?hb, trivial⟩ ?_
      case hb => repeat (first | exact upd_eq _ _ _ | refine (upd_ne _ _ _ _ (by omega)).trans ?_ | assumption | exact hd _ (by omega) | exact hd0 _ (by omega) | exact hd1 _ (by omega) | exact hd2 _ (by omega) | exact hd3 _ (by omega) | fail)
      case hl => first | omega | (first | (simp; done) | exact (List.take_of_length_le (by rw [List.drop_zero, List.length_map, hl _ (at_memS (j := j) (by omega))]; exact Nat.le_refl _)) | (rw [List.drop_zero, List.take_of_length_le (by rw [List.length_map, hl _ (at_memS (j := j) (by omega))]; exact Nat.le_refl _), List.length_map]; exact hl _ (at_memS (j := j) (by omega))) | (rw [secV_len]; omega) | (rw [List.length_map]; exact hl _ (at_memS (j := j) (by omega))) | (rw [List.length_map]; exact hl _ (at_memS (j := 0) (by omega))) | (rw [List.length_map, pgO_len hl j (by omega) (by omega)]) | (rw [List.length_map, pgO_len hl 4 (by omega) (by omega)]))
      refine' rl0 (gn rfl) rfl rfl (step_load_gA (i := j) (c := 0) (r := ((at' l (j : Int)).map bV)) (cs := ((at' l (j : Int)).map bV)) rfl (ev_mk rfl) F.agg45 ?hi ?hc ?hl ?hq) ⟨?hb, trivial⟩ ?_
      case hb => repeat (first | exact upd_eq _ _ _ | refine (upd_ne _ _ _ _ (by omega)).trans ?_ | assumption | exact hd _ (by omega) | exact hd0 _ (by omega) | exact hd1 _ (by omega) | exact hd2 _ (by omega) | exact hd3 _ (by omega) | fail)
      case hi => exact secs_at (by omega)
      case hc => first | rfl | (first | (simp; done) | exact (List.take_of_length_le (by rw [List.drop_zero, List.length_map, hl _ (at_memS (j := j) (by omega))]; exact Nat.le_refl _)) | (rw [List.drop_zero, List.take_of_length_le (by rw [List.length_map, hl _ (at_memS (j := j) (by omega))]; exact Nat.le_refl _), List.length_map]; exact hl _ (at_memS (j := j) (by omega))) | (rw [secV_len]; omega) | (rw [List.length_map]; exact hl _ (at_memS (j := j) (by omega))) | (rw [List.length_map]; exact hl _ (at_memS (j := 0) (by omega))) | (rw [List.length_map, pgO_len hl j (by omega) (by omega)]) | (rw [List.length_map, pgO_len hl 4 (by omega) (by omega)]))
      case hl => first | rfl | (simp; done) | (first | (simp; done) | exact (List.take_of_length_le (by rw [List.drop_zero, List.length_map, hl _ (at_memS (j := j) (by omega))]; exact Nat.le_refl _)) | (rw [List.drop_zero, List.take_of_length_le (by rw [List.length_map, hl _ (at_memS (j := j) (by omega))]; exact Nat.le_refl _), List.length_map]; exact hl _ (at_memS (j := j) (by omega))) | (rw [secV_len]; omega) | (rw [List.length_map]; exact hl _ (at_memS (j := j) (by omega))) | (rw [List.length_map]; exact hl _ (at_memS (j := 0) (by omega))) | (rw [List.length_map, pgO_len hl j (by omega) (by omega)]) | (rw [List.length_map, pgO_len hl 4 (by omega) (by omega)]))
      case hq => first | rfl | omega
      refine rl1 (gn rfl) rfl rfl (step_allocc (k := m0 + 0) (zs := (List.replicate 64 (.int .u8 0))) (cs := List.replicate 64 (.sc (.int .u8 0))) rfl F.zero45 (by first | rfl | simp) (by first | rfl | decide | simp) (by first | rfl | simp)) ⟨by repeat (first | exact upd_eq _ _ _ | refine (upd_ne _ _ _ _ (by omega)).trans ?_ | assumption | exact hd _ (by omega) | exact hd0 _ (by omega) | exact hd1 _ (by omega) | exact hd2 _ (by omega) | exact hd3 _ (by omega) | fail), trivial⟩ (by omega) ?_
      refine rl0 (gn rfl) rfl rfl (step_as rfl rfl) trivial ?_
      refine' rls (gn rfl) rfl (step_storeA rfl rfl rfl rfl F.agg45 ?hm ?hl) ⟨?hb, trivial⟩ ?hk ?_
      case hb => repeat (first | exact upd_eq _ _ _ | refine (upd_ne _ _ _ _ (by omega)).trans ?_ | assumption | exact hd _ (by omega) | exact hd0 _ (by omega) | exact hd1 _ (by omega) | exact hd2 _ (by omega) | exact hd3 _ (by omega) | fail)
      case hm => first | rfl | (simp; done) | (first | (simp; done) | exact (List.take_of_length_le (by rw [List.drop_zero, List.length_map, hl _ (at_memS (j := j) (by omega))]; exact Nat.le_refl _)) | (rw [List.drop_zero, List.take_of_length_le (by rw [List.length_map, hl _ (at_memS (j := j) (by omega))]; exact Nat.le_refl _), List.length_map]; exact hl _ (at_memS (j := j) (by omega))) | (rw [secV_len]; omega) | (rw [List.length_map]; exact hl _ (at_memS (j := j) (by omega))) | (rw [List.length_map]; exact hl _ (at_memS (j := 0) (by omega))) | (rw [List.length_map, pgO_len hl j (by omega) (by omega)]) | (rw [List.length_map, pgO_len hl 4 (by omega) (by omega)]))
      case hl => first | rfl | (simp; done) | (first | (simp; done) | exact (List.take_of_length_le (by rw [List.drop_zero, List.length_map, hl _ (at_memS (j := j) (by omega))]; exact Nat.le_refl _)) | (rw [List.drop_zero, List.take_of_length_le (by rw [List.length_map, hl _ (at_memS (j := j) (by omega))]; exact Nat.le_refl _), List.length_map]; exact hl _ (at_memS (j := j) (by omega))) | (rw [secV_len]; omega) | (rw [List.length_map]; exact hl _ (at_memS (j := j) (by omega))) | (rw [List.length_map]; exact hl _ (at_memS (j := 0) (by omega))) | (rw [List.length_map, pgO_len hl j (by omega) (by omega)]) | (rw [List.length_map, pgO_len hl 4 (by omega) (by omega)]))
      case hk => omega
      refine runsL_nil ?_
      refine runs_seq ?_
      refine runs_seq ?_
      refine runs_region ?_
      refine rl0 (gn rfl) rfl rfl (step_sl_arr (a := 56) (h := 64) (m := 64) (q' := 56) (n' := 8) (c' := 8) rfl (ev_mk rfl) Try.underlying45 F.sz5 (bndLo_nat (a := 56) rfl (by first | omega | (split <;> omega) | (first | (simp; done) | exact (List.take_of_length_le (by rw [List.drop_zero, List.length_map, hl _ (at_memS (j := j) (by omega))]; exact Nat.le_refl _)) | (rw [List.drop_zero, List.take_of_length_le (by rw [List.length_map, hl _ (at_memS (j := j) (by omega))]; exact Nat.le_refl _), List.length_map]; exact hl _ (at_memS (j := j) (by omega))) | (rw [secV_len]; omega) | (rw [List.length_map]; exact hl _ (at_memS (j := j) (by omega))) | (rw [List.length_map]; exact hl _ (at_memS (j := 0) (by omega))) | (rw [List.length_map, pgO_len hl j (by omega) (by omega)]) | (rw [List.length_map, pgO_len hl 4 (by omega) (by omega)])))) bndHi_none bndHi_none (fun h_ => by first | rfl | nomatch h_) (by omega) (by omega) (by omega) (by first | exact .inl ⟨by omega, by omega⟩ | exact .inr ⟨by omega, by omega⟩) (by first | rfl | omega) (by first | rfl | omega)) trivial ?_
      refine rl0 (gn rfl) rfl rfl (step_callc rfl Try.func22 rfl rfl rfl (get_m (m0 + 0) 56 8 ((at' l (j : Int)).map bV) ((at' l (j : Int)).drop 56) (bytes_drop (hb _ (at_memS (j := j) (by omega))) 56) (drop56 (hl _ (at_memS (j := j) (by omega)))) (by omega) (fun i hi => at_drop (hl _ (at_memS (j := j) (by omega))) hi)) (by repeat (first | exact .nil | refine .cons ?_ ?_ | exact VLe.refl _ | exact VLe.own_sl _ _ _ | exact VLe.fl_sl _ _ | exact VLe.nil_sl _ | exact VLe.nil_fl _ | refine VLe.agg ?_))) ⟨by repeat (first | exact upd_eq _ _ _ | refine (upd_ne _ _ _ _ (by omega)).trans ?_ | assumption | exact hd _ (by omega) | exact hd0 _ (by omega) | exact hd1 _ (by omega) | exact hd2 _ (by omega) | exact hd3 _ (by omega) | fail), trivial⟩ ?_
      refine rl0 (gn rfl) rfl rfl (step_mv rfl rfl) trivial ?_
      refine rl_neq (gn rfl) rfl rfl rfl rfl rfl (fun h3 => ?_) (fun h3 => ?_)
      · skip
        refine runsL_nil ?_
        refine runs_cond true (ev_mk rfl) (fun _ => ?_) (fun h_ => nomatch h_)
        refine runs_seq ?_
        refine runs_region ?_
        refine rl0 (gn rfl) rfl rfl (step_build_zero rfl rfl Try.underlying22 F.sz5 F.zero22 rfl) trivial ?_
        refine' rls (gn rfl) rfl (step_storeA rfl rfl rfl rfl F.agg22 ?hm ?hl) ⟨?hb, trivial⟩ ?hk ?_
        case hb => repeat (first | exact upd_eq _ _ _ | refine (upd_ne _ _ _ _ (by omega)).trans ?_ | assumption | exact hd _ (by omega) | exact hd0 _ (by omega) | exact hd1 _ (by omega) | exact hd2 _ (by omega) | exact hd3 _ (by omega) | fail)
        case hm => first | rfl | (simp; done) | (first | (simp; done) | exact (List.take_of_length_le (by rw [List.drop_zero, List.length_map, hl _ (at_memS (j := j) (by omega))]; exact Nat.le_refl _)) | (rw [List.drop_zero, List.take_of_length_le (by rw [List.length_map, hl _ (at_memS (j := j) (by omega))]; exact Nat.le_refl _), List.length_map]; exact hl _ (at_memS (j := j) (by omega))) | (rw [secV_len]; omega) | (rw [List.length_map]; exact hl _ (at_memS (j := j) (by omega))) | (rw [List.length_map]; exact hl _ (at_memS (j := 0) (by omega))) | (rw [List.length_map, pgO_len hl j (by omega) (by omega)]) | (rw [List.length_map, pgO_len hl 4 (by omega) (by omega)]))
        case hl => first | rfl | (simp; done) | (first | (simp; done) | exact (List.take_of_length_le (by rw [List.drop_zero, List.length_map, hl _ (at_memS (j := j) (by omega))]; exact Nat.le_refl _)) | (rw [List.drop_zero, List.take_of_length_le (by rw [List.length_map, hl _ (at_memS (j := j) (by omega))]; exact Nat.le_refl _), List.length_map]; exact hl _ (at_memS (j := j) (by omega))) | (rw [secV_len]; omega) | (rw [List.length_map]; exact hl _ (at_memS (j := j) (by omega))) | (rw [List.length_map]; exact hl _ (at_memS (j := 0) (by omega))) | (rw [List.length_map, pgO_len hl j (by omega) (by omega)]) | (rw [List.length_map, pgO_len hl 4 (by omega) (by omega)]))
        case hk => omega
        refine rl0 (gn rfl) rfl rfl (step_as rfl rfl) trivial ?_
        refine rl0 (gn rfl) rfl rfl (step_as rfl rfl) trivial ?_
        refine runsL_nil ?_
        refine runs_ret ?_
        refine ⟨by first | exact .inr rfl | exact .inl rfl, fin_mkg (resc rfl (by repeat (first | exact upd_eq _ _ _ | refine (upd_ne _ _ _ _ (by omega)).trans ?_ | assumption | exact hd _ (by omega) | exact hd0 _ (by omega) | exact hd1 _ (by omega) | exact hd2 _ (by omega) | exact hd3 _ (by omega) | fail)) F.agg22 (by first | rfl | (simp; done) | (first | (simp; done) | exact (List.take_of_length_le (by rw [List.drop_zero, List.length_map, hl _ (at_memS (j := j) (by omega))]; exact Nat.le_refl _)) | (rw [List.drop_zero, List.take_of_length_le (by rw [List.length_map, hl _ (at_memS (j := j) (by omega))]; exact Nat.le_refl _), List.length_map]; exact hl _ (at_memS (j := j) (by omega))) | (rw [secV_len]; omega) | (rw [List.length_map]; exact hl _ (at_memS (j := j) (by omega))) | (rw [List.length_map]; exact hl _ (at_memS (j := 0) (by omega))) | (rw [List.length_map, pgO_len hl j (by omega) (by omega)]) | (rw [List.length_map, pgO_len hl 4 (by omega) (by omega)]))) (rest rfl (rest rfl res0))) ?_ ?_ ?_ ?_ ?_⟩
        · (repeat' (first | exact VLe.refl _ | exact VLe.own_sl _ _ _ | exact VLe.fl_sl _ _ | exact VLe.nil_sl _ | exact VLe.nil_fl _ | exact VLes.refl _ | exact .nil | refine VLe.tup ?_ | refine VLe.agg ?_ | refine .cons ?_ ?_ | (rw [Int.natCast_add]; exact VLe.refl _) | exact vle_int (by omega) | exact vle_bool (by first | rfl | assumption | (simp_all; done)) | fail))
        · repeat (first | exact trivial | assumption | omega | exact bd_bs | exact bd_row | exact bd_secs | exact bd_bools | (refine bdR_map (fun _ => ?_)) | (refine bdL_map (fun _ => ?_)) | refine ⟨?_, ?_⟩ | fail)
        · intro k_ hk_; exact ble (by first | exact rfl | (refine (upd_ne _ _ _ _ (by omega)).trans ?_; first | exact rfl | skip; repeat (first | exact rfl | refine (upd_ne _ _ _ _ (by omega)).trans ?_ | assumption | exact hf0 _ (by omega) | exact hf1 _ (by omega) | exact hf2 _ (by omega) | exact hf3 _ (by omega) | exact hf0 _ (by omega) (by first | assumption | omega) | exact hf1 _ (by omega) (by first | assumption | omega) | exact hf2 _ (by omega) (by first | assumption | omega) | exact hf3 _ (by omega) (by first | assumption | omega) | exact hf0 _ (by omega) (by first | assumption | omega) (by first | assumption | omega) | exact hf1 _ (by omega) (by first | assumption | omega) (by first | assumption | omega) | exact hf2 _ (by omega) (by first | assumption | omega) (by first | assumption | omega) | exact hf3 _ (by omega) (by first | assumption | omega) (by first | assumption | omega))) | exact hf0 _ (by omega) | exact hf1 _ (by omega) | exact hf2 _ (by omega) | exact hf3 _ (by omega) | exact hf0 _ (by omega) (by first | assumption | omega) | exact hf1 _ (by omega) (by first | assumption | omega) | exact hf2 _ (by omega) (by first | assumption | omega) | exact hf3 _ (by omega) (by first | assumption | omega) | exact hf0 _ (by omega) (by first | assumption | omega) (by first | assumption | omega) | exact hf1 _ (by omega) (by first | assumption | omega) (by first | assumption | omega) | exact hf2 _ (by omega) (by first | assumption | omega) (by first | assumption | omega) | exact hf3 _ (by omega) (by first | assumption | omega) (by first | assumption | omega))
        · intro p hp; cases hp
        · repeat (first | exact trivial | assumption | omega | exact bd_bs | exact bd_row | exact bd_secs | exact bd_bools | (refine bdR_map (fun _ => ?_)) | (refine bdL_map (fun _ => ?_)) | refine ⟨?_, ?_⟩ | fail)
      · skip
        refine runsL_nil ?_
        refine runs_cond false (ev_mk rfl) (fun h_ => nomatch h_) (fun _ => ?_)
        refine runs_skip ?_
        refine runs_draw (by kernel_rfl) (by kernel_rfl) (by kernel_rfl) ?_
        refine dl0 (gn rfl) rfl rfl (step_mv rfl rfl) trivial ?_
        refine dl0 (gn rfl) rfl rfl (step_mul rfl (ev_mk rfl) (ev_mk rfl) (w64 (by omega))) trivial ?_
        refine dl0 (gn rfl) rfl rfl (step_sl_arr (a := (56 * j)) (h := 224) (m := 224) (q' := (56 * j)) (n' := (224 - 56 * j)) (c' := (224 - 56 * j)) rfl (ev_mk rfl) Try.underlying22 F.sz5 (bndLo_nat (a := (56 * j)) rfl (by first | omega | (split <;> omega) | (first | (simp; done) | exact (List.take_of_length_le (by rw [List.drop_zero, List.length_map, hl _ (at_memS (j := j) (by omega))]; exact Nat.le_refl _)) | (rw [List.drop_zero, List.take_of_length_le (by rw [List.length_map, hl _ (at_memS (j := j) (by omega))]; exact Nat.le_refl _), List.length_map]; exact hl _ (at_memS (j := j) (by omega))) | (rw [secV_len]; omega) | (rw [List.length_map]; exact hl _ (at_memS (j := j) (by omega))) | (rw [List.length_map]; exact hl _ (at_memS (j := 0) (by omega))) | (rw [List.length_map, pgO_len hl j (by omega) (by omega)]) | (rw [List.length_map, pgO_len hl 4 (by omega) (by omega)])))) bndHi_none bndHi_none (fun h_ => by first | rfl | nomatch h_) (by omega) (by omega) (by omega) (by first | exact .inl ⟨by omega, by omega⟩ | exact .inr ⟨by omega, by omega⟩) (by first | rfl | omega) (by first | rfl | omega)) trivial ?_
        refine dl0 (gn rfl) rfl rfl (step_sl_arr (a := 0) (h := 56) (m := 64) (q' := 0) (n' := 56) (c' := 64) rfl (ev_mk rfl) Try.underlying45 F.sz5 bndLo_none (bndHi_nat (a := 56) rfl (by first | omega | (split <;> omega) | (first | (simp; done) | exact (List.take_of_length_le (by rw [List.drop_zero, List.length_map, hl _ (at_memS (j := j) (by omega))]; exact Nat.le_refl _)) | (rw [List.drop_zero, List.take_of_length_le (by rw [List.length_map, hl _ (at_memS (j := j) (by omega))]; exact Nat.le_refl _), List.length_map]; exact hl _ (at_memS (j := j) (by omega))) | (rw [secV_len]; omega) | (rw [List.length_map]; exact hl _ (at_memS (j := j) (by omega))) | (rw [List.length_map]; exact hl _ (at_memS (j := 0) (by omega))) | (rw [List.length_map, pgO_len hl j (by omega) (by omega)]) | (rw [List.length_map, pgO_len hl 4 (by omega) (by omega)])))) bndHi_none (fun h_ => by first | rfl | nomatch h_) (by omega) (by omega) (by omega) (by first | exact .inl ⟨by omega, by omega⟩ | exact .inr ⟨by omega, by omega⟩) (by first | rfl | omega) (by first | rfl | omega)) trivial ?_
        refine' dl1 (gn rfl) rfl rfl (step_copy (m := (bytesV ((at' l (j : Int)).take 56)).length) (cs' := (pgO l (j + 1)).map bV) rfl rfl Try.underlying48 F.sz5 (ev_mk rfl) (ev_mk rfl) (gives_msl (ys := bytesV ((at' l (j : Int)).take 56)) ?gl ?gy) ?hmn ?hl ?hcs) ⟨?hb, ?gb, trivial⟩ (by omega) ?_
        case hb => repeat (first | exact upd_eq _ _ _ | refine (upd_ne _ _ _ _ (by omega)).trans ?_ | assumption | exact hd _ (by omega) | exact hd0 _ (by omega) | exact hd1 _ (by omega) | exact hd2 _ (by omega) | exact hd3 _ (by omega) | fail)
        case gb => repeat (first | exact upd_eq _ _ _ | refine (upd_ne _ _ _ _ (by omega)).trans ?_ | assumption | exact hd _ (by omega) | exact hd0 _ (by omega) | exact hd1 _ (by omega) | exact hd2 _ (by omega) | exact hd3 _ (by omega) | fail)
        case gl => rw [List.length_map, hl _ (at_memS (j := j) (by omega))]; omega
        case gy => exact rows_take (hl _ (at_memS (j := j) (by omega)))
        case hmn => exact Nat.min_eq_left (by simp [bytesV]; omega)
        case hl => rw [List.length_map, pgO_len hl j (by omega) (by omega)]; omega
        case hcs => exact (congrArg (setSeg _ _) (congrArg List.flatten (List.take_of_length_le (by rw [bytesV, List.length_map, List.length_take]; omega)))).trans (pgO_set hl j (by omega) h4)
        refine dlnil ?_ ?_
        · repeat' (first | exact trivial | exact .inr (ap0 _ _ _ _) | exact .inr (ap2 _ _ _ _) | exact .inr (ap3 _ _ _ _) | exact .inr ⟨by first | (simp; done) | (simp; omega), by first | (simp; done) | (simp; omega)⟩ | exact .inl (by kernel_rfl) | refine ⟨?_, ?_⟩ | fail)
        refine runs_region ?_
        refine rl0 (gn rfl) rfl rfl (step_add rfl (ev_mk rfl) (ev_mk rfl) (w64 (by omega))) trivial ?_
        refine rl0 (gn rfl) rfl rfl (step_mv rfl rfl) trivial ?_
        refine runsL_nil ?_
        refine ⟨_, _, ?_, sle ?_ (Nat.le_refl _), (j + 1), _, _, rfl, rfl, by omega, (fun k_ hk_ => by repeat (first | exact hf0 k_ hk_ | exact hf1 k_ hk_ | exact hf2 k_ hk_ | exact hf3 k_ hk_ | refine (upd_ne _ _ _ _ (by first | assumption | omega)).trans ?_ | fail)), by first | ((repeat (first | exact upd_eq _ _ _ | assumption | refine (upd_ne _ _ _ _ (by omega)).trans ?_ | fail)); done) | exact tl_eq (by repeat (first | exact upd_eq _ _ _ | assumption | refine (upd_ne _ _ _ _ (by omega)).trans ?_ | fail)) (by first | rfl | (simp [bytesV, beB_len]; done) | (simp [bytesV, beB_len]; omega) | omega), by first | ((repeat (first | exact upd_eq _ _ _ | assumption | refine (upd_ne _ _ _ _ (by omega)).trans ?_ | fail)); done) | exact tl_eq (by repeat (first | exact upd_eq _ _ _ | assumption | refine (upd_ne _ _ _ _ (by omega)).trans ?_ | fail)) (by first | rfl | (simp [bytesV, beB_len]; done) | (simp [bytesV, beB_len]; omega) | omega), by first | ((repeat (first | exact upd_eq _ _ _ | assumption | refine (upd_ne _ _ _ _ (by omega)).trans ?_ | fail)); done) | exact tl_eq (by repeat (first | exact upd_eq _ _ _ | assumption | refine (upd_ne _ _ _ _ (by omega)).trans ?_ | fail)) (by first | rfl | (simp [bytesV, beB_len]; done) | (simp [bytesV, beB_len]; omega) | omega), by omega, fun i hi => by (rcases Nat.lt_succ_iff_lt_or_eq.mp hi with h_ | h_); exact hF0_1 i h_; (subst h_; assumption)⟩
        · omega
        · (repeat' (first | exact trivial | refine ⟨⟨_, rfl, ?_⟩, ?_⟩ | fail)); all_goals (repeat' (first | exact VLe.refl _ | exact VLe.own_sl _ _ _ | exact VLe.fl_sl _ _ | exact VLe.nil_sl _ | exact VLe.nil_fl _ | exact VLes.refl _ | exact .nil | refine VLe.tup ?_ | refine VLe.agg ?_ | refine .cons ?_ ?_ | (rw [Int.natCast_add]; exact VLe.refl _) | exact vle_int (by omega) | exact vle_bool (by first | rfl | assumption | (simp_all; done)) | fail))
    · skip
      exact False.elim (by (obtain ⟨r, hr, hn⟩ := ht; obtain ⟨i, hi, rfl⟩ := List.getElem_of_mem hr; exact hn (by have h_ := hF0_1 i (by omega); rwa [at_nat _ _ hi] at h_)))
set_option maxRecDepth 100000 in
set_option maxHeartbeats 4000000 in
theorem lgetg_ok (l : List (List Int)) (hl : ∀ r ∈ l, r.length = 64) (hb : ∀ r ∈ l, bytes r) (h4 : l.length = 4) (kk vv : Nat) (ht : ∀ r ∈ l, beN (r.drop 56) = beN ((at' l 0).drop 56)) : Does Try.prog 8 [.gsl kk vv 0 4 64] [(kk, .gcells vv 64 (secsV l))] [] (.tup [.agg ((pgO l 4).map bV), .sc (.int .u64 (beN ((at' l 0).drop 56))), .sc (.bool true)]) := by
  refine does_mkg 40 Try.func8 rfl rfl rfl (fun n B bx hd hpre hup hvs hbx hgx => ?_)
  have hp0 := hpre.1
  have hk0 := lt_gcells hd hp0
  have hne : secsV l ≠ [] := secs_ne (by omega)
  refine runs_seq ?_
  refine runs_region ?_
  refine rl1 (gn rfl) rfl rfl (step_allocc (k := n + 0) (zs := (List.replicate 224 (.int .u8 0))) (cs := List.replicate 224 (.sc (.int .u8 0))) rfl F.zero22 (by first | rfl | simp) (by first | rfl | decide | simp) (by first | rfl | simp)) ⟨by repeat (first | exact upd_eq _ _ _ | refine (upd_ne _ _ _ _ (by omega)).trans ?_ | assumption | exact hd _ (by omega) | exact hd0 _ (by omega) | exact hd1 _ (by omega) | exact hd2 _ (by omega) | exact hd3 _ (by omega) | fail), trivial⟩ (by omega) ?_
  refine rl0 (gn rfl) rfl rfl (step_as rfl rfl) trivial ?_
  refine rl0 (gn rfl) rfl rfl (step_as rfl rfl) trivial ?_
  refine runsL_nil ?_
  refine runs_seq ?_
  refine runs_region ?_
  refine rl1 (gn rfl) rfl rfl (step_allocc (k := n + 1) (zs := (List.replicate 224 (.int .u8 0))) (cs := List.replicate 224 (.sc (.int .u8 0))) rfl F.zero22 (by first | rfl | simp) (by first | rfl | decide | simp) (by first | rfl | simp)) ⟨by repeat (first | exact upd_eq _ _ _ | refine (upd_ne _ _ _ _ (by omega)).trans ?_ | assumption | exact hd _ (by omega) | exact hd0 _ (by omega) | exact hd1 _ (by omega) | exact hd2 _ (by omega) | exact hd3 _ (by omega) | fail), trivial⟩ (by omega) ?_
  refine runsL_nil ?_
  refine runs_seq ?_
  refine runs_seq ?_
  refine runs_region ?_
  refine rl0 (gn rfl) rfl rfl (step_mv rfl rfl) trivial ?_
  refine rl0 (gn rfl) rfl rfl (step_len_g rfl rfl (ev_mk rfl) Try.underlying24) trivial ?_
  refine rl_neq (gn rfl) rfl rfl rfl rfl rfl (fun h1 => ?_) (fun h1 => ?_)
  · exact False.elim (by omega)
  refine runsL_nil ?_
  refine runs_cond false (ev_mk rfl) (fun h_ => nomatch h_) (fun _ => ?_)
  refine runs_skip ?_
  refine runs_seq ?_
  refine runs_region ?_
  refine rl0 (gn rfl) rfl rfl (step_mv rfl rfl) trivial ?_
  refine' rl0 (gn rfl) rfl rfl (step_index_g rfl (ev_mk rfl) (ev_mk rfl) Try.underlying24 F.sz45 (by omega) (by omega) ?hl) ⟨?hb, trivial⟩ ?_
  case hb => repeat (first | exact upd_eq _ _ _ | refine (upd_ne _ _ _ _ (by omega)).trans ?_ | assumption | exact hd _ (by omega) | exact hd0 _ (by omega) | exact hd1 _ (by omega) | exact hd2 _ (by omega) | exact hd3 _ (by omega) | fail)
  case hl => first | omega | (first | (simp; done) | exact (List.take_of_length_le (by rw [List.drop_zero, List.length_map, hl _ (at_memS (j := j) (by omega))]; exact Nat.le_refl _)) | (rw [List.drop_zero, List.take_of_length_le (by rw [List.length_map, hl _ (at_memS (j := j) (by omega))]; exact Nat.le_refl _), List.length_map]; exact hl _ (at_memS (j := j) (by omega))) | (rw [secV_len]; omega) | (rw [List.length_map]; exact hl _ (at_memS (j := j) (by omega))) | (rw [List.length_map]; exact hl _ (at_memS (j := 0) (by omega))) | (rw [List.length_map, pgO_len hl j (by omega) (by omega)]) | (rw [List.length_map, pgO_len hl 4 (by omega) (by omega)]))
  refine' rl0 (gn rfl) rfl rfl (step_slice_gref (l := 56) (h := 64) (q' := 56) (n' := 8) rfl (ev_mk rfl) Try.underlying45 F.sz5 (bndLo_nat (a := 56) rfl (by first | omega | (split <;> omega) | (first | (simp; done) | exact (List.take_of_length_le (by rw [List.drop_zero, List.length_map, hl _ (at_memS (j := j) (by omega))]; exact Nat.le_refl _)) | (rw [List.drop_zero, List.take_of_length_le (by rw [List.length_map, hl _ (at_memS (j := j) (by omega))]; exact Nat.le_refl _), List.length_map]; exact hl _ (at_memS (j := j) (by omega))) | (rw [secV_len]; omega) | (rw [List.length_map]; exact hl _ (at_memS (j := j) (by omega))) | (rw [List.length_map]; exact hl _ (at_memS (j := 0) (by omega))) | (rw [List.length_map, pgO_len hl j (by omega) (by omega)]) | (rw [List.length_map, pgO_len hl 4 (by omega) (by omega)])))) bndHi_none (by omega) (by omega) (by omega) (by first | rfl | omega) (by first | rfl | omega) ?h0 ?hB) ⟨?hb, trivial⟩ ?_
  case hb => repeat (first | exact upd_eq _ _ _ | refine (upd_ne _ _ _ _ (by omega)).trans ?_ | assumption | exact hd _ (by omega) | exact hd0 _ (by omega) | exact hd1 _ (by omega) | exact hd2 _ (by omega) | exact hd3 _ (by omega) | fail)
  case h0 => assumption
  case hB => rw [secV_len]; omega
  refine rl0 (gn rfl) rfl rfl (step_callc rfl Try.func22 rfl rfl rfl (get_g kk vv 56 0 56 (secsV l) ((at' l 0).map bV) ((at' l 0).drop 56) (bytes_drop (hb _ (at_memS (j := 0) (by omega))) 56) (drop56 (hl _ (at_memS (j := 0) (by omega)))) (secs_at (i := 0) (by omega)) rfl (fun i hi => at_drop (hl _ (at_memS (j := 0) (by omega))) hi)) (by repeat (first | exact .nil | refine .cons ?_ ?_ | exact VLe.refl _ | exact VLe.own_sl _ _ _ | exact VLe.fl_sl _ _ | exact VLe.nil_sl _ | exact VLe.nil_fl _ | refine VLe.agg ?_))) ⟨by repeat (first | exact upd_eq _ _ _ | refine (upd_ne _ _ _ _ (by omega)).trans ?_ | assumption | exact hd _ (by omega) | exact hd0 _ (by omega) | exact hd1 _ (by omega) | exact hd2 _ (by omega) | exact hd3 _ (by omega) | fail), trivial⟩ ?_
  refine rl0 (gn rfl) rfl rfl (step_as rfl rfl) trivial ?_
  refine runsL_nil ?_
  refine runs_seq ?_
  refine runs_seq ?_
  refine runs_region ?_
  refine rl0 (gn rfl) rfl rfl (step_mv rfl rfl) trivial ?_
  refine rl0 (gn rfl) rfl rfl (step_len_g rfl rfl (ev_mk rfl) Try.underlying24) trivial ?_
  refine rl0 (gn rfl) rfl rfl (step_mv rfl rfl) trivial ?_
  refine runsL_nil ?_
  refine runs_block ?_
  refine runs_loop (fun (ri_ : Nat) (st_ : Go.Vm.S) => ∃ (j : Nat) (m0 : Nat) (b0 : Nat → Box), (st_ = ⟨mk [(2, .ref (n + 0) 0), (3, .sc (.int .u64 0)), (4, .sc (.bool false)), (5, .ref (n + 1) 0), (6, .sc (.int .u64 (beN ((at' l 0).drop 56)))), (17, .gsl kk vv 0 4 64), (18, .sc (.int .i64 4)), (19, .sc (.int .i64 j))], m0, b0⟩) ∧ (ri_ = 4 - j) ∧ (n + 2 ≤ m0) ∧ (∀ k_, k_ < n → b0 k_ = bx k_) ∧ (b0 kk = .gcells vv 64 (secsV l)) ∧ (b0 (n + 0) = .cells (List.replicate 224 (.sc (.int .u8 0)))) ∧ (b0 (n + 1) = .cells ((pgO l j).map bV)) ∧ (j ≤ 4) ∧ (∀ i : Nat, i < j → beN ((at' l (i : Int)).drop 56) = beN ((at' l 0).drop 56))) (4 - 0) ⟨_, sle ?_ (Nat.le_refl _), 0, _, _, rfl, rfl, ?_⟩ ?_
  · (repeat' (first | exact trivial | refine ⟨⟨_, rfl, ?_⟩, ?_⟩ | fail)); all_goals (repeat' (first | exact VLe.refl _ | exact VLe.own_sl _ _ _ | exact VLe.fl_sl _ _ | exact VLe.nil_sl _ | exact VLe.nil_fl _ | exact VLes.refl _ | exact .nil | refine VLe.tup ?_ | refine VLe.agg ?_ | refine .cons ?_ ?_ | (rw [Int.natCast_add]; exact VLe.refl _) | exact vle_int (by omega) | exact vle_bool (by first | rfl | assumption | (simp_all; done)) | fail))
  · exact ⟨by omega, (fun k_ hk_ => by first | exact rfl | (refine (upd_ne _ _ _ _ (by omega)).trans ?_; first | exact rfl | skip; repeat (first | exact rfl | refine (upd_ne _ _ _ _ (by omega)).trans ?_ | assumption | exact hf0 _ (by omega) | exact hf1 _ (by omega) | exact hf2 _ (by omega) | exact hf3 _ (by omega) | exact hf0 _ (by omega) (by first | assumption | omega) | exact hf1 _ (by omega) (by first | assumption | omega) | exact hf2 _ (by omega) (by first | assumption | omega) | exact hf3 _ (by omega) (by first | assumption | omega) | exact hf0 _ (by omega) (by first | assumption | omega) (by first | assumption | omega) | exact hf1 _ (by omega) (by first | assumption | omega) (by first | assumption | omega) | exact hf2 _ (by omega) (by first | assumption | omega) (by first | assumption | omega) | exact hf3 _ (by omega) (by first | assumption | omega) (by first | assumption | omega))) | exact hf0 _ (by omega) | exact hf1 _ (by omega) | exact hf2 _ (by omega) | exact hf3 _ (by omega) | exact hf0 _ (by omega) (by first | assumption | omega) | exact hf1 _ (by omega) (by first | assumption | omega) | exact hf2 _ (by omega) (by first | assumption | omega) | exact hf3 _ (by omega) (by first | assumption | omega) | exact hf0 _ (by omega) (by first | assumption | omega) (by first | assumption | omega) | exact hf1 _ (by omega) (by first | assumption | omega) (by first | assumption | omega) | exact hf2 _ (by omega) (by first | assumption | omega) (by first | assumption | omega) | exact hf3 _ (by omega) (by first | assumption | omega) (by first | assumption | omega)), by first | ((repeat (first | exact upd_eq _ _ _ | assumption | refine (upd_ne _ _ _ _ (by omega)).trans ?_ | fail)); done) | exact tl_eq (by repeat (first | exact upd_eq _ _ _ | assumption | refine (upd_ne _ _ _ _ (by omega)).trans ?_ | fail)) (by first | rfl | (simp [bytesV, beB_len]; done) | (simp [bytesV, beB_len]; omega) | omega), by first | ((repeat (first | exact upd_eq _ _ _ | assumption | refine (upd_ne _ _ _ _ (by omega)).trans ?_ | fail)); done) | exact tl_eq (by repeat (first | exact upd_eq _ _ _ | assumption | refine (upd_ne _ _ _ _ (by omega)).trans ?_ | fail)) (by first | rfl | (simp [bytesV, beB_len]; done) | (simp [bytesV, beB_len]; omega) | omega), by first | ((repeat (first | exact upd_eq _ _ _ | assumption | refine (upd_ne _ _ _ _ (by omega)).trans ?_ | fail)); done) | exact tl_eq (by repeat (first | exact upd_eq _ _ _ | assumption | refine (upd_ne _ _ _ _ (by omega)).trans ?_ | fail)) (by first | rfl | (simp [bytesV, beB_len]; done) | (simp [bytesV, beB_len]; omega) | omega), by omega, fun i hi => by omega⟩
  · rintro _ _ ⟨j, m0, b0, rfl, rfl, hm0, hf0, hB0_0, hB0_1, hB0_2, hF0_0, hF0_1⟩
    refine runs_know (fun hd0 => ?_)
    refine runs_bump 20 ?_
    simp only at hd0
    refine runs_seq ?_
    refine runs_region ?_
    refine rl_lss (gn rfl) rfl rfl rfl rfl rfl (fun h2 => ?_) (fun h2 => ?_)
    · skip
      refine runsL_nil ?_
      refine runs_seq ?_
      refine runs_cond true (ev_mk rfl) (fun _ => ?_) (fun h_ => nomatch h_)
      refine runs_skip ?_
      refine runs_seq ?_
      refine runs_block ?_
      refine runs_seq ?_
      refine runs_region ?_
      refine rl0 (gn rfl) rfl rfl (step_mv rfl rfl) trivial ?_
      refine' rl0 (gn rfl) rfl rfl (step_index_g rfl (ev_mk rfl) (ev_mk rfl) Try.underlying24 F.sz45 (by omega) (by omega) ?hl) ⟨?hb, trivial⟩ ?_
      case hb => repeat (first | exact upd_eq _ _ _ | refine (upd_ne _ _ _ _ (by omega)).trans ?_ | assumption | exact hd _ (by omega) | exact hd0 _ (by omega) | exact hd1 _ (by omega) | exact hd2 _ (by omega) | exact hd3 _ (by omega) | fail)
      case hl => first | omega | (first | (simp; done) | exact (List.take_of_length_le (by rw [List.drop_zero, List.length_map, hl _ (at_memS (j := j) (by omega))]; exact Nat.le_refl _)) | (rw [List.drop_zero, List.take_of_length_le (by rw [List.length_map, hl _ (at_memS (j := j) (by omega))]; exact Nat.le_refl _), List.length_map]; exact hl _ (at_memS (j := j) (by omega))) | (rw [secV_len]; omega) | (rw [List.length_map]; exact hl _ (at_memS (j := j) (by omega))) | (rw [List.length_map]; exact hl _ (at_memS (j := 0) (by omega))) | (rw [List.length_map, pgO_len hl j (by omega) (by omega)]) | (rw [List.length_map, pgO_len hl 4 (by omega) (by omega)]))
      refine' rl0 (gn rfl) rfl rfl (step_load_gA (i := j) (c := 0) (r := ((at' l (j : Int)).map bV)) (cs := ((at' l (j : Int)).map bV)) rfl (ev_mk rfl) F.agg45 ?hi ?hc ?hl ?hq) ⟨?hb, trivial⟩ ?_
      case hb => repeat (first | exact upd_eq _ _ _ | refine (upd_ne _ _ _ _ (by omega)).trans ?_ | assumption | exact hd _ (by omega) | exact hd0 _ (by omega) | exact hd1 _ (by omega) | exact hd2 _ (by omega) | exact hd3 _ (by omega) | fail)
      case hi => exact secs_at (by omega)
      case hc => first | rfl | (first | (simp; done) | exact (List.take_of_length_le (by rw [List.drop_zero, List.length_map, hl _ (at_memS (j := j) (by omega))]; exact Nat.le_refl _)) | (rw [List.drop_zero, List.take_of_length_le (by rw [List.length_map, hl _ (at_memS (j := j) (by omega))]; exact Nat.le_refl _), List.length_map]; exact hl _ (at_memS (j := j) (by omega))) | (rw [secV_len]; omega) | (rw [List.length_map]; exact hl _ (at_memS (j := j) (by omega))) | (rw [List.length_map]; exact hl _ (at_memS (j := 0) (by omega))) | (rw [List.length_map, pgO_len hl j (by omega) (by omega)]) | (rw [List.length_map, pgO_len hl 4 (by omega) (by omega)]))
      case hl => first | rfl | (simp; done) | (first | (simp; done) | exact (List.take_of_length_le (by rw [List.drop_zero, List.length_map, hl _ (at_memS (j := j) (by omega))]; exact Nat.le_refl _)) | (rw [List.drop_zero, List.take_of_length_le (by rw [List.length_map, hl _ (at_memS (j := j) (by omega))]; exact Nat.le_refl _), List.length_map]; exact hl _ (at_memS (j := j) (by omega))) | (rw [secV_len]; omega) | (rw [List.length_map]; exact hl _ (at_memS (j := j) (by omega))) | (rw [List.length_map]; exact hl _ (at_memS (j := 0) (by omega))) | (rw [List.length_map, pgO_len hl j (by omega) (by omega)]) | (rw [List.length_map, pgO_len hl 4 (by omega) (by omega)]))
      case hq => first | rfl | omega
      refine rl1 (gn rfl) rfl rfl (step_allocc (k := m0 + 0) (zs := (List.replicate 64 (.int .u8 0))) (cs := List.replicate 64 (.sc (.int .u8 0))) rfl F.zero45 (by first | rfl | simp) (by first | rfl | decide | simp) (by first | rfl | simp)) ⟨by repeat (first | exact upd_eq _ _ _ | refine (upd_ne _ _ _ _ (by omega)).trans ?_ | assumption | exact hd _ (by omega) | exact hd0 _ (by omega) | exact hd1 _ (by omega) | exact hd2 _ (by omega) | exact hd3 _ (by omega) | fail), trivial⟩ (by omega) ?_
      refine rl0 (gn rfl) rfl rfl (step_as rfl rfl) trivial ?_
      refine' rls (gn rfl) rfl (step_storeA rfl rfl rfl rfl F.agg45 ?hm ?hl) ⟨?hb, trivial⟩ ?hk ?_
      case hb => repeat (first | exact upd_eq _ _ _ | refine (upd_ne _ _ _ _ (by omega)).trans ?_ | assumption | exact hd _ (by omega) | exact hd0 _ (by omega) | exact hd1 _ (by omega) | exact hd2 _ (by omega) | exact hd3 _ (by omega) | fail)
      case hm => first | rfl | (simp; done) | (first | (simp; done) | exact (List.take_of_length_le (by rw [List.drop_zero, List.length_map, hl _ (at_memS (j := j) (by omega))]; exact Nat.le_refl _)) | (rw [List.drop_zero, List.take_of_length_le (by rw [List.length_map, hl _ (at_memS (j := j) (by omega))]; exact Nat.le_refl _), List.length_map]; exact hl _ (at_memS (j := j) (by omega))) | (rw [secV_len]; omega) | (rw [List.length_map]; exact hl _ (at_memS (j := j) (by omega))) | (rw [List.length_map]; exact hl _ (at_memS (j := 0) (by omega))) | (rw [List.length_map, pgO_len hl j (by omega) (by omega)]) | (rw [List.length_map, pgO_len hl 4 (by omega) (by omega)]))
      case hl => first | rfl | (simp; done) | (first | (simp; done) | exact (List.take_of_length_le (by rw [List.drop_zero, List.length_map, hl _ (at_memS (j := j) (by omega))]; exact Nat.le_refl _)) | (rw [List.drop_zero, List.take_of_length_le (by rw [List.length_map, hl _ (at_memS (j := j) (by omega))]; exact Nat.le_refl _), List.length_map]; exact hl _ (at_memS (j := j) (by omega))) | (rw [secV_len]; omega) | (rw [List.length_map]; exact hl _ (at_memS (j := j) (by omega))) | (rw [List.length_map]; exact hl _ (at_memS (j := 0) (by omega))) | (rw [List.length_map, pgO_len hl j (by omega) (by omega)]) | (rw [List.length_map, pgO_len hl 4 (by omega) (by omega)]))
      case hk => omega
      refine runsL_nil ?_
      refine runs_seq ?_
      refine runs_seq ?_
      refine runs_region ?_
      refine rl0 (gn rfl) rfl rfl (step_sl_arr (a := 56) (h := 64) (m := 64) (q' := 56) (n' := 8) (c' := 8) rfl (ev_mk rfl) Try.underlying45 F.sz5 (bndLo_nat (a := 56) rfl (by first | omega | (split <;> omega) | (first | (simp; done) | exact (List.take_of_length_le (by rw [List.drop_zero, List.length_map, hl _ (at_memS (j := j) (by omega))]; exact Nat.le_refl _)) | (rw [List.drop_zero, List.take_of_length_le (by rw [List.length_map, hl _ (at_memS (j := j) (by omega))]; exact Nat.le_refl _), List.length_map]; exact hl _ (at_memS (j := j) (by omega))) | (rw [secV_len]; omega) | (rw [List.length_map]; exact hl _ (at_memS (j := j) (by omega))) | (rw [List.length_map]; exact hl _ (at_memS (j := 0) (by omega))) | (rw [List.length_map, pgO_len hl j (by omega) (by omega)]) | (rw [List.length_map, pgO_len hl 4 (by omega) (by omega)])))) bndHi_none bndHi_none (fun h_ => by first | rfl | nomatch h_) (by omega) (by omega) (by omega) (by first | exact .inl ⟨by omega, by omega⟩ | exact .inr ⟨by omega, by omega⟩) (by first | rfl | omega) (by first | rfl | omega)) trivial ?_
      refine rl0 (gn rfl) rfl rfl (step_callc rfl Try.func22 rfl rfl rfl (get_m (m0 + 0) 56 8 ((at' l (j : Int)).map bV) ((at' l (j : Int)).drop 56) (bytes_drop (hb _ (at_memS (j := j) (by omega))) 56) (drop56 (hl _ (at_memS (j := j) (by omega)))) (by omega) (fun i hi => at_drop (hl _ (at_memS (j := j) (by omega))) hi)) (by repeat (first | exact .nil | refine .cons ?_ ?_ | exact VLe.refl _ | exact VLe.own_sl _ _ _ | exact VLe.fl_sl _ _ | exact VLe.nil_sl _ | exact VLe.nil_fl _ | refine VLe.agg ?_))) ⟨by repeat (first | exact upd_eq _ _ _ | refine (upd_ne _ _ _ _ (by omega)).trans ?_ | assumption | exact hd _ (by omega) | exact hd0 _ (by omega) | exact hd1 _ (by omega) | exact hd2 _ (by omega) | exact hd3 _ (by omega) | fail), trivial⟩ ?_
      refine rl0 (gn rfl) rfl rfl (step_mv rfl rfl) trivial ?_
      refine rl_neq (gn rfl) rfl rfl rfl rfl rfl (fun h3 => ?_) (fun h3 => ?_)
      · skip
        exact False.elim (by exact absurd (ht _ (at_memS (j := j) (by omega))) (by assumption))
      · skip
        refine runsL_nil ?_
        refine runs_cond false (ev_mk rfl) (fun h_ => nomatch h_) (fun _ => ?_)
        refine runs_skip ?_
        refine runs_draw (by kernel_rfl) (by kernel_rfl) (by kernel_rfl) ?_
        refine dl0 (gn rfl) rfl rfl (step_mv rfl rfl) trivial ?_
        refine dl0 (gn rfl) rfl rfl (step_mul rfl (ev_mk rfl) (ev_mk rfl) (w64 (by omega))) trivial ?_
        refine dl0 (gn rfl) rfl rfl (step_sl_arr (a := (56 * j)) (h := 224) (m := 224) (q' := (56 * j)) (n' := (224 - 56 * j)) (c' := (224 - 56 * j)) rfl (ev_mk rfl) Try.underlying22 F.sz5 (bndLo_nat (a := (56 * j)) rfl (by first | omega | (split <;> omega) | (first | (simp; done) | exact (List.take_of_length_le (by rw [List.drop_zero, List.length_map, hl _ (at_memS (j := j) (by omega))]; exact Nat.le_refl _)) | (rw [List.drop_zero, List.take_of_length_le (by rw [List.length_map, hl _ (at_memS (j := j) (by omega))]; exact Nat.le_refl _), List.length_map]; exact hl _ (at_memS (j := j) (by omega))) | (rw [secV_len]; omega) | (rw [List.length_map]; exact hl _ (at_memS (j := j) (by omega))) | (rw [List.length_map]; exact hl _ (at_memS (j := 0) (by omega))) | (rw [List.length_map, pgO_len hl j (by omega) (by omega)]) | (rw [List.length_map, pgO_len hl 4 (by omega) (by omega)])))) bndHi_none bndHi_none (fun h_ => by first | rfl | nomatch h_) (by omega) (by omega) (by omega) (by first | exact .inl ⟨by omega, by omega⟩ | exact .inr ⟨by omega, by omega⟩) (by first | rfl | omega) (by first | rfl | omega)) trivial ?_
        refine dl0 (gn rfl) rfl rfl (step_sl_arr (a := 0) (h := 56) (m := 64) (q' := 0) (n' := 56) (c' := 64) rfl (ev_mk rfl) Try.underlying45 F.sz5 bndLo_none (bndHi_nat (a := 56) rfl (by first | omega | (split <;> omega) | (first | (simp; done) | exact (List.take_of_length_le (by rw [List.drop_zero, List.length_map, hl _ (at_memS (j := j) (by omega))]; exact Nat.le_refl _)) | (rw [List.drop_zero, List.take_of_length_le (by rw [List.length_map, hl _ (at_memS (j := j) (by omega))]; exact Nat.le_refl _), List.length_map]; exact hl _ (at_memS (j := j) (by omega))) | (rw [secV_len]; omega) | (rw [List.length_map]; exact hl _ (at_memS (j := j) (by omega))) | (rw [List.length_map]; exact hl _ (at_memS (j := 0) (by omega))) | (rw [List.length_map, pgO_len hl j (by omega) (by omega)]) | (rw [List.length_map, pgO_len hl 4 (by omega) (by omega)])))) bndHi_none (fun h_ => by first | rfl | nomatch h_) (by omega) (by omega) (by omega) (by first | exact .inl ⟨by omega, by omega⟩ | exact .inr ⟨by omega, by omega⟩) (by first | rfl | omega) (by first | rfl | omega)) trivial ?_
        refine' dl1 (gn rfl) rfl rfl (step_copy (m := (bytesV ((at' l (j : Int)).take 56)).length) (cs' := (pgO l (j + 1)).map bV) rfl rfl Try.underlying48 F.sz5 (ev_mk rfl) (ev_mk rfl) (gives_msl (ys := bytesV ((at' l (j : Int)).take 56)) ?gl ?gy) ?hmn ?hl ?hcs) ⟨?hb, ?gb, trivial⟩ (by omega) ?_
        case hb => repeat (first | exact upd_eq _ _ _ | refine (upd_ne _ _ _ _ (by omega)).trans ?_ | assumption | exact hd _ (by omega) | exact hd0 _ (by omega) | exact hd1 _ (by omega) | exact hd2 _ (by omega) | exact hd3 _ (by omega) | fail)
        case gb => repeat (first | exact upd_eq _ _ _ | refine (upd_ne _ _ _ _ (by omega)).trans ?_ | assumption | exact hd _ (by omega) | exact hd0 _ (by omega) | exact hd1 _ (by omega) | exact hd2 _ (by omega) | exact hd3 _ (by omega) | fail)
        case gl => rw [List.length_map, hl _ (at_memS (j := j) (by omega))]; omega
        case gy => exact rows_take (hl _ (at_memS (j := j) (by omega)))
        case hmn => exact Nat.min_eq_left (by simp [bytesV]; omega)
        case hl => rw [List.length_map, pgO_len hl j (by omega) (by omega)]; omega
        case hcs => exact (congrArg (setSeg _ _) (congrArg List.flatten (List.take_of_length_le (by rw [bytesV, List.length_map, List.length_take]; omega)))).trans (pgO_set hl j (by omega) h4)
        refine dlnil ?_ ?_
        · repeat' (first | exact trivial | exact .inr (ap0 _ _ _ _) | exact .inr (ap2 _ _ _ _) | exact .inr (ap3 _ _ _ _) | exact .inr ⟨by first | (simp; done) | (simp; omega), by first | (simp; done) | (simp; omega)⟩ | exact .inl (by kernel_rfl) | refine ⟨?_, ?_⟩ | fail)
        refine runs_region ?_
        refine rl0 (gn rfl) rfl rfl (step_add rfl (ev_mk rfl) (ev_mk rfl) (w64 (by omega))) trivial ?_
        refine rl0 (gn rfl) rfl rfl (step_mv rfl rfl) trivial ?_
        refine runsL_nil ?_
        refine ⟨_, _, ?_, sle ?_ (Nat.le_refl _), (j + 1), _, _, rfl, rfl, by omega, (fun k_ hk_ => by repeat (first | exact hf0 k_ hk_ | exact hf1 k_ hk_ | exact hf2 k_ hk_ | exact hf3 k_ hk_ | refine (upd_ne _ _ _ _ (by first | assumption | omega)).trans ?_ | fail)), by first | ((repeat (first | exact upd_eq _ _ _ | assumption | refine (upd_ne _ _ _ _ (by omega)).trans ?_ | fail)); done) | exact tl_eq (by repeat (first | exact upd_eq _ _ _ | assumption | refine (upd_ne _ _ _ _ (by omega)).trans ?_ | fail)) (by first | rfl | (simp [bytesV, beB_len]; done) | (simp [bytesV, beB_len]; omega) | omega), by first | ((repeat (first | exact upd_eq _ _ _ | assumption | refine (upd_ne _ _ _ _ (by omega)).trans ?_ | fail)); done) | exact tl_eq (by repeat (first | exact upd_eq _ _ _ | assumption | refine (upd_ne _ _ _ _ (by omega)).trans ?_ | fail)) (by first | rfl | (simp [bytesV, beB_len]; done) | (simp [bytesV, beB_len]; omega) | omega), by first | ((repeat (first | exact upd_eq _ _ _ | assumption | refine (upd_ne _ _ _ _ (by omega)).trans ?_ | fail)); done) | exact tl_eq (by repeat (first | exact upd_eq _ _ _ | assumption | refine (upd_ne _ _ _ _ (by omega)).trans ?_ | fail)) (by first | rfl | (simp [bytesV, beB_len]; done) | (simp [bytesV, beB_len]; omega) | omega), by omega, fun i hi => by (rcases Nat.lt_succ_iff_lt_or_eq.mp hi with h_ | h_); exact hF0_1 i h_; (subst h_; assumption)⟩
        · omega
        · (repeat' (first | exact trivial | refine ⟨⟨_, rfl, ?_⟩, ?_⟩ | fail)); all_goals (repeat' (first | exact VLe.refl _ | exact VLe.own_sl _ _ _ | exact VLe.fl_sl _ _ | exact VLe.nil_sl _ | exact VLe.nil_fl _ | exact VLes.refl _ | exact .nil | refine VLe.tup ?_ | refine VLe.agg ?_ | refine .cons ?_ ?_ | (rw [Int.natCast_add]; exact VLe.refl _) | exact vle_int (by omega) | exact vle_bool (by first | rfl | assumption | (simp_all; done)) | fail))
    · skip
      refine runsL_nil ?_
      refine runs_seq ?_
      refine runs_cond false (ev_mk rfl) (fun h_ => nomatch h_) (fun _ => ?_)
      refine runs_exit ?_
      refine runs_seq ?_
      refine runs_region ?_
      refine' rl0 (gn rfl) rfl rfl (step_load_all rfl rfl F.agg22 ?hl) ⟨?hb, trivial⟩ ?_
      case hb => repeat (first | exact upd_eq _ _ _ | refine (upd_ne _ _ _ _ (by omega)).trans ?_ | assumption | exact hd _ (by omega) | exact hd0 _ (by omega) | exact hd1 _ (by omega) | exact hd2 _ (by omega) | exact hd3 _ (by omega) | fail)
      case hl => first | rfl | (simp; done) | (first | (simp; done) | exact (List.take_of_length_le (by rw [List.drop_zero, List.length_map, hl _ (at_memS (j := j) (by omega))]; exact Nat.le_refl _)) | (rw [List.drop_zero, List.take_of_length_le (by rw [List.length_map, hl _ (at_memS (j := j) (by omega))]; exact Nat.le_refl _), List.length_map]; exact hl _ (at_memS (j := j) (by omega))) | (rw [secV_len]; omega) | (rw [List.length_map]; exact hl _ (at_memS (j := j) (by omega))) | (rw [List.length_map]; exact hl _ (at_memS (j := 0) (by omega))) | (rw [List.length_map, pgO_len hl j (by omega) (by omega)]) | (rw [List.length_map, pgO_len hl 4 (by omega) (by omega)]))
      refine rl0 (gn rfl) rfl rfl (step_mv rfl rfl) trivial ?_
      refine' rls (gn rfl) rfl (step_storeA rfl rfl rfl rfl F.agg22 ?hm ?hl) ⟨?hb, trivial⟩ ?hk ?_
      case hb => repeat (first | exact upd_eq _ _ _ | refine (upd_ne _ _ _ _ (by omega)).trans ?_ | assumption | exact hd _ (by omega) | exact hd0 _ (by omega) | exact hd1 _ (by omega) | exact hd2 _ (by omega) | exact hd3 _ (by omega) | fail)
      case hm => first | rfl | (simp; done) | (first | (simp; done) | exact (List.take_of_length_le (by rw [List.drop_zero, List.length_map, hl _ (at_memS (j := j) (by omega))]; exact Nat.le_refl _)) | (rw [List.drop_zero, List.take_of_length_le (by rw [List.length_map, hl _ (at_memS (j := j) (by omega))]; exact Nat.le_refl _), List.length_map]; exact hl _ (at_memS (j := j) (by omega))) | (rw [secV_len]; omega) | (rw [List.length_map]; exact hl _ (at_memS (j := j) (by omega))) | (rw [List.length_map]; exact hl _ (at_memS (j := 0) (by omega))) | (rw [List.length_map, pgO_len hl j (by omega) (by omega)]) | (rw [List.length_map, pgO_len hl 4 (by omega) (by omega)]))
      case hl => first | rfl | (simp; done) | (first | (simp; done) | exact (List.take_of_length_le (by rw [List.drop_zero, List.length_map, hl _ (at_memS (j := j) (by omega))]; exact Nat.le_refl _)) | (rw [List.drop_zero, List.take_of_length_le (by rw [List.length_map, hl _ (at_memS (j := j) (by omega))]; exact Nat.le_refl _), List.length_map]; exact hl _ (at_memS (j := j) (by omega))) | (rw [secV_len]; omega) | (rw [List.length_map]; exact hl _ (at_memS (j := j) (by omega))) | (rw [List.length_map]; exact hl _ (at_memS (j := 0) (by omega))) | (rw [List.length_map, pgO_len hl j (by omega) (by omega)]) | (rw [List.length_map, pgO_len hl 4 (by omega) (by omega)]))
      case hk => omega
      refine rl0 (gn rfl) rfl rfl (step_as rfl rfl) trivial ?_
      refine rl0 (gn rfl) rfl rfl (step_as rfl rfl) trivial ?_
      refine runsL_nil ?_
      refine runs_ret ?_
      obtain rfl : j = 4 := by omega
      refine ⟨by first | exact .inr rfl | exact .inl rfl, fin_mkg (resc rfl (by repeat (first | exact upd_eq _ _ _ | refine (upd_ne _ _ _ _ (by omega)).trans ?_ | assumption | exact hd _ (by omega) | exact hd0 _ (by omega) | exact hd1 _ (by omega) | exact hd2 _ (by omega) | exact hd3 _ (by omega) | fail)) F.agg22 (by first | rfl | (simp; done) | (first | (simp; done) | exact (List.take_of_length_le (by rw [List.drop_zero, List.length_map, hl _ (at_memS (j := j) (by omega))]; exact Nat.le_refl _)) | (rw [List.drop_zero, List.take_of_length_le (by rw [List.length_map, hl _ (at_memS (j := j) (by omega))]; exact Nat.le_refl _), List.length_map]; exact hl _ (at_memS (j := j) (by omega))) | (rw [secV_len]; omega) | (rw [List.length_map]; exact hl _ (at_memS (j := j) (by omega))) | (rw [List.length_map]; exact hl _ (at_memS (j := 0) (by omega))) | (rw [List.length_map, pgO_len hl j (by omega) (by omega)]) | (rw [List.length_map, pgO_len hl 4 (by omega) (by omega)]))) (rest rfl (rest rfl res0))) ?_ ?_ ?_ ?_ ?_⟩
      · (repeat' (first | exact VLe.refl _ | exact VLe.own_sl _ _ _ | exact VLe.fl_sl _ _ | exact VLe.nil_sl _ | exact VLe.nil_fl _ | exact VLes.refl _ | exact .nil | refine VLe.tup ?_ | refine VLe.agg ?_ | refine .cons ?_ ?_ | (rw [Int.natCast_add]; exact VLe.refl _) | exact vle_int (by omega) | exact vle_bool (by first | rfl | assumption | (simp_all; done)) | fail))
      · repeat (first | exact trivial | assumption | omega | exact bd_bs | exact bd_row | exact bd_secs | exact bd_bools | (refine bdR_map (fun _ => ?_)) | (refine bdL_map (fun _ => ?_)) | refine ⟨?_, ?_⟩ | fail)
      · intro k_ hk_; exact ble (by first | exact rfl | (refine (upd_ne _ _ _ _ (by omega)).trans ?_; first | exact rfl | skip; repeat (first | exact rfl | refine (upd_ne _ _ _ _ (by omega)).trans ?_ | assumption | exact hf0 _ (by omega) | exact hf1 _ (by omega) | exact hf2 _ (by omega) | exact hf3 _ (by omega) | exact hf0 _ (by omega) (by first | assumption | omega) | exact hf1 _ (by omega) (by first | assumption | omega) | exact hf2 _ (by omega) (by first | assumption | omega) | exact hf3 _ (by omega) (by first | assumption | omega) | exact hf0 _ (by omega) (by first | assumption | omega) (by first | assumption | omega) | exact hf1 _ (by omega) (by first | assumption | omega) (by first | assumption | omega) | exact hf2 _ (by omega) (by first | assumption | omega) (by first | assumption | omega) | exact hf3 _ (by omega) (by first | assumption | omega) (by first | assumption | omega))) | exact hf0 _ (by omega) | exact hf1 _ (by omega) | exact hf2 _ (by omega) | exact hf3 _ (by omega) | exact hf0 _ (by omega) (by first | assumption | omega) | exact hf1 _ (by omega) (by first | assumption | omega) | exact hf2 _ (by omega) (by first | assumption | omega) | exact hf3 _ (by omega) (by first | assumption | omega) | exact hf0 _ (by omega) (by first | assumption | omega) (by first | assumption | omega) | exact hf1 _ (by omega) (by first | assumption | omega) (by first | assumption | omega) | exact hf2 _ (by omega) (by first | assumption | omega) (by first | assumption | omega) | exact hf3 _ (by omega) (by first | assumption | omega) (by first | assumption | omega))
      · intro p hp; cases hp
      · repeat (first | exact trivial | assumption | omega | exact bd_bs | exact bd_row | exact bd_secs | exact bd_bools | (refine bdR_map (fun _ => ?_)) | (refine bdL_map (fun _ => ?_)) | refine ⟨?_, ?_⟩ | fail)
end Go.Proofs.Ytdcmcmgbnkolbaa
