import Derived.Test.YtdmkhpnjjpeeaaaKcQq
import Derived.Test.YtdmkhpnjjpeeaaaKcVmP
import Derived.Test.YtdmkhpnjjpeeaaaKcVmT
import Derived.Test.YtdmkhpnjjpeeaaaKcWa
import Derived.Test.YtdmkhpnjjpeeaaaKcWc
import Derived.Test.YtdmkhpnjjpeeaaaKcWd
import Derived.Test.YtdmkhpnjjpeeaaaKcWe
import Derived.Test.YtdmkhpnjjpeeaaaKcVd
import Derived.Test.YtdmkhpnjjpeeaaaKcVe
import Derived.Test.YtdmkhpnjjpeeaaaKcVj
import Derived.Test.YtdmkhpnjjpeeaaaKcVk
import Derived.Test.YtdmkhpnjjpeeaaaKcVn
import Derived.Test.YtdmkhpnjjpeeaaaKcWh
import Derived.Test.YtdmkhpnjjpeeaaaKcVmZ
import Derived.Test.YtdmkhpnjjpeeaaaKcVq
namespace Go.Proofs.Ytdmkhpnjjpeeaaa
open Go.Vm
set_option linter.unusedVariables false
set_option linter.unusedSimpArgs false
attribute [local irreducible] Go.Vm.beB
theorem and_1 {x : Int} (h : x = 0 ∨ x = 1 ∨ x = 2 ∨ x = 3) : bits .and .u8 x 1 = x % 2 := by rcases h with rfl | rfl | rfl | rfl <;> decide
theorem and_2 {x : Int} (h : x = 0 ∨ x = 1 ∨ x = 2 ∨ x = 3) : bits .and .u8 x 2 = x / 2 * 2 := by rcases h with rfl | rfl | rfl | rfl <;> decide
theorem mkS_lo {v f m : Int} {c : List Int} {j : Nat} (h : j < 8) : ((mkS v f m c).map bV)[j]? = some (bV (at' (beB 8 v) (j : Int))) := by
  unfold mkS
  rw [List.map_append, List.getElem?_append_left (by rw [List.length_map, beB_len]; exact h), List.getElem?_map, List.getElem?_eq_getElem (by rw [beB_len]; exact h), at_nat _ _ (by rw [beB_len]; exact h)]; rfl
theorem zS_lo {j : Nat} (h : j < 8) : ((List.replicate 64 (0 : Int)).map bV)[j]? = some (bV (at' (List.replicate 8 (0 : Int)) (j : Int))) := by
  have e : at' (List.replicate 8 (0 : Int)) (j : Int) = 0 := by
    unfold at'; rw [Int.toNat_natCast, List.getD_eq_getElem?_getD, List.getElem?_replicate, if_pos h]; rfl
  rw [e, List.getElem?_map, List.getElem?_replicate, if_pos (by omega)]; rfl
theorem flS_4 (b : List Int) (i : Nat) : flS b i = 0 ∨ flS b i = 1 ∨ flS b i = 2 ∨ flS b i = 3 := by unfold flS; split <;> split <;> omega
theorem flS_1 (b : List Int) (i : Nat) : decide (flS b i % 2 = 1) = decide (i = 0) := by unfold flS; split <;> split <;> simp_all
theorem flS_2 (b : List Int) (i : Nat) : decide (flS b i / 2 * 2 = 2) = decide (i + 1 = nS b) := by unfold flS; split <;> split <;> simp_all
set_option maxRecDepth 100000 in
set_option maxHeartbeats 4000000 in
theorem get_m (k cp : Nat) (b X : List Int) (hb : Byts b) (h8 : b.length = 8) (hcp : 8 ≤ cp) (hat : ∀ j : Nat, j < 8 → (X.map bV)[j]? = some (bV (at' b (j : Int)))) : Does Try.prog 51 [.msl k 0 8 cp 1] [(k, .cells (X.map bV))] [] (.sc (.int .u64 (beN b))) := by
  refine does_mkg 40 Try.func51 rfl rfl rfl (fun n B bx hd hpre hup hvs hbx hgx => ?_);have hp0 := hpre.1;have hk0 := lt_cells hd hp0;refine runs_seq ?_;refine runs_region ?_;refine rl0 (gn rfl) rfl rfl (step_as rfl rfl) trivial ?_;refine runsL_nil ?_;refine runs_seq ?_;refine runs_region ?_;refine rl0 (gn rfl) rfl rfl (step_as rfl rfl) trivial ?_;refine runsL_nil ?_;refine runs_seq ?_;refine runs_seq ?_;refine runs_region ?_;refine rl0 (gn rfl) rfl rfl (step_mv rfl rfl) trivial ?_;refine rl0 (gn rfl) rfl rfl (step_mv rfl rfl) trivial ?_;refine rl0 (gn rfl) rfl rfl (step_len rfl rfl (ev_mk rfl) (.inl ⟨⟨_, Try.underlying22⟩, .inr (.inl ⟨_, _, _, _, rfl⟩)⟩)) trivial ?_;refine rl0 (gn rfl) rfl rfl (step_sub rfl (ev_mk rfl) (ev_mk rfl) (w64 (by omega))) trivial ?_;refine rl0 (gn rfl) rfl rfl (step_maxr (r := 0) rfl (ev_mk rfl) (ev_mk rfl) (by rfl)) trivial ?_;refine rl0 (gn rfl) rfl rfl (step_sl_msl (a := 0) (h := 8) (m := cp) (q' := 0) (n' := 8) (c' := cp) rfl (ev_mk rfl) Try.underlying22 F.sz5 (bndLo_nat (a := 0) rfl t_46) bndHi_none bndHi_none (fun h_ => t_106) (by omega) (by omega) (by omega) t_59 t_73 t_73) trivial ?_;refine rl0 (gn rfl) rfl rfl (step_len rfl rfl (ev_mk rfl) (.inl ⟨⟨_, Try.underlying22⟩, .inr (.inl ⟨_, _, _, _, rfl⟩)⟩)) trivial ?_;refine rl0 (gn rfl) rfl rfl (step_mv rfl rfl) trivial ?_;refine runsL_nil ?_;refine runs_block ?_;have hs0_ : 0 = beN (b.take 0) := by rfl
  refine runs_loop (fun (ri_ : Nat) (st_ : Go.Vm.S) => ∃ (j : Nat) (m0 : Nat) (b0 : Nat → Box), (st_ = ⟨mk [(2, .sc (.int .u64 0)), (3, .sc (.int .u64 (beN (b.take j)))), (11, .msl k 0 8 cp 1), (12, .sc (.int .i64 8)), (13, .sc (.int .i64 (j : Int)))], m0, b0⟩) ∧ (ri_ = 1 + (8 - j)) ∧ (n + 0 ≤ m0) ∧ (∀ k_, k_ < n → b0 k_ = bx k_) ∧ (b0 k = .cells (X.map bV)) ∧ (j ≤ 8)) (1 + (8 - 0)) ⟨_, sle ?_ (Nat.le_refl _), 0, _, _, rfl, rfl, ?_⟩ ?_
  · exact t_11
  · exact t_164
  · rintro _ _ ⟨j, m0, b0, rfl, rfl, hm0, hf0, hB0_0, hF0_0⟩
    refine runs_know (fun hd0 => ?_);refine runs_bump 20 ?_;simp only at hd0;refine runs_seq ?_;refine runs_region ?_;refine rl_lss (gn rfl) rfl rfl rfl rfl rfl (fun h1 => ?_) (fun h1 => ?_)
    · skip
      refine runsL_nil ?_;refine runs_seq ?_;refine runs_cond true (ev_mk rfl) (fun _ => ?_) (fun h_ => nomatch h_);refine runs_skip ?_;refine runs_seq ?_;refine runs_block ?_;refine runs_seq ?_;refine runs_region ?_;refine rl0 (gn rfl) rfl rfl (step_index_msl rfl (ev_mk rfl) (ev_mk rfl) Try.underlying22 F.sz5 (by omega) (by omega)) trivial ?_;refine' rl0 (gn rfl) rfl rfl (step_load_one (v := .sc (.int .u8 (at' b (j : Int)))) rfl (ev_mk rfl) F.one5 ?hv) ⟨?hb, trivial⟩ ?_
      case hb => exact t_4
      case hv => (rw [show 0 + ((j : Nat) : Int).toNat * 1 = j by omega]; exact hat j (by omega))
      refine rl0 (gn rfl) rfl rfl (step_as rfl rfl) trivial ?_;refine runsL_nil ?_;refine runs_region ?_;refine rl0 (gn rfl) rfl rfl (step_mv rfl rfl) trivial ?_;refine rl0 (gn rfl) rfl rfl (step_shl (r := beN (b.take j) * 256) rfl (ev_mk rfl) (ev_mk rfl) (by omega) (by show IntKind.u64.wrap (_ * 2 ^ 8) = _; rw [show (2 : Int) ^ 8 = 256 from rfl]; have h_ := beN_8 hb (j := j) (by omega) (by omega); exact wu64 (by omega))) trivial ?_;refine rl0 (gn rfl) rfl rfl (step_mv rfl rfl) trivial ?_;refine rl0 (gn rfl) rfl rfl (step_conv_id rfl rfl Try.underlying5 Try.underlying33 (wu64 (by have h2_ := at_any hb (j : Int); omega))) trivial ?_;refine rl0 (gn rfl) rfl rfl (step_bits (r := beN (b.take (j + 1))) rfl (ev_mk rfl) (ev_mk rfl) (.inr (.inl rfl)) (by rw [beN_take (by omega)]; have h_ := beN_8 hb (j := j) (by omega) (by omega); have h2_ := at_any hb (j : Int); exact or_join8 h_.1 (by omega) h2_.1 h2_.2)) trivial ?_;refine rl0 (gn rfl) rfl rfl (step_as rfl rfl) trivial ?_;refine runsL_nil ?_;refine runs_region ?_;refine rl0 (gn rfl) rfl rfl (step_add rfl (ev_mk rfl) (ev_mk rfl) (w64 (by omega))) trivial ?_;refine rl0 (gn rfl) rfl rfl (step_mv rfl rfl) trivial ?_;refine runsL_nil ?_;refine ⟨_, _, ?_, sle ?_ (Nat.le_refl _), (j + 1), _, _, rfl, rfl, by omega, (fun k_ hk_ => t_24), t_158, by omega⟩
      · omega
      · exact t_129
    · skip
      refine runsL_nil ?_;refine runs_seq ?_;refine runs_cond false (ev_mk rfl) (fun h_ => nomatch h_) (fun _ => ?_);refine runs_exit ?_;refine runs_seq ?_;refine runs_region ?_;refine rl0 (gn rfl) rfl rfl (step_mv rfl rfl) trivial ?_;refine rl0 (gn rfl) rfl rfl (step_as rfl rfl) trivial ?_;refine runsL_nil ?_;refine runs_ret ?_;obtain rfl : j = 8 := by omega
      have htk_ : b.take 8 = b := List.take_of_length_le (by omega)
      refine ⟨t_17, fin_mkg (rest rfl res0) ?_ ?_ ?_ ?_ ?_⟩
      · (repeat' (first | exact VLe.refl _ | exact VLe.own_sl _ _ _ | exact VLe.fl_sl _ _ | exact VLe.nil_sl _ | exact VLe.nil_fl _ | exact VLes.refl _ | exact .nil | refine VLe.tup ?_ | refine VLe.agg ?_ | refine .cons ?_ ?_ | (rw [Int.natCast_add]; exact VLe.refl _) | exact vle_int (by omega) | exact vle_bool t_159 | ((rw [htk_]; exact VLe.refl _)) | fail))
      · exact t_1
      · exact t_147
      · exact t_45
      · exact t_1
set_option maxRecDepth 100000 in
set_option maxHeartbeats 4000000 in
theorem part_z (a K : Nat) (ha : a ≤ 1000000) : Does Try.prog 38 [.agg ((List.replicate 64 (0 : Int)).map bV), .sc (.int .i64 (a : Int))] [(K, .dead)] [(K, .cells ((List.replicate 64 (0 : Int)).map bV))] (.tup [.sl 1 (bytesV []), .sc (.bool false), .sc (.bool false), .sc (.bool false)]) := by
  refine does_mkg 40 Try.func38 rfl rfl rfl (fun n B bx hd hpre hup hvs hbx hgx => ?_);have hp0 := hpre.1;have hz0 := hp0;have hu0 := hup.1;refine runs_seq ?_;refine runs_region ?_;refine rl1 (gn rfl) rfl rfl (step_box_agg (k := K) rfl rfl) ⟨t_0, trivial⟩ (by omega) ?_;refine rl0 (gn rfl) rfl rfl (step_as rfl rfl) trivial ?_;refine rl0 (gn rfl) rfl rfl (step_as rfl rfl) trivial ?_;refine rl0 (gn rfl) rfl rfl (step_as rfl rfl) trivial ?_;refine rl0 (gn rfl) rfl rfl (step_as rfl rfl) trivial ?_;refine runsL_nil ?_;refine runs_seq ?_;refine runs_region ?_;refine rl0 (gn rfl) rfl rfl (step_index_arr rfl (ev_mk rfl) (ev_mk rfl) Try.underlying47 F.sz5 (by omega) (by omega)) trivial ?_;refine' rl0 (gn rfl) rfl rfl (step_load_one (v := .sc (.int .u8 0)) rfl (ev_mk rfl) F.one5 ?hv) ⟨?hb, trivial⟩ ?_
  case hb => exact t_0
  case hv => rfl
  refine rl0 (gn rfl) rfl rfl (step_conv_id rfl rfl Try.underlying5 Try.underlying3 (w64 (by omega))) trivial ?_;refine rl0 (gn rfl) rfl rfl (step_as rfl rfl) trivial ?_;refine runsL_nil ?_;refine runs_seq ?_;refine runs_seq ?_;refine runs_region ?_;refine rl0 (gn rfl) rfl rfl (step_sl_arr (a := 0) (h := 8) (m := 64) (q' := 0) (n' := 8) (c' := 64) rfl (ev_mk rfl) Try.underlying47 F.sz5 bndLo_none (bndHi_nat (a := 8) rfl t_46) bndHi_none (fun h_ => t_106) (by omega) (by omega) (by omega) (.inl ⟨by omega, by omega⟩) t_73 t_73) trivial ?_;refine rl0 (gn rfl) rfl rfl (step_callc rfl Try.func51 rfl rfl rfl (get_m K 64 (List.replicate 8 0) (List.replicate 64 0) (fun x_ hx_ => by rw [List.eq_of_mem_replicate hx_]; omega) (by simp) (by omega) (fun j_ hj_ => zS_lo hj_)) t_10) ⟨t_0, trivial⟩ ?_;refine rl0 (gn rfl) rfl rfl (step_mv rfl rfl) trivial ?_;refine rl0 (gn rfl) rfl rfl (step_add rfl (ev_mk rfl) (ev_mk rfl) (w64 (by omega))) trivial ?_;refine rl0 (gn rfl) rfl rfl (step_conv_id rfl rfl Try.underlying3 Try.underlying33 (wu64 (by omega))) trivial ?_;refine rl_neq (gn rfl) rfl rfl rfl rfl rfl (fun h1 => ?_) (fun h1 => ?_)
  rotate_left
  · exact False.elim (by (have q_ : beN (List.replicate 8 0) = 0 := by decide +kernel); rw [q_] at h1; omega)
  refine rl0 (gn rfl) rfl rfl (step_mv rfl rfl) trivial ?_;refine rlk rfl rfl rfl rfl rfl (ngb rfl rfl) rfl rfl ?_;refine rlk rfl rfl rfl rfl rfl (ngb rfl rfl) rfl rfl ?_;refine rlk rfl rfl rfl rfl rfl (ngb rfl rfl) rfl rfl ?_;refine rl0 (gn rfl) rfl rfl (step_pick rfl (ev_mk rfl) (ev_mk rfl)) trivial ?_;refine rl0 (gn rfl) rfl rfl (step_mv rfl rfl) trivial ?_;refine rlk rfl rfl rfl rfl rfl (ngb rfl rfl) rfl rfl ?_;refine rlk rfl rfl rfl rfl rfl (ngb rfl rfl) rfl rfl ?_;refine rl0 (gn rfl) rfl rfl (step_pick rfl (ev_mk rfl) (ev_mk rfl)) trivial ?_;refine rl0 (gn rfl) rfl rfl (step_mv rfl rfl) trivial ?_;refine rlk rfl rfl rfl rfl rfl (ngb rfl rfl) rfl rfl ?_;refine rlk rfl rfl rfl rfl rfl (ngb rfl rfl) rfl rfl ?_;refine rl0 (gn rfl) rfl rfl (step_pick rfl (ev_mk rfl) (ev_mk rfl)) trivial ?_;refine runsL_nil ?_;refine runs_cond true (ev_mk rfl) (fun _ => ?_) (fun h_ => nomatch h_);refine runs_seq ?_;refine runs_region ?_;refine rl0 (gn rfl) rfl rfl (step_as rfl rfl) trivial ?_;refine rl0 (gn rfl) rfl rfl (step_as rfl rfl) trivial ?_;refine rl0 (gn rfl) rfl rfl (step_as rfl rfl) trivial ?_;refine rl0 (gn rfl) rfl rfl (step_as rfl rfl) trivial ?_;refine runsL_nil ?_;refine runs_ret ?_;refine ⟨t_17, fin_mkg (rest rfl (rest rfl (rest rfl (rest rfl res0)))) ?_ ?_ ?_ ?_ ?_⟩
  · exact t_2
  · exact t_1
  · exact t_146
  · exact t_132
  · exact t_1
set_option maxRecDepth 100000 in
set_option maxHeartbeats 4000000 in
theorem part_s (a K : Nat) (f : Int) (c : List Int) (hf : f = 0 ∨ f = 1 ∨ f = 2 ∨ f = 3) (hc : 1 ≤ c.length ∧ c.length ≤ 54) (ha : a ≤ 1000000) : Does Try.prog 38 [.agg ((mkS ((a + 1 : Nat) : Int) f (c.length : Int) c).map bV), .sc (.int .i64 (a : Int))] [(K, .dead)] [(K, .cells ((mkS ((a + 1 : Nat) : Int) f (c.length : Int) c).map bV))] (.tup [.msl K 10 c.length 54 1, .sc (.bool (decide (f % 2 = 1))), .sc (.bool (decide (f / 2 * 2 = 2))), .sc (.bool true)]) := by
  refine does_mkg 40 Try.func38 rfl rfl rfl (fun n B bx hd hpre hup hvs hbx hgx => ?_);have hp0 := hpre.1;have hz0 := hp0;have hu0 := hup.1;have hbe_ : beN (beB 8 ((a + 1 : Nat) : Int)) = ((a + 1 : Nat) : Int) := beN_beB 8 _ (by omega) (by omega);refine runs_seq ?_;refine runs_region ?_;refine rl1 (gn rfl) rfl rfl (step_box_agg (k := K) rfl rfl) ⟨t_0, trivial⟩ (by omega) ?_;refine rl0 (gn rfl) rfl rfl (step_as rfl rfl) trivial ?_;refine rl0 (gn rfl) rfl rfl (step_as rfl rfl) trivial ?_;refine rl0 (gn rfl) rfl rfl (step_as rfl rfl) trivial ?_;refine rl0 (gn rfl) rfl rfl (step_as rfl rfl) trivial ?_;refine runsL_nil ?_;refine runs_seq ?_;refine runs_region ?_;refine rl0 (gn rfl) rfl rfl (step_index_arr rfl (ev_mk rfl) (ev_mk rfl) Try.underlying47 F.sz5 (by omega) (by omega)) trivial ?_;refine' rl0 (gn rfl) rfl rfl (step_load_one (v := .sc (.int .u8 (c.length : Int))) rfl (ev_mk rfl) F.one5 ?hv) ⟨?hb, trivial⟩ ?_
  case hb => exact t_0
  case hv => exact mkS_b9
  refine rl0 (gn rfl) rfl rfl (step_conv_id rfl rfl Try.underlying5 Try.underlying3 (w64 (by omega))) trivial ?_;refine rl0 (gn rfl) rfl rfl (step_as rfl rfl) trivial ?_;refine runsL_nil ?_;refine runs_seq ?_;refine runs_seq ?_;refine runs_region ?_;refine rl0 (gn rfl) rfl rfl (step_sl_arr (a := 0) (h := 8) (m := 64) (q' := 0) (n' := 8) (c' := 64) rfl (ev_mk rfl) Try.underlying47 F.sz5 bndLo_none (bndHi_nat (a := 8) rfl t_46) bndHi_none (fun h_ => t_106) (by omega) (by omega) (by omega) (.inl ⟨by omega, by omega⟩) t_73 t_73) trivial ?_;refine rl0 (gn rfl) rfl rfl (step_callc rfl Try.func51 rfl rfl rfl (get_m K 64 (beB 8 ((a + 1 : Nat) : Int)) (mkS ((a + 1 : Nat) : Int) f (c.length : Int) c) (beB_bytes 8 _) (beB_len 8 _) (by omega) (fun j_ hj_ => mkS_lo hj_)) t_10) ⟨t_0, trivial⟩ ?_;refine rl0 (gn rfl) rfl rfl (step_mv rfl rfl) trivial ?_;refine rl0 (gn rfl) rfl rfl (step_add rfl (ev_mk rfl) (ev_mk rfl) (w64 (by omega))) trivial ?_;refine rl0 (gn rfl) rfl rfl (step_conv_id rfl rfl Try.underlying3 Try.underlying33 (wu64 (by omega))) trivial ?_;refine rl_neq (gn rfl) rfl rfl rfl rfl rfl (fun h1 => ?_) (fun h1 => ?_)
  · exact t_42
  refine rl0 (gn rfl) rfl rfl (step_mv rfl rfl) trivial ?_;refine rl0 (gy rfl rfl rfl rfl rfl rfl) rfl rfl (step_index_arr rfl (ev_mk rfl) (ev_mk rfl) Try.underlying47 F.sz5 (by omega) (by omega)) trivial ?_;refine' rl0 (gy rfl rfl rfl rfl rfl rfl) rfl rfl (step_load_one (v := .sc (.int .u8 f)) rfl (ev_mk rfl) F.one5 ?hv) ⟨?hb, trivial⟩ ?_
  case hb => exact t_0
  case hv => exact mkS_b8
  refine rl_gtr (gy rfl rfl rfl rfl rfl rfl) rfl rfl rfl rfl rfl (fun h2 => ?_) (fun h2 => ?_)
  · exact t_42
  refine rl0 (gn rfl) rfl rfl (step_pick rfl (ev_mk rfl) (ev_mk rfl)) trivial ?_;refine rl0 (gn rfl) rfl rfl (step_mv rfl rfl) trivial ?_;refine rl0 (gy rfl rfl rfl rfl rfl rfl) rfl rfl (step_mv rfl rfl) trivial ?_;refine rl_lss (gy rfl rfl rfl rfl rfl rfl) rfl rfl rfl rfl rfl (fun h3 => ?_) (fun h3 => ?_)
  · exact t_42
  refine rl0 (gn rfl) rfl rfl (step_pick rfl (ev_mk rfl) (ev_mk rfl)) trivial ?_;refine rl0 (gn rfl) rfl rfl (step_mv rfl rfl) trivial ?_;refine rl0 (gy rfl rfl rfl rfl rfl rfl) rfl rfl (step_mv rfl rfl) trivial ?_;refine rl_gtr (gy rfl rfl rfl rfl rfl rfl) rfl rfl rfl rfl rfl (fun h4 => ?_) (fun h4 => ?_)
  · exact t_42
  refine rl0 (gn rfl) rfl rfl (step_pick rfl (ev_mk rfl) (ev_mk rfl)) trivial ?_;refine runsL_nil ?_;refine runs_cond false (ev_mk rfl) (fun h_ => nomatch h_) (fun _ => ?_);refine runs_skip ?_;refine runs_seq ?_;refine runs_draw (by kernel_rfl) (by kernel_rfl) (by kernel_rfl) ?_;refine dl0 (gn rfl) rfl rfl (step_mv rfl rfl) trivial ?_;refine dl0 (gn rfl) rfl rfl (step_add rfl (ev_mk rfl) (ev_mk rfl) (w64 (by omega))) trivial ?_;refine dl0 (gn rfl) rfl rfl (step_sl_arr (a := 10) (h := (10 + c.length)) (m := 64) (q' := 10) (n' := c.length) (c' := 54) rfl (ev_mk rfl) Try.underlying47 F.sz5 (bndLo_nat (a := 10) rfl t_46) (bndHi_nat (a := (10 + c.length)) rfl t_46) bndHi_none (fun h_ => t_106) (by omega) (by omega) (by omega) t_59 t_73 t_73) trivial ?_;refine dl0 (gn rfl) rfl rfl (step_index_arr rfl (ev_mk rfl) (ev_mk rfl) Try.underlying47 F.sz5 (by omega) (by omega)) trivial ?_;refine' dl0 (gn rfl) rfl rfl (step_load_one (v := .sc (.int .u8 f)) rfl (ev_mk rfl) F.one5 ?hv) ⟨?hb, trivial⟩ ?_
  case hb => exact t_0
  case hv => exact mkS_b8
  refine dl0 (gn rfl) rfl rfl (step_bits (r := f % 2) rfl (ev_mk rfl) (ev_mk rfl) (.inl rfl) (and_1 hf)) trivial ?_;refine dl0 (gn rfl) rfl rfl (step_binOp rfl (ev_mk rfl) (ev_mk rfl) run_eql) trivial ?_;refine dl0 (gn rfl) rfl rfl (step_index_arr rfl (ev_mk rfl) (ev_mk rfl) Try.underlying47 F.sz5 (by omega) (by omega)) trivial ?_;refine' dl0 (gn rfl) rfl rfl (step_load_one (v := .sc (.int .u8 f)) rfl (ev_mk rfl) F.one5 ?hv) ⟨?hb, trivial⟩ ?_
  case hb => exact t_0
  case hv => exact mkS_b8
  refine dl0 (gn rfl) rfl rfl (step_bits (r := f / 2 * 2) rfl (ev_mk rfl) (ev_mk rfl) (.inl rfl) (and_2 hf)) trivial ?_;refine dl0 (gn rfl) rfl rfl (step_binOp rfl (ev_mk rfl) (ev_mk rfl) run_eql) trivial ?_;refine dl0 (gn rfl) rfl rfl (step_as rfl rfl) trivial ?_;refine dl0 (gn rfl) rfl rfl (step_as rfl rfl) trivial ?_;refine dl0 (gn rfl) rfl rfl (step_as rfl rfl) trivial ?_;refine dl0 (gn rfl) rfl rfl (step_as rfl rfl) trivial ?_;refine dlnil ?_ ?_
  · exact t_12
  refine runs_ret ?_;refine ⟨t_17, fin_mkg (rest rfl (rest rfl (rest rfl (rest rfl res0)))) ?_ ?_ ?_ ?_ ?_⟩
  · (repeat' (first | exact VLe.refl _ | exact VLe.own_sl _ _ _ | exact VLe.fl_sl _ _ | exact VLe.nil_sl _ | exact VLe.nil_fl _ | exact VLes.refl _ | exact .nil | refine VLe.tup ?_ | refine VLe.agg ?_ | refine .cons ?_ ?_ | (rw [Int.natCast_add]; exact VLe.refl _) | exact vle_int (by omega) | exact vle_bool t_159 | (exact vle_bool (by rw [Bool.eq_iff_iff]; simp)) | fail))
  · exact t_1
  · intro k_ hk_; simp only [upds]; by_cases e_ : k_ = K; (focus subst e_; refine bl_eq ?_; first | (refine' blec ?hb ?hl; (case hb => repeat (first | exact uE | assumption | refine uN (by omega) ?_ | fail)); (case hl => first | exact VLes.refl _ | ((repeat' (first | exact VLe.refl _ | exact VLe.own_sl _ _ _ | exact VLe.fl_sl _ _ | exact VLe.nil_sl _ | exact VLe.nil_fl _ | exact VLes.refl _ | exact .nil | refine VLe.tup ?_ | refine VLe.agg ?_ | refine .cons ?_ ?_ | (rw [Int.natCast_add]; exact VLe.refl _) | exact vle_int (by omega) | exact vle_bool t_159 | (exact vle_bool (by rw [Bool.eq_iff_iff]; simp)) | fail)); done))) | (refine ble ?_; (repeat (first | exact uE | assumption | refine uN (by omega) ?_ | fail)); done) | exact ble (tl_eq t_5 t_6)); refine bl_ne e_ ?_; exact ble t_14
  · exact t_132
  · exact t_1
end Go.Proofs.Ytdmkhpnjjpeeaaa
namespace Go.Proofs.Ytdmkhpnjjpeeaaa
open Go.Vm
set_option linter.unusedVariables false
set_option linter.unusedSimpArgs false
theorem eqCs_u8 : ∀ (a b : List Int), a.length = b.length → (eqCs (a.map fun x => Value.int .u8 x) (b.map fun x => Value.int .u8 x) = true ↔ a = b)
  | [], [], _ => by simp [eqCs]
  | [], _ :: _, h => by simp at h
  | _ :: _, [], h => by simp at h
  | x :: a, y :: b, h => by
    have ih := eqCs_u8 a b t_123
    simp only [List.map_cons, eqCs, Bool.and_eq_true, ih, List.cons.injEq]
    simp [eqC]
theorem fits_u8 : ∀ (a : List Int) (n : Nat), a.length = n → fitsL (List.replicate n (CK.i .u8)) (a.map fun x => .int .u8 x) = true
  | [], 0, _ => rfl
  | x :: a, n + 1, h => by simp only [List.replicate_succ, List.map_cons, fitsL, CK.fits, fits_u8 a n t_123]; rfl
theorem shape25 : shapeOf Try.prog 3 36 = some [CK.i .u64, CK.i .u64, CK.i .u32, CK.i .u32, CK.s, CK.b] := by kernel_rfl
theorem eqg25 : Try.prog.eqGuardType Try.prog.depth 36 = false := by kernel_rfl
def rcV (r : Rc) : List Value := [.int .u64 r.id, .int .u64 r.key, .int .u32 r.x, .int .u32 r.y, .string r.val, .bool r.gh]
theorem step_neq25 {o : Oper} {t : Nat → V} {x y : Operand} {a b : Rc} {ty2 : TypeId} (ho : o.op = .binOp .neq 36 x y ty2) (hx : ev t x = .agg (rcC a)) (hy : ev t y = .agg (rcC b)) : StepOK Try.prog o t [] [] (.sc (.bool (!eqCs (rcV a) (rcV b)))) :=
  step_eq_agg (xs := rcV a) (ys := rcV b) ho hx hy shape25 (by omega) ⟨_, Try.underlying36, rfl⟩ eqg25 rfl rfl (.inr ⟨rfl, rfl⟩)
theorem shape49 : shapeOf Try.prog 3 84 = some (List.replicate 224 (CK.i .u8)) := by kernel_rfl
theorem eqg49 : Try.prog.eqGuardType Try.prog.depth 84 = false := by kernel_rfl
def pgC (p : List Int) : List Value := p.map fun x => .int .u8 x
theorem step_neq49 {o : Oper} {t : Nat → V} {x y : Operand} {a b : List Int} {ty2 : TypeId} (ho : o.op = .binOp .neq 84 x y ty2) (hx : ev t x = .agg (a.map bV)) (hy : ev t y = .agg (b.map bV)) (ha : a.length = 224) (hb : b.length = 224) : StepOK Try.prog o t [] [] (.sc (.bool (!eqCs (pgC a) (pgC b)))) := by
  have e : ∀ l : List Int, l.map bV = (pgC l).map V.sc := fun l => by unfold pgC; rw [List.map_map]; rfl
  rw [e] at hx hy
  exact step_eq_agg (xs := pgC a) (ys := pgC b) ho hx hy shape49 (by omega) ⟨_, Try.underlying84, rfl⟩ eqg49 (fits_u8 _ 224 ha) (fits_u8 _ 224 hb) (.inr ⟨rfl, rfl⟩)
open Crc
attribute [local irreducible] Go.Vm.beB Go.Vm.fieldB
theorem eqCs_refl (r : Rc) : eqCs (rcV r) (rcV r) = true := by
  have := (by_eq r.val r.val).2 rfl
  simp [eqCs, rcV, eqC, this]
end Go.Proofs.Ytdmkhpnjjpeeaaa
