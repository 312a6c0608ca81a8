/- Walks by the logic of values. -/
import Derived.Test.YtdcmcmgbnkolbaaVa
import Derived.Test.YtdcmcmgbnkolbaaVb
import Derived.Test.YtdcmcmgbnkolbaaVc
import Derived.Test.YtdcmcmgbnkolbaaVd
import Derived.Test.YtdcmcmgbnkolbaaVe
import Derived.Test.YtdcmcmgbnkolbaaVf
import Derived.Test.YtdcmcmgbnkolbaaVg
import Derived.Test.YtdcmcmgbnkolbaaVh
import Derived.Test.YtdcmcmgbnkolbaaVi
import Derived.Test.YtdcmcmgbnkolbaaVj
import Derived.Test.YtdcmcmgbnkolbaaVk
import Derived.Test.YtdcmcmgbnkolbaaVl
import Derived.Test.YtdcmcmgbnkolbaaVm
import Derived.Test.YtdcmcmgbnkolbaaVmP
namespace Go.Proofs.Ytdcmcmgbnkolbaa
open Go.Vm
set_option linter.unusedVariables false
set_option linter.unusedSimpArgs false
theorem wl_len : (putS (fillP 1 2) 77 4).length = 4 := putS_len _ _ _
theorem wl_ok : okL (putS (fillP 1 2) 77 4) := okL_put (fillP_len 1 2) (fillP_bytes (by omega) (by omega)) 77
theorem u64_small {v : Int} (h : 0 ≤ v ∧ v < 1000) : U64 v := by constructor <;> omega
theorem wk_get (kk vv : Nat) : Does Try.prog 8 [.gsl kk vv 0 4 64] [(kk, .gcells vv 64 (secsV (putS (fillP 1 2) 77 4)))] [] (.tup [.agg ((fillP 1 2).map bV), .sc (.int .u64 77), .sc (.bool true)]) := by
  have h := lgetg_ok (putS (fillP 1 2) 77 4) wl_ok.1 wl_ok.2 wl_len kk vv (fun r hr => by rw [drop_put (fillP_len 1 2) 77 r hr, at_put (fillP_len 1 2)])
  rw [pgO_put (fillP_len 1 2), at_put (fillP_len 1 2), beN_8v (u64_small (by omega))] at h
  exact h
theorem wl_at2 : (secsV (putS (fillP 1 2) 77 4))[2]? = some ((at' (putS (fillP 1 2) 77 4) 2).map bV) := secs_at (l := (putS (fillP 1 2) 77 4)) (i := 2) (by rw [wl_len]; omega)
theorem wr_rows : (secsV (putS (fillP 1 2) 77 4)).set 2 (((at' (putS (fillP 1 2) 77 4) 2).map bV).set 60 (bV 9)) = secsV ((putS (fillP 1 2) 77 4).set 2 ((at' (putS (fillP 1 2) 77 4) 2).set 60 9)) := by unfold secsV; rw [List.map_set, List.map_set]
theorem wl_mem2 : at' (putS (fillP 1 2) 77 4) 2 ∈ (putS (fillP 1 2) 77 4) := at_memS (l := (putS (fillP 1 2) 77 4)) (j := 2) (by rw [wl_len]; omega)
theorem wl_drop2 : (at' (putS (fillP 1 2) 77 4) 2).drop 56 = beB 8 77 := drop_put (fillP_len 1 2) 77 _ wl_mem2
theorem wr_at0 : at' ((putS (fillP 1 2) 77 4).set 2 ((at' (putS (fillP 1 2) 77 4) 2).set 60 9)) 0 = at' (putS (fillP 1 2) 77 4) 0 := by
  have h1 := at_nat ((putS (fillP 1 2) 77 4).set 2 ((at' (putS (fillP 1 2) 77 4) 2).set 60 9)) 0 (by rw [List.length_set, wl_len]; omega)
  have h2 := at_nat (putS (fillP 1 2) 77 4) 0 (by rw [wl_len]; omega)
  rw [List.getElem_set_ne (by omega)] at h1
  exact h1.trans h2.symm
theorem wr_torn : ∃ r ∈ (putS (fillP 1 2) 77 4).set 2 ((at' (putS (fillP 1 2) 77 4) 2).set 60 9), beN (r.drop 56) ≠ beN ((at' ((putS (fillP 1 2) 77 4).set 2 ((at' (putS (fillP 1 2) 77 4) 2).set 60 9)) 0).drop 56) := by
  refine ⟨((at' (putS (fillP 1 2) 77 4) 2).set 60 9), List.mem_set (by rw [wl_len]; omega) _, ?_⟩
  rw [wr_at0, at_put (fillP_len 1 2), List.drop_set, if_neg (by omega), wl_drop2]
  decide
theorem wr_ok : okL ((putS (fillP 1 2) 77 4).set 2 ((at' (putS (fillP 1 2) 77 4) 2).set 60 9)) := by
  have hr : okL [((at' (putS (fillP 1 2) 77 4) 2).set 60 9)] := ⟨fun r hr => by rw [List.mem_singleton] at hr; subst hr; rw [List.length_set]; exact wl_ok.1 _ wl_mem2, fun r hr => by
    rw [List.mem_singleton] at hr; subst hr
    intro x hx
    rcases List.mem_or_eq_of_mem_set hx with h | rfl
    · exact wl_ok.2 _ wl_mem2 x h
    · omega⟩
  constructor
  · intro r h
    rcases List.mem_or_eq_of_mem_set h with h | rfl
    · exact wl_ok.1 r h
    · exact hr.1 _ (List.mem_singleton.2 rfl)
  · intro r h
    rcases List.mem_or_eq_of_mem_set h with h | rfl
    · exact wl_ok.2 r h
    · exact hr.2 _ (List.mem_singleton.2 rfl)
theorem wk_torn (kk vv : Nat) : Does Try.prog 8 [.gsl kk vv 0 4 64] [(kk, .gcells vv 64 ((secsV (putS (fillP 1 2) 77 4)).set 2 (((at' (putS (fillP 1 2) 77 4) 2).map bV).set 60 (bV 9))))] [] (.tup [.agg (List.replicate 224 (bV 0)), .sc (.int .u64 0), .sc (.bool false)]) := by
  rw [wr_rows]
  exact lgetg_torn _ wr_ok.1 wr_ok.2 (by rw [List.length_set, wl_len]) kk vv wr_torn
theorem wk_in : insideB 10 6 4 = true := by decide
theorem wk_w (k1 k2 : Nat) (hkk : k1 ≠ k2) : Does Try.prog 13 [.ref k1 0, .sc (.int .i64 2), .sc (.int .i64 1), .agg ((fillP 3 3).map bV), .sc (.int .u64 5)] [(k1, .cells [.msl k2 0 (zS 10).length (zS 10).length 64, .sc (.int .i64 (0)), .sc (.int .i64 (-1)), .sl 1 (boolsV ([])), .sc (.bool (false))]), (k2, .cells ((zS 10).flatten.map bV))] [(k2, .cells ((mixS (zS 10) 6 (putS (fillP 3 3) 5 4) (-1) []).flatten.map bV)), (k1, .cells [.msl k2 0 (mixS (zS 10) 6 (putS (fillP 3 3) 5 4) (-1) []).length (mixS (zS 10) 6 (putS (fillP 3 3) 5 4) (-1) []).length 64, .sc (.int .i64 (0 + 1)), .sc (.int .i64 (-1)), .sl 1 (boolsV ([])), .sc (.bool (false))])] (.sc (.int .i64 0)) := by
  have hl : ((putS (fillP 3 3) 5 4).length : Int) = 4 := by rw [putS_len]; rfl
  have h := lw_ok k1 k2 ⟨zS 10, 0, -1, [], false⟩ hkk (okZ 10 (by omega)) 2 1 (by constructor <;> omega) (by constructor <;> omega) (fillP 3 3) (fillP_len 3 3) 5 (u64_small (by omega)) (by omega) (by omega) (by show (1 : Int) ≤ ((zS 10).length : Int); rw [zS_len]; omega) 6 (w64 (by omega))
  have e1 : stepW ⟨zS 10, 0, -1, [], false⟩ 6 (putS (fillP 3 3) 5 4) = ⟨mixS (zS 10) 6 (putS (fillP 3 3) 5 4) (-1) [], 0 + 1, -1, [], false⟩ := by unfold stepW; rw [if_pos ⟨by rw [hl]; show insideB (zS 10).length _ _ = true; rw [zS_len]; exact wk_in, rfl⟩, if_neg (by show ¬ (-1 : Int) = 0; omega)]; rfl
  have e2 : codeW ⟨zS 10, 0, -1, [], false⟩ 6 (putS (fillP 3 3) 5 4) = 0 := by unfold codeW; rw [if_pos (by rw [hl]; show insideB (zS 10).length _ _ = true; rw [zS_len]; exact wk_in), if_neg (by simp)]
  rw [e1, e2] at h
  exact h
theorem wk_okT : okS ⟨mixS (zS 10) 6 (putS (fillP 3 3) 5 4) (-1) [], 0 + 1, -1, [], false⟩ := ⟨mixS_row _ _ _ _ _ (zS_row 10) (putS_row (fillP_len 3 3) 5), by show (mixS (zS 10) 6 (putS (fillP 3 3) 5 4) (-1) []).length ≤ 16384; rw [mixS_len, zS_len]; omega, by constructor <;> simp, by constructor <;> simp, by simp⟩
theorem wk_r (k1 k2 : Nat) (hkk : k1 ≠ k2) : Does Try.prog 15 [.ref k1 0, .sc (.int .i64 2), .sc (.int .i64 1)] [(k1, .cells [.msl k2 0 (mixS (zS 10) 6 (putS (fillP 3 3) 5 4) (-1) []).length (mixS (zS 10) 6 (putS (fillP 3 3) 5 4) (-1) []).length 64, .sc (.int .i64 (0 + 1)), .sc (.int .i64 (-1)), .sl 1 (boolsV ([])), .sc (.bool (false))]), (k2, .cells ((mixS (zS 10) 6 (putS (fillP 3 3) 5 4) (-1) []).flatten.map bV))] [] (.tup [.agg ((fillP 3 3).map bV), .sc (.int .u64 5), .sc (.bool true), .sc (.int .i64 0)]) := by
  have hp := fillP_len 3 3
  have hL : (mixS (zS 10) 6 (putS (fillP 3 3) 5 4) (-1) []).length = 10 := by rw [mixS_len, zS_len]
  have hc : codeR ⟨mixS (zS 10) 6 (putS (fillP 3 3) 5 4) (-1) [], 0 + 1, -1, [], false⟩ 6 4 = 0 := by unfold codeR; rw [if_pos (by show insideB (mixS (zS 10) 6 (putS (fillP 3 3) 5 4) (-1) []).length _ _ = true; rw [hL]; exact wk_in), if_neg (by simp)]
  have hr : readS ⟨mixS (zS 10) 6 (putS (fillP 3 3) 5 4) (-1) [], 0 + 1, -1, [], false⟩ 6 4 = putS (fillP 3 3) 5 4 := by
    unfold readS
    rw [if_pos hc]
    have h := takeN_mix (zS 10) 6 (putS (fillP 3 3) 5 4) (-1) [] (by omega) (by omega) (by rw [putS_len, zS_len]; omega)
    rw [putS_len] at h
    exact h
  have h := lr_ok k1 k2 ⟨mixS (zS 10) 6 (putS (fillP 3 3) 5 4) (-1) [], 0 + 1, -1, [], false⟩ hkk wk_okT 2 1 (by constructor <;> omega) (by constructor <;> omega) (by omega) (by omega) (by show (1 : Int) ≤ ((mixS (zS 10) 6 (putS (fillP 3 3) 5 4) (-1) []).length : Int); rw [hL]; omega) 6 (w64 (by omega)) hc (mixS_bytes _ _ _ _ _ (zS_bytes 10) (okL_put hp (fillP_bytes (by omega) (by omega)) 5).2)
  rw [hr, getP, getN, getB_put hp, if_pos rfl, if_pos rfl, pgO_put hp, at_put hp, beN_8v (u64_small (by omega))] at h
  exact h
theorem wk_far (k1 k2 : Nat) (hkk : k1 ≠ k2) : Does Try.prog 13 [.ref k1 0, .sc (.int .i64 2), .sc (.int .i64 2), .agg ((fillP 3 3).map bV), .sc (.int .u64 5)] [(k1, .cells [.msl k2 0 (mixS (zS 10) 6 (putS (fillP 3 3) 5 4) (-1) []).length (mixS (zS 10) 6 (putS (fillP 3 3) 5 4) (-1) []).length 64, .sc (.int .i64 (0 + 1)), .sc (.int .i64 (-1)), .sl 1 (boolsV ([])), .sc (.bool (false))]), (k2, .cells ((mixS (zS 10) 6 (putS (fillP 3 3) 5 4) (-1) []).flatten.map bV))] [(k2, .cells ((mixS (zS 10) 6 (putS (fillP 3 3) 5 4) (-1) []).flatten.map bV)), (k1, .cells [.msl k2 0 (mixS (zS 10) 6 (putS (fillP 3 3) 5 4) (-1) []).length (mixS (zS 10) 6 (putS (fillP 3 3) 5 4) (-1) []).length 64, .sc (.int .i64 (0 + 1)), .sc (.int .i64 (-1)), .sl 1 (boolsV ([])), .sc (.bool (false))])] (.sc (.int .i64 2)) := by
  have hL : (mixS (zS 10) 6 (putS (fillP 3 3) 5 4) (-1) []).length = 10 := by rw [mixS_len, zS_len]
  have hn : ¬ insideB (mixS (zS 10) 6 (putS (fillP 3 3) 5 4) (-1) []).length 10 (putS (fillP 3 3) 5 4).length = true := by rw [hL, putS_len]; decide
  have h := lw_ok k1 k2 ⟨mixS (zS 10) 6 (putS (fillP 3 3) 5 4) (-1) [], 0 + 1, -1, [], false⟩ hkk wk_okT 2 2 (by constructor <;> omega) (by constructor <;> omega) (fillP 3 3) (fillP_len 3 3) 5 (u64_small (by omega)) (by omega) (by omega) (by show (2 : Int) ≤ ((mixS (zS 10) 6 (putS (fillP 3 3) 5 4) (-1) []).length : Int); rw [hL]; omega) 10 (w64 (by omega))
  have e1 : stepW ⟨mixS (zS 10) 6 (putS (fillP 3 3) 5 4) (-1) [], 0 + 1, -1, [], false⟩ 10 (putS (fillP 3 3) 5 4) = ⟨mixS (zS 10) 6 (putS (fillP 3 3) 5 4) (-1) [], 0 + 1, -1, [], false⟩ := by unfold stepW; rw [if_neg]; exact fun hc => hn hc.1
  have e2 : codeW ⟨mixS (zS 10) 6 (putS (fillP 3 3) 5 4) (-1) [], 0 + 1, -1, [], false⟩ 10 (putS (fillP 3 3) 5 4) = 2 := by unfold codeW; rw [if_neg hn]
  rw [e1, e2] at h
  exact h
set_option maxRecDepth 100000 in
set_option maxHeartbeats 4000000 in
theorem lw_nil (p : List Int) (hp : p.length = 224) (a b v : Int) : Does Try.prog 13 [.sc (.pointer none), .sc (.int .i64 a), .sc (.int .i64 b), .agg (p.map bV), .sc (.int .u64 v)] [] [] (.sc (.int .i64 2)) := by
  refine does_mkg 40 Try.func13 rfl rfl rfl (fun n B bx hd hpre hup hvs hbx hgx => ?_)
  refine runs_seq ?_
  refine runs_region ?_
  refine rl1 (gn rfl) rfl rfl (step_box_agg (k := n + 0) rfl rfl) ⟨by repeat (first | exact upd_eq _ _ _ | refine (upd_ne _ _ _ _ (by omega)).trans ?_ | assumption | exact hd _ (by omega) | exact hd0 _ (by omega) | exact hd1 _ (by omega) | exact hd2 _ (by omega) | exact hd3 _ (by omega) | fail), trivial⟩ (by omega) ?_
  refine rl0 (gn rfl) rfl rfl (step_as rfl rfl) trivial ?_
  refine runsL_nil ?_
  refine runs_seq ?_
  refine runs_seq ?_
  refine runs_region ?_
  refine rl0 (gn rfl) rfl rfl (step_mv rfl rfl) trivial ?_
  refine rl0 (gn rfl) rfl rfl (step_eq_nil (b := true) rfl (ev_mk rfl) (ev_mk rfl) Try.underlying31 ⟨_, .inr ⟨rfl, rfl⟩, .inl ⟨rfl, rfl⟩⟩) trivial ?_
  refine rl0 (gn rfl) rfl rfl (step_mv rfl rfl) trivial ?_
  refine rlk rfl rfl rfl rfl rfl (ngb rfl rfl) rfl rfl ?_
  refine rlk rfl rfl rfl rfl rfl (ngb rfl rfl) rfl rfl ?_
  refine rl0 (gn rfl) rfl rfl (step_pick rfl (ev_mk rfl) (ev_mk rfl)) trivial ?_
  refine rl0 (gn rfl) rfl rfl (step_mv rfl rfl) trivial ?_
  refine rlk rfl rfl rfl rfl rfl (ngb rfl rfl) rfl rfl ?_
  refine rlk rfl rfl rfl rfl rfl (ngb rfl rfl) rfl rfl ?_
  refine rl0 (gn rfl) rfl rfl (step_pick rfl (ev_mk rfl) (ev_mk rfl)) trivial ?_
  refine rl0 (gn rfl) rfl rfl (step_mv rfl rfl) trivial ?_
  refine rlk rfl rfl rfl rfl rfl (ngb rfl rfl) rfl rfl ?_
  refine rlk rfl rfl rfl rfl rfl (ngb rfl rfl) rfl rfl ?_
  refine rlk rfl rfl rfl rfl rfl (ngb rfl rfl) rfl rfl ?_
  refine rlk rfl rfl rfl rfl rfl (ngb rfl rfl) rfl rfl ?_
  refine rl0 (gn rfl) rfl rfl (step_pick rfl (ev_mk rfl) (ev_mk rfl)) trivial ?_
  refine runsL_nil ?_
  refine runs_cond true (ev_mk rfl) (fun _ => ?_) (fun h_ => nomatch h_)
  refine runs_seq ?_
  refine runs_region ?_
  refine rl0 (gn rfl) rfl rfl (step_as rfl rfl) trivial ?_
  refine runsL_nil ?_
  refine runs_ret ?_
  refine ⟨by first | exact .inr rfl | exact .inl rfl, fin_mkg (rest rfl res0) ?_ ?_ ?_ ?_ ?_⟩
  · (repeat' (first | exact VLe.refl _ | exact VLe.own_sl _ _ _ | exact VLe.fl_sl _ _ | exact VLe.nil_sl _ | exact VLe.nil_fl _ | exact VLes.refl _ | exact .nil | refine VLe.tup ?_ | refine VLe.agg ?_ | refine .cons ?_ ?_ | (rw [Int.natCast_add]; exact VLe.refl _) | exact vle_int (by omega) | exact vle_bool (by first | rfl | assumption | (simp_all; done)) | fail))
  · repeat (first | exact trivial | assumption | omega | exact bd_bs | exact bd_row | exact bd_secs | exact bd_bools | (refine bdR_map (fun _ => ?_)) | (refine bdL_map (fun _ => ?_)) | refine ⟨?_, ?_⟩ | fail)
  · intro k_ hk_; exact ble (by first | exact rfl | (refine (upd_ne _ _ _ _ (by omega)).trans ?_; first | exact rfl | skip; repeat (first | exact rfl | refine (upd_ne _ _ _ _ (by omega)).trans ?_ | assumption | exact hf0 _ (by omega) | exact hf1 _ (by omega) | exact hf2 _ (by omega) | exact hf3 _ (by omega) | exact hf0 _ (by omega) (by first | assumption | omega) | exact hf1 _ (by omega) (by first | assumption | omega) | exact hf2 _ (by omega) (by first | assumption | omega) | exact hf3 _ (by omega) (by first | assumption | omega) | exact hf0 _ (by omega) (by first | assumption | omega) (by first | assumption | omega) | exact hf1 _ (by omega) (by first | assumption | omega) (by first | assumption | omega) | exact hf2 _ (by omega) (by first | assumption | omega) (by first | assumption | omega) | exact hf3 _ (by omega) (by first | assumption | omega) (by first | assumption | omega))) | exact hf0 _ (by omega) | exact hf1 _ (by omega) | exact hf2 _ (by omega) | exact hf3 _ (by omega) | exact hf0 _ (by omega) (by first | assumption | omega) | exact hf1 _ (by omega) (by first | assumption | omega) | exact hf2 _ (by omega) (by first | assumption | omega) | exact hf3 _ (by omega) (by first | assumption | omega) | exact hf0 _ (by omega) (by first | assumption | omega) (by first | assumption | omega) | exact hf1 _ (by omega) (by first | assumption | omega) (by first | assumption | omega) | exact hf2 _ (by omega) (by first | assumption | omega) (by first | assumption | omega) | exact hf3 _ (by omega) (by first | assumption | omega) (by first | assumption | omega))
  · intro p hp; cases hp
  · repeat (first | exact trivial | assumption | omega | exact bd_bs | exact bd_row | exact bd_secs | exact bd_bools | (refine bdR_map (fun _ => ?_)) | (refine bdL_map (fun _ => ?_)) | refine ⟨?_, ?_⟩ | fail)
set_option maxRecDepth 100000 in
set_option maxHeartbeats 4000000 in
theorem works_c  : Does Try.prog 6 [] [] [] (.sc (.bool true)) := by
  refine does_mkg 40 Try.func6 rfl rfl rfl (fun n B bx hd hpre hup hvs hbx hgx => ?_)
  refine runs_seq ?_
  refine runs_region ?_
  refine rl0 (gn rfl) rfl rfl (step_as rfl rfl) trivial ?_
  refine runsL_nil ?_
  refine runs_seq ?_
  refine runs_region ?_
  refine rl0 (gn rfl) rfl rfl (step_callc rfl Try.func14 rfl rfl rfl (filled_c 1 2) (by repeat (first | exact .nil | refine .cons ?_ ?_ | exact VLe.refl _ | exact VLe.own_sl _ _ _ | exact VLe.fl_sl _ _ | exact VLe.nil_sl _ | exact VLe.nil_fl _ | refine VLe.agg ?_))) trivial ?_
  refine rl1 (gn rfl) rfl rfl (step_callc rfl Try.func7 rfl rfl rfl (put_g (fillP 1 2) (fillP_len 1 2) 77 (u64_small (by omega)) (n + 0)) (by repeat (first | exact .nil | refine .cons ?_ ?_ | exact VLe.refl _ | exact VLe.own_sl _ _ _ | exact VLe.fl_sl _ _ | exact VLe.nil_sl _ | exact VLe.nil_fl _ | refine VLe.agg ?_))) ⟨by repeat (first | exact upd_eq _ _ _ | refine (upd_ne _ _ _ _ (by omega)).trans ?_ | assumption | exact hd _ (by omega) | exact hd0 _ (by omega) | exact hd1 _ (by omega) | exact hd2 _ (by omega) | exact hd3 _ (by omega) | fail), trivial⟩ (by omega) ?_
  refine rl0 (gn rfl) rfl rfl (step_as rfl rfl) trivial ?_
  refine runsL_nil ?_
  refine runs_seq ?_
  refine runs_seq ?_
  refine runs_region ?_
  refine rl0 (gn rfl) rfl rfl (step_mv rfl rfl) trivial ?_
  refine rl0 (gn rfl) rfl rfl (step_len_g rfl rfl (ev_mk rfl) Try.underlying24) trivial ?_
  refine rl_neq (gn rfl) rfl rfl rfl rfl rfl (fun h1 => ?_) (fun h1 => ?_)
  · exact False.elim (by omega)
  refine runsL_nil ?_
  refine runs_cond false (ev_mk rfl) (fun h_ => nomatch h_) (fun _ => ?_)
  refine runs_skip ?_
  refine runs_seq ?_
  refine runs_region ?_
  refine rl0 (gn rfl) rfl rfl (step_mv rfl rfl) trivial ?_
  refine rl0 (gn rfl) rfl rfl (step_callc rfl Try.func8 rfl rfl rfl (wk_get (n + 0) 4) (by repeat (first | exact .nil | refine .cons ?_ ?_ | exact VLe.refl _ | exact VLe.own_sl _ _ _ | exact VLe.fl_sl _ _ | exact VLe.nil_sl _ | exact VLe.nil_fl _ | refine VLe.agg ?_))) ⟨by repeat (first | exact upd_eq _ _ _ | refine (upd_ne _ _ _ _ (by omega)).trans ?_ | assumption | exact hd _ (by omega) | exact hd0 _ (by omega) | exact hd1 _ (by omega) | exact hd2 _ (by omega) | exact hd3 _ (by omega) | fail), trivial⟩ ?_
  refine rl0 (gn rfl) rfl rfl (step_mv rfl rfl) trivial ?_
  refine rl0 (gn rfl) rfl rfl (step_extract rfl (ev_mk rfl) rfl) trivial ?_
  refine rl0 (gn rfl) rfl rfl (step_extract rfl (ev_mk rfl) rfl) trivial ?_
  refine rl0 (gn rfl) rfl rfl (step_extract rfl (ev_mk rfl) rfl) trivial ?_
  refine rl1 (gn rfl) rfl rfl (step_allocc (k := n + 1) (zs := (List.replicate 224 (.int .u8 0))) (cs := List.replicate 224 (.sc (.int .u8 0))) rfl F.zero22 (by first | rfl | simp) (by first | rfl | decide | simp) (by first | rfl | simp)) ⟨by repeat (first | exact upd_eq _ _ _ | refine (upd_ne _ _ _ _ (by omega)).trans ?_ | assumption | exact hd _ (by omega) | exact hd0 _ (by omega) | exact hd1 _ (by omega) | exact hd2 _ (by omega) | exact hd3 _ (by omega) | fail), trivial⟩ (by omega) ?_
  refine' rls (gn rfl) rfl (step_storeA rfl rfl rfl rfl F.agg22 ?hm ?hl) ⟨?hb, trivial⟩ ?hk ?_
  case hb => repeat (first | exact upd_eq _ _ _ | refine (upd_ne _ _ _ _ (by omega)).trans ?_ | assumption | exact hd _ (by omega) | exact hd0 _ (by omega) | exact hd1 _ (by omega) | exact hd2 _ (by omega) | exact hd3 _ (by omega) | fail)
  case hm => first | rfl | (simp; done) | (first | (simp; done) | (rw [List.length_map]; exact fillP_len _ _) | (rw [List.length_map]; exact zP_len) | (rw [secV_len, wl_len]; done) | (rw [secV_len, wl_len]; omega) | (rw [List.length_map]; exact padP_len (by simp)))
  case hl => first | rfl | (simp; done) | (first | (simp; done) | (rw [List.length_map]; exact fillP_len _ _) | (rw [List.length_map]; exact zP_len) | (rw [secV_len, wl_len]; done) | (rw [secV_len, wl_len]; omega) | (rw [List.length_map]; exact padP_len (by simp)))
  case hk => omega
  refine rl0 (gn rfl) rfl rfl (step_as rfl rfl) trivial ?_
  refine rl0 (gn rfl) rfl rfl (step_as rfl rfl) trivial ?_
  refine runsL_nil ?_
  refine runs_seq ?_
  refine runs_region ?_
  refine rl0 (gn rfl) rfl rfl (step_mv rfl rfl) trivial ?_
  refine' rl0 (gn rfl) rfl rfl (step_index_g rfl (ev_mk rfl) (ev_mk rfl) Try.underlying24 F.sz45 (by omega) (by omega) ?hl) ⟨?hb, trivial⟩ ?_
  case hb => repeat (first | exact upd_eq _ _ _ | refine (upd_ne _ _ _ _ (by omega)).trans ?_ | assumption | exact hd _ (by omega) | exact hd0 _ (by omega) | exact hd1 _ (by omega) | exact hd2 _ (by omega) | exact hd3 _ (by omega) | fail)
  case hl => first | omega | (first | (simp; done) | (rw [List.length_map]; exact fillP_len _ _) | (rw [List.length_map]; exact zP_len) | (rw [secV_len, wl_len]; done) | (rw [secV_len, wl_len]; omega) | (rw [List.length_map]; exact padP_len (by simp)))
  refine' rl0 (gn rfl) rfl rfl (step_index_arr_g rfl (ev_mk rfl) (ev_mk rfl) Try.underlying45 F.sz5 (by omega) (by omega) ?h0) ⟨?hb, trivial⟩ ?_
  case hb => repeat (first | exact upd_eq _ _ _ | refine (upd_ne _ _ _ _ (by omega)).trans ?_ | assumption | exact hd _ (by omega) | exact hd0 _ (by omega) | exact hd1 _ (by omega) | exact hd2 _ (by omega) | exact hd3 _ (by omega) | fail)
  case h0 => exact secs_ne (by rw [wl_len]; omega)
  refine' rls (gn rfl) rfl (step_store_g1 (i := 2) (c := 60) (r := ((at' (putS (fillP 1 2) 77 4) 2).map bV)) rfl (ev_mk rfl) (ev_mk rfl) F.one5 rfl rfl ?hi ?hr ?hc ?hq) ⟨?hb, trivial⟩ (by omega) ?_
  case hb => repeat (first | exact upd_eq _ _ _ | refine (upd_ne _ _ _ _ (by omega)).trans ?_ | assumption | exact hd _ (by omega) | exact hd0 _ (by omega) | exact hd1 _ (by omega) | exact hd2 _ (by omega) | exact hd3 _ (by omega) | fail)
  case hi => exact wl_at2
  case hr => rw [List.length_map]; exact wl_ok.1 _ wl_mem2
  case hc => omega
  case hq => first | rfl | omega
  refine runsL_nil ?_
  refine runs_seq ?_
  refine runs_region ?_
  refine rl0 (gn rfl) rfl rfl (step_mv rfl rfl) trivial ?_
  refine rl0 (gn rfl) rfl rfl (step_callc rfl Try.func8 rfl rfl rfl (wk_torn (n + 0) 4) (by repeat (first | exact .nil | refine .cons ?_ ?_ | exact VLe.refl _ | exact VLe.own_sl _ _ _ | exact VLe.fl_sl _ _ | exact VLe.nil_sl _ | exact VLe.nil_fl _ | refine VLe.agg ?_))) ⟨by repeat (first | exact upd_eq _ _ _ | refine (upd_ne _ _ _ _ (by omega)).trans ?_ | assumption | exact hd _ (by omega) | exact hd0 _ (by omega) | exact hd1 _ (by omega) | exact hd2 _ (by omega) | exact hd3 _ (by omega) | fail), trivial⟩ ?_
  refine rl0 (gn rfl) rfl rfl (step_mv rfl rfl) trivial ?_
  refine rl0 (gn rfl) rfl rfl (step_extract rfl (ev_mk rfl) rfl) trivial ?_
  refine rl0 (gn rfl) rfl rfl (step_extract rfl (ev_mk rfl) rfl) trivial ?_
  refine rl0 (gn rfl) rfl rfl (step_extract rfl (ev_mk rfl) rfl) trivial ?_
  refine rl1 (gn rfl) rfl rfl (step_allocc (k := n + 2) (zs := (List.replicate 224 (.int .u8 0))) (cs := List.replicate 224 (.sc (.int .u8 0))) rfl F.zero22 (by first | rfl | simp) (by first | rfl | decide | simp) (by first | rfl | simp)) ⟨by repeat (first | exact upd_eq _ _ _ | refine (upd_ne _ _ _ _ (by omega)).trans ?_ | assumption | exact hd _ (by omega) | exact hd0 _ (by omega) | exact hd1 _ (by omega) | exact hd2 _ (by omega) | exact hd3 _ (by omega) | fail), trivial⟩ (by omega) ?_
  refine' rls (gn rfl) rfl (step_storeA rfl rfl rfl rfl F.agg22 ?hm ?hl) ⟨?hb, trivial⟩ ?hk ?_
  case hb => repeat (first | exact upd_eq _ _ _ | refine (upd_ne _ _ _ _ (by omega)).trans ?_ | assumption | exact hd _ (by omega) | exact hd0 _ (by omega) | exact hd1 _ (by omega) | exact hd2 _ (by omega) | exact hd3 _ (by omega) | fail)
  case hm => first | rfl | (simp; done) | (first | (simp; done) | (rw [List.length_map]; exact fillP_len _ _) | (rw [List.length_map]; exact zP_len) | (rw [secV_len, wl_len]; done) | (rw [secV_len, wl_len]; omega) | (rw [List.length_map]; exact padP_len (by simp)))
  case hl => first | rfl | (simp; done) | (first | (simp; done) | (rw [List.length_map]; exact fillP_len _ _) | (rw [List.length_map]; exact zP_len) | (rw [secV_len, wl_len]; done) | (rw [secV_len, wl_len]; omega) | (rw [List.length_map]; exact padP_len (by simp)))
  case hk => omega
  refine rl0 (gn rfl) rfl rfl (step_as rfl rfl) trivial ?_
  refine rl0 (gn rfl) rfl rfl (step_as rfl rfl) trivial ?_
  refine runsL_nil ?_
  refine runs_seq ?_
  refine runs_region ?_
  refine rl2 (gn rfl) rfl rfl (step_callc rfl Try.func12 rfl rfl rfl (new_ok2 10 (by omega) (by omega) (n + 3) (n + 4) (by omega)) (by repeat (first | exact .nil | refine .cons ?_ ?_ | exact VLe.refl _ | exact VLe.own_sl _ _ _ | exact VLe.fl_sl _ _ | exact VLe.nil_sl _ | exact VLe.nil_fl _ | refine VLe.agg ?_))) ⟨by repeat (first | exact upd_eq _ _ _ | refine (upd_ne _ _ _ _ (by omega)).trans ?_ | assumption | exact hd _ (by omega) | exact hd0 _ (by omega) | exact hd1 _ (by omega) | exact hd2 _ (by omega) | exact hd3 _ (by omega) | fail), by repeat (first | exact upd_eq _ _ _ | refine (upd_ne _ _ _ _ (by omega)).trans ?_ | assumption | exact hd _ (by omega) | exact hd0 _ (by omega) | exact hd1 _ (by omega) | exact hd2 _ (by omega) | exact hd3 _ (by omega) | fail), trivial⟩ (by omega) (by omega) ?_
  refine rl0 (gn rfl) rfl rfl (step_mv rfl rfl) trivial ?_
  refine rl0 (gn rfl) rfl rfl (step_extract rfl (ev_mk rfl) rfl) trivial ?_
  refine rl0 (gn rfl) rfl rfl (step_extract rfl (ev_mk rfl) rfl) trivial ?_
  refine rl0 (gn rfl) rfl rfl (step_as rfl rfl) trivial ?_
  refine rl0 (gn rfl) rfl rfl (step_as rfl rfl) trivial ?_
  refine runsL_nil ?_
  refine runs_seq ?_
  refine runs_seq ?_
  refine runs_region ?_
  refine rl0 (gn rfl) rfl rfl (step_mv rfl rfl) trivial ?_
  refine rl0 (gn rfl) rfl rfl (step_eq_nil (b := false) rfl (ev_mk rfl) (ev_mk rfl) Try.underlying31 ⟨_, .inl ⟨.inl ⟨_, _, rfl⟩, rfl⟩, .inl ⟨rfl, rfl⟩⟩) trivial ?_
  refine runsL_nil ?_
  refine runs_cond false (ev_mk rfl) (fun h_ => nomatch h_) (fun _ => ?_)
  refine runs_skip ?_
  refine runs_seq ?_
  refine runs_region ?_
  refine rl0 (gn rfl) rfl rfl (step_mv rfl rfl) trivial ?_
  refine rl0 (gn rfl) rfl rfl (step_callc rfl Try.func14 rfl rfl rfl (filled_c 3 3) (by repeat (first | exact .nil | refine .cons ?_ ?_ | exact VLe.refl _ | exact VLe.own_sl _ _ _ | exact VLe.fl_sl _ _ | exact VLe.nil_sl _ | exact VLe.nil_fl _ | refine VLe.agg ?_))) trivial ?_
  refine rl2 (gn rfl) rfl rfl (step_callc rfl Try.func13 rfl rfl rfl (wk_w (n + 3) (n + 4) (by omega)) (by repeat (first | exact .nil | refine .cons ?_ ?_ | exact VLe.refl _ | exact VLe.own_sl _ _ _ | exact VLe.fl_sl _ _ | exact VLe.nil_sl _ | exact VLe.nil_fl _ | refine VLe.agg ?_))) ⟨by repeat (first | exact upd_eq _ _ _ | refine (upd_ne _ _ _ _ (by omega)).trans ?_ | assumption | exact hd _ (by omega) | exact hd0 _ (by omega) | exact hd1 _ (by omega) | exact hd2 _ (by omega) | exact hd3 _ (by omega) | fail), by repeat (first | exact upd_eq _ _ _ | refine (upd_ne _ _ _ _ (by omega)).trans ?_ | assumption | exact hd _ (by omega) | exact hd0 _ (by omega) | exact hd1 _ (by omega) | exact hd2 _ (by omega) | exact hd3 _ (by omega) | fail), trivial⟩ (by omega) (by omega) ?_
  refine rl0 (gn rfl) rfl rfl (step_as rfl rfl) trivial ?_
  refine runsL_nil ?_
  refine runs_seq ?_
  refine runs_region ?_
  refine rl0 (gn rfl) rfl rfl (step_mv rfl rfl) trivial ?_
  refine rl0 (gn rfl) rfl rfl (step_callc rfl Try.func15 rfl rfl rfl (wk_r (n + 3) (n + 4) (by omega)) (by repeat (first | exact .nil | refine .cons ?_ ?_ | exact VLe.refl _ | exact VLe.own_sl _ _ _ | exact VLe.fl_sl _ _ | exact VLe.nil_sl _ | exact VLe.nil_fl _ | refine VLe.agg ?_))) ⟨by repeat (first | exact upd_eq _ _ _ | refine (upd_ne _ _ _ _ (by omega)).trans ?_ | assumption | exact hd _ (by omega) | exact hd0 _ (by omega) | exact hd1 _ (by omega) | exact hd2 _ (by omega) | exact hd3 _ (by omega) | fail), by repeat (first | exact upd_eq _ _ _ | refine (upd_ne _ _ _ _ (by omega)).trans ?_ | assumption | exact hd _ (by omega) | exact hd0 _ (by omega) | exact hd1 _ (by omega) | exact hd2 _ (by omega) | exact hd3 _ (by omega) | fail), trivial⟩ ?_
  refine rl0 (gn rfl) rfl rfl (step_mv rfl rfl) trivial ?_
  refine rl0 (gn rfl) rfl rfl (step_extract rfl (ev_mk rfl) rfl) trivial ?_
  refine rl0 (gn rfl) rfl rfl (step_extract rfl (ev_mk rfl) rfl) trivial ?_
  refine rl0 (gn rfl) rfl rfl (step_extract rfl (ev_mk rfl) rfl) trivial ?_
  refine rl0 (gn rfl) rfl rfl (step_extract rfl (ev_mk rfl) rfl) trivial ?_
  refine rl1 (gn rfl) rfl rfl (step_allocc (k := n + 5) (zs := (List.replicate 224 (.int .u8 0))) (cs := List.replicate 224 (.sc (.int .u8 0))) rfl F.zero22 (by first | rfl | simp) (by first | rfl | decide | simp) (by first | rfl | simp)) ⟨by repeat (first | exact upd_eq _ _ _ | refine (upd_ne _ _ _ _ (by omega)).trans ?_ | assumption | exact hd _ (by omega) | exact hd0 _ (by omega) | exact hd1 _ (by omega) | exact hd2 _ (by omega) | exact hd3 _ (by omega) | fail), trivial⟩ (by omega) ?_
  refine' rls (gn rfl) rfl (step_storeA rfl rfl rfl rfl F.agg22 ?hm ?hl) ⟨?hb, trivial⟩ ?hk ?_
  case hb => repeat (first | exact upd_eq _ _ _ | refine (upd_ne _ _ _ _ (by omega)).trans ?_ | assumption | exact hd _ (by omega) | exact hd0 _ (by omega) | exact hd1 _ (by omega) | exact hd2 _ (by omega) | exact hd3 _ (by omega) | fail)
  case hm => first | rfl | (simp; done) | (first | (simp; done) | (rw [List.length_map]; exact fillP_len _ _) | (rw [List.length_map]; exact zP_len) | (rw [secV_len, wl_len]; done) | (rw [secV_len, wl_len]; omega) | (rw [List.length_map]; exact padP_len (by simp)))
  case hl => first | rfl | (simp; done) | (first | (simp; done) | (rw [List.length_map]; exact fillP_len _ _) | (rw [List.length_map]; exact zP_len) | (rw [secV_len, wl_len]; done) | (rw [secV_len, wl_len]; omega) | (rw [List.length_map]; exact padP_len (by simp)))
  case hk => omega
  refine rl0 (gn rfl) rfl rfl (step_as rfl rfl) trivial ?_
  refine rl0 (gn rfl) rfl rfl (step_as rfl rfl) trivial ?_
  refine rl0 (gn rfl) rfl rfl (step_as rfl rfl) trivial ?_
  refine runsL_nil ?_
  refine runs_seq ?_
  refine runs_region ?_
  refine rl0 (gn rfl) rfl rfl (step_mv rfl rfl) trivial ?_
  refine rl0 (gn rfl) rfl rfl (step_callc rfl Try.func14 rfl rfl rfl (filled_c 3 3) (by repeat (first | exact .nil | refine .cons ?_ ?_ | exact VLe.refl _ | exact VLe.own_sl _ _ _ | exact VLe.fl_sl _ _ | exact VLe.nil_sl _ | exact VLe.nil_fl _ | refine VLe.agg ?_))) trivial ?_
  refine rl2 (gn rfl) rfl rfl (step_callc rfl Try.func13 rfl rfl rfl (wk_far (n + 3) (n + 4) (by omega)) (by repeat (first | exact .nil | refine .cons ?_ ?_ | exact VLe.refl _ | exact VLe.own_sl _ _ _ | exact VLe.fl_sl _ _ | exact VLe.nil_sl _ | exact VLe.nil_fl _ | refine VLe.agg ?_))) ⟨by repeat (first | exact upd_eq _ _ _ | refine (upd_ne _ _ _ _ (by omega)).trans ?_ | assumption | exact hd _ (by omega) | exact hd0 _ (by omega) | exact hd1 _ (by omega) | exact hd2 _ (by omega) | exact hd3 _ (by omega) | fail), by repeat (first | exact upd_eq _ _ _ | refine (upd_ne _ _ _ _ (by omega)).trans ?_ | assumption | exact hd _ (by omega) | exact hd0 _ (by omega) | exact hd1 _ (by omega) | exact hd2 _ (by omega) | exact hd3 _ (by omega) | fail), trivial⟩ (by omega) (by omega) ?_
  refine rl0 (gn rfl) rfl rfl (step_as rfl rfl) trivial ?_
  refine runsL_nil ?_
  refine runs_seq ?_
  refine runs_region ?_
  refine rl0 (gn rfl) rfl rfl (step_lit rfl Try.underlying48 F.sz5 F.zero5 (by first | rfl | simp) (by first | rfl | simp | decide) (by decide) rfl rfl (by first | (simp [V.cs, V.stor, oneV]; done) | (simp [V.cs, V.stor, oneV])) rfl) trivial ?_
  refine rl0 (gn rfl) rfl rfl (step_callc rfl Try.func20 rfl rfl rfl (of_ok [1, 2, 2] (by simp) (by simp)) (by repeat (first | exact .nil | refine .cons ?_ ?_ | exact VLe.refl _ | exact VLe.own_sl _ _ _ | exact VLe.fl_sl _ _ | exact VLe.nil_sl _ | exact VLe.nil_fl _ | refine VLe.agg ?_))) trivial ?_
  refine rl0 (gn rfl) rfl rfl (step_mv rfl rfl) trivial ?_
  refine rl0 (gn rfl) rfl rfl (step_extract rfl (ev_mk rfl) rfl) trivial ?_
  refine rl0 (gn rfl) rfl rfl (step_extract rfl (ev_mk rfl) rfl) trivial ?_
  refine rl1 (gn rfl) rfl rfl (step_allocc (k := n + 6) (zs := (List.replicate 224 (.int .u8 0))) (cs := List.replicate 224 (.sc (.int .u8 0))) rfl F.zero22 (by first | rfl | simp) (by first | rfl | decide | simp) (by first | rfl | simp)) ⟨by repeat (first | exact upd_eq _ _ _ | refine (upd_ne _ _ _ _ (by omega)).trans ?_ | assumption | exact hd _ (by omega) | exact hd0 _ (by omega) | exact hd1 _ (by omega) | exact hd2 _ (by omega) | exact hd3 _ (by omega) | fail), trivial⟩ (by omega) ?_
  refine' rls (gn rfl) rfl (step_storeA rfl rfl rfl rfl F.agg22 ?hm ?hl) ⟨?hb, trivial⟩ ?hk ?_
  case hb => repeat (first | exact upd_eq _ _ _ | refine (upd_ne _ _ _ _ (by omega)).trans ?_ | assumption | exact hd _ (by omega) | exact hd0 _ (by omega) | exact hd1 _ (by omega) | exact hd2 _ (by omega) | exact hd3 _ (by omega) | fail)
  case hm => first | rfl | (simp; done) | (first | (simp; done) | (rw [List.length_map]; exact fillP_len _ _) | (rw [List.length_map]; exact zP_len) | (rw [secV_len, wl_len]; done) | (rw [secV_len, wl_len]; omega) | (rw [List.length_map]; exact padP_len (by simp)))
  case hl => first | rfl | (simp; done) | (first | (simp; done) | (rw [List.length_map]; exact fillP_len _ _) | (rw [List.length_map]; exact zP_len) | (rw [secV_len, wl_len]; done) | (rw [secV_len, wl_len]; omega) | (rw [List.length_map]; exact padP_len (by simp)))
  case hk => omega
  refine rl0 (gn rfl) rfl rfl (step_as rfl rfl) trivial ?_
  refine runsL_nil ?_
  refine runs_seq ?_
  refine runs_region ?_
  refine rl0 (gn rfl) rfl rfl (step_make_fl_ (len := 225) (zs := [.int .u8 0]) rfl (ev_mk rfl) (ev_mk rfl) Try.underlying48 F.el5 F.zero5 (by first | rfl | simp) (by first | rfl | simp) (by first | rfl | decide | simp [oneV]) (by omega)) trivial ?_
  refine rl0 (gn rfl) rfl rfl (step_callc rfl Try.func20 rfl rfl rfl (of_big (List.replicate 225 0) (by simp) (by simp)) (by repeat (first | exact .nil | refine .cons ?_ ?_ | exact VLe.refl _ | exact VLe.own_sl _ _ _ | exact VLe.fl_sl _ _ | exact VLe.nil_sl _ | exact VLe.nil_fl _ | refine VLe.agg ?_))) trivial ?_
  refine rl0 (gn rfl) rfl rfl (step_mv rfl rfl) trivial ?_
  refine rl0 (gn rfl) rfl rfl (step_extract rfl (ev_mk rfl) rfl) trivial ?_
  refine rl0 (gn rfl) rfl rfl (step_extract rfl (ev_mk rfl) rfl) trivial ?_
  refine rl1 (gn rfl) rfl rfl (step_allocc (k := n + 7) (zs := (List.replicate 224 (.int .u8 0))) (cs := List.replicate 224 (.sc (.int .u8 0))) rfl F.zero22 (by first | rfl | simp) (by first | rfl | decide | simp) (by first | rfl | simp)) ⟨by repeat (first | exact upd_eq _ _ _ | refine (upd_ne _ _ _ _ (by omega)).trans ?_ | assumption | exact hd _ (by omega) | exact hd0 _ (by omega) | exact hd1 _ (by omega) | exact hd2 _ (by omega) | exact hd3 _ (by omega) | fail), trivial⟩ (by omega) ?_
  refine' rls (gn rfl) rfl (step_storeA rfl rfl rfl rfl F.agg22 ?hm ?hl) ⟨?hb, trivial⟩ ?hk ?_
  case hb => repeat (first | exact upd_eq _ _ _ | refine (upd_ne _ _ _ _ (by omega)).trans ?_ | assumption | exact hd _ (by omega) | exact hd0 _ (by omega) | exact hd1 _ (by omega) | exact hd2 _ (by omega) | exact hd3 _ (by omega) | fail)
  case hm => first | rfl | (simp; done) | (first | (simp; done) | (rw [List.length_map]; exact fillP_len _ _) | (rw [List.length_map]; exact zP_len) | (rw [secV_len, wl_len]; done) | (rw [secV_len, wl_len]; omega) | (rw [List.length_map]; exact padP_len (by simp)))
  case hl => first | rfl | (simp; done) | (first | (simp; done) | (rw [List.length_map]; exact fillP_len _ _) | (rw [List.length_map]; exact zP_len) | (rw [secV_len, wl_len]; done) | (rw [secV_len, wl_len]; omega) | (rw [List.length_map]; exact padP_len (by simp)))
  case hk => omega
  refine rl0 (gn rfl) rfl rfl (step_as rfl rfl) trivial ?_
  refine runsL_nil ?_
  refine runs_seq ?_
  refine runs_draw (by kernel_rfl) (by kernel_rfl) (by kernel_rfl) ?_
  refine' dl0 (gn rfl) rfl rfl (step_load_all rfl rfl F.agg22 ?hl) ⟨?hb, trivial⟩ ?_
  case hb => repeat (first | exact upd_eq _ _ _ | refine (upd_ne _ _ _ _ (by omega)).trans ?_ | assumption | exact hd _ (by omega) | exact hd0 _ (by omega) | exact hd1 _ (by omega) | exact hd2 _ (by omega) | exact hd3 _ (by omega) | fail)
  case hl => first | rfl | (simp; done) | (first | (simp; done) | (rw [List.length_map]; exact fillP_len _ _) | (rw [List.length_map]; exact zP_len) | (rw [secV_len, wl_len]; done) | (rw [secV_len, wl_len]; omega) | (rw [List.length_map]; exact padP_len (by simp)))
  refine dl0 (gn rfl) rfl rfl (step_callc rfl Try.func14 rfl rfl rfl (filled_c 1 2) (by repeat (first | exact .nil | refine .cons ?_ ?_ | exact VLe.refl _ | exact VLe.own_sl _ _ _ | exact VLe.fl_sl _ _ | exact VLe.nil_sl _ | exact VLe.nil_fl _ | refine VLe.agg ?_))) trivial ?_
  refine dl0 (gn rfl) rfl rfl (step_eql22 (q := true) rfl rfl rfl (fillP_len 1 2) (fillP_len 1 2) (decide_eq_true rfl)) trivial ?_
  refine dl0 (gn rfl) rfl rfl (step_mv rfl rfl) trivial ?_
  refine dl0 (gy rfl rfl rfl rfl rfl rfl) rfl rfl (step_mv rfl rfl) trivial ?_
  refine dl_eql (gy rfl rfl rfl rfl rfl rfl) rfl rfl rfl rfl rfl (fun h2 => ?_) (fun h2 => ?_)
  rotate_left
  · exact False.elim (by omega)
  refine dl0 (gn rfl) rfl rfl (step_pick rfl (ev_mk rfl) (ev_mk rfl)) trivial ?_
  refine dl0 (gn rfl) rfl rfl (step_mv rfl rfl) trivial ?_
  refine dl0 (gy rfl rfl rfl rfl rfl rfl) rfl rfl (step_mv rfl rfl) trivial ?_
  refine dl0 (gn rfl) rfl rfl (step_pick rfl (ev_mk rfl) (ev_mk rfl)) trivial ?_
  refine dl0 (gn rfl) rfl rfl (step_mv rfl rfl) trivial ?_
  refine dl0 (gy rfl rfl rfl rfl rfl rfl) rfl rfl (step_mv rfl rfl) trivial ?_
  refine dl0 (gy rfl rfl rfl rfl rfl rfl) rfl rfl (step_unOp (c := .bool true) rfl (ev_mk rfl) (fun _ => rfl)) trivial ?_
  refine dl0 (gn rfl) rfl rfl (step_pick rfl (ev_mk rfl) (ev_mk rfl)) trivial ?_
  refine dl0 (gn rfl) rfl rfl (step_mv rfl rfl) trivial ?_
  refine dl0 (gy rfl rfl rfl rfl rfl rfl) rfl rfl (step_mv rfl rfl) trivial ?_
  refine dl_eql (gy rfl rfl rfl rfl rfl rfl) rfl rfl rfl rfl rfl (fun h3 => ?_) (fun h3 => ?_)
  rotate_left
  · exact False.elim (by omega)
  refine dl0 (gn rfl) rfl rfl (step_pick rfl (ev_mk rfl) (ev_mk rfl)) trivial ?_
  refine dl0 (gn rfl) rfl rfl (step_mv rfl rfl) trivial ?_
  refine' dl0 (gy rfl rfl rfl rfl rfl rfl) rfl rfl (step_load_all rfl rfl F.agg22 ?hl) ⟨?hb, trivial⟩ ?_
  case hb => repeat (first | exact upd_eq _ _ _ | refine (upd_ne _ _ _ _ (by omega)).trans ?_ | assumption | exact hd _ (by omega) | exact hd0 _ (by omega) | exact hd1 _ (by omega) | exact hd2 _ (by omega) | exact hd3 _ (by omega) | fail)
  case hl => first | rfl | (simp; done) | (first | (simp; done) | (rw [List.length_map]; exact fillP_len _ _) | (rw [List.length_map]; exact zP_len) | (rw [secV_len, wl_len]; done) | (rw [secV_len, wl_len]; omega) | (rw [List.length_map]; exact padP_len (by simp)))
  refine dl0 (gy rfl rfl rfl rfl rfl rfl) rfl rfl (step_callc rfl Try.func14 rfl rfl rfl (filled_c 3 3) (by repeat (first | exact .nil | refine .cons ?_ ?_ | exact VLe.refl _ | exact VLe.own_sl _ _ _ | exact VLe.fl_sl _ _ | exact VLe.nil_sl _ | exact VLe.nil_fl _ | refine VLe.agg ?_))) trivial ?_
  refine dl0 (gy rfl rfl rfl rfl rfl rfl) rfl rfl (step_eql22 (q := true) rfl rfl rfl (fillP_len 3 3) (fillP_len 3 3) (decide_eq_true rfl)) trivial ?_
  refine dl0 (gn rfl) rfl rfl (step_pick rfl (ev_mk rfl) (ev_mk rfl)) trivial ?_
  refine dl0 (gn rfl) rfl rfl (step_mv rfl rfl) trivial ?_
  refine dl0 (gy rfl rfl rfl rfl rfl rfl) rfl rfl (step_mv rfl rfl) trivial ?_
  refine dl_eql (gy rfl rfl rfl rfl rfl rfl) rfl rfl rfl rfl rfl (fun h4 => ?_) (fun h4 => ?_)
  rotate_left
  · exact False.elim (by omega)
  refine dl0 (gn rfl) rfl rfl (step_pick rfl (ev_mk rfl) (ev_mk rfl)) trivial ?_
  refine dl0 (gn rfl) rfl rfl (step_mv rfl rfl) trivial ?_
  refine dl0 (gy rfl rfl rfl rfl rfl rfl) rfl rfl (step_mv rfl rfl) trivial ?_
  refine dl0 (gn rfl) rfl rfl (step_pick rfl (ev_mk rfl) (ev_mk rfl)) trivial ?_
  refine dl0 (gn rfl) rfl rfl (step_mv rfl rfl) trivial ?_
  refine dl0 (gy rfl rfl rfl rfl rfl rfl) rfl rfl (step_mv rfl rfl) trivial ?_
  refine dl_eql (gy rfl rfl rfl rfl rfl rfl) rfl rfl rfl rfl rfl (fun h5 => ?_) (fun h5 => ?_)
  rotate_left
  · exact False.elim (by omega)
  refine dl0 (gn rfl) rfl rfl (step_pick rfl (ev_mk rfl) (ev_mk rfl)) trivial ?_
  refine dl0 (gn rfl) rfl rfl (step_mv rfl rfl) trivial ?_
  refine dl0 (gy rfl rfl rfl rfl rfl rfl) rfl rfl (step_mv rfl rfl) trivial ?_
  refine dl_eql (gy rfl rfl rfl rfl rfl rfl) rfl rfl rfl rfl rfl (fun h6 => ?_) (fun h6 => ?_)
  rotate_left
  · exact False.elim (by omega)
  refine dl0 (gn rfl) rfl rfl (step_pick rfl (ev_mk rfl) (ev_mk rfl)) trivial ?_
  refine dl0 (gn rfl) rfl rfl (step_mv rfl rfl) trivial ?_
  refine dl0 (gy rfl rfl rfl rfl rfl rfl) rfl rfl (step_mv rfl rfl) trivial ?_
  refine dl0 (gn rfl) rfl rfl (step_pick rfl (ev_mk rfl) (ev_mk rfl)) trivial ?_
  refine dl0 (gn rfl) rfl rfl (step_mv rfl rfl) trivial ?_
  refine dl0 (gy rfl rfl rfl rfl rfl rfl) rfl rfl (step_index_arr rfl (ev_mk rfl) (ev_mk rfl) Try.underlying22 F.sz5 (by omega) (by omega)) trivial ?_
  refine' dl0 (gy rfl rfl rfl rfl rfl rfl) rfl rfl (step_load_one (v := .sc (.int .u8 1)) rfl (ev_mk rfl) F.one5 ?hv) ⟨?hb, trivial⟩ ?_
  case hb => repeat (first | exact upd_eq _ _ _ | refine (upd_ne _ _ _ _ (by omega)).trans ?_ | assumption | exact hd _ (by omega) | exact hd0 _ (by omega) | exact hd1 _ (by omega) | exact hd2 _ (by omega) | exact hd3 _ (by omega) | fail)
  case hv => rfl
  refine dl_eql (gy rfl rfl rfl rfl rfl rfl) rfl rfl rfl rfl rfl (fun h7 => ?_) (fun h7 => ?_)
  rotate_left
  · exact False.elim (by omega)
  refine dl0 (gn rfl) rfl rfl (step_pick rfl (ev_mk rfl) (ev_mk rfl)) trivial ?_
  refine dl0 (gn rfl) rfl rfl (step_mv rfl rfl) trivial ?_
  refine dl0 (gy rfl rfl rfl rfl rfl rfl) rfl rfl (step_index_arr rfl (ev_mk rfl) (ev_mk rfl) Try.underlying22 F.sz5 (by omega) (by omega)) trivial ?_
  refine' dl0 (gy rfl rfl rfl rfl rfl rfl) rfl rfl (step_load_one (v := .sc (.int .u8 0)) rfl (ev_mk rfl) F.one5 ?hv) ⟨?hb, trivial⟩ ?_
  case hb => repeat (first | exact upd_eq _ _ _ | refine (upd_ne _ _ _ _ (by omega)).trans ?_ | assumption | exact hd _ (by omega) | exact hd0 _ (by omega) | exact hd1 _ (by omega) | exact hd2 _ (by omega) | exact hd3 _ (by omega) | fail)
  case hv => rfl
  refine dl_eql (gy rfl rfl rfl rfl rfl rfl) rfl rfl rfl rfl rfl (fun h8 => ?_) (fun h8 => ?_)
  rotate_left
  · exact False.elim (by omega)
  refine dl0 (gn rfl) rfl rfl (step_pick rfl (ev_mk rfl) (ev_mk rfl)) trivial ?_
  refine dl0 (gn rfl) rfl rfl (step_mv rfl rfl) trivial ?_
  refine dl0 (gy rfl rfl rfl rfl rfl rfl) rfl rfl (step_mv rfl rfl) trivial ?_
  refine dl0 (gy rfl rfl rfl rfl rfl rfl) rfl rfl (step_unOp (c := .bool true) rfl (ev_mk rfl) (fun _ => rfl)) trivial ?_
  refine dl0 (gn rfl) rfl rfl (step_pick rfl (ev_mk rfl) (ev_mk rfl)) trivial ?_
  refine dl0 (gn rfl) rfl rfl (step_mv rfl rfl) trivial ?_
  refine dl0 (gy rfl rfl rfl rfl rfl rfl) rfl rfl (step_build_zero rfl rfl Try.underlying22 F.sz5 F.zero22 rfl) trivial ?_
  refine dl0 (gy rfl rfl rfl rfl rfl rfl) rfl rfl (step_callc rfl Try.func19 rfl rfl rfl (blank_c zP zP_len true (by simp)) (by repeat (first | exact .nil | refine .cons ?_ ?_ | exact VLe.refl _ | exact VLe.own_sl _ _ _ | exact VLe.fl_sl _ _ | exact VLe.nil_sl _ | exact VLe.nil_fl _ | refine VLe.agg ?_))) trivial ?_
  refine dl0 (gn rfl) rfl rfl (step_pick rfl (ev_mk rfl) (ev_mk rfl)) trivial ?_
  refine dl0 (gn rfl) rfl rfl (step_mv rfl rfl) trivial ?_
  refine' dl0 (gy rfl rfl rfl rfl rfl rfl) rfl rfl (step_load_all rfl rfl F.agg22 ?hl) ⟨?hb, trivial⟩ ?_
  case hb => repeat (first | exact upd_eq _ _ _ | refine (upd_ne _ _ _ _ (by omega)).trans ?_ | assumption | exact hd _ (by omega) | exact hd0 _ (by omega) | exact hd1 _ (by omega) | exact hd2 _ (by omega) | exact hd3 _ (by omega) | fail)
  case hl => first | rfl | (simp; done) | (first | (simp; done) | (rw [List.length_map]; exact fillP_len _ _) | (rw [List.length_map]; exact zP_len) | (rw [secV_len, wl_len]; done) | (rw [secV_len, wl_len]; omega) | (rw [List.length_map]; exact padP_len (by simp)))
  refine dl0 (gy rfl rfl rfl rfl rfl rfl) rfl rfl (step_callc rfl Try.func19 rfl rfl rfl (blank_c (padP [1, 2, 2]) (padP_len (by simp)) false (by rfl)) (by repeat (first | exact .nil | refine .cons ?_ ?_ | exact VLe.refl _ | exact VLe.own_sl _ _ _ | exact VLe.fl_sl _ _ | exact VLe.nil_sl _ | exact VLe.nil_fl _ | refine VLe.agg ?_))) trivial ?_
  refine dl0 (gy rfl rfl rfl rfl rfl rfl) rfl rfl (step_unOp (c := .bool true) rfl (ev_mk rfl) (fun _ => rfl)) trivial ?_
  refine dl0 (gn rfl) rfl rfl (step_pick rfl (ev_mk rfl) (ev_mk rfl)) trivial ?_
  refine dl0 (gn rfl) rfl rfl (step_mv rfl rfl) trivial ?_
  refine dl0 (gy rfl rfl rfl rfl rfl rfl) rfl rfl (step_callc rfl Try.func17 rfl rfl rfl (where_c 2 1 (by omega) (by omega)) (by repeat (first | exact .nil | refine .cons ?_ ?_ | exact VLe.refl _ | exact VLe.own_sl _ _ _ | exact VLe.fl_sl _ _ | exact VLe.nil_sl _ | exact VLe.nil_fl _ | refine VLe.agg ?_))) trivial ?_
  refine dl_eql (gy rfl rfl rfl rfl rfl rfl) rfl rfl rfl rfl rfl (fun h9 => ?_) (fun h9 => ?_)
  rotate_left
  · exact False.elim (by omega)
  refine dl0 (gn rfl) rfl rfl (step_pick rfl (ev_mk rfl) (ev_mk rfl)) trivial ?_
  refine dl0 (gn rfl) rfl rfl (step_mv rfl rfl) trivial ?_
  refine' dl0 (gy rfl rfl rfl rfl rfl rfl) rfl rfl (step_load_all rfl rfl F.agg22 ?hl) ⟨?hb, trivial⟩ ?_
  case hb => repeat (first | exact upd_eq _ _ _ | refine (upd_ne _ _ _ _ (by omega)).trans ?_ | assumption | exact hd _ (by omega) | exact hd0 _ (by omega) | exact hd1 _ (by omega) | exact hd2 _ (by omega) | exact hd3 _ (by omega) | fail)
  case hl => first | rfl | (simp; done) | (first | (simp; done) | (rw [List.length_map]; exact fillP_len _ _) | (rw [List.length_map]; exact zP_len) | (rw [secV_len, wl_len]; done) | (rw [secV_len, wl_len]; omega) | (rw [List.length_map]; exact padP_len (by simp)))
  refine dl0 (gy rfl rfl rfl rfl rfl rfl) rfl rfl (step_callc rfl Try.func13 rfl rfl rfl (lw_nil (fillP 1 2) (fillP_len 1 2) 0 0 0) (by repeat (first | exact .nil | refine .cons ?_ ?_ | exact VLe.refl _ | exact VLe.own_sl _ _ _ | exact VLe.fl_sl _ _ | exact VLe.nil_sl _ | exact VLe.nil_fl _ | refine VLe.agg ?_))) trivial ?_
  refine dl_eql (gy rfl rfl rfl rfl rfl rfl) rfl rfl rfl rfl rfl (fun h10 => ?_) (fun h10 => ?_)
  rotate_left
  · exact False.elim (by omega)
  refine dl0 (gn rfl) rfl rfl (step_pick rfl (ev_mk rfl) (ev_mk rfl)) trivial ?_
  refine dl0 (gn rfl) rfl rfl (step_as rfl rfl) trivial ?_
  refine dlnil ?_ ?_
  · repeat' (first | exact trivial | exact .inr (ap0 _ _ _ _) | exact .inr (ap2 _ _ _ _) | exact .inr (ap3 _ _ _ _) | exact .inr ⟨by first | (simp; done) | (simp; omega), by first | (simp; done) | (simp; omega)⟩ | exact .inl (by kernel_rfl) | refine ⟨?_, ?_⟩ | fail)
  refine runs_ret ?_
  refine ⟨by first | exact .inr rfl | exact .inl rfl, fin_mkg (rest rfl res0) ?_ ?_ ?_ ?_ ?_⟩
  · (repeat' (first | exact VLe.refl _ | exact VLe.own_sl _ _ _ | exact VLe.fl_sl _ _ | exact VLe.nil_sl _ | exact VLe.nil_fl _ | exact VLes.refl _ | exact .nil | refine VLe.tup ?_ | refine VLe.agg ?_ | refine .cons ?_ ?_ | (rw [Int.natCast_add]; exact VLe.refl _) | exact vle_int (by omega) | exact vle_bool (by first | rfl | assumption | (simp_all; done)) | fail))
  · repeat (first | exact trivial | assumption | omega | exact bd_bs | exact bd_row | exact bd_secs | exact bd_bools | (refine bdR_map (fun _ => ?_)) | (refine bdL_map (fun _ => ?_)) | refine ⟨?_, ?_⟩ | fail)
  · intro k_ hk_; exact ble (by first | exact rfl | (refine (upd_ne _ _ _ _ (by omega)).trans ?_; first | exact rfl | skip; repeat (first | exact rfl | refine (upd_ne _ _ _ _ (by omega)).trans ?_ | assumption | exact hf0 _ (by omega) | exact hf1 _ (by omega) | exact hf2 _ (by omega) | exact hf3 _ (by omega) | exact hf0 _ (by omega) (by first | assumption | omega) | exact hf1 _ (by omega) (by first | assumption | omega) | exact hf2 _ (by omega) (by first | assumption | omega) | exact hf3 _ (by omega) (by first | assumption | omega) | exact hf0 _ (by omega) (by first | assumption | omega) (by first | assumption | omega) | exact hf1 _ (by omega) (by first | assumption | omega) (by first | assumption | omega) | exact hf2 _ (by omega) (by first | assumption | omega) (by first | assumption | omega) | exact hf3 _ (by omega) (by first | assumption | omega) (by first | assumption | omega))) | exact hf0 _ (by omega) | exact hf1 _ (by omega) | exact hf2 _ (by omega) | exact hf3 _ (by omega) | exact hf0 _ (by omega) (by first | assumption | omega) | exact hf1 _ (by omega) (by first | assumption | omega) | exact hf2 _ (by omega) (by first | assumption | omega) | exact hf3 _ (by omega) (by first | assumption | omega) | exact hf0 _ (by omega) (by first | assumption | omega) (by first | assumption | omega) | exact hf1 _ (by omega) (by first | assumption | omega) (by first | assumption | omega) | exact hf2 _ (by omega) (by first | assumption | omega) (by first | assumption | omega) | exact hf3 _ (by omega) (by first | assumption | omega) (by first | assumption | omega))
  · intro p hp; cases hp
  · repeat (first | exact trivial | assumption | omega | exact bd_bs | exact bd_row | exact bd_secs | exact bd_bools | (refine bdR_map (fun _ => ?_)) | (refine bdL_map (fun _ => ?_)) | refine ⟨?_, ?_⟩ | fail)
end Go.Proofs.Ytdcmcmgbnkolbaa
