/- Walks by the logic of values. -/
import Derived.Test.YtggeejghchnpaaaKrVmT
import Derived.Test.YtggeejghchnpaaaKrVmP
import Derived.Test.YtggeejghchnpaaaKrVmV
import Derived.Test.YtggeejghchnpaaaKrVmY
import Derived.Test.YtggeejghchnpaaaKrVa
import Derived.Test.YtggeejghchnpaaaKrVb
import Derived.Test.YtggeejghchnpaaaKrVc
namespace Go.Proofs.Ytggeejghchnpaaa
open Go.Vm
set_option linter.unusedVariables false
set_option linter.unusedSimpArgs false
theorem upF_go {kf : Nat → Int} {f i : Nat} {g : Nat → Nat} (h0 : 0 < i) (h1 : ltK kf (g i) (g ((i - 1) / 2))) (hf : 0 < f) : upF kf f g i = upF kf (f - 1) (sw g i ((i - 1) / 2)) ((i - 1) / 2) := by
  obtain ⟨f, rfl⟩ : ∃ q, f = q + 1 := ⟨f - 1, by omega⟩
  show (if _ then _ else _) = _
  rw [if_pos ⟨h0, h1⟩]; rfl
theorem upF_st {kf : Nat → Int} {f i : Nat} {g : Nat → Nat} (h1 : ¬ (0 < i ∧ ltK kf (g i) (g ((i - 1) / 2)))) : upF kf f g i = g := by
  cases f with
  | zero => rfl
  | succ f => show (if _ then _ else _) = _; rw [if_neg h1]
theorem upF_st0 {kf : Nat → Int} {f i : Nat} {g : Nat → Nat} (h1 : ¬ 0 < i) : upF kf f g i = g := upF_st fun q => h1 q.1
set_option maxRecDepth 100000 in
set_option maxHeartbeats 4000000 in
theorem up_c (kf : Nat → Int) (h : Nat → Nat) (n0 hb gb v L M c i0 : Nat) (hi : i0 < L) (hLM : L ≤ M) (hLb : L < 1000000) (hinj : InjH h L) (hc : ∀ j, j < M → h j < c) (hne : hb ≠ gb) (hhb : hb < n0) (hgb : gb < n0) : Does Try.prog 25 [.ref hb 0, .sc (.int .i64 (i0 : Int))] ([(hb, .cells [.gsl gb v 0 L 1, .sc (.func (.func 8) #[] #[]), .sc (.int .i64 (c : Int))]), (gb, .gcells v 1 (rowsH n0 h M))] ++ famL n0 c (itC kf h L)) ([(gb, .gcells v 1 (rowsH n0 (upF kf i0 h i0) M))] ++ famL n0 c (itC kf (upF kf i0 h i0) L)) (.tup []) := by
  refine does_mkg 40 Try.func25 rfl rfl rfl (fun n B bx hd hpre hup hvs hbx hgx => ?_)
  have hp0 := hpre.1
  have hk0 := lt_cells hd hp0
  have hp1 := hpre.2.1
  have hk1 := lt_gcells hd hp1
  have hu0 := hup.1
  have hfam0 := fam_of hpre.2.2
  have hfn0 := fam_lt hd hfam0
  have hfu0 := uplt_fam hup.2
  refine runs_block ?_
  refine runs_loop (fun (ri_ : Nat) (st_ : Go.Vm.S) => ∃ (i f : Nat) (g : Nat → Nat) (m0 : Nat) (b0 : Nat → Box), (st_ = ⟨mk [(0, .ref hb 0), (1, .sc (.int .i64 (i : Int)))], m0, b0⟩) ∧ (ri_ = 1 + i) ∧ (n + 0 ≤ m0) ∧ (∀ k_, k_ < n → k_ ≠ gb → (k_ < n0 ∨ n0 + c ≤ k_) → b0 k_ = bx k_) ∧ (b0 hb = .cells [.gsl gb v 0 L 1, .sc (.func (.func 8) #[] #[]), .sc (.int .i64 (c : Int))]) ∧ (b0 gb = .gcells v 1 (rowsH n0 g M)) ∧ (i < L ∧ i ≤ f) ∧ (upF kf f g i = upF kf i0 h i0) ∧ (InjH g L) ∧ (∀ j, j < M → g j < c) ∧ (∀ a, a < c → b0 (n0 + a) = .cells (itC kf g L a))) (1 + i0) ⟨_, sle ?_ (Nat.le_refl _), i0, i0, h, _, _, rfl, rfl, ?_⟩ ?_
  · (repeat' (first | exact trivial | refine ⟨⟨_, rfl, ?_⟩, ?_⟩ | fail)); all_goals (repeat' (first | exact VLe.refl _ | exact VLe.own_sl _ _ _ | exact VLe.fl_sl _ _ | exact VLe.nil_sl _ | exact VLe.nil_fl _ | exact VLes.refl _ | exact .nil | refine VLe.tup ?_ | refine VLe.agg ?_ | refine .cons ?_ ?_ | (rw [Int.natCast_add]; exact VLe.refl _) | exact vle_int (by omega) | exact vle_bool (by first | rfl | assumption | (simp_all; done) | fail) | fail))
  · exact ⟨by omega, (fun k_ hk_ e0_ e1_ => by repeat (first | exact rfl | refine uN (by omega) ?_ | assumption | fail)), by first | ((repeat (first | exact uE | assumption | refine uN (by omega) ?_ | fail)); done) | exact tl_eq (by repeat (first | exact uE | assumption | refine uN (by omega) ?_ | fail)) (by first | rfl | (simp [bytesV, beB_len]; done) | (simp [bytesV, beB_len]; omega) | omega), by first | ((repeat (first | exact uE | assumption | refine uN (by omega) ?_ | fail)); done) | exact tl_eq (by repeat (first | exact uE | assumption | refine uN (by omega) ?_ | fail)) (by first | rfl | (simp [bytesV, beB_len]; done) | (simp [bytesV, beB_len]; omega) | omega), ⟨by omega, by omega⟩, rfl, hinj, hc, hfam0⟩
  · rintro _ _ ⟨i, f, g, m0, b0, rfl, rfl, hm0, hf0, hB0_0, hB0_1, hF0_0, hF0_1, hF0_2, hF0_3, hF0_4⟩
    refine runs_know (fun hd0 => ?_)
    refine runs_bump 20 ?_
    simp only at hd0
    have hLM_ := hF0_0.1
    refine runs_seq ?_
    refine runs_seq ?_
    refine runs_region ?_
    refine rl0 (gn rfl) rfl rfl (step_mv rfl rfl) trivial ?_
    refine rl_gtr (gn rfl) rfl rfl rfl rfl rfl (fun h1 => ?_) (fun h1 => ?_)
    · skip
      have hci_ := hF0_3 (i) (by omega)
      have hxi_ : b0 (n0 + g (i)) = .cells [.sc (.int .i64 (kf (g (i)))), .sc (.int .i64 ((g (i) : Nat) : Int)), .sc (.int .i64 (posF g L (g (i))))] := hF0_4 _ hci_
      have hcp_ := hF0_3 ((i - 1) / 2) (by omega)
      have hxp_ : b0 (n0 + g ((i - 1) / 2)) = .cells [.sc (.int .i64 (kf (g ((i - 1) / 2)))), .sc (.int .i64 ((g ((i - 1) / 2) : Nat) : Int)), .sc (.int .i64 (posF g L (g ((i - 1) / 2))))] := hF0_4 _ hcp_
      have hik_ : i ≠ ((i - 1) / 2) := by omega
      have hne_ : g i ≠ g ((i - 1) / 2) := fun e_ => hik_ (hF0_2 _ _ hF0_0.1 (by omega) e_)
      refine rl0 (gn rfl) rfl rfl (step_mv rfl rfl) trivial ?_
      refine rl0 (gy rfl rfl rfl rfl rfl rfl) rfl rfl (step_mv rfl rfl) trivial ?_
      refine rl0 (gy rfl rfl rfl rfl rfl rfl) rfl rfl (step_mv rfl rfl) trivial ?_
      refine rl0 (gy rfl rfl rfl rfl rfl rfl) rfl rfl (step_mv rfl rfl) trivial ?_
      refine rl0 (gy rfl rfl rfl rfl rfl rfl) rfl rfl (step_sub rfl (ev_mk rfl) (ev_mk rfl) (w64 (by omega))) trivial ?_
      refine rl0 (gy rfl rfl rfl rfl rfl rfl) rfl rfl (step_quo rfl (ev_mk rfl) (ev_mk rfl) (by omega) (by omega) (w64 (by omega))) trivial ?_
      refine rl0 (gy rfl rfl rfl rfl rfl rfl) rfl rfl (step_callc rfl Try.func29 rfl rfl rfl (ahead_c kf g n0 hb gb v L M c i ((i - 1) / 2) _ _ hF0_0.1 (by omega) hLM) (by repeat (first | exact .nil | refine .cons ?_ ?_ | exact VLe.refl _ | exact vle_int (by omega) | exact VLe.own_sl _ _ _ | exact VLe.fl_sl _ _ | exact VLe.nil_sl _ | exact VLe.nil_fl _ | refine VLe.agg ?_))) ⟨by repeat (first | exact uE | refine uN (by omega) ?_ | assumption | exact hd _ (by omega) | exact hd0 _ (by omega) | fail), by repeat (first | exact uE | refine uN (by omega) ?_ | assumption | exact hd _ (by omega) | exact hd0 _ (by omega) | fail), by repeat (first | exact uE | refine uN (by omega) ?_ | assumption | exact hd _ (by omega) | exact hd0 _ (by omega) | fail), by repeat (first | exact uE | refine uN (by omega) ?_ | assumption | exact hd _ (by omega) | exact hd0 _ (by omega) | fail), trivial⟩ ?_
      refine rl0 (gn rfl) rfl rfl (step_pick rfl (ev_mk rfl) (ev_mk rfl)) trivial ?_
      refine runsL_nil ?_
      refine runs_cond _ (ev_mk rfl) (fun h2 => ?_) (fun h2 => ?_)
      · skip
        have hgo_ := h2
        refine runs_skip ?_
        refine runs_block ?_
        refine runs_seq ?_
        refine runs_region ?_
        refine rl0 (gn rfl) rfl rfl (step_mv rfl rfl) trivial ?_
        refine rl0 (gn rfl) rfl rfl (step_mv rfl rfl) trivial ?_
        refine rl0 (gn rfl) rfl rfl (step_mv rfl rfl) trivial ?_
        refine rl0 (gn rfl) rfl rfl (step_sub rfl (ev_mk rfl) (ev_mk rfl) (w64 (by omega))) trivial ?_
        refine rl0 (gn rfl) rfl rfl (step_quo rfl (ev_mk rfl) (ev_mk rfl) (by omega) (by omega) (w64 (by omega))) trivial ?_
        refine rl3 (gn rfl) rfl rfl (step_callc rfl Try.func27 rfl rfl rfl (swap_c kf g n0 hb gb v L M c i ((i - 1) / 2) (posF g L (g i)) (posF g L (g ((i - 1) / 2))) hF0_0.1 (by omega) hLM hik_ hne_ hne hhb hgb) (by repeat (first | exact .nil | refine .cons ?_ ?_ | exact VLe.refl _ | exact vle_int (by omega) | exact VLe.own_sl _ _ _ | exact VLe.fl_sl _ _ | exact VLe.nil_sl _ | exact VLe.nil_fl _ | refine VLe.agg ?_))) ⟨by repeat (first | exact uE | refine uN (by omega) ?_ | assumption | exact hd _ (by omega) | exact hd0 _ (by omega) | fail), by repeat (first | exact uE | refine uN (by omega) ?_ | assumption | exact hd _ (by omega) | exact hd0 _ (by omega) | fail), by repeat (first | exact uE | refine uN (by omega) ?_ | assumption | exact hd _ (by omega) | exact hd0 _ (by omega) | fail), by repeat (first | exact uE | refine uN (by omega) ?_ | assumption | exact hd _ (by omega) | exact hd0 _ (by omega) | fail), trivial⟩ (by omega) (by omega) (by omega) ?_
        refine runsL_nil ?_
        refine runs_region ?_
        refine rl0 (gn rfl) rfl rfl (step_mv rfl rfl) trivial ?_
        refine rl0 (gn rfl) rfl rfl (step_sub rfl (ev_mk rfl) (ev_mk rfl) (w64 (by omega))) trivial ?_
        refine rl0 (gn rfl) rfl rfl (step_quo rfl (ev_mk rfl) (ev_mk rfl) (by omega) (by omega) (w64 (by omega))) trivial ?_
        refine rl0 (gn rfl) rfl rfl (step_as rfl rfl) trivial ?_
        refine runsL_nil ?_
        have hq0_ : (((i : Int) - 1) / 2) = (((i - 1) / 2) : Int) := by omega
        refine ⟨_, _, ?_, sle ?_ (Nat.le_refl _), ((i - 1) / 2), (f - 1), (sw g i ((i - 1) / 2)), _, _, rfl, rfl, by omega, (fun k_ hk_ e0_ e1_ => by repeat (first | exact hf0 k_ hk_ e0_ e1_ | refine uN (by first | assumption | omega) ?_ | fail)), by first | ((repeat (first | exact uE | assumption | refine uN (by omega) ?_ | fail)); done) | exact tl_eq (by repeat (first | exact uE | assumption | refine uN (by omega) ?_ | fail)) (by first | rfl | (simp [bytesV, beB_len]; done) | (simp [bytesV, beB_len]; omega) | omega) | (rw [← hq0_]; (repeat (first | exact uE | assumption | refine uN (by omega) ?_ | fail)); done), by first | ((repeat (first | exact uE | assumption | refine uN (by omega) ?_ | fail)); done) | exact tl_eq (by repeat (first | exact uE | assumption | refine uN (by omega) ?_ | fail)) (by first | rfl | (simp [bytesV, beB_len]; done) | (simp [bytesV, beB_len]; omega) | omega) | (rw [← hq0_]; (repeat (first | exact uE | assumption | refine uN (by omega) ?_ | fail)); done), ⟨by omega, by omega⟩, (by rw [← hF0_1]; exact (upF_go (by omega) (of_decide_eq_true hgo_) (by omega)).symm), sw_inj hF0_0.1 (by omega) hF0_2, sw_lt (by omega) (by omega) hF0_3, fam_sw (w := fun a => .sc (.int .i64 (kf (a)))) hF0_4 hgb hF0_2 hF0_0.1 (by omega) hne_⟩
        · omega
        · (repeat' (first | exact trivial | refine ⟨⟨_, rfl, ?_⟩, ?_⟩ | fail)); all_goals (repeat' (first | exact VLe.refl _ | exact VLe.own_sl _ _ _ | exact VLe.fl_sl _ _ | exact VLe.nil_sl _ | exact VLe.nil_fl _ | exact VLes.refl _ | exact .nil | refine VLe.tup ?_ | refine VLe.agg ?_ | refine .cons ?_ ?_ | (rw [Int.natCast_add]; exact VLe.refl _) | exact vle_int (by omega) | exact vle_bool (by first | rfl | assumption | (simp_all; done) | fail) | (rw [← hq0_]; exact VLe.refl _) | (rw [hq0_]; exact VLe.refl _) | fail))
      · skip
        have hst_ := h2
        refine runs_exit ?_
        have hup_ : upF kf i0 h i0 = g := (by rw [← hF0_1]; first | exact upF_st0 (by omega) | exact upF_st (fun q_ => of_decide_eq_false hst_ q_.2))
        rw [hup_]
        refine ⟨by first | exact .inr rfl | exact .inl rfl, fin_fam res0 ?_ ?_ ?_ ?_ ?_ ?_ ?_⟩
        · (repeat' (first | exact VLe.refl _ | exact VLe.own_sl _ _ _ | exact VLe.fl_sl _ _ | exact VLe.nil_sl _ | exact VLe.nil_fl _ | exact VLes.refl _ | exact .nil | refine VLe.tup ?_ | refine VLe.agg ?_ | refine .cons ?_ ?_ | (rw [Int.natCast_add]; exact VLe.refl _) | exact vle_int (by omega) | exact vle_bool (by first | rfl | assumption | (simp_all; done) | fail) | fail))
        · first | ((repeat (first | exact trivial | exact rows_bd hF0_3 hfn0 | assumption | omega | refine ⟨?_, ?_⟩ | fail)); done) | (repeat (first | exact trivial | assumption | omega | (refine bdR_map (fun _ => ?_)) | (refine bdL_map (fun _ => ?_)) | refine ⟨?_, ?_⟩ | fail))
        · exact hF0_4
        · intro k_ hk_ hq_; simp only [upds]; by_cases e_ : k_ = gb; (focus subst e_; refine bl_eq ?_; first | (refine ble ?_; (repeat (first | exact uE | assumption | refine uN (by omega) ?_ | fail)); done) | (refine' blec ?hb ?hl; (case hb => repeat (first | exact uE | assumption | refine uN (by omega) ?_ | fail)); (case hl => first | exact VLes.refl _ | ((repeat' (first | exact VLe.refl _ | exact VLe.own_sl _ _ _ | exact VLe.fl_sl _ _ | exact VLe.nil_sl _ | exact VLe.nil_fl _ | exact VLes.refl _ | exact .nil | refine VLe.tup ?_ | refine VLe.agg ?_ | refine .cons ?_ ?_ | (rw [Int.natCast_add]; exact VLe.refl _) | exact vle_int (by omega) | exact vle_bool (by first | rfl | assumption | (simp_all; done) | fail) | fail)); done)))); refine bl_ne e_ ?_; exact ble (by repeat (first | exact rfl | refine uN (by omega) ?_ | assumption | exact hf0 _ (by omega) (by first | assumption | omega) (by first | assumption | omega) | fail))
        · intro p hp cs hcs; simp only [List.mem_cons, List.not_mem_nil, or_false] at hp; (first | (cases hp; done) | (rcases hp with rfl)) <;> (first | (cases hcs; done) | (cases hcs; (first | ((repeat (first | exact trivial | exact rows_bd hF0_3 hfn0 | assumption | omega | refine ⟨?_, ?_⟩ | fail)); done) | (repeat (first | exact trivial | assumption | omega | (refine bdR_map (fun _ => ?_)) | (refine bdL_map (fun _ => ?_)) | refine ⟨?_, ?_⟩ | fail)))))
        · intro a_ ha_; exact ⟨trivial, trivial, trivial, trivial⟩
        · first | ((repeat (first | exact trivial | exact rows_bd hF0_3 hfn0 | assumption | omega | refine ⟨?_, ?_⟩ | fail)); done) | (repeat (first | exact trivial | assumption | omega | (refine bdR_map (fun _ => ?_)) | (refine bdL_map (fun _ => ?_)) | refine ⟨?_, ?_⟩ | fail))
    · skip
      refine rl0 (gn rfl) rfl rfl (step_mv rfl rfl) trivial ?_
      refine rlk rfl rfl rfl rfl rfl (ngb rfl rfl) rfl rfl ?_
      refine rlk rfl rfl rfl rfl rfl (ngb rfl rfl) rfl rfl ?_
      refine rlk rfl rfl rfl rfl rfl (ngb rfl rfl) rfl rfl ?_
      refine rlk rfl rfl rfl rfl rfl (ngb rfl rfl) rfl rfl ?_
      refine rlk rfl rfl rfl rfl rfl (ngb rfl rfl) rfl rfl ?_
      refine rlk rfl rfl rfl rfl rfl (ngb rfl rfl) rfl rfl ?_
      refine rl0 (gn rfl) rfl rfl (step_pick rfl (ev_mk rfl) (ev_mk rfl)) trivial ?_
      refine runsL_nil ?_
      refine runs_cond false (ev_mk rfl) (fun h_ => nomatch h_) (fun _ => ?_)
      refine runs_exit ?_
      have hup_ : upF kf i0 h i0 = g := (by rw [← hF0_1]; first | exact upF_st0 (by omega) | exact upF_st (fun q_ => of_decide_eq_false hst_ q_.2))
      rw [hup_]
      refine ⟨by first | exact .inr rfl | exact .inl rfl, fin_fam res0 ?_ ?_ ?_ ?_ ?_ ?_ ?_⟩
      · (repeat' (first | exact VLe.refl _ | exact VLe.own_sl _ _ _ | exact VLe.fl_sl _ _ | exact VLe.nil_sl _ | exact VLe.nil_fl _ | exact VLes.refl _ | exact .nil | refine VLe.tup ?_ | refine VLe.agg ?_ | refine .cons ?_ ?_ | (rw [Int.natCast_add]; exact VLe.refl _) | exact vle_int (by omega) | exact vle_bool (by first | rfl | assumption | (simp_all; done) | fail) | fail))
      · first | ((repeat (first | exact trivial | exact rows_bd hF0_3 hfn0 | assumption | omega | refine ⟨?_, ?_⟩ | fail)); done) | (repeat (first | exact trivial | assumption | omega | (refine bdR_map (fun _ => ?_)) | (refine bdL_map (fun _ => ?_)) | refine ⟨?_, ?_⟩ | fail))
      · exact hF0_4
      · intro k_ hk_ hq_; simp only [upds]; by_cases e_ : k_ = gb; (focus subst e_; refine bl_eq ?_; first | (refine ble ?_; (repeat (first | exact uE | assumption | refine uN (by omega) ?_ | fail)); done) | (refine' blec ?hb ?hl; (case hb => repeat (first | exact uE | assumption | refine uN (by omega) ?_ | fail)); (case hl => first | exact VLes.refl _ | ((repeat' (first | exact VLe.refl _ | exact VLe.own_sl _ _ _ | exact VLe.fl_sl _ _ | exact VLe.nil_sl _ | exact VLe.nil_fl _ | exact VLes.refl _ | exact .nil | refine VLe.tup ?_ | refine VLe.agg ?_ | refine .cons ?_ ?_ | (rw [Int.natCast_add]; exact VLe.refl _) | exact vle_int (by omega) | exact vle_bool (by first | rfl | assumption | (simp_all; done) | fail) | fail)); done)))); refine bl_ne e_ ?_; exact ble (by repeat (first | exact rfl | refine uN (by omega) ?_ | assumption | exact hf0 _ (by omega) (by first | assumption | omega) (by first | assumption | omega) | fail))
      · intro p hp cs hcs; simp only [List.mem_cons, List.not_mem_nil, or_false] at hp; (first | (cases hp; done) | (rcases hp with rfl)) <;> (first | (cases hcs; done) | (cases hcs; (first | ((repeat (first | exact trivial | exact rows_bd hF0_3 hfn0 | assumption | omega | refine ⟨?_, ?_⟩ | fail)); done) | (repeat (first | exact trivial | assumption | omega | (refine bdR_map (fun _ => ?_)) | (refine bdL_map (fun _ => ?_)) | refine ⟨?_, ?_⟩ | fail)))))
      · intro a_ ha_; exact ⟨trivial, trivial, trivial, trivial⟩
      · first | ((repeat (first | exact trivial | exact rows_bd hF0_3 hfn0 | assumption | omega | refine ⟨?_, ?_⟩ | fail)); done) | (repeat (first | exact trivial | assumption | omega | (refine bdR_map (fun _ => ?_)) | (refine bdL_map (fun _ => ?_)) | refine ⟨?_, ?_⟩ | fail))
end Go.Proofs.Ytggeejghchnpaaa
