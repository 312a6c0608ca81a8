/- Walks by the logic of values. -/
import Derived.Test.YtggeejghchnpaaaKrVmT
import Derived.Test.YtggeejghchnpaaaKrVmP
import Derived.Test.YtggeejghchnpaaaKrVmV
import Derived.Test.YtggeejghchnpaaaKrVmY
import Derived.Test.YtggeejghchnpaaaKrVa
import Derived.Test.YtggeejghchnpaaaKrVb
import Derived.Test.YtggeejghchnpaaaKrVc
namespace Go.Proofs.Ytggeejghchnpaaa
open Go.Vm
set_option linter.unusedVariables false
set_option linter.unusedSimpArgs false
def bstA (kf : Nat → Int) (g : Nat → Nat) (L i k b : Nat) : Prop := (k = 2 * i + 1 ∧ b = i) ∨ (k = 2 * i + 2 ∧ b = bst1 kf g L i) ∨ (k = 2 * i + 3 ∧ b = bst kf g L i)
theorem bstA_nx {kf : Nat → Int} {g : Nat → Nat} {L i k b b' : Nat} (h : bstA kf g L i k b) (hk : k < L) (h2 : k ≤ 2 * i + 2) (hb : b' = if ltK kf (g k) (g b) then k else b) : bstA kf g L i (k + 1) b' := by
  rcases h with ⟨rfl, rfl⟩ | ⟨rfl, rfl⟩ | ⟨rfl, rfl⟩
  · refine .inr (.inl ⟨rfl, ?_⟩)
    rw [hb]; unfold bst1
    split
    · rename_i q; rw [if_pos ⟨hk, q⟩]
    · rename_i q; rw [if_neg fun z => q z.2]
  · refine .inr (.inr ⟨rfl, ?_⟩)
    rw [hb]; unfold bst
    split
    · rename_i q; rw [if_pos ⟨hk, q⟩]
    · rename_i q; rw [if_neg fun z => q z.2]
  · omega
theorem bstA_end {kf : Nat → Int} {g : Nat → Nat} {L i k b : Nat} (h : bstA kf g L i k b) (hk : ¬ k < L ∨ ¬ k ≤ 2 * i + 2) : b = bst kf g L i := by
  rcases h with ⟨rfl, rfl⟩ | ⟨rfl, rfl⟩ | ⟨rfl, rfl⟩
  · unfold bst bst1
    rw [if_neg (by omega), if_neg (by omega)]
  · unfold bst
    rw [if_neg (by omega)]
  · rfl
theorem dnF_go {kf : Nat → Int} {L f i b : Nat} {g : Nat → Nat} (hb : b = bst kf g L i) (h1 : b ≠ i) (hf : 0 < f) : dnF kf L f g i = dnF kf L (f - 1) (sw g i b) b := by
  obtain ⟨f, rfl⟩ : ∃ q, f = q + 1 := ⟨f - 1, by omega⟩
  show (if _ then _ else _) = _
  rw [if_neg (by rw [← hb]; exact h1), ← hb]; rfl
theorem dnF_st {kf : Nat → Int} {L f i : Nat} {g : Nat → Nat} (hb : i = bst kf g L i) : dnF kf L f g i = g := by
  cases f with
  | zero => rfl
  | succ f => show (if _ then _ else _) = _; rw [if_pos hb.symm]
theorem bst_up {kf : Nat → Int} {h : Nat → Nat} {L i : Nat} (hL : i < L) : i ≤ bst kf h L i := by
  rcases (bst_ok (kf := kf) (h := h) hL).1 with e | e <;> omega
set_option maxRecDepth 100000 in
set_option maxHeartbeats 4000000 in
theorem down_c (kf : Nat → Int) (h : Nat → Nat) (n0 hb gb v L M c i0 : Nat) (hi : i0 < L) (hLM : L ≤ M) (hLb : L < 1000000) (hinj : InjH h L) (hc : ∀ j, j < M → h j < c) (hne : hb ≠ gb) (hhb : hb < n0) (hgb : gb < n0) : Does Try.prog 28 [.ref hb 0, .sc (.int .i64 (i0 : Int))] ([(hb, .cells [.gsl gb v 0 L 1, .sc (.func (.func 8) #[] #[]), .sc (.int .i64 (c : Int))]), (gb, .gcells v 1 (rowsH n0 h M))] ++ famL n0 c (itC kf h L)) ([(gb, .gcells v 1 (rowsH n0 (dnF kf L L h i0) M))] ++ famL n0 c (itC kf (dnF kf L L h i0) L)) (.tup []) := by
  refine does_mkg 40 Try.func28 rfl rfl rfl (fun n B bx hd hpre hup hvs hbx hgx => ?_)
  have hp0 := hpre.1
  have hk0 := lt_cells hd hp0
  have hp1 := hpre.2.1
  have hk1 := lt_gcells hd hp1
  have hu0 := hup.1
  have hfam0 := fam_of hpre.2.2
  have hfn0 := fam_lt hd hfam0
  have hfu0 := uplt_fam hup.2
  refine runs_block ?_
  refine runs_loop (fun (ri_ : Nat) (st_ : Go.Vm.S) => ∃ (i f : Nat) (g : Nat → Nat) (m0 : Nat) (b0 : Nat → Box), (st_ = ⟨mk [(0, .ref hb 0), (1, .sc (.int .i64 (i : Int)))], m0, b0⟩) ∧ (ri_ = 1 + (L - i)) ∧ (n + 0 ≤ m0) ∧ (∀ k_, k_ < n → k_ ≠ gb → (k_ < n0 ∨ n0 + c ≤ k_) → b0 k_ = bx k_) ∧ (b0 hb = .cells [.gsl gb v 0 L 1, .sc (.func (.func 8) #[] #[]), .sc (.int .i64 (c : Int))]) ∧ (b0 gb = .gcells v 1 (rowsH n0 g M)) ∧ (i < L ∧ L ≤ i + f) ∧ (dnF kf L f g i = dnF kf L L h i0) ∧ (InjH g L) ∧ (∀ j, j < M → g j < c) ∧ (∀ a, a < c → b0 (n0 + a) = .cells (itC kf g L a))) (1 + (L - i0)) ⟨_, sle ?_ (Nat.le_refl _), i0, L, h, _, _, rfl, rfl, ?_⟩ ?_
  · (repeat' (first | exact trivial | refine ⟨⟨_, rfl, ?_⟩, ?_⟩ | fail)); all_goals (repeat' (first | exact VLe.refl _ | exact VLe.own_sl _ _ _ | exact VLe.fl_sl _ _ | exact VLe.nil_sl _ | exact VLe.nil_fl _ | exact VLes.refl _ | exact .nil | refine VLe.tup ?_ | refine VLe.agg ?_ | refine .cons ?_ ?_ | (rw [Int.natCast_add]; exact VLe.refl _) | exact vle_int (by omega) | exact vle_bool (by first | rfl | assumption | (simp_all; done) | fail) | fail))
  · exact ⟨by omega, (fun k_ hk_ e0_ e1_ => by repeat (first | exact rfl | refine uN (by omega) ?_ | assumption | fail)), by first | ((repeat (first | exact uE | assumption | refine uN (by omega) ?_ | fail)); done) | exact tl_eq (by repeat (first | exact uE | assumption | refine uN (by omega) ?_ | fail)) (by first | rfl | (simp [bytesV, beB_len]; done) | (simp [bytesV, beB_len]; omega) | omega), by first | ((repeat (first | exact uE | assumption | refine uN (by omega) ?_ | fail)); done) | exact tl_eq (by repeat (first | exact uE | assumption | refine uN (by omega) ?_ | fail)) (by first | rfl | (simp [bytesV, beB_len]; done) | (simp [bytesV, beB_len]; omega) | omega), ⟨by omega, by omega⟩, rfl, hinj, hc, hfam0⟩
  · rintro _ _ ⟨i, f, g, m0, b0, rfl, rfl, hm0, hf0, hB0_0, hB0_1, hF0_0, hF0_1, hF0_2, hF0_3, hF0_4⟩
    refine runs_know (fun hd0 => ?_)
    refine runs_bump 20 ?_
    simp only at hd0
    have hLM_ := hF0_0.1
    refine runs_block ?_
    refine runs_seq ?_
    refine runs_region ?_
    refine rl0 (gn rfl) rfl rfl (step_mv rfl rfl) trivial ?_
    refine rl0 (gn rfl) rfl rfl (step_as rfl rfl) trivial ?_
    refine runsL_nil ?_
    refine runs_seq ?_
    refine runs_seq ?_
    refine runs_region ?_
    refine rl0 (gn rfl) rfl rfl (step_mv rfl rfl) trivial ?_
    refine rl0 (gn rfl) rfl rfl (step_mul rfl (ev_mk rfl) (ev_mk rfl) (w64 (by omega))) trivial ?_
    refine rl0 (gn rfl) rfl rfl (step_add rfl (ev_mk rfl) (ev_mk rfl) (w64 (by omega))) trivial ?_
    refine rl0 (gn rfl) rfl rfl (step_as rfl rfl) trivial ?_
    refine runsL_nil ?_
    refine runs_block ?_
    have hs0_ : ((2 * (i : Int)) + 1) = ((2 * i + 1) : Int) := by omega
    refine runs_loop (fun (ri_ : Nat) (st_ : Go.Vm.S) => ∃ (k best : Nat) (m1 : Nat) (b1 : Nat → Box), (st_ = ⟨mk [(0, .ref hb 0), (1, .sc (.int .i64 (i : Int))), (4, .sc (.int .i64 (best : Int))), (5, .sc (.int .i64 (k : Int))), (6, .sc (.int .i64 (i : Int))), (7, .sc (.int .i64 (i : Int))), (8, .sc (.int .i64 (2 * (i : Int)))), (9, .sc (.int .i64 ((2 * (i : Int)) + 1)))], m1, b1⟩) ∧ (ri_ = 1 + (2 * i + 4 - k)) ∧ (m0 + 0 ≤ m1) ∧ (∀ k_, k_ < n → k_ ≠ gb → (k_ < n0 ∨ n0 + c ≤ k_) → b1 k_ = bx k_) ∧ (b1 hb = .cells [.gsl gb v 0 L 1, .sc (.func (.func 8) #[] #[]), .sc (.int .i64 (c : Int))]) ∧ (b1 gb = .gcells v 1 (rowsH n0 g M)) ∧ (bstA kf g L i k best) ∧ (best < L) ∧ (∀ a, a < c → b1 (n0 + a) = .cells (itC kf g L a))) (1 + (2 * i + 4 - (2 * i + 1))) ⟨_, sle ?_ (Nat.le_refl _), (2 * i + 1), i, _, _, rfl, rfl, ?_⟩ ?_
    · (repeat' (first | exact trivial | refine ⟨⟨_, rfl, ?_⟩, ?_⟩ | fail)); all_goals (repeat' (first | exact VLe.refl _ | exact VLe.own_sl _ _ _ | exact VLe.fl_sl _ _ | exact VLe.nil_sl _ | exact VLe.nil_fl _ | exact VLes.refl _ | exact .nil | refine VLe.tup ?_ | refine VLe.agg ?_ | refine .cons ?_ ?_ | (rw [Int.natCast_add]; exact VLe.refl _) | exact vle_int (by omega) | exact vle_bool (by first | rfl | assumption | (simp_all; done) | fail) | (rw [← hs0_]; exact VLe.refl _) | (rw [hs0_]; exact VLe.refl _) | fail))
    · exact ⟨by omega, (fun k_ hk_ e0_ e1_ => by repeat (first | exact rfl | refine uN (by omega) ?_ | assumption | exact hf0 _ (by omega) (by first | assumption | omega) (by first | assumption | omega) | fail)), by first | ((repeat (first | exact uE | assumption | refine uN (by omega) ?_ | fail)); done) | exact tl_eq (by repeat (first | exact uE | assumption | refine uN (by omega) ?_ | fail)) (by first | rfl | (simp [bytesV, beB_len]; done) | (simp [bytesV, beB_len]; omega) | omega) | (rw [← hs0_]; (repeat (first | exact uE | assumption | refine uN (by omega) ?_ | fail)); done), by first | ((repeat (first | exact uE | assumption | refine uN (by omega) ?_ | fail)); done) | exact tl_eq (by repeat (first | exact uE | assumption | refine uN (by omega) ?_ | fail)) (by first | rfl | (simp [bytesV, beB_len]; done) | (simp [bytesV, beB_len]; omega) | omega) | (rw [← hs0_]; (repeat (first | exact uE | assumption | refine uN (by omega) ?_ | fail)); done), (.inl ⟨rfl, rfl⟩), (by omega), hF0_4⟩
    · rintro _ _ ⟨k, best, m1, b1, rfl, rfl, hm1, hf1, hB1_0, hB1_1, hF1_0, hF1_1, hF1_2⟩
      refine runs_know (fun hd1 => ?_)
      refine runs_bump 20 ?_
      simp only at hd1
      have hbi_ : k ≤ 2 * i + 3 := by rcases hF1_0 with ⟨q_, _⟩ | ⟨q_, _⟩ | ⟨q_, _⟩ <;> omega
      refine runs_seq ?_
      refine runs_seq ?_
      refine runs_region ?_
      refine rl0 (gn rfl) rfl rfl (step_mv rfl rfl) trivial ?_
      refine rl0 (gn rfl) rfl rfl (step_mv rfl rfl) trivial ?_
      refine rl0 (gn rfl) rfl rfl (step_mul rfl (ev_mk rfl) (ev_mk rfl) (w64 (by omega))) trivial ?_
      refine rl0 (gn rfl) rfl rfl (step_add rfl (ev_mk rfl) (ev_mk rfl) (w64 (by omega))) trivial ?_
      refine rl_leq (gn rfl) rfl rfl rfl rfl rfl (fun h1 => ?_) (fun h1 => ?_)
      · skip
        refine rl0 (gn rfl) rfl rfl (step_mv rfl rfl) trivial ?_
        refine rl0 (gy rfl rfl rfl rfl rfl rfl) rfl rfl (step_mv rfl rfl) trivial ?_
        refine rl0 (gy rfl rfl rfl rfl rfl rfl) rfl rfl (step_mv rfl rfl) trivial ?_
        refine rl0 (gy rfl rfl rfl rfl rfl rfl) rfl rfl (step_nilCheck rfl (ev_mk rfl) (.inl ⟨_, _, rfl⟩)) trivial ?_
        refine rl0 (gy rfl rfl rfl rfl rfl rfl) rfl rfl (step_fieldAddr (off := 0) rfl (ev_mk rfl) Try.underlying57 rfl F.sz28 rfl) trivial ?_
        refine' rl0 (gy rfl rfl rfl rfl rfl rfl) rfl rfl (step_load_one rfl (ev_mk rfl) F.one28 ?hv) ⟨?hb, trivial⟩ ?_
        case hb => repeat (first | exact uE | refine uN (by omega) ?_ | assumption | exact hd _ (by omega) | exact hd0 _ (by omega) | exact hd1 _ (by omega) | fail)
        case hv => rfl
        refine rl0 (gy rfl rfl rfl rfl rfl rfl) rfl rfl (step_len_g rfl rfl (ev_mk rfl) Try.underlying28) trivial ?_
        refine rl_lss (gy rfl rfl rfl rfl rfl rfl) rfl rfl rfl rfl rfl (fun h2 => ?_) (fun h2 => ?_)
        · skip
          have hck_ := hF0_3 (k) (by omega)
          have hxk_ : b1 (n0 + g (k)) = .cells [.sc (.int .i64 (kf (g (k)))), .sc (.int .i64 ((g (k) : Nat) : Int)), .sc (.int .i64 (posF g L (g (k))))] := hF1_2 _ hck_
          have hcb_ := hF0_3 (best) (by omega)
          have hxb_ : b1 (n0 + g (best)) = .cells [.sc (.int .i64 (kf (g (best)))), .sc (.int .i64 ((g (best) : Nat) : Int)), .sc (.int .i64 (posF g L (g (best))))] := hF1_2 _ hcb_
          refine rl0 (gn rfl) rfl rfl (step_pick rfl (ev_mk rfl) (ev_mk rfl)) trivial ?_
          refine runsL_nil ?_
          refine runs_cond true (ev_mk rfl) (fun _ => ?_) (fun h_ => nomatch h_)
          refine runs_skip ?_
          refine runs_seq ?_
          refine runs_block ?_
          refine runs_seq ?_
          refine runs_region ?_
          refine rl0 (gn rfl) rfl rfl (step_mv rfl rfl) trivial ?_
          refine rl0 (gn rfl) rfl rfl (step_mv rfl rfl) trivial ?_
          refine rl0 (gn rfl) rfl rfl (step_mv rfl rfl) trivial ?_
          refine rl0 (gn rfl) rfl rfl (step_callc rfl Try.func29 rfl rfl rfl (ahead_c kf g n0 hb gb v L M c k best _ _ (by omega) (by omega) hLM) (by repeat (first | exact .nil | refine .cons ?_ ?_ | exact VLe.refl _ | exact vle_int (by omega) | exact VLe.own_sl _ _ _ | exact VLe.fl_sl _ _ | exact VLe.nil_sl _ | exact VLe.nil_fl _ | refine VLe.agg ?_))) ⟨by repeat (first | exact uE | refine uN (by omega) ?_ | assumption | exact hd _ (by omega) | exact hd0 _ (by omega) | exact hd1 _ (by omega) | fail), by repeat (first | exact uE | refine uN (by omega) ?_ | assumption | exact hd _ (by omega) | exact hd0 _ (by omega) | exact hd1 _ (by omega) | fail), by repeat (first | exact uE | refine uN (by omega) ?_ | assumption | exact hd _ (by omega) | exact hd0 _ (by omega) | exact hd1 _ (by omega) | fail), by repeat (first | exact uE | refine uN (by omega) ?_ | assumption | exact hd _ (by omega) | exact hd0 _ (by omega) | exact hd1 _ (by omega) | fail), trivial⟩ ?_
          refine runsL_nil ?_
          refine runs_cond _ (ev_mk rfl) (fun h3 => ?_) (fun h3 => ?_)
          · skip
            have hnx_ : k = if ltK kf (g k) (g best) then k else best := (if_pos (of_decide_eq_true h3)).symm
            refine runs_region ?_
            refine rl0 (gn rfl) rfl rfl (step_mv rfl rfl) trivial ?_
            refine rl0 (gn rfl) rfl rfl (step_as rfl rfl) trivial ?_
            refine runsL_nil ?_
            refine runs_region ?_
            refine rl0 (gn rfl) rfl rfl (step_mv rfl rfl) trivial ?_
            refine rl0 (gn rfl) rfl rfl (step_add rfl (ev_mk rfl) (ev_mk rfl) (w64 (by omega))) trivial ?_
            refine rl0 (gn rfl) rfl rfl (step_as rfl rfl) trivial ?_
            refine runsL_nil ?_
            have hq0_ : ((k : Int) + 1) = ((k + 1) : Int) := by omega
            refine ⟨_, _, ?_, sle ?_ (Nat.le_refl _), (k + 1), k, _, _, rfl, rfl, by omega, (fun k_ hk_ e0_ e1_ => by repeat (first | exact hf1 k_ hk_ e0_ e1_ | exact hf0 k_ hk_ | exact hf0 k_ hk_ e0_ e1_ | refine uN (by first | assumption | omega) ?_ | fail)), by first | ((repeat (first | exact uE | assumption | refine uN (by omega) ?_ | fail)); done) | exact tl_eq (by repeat (first | exact uE | assumption | refine uN (by omega) ?_ | fail)) (by first | rfl | (simp [bytesV, beB_len]; done) | (simp [bytesV, beB_len]; omega) | omega) | (rw [← hq0_]; (repeat (first | exact uE | assumption | refine uN (by omega) ?_ | fail)); done), by first | ((repeat (first | exact uE | assumption | refine uN (by omega) ?_ | fail)); done) | exact tl_eq (by repeat (first | exact uE | assumption | refine uN (by omega) ?_ | fail)) (by first | rfl | (simp [bytesV, beB_len]; done) | (simp [bytesV, beB_len]; omega) | omega) | (rw [← hq0_]; (repeat (first | exact uE | assumption | refine uN (by omega) ?_ | fail)); done), bstA_nx hF1_0 (by omega) (by omega) hnx_, (by omega), hF1_2⟩
            · omega
            · (repeat' (first | exact trivial | refine ⟨⟨_, rfl, ?_⟩, ?_⟩ | fail)); all_goals (repeat' (first | exact VLe.refl _ | exact VLe.own_sl _ _ _ | exact VLe.fl_sl _ _ | exact VLe.nil_sl _ | exact VLe.nil_fl _ | exact VLes.refl _ | exact .nil | refine VLe.tup ?_ | refine VLe.agg ?_ | refine .cons ?_ ?_ | (rw [Int.natCast_add]; exact VLe.refl _) | exact vle_int (by omega) | exact vle_bool (by first | rfl | assumption | (simp_all; done) | fail) | (rw [← hq0_]; exact VLe.refl _) | (rw [hq0_]; exact VLe.refl _) | fail))
          · skip
            have hnx_ : best = if ltK kf (g k) (g best) then k else best := (if_neg (of_decide_eq_false h3)).symm
            refine runs_skip ?_
            refine runs_region ?_
            refine rl0 (gn rfl) rfl rfl (step_mv rfl rfl) trivial ?_
            refine rl0 (gn rfl) rfl rfl (step_add rfl (ev_mk rfl) (ev_mk rfl) (w64 (by omega))) trivial ?_
            refine rl0 (gn rfl) rfl rfl (step_as rfl rfl) trivial ?_
            refine runsL_nil ?_
            have hq0_ : ((k : Int) + 1) = ((k + 1) : Int) := by omega
            refine ⟨_, _, ?_, sle ?_ (Nat.le_refl _), (k + 1), best, _, _, rfl, rfl, by omega, (fun k_ hk_ e0_ e1_ => by repeat (first | exact hf1 k_ hk_ e0_ e1_ | exact hf0 k_ hk_ | exact hf0 k_ hk_ e0_ e1_ | refine uN (by first | assumption | omega) ?_ | fail)), by first | ((repeat (first | exact uE | assumption | refine uN (by omega) ?_ | fail)); done) | exact tl_eq (by repeat (first | exact uE | assumption | refine uN (by omega) ?_ | fail)) (by first | rfl | (simp [bytesV, beB_len]; done) | (simp [bytesV, beB_len]; omega) | omega) | (rw [← hq0_]; (repeat (first | exact uE | assumption | refine uN (by omega) ?_ | fail)); done), by first | ((repeat (first | exact uE | assumption | refine uN (by omega) ?_ | fail)); done) | exact tl_eq (by repeat (first | exact uE | assumption | refine uN (by omega) ?_ | fail)) (by first | rfl | (simp [bytesV, beB_len]; done) | (simp [bytesV, beB_len]; omega) | omega) | (rw [← hq0_]; (repeat (first | exact uE | assumption | refine uN (by omega) ?_ | fail)); done), bstA_nx hF1_0 (by omega) (by omega) hnx_, (by omega), hF1_2⟩
            · omega
            · (repeat' (first | exact trivial | refine ⟨⟨_, rfl, ?_⟩, ?_⟩ | fail)); all_goals (repeat' (first | exact VLe.refl _ | exact VLe.own_sl _ _ _ | exact VLe.fl_sl _ _ | exact VLe.nil_sl _ | exact VLe.nil_fl _ | exact VLes.refl _ | exact .nil | refine VLe.tup ?_ | refine VLe.agg ?_ | refine .cons ?_ ?_ | (rw [Int.natCast_add]; exact VLe.refl _) | exact vle_int (by omega) | exact vle_bool (by first | rfl | assumption | (simp_all; done) | fail) | (rw [← hq0_]; exact VLe.refl _) | (rw [hq0_]; exact VLe.refl _) | fail))
        · skip
          have hend_ : ¬ k < L ∨ ¬ k ≤ 2 * i + 2 := .inl (by omega)
          refine rl0 (gn rfl) rfl rfl (step_pick rfl (ev_mk rfl) (ev_mk rfl)) trivial ?_
          refine runsL_nil ?_
          refine runs_cond false (ev_mk rfl) (fun h_ => nomatch h_) (fun _ => ?_)
          refine runs_exit ?_
          refine runs_seq ?_
          refine runs_seq ?_
          refine runs_region ?_
          refine rl0 (gn rfl) rfl rfl (step_mv rfl rfl) trivial ?_
          refine rl0 (gn rfl) rfl rfl (step_mv rfl rfl) trivial ?_
          refine rl_eql (gn rfl) rfl rfl rfl rfl rfl (fun h3 => ?_) (fun h3 => ?_)
          · skip
            have hbe_ := bstA_end hF1_0 hend_
            have hbi2_ : best = i := by omega
            refine runsL_nil ?_
            refine runs_cond true (ev_mk rfl) (fun _ => ?_) (fun h_ => nomatch h_)
            refine runs_ret ?_
            have hdn_ : dnF kf L L h i0 = g := (by rw [← hF0_1]; exact dnF_st (by rw [← hbi2_]; rw [hbi2_]; rw [hbi2_] at hbe_; exact hbe_))
            rw [hdn_]
            refine ⟨by first | exact .inr rfl | exact .inl rfl, fin_fam res0 ?_ ?_ ?_ ?_ ?_ ?_ ?_⟩
            · (repeat' (first | exact VLe.refl _ | exact VLe.own_sl _ _ _ | exact VLe.fl_sl _ _ | exact VLe.nil_sl _ | exact VLe.nil_fl _ | exact VLes.refl _ | exact .nil | refine VLe.tup ?_ | refine VLe.agg ?_ | refine .cons ?_ ?_ | (rw [Int.natCast_add]; exact VLe.refl _) | exact vle_int (by omega) | exact vle_bool (by first | rfl | assumption | (simp_all; done) | fail) | fail))
            · first | ((repeat (first | exact trivial | exact rows_bd hF0_3 hfn0 | assumption | omega | refine ⟨?_, ?_⟩ | fail)); done) | (repeat (first | exact trivial | assumption | omega | (refine bdR_map (fun _ => ?_)) | (refine bdL_map (fun _ => ?_)) | refine ⟨?_, ?_⟩ | fail))
            · exact hF1_2
            · intro k_ hk_ hq_; simp only [upds]; by_cases e_ : k_ = gb; (focus subst e_; refine bl_eq ?_; first | (refine ble ?_; (repeat (first | exact uE | assumption | refine uN (by omega) ?_ | fail)); done) | (refine' blec ?hb ?hl; (case hb => repeat (first | exact uE | assumption | refine uN (by omega) ?_ | fail)); (case hl => first | exact VLes.refl _ | ((repeat' (first | exact VLe.refl _ | exact VLe.own_sl _ _ _ | exact VLe.fl_sl _ _ | exact VLe.nil_sl _ | exact VLe.nil_fl _ | exact VLes.refl _ | exact .nil | refine VLe.tup ?_ | refine VLe.agg ?_ | refine .cons ?_ ?_ | (rw [Int.natCast_add]; exact VLe.refl _) | exact vle_int (by omega) | exact vle_bool (by first | rfl | assumption | (simp_all; done) | fail) | fail)); done)))); refine bl_ne e_ ?_; exact ble (by repeat (first | exact rfl | refine uN (by omega) ?_ | assumption | exact hf0 _ (by omega) (by first | assumption | omega) (by first | assumption | omega) | exact hf1 _ (by omega) (by first | assumption | omega) (by first | assumption | omega) | fail))
            · intro p hp cs hcs; simp only [List.mem_cons, List.not_mem_nil, or_false] at hp; (first | (cases hp; done) | (rcases hp with rfl)) <;> (first | (cases hcs; done) | (cases hcs; (first | ((repeat (first | exact trivial | exact rows_bd hF0_3 hfn0 | assumption | omega | refine ⟨?_, ?_⟩ | fail)); done) | (repeat (first | exact trivial | assumption | omega | (refine bdR_map (fun _ => ?_)) | (refine bdL_map (fun _ => ?_)) | refine ⟨?_, ?_⟩ | fail)))))
            · intro a_ ha_; exact ⟨trivial, trivial, trivial, trivial⟩
            · first | ((repeat (first | exact trivial | exact rows_bd hF0_3 hfn0 | assumption | omega | refine ⟨?_, ?_⟩ | fail)); done) | (repeat (first | exact trivial | assumption | omega | (refine bdR_map (fun _ => ?_)) | (refine bdL_map (fun _ => ?_)) | refine ⟨?_, ?_⟩ | fail))
          · skip
            have hbe_ := bstA_end hF1_0 hend_
            have hne_ : best ≠ i := by omega
            have hup_ := bst_up (kf := kf) (h := g) hF0_0.1
            have hlo_ : i < best := by omega
            have hci_ := hF0_3 (i) (by omega)
            have hxi_ : b1 (n0 + g (i)) = .cells [.sc (.int .i64 (kf (g (i)))), .sc (.int .i64 ((g (i) : Nat) : Int)), .sc (.int .i64 (posF g L (g (i))))] := hF1_2 _ hci_
            have hcb_ := hF0_3 (best) (by omega)
            have hxb_ : b1 (n0 + g (best)) = .cells [.sc (.int .i64 (kf (g (best)))), .sc (.int .i64 ((g (best) : Nat) : Int)), .sc (.int .i64 (posF g L (g (best))))] := hF1_2 _ hcb_
            have hgne_ : g i ≠ g best := fun e_ => hne_ (hF0_2 _ _ hF0_0.1 (by omega) e_).symm
            refine runsL_nil ?_
            refine runs_cond false (ev_mk rfl) (fun h_ => nomatch h_) (fun _ => ?_)
            refine runs_skip ?_
            refine runs_seq ?_
            refine runs_region ?_
            refine rl0 (gn rfl) rfl rfl (step_mv rfl rfl) trivial ?_
            refine rl0 (gn rfl) rfl rfl (step_mv rfl rfl) trivial ?_
            refine rl0 (gn rfl) rfl rfl (step_mv rfl rfl) trivial ?_
            refine rl3 (gn rfl) rfl rfl (step_callc rfl Try.func27 rfl rfl rfl (swap_c kf g n0 hb gb v L M c i best (posF g L (g i)) (posF g L (g best)) hF0_0.1 (by omega) hLM (by omega) hgne_ hne hhb hgb) (by repeat (first | exact .nil | refine .cons ?_ ?_ | exact VLe.refl _ | exact vle_int (by omega) | exact VLe.own_sl _ _ _ | exact VLe.fl_sl _ _ | exact VLe.nil_sl _ | exact VLe.nil_fl _ | refine VLe.agg ?_))) ⟨by repeat (first | exact uE | refine uN (by omega) ?_ | assumption | exact hd _ (by omega) | exact hd0 _ (by omega) | exact hd1 _ (by omega) | fail), by repeat (first | exact uE | refine uN (by omega) ?_ | assumption | exact hd _ (by omega) | exact hd0 _ (by omega) | exact hd1 _ (by omega) | fail), by repeat (first | exact uE | refine uN (by omega) ?_ | assumption | exact hd _ (by omega) | exact hd0 _ (by omega) | exact hd1 _ (by omega) | fail), by repeat (first | exact uE | refine uN (by omega) ?_ | assumption | exact hd _ (by omega) | exact hd0 _ (by omega) | exact hd1 _ (by omega) | fail), trivial⟩ (by omega) (by omega) (by omega) ?_
            refine runsL_nil ?_
            refine runs_region ?_
            refine rl0 (gn rfl) rfl rfl (step_mv rfl rfl) trivial ?_
            refine rl0 (gn rfl) rfl rfl (step_as rfl rfl) trivial ?_
            refine runsL_nil ?_
            refine ⟨_, _, ?_, sle ?_ (Nat.le_refl _), best, (f - 1), (sw g i best), _, _, rfl, rfl, by omega, (fun k_ hk_ e0_ e1_ => by repeat (first | exact hf0 k_ hk_ e0_ e1_ | exact hf1 k_ hk_ | exact hf1 k_ hk_ e0_ e1_ | refine uN (by first | assumption | omega) ?_ | fail)), by first | ((repeat (first | exact uE | assumption | refine uN (by omega) ?_ | fail)); done) | exact tl_eq (by repeat (first | exact uE | assumption | refine uN (by omega) ?_ | fail)) (by first | rfl | (simp [bytesV, beB_len]; done) | (simp [bytesV, beB_len]; omega) | omega), by first | ((repeat (first | exact uE | assumption | refine uN (by omega) ?_ | fail)); done) | exact tl_eq (by repeat (first | exact uE | assumption | refine uN (by omega) ?_ | fail)) (by first | rfl | (simp [bytesV, beB_len]; done) | (simp [bytesV, beB_len]; omega) | omega), ⟨by omega, by omega⟩, (by rw [← hF0_1]; exact (dnF_go hbe_ hne_ (by omega)).symm), sw_inj hF0_0.1 (by omega) hF0_2, sw_lt (by omega) (by omega) hF0_3, fam_sw (w := fun a => .sc (.int .i64 (kf (a)))) hF1_2 hgb hF0_2 hF0_0.1 (by omega) hgne_⟩
            · omega
            · (repeat' (first | exact trivial | refine ⟨⟨_, rfl, ?_⟩, ?_⟩ | fail)); all_goals (repeat' (first | exact VLe.refl _ | exact VLe.own_sl _ _ _ | exact VLe.fl_sl _ _ | exact VLe.nil_sl _ | exact VLe.nil_fl _ | exact VLes.refl _ | exact .nil | refine VLe.tup ?_ | refine VLe.agg ?_ | refine .cons ?_ ?_ | (rw [Int.natCast_add]; exact VLe.refl _) | exact vle_int (by omega) | exact vle_bool (by first | rfl | assumption | (simp_all; done) | fail) | fail))
      · skip
        have hend_ : ¬ k < L ∨ ¬ k ≤ 2 * i + 2 := .inr (by omega)
        refine rl0 (gn rfl) rfl rfl (step_mv rfl rfl) trivial ?_
        refine rlk rfl rfl rfl rfl rfl (ngb rfl rfl) rfl rfl ?_
        refine rlk rfl rfl rfl rfl rfl (ngb rfl rfl) rfl rfl ?_
        refine rlk rfl rfl rfl rfl rfl (ngb rfl rfl) rfl rfl ?_
        refine rlk rfl rfl rfl rfl rfl (ngb rfl rfl) rfl rfl ?_
        refine rlk rfl rfl rfl rfl rfl (ngb rfl rfl) rfl rfl ?_
        refine rlk rfl rfl rfl rfl rfl (ngb rfl rfl) rfl rfl ?_
        refine rlk rfl rfl rfl rfl rfl (ngb rfl rfl) rfl rfl ?_
        refine rl0 (gn rfl) rfl rfl (step_pick rfl (ev_mk rfl) (ev_mk rfl)) trivial ?_
        refine runsL_nil ?_
        refine runs_cond false (ev_mk rfl) (fun h_ => nomatch h_) (fun _ => ?_)
        refine runs_exit ?_
        refine runs_seq ?_
        refine runs_seq ?_
        refine runs_region ?_
        refine rl0 (gn rfl) rfl rfl (step_mv rfl rfl) trivial ?_
        refine rl0 (gn rfl) rfl rfl (step_mv rfl rfl) trivial ?_
        refine rl_eql (gn rfl) rfl rfl rfl rfl rfl (fun h2 => ?_) (fun h2 => ?_)
        · skip
          have hbe_ := bstA_end hF1_0 hend_
          have hbi2_ : best = i := by omega
          refine runsL_nil ?_
          refine runs_cond true (ev_mk rfl) (fun _ => ?_) (fun h_ => nomatch h_)
          refine runs_ret ?_
          have hdn_ : dnF kf L L h i0 = g := (by rw [← hF0_1]; exact dnF_st (by rw [← hbi2_]; rw [hbi2_]; rw [hbi2_] at hbe_; exact hbe_))
          rw [hdn_]
          refine ⟨by first | exact .inr rfl | exact .inl rfl, fin_fam res0 ?_ ?_ ?_ ?_ ?_ ?_ ?_⟩
          · (repeat' (first | exact VLe.refl _ | exact VLe.own_sl _ _ _ | exact VLe.fl_sl _ _ | exact VLe.nil_sl _ | exact VLe.nil_fl _ | exact VLes.refl _ | exact .nil | refine VLe.tup ?_ | refine VLe.agg ?_ | refine .cons ?_ ?_ | (rw [Int.natCast_add]; exact VLe.refl _) | exact vle_int (by omega) | exact vle_bool (by first | rfl | assumption | (simp_all; done) | fail) | fail))
          · first | ((repeat (first | exact trivial | exact rows_bd hF0_3 hfn0 | assumption | omega | refine ⟨?_, ?_⟩ | fail)); done) | (repeat (first | exact trivial | assumption | omega | (refine bdR_map (fun _ => ?_)) | (refine bdL_map (fun _ => ?_)) | refine ⟨?_, ?_⟩ | fail))
          · exact hF1_2
          · intro k_ hk_ hq_; simp only [upds]; by_cases e_ : k_ = gb; (focus subst e_; refine bl_eq ?_; first | (refine ble ?_; (repeat (first | exact uE | assumption | refine uN (by omega) ?_ | fail)); done) | (refine' blec ?hb ?hl; (case hb => repeat (first | exact uE | assumption | refine uN (by omega) ?_ | fail)); (case hl => first | exact VLes.refl _ | ((repeat' (first | exact VLe.refl _ | exact VLe.own_sl _ _ _ | exact VLe.fl_sl _ _ | exact VLe.nil_sl _ | exact VLe.nil_fl _ | exact VLes.refl _ | exact .nil | refine VLe.tup ?_ | refine VLe.agg ?_ | refine .cons ?_ ?_ | (rw [Int.natCast_add]; exact VLe.refl _) | exact vle_int (by omega) | exact vle_bool (by first | rfl | assumption | (simp_all; done) | fail) | fail)); done)))); refine bl_ne e_ ?_; exact ble (by repeat (first | exact rfl | refine uN (by omega) ?_ | assumption | exact hf0 _ (by omega) (by first | assumption | omega) (by first | assumption | omega) | exact hf1 _ (by omega) (by first | assumption | omega) (by first | assumption | omega) | fail))
          · intro p hp cs hcs; simp only [List.mem_cons, List.not_mem_nil, or_false] at hp; (first | (cases hp; done) | (rcases hp with rfl)) <;> (first | (cases hcs; done) | (cases hcs; (first | ((repeat (first | exact trivial | exact rows_bd hF0_3 hfn0 | assumption | omega | refine ⟨?_, ?_⟩ | fail)); done) | (repeat (first | exact trivial | assumption | omega | (refine bdR_map (fun _ => ?_)) | (refine bdL_map (fun _ => ?_)) | refine ⟨?_, ?_⟩ | fail)))))
          · intro a_ ha_; exact ⟨trivial, trivial, trivial, trivial⟩
          · first | ((repeat (first | exact trivial | exact rows_bd hF0_3 hfn0 | assumption | omega | refine ⟨?_, ?_⟩ | fail)); done) | (repeat (first | exact trivial | assumption | omega | (refine bdR_map (fun _ => ?_)) | (refine bdL_map (fun _ => ?_)) | refine ⟨?_, ?_⟩ | fail))
        · skip
          have hbe_ := bstA_end hF1_0 hend_
          have hne_ : best ≠ i := by omega
          have hup_ := bst_up (kf := kf) (h := g) hF0_0.1
          have hlo_ : i < best := by omega
          have hci_ := hF0_3 (i) (by omega)
          have hxi_ : b1 (n0 + g (i)) = .cells [.sc (.int .i64 (kf (g (i)))), .sc (.int .i64 ((g (i) : Nat) : Int)), .sc (.int .i64 (posF g L (g (i))))] := hF1_2 _ hci_
          have hcb_ := hF0_3 (best) (by omega)
          have hxb_ : b1 (n0 + g (best)) = .cells [.sc (.int .i64 (kf (g (best)))), .sc (.int .i64 ((g (best) : Nat) : Int)), .sc (.int .i64 (posF g L (g (best))))] := hF1_2 _ hcb_
          have hgne_ : g i ≠ g best := fun e_ => hne_ (hF0_2 _ _ hF0_0.1 (by omega) e_).symm
          refine runsL_nil ?_
          refine runs_cond false (ev_mk rfl) (fun h_ => nomatch h_) (fun _ => ?_)
          refine runs_skip ?_
          refine runs_seq ?_
          refine runs_region ?_
          refine rl0 (gn rfl) rfl rfl (step_mv rfl rfl) trivial ?_
          refine rl0 (gn rfl) rfl rfl (step_mv rfl rfl) trivial ?_
          refine rl0 (gn rfl) rfl rfl (step_mv rfl rfl) trivial ?_
          refine rl3 (gn rfl) rfl rfl (step_callc rfl Try.func27 rfl rfl rfl (swap_c kf g n0 hb gb v L M c i best (posF g L (g i)) (posF g L (g best)) hF0_0.1 (by omega) hLM (by omega) hgne_ hne hhb hgb) (by repeat (first | exact .nil | refine .cons ?_ ?_ | exact VLe.refl _ | exact vle_int (by omega) | exact VLe.own_sl _ _ _ | exact VLe.fl_sl _ _ | exact VLe.nil_sl _ | exact VLe.nil_fl _ | refine VLe.agg ?_))) ⟨by repeat (first | exact uE | refine uN (by omega) ?_ | assumption | exact hd _ (by omega) | exact hd0 _ (by omega) | exact hd1 _ (by omega) | fail), by repeat (first | exact uE | refine uN (by omega) ?_ | assumption | exact hd _ (by omega) | exact hd0 _ (by omega) | exact hd1 _ (by omega) | fail), by repeat (first | exact uE | refine uN (by omega) ?_ | assumption | exact hd _ (by omega) | exact hd0 _ (by omega) | exact hd1 _ (by omega) | fail), by repeat (first | exact uE | refine uN (by omega) ?_ | assumption | exact hd _ (by omega) | exact hd0 _ (by omega) | exact hd1 _ (by omega) | fail), trivial⟩ (by omega) (by omega) (by omega) ?_
          refine runsL_nil ?_
          refine runs_region ?_
          refine rl0 (gn rfl) rfl rfl (step_mv rfl rfl) trivial ?_
          refine rl0 (gn rfl) rfl rfl (step_as rfl rfl) trivial ?_
          refine runsL_nil ?_
          refine ⟨_, _, ?_, sle ?_ (Nat.le_refl _), best, (f - 1), (sw g i best), _, _, rfl, rfl, by omega, (fun k_ hk_ e0_ e1_ => by repeat (first | exact hf0 k_ hk_ e0_ e1_ | exact hf1 k_ hk_ | exact hf1 k_ hk_ e0_ e1_ | refine uN (by first | assumption | omega) ?_ | fail)), by first | ((repeat (first | exact uE | assumption | refine uN (by omega) ?_ | fail)); done) | exact tl_eq (by repeat (first | exact uE | assumption | refine uN (by omega) ?_ | fail)) (by first | rfl | (simp [bytesV, beB_len]; done) | (simp [bytesV, beB_len]; omega) | omega), by first | ((repeat (first | exact uE | assumption | refine uN (by omega) ?_ | fail)); done) | exact tl_eq (by repeat (first | exact uE | assumption | refine uN (by omega) ?_ | fail)) (by first | rfl | (simp [bytesV, beB_len]; done) | (simp [bytesV, beB_len]; omega) | omega), ⟨by omega, by omega⟩, (by rw [← hF0_1]; exact (dnF_go hbe_ hne_ (by omega)).symm), sw_inj hF0_0.1 (by omega) hF0_2, sw_lt (by omega) (by omega) hF0_3, fam_sw (w := fun a => .sc (.int .i64 (kf (a)))) hF1_2 hgb hF0_2 hF0_0.1 (by omega) hgne_⟩
          · omega
          · (repeat' (first | exact trivial | refine ⟨⟨_, rfl, ?_⟩, ?_⟩ | fail)); all_goals (repeat' (first | exact VLe.refl _ | exact VLe.own_sl _ _ _ | exact VLe.fl_sl _ _ | exact VLe.nil_sl _ | exact VLe.nil_fl _ | exact VLes.refl _ | exact .nil | refine VLe.tup ?_ | refine VLe.agg ?_ | refine .cons ?_ ?_ | (rw [Int.natCast_add]; exact VLe.refl _) | exact vle_int (by omega) | exact vle_bool (by first | rfl | assumption | (simp_all; done) | fail) | fail))
end Go.Proofs.Ytggeejghchnpaaa
