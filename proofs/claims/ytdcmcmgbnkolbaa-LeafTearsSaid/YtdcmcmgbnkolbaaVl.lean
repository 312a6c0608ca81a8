/- Walks of the leaf, by the logic of values. -/
import Derived.Test.YtdcmcmgbnkolbaaVk
import Derived.Test.YtdcmcmgbnkolbaaVmL
namespace Go.Proofs.Ytdcmcmgbnkolbaa
open Go.Vm
set_option linter.unusedVariables false
set_option linter.unusedSimpArgs false
theorem fuse0_c (k1 k2 : Nat) (S : List (List Int)) (w f : Int) (kp : List Bool) (dn : Bool) (kq : List Bool) (hk : kq.length ≤ 1000000) : Does Try.prog 16 [.ref k1 0, .sc (.int .i64 0), .sl 1 (boolsV kq)] [(k1, .cells [.msl k2 0 (S).length (S).length 64, .sc (.int .i64 (w)), .sc (.int .i64 (f)), .sl 1 (boolsV (kp)), .sc (.bool (dn))]), (k2, .cells (S.flatten.map bV))] [(k1, .cells [.msl k2 0 (S).length (S).length 64, .sc (.int .i64 (w)), .sc (.int .i64 (0)), .sl 1 (boolsV (kq)), .sc (.bool (dn))])] (.tup []) := fuse_c k1 k2 S w f kp dn 0 kq hk
theorem takeN_mix (S : List (List Int)) (x : Int) (l : List (List Int)) (f : Int) (kp : List Bool) (hf : f ≠ 0) (hx : 0 ≤ x) (h : x + l.length ≤ S.length) : takeN (mixS S x l f kp) x.toNat l.length = l := by
  rw [← mixS_all S x l f kp hf hx h]
  unfold takeN
  have h1 : (S.take x.toNat).length = x.toNat := by rw [List.length_take]; omega
  rw [List.append_assoc, List.drop_append, List.drop_of_length_le (by omega), List.nil_append, h1, Nat.sub_self, List.drop_zero, List.take_append_of_le_length (Nat.le_refl _), List.take_of_length_le (Nat.le_refl _)]
theorem mixS_bytes (S : List (List Int)) (x : Int) (l : List (List Int)) (f : Int) (kp : List Bool) (hS : ∀ r ∈ S, bytes r) (hl : ∀ r ∈ l, bytes r) : ∀ r ∈ mixS S x l f kp, bytes r := by
  intro r hr
  simp only [mixS, List.mem_map, List.mem_range] at hr
  obtain ⟨i, hi, rfl⟩ := hr
  unfold mixAt
  split
  · exact hl _ (at_int (by omega) (by omega))
  · exact hS _ (at_memS hi)
theorem zS_bytes (m : Nat) : ∀ r ∈ zS m, bytes r := fun r hr x hx => by
  rw [List.eq_of_mem_replicate hr] at hx
  rw [List.eq_of_mem_replicate hx]; omega
theorem fillP_bytes {a b : Int} (ha : 0 ≤ a ∧ a < 256) (hb : 0 ≤ b ∧ b < 256) : bytes (fillP a b) := fun x hx => by
  simp only [fillP, List.mem_cons] at hx
  rcases hx with rfl | hx
  · exact ha
  · rw [List.eq_of_mem_replicate hx]; exact hb
theorem fit_in {m : Nat} {ba nn : Int} (g0 : 0 ≤ nn) (g1 : 0 ≤ ba) (g3 : ba ≤ m - 4 ∧ 4 * nn ≤ m - 4 - ba) : insideB m (ba + nn * 4) 4 = true := decide_eq_true (by omega)
theorem fit_w (k1 k2 : Nat) (hkk : k1 ≠ k2) (m : Nat) (hm : m ≤ 60) (ba nn : Int) (hba : I64 ba) (hnn : I64 nn) (g0 : 0 ≤ nn) (g1 : 0 ≤ ba) (g3 : ba ≤ m - 4 ∧ 4 * nn ≤ m - 4 - ba) : Does Try.prog 13 [.ref k1 0, .sc (.int .i64 ba), .sc (.int .i64 nn), .agg ((fillP 1 1).map bV), .sc (.int .u64 3)] [(k1, .cells [.msl k2 0 (zS m).length (zS m).length 64, .sc (.int .i64 (0)), .sc (.int .i64 (-1)), .sl 1 (boolsV ([])), .sc (.bool (false))]), (k2, .cells ((zS m).flatten.map bV))] [(k2, .cells ((mixS (zS m) (ba + nn * 4) (putS (fillP 1 1) 3 4) (-1) []).flatten.map bV)), (k1, .cells [.msl k2 0 (mixS (zS m) (ba + nn * 4) (putS (fillP 1 1) 3 4) (-1) []).length (mixS (zS m) (ba + nn * 4) (putS (fillP 1 1) 3 4) (-1) []).length 64, .sc (.int .i64 (0 + 1)), .sc (.int .i64 (-1)), .sl 1 (boolsV ([])), .sc (.bool (false))])] (.sc (.int .i64 0)) := by
  have hi := fit_in g0 g1 g3
  have hl : ((putS (fillP 1 1) 3 4).length : Int) = 4 := by rw [putS_len]; rfl
  have h := lw_ok k1 k2 ⟨zS m, 0, -1, [], false⟩ hkk (okZ m (by omega)) ba nn hba hnn (fillP 1 1) (fillP_len 1 1) 3 (by constructor <;> omega) g0 g1 (by show nn ≤ ((zS m).length : Int); rw [zS_len]; omega) (ba + nn * 4) (w64 (by omega))
  have e1 : stepW ⟨zS m, 0, -1, [], false⟩ (ba + nn * 4) (putS (fillP 1 1) 3 4) = ⟨mixS (zS m) (ba + nn * 4) (putS (fillP 1 1) 3 4) (-1) [], 0 + 1, -1, [], false⟩ := by unfold stepW; rw [if_pos ⟨by rw [hl]; show insideB (zS m).length _ _ = true; rw [zS_len]; exact hi, rfl⟩, if_neg (by show ¬ (-1 : Int) = 0; omega)]; rfl
  have e2 : codeW ⟨zS m, 0, -1, [], false⟩ (ba + nn * 4) (putS (fillP 1 1) 3 4) = 0 := by unfold codeW; rw [if_pos (by rw [hl]; show insideB (zS m).length _ _ = true; rw [zS_len]; exact hi), if_neg (by simp)]
  rw [e1, e2] at h
  exact h
theorem okT1 {m : Nat} (hm : m ≤ 60) (ba nn : Int) : okS ⟨mixS (zS m) (ba + nn * 4) (putS (fillP 1 1) 3 4) (-1) [], 0 + 1, -1, [], false⟩ := ⟨mixS_row _ _ _ _ _ (zS_row m) (putS_row (fillP_len 1 1) 3), by show (mixS (zS m) (ba + nn * 4) (putS (fillP 1 1) 3 4) (-1) []).length ≤ 16384; rw [mixS_len, zS_len]; omega, by constructor <;> simp, by constructor <;> simp, by simp⟩
theorem fit_r (k1 k2 : Nat) (hkk : k1 ≠ k2) (m : Nat) (hm : m ≤ 60) (ba nn : Int) (hba : I64 ba) (hnn : I64 nn) (g0 : 0 ≤ nn) (g1 : 0 ≤ ba) (g3 : ba ≤ m - 4 ∧ 4 * nn ≤ m - 4 - ba) : Does Try.prog 15 [.ref k1 0, .sc (.int .i64 ba), .sc (.int .i64 nn)] [(k1, .cells [.msl k2 0 (mixS (zS m) (ba + nn * 4) (putS (fillP 1 1) 3 4) (-1) []).length (mixS (zS m) (ba + nn * 4) (putS (fillP 1 1) 3 4) (-1) []).length 64, .sc (.int .i64 (0 + 1)), .sc (.int .i64 (-1)), .sl 1 (boolsV ([])), .sc (.bool (false))]), (k2, .cells ((mixS (zS m) (ba + nn * 4) (putS (fillP 1 1) 3 4) (-1) []).flatten.map bV))] [] (.tup [.agg ((fillP 1 1).map bV), .sc (.int .u64 3), .sc (.bool true), .sc (.int .i64 0)]) := by
  have hi := fit_in g0 g1 g3
  have hp := fillP_len 1 1
  have hL : (mixS (zS m) (ba + nn * 4) (putS (fillP 1 1) 3 4) (-1) []).length = m := by rw [mixS_len, zS_len]
  have hc : codeR ⟨mixS (zS m) (ba + nn * 4) (putS (fillP 1 1) 3 4) (-1) [], 0 + 1, -1, [], false⟩ (ba + nn * 4) 4 = 0 := by unfold codeR; rw [if_pos (by show insideB (mixS (zS m) (ba + nn * 4) (putS (fillP 1 1) 3 4) (-1) []).length _ _ = true; rw [hL]; exact hi), if_neg (by simp)]
  have hr : readS ⟨mixS (zS m) (ba + nn * 4) (putS (fillP 1 1) 3 4) (-1) [], 0 + 1, -1, [], false⟩ (ba + nn * 4) 4 = putS (fillP 1 1) 3 4 := by
    unfold readS
    rw [if_pos hc]
    have h := takeN_mix (zS m) (ba + nn * 4) (putS (fillP 1 1) 3 4) (-1) [] (by omega) (by omega) (by rw [putS_len, zS_len]; omega)
    rw [putS_len] at h
    exact h
  have h := lr_ok k1 k2 ⟨mixS (zS m) (ba + nn * 4) (putS (fillP 1 1) 3 4) (-1) [], 0 + 1, -1, [], false⟩ hkk (okT1 hm ba nn) ba nn hba hnn g0 g1 (by show nn ≤ ((mixS (zS m) (ba + nn * 4) (putS (fillP 1 1) 3 4) (-1) []).length : Int); rw [hL]; omega) (ba + nn * 4) (w64 (by omega)) hc (mixS_bytes _ _ _ _ _ (zS_bytes m) (okL_put hp (fillP_bytes (by omega) (by omega)) 3).2)
  rw [hr, getP, getN, getB_put hp, if_pos rfl, if_pos rfl, pgO_put hp, at_put hp, beN_8v (by constructor <;> omega)] at h
  exact h
theorem okT2 {m : Nat} (hm : m ≤ 60) (ba nn : Int) : okS ⟨mixS (zS m) (ba + nn * 4) (putS (fillP 1 1) 3 4) (-1) [], 0 + 1, 0, [], false⟩ := ⟨(okT1 hm ba nn).1, (okT1 hm ba nn).2.1, by constructor <;> simp, by constructor <;> simp, by simp⟩
theorem fit_w2 (k1 k2 : Nat) (hkk : k1 ≠ k2) (m : Nat) (hm : m ≤ 60) (ba nn : Int) (hba : I64 ba) (hnn : I64 nn) (g0 : 0 ≤ nn) (g1 : 0 ≤ ba) (g3 : ba ≤ m - 4 ∧ 4 * nn ≤ m - 4 - ba) : Does Try.prog 13 [.ref k1 0, .sc (.int .i64 ba), .sc (.int .i64 nn), .agg ((fillP 2 1).map bV), .sc (.int .u64 4)] [(k1, .cells [.msl k2 0 (mixS (zS m) (ba + nn * 4) (putS (fillP 1 1) 3 4) (-1) []).length (mixS (zS m) (ba + nn * 4) (putS (fillP 1 1) 3 4) (-1) []).length 64, .sc (.int .i64 (0 + 1)), .sc (.int .i64 (0)), .sl 1 (boolsV ([])), .sc (.bool (false))]), (k2, .cells ((mixS (zS m) (ba + nn * 4) (putS (fillP 1 1) 3 4) (-1) []).flatten.map bV))] [(k2, .cells ((mixS (mixS (zS m) (ba + nn * 4) (putS (fillP 1 1) 3 4) (-1) []) (ba + nn * 4) (putS (fillP 2 1) 4 4) 0 []).flatten.map bV)), (k1, .cells [.msl k2 0 (mixS (mixS (zS m) (ba + nn * 4) (putS (fillP 1 1) 3 4) (-1) []) (ba + nn * 4) (putS (fillP 2 1) 4 4) 0 []).length (mixS (mixS (zS m) (ba + nn * 4) (putS (fillP 1 1) 3 4) (-1) []) (ba + nn * 4) (putS (fillP 2 1) 4 4) 0 []).length 64, .sc (.int .i64 (0 + 1)), .sc (.int .i64 (0)), .sl 1 (boolsV ([])), .sc (.bool (true))])] (.sc (.int .i64 4)) := by
  have hi := fit_in g0 g1 g3
  have hl : ((putS (fillP 2 1) 4 4).length : Int) = 4 := by rw [putS_len]; rfl
  have hL : (mixS (zS m) (ba + nn * 4) (putS (fillP 1 1) 3 4) (-1) []).length = m := by rw [mixS_len, zS_len]
  have h := lw_ok k1 k2 ⟨mixS (zS m) (ba + nn * 4) (putS (fillP 1 1) 3 4) (-1) [], 0 + 1, 0, [], false⟩ hkk (okT2 hm ba nn) ba nn hba hnn (fillP 2 1) (fillP_len 2 1) 4 (by constructor <;> omega) g0 g1 (by show nn ≤ ((mixS (zS m) (ba + nn * 4) (putS (fillP 1 1) 3 4) (-1) []).length : Int); rw [hL]; omega) (ba + nn * 4) (w64 (by omega))
  have hin : insideB (mixS (zS m) (ba + nn * 4) (putS (fillP 1 1) 3 4) (-1) []).length (ba + nn * 4) (putS (fillP 2 1) 4 4).length = true := by rw [hl, hL]; exact hi
  have e1 : stepW ⟨mixS (zS m) (ba + nn * 4) (putS (fillP 1 1) 3 4) (-1) [], 0 + 1, 0, [], false⟩ (ba + nn * 4) (putS (fillP 2 1) 4 4) = ⟨mixS (mixS (zS m) (ba + nn * 4) (putS (fillP 1 1) 3 4) (-1) []) (ba + nn * 4) (putS (fillP 2 1) 4 4) 0 [], 0 + 1, 0, [], true⟩ := by unfold stepW; rw [if_pos ⟨hin, rfl⟩, if_pos rfl]
  have e2 : codeW ⟨mixS (zS m) (ba + nn * 4) (putS (fillP 1 1) 3 4) (-1) [], 0 + 1, 0, [], false⟩ (ba + nn * 4) (putS (fillP 2 1) 4 4) = 4 := by unfold codeW; rw [if_pos hin, if_pos (.inr rfl)]
  rw [e1, e2] at h
  exact h
theorem okT3 {m : Nat} (hm : m ≤ 60) (ba nn : Int) : okS ⟨mixS (mixS (zS m) (ba + nn * 4) (putS (fillP 1 1) 3 4) (-1) []) (ba + nn * 4) (putS (fillP 2 1) 4 4) 0 [], 0 + 1, 0, [], true⟩ := ⟨mixS_row _ _ _ _ _ (okT1 hm ba nn).1 (putS_row (fillP_len 2 1) 4), by show (mixS (mixS (zS m) (ba + nn * 4) (putS (fillP 1 1) 3 4) (-1) []) (ba + nn * 4) (putS (fillP 2 1) 4 4) 0 []).length ≤ 16384; rw [mixS_len]; exact (okT1 hm ba nn).2.1, by constructor <;> simp, by constructor <;> simp, by simp⟩
theorem fit_r2 (k1 k2 : Nat) (hkk : k1 ≠ k2) (m : Nat) (hm : m ≤ 60) (ba nn : Int) (hba : I64 ba) (hnn : I64 nn) (g0 : 0 ≤ nn) (g1 : 0 ≤ ba) (g3 : ba ≤ m - 4 ∧ 4 * nn ≤ m - 4 - ba) : Does Try.prog 15 [.ref k1 0, .sc (.int .i64 ba), .sc (.int .i64 nn)] [(k1, .cells [.msl k2 0 (mixS (mixS (zS m) (ba + nn * 4) (putS (fillP 1 1) 3 4) (-1) []) (ba + nn * 4) (putS (fillP 2 1) 4 4) 0 []).length (mixS (mixS (zS m) (ba + nn * 4) (putS (fillP 1 1) 3 4) (-1) []) (ba + nn * 4) (putS (fillP 2 1) 4 4) 0 []).length 64, .sc (.int .i64 (0 + 1)), .sc (.int .i64 (0)), .sl 1 (boolsV ([])), .sc (.bool (true))]), (k2, .cells ((mixS (mixS (zS m) (ba + nn * 4) (putS (fillP 1 1) 3 4) (-1) []) (ba + nn * 4) (putS (fillP 2 1) 4 4) 0 []).flatten.map bV))] [] (.tup [.agg (zP.map bV), .sc (.int .u64 0), .sc (.bool false), .sc (.int .i64 4)]) := by
  have hi := fit_in g0 g1 g3
  have hL : (mixS (mixS (zS m) (ba + nn * 4) (putS (fillP 1 1) 3 4) (-1) []) (ba + nn * 4) (putS (fillP 2 1) 4 4) 0 []).length = m := by rw [mixS_len, mixS_len, zS_len]
  have hc : codeR ⟨mixS (mixS (zS m) (ba + nn * 4) (putS (fillP 1 1) 3 4) (-1) []) (ba + nn * 4) (putS (fillP 2 1) 4 4) 0 [], 0 + 1, 0, [], true⟩ (ba + nn * 4) 4 = 4 := by unfold codeR; rw [if_pos (by show insideB (mixS (mixS (zS m) (ba + nn * 4) (putS (fillP 1 1) 3 4) (-1) []) (ba + nn * 4) (putS (fillP 2 1) 4 4) 0 []).length _ _ = true; rw [hL]; exact hi), if_pos rfl]
  have h := lr_err k1 k2 ⟨mixS (mixS (zS m) (ba + nn * 4) (putS (fillP 1 1) 3 4) (-1) []) (ba + nn * 4) (putS (fillP 2 1) 4 4) 0 [], 0 + 1, 0, [], true⟩ hkk (okT3 hm ba nn) ba nn hba hnn g0 g1 (by show nn ≤ ((mixS (mixS (zS m) (ba + nn * 4) (putS (fillP 1 1) 3 4) (-1) []) (ba + nn * 4) (putS (fillP 2 1) 4 4) 0 []).length : Int); rw [hL]; omega) (ba + nn * 4) (w64 (by omega)) (by rw [hc]; decide)
  rw [hc] at h
  exact h
set_option maxRecDepth 100000 in
set_option maxHeartbeats 4000000 in
theorem roomC  (m : Nat) (hm : m ≤ 60) (ba nn : Int) (hba : I64 ba) (hnn : I64 nn) (g0 : 0 ≤ nn) (g1 : 0 ≤ ba) (g3 : ba ≤ m - 4 ∧ 4 * nn ≤ m - 4 - ba) (hwk : Does Try.prog 6 [] [] [] (.sc (.bool true))) (hm1 : 1 ≤ m) : Does Try.prog 4 [.sc (.int .i64 m), .sc (.int .i64 ba), .sc (.int .i64 nn)] [] [] (.sc (.bool true)) := by
  refine does_mk 20 Try.func4 rfl rfl rfl (fun n B bx hd hpre hup hvs hbx => ?_)
  have hba' := hba
  unfold I64 at hba'
  refine runs_seq ?_
  refine runs_region ?_
  refine rl0 (gn rfl) rfl rfl (step_as rfl rfl) trivial ?_
  refine runsL_nil ?_
  refine runs_seq ?_
  refine runs_seq ?_
  refine runs_region ?_
  refine rl0 (gn rfl) rfl rfl (step_mv rfl rfl) trivial ?_
  refine rl_lss (gn rfl) rfl rfl rfl rfl rfl (fun h1 => ?_) (fun h1 => ?_)
  · omega
  refine rl0 (gn rfl) rfl rfl (step_mv rfl rfl) trivial ?_
  refine rl0 (gy rfl rfl rfl rfl rfl rfl) rfl rfl (step_mv rfl rfl) trivial ?_
  refine rl_gtr (gy rfl rfl rfl rfl rfl rfl) rfl rfl rfl rfl rfl (fun h2 => ?_) (fun h2 => ?_)
  · omega
  refine rl0 (gn rfl) rfl rfl (step_pick rfl (ev_mk rfl) (ev_mk rfl)) trivial ?_
  refine runsL_nil ?_
  refine runs_cond false (ev_mk rfl) (fun h_ => nomatch h_) (fun _ => ?_)
  refine runs_skip ?_
  refine runs_seq ?_
  refine runs_region ?_
  refine rl0 (gn rfl) rfl rfl (step_mv rfl rfl) trivial ?_
  refine rl2 (gn rfl) rfl rfl (step_callc rfl Try.func12 rfl rfl rfl (new_ok2 m hm1 (by omega) (n + 0) (n + 1) (by omega)) (by repeat (first | exact .nil | refine .cons ?_ ?_ | exact VLe.refl _ | exact VLe.own_sl _ _ _ | exact VLe.fl_sl _ _ | exact VLe.nil_sl _ | exact VLe.nil_fl _ | refine VLe.agg ?_))) ⟨by repeat (first | exact upd_eq _ _ _ | refine (upd_ne _ _ _ _ (by omega)).trans ?_ | assumption | exact hd _ (by omega) | exact hd0 _ (by omega) | exact hd1 _ (by omega) | exact hd2 _ (by omega) | fail), ⟨by repeat (first | exact upd_eq _ _ _ | refine (upd_ne _ _ _ _ (by omega)).trans ?_ | assumption | exact hd _ (by omega) | exact hd0 _ (by omega) | exact hd1 _ (by omega) | exact hd2 _ (by omega) | fail), trivial⟩⟩ (by omega) (by omega) ?_
  refine rl0 (gn rfl) rfl rfl (step_mv rfl rfl) trivial ?_
  refine rl0 (gn rfl) rfl rfl (step_extract rfl (ev_mk rfl) rfl) trivial ?_
  refine rl0 (gn rfl) rfl rfl (step_extract rfl (ev_mk rfl) rfl) trivial ?_
  refine rl0 (gn rfl) rfl rfl (step_as rfl rfl) trivial ?_
  refine rl0 (gn rfl) rfl rfl (step_as rfl rfl) trivial ?_
  refine runsL_nil ?_
  refine runs_seq ?_
  refine runs_seq ?_
  refine runs_region ?_
  refine rl0 (gn rfl) rfl rfl (step_mv rfl rfl) trivial ?_
  refine rl0 (gn rfl) rfl rfl (step_eq_nil (b := false) rfl (ev_mk rfl) (ev_mk rfl) Try.underlying31 ⟨_, .inl ⟨.inl ⟨_, _, rfl⟩, rfl⟩, .inl ⟨rfl, rfl⟩⟩) trivial ?_
  refine rl0 (gn rfl) rfl rfl (step_mv rfl rfl) trivial ?_
  refine rl0 (gy rfl rfl rfl rfl rfl rfl) rfl rfl (step_mv rfl rfl) trivial ?_
  refine rl_neq (gy rfl rfl rfl rfl rfl rfl) rfl rfl rfl rfl rfl (fun h3 => ?_) (fun h3 => ?_)
  · omega
  refine rl0 (gn rfl) rfl rfl (step_pick rfl (ev_mk rfl) (ev_mk rfl)) trivial ?_
  refine runsL_nil ?_
  refine runs_cond false (ev_mk rfl) (fun h_ => nomatch h_) (fun _ => ?_)
  refine runs_skip ?_
  refine runs_seq ?_
  refine runs_region ?_
  refine rl0 (gn rfl) rfl rfl (step_mv rfl rfl) trivial ?_
  refine rl_geq (gn rfl) rfl rfl rfl rfl rfl (fun h4 => ?_) (fun h4 => ?_)
  rotate_left
  · omega
  refine rl0 (gn rfl) rfl rfl (step_mv rfl rfl) trivial ?_
  refine rl0 (gy rfl rfl rfl rfl rfl rfl) rfl rfl (step_mv rfl rfl) trivial ?_
  refine rl_geq (gy rfl rfl rfl rfl rfl rfl) rfl rfl rfl rfl rfl (fun h5 => ?_) (fun h5 => ?_)
  rotate_left
  · omega
  refine rl0 (gn rfl) rfl rfl (step_pick rfl (ev_mk rfl) (ev_mk rfl)) trivial ?_
  refine rl0 (gn rfl) rfl rfl (step_mv rfl rfl) trivial ?_
  refine rl0 (gy rfl rfl rfl rfl rfl rfl) rfl rfl (step_mv rfl rfl) trivial ?_
  refine rl0 (gy rfl rfl rfl rfl rfl rfl) rfl rfl (step_mv rfl rfl) trivial ?_
  refine rl_leq (gy rfl rfl rfl rfl rfl rfl) rfl rfl rfl rfl rfl (fun h6 => ?_) (fun h6 => ?_)
  rotate_left
  · omega
  refine rl0 (gn rfl) rfl rfl (step_pick rfl (ev_mk rfl) (ev_mk rfl)) trivial ?_
  refine rl0 (gn rfl) rfl rfl (step_mv rfl rfl) trivial ?_
  refine rl0 (gy rfl rfl rfl rfl rfl rfl) rfl rfl (step_mv rfl rfl) trivial ?_
  refine rl0 (gy rfl rfl rfl rfl rfl rfl) rfl rfl (step_mv rfl rfl) trivial ?_
  refine rl_leq (gy rfl rfl rfl rfl rfl rfl) rfl rfl rfl rfl rfl (fun h7 => ?_) (fun h7 => ?_)
  rotate_left
  · omega
  refine rl0 (gn rfl) rfl rfl (step_pick rfl (ev_mk rfl) (ev_mk rfl)) trivial ?_
  refine rl0 (gn rfl) rfl rfl (step_mv rfl rfl) trivial ?_
  refine rl0 (gy rfl rfl rfl rfl rfl rfl) rfl rfl (step_mv rfl rfl) trivial ?_
  refine rl0 (gy rfl rfl rfl rfl rfl rfl) rfl rfl (step_mv rfl rfl) trivial ?_
  refine rl0 (gy rfl rfl rfl rfl rfl rfl) rfl rfl (step_sub rfl (ev_mk rfl) (ev_mk rfl) (w64 (by omega))) trivial ?_
  refine rl_leq (gy rfl rfl rfl rfl rfl rfl) rfl rfl rfl rfl rfl (fun h8 => ?_) (fun h8 => ?_)
  rotate_left
  · omega
  refine rl0 (gn rfl) rfl rfl (step_pick rfl (ev_mk rfl) (ev_mk rfl)) trivial ?_
  refine rl0 (gn rfl) rfl rfl (step_mv rfl rfl) trivial ?_
  refine rl0 (gy rfl rfl rfl rfl rfl rfl) rfl rfl (step_mv rfl rfl) trivial ?_
  refine rl0 (gy rfl rfl rfl rfl rfl rfl) rfl rfl (step_mul rfl (ev_mk rfl) (ev_mk rfl) (w64 (by omega))) trivial ?_
  refine rl0 (gy rfl rfl rfl rfl rfl rfl) rfl rfl (step_mv rfl rfl) trivial ?_
  refine rl0 (gy rfl rfl rfl rfl rfl rfl) rfl rfl (step_sub rfl (ev_mk rfl) (ev_mk rfl) (w64 (by omega))) trivial ?_
  refine rl0 (gy rfl rfl rfl rfl rfl rfl) rfl rfl (step_mv rfl rfl) trivial ?_
  refine rl0 (gy rfl rfl rfl rfl rfl rfl) rfl rfl (step_sub rfl (ev_mk rfl) (ev_mk rfl) (w64 (by omega))) trivial ?_
  refine rl_leq (gy rfl rfl rfl rfl rfl rfl) rfl rfl rfl rfl rfl (fun h9 => ?_) (fun h9 => ?_)
  rotate_left
  · omega
  refine rl0 (gn rfl) rfl rfl (step_pick rfl (ev_mk rfl) (ev_mk rfl)) trivial ?_
  refine rl0 (gn rfl) rfl rfl (step_as rfl rfl) trivial ?_
  refine runsL_nil ?_
  refine runs_seq ?_
  refine runs_region ?_
  refine rl0 (gn rfl) rfl rfl (step_mv rfl rfl) trivial ?_
  refine rl0 (gn rfl) rfl rfl (step_mv rfl rfl) trivial ?_
  refine rl0 (gn rfl) rfl rfl (step_mv rfl rfl) trivial ?_
  refine rl0 (gn rfl) rfl rfl (step_callc rfl Try.func14 rfl rfl rfl (filled_c 1 1) (by repeat (first | exact .nil | refine .cons ?_ ?_ | exact VLe.refl _ | exact VLe.own_sl _ _ _ | exact VLe.fl_sl _ _ | exact VLe.nil_sl _ | exact VLe.nil_fl _ | refine VLe.agg ?_))) trivial ?_
  refine rl2 (gn rfl) rfl rfl (step_callc rfl Try.func13 rfl rfl rfl (fit_w (n + 0) (n + 1) (by omega) m hm ba nn hba hnn g0 g1 g3) (by repeat (first | exact .nil | refine .cons ?_ ?_ | exact VLe.refl _ | exact VLe.own_sl _ _ _ | exact VLe.fl_sl _ _ | exact VLe.nil_sl _ | exact VLe.nil_fl _ | refine VLe.agg ?_))) ⟨by repeat (first | exact upd_eq _ _ _ | refine (upd_ne _ _ _ _ (by omega)).trans ?_ | assumption | exact hd _ (by omega) | exact hd0 _ (by omega) | exact hd1 _ (by omega) | exact hd2 _ (by omega) | fail), ⟨by repeat (first | exact upd_eq _ _ _ | refine (upd_ne _ _ _ _ (by omega)).trans ?_ | assumption | exact hd _ (by omega) | exact hd0 _ (by omega) | exact hd1 _ (by omega) | exact hd2 _ (by omega) | fail), trivial⟩⟩ (by omega) (by omega) ?_
  refine rl0 (gn rfl) rfl rfl (step_as rfl rfl) trivial ?_
  refine runsL_nil ?_
  refine runs_seq ?_
  refine runs_region ?_
  refine rl0 (gn rfl) rfl rfl (step_mv rfl rfl) trivial ?_
  refine rl0 (gn rfl) rfl rfl (step_mv rfl rfl) trivial ?_
  refine rl0 (gn rfl) rfl rfl (step_mv rfl rfl) trivial ?_
  refine rl0 (gn rfl) rfl rfl (step_callc rfl Try.func15 rfl rfl rfl (fit_r (n + 0) (n + 1) (by omega) m hm ba nn hba hnn g0 g1 g3) (by repeat (first | exact .nil | refine .cons ?_ ?_ | exact VLe.refl _ | exact VLe.own_sl _ _ _ | exact VLe.fl_sl _ _ | exact VLe.nil_sl _ | exact VLe.nil_fl _ | refine VLe.agg ?_))) ⟨by repeat (first | exact upd_eq _ _ _ | refine (upd_ne _ _ _ _ (by omega)).trans ?_ | assumption | exact hd _ (by omega) | exact hd0 _ (by omega) | exact hd1 _ (by omega) | exact hd2 _ (by omega) | fail), ⟨by repeat (first | exact upd_eq _ _ _ | refine (upd_ne _ _ _ _ (by omega)).trans ?_ | assumption | exact hd _ (by omega) | exact hd0 _ (by omega) | exact hd1 _ (by omega) | exact hd2 _ (by omega) | fail), trivial⟩⟩ ?_
  refine rl0 (gn rfl) rfl rfl (step_mv rfl rfl) trivial ?_
  refine rl0 (gn rfl) rfl rfl (step_extract rfl (ev_mk rfl) rfl) trivial ?_
  refine rl0 (gn rfl) rfl rfl (step_extract rfl (ev_mk rfl) rfl) trivial ?_
  refine rl0 (gn rfl) rfl rfl (step_extract rfl (ev_mk rfl) rfl) trivial ?_
  refine rl0 (gn rfl) rfl rfl (step_extract rfl (ev_mk rfl) rfl) trivial ?_
  refine rl1 (gn rfl) rfl rfl (step_allocc (k := n + 2) (zs := (List.replicate 224 (.int .u8 0))) (cs := List.replicate 224 (.sc (.int .u8 0))) rfl F.zero22 (by first | rfl | simp) (by first | rfl | decide | simp) (by first | rfl | simp)) ⟨by repeat (first | exact upd_eq _ _ _ | refine (upd_ne _ _ _ _ (by omega)).trans ?_ | assumption | exact hd _ (by omega) | exact hd0 _ (by omega) | exact hd1 _ (by omega) | exact hd2 _ (by omega) | fail), trivial⟩ (by omega) ?_
  first
    | (refine' rls (gn rfl) rfl (step_storeA rfl rfl rfl rfl F.agg22 ?hm ?hl) ⟨?hb, trivial⟩ ?hk ?_; (case hb => repeat (first | exact upd_eq _ _ _ | refine (upd_ne _ _ _ _ (by omega)).trans ?_ | assumption | exact hd _ (by omega) | exact hd0 _ (by omega) | exact hd1 _ (by omega) | exact hd2 _ (by omega) | fail)); (case hm => first | rfl | (simp; done) | (first | (rw [List.length_map]; exact fillP_len _ _) | (rw [List.length_map]; exact zP_len))); (case hl => first | rfl | (simp; done) | (first | (rw [List.length_map]; exact fillP_len _ _) | (rw [List.length_map]; exact zP_len))); (case hk => omega))
    | (refine' rls (gn rfl) rfl (step_storeS rfl rfl rfl rfl F.agg22 ?hm ?hl ?hc) ⟨?hb, trivial⟩ ?hk ?_; (case hb => repeat (first | exact upd_eq _ _ _ | refine (upd_ne _ _ _ _ (by omega)).trans ?_ | assumption | exact hd _ (by omega) | exact hd0 _ (by omega) | exact hd1 _ (by omega) | exact hd2 _ (by omega) | fail)); (case hm => first | rfl | (simp; done) | (first | (rw [List.length_map]; exact fillP_len _ _) | (rw [List.length_map]; exact zP_len))); (case hl => first | decide | (simp; done) | (first | (rw [List.length_map]; exact fillP_len _ _) | (rw [List.length_map]; exact zP_len))); (case hc => rfl); (case hk => omega))
  refine rl0 (gn rfl) rfl rfl (step_as rfl rfl) trivial ?_
  refine rl0 (gn rfl) rfl rfl (step_as rfl rfl) trivial ?_
  refine rl0 (gn rfl) rfl rfl (step_as rfl rfl) trivial ?_
  refine runsL_nil ?_
  refine runs_seq ?_
  refine runs_seq ?_
  refine runs_region ?_
  refine rl0 (gn rfl) rfl rfl (step_mv rfl rfl) trivial ?_
  refine rl0 (gn rfl) rfl rfl (step_unOp (c := .bool false) rfl (ev_mk rfl) (fun _ => rfl)) trivial ?_
  refine runsL_nil ?_
  refine runs_cond false (ev_mk rfl) (fun h_ => nomatch h_) (fun _ => ?_)
  refine runs_skip ?_
  refine runs_seq ?_
  refine runs_region ?_
  refine rl0 (gn rfl) rfl rfl (step_mv rfl rfl) trivial ?_
  refine rl1 (gn rfl) rfl rfl (step_callc rfl Try.func16 rfl rfl rfl (fuse0_c (n + 0) (n + 1) (mixS (zS m) (ba + nn * 4) (putS (fillP 1 1) 3 4) (-1) []) (0 + 1) (-1) [] false [] (by simp)) (by repeat (first | exact .nil | refine .cons ?_ ?_ | exact VLe.refl _ | exact VLe.own_sl _ _ _ | exact VLe.fl_sl _ _ | exact VLe.nil_sl _ | exact VLe.nil_fl _ | refine VLe.agg ?_))) ⟨by repeat (first | exact upd_eq _ _ _ | refine (upd_ne _ _ _ _ (by omega)).trans ?_ | assumption | exact hd _ (by omega) | exact hd0 _ (by omega) | exact hd1 _ (by omega) | exact hd2 _ (by omega) | fail), ⟨by repeat (first | exact upd_eq _ _ _ | refine (upd_ne _ _ _ _ (by omega)).trans ?_ | assumption | exact hd _ (by omega) | exact hd0 _ (by omega) | exact hd1 _ (by omega) | exact hd2 _ (by omega) | fail), trivial⟩⟩ (by omega) ?_
  refine runsL_nil ?_
  refine runs_seq ?_
  refine runs_region ?_
  refine rl0 (gn rfl) rfl rfl (step_mv rfl rfl) trivial ?_
  refine rl0 (gn rfl) rfl rfl (step_mv rfl rfl) trivial ?_
  refine rl0 (gn rfl) rfl rfl (step_mv rfl rfl) trivial ?_
  refine rl0 (gn rfl) rfl rfl (step_callc rfl Try.func14 rfl rfl rfl (filled_c 2 1) (by repeat (first | exact .nil | refine .cons ?_ ?_ | exact VLe.refl _ | exact VLe.own_sl _ _ _ | exact VLe.fl_sl _ _ | exact VLe.nil_sl _ | exact VLe.nil_fl _ | refine VLe.agg ?_))) trivial ?_
  refine rl2 (gn rfl) rfl rfl (step_callc rfl Try.func13 rfl rfl rfl (fit_w2 (n + 0) (n + 1) (by omega) m hm ba nn hba hnn g0 g1 g3) (by repeat (first | exact .nil | refine .cons ?_ ?_ | exact VLe.refl _ | exact VLe.own_sl _ _ _ | exact VLe.fl_sl _ _ | exact VLe.nil_sl _ | exact VLe.nil_fl _ | refine VLe.agg ?_))) ⟨by repeat (first | exact upd_eq _ _ _ | refine (upd_ne _ _ _ _ (by omega)).trans ?_ | assumption | exact hd _ (by omega) | exact hd0 _ (by omega) | exact hd1 _ (by omega) | exact hd2 _ (by omega) | fail), ⟨by repeat (first | exact upd_eq _ _ _ | refine (upd_ne _ _ _ _ (by omega)).trans ?_ | assumption | exact hd _ (by omega) | exact hd0 _ (by omega) | exact hd1 _ (by omega) | exact hd2 _ (by omega) | fail), trivial⟩⟩ (by omega) (by omega) ?_
  refine rl0 (gn rfl) rfl rfl (step_as rfl rfl) trivial ?_
  refine runsL_nil ?_
  refine runs_seq ?_
  refine runs_region ?_
  refine rl0 (gn rfl) rfl rfl (step_mv rfl rfl) trivial ?_
  refine rl0 (gn rfl) rfl rfl (step_mv rfl rfl) trivial ?_
  refine rl0 (gn rfl) rfl rfl (step_mv rfl rfl) trivial ?_
  refine rl0 (gn rfl) rfl rfl (step_callc rfl Try.func15 rfl rfl rfl (fit_r2 (n + 0) (n + 1) (by omega) m hm ba nn hba hnn g0 g1 g3) (by repeat (first | exact .nil | refine .cons ?_ ?_ | exact VLe.refl _ | exact VLe.own_sl _ _ _ | exact VLe.fl_sl _ _ | exact VLe.nil_sl _ | exact VLe.nil_fl _ | refine VLe.agg ?_))) ⟨by repeat (first | exact upd_eq _ _ _ | refine (upd_ne _ _ _ _ (by omega)).trans ?_ | assumption | exact hd _ (by omega) | exact hd0 _ (by omega) | exact hd1 _ (by omega) | exact hd2 _ (by omega) | fail), ⟨by repeat (first | exact upd_eq _ _ _ | refine (upd_ne _ _ _ _ (by omega)).trans ?_ | assumption | exact hd _ (by omega) | exact hd0 _ (by omega) | exact hd1 _ (by omega) | exact hd2 _ (by omega) | fail), trivial⟩⟩ ?_
  refine rl0 (gn rfl) rfl rfl (step_mv rfl rfl) trivial ?_
  refine rl0 (gn rfl) rfl rfl (step_extract rfl (ev_mk rfl) rfl) trivial ?_
  refine rl0 (gn rfl) rfl rfl (step_extract rfl (ev_mk rfl) rfl) trivial ?_
  refine rl0 (gn rfl) rfl rfl (step_extract rfl (ev_mk rfl) rfl) trivial ?_
  refine rl0 (gn rfl) rfl rfl (step_extract rfl (ev_mk rfl) rfl) trivial ?_
  refine rl1 (gn rfl) rfl rfl (step_allocc (k := n + 3) (zs := (List.replicate 224 (.int .u8 0))) (cs := List.replicate 224 (.sc (.int .u8 0))) rfl F.zero22 (by first | rfl | simp) (by first | rfl | decide | simp) (by first | rfl | simp)) ⟨by repeat (first | exact upd_eq _ _ _ | refine (upd_ne _ _ _ _ (by omega)).trans ?_ | assumption | exact hd _ (by omega) | exact hd0 _ (by omega) | exact hd1 _ (by omega) | exact hd2 _ (by omega) | fail), trivial⟩ (by omega) ?_
  first
    | (refine' rls (gn rfl) rfl (step_storeA rfl rfl rfl rfl F.agg22 ?hm ?hl) ⟨?hb, trivial⟩ ?hk ?_; (case hb => repeat (first | exact upd_eq _ _ _ | refine (upd_ne _ _ _ _ (by omega)).trans ?_ | assumption | exact hd _ (by omega) | exact hd0 _ (by omega) | exact hd1 _ (by omega) | exact hd2 _ (by omega) | fail)); (case hm => first | rfl | (simp; done) | (first | (rw [List.length_map]; exact fillP_len _ _) | (rw [List.length_map]; exact zP_len))); (case hl => first | rfl | (simp; done) | (first | (rw [List.length_map]; exact fillP_len _ _) | (rw [List.length_map]; exact zP_len))); (case hk => omega))
    | (refine' rls (gn rfl) rfl (step_storeS rfl rfl rfl rfl F.agg22 ?hm ?hl ?hc) ⟨?hb, trivial⟩ ?hk ?_; (case hb => repeat (first | exact upd_eq _ _ _ | refine (upd_ne _ _ _ _ (by omega)).trans ?_ | assumption | exact hd _ (by omega) | exact hd0 _ (by omega) | exact hd1 _ (by omega) | exact hd2 _ (by omega) | fail)); (case hm => first | rfl | (simp; done) | (first | (rw [List.length_map]; exact fillP_len _ _) | (rw [List.length_map]; exact zP_len))); (case hl => first | decide | (simp; done) | (first | (rw [List.length_map]; exact fillP_len _ _) | (rw [List.length_map]; exact zP_len))); (case hc => rfl); (case hk => omega))
  refine rl0 (gn rfl) rfl rfl (step_as rfl rfl) trivial ?_
  refine rl0 (gn rfl) rfl rfl (step_as rfl rfl) trivial ?_
  refine rl0 (gn rfl) rfl rfl (step_as rfl rfl) trivial ?_
  refine runsL_nil ?_
  refine runs_seq ?_
  refine runs_draw (by kernel_rfl) (by kernel_rfl) (by kernel_rfl) ?_
  refine dl0 (gn rfl) rfl rfl (step_mv rfl rfl) trivial ?_
  refine dl0 (gn rfl) rfl rfl (step_mv rfl rfl) trivial ?_
  refine dl0 (gn rfl) rfl rfl (step_callc rfl Try.func17 rfl rfl rfl (where_c ba nn (by omega) (by omega)) (by repeat (first | exact .nil | refine .cons ?_ ?_ | exact VLe.refl _ | exact VLe.own_sl _ _ _ | exact VLe.fl_sl _ _ | exact VLe.nil_sl _ | exact VLe.nil_fl _ | refine VLe.agg ?_))) trivial ?_
  refine dl0 (gn rfl) rfl rfl (step_mv rfl rfl) trivial ?_
  refine dl0 (gn rfl) rfl rfl (step_mv rfl rfl) trivial ?_
  refine dl0 (gn rfl) rfl rfl (step_mul rfl (ev_mk rfl) (ev_mk rfl) (w64 (by omega))) trivial ?_
  refine dl0 (gn rfl) rfl rfl (step_add rfl (ev_mk rfl) (ev_mk rfl) (w64 (by omega))) trivial ?_
  refine dl_eql (gn rfl) rfl rfl rfl rfl rfl (fun h10 => ?_) (fun h10 => ?_)
  rotate_left
  · omega
  refine dl0 (gn rfl) rfl rfl (step_mv rfl rfl) trivial ?_
  refine dl0 (gy rfl rfl rfl rfl rfl rfl) rfl rfl (step_mv rfl rfl) trivial ?_
  refine dl_eql (gy rfl rfl rfl rfl rfl rfl) rfl rfl rfl rfl rfl (fun h11 => ?_) (fun h11 => ?_)
  rotate_left
  · omega
  refine dl0 (gn rfl) rfl rfl (step_pick rfl (ev_mk rfl) (ev_mk rfl)) trivial ?_
  refine dl0 (gn rfl) rfl rfl (step_mv rfl rfl) trivial ?_
  refine dl0 (gy rfl rfl rfl rfl rfl rfl) rfl rfl (step_mv rfl rfl) trivial ?_
  refine dl_eql (gy rfl rfl rfl rfl rfl rfl) rfl rfl rfl rfl rfl (fun h12 => ?_) (fun h12 => ?_)
  rotate_left
  · omega
  refine dl0 (gn rfl) rfl rfl (step_pick rfl (ev_mk rfl) (ev_mk rfl)) trivial ?_
  refine dl0 (gn rfl) rfl rfl (step_mv rfl rfl) trivial ?_
  refine dl0 (gy rfl rfl rfl rfl rfl rfl) rfl rfl (step_mv rfl rfl) trivial ?_
  refine dl0 (gn rfl) rfl rfl (step_pick rfl (ev_mk rfl) (ev_mk rfl)) trivial ?_
  refine dl0 (gn rfl) rfl rfl (step_mv rfl rfl) trivial ?_
  refine dl0 (gy rfl rfl rfl rfl rfl rfl) rfl rfl (step_mv rfl rfl) trivial ?_
  refine dl_eql (gy rfl rfl rfl rfl rfl rfl) rfl rfl rfl rfl rfl (fun h13 => ?_) (fun h13 => ?_)
  rotate_left
  · omega
  refine dl0 (gn rfl) rfl rfl (step_pick rfl (ev_mk rfl) (ev_mk rfl)) trivial ?_
  refine dl0 (gn rfl) rfl rfl (step_mv rfl rfl) trivial ?_
  first
    | (refine' dl0 (gy rfl rfl rfl rfl rfl rfl) rfl rfl (step_load_all rfl rfl F.agg22 ?hl) ⟨?hb, trivial⟩ ?_; (case hb => repeat (first | exact upd_eq _ _ _ | refine (upd_ne _ _ _ _ (by omega)).trans ?_ | assumption | exact hd _ (by omega) | exact hd0 _ (by omega) | exact hd1 _ (by omega) | exact hd2 _ (by omega) | fail)); (case hl => first | rfl | (simp; done) | (first | (rw [List.length_map]; exact fillP_len _ _) | (rw [List.length_map]; exact zP_len))))
    | (refine dl0 (gy rfl rfl rfl rfl rfl rfl) rfl rfl (step_load_ro_all rfl rfl F.agg22 (by first | rfl | (simp; done) | (first | (rw [List.length_map]; exact fillP_len _ _) | (rw [List.length_map]; exact zP_len)))) trivial ?_)
    | (refine' dl0 (gy rfl rfl rfl rfl rfl rfl) rfl rfl (step_load_agg rfl (ev_mk rfl) F.agg22 ?hc ?hl) ⟨?hb, trivial⟩ ?_; (case hb => repeat (first | exact upd_eq _ _ _ | refine (upd_ne _ _ _ _ (by omega)).trans ?_ | assumption | exact hd _ (by omega) | exact hd0 _ (by omega) | exact hd1 _ (by omega) | exact hd2 _ (by omega) | fail)); (case hc => rfl); (case hl => first | rfl | (simp; done)))
    | (refine dl0 (gy rfl rfl rfl rfl rfl rfl) rfl rfl (step_load_ro_agg rfl (ev_mk rfl) F.agg22 rfl rfl) trivial ?_)
  refine dl0 (gy rfl rfl rfl rfl rfl rfl) rfl rfl (step_callc rfl Try.func14 rfl rfl rfl (filled_c 1 1) (by repeat (first | exact .nil | refine .cons ?_ ?_ | exact VLe.refl _ | exact VLe.own_sl _ _ _ | exact VLe.fl_sl _ _ | exact VLe.nil_sl _ | exact VLe.nil_fl _ | refine VLe.agg ?_))) trivial ?_
  refine dl0 (gy rfl rfl rfl rfl rfl rfl) rfl rfl (step_eql22 (q := true) rfl rfl rfl (fillP_len 1 1) (fillP_len 1 1) (decide_eq_true rfl)) trivial ?_
  refine dl0 (gn rfl) rfl rfl (step_pick rfl (ev_mk rfl) (ev_mk rfl)) trivial ?_
  refine dl0 (gn rfl) rfl rfl (step_mv rfl rfl) trivial ?_
  refine dl0 (gy rfl rfl rfl rfl rfl rfl) rfl rfl (step_mv rfl rfl) trivial ?_
  refine dl_eql (gy rfl rfl rfl rfl rfl rfl) rfl rfl rfl rfl rfl (fun h14 => ?_) (fun h14 => ?_)
  rotate_left
  · omega
  refine dl0 (gn rfl) rfl rfl (step_pick rfl (ev_mk rfl) (ev_mk rfl)) trivial ?_
  refine dl0 (gn rfl) rfl rfl (step_mv rfl rfl) trivial ?_
  refine dl0 (gy rfl rfl rfl rfl rfl rfl) rfl rfl (step_mv rfl rfl) trivial ?_
  refine dl_eql (gy rfl rfl rfl rfl rfl rfl) rfl rfl rfl rfl rfl (fun h15 => ?_) (fun h15 => ?_)
  rotate_left
  · omega
  refine dl0 (gn rfl) rfl rfl (step_pick rfl (ev_mk rfl) (ev_mk rfl)) trivial ?_
  refine dl0 (gn rfl) rfl rfl (step_mv rfl rfl) trivial ?_
  refine dl0 (gy rfl rfl rfl rfl rfl rfl) rfl rfl (step_callc rfl Try.func6 rfl rfl rfl (hwk) (by repeat (first | exact .nil | refine .cons ?_ ?_ | exact VLe.refl _ | exact VLe.own_sl _ _ _ | exact VLe.fl_sl _ _ | exact VLe.nil_sl _ | exact VLe.nil_fl _ | refine VLe.agg ?_))) trivial ?_
  refine dl0 (gn rfl) rfl rfl (step_pick rfl (ev_mk rfl) (ev_mk rfl)) trivial ?_
  refine dl0 (gn rfl) rfl rfl (step_as rfl rfl) trivial ?_
  refine dlnil ?_ ?_
  · repeat' (first | exact trivial | exact .inr (ap0 _ _ _ _) | exact .inr (ap2 _ _ _ _) | exact .inr (ap3 _ _ _ _) | exact .inr ⟨by first | (simp; done) | (simp; omega), by first | (simp; done) | (simp; omega)⟩ | exact .inl (by kernel_rfl) | refine ⟨?_, ?_⟩ | fail)
  refine runs_ret ?_
  refine ⟨by first | exact .inr rfl | exact .inl rfl, fin_mk (rest rfl res0) ?_ ?_ ?_ ?_⟩
  · first | exact VLe.refl _ | exact VLe.own_sl _ _ _ | exact VLe.fl_sl _ _
  · repeat (first | exact trivial | assumption | omega | exact bd_bs | exact bd_row | exact bd_secs | exact bd_bools | refine ⟨?_, ?_⟩ | fail)
  · intro k hk; exact ble (by first | exact rfl | (refine (upd_ne _ _ _ _ (by omega)).trans ?_; first | exact rfl | skip; repeat (first | exact rfl | refine (upd_ne _ _ _ _ (by omega)).trans ?_ | assumption | exact hf0 _ (by omega) | exact hf1 _ (by omega) | exact hf2 _ (by omega) | exact hf0 _ (by omega) (by first | assumption | omega) | exact hf1 _ (by omega) (by first | assumption | omega))) | exact hf0 _ (by omega) | exact hf1 _ (by omega) | exact hf2 _ (by omega) | exact hf0 _ (by omega) (by first | assumption | omega) | exact hf1 _ (by omega) (by first | assumption | omega))
  · intro p hp; cases hp
end Go.Proofs.Ytdcmcmgbnkolbaa
