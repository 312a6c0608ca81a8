/- Walks of the leaf, by the logic of values. -/
import Derived.Test.YtdcmcmgbnkolbaaVc
import Derived.Test.YtdcmcmgbnkolbaaVmK
namespace Go.Proofs.Ytdcmcmgbnkolbaa
open Go.Vm
set_option linter.unusedVariables false
set_option linter.unusedSimpArgs false
def beB : Nat → Int → List Int
  | 0, _ => []
  | k + 1, v => beB k (v / 256) ++ [v % 256]
def U64 (v : Int) : Prop := 0 ≤ v ∧ v < 18446744073709551616
theorem beB_len : ∀ (k : Nat) (v : Int), (beB k v).length = k
  | 0, _ => rfl
  | k + 1, v => by simp [beB, beB_len k]
theorem beB_bytes : ∀ (k : Nat) (v : Int), bytes (beB k v)
  | 0, _ => fun x h => by cases h
  | k + 1, v => fun x h => by
    rcases List.mem_append.1 h with h | h
    · exact beB_bytes k _ x h
    · rw [List.mem_singleton] at h; subst h; omega
theorem beB_snoc (k : Nat) (v : Int) : bytesV (beB k (v / 256)) ++ [[.sc (.int .u8 (v % 256))]] = bytesV (beB (k + 1) v) := by
  simp [beB, bytesV, bV]
def wB (v : Int) (j : Nat) : List Int := (List.range j).map fun t => v / 256 ^ (7 - t) % 256
theorem wB_snoc (v : Int) (j : Nat) : bytesV (wB v j) ++ [[.sc (.int .u8 (v / 256 ^ (7 - j) % 256))]] = bytesV (wB v (j + 1)) := by
  simp [wB, bytesV, bV, List.range_succ]
theorem wB_8 (v : Int) : wB v 8 = beB 8 v := by
  show [v / 256 ^ 7 % 256, v / 256 ^ 6 % 256, v / 256 ^ 5 % 256, v / 256 ^ 4 % 256, v / 256 ^ 3 % 256, v / 256 ^ 2 % 256, v / 256 ^ 1 % 256, v / 256 ^ 0 % 256] = [v / 256 / 256 / 256 / 256 / 256 / 256 / 256 % 256, v / 256 / 256 / 256 / 256 / 256 / 256 % 256, v / 256 / 256 / 256 / 256 / 256 % 256, v / 256 / 256 / 256 / 256 % 256, v / 256 / 256 / 256 % 256, v / 256 / 256 % 256, v / 256 % 256, v % 256]
  simp only [List.cons.injEq, and_true]
  refine ⟨?_, ?_, ?_, ?_, ?_, ?_, ?_, ?_⟩ <;> omega
theorem shr_eq {v : Int} (hv : U64 v) {i : Int} {j : Nat} (hi : i = 7 - (j : Int)) (hj : j < 8) : v.fdiv (2 ^ (min (8 * i).toNat IntKind.u64.bits)) = v / 256 ^ (7 - j) := by
  have e : min (8 * i).toNat IntKind.u64.bits = 8 * (7 - j) := by
    show min (8 * i).toNat 64 = _; omega
  rw [e, Int.pow_mul, Int.fdiv_eq_ediv_of_nonneg _ (by
    have : (0 : Int) ≤ (2 ^ 8) ^ (7 - j) := Int.pow_nonneg (by decide)
    exact this)]
  rfl
theorem wrap_u8 (x : Int) : IntKind.u8.wrap x = x % 256 := by unfold IntKind.wrap; simp [IntKind.signed, IntKind.bits]
set_option maxRecDepth 100000 in
set_option maxHeartbeats 4000000 in
theorem rput_0 (v s_ : Int) (h : s_ = 0) : Does Try.prog 24 [.sc (.int .u64 v), .sc (.int .i64 s_)] [] [] (.sc (.slice none 0 0)) := by
  refine does_mk 20 Try.func24 rfl rfl rfl (fun n B bx hd hpre hup hvs hbx => ?_)
  refine runs_seq ?_
  refine runs_region ?_
  refine rl0 (gn rfl) rfl rfl (step_as rfl rfl) trivial ?_
  refine runsL_nil ?_
  refine runs_seq ?_
  refine runs_seq ?_
  refine runs_region ?_
  refine rl0 (gn rfl) rfl rfl (step_mv rfl rfl) trivial ?_
  refine rl_leq (gn rfl) rfl rfl rfl rfl rfl (fun h1 => ?_) (fun h1 => ?_)
  · skip
    refine runsL_nil ?_
    refine runs_cond true (ev_mk rfl) (fun _ => ?_) (fun h_ => nomatch h_)
    refine runs_seq ?_
    refine runs_region ?_
    refine rl0 (gn rfl) rfl rfl (step_as rfl rfl) trivial ?_
    refine runsL_nil ?_
    refine runs_ret ?_
    refine ⟨by first | exact .inr rfl | exact .inl rfl, fin_mk (rest rfl res0) ?_ ?_ ?_ ?_⟩
    · first | exact VLe.refl _ | exact VLe.own_sl _ _ _ | exact VLe.fl_sl _ _
    · repeat (first | exact trivial | assumption | omega | exact bd_bs | exact bd_row | exact bd_secs | exact bd_bools | refine ⟨?_, ?_⟩ | fail)
    · intro k hk; exact ble (by first | exact rfl | (refine (upd_ne _ _ _ _ (by omega)).trans ?_; first | exact rfl | skip; repeat (first | exact rfl | refine (upd_ne _ _ _ _ (by omega)).trans ?_ | assumption | exact hf0 _ (by omega) | exact hf1 _ (by omega) | exact hf2 _ (by omega) | exact hf0 _ (by omega) (by first | assumption | omega) | exact hf1 _ (by omega) (by first | assumption | omega))) | exact hf0 _ (by omega) | exact hf1 _ (by omega) | exact hf2 _ (by omega) | exact hf0 _ (by omega) (by first | assumption | omega) | exact hf1 _ (by omega) (by first | assumption | omega))
    · intro p hp; cases hp
  · skip
    exact absurd h (by omega)
set_option maxRecDepth 100000 in
set_option maxHeartbeats 4000000 in
theorem rput_1 (v s_ : Int) (kk : Nat) (hv : U64 v) (h : s_ = 1) : Does Try.prog 24 [.sc (.int .u64 v), .sc (.int .i64 s_)] [(kk, .dead)] [(kk, .tail (bytesV (beB 1 v)).length)] (.own 1 (bytesV (beB 1 v)) kk) := by
  refine does_mk 20 Try.func24 rfl rfl rfl (fun n B bx hd hpre hup hvs hbx => ?_)
  have hp0 := hpre.1
  have hu0 := hup.1
  unfold U64 at hv
  refine runs_seq ?_
  refine runs_region ?_
  refine rl0 (gn rfl) rfl rfl (step_as rfl rfl) trivial ?_
  refine runsL_nil ?_
  refine runs_seq ?_
  refine runs_seq ?_
  refine runs_region ?_
  refine rl0 (gn rfl) rfl rfl (step_mv rfl rfl) trivial ?_
  refine rl_leq (gn rfl) rfl rfl rfl rfl rfl (fun h1 => ?_) (fun h1 => ?_)
  · skip
    exact absurd h (by omega)
  · skip
    refine runsL_nil ?_
    refine runs_cond false (ev_mk rfl) (fun h_ => nomatch h_) (fun _ => ?_)
    refine runs_skip ?_
    refine runs_seq ?_
    refine runs_region ?_
    refine rl0 (gn rfl) rfl rfl (step_mv rfl rfl) trivial ?_
    refine rl0 (gn rfl) rfl rfl (step_quo rfl (ev_mk rfl) (ev_mk rfl) (by omega) (by omega) (wu64 (by omega))) trivial ?_
    refine rl0 (gn rfl) rfl rfl (step_mv rfl rfl) trivial ?_
    refine rl0 (gn rfl) rfl rfl (step_sub rfl (ev_mk rfl) (ev_mk rfl) (w64 (by omega))) trivial ?_
    refine rl0 (gn rfl) rfl rfl (step_callc rfl Try.func24 rfl rfl rfl (rput_0 (v / 256) (s_ - 1) (by omega)) (by repeat (first | exact .nil | refine .cons ?_ ?_ | exact VLe.refl _ | exact VLe.own_sl _ _ _ | exact VLe.fl_sl _ _ | exact VLe.nil_sl _ | exact VLe.nil_fl _ | refine VLe.agg ?_))) trivial ?_
    refine rl0 (gn rfl) rfl rfl (step_mv rfl rfl) trivial ?_
    refine rl0 (gn rfl) rfl rfl (step_rem rfl (ev_mk rfl) (ev_mk rfl) (by omega) (by omega)) trivial ?_
    refine rl0 (gn rfl) rfl rfl (step_conv_id rfl rfl Try.underlying23 Try.underlying5 (wu8 (by omega))) trivial ?_
    refine rl0 (gn rfl) rfl rfl (step_lit rfl Try.underlying48 F.sz5 F.zero5 (by first | rfl | simp) (by first | rfl | simp | decide) (by decide) rfl rfl (by first | (simp [V.cs, V.stor, oneV]; done) | (simp [V.cs, V.stor, oneV])) rfl) trivial ?_
    first
      | (refine' rl1 (gn rfl) rfl rfl (step_append_own rfl rfl rfl Try.underlying48 ⟨_, Try.underlying48, fun k_ => by intro h_; cases h_⟩ F.el5 (ev_mk rfl) (ev_mk rfl) (gives_sl (.inl rfl)) ?hg) ⟨?hb, trivial⟩ (by omega) ?_; (case hb => repeat (first | exact upd_eq _ _ _ | refine (upd_ne _ _ _ _ (by omega)).trans ?_ | assumption | exact hd _ (by omega) | exact hd0 _ (by omega) | exact hd1 _ (by omega) | exact hd2 _ (by omega) | fail)); (case hg => first | (simp; omega) | (simp; done) | omega))
      | (refine' rl1 (gn rfl) rfl rfl (step_append_new (k := kk) rfl rfl rfl Try.underlying48 ⟨_, Try.underlying48, fun k_ => by intro h_; cases h_⟩ F.el5 (ev_mk rfl) (.inl rfl) (ev_mk rfl) (gives_sl (.inl rfl)) ?hg) ⟨?hb, trivial⟩ (by omega) ?_; (case hb => repeat (first | exact upd_eq _ _ _ | refine (upd_ne _ _ _ _ (by omega)).trans ?_ | assumption | exact hd _ (by omega) | exact hd0 _ (by omega) | exact hd1 _ (by omega) | exact hd2 _ (by omega) | fail)); (case hg => first | (simp; omega) | (simp; done) | omega))
      | (refine' rl1 (gn rfl) rfl rfl (step_append_new (k := kk) (xs := []) rfl rfl rfl Try.underlying48 ⟨_, Try.underlying48, fun k_ => by intro h_; cases h_⟩ F.el5 (ev_mk rfl) (.inr ⟨rfl, rfl⟩) (ev_mk rfl) (gives_sl (.inl rfl)) ?hg) ⟨?hb, trivial⟩ (by omega) ?_; (case hb => repeat (first | exact upd_eq _ _ _ | refine (upd_ne _ _ _ _ (by omega)).trans ?_ | assumption | exact hd _ (by omega) | exact hd0 _ (by omega) | exact hd1 _ (by omega) | exact hd2 _ (by omega) | fail)); (case hg => first | (simp; omega) | (simp; done) | omega))
      | (refine' rl1 (gn rfl) rfl rfl (step_append_own rfl rfl rfl Try.underlying48 ⟨_, Try.underlying48, fun k_ => by intro h_; cases h_⟩ F.el5 (ev_mk rfl) (ev_mk rfl) (gives_sl (.inr (.inl rfl))) ?hg) ⟨?hb, trivial⟩ (by omega) ?_; (case hb => repeat (first | exact upd_eq _ _ _ | refine (upd_ne _ _ _ _ (by omega)).trans ?_ | assumption | exact hd _ (by omega) | exact hd0 _ (by omega) | exact hd1 _ (by omega) | exact hd2 _ (by omega) | fail)); (case hg => first | (simp; omega) | (simp; done) | omega))
      | (refine' rl1 (gn rfl) rfl rfl (step_append_new (k := kk) rfl rfl rfl Try.underlying48 ⟨_, Try.underlying48, fun k_ => by intro h_; cases h_⟩ F.el5 (ev_mk rfl) (.inl rfl) (ev_mk rfl) (gives_sl (.inr (.inl rfl))) ?hg) ⟨?hb, trivial⟩ (by omega) ?_; (case hb => repeat (first | exact upd_eq _ _ _ | refine (upd_ne _ _ _ _ (by omega)).trans ?_ | assumption | exact hd _ (by omega) | exact hd0 _ (by omega) | exact hd1 _ (by omega) | exact hd2 _ (by omega) | fail)); (case hg => first | (simp; omega) | (simp; done) | omega))
      | (refine' rl1 (gn rfl) rfl rfl (step_append_new (k := kk) (xs := []) rfl rfl rfl Try.underlying48 ⟨_, Try.underlying48, fun k_ => by intro h_; cases h_⟩ F.el5 (ev_mk rfl) (.inr ⟨rfl, rfl⟩) (ev_mk rfl) (gives_sl (.inr (.inl rfl))) ?hg) ⟨?hb, trivial⟩ (by omega) ?_; (case hb => repeat (first | exact upd_eq _ _ _ | refine (upd_ne _ _ _ _ (by omega)).trans ?_ | assumption | exact hd _ (by omega) | exact hd0 _ (by omega) | exact hd1 _ (by omega) | exact hd2 _ (by omega) | fail)); (case hg => first | (simp; omega) | (simp; done) | omega))
      | (refine' rl1 (gn rfl) rfl rfl (step_append_own rfl rfl rfl Try.underlying48 ⟨_, Try.underlying48, fun k_ => by intro h_; cases h_⟩ F.el5 (ev_mk rfl) (ev_mk rfl) (gives_sl (.inr (.inr ⟨_, rfl⟩))) ?hg) ⟨?hb, trivial⟩ (by omega) ?_; (case hb => repeat (first | exact upd_eq _ _ _ | refine (upd_ne _ _ _ _ (by omega)).trans ?_ | assumption | exact hd _ (by omega) | exact hd0 _ (by omega) | exact hd1 _ (by omega) | exact hd2 _ (by omega) | fail)); (case hg => first | (simp; omega) | (simp; done) | omega))
      | (refine' rl1 (gn rfl) rfl rfl (step_append_new (k := kk) rfl rfl rfl Try.underlying48 ⟨_, Try.underlying48, fun k_ => by intro h_; cases h_⟩ F.el5 (ev_mk rfl) (.inl rfl) (ev_mk rfl) (gives_sl (.inr (.inr ⟨_, rfl⟩))) ?hg) ⟨?hb, trivial⟩ (by omega) ?_; (case hb => repeat (first | exact upd_eq _ _ _ | refine (upd_ne _ _ _ _ (by omega)).trans ?_ | assumption | exact hd _ (by omega) | exact hd0 _ (by omega) | exact hd1 _ (by omega) | exact hd2 _ (by omega) | fail)); (case hg => first | (simp; omega) | (simp; done) | omega))
      | (refine' rl1 (gn rfl) rfl rfl (step_append_new (k := kk) (xs := []) rfl rfl rfl Try.underlying48 ⟨_, Try.underlying48, fun k_ => by intro h_; cases h_⟩ F.el5 (ev_mk rfl) (.inr ⟨rfl, rfl⟩) (ev_mk rfl) (gives_sl (.inr (.inr ⟨_, rfl⟩))) ?hg) ⟨?hb, trivial⟩ (by omega) ?_; (case hb => repeat (first | exact upd_eq _ _ _ | refine (upd_ne _ _ _ _ (by omega)).trans ?_ | assumption | exact hd _ (by omega) | exact hd0 _ (by omega) | exact hd1 _ (by omega) | exact hd2 _ (by omega) | fail)); (case hg => first | (simp; omega) | (simp; done) | omega))
      | (refine' rl1 (gn rfl) rfl rfl (step_append_own rfl rfl rfl Try.underlying48 ⟨_, Try.underlying48, fun k_ => by intro h_; cases h_⟩ F.el5 (ev_mk rfl) (ev_mk rfl) gives_nil ?hg) ⟨?hb, trivial⟩ (by omega) ?_; (case hb => repeat (first | exact upd_eq _ _ _ | refine (upd_ne _ _ _ _ (by omega)).trans ?_ | assumption | exact hd _ (by omega) | exact hd0 _ (by omega) | exact hd1 _ (by omega) | exact hd2 _ (by omega) | fail)); (case hg => first | (simp; omega) | (simp; done) | omega))
      | (refine' rl1 (gn rfl) rfl rfl (step_append_new (k := kk) rfl rfl rfl Try.underlying48 ⟨_, Try.underlying48, fun k_ => by intro h_; cases h_⟩ F.el5 (ev_mk rfl) (.inl rfl) (ev_mk rfl) gives_nil ?hg) ⟨?hb, trivial⟩ (by omega) ?_; (case hb => repeat (first | exact upd_eq _ _ _ | refine (upd_ne _ _ _ _ (by omega)).trans ?_ | assumption | exact hd _ (by omega) | exact hd0 _ (by omega) | exact hd1 _ (by omega) | exact hd2 _ (by omega) | fail)); (case hg => first | (simp; omega) | (simp; done) | omega))
      | (refine' rl1 (gn rfl) rfl rfl (step_append_new (k := kk) (xs := []) rfl rfl rfl Try.underlying48 ⟨_, Try.underlying48, fun k_ => by intro h_; cases h_⟩ F.el5 (ev_mk rfl) (.inr ⟨rfl, rfl⟩) (ev_mk rfl) gives_nil ?hg) ⟨?hb, trivial⟩ (by omega) ?_; (case hb => repeat (first | exact upd_eq _ _ _ | refine (upd_ne _ _ _ _ (by omega)).trans ?_ | assumption | exact hd _ (by omega) | exact hd0 _ (by omega) | exact hd1 _ (by omega) | exact hd2 _ (by omega) | fail)); (case hg => first | (simp; omega) | (simp; done) | omega))
      | (refine' rl1 (gn rfl) rfl rfl (step_append_own rfl rfl rfl Try.underlying48 ⟨_, Try.underlying48, fun k_ => by intro h_; cases h_⟩ F.el5 (ev_mk rfl) (ev_mk rfl) (gives_msl ?hl ?hy) ?hg) ⟨?hb, ⟨?hm, trivial⟩⟩ (by omega) ?_; (case hb => repeat (first | exact upd_eq _ _ _ | refine (upd_ne _ _ _ _ (by omega)).trans ?_ | assumption | exact hd _ (by omega) | exact hd0 _ (by omega) | exact hd1 _ (by omega) | exact hd2 _ (by omega) | fail)); (case hg => first | (simp; omega) | (simp; done) | omega); (case hm => repeat (first | exact upd_eq _ _ _ | refine (upd_ne _ _ _ _ (by omega)).trans ?_ | assumption | exact hd _ (by omega) | exact hd0 _ (by omega) | exact hd1 _ (by omega) | exact hd2 _ (by omega) | fail)); (case hl => (simp; omega)); (case hy => rfl))
      | (refine' rl1 (gn rfl) rfl rfl (step_append_new (k := kk) rfl rfl rfl Try.underlying48 ⟨_, Try.underlying48, fun k_ => by intro h_; cases h_⟩ F.el5 (ev_mk rfl) (.inl rfl) (ev_mk rfl) (gives_msl ?hl ?hy) ?hg) ⟨?hb, ⟨?hm, trivial⟩⟩ (by omega) ?_; (case hb => repeat (first | exact upd_eq _ _ _ | refine (upd_ne _ _ _ _ (by omega)).trans ?_ | assumption | exact hd _ (by omega) | exact hd0 _ (by omega) | exact hd1 _ (by omega) | exact hd2 _ (by omega) | fail)); (case hg => first | (simp; omega) | (simp; done) | omega); (case hm => repeat (first | exact upd_eq _ _ _ | refine (upd_ne _ _ _ _ (by omega)).trans ?_ | assumption | exact hd _ (by omega) | exact hd0 _ (by omega) | exact hd1 _ (by omega) | exact hd2 _ (by omega) | fail)); (case hl => (simp; omega)); (case hy => rfl))
      | (refine' rl1 (gn rfl) rfl rfl (step_append_new (k := kk) (xs := []) rfl rfl rfl Try.underlying48 ⟨_, Try.underlying48, fun k_ => by intro h_; cases h_⟩ F.el5 (ev_mk rfl) (.inr ⟨rfl, rfl⟩) (ev_mk rfl) (gives_msl ?hl ?hy) ?hg) ⟨?hb, ⟨?hm, trivial⟩⟩ (by omega) ?_; (case hb => repeat (first | exact upd_eq _ _ _ | refine (upd_ne _ _ _ _ (by omega)).trans ?_ | assumption | exact hd _ (by omega) | exact hd0 _ (by omega) | exact hd1 _ (by omega) | exact hd2 _ (by omega) | fail)); (case hg => first | (simp; omega) | (simp; done) | omega); (case hm => repeat (first | exact upd_eq _ _ _ | refine (upd_ne _ _ _ _ (by omega)).trans ?_ | assumption | exact hd _ (by omega) | exact hd0 _ (by omega) | exact hd1 _ (by omega) | exact hd2 _ (by omega) | fail)); (case hl => (simp; omega)); (case hy => rfl))
    refine rl0 (gn rfl) rfl rfl (step_as rfl rfl) trivial ?_
    refine runsL_nil ?_
    refine runs_ret ?_
    refine ⟨by first | exact .inr rfl | exact .inl rfl, fin_mk (rest rfl res0) ?_ ?_ ?_ ?_⟩
    · first | exact VLe.refl _ | exact VLe.own_sl _ _ _ | exact VLe.fl_sl _ _
    · exact ⟨bdR_map fun _ => ⟨trivial, trivial⟩, hu0⟩
    · intro k hk; simp only [upds]; by_cases e_ : k = kk; (focus subst e_; refine bl_eq ?_; refine ble ?_; rw [upd_eq]; (first | rfl | (rw [← beB_snoc]; done) | (rw [← beB_snoc]; rfl) | skip)); refine bl_ne e_ ?_; exact ble (by first | exact rfl | (refine (upd_ne _ _ _ _ (by omega)).trans ?_; first | exact rfl | skip; repeat (first | exact rfl | refine (upd_ne _ _ _ _ (by omega)).trans ?_ | assumption | exact hf0 _ (by omega) | exact hf1 _ (by omega) | exact hf2 _ (by omega) | exact hf0 _ (by omega) (by first | assumption | omega) | exact hf1 _ (by omega) (by first | assumption | omega))) | exact hf0 _ (by omega) | exact hf1 _ (by omega) | exact hf2 _ (by omega) | exact hf0 _ (by omega) (by first | assumption | omega) | exact hf1 _ (by omega) (by first | assumption | omega))
    · intro p hp cs hcs; simp only [List.mem_cons, List.not_mem_nil, or_false] at hp; subst hp; cases hcs
set_option maxRecDepth 100000 in
set_option maxHeartbeats 4000000 in
theorem rput_s (k : Nat) (hk : k ≤ 1000) (ih : (∀ (v s_ : Int) (kk : Nat), U64 v → s_ = (k : Int) → Does Try.prog 24 [.sc (.int .u64 v), .sc (.int .i64 s_)] [(kk, .dead)] [(kk, .tail (bytesV (beB k v)).length)] (.own 1 (bytesV (beB k v)) kk))) (v s_ : Int) (kk : Nat) (hv : U64 v) (h : s_ = (k : Int) + 1) : Does Try.prog 24 [.sc (.int .u64 v), .sc (.int .i64 s_)] [(kk, .dead)] [(kk, .tail (bytesV (beB (k + 1) v)).length)] (.own 1 (bytesV (beB (k + 1) v)) kk) := by
  refine does_mk 20 Try.func24 rfl rfl rfl (fun n B bx hd hpre hup hvs hbx => ?_)
  have hp0 := hpre.1
  have hu0 := hup.1
  unfold U64 at hv
  refine runs_seq ?_
  refine runs_region ?_
  refine rl0 (gn rfl) rfl rfl (step_as rfl rfl) trivial ?_
  refine runsL_nil ?_
  refine runs_seq ?_
  refine runs_seq ?_
  refine runs_region ?_
  refine rl0 (gn rfl) rfl rfl (step_mv rfl rfl) trivial ?_
  refine rl_leq (gn rfl) rfl rfl rfl rfl rfl (fun h1 => ?_) (fun h1 => ?_)
  · skip
    exact absurd h (by omega)
  · skip
    refine runsL_nil ?_
    refine runs_cond false (ev_mk rfl) (fun h_ => nomatch h_) (fun _ => ?_)
    refine runs_skip ?_
    refine runs_seq ?_
    refine runs_region ?_
    refine rl0 (gn rfl) rfl rfl (step_mv rfl rfl) trivial ?_
    refine rl0 (gn rfl) rfl rfl (step_quo rfl (ev_mk rfl) (ev_mk rfl) (by omega) (by omega) (wu64 (by omega))) trivial ?_
    refine rl0 (gn rfl) rfl rfl (step_mv rfl rfl) trivial ?_
    refine rl0 (gn rfl) rfl rfl (step_sub rfl (ev_mk rfl) (ev_mk rfl) (w64 (by omega))) trivial ?_
    refine rl1 (gn rfl) rfl rfl (step_callc rfl Try.func24 rfl rfl rfl (ih (v / 256) (s_ - 1) kk (by unfold U64; omega) (by omega)) (by repeat (first | exact .nil | refine .cons ?_ ?_ | exact VLe.refl _ | exact VLe.own_sl _ _ _ | exact VLe.fl_sl _ _ | exact VLe.nil_sl _ | exact VLe.nil_fl _ | refine VLe.agg ?_))) ⟨by repeat (first | exact upd_eq _ _ _ | refine (upd_ne _ _ _ _ (by omega)).trans ?_ | assumption | exact hd _ (by omega) | exact hd0 _ (by omega) | exact hd1 _ (by omega) | exact hd2 _ (by omega) | fail), trivial⟩ (by omega) ?_
    refine rl0 (gn rfl) rfl rfl (step_mv rfl rfl) trivial ?_
    refine rl0 (gn rfl) rfl rfl (step_rem rfl (ev_mk rfl) (ev_mk rfl) (by omega) (by omega)) trivial ?_
    refine rl0 (gn rfl) rfl rfl (step_conv_id rfl rfl Try.underlying23 Try.underlying5 (wu8 (by omega))) trivial ?_
    refine rl0 (gn rfl) rfl rfl (step_lit rfl Try.underlying48 F.sz5 F.zero5 (by first | rfl | simp) (by first | rfl | simp | decide) (by decide) rfl rfl (by first | (simp [V.cs, V.stor, oneV]; done) | (simp [V.cs, V.stor, oneV])) rfl) trivial ?_
    first
      | (refine' rl1 (gn rfl) rfl rfl (step_append_own rfl rfl rfl Try.underlying48 ⟨_, Try.underlying48, fun k_ => by intro h_; cases h_⟩ F.el5 (ev_mk rfl) (ev_mk rfl) (gives_sl (.inl rfl)) ?hg) ⟨?hb, trivial⟩ (by omega) ?_; (case hb => repeat (first | exact upd_eq _ _ _ | refine (upd_ne _ _ _ _ (by omega)).trans ?_ | assumption | exact hd _ (by omega) | exact hd0 _ (by omega) | exact hd1 _ (by omega) | exact hd2 _ (by omega) | fail)); (case hg => (rw [bytesV, List.length_map, beB_len]; simp; omega)))
      | (refine' rl1 (gn rfl) rfl rfl (step_append_new (k := n + 0) rfl rfl rfl Try.underlying48 ⟨_, Try.underlying48, fun k_ => by intro h_; cases h_⟩ F.el5 (ev_mk rfl) (.inl rfl) (ev_mk rfl) (gives_sl (.inl rfl)) ?hg) ⟨?hb, trivial⟩ (by omega) ?_; (case hb => repeat (first | exact upd_eq _ _ _ | refine (upd_ne _ _ _ _ (by omega)).trans ?_ | assumption | exact hd _ (by omega) | exact hd0 _ (by omega) | exact hd1 _ (by omega) | exact hd2 _ (by omega) | fail)); (case hg => (rw [bytesV, List.length_map, beB_len]; simp; omega)))
      | (refine' rl1 (gn rfl) rfl rfl (step_append_new (k := n + 0) (xs := []) rfl rfl rfl Try.underlying48 ⟨_, Try.underlying48, fun k_ => by intro h_; cases h_⟩ F.el5 (ev_mk rfl) (.inr ⟨rfl, rfl⟩) (ev_mk rfl) (gives_sl (.inl rfl)) ?hg) ⟨?hb, trivial⟩ (by omega) ?_; (case hb => repeat (first | exact upd_eq _ _ _ | refine (upd_ne _ _ _ _ (by omega)).trans ?_ | assumption | exact hd _ (by omega) | exact hd0 _ (by omega) | exact hd1 _ (by omega) | exact hd2 _ (by omega) | fail)); (case hg => (rw [bytesV, List.length_map, beB_len]; simp; omega)))
      | (refine' rl1 (gn rfl) rfl rfl (step_append_own rfl rfl rfl Try.underlying48 ⟨_, Try.underlying48, fun k_ => by intro h_; cases h_⟩ F.el5 (ev_mk rfl) (ev_mk rfl) (gives_sl (.inr (.inl rfl))) ?hg) ⟨?hb, trivial⟩ (by omega) ?_; (case hb => repeat (first | exact upd_eq _ _ _ | refine (upd_ne _ _ _ _ (by omega)).trans ?_ | assumption | exact hd _ (by omega) | exact hd0 _ (by omega) | exact hd1 _ (by omega) | exact hd2 _ (by omega) | fail)); (case hg => (rw [bytesV, List.length_map, beB_len]; simp; omega)))
      | (refine' rl1 (gn rfl) rfl rfl (step_append_new (k := n + 0) rfl rfl rfl Try.underlying48 ⟨_, Try.underlying48, fun k_ => by intro h_; cases h_⟩ F.el5 (ev_mk rfl) (.inl rfl) (ev_mk rfl) (gives_sl (.inr (.inl rfl))) ?hg) ⟨?hb, trivial⟩ (by omega) ?_; (case hb => repeat (first | exact upd_eq _ _ _ | refine (upd_ne _ _ _ _ (by omega)).trans ?_ | assumption | exact hd _ (by omega) | exact hd0 _ (by omega) | exact hd1 _ (by omega) | exact hd2 _ (by omega) | fail)); (case hg => (rw [bytesV, List.length_map, beB_len]; simp; omega)))
      | (refine' rl1 (gn rfl) rfl rfl (step_append_new (k := n + 0) (xs := []) rfl rfl rfl Try.underlying48 ⟨_, Try.underlying48, fun k_ => by intro h_; cases h_⟩ F.el5 (ev_mk rfl) (.inr ⟨rfl, rfl⟩) (ev_mk rfl) (gives_sl (.inr (.inl rfl))) ?hg) ⟨?hb, trivial⟩ (by omega) ?_; (case hb => repeat (first | exact upd_eq _ _ _ | refine (upd_ne _ _ _ _ (by omega)).trans ?_ | assumption | exact hd _ (by omega) | exact hd0 _ (by omega) | exact hd1 _ (by omega) | exact hd2 _ (by omega) | fail)); (case hg => (rw [bytesV, List.length_map, beB_len]; simp; omega)))
      | (refine' rl1 (gn rfl) rfl rfl (step_append_own rfl rfl rfl Try.underlying48 ⟨_, Try.underlying48, fun k_ => by intro h_; cases h_⟩ F.el5 (ev_mk rfl) (ev_mk rfl) (gives_sl (.inr (.inr ⟨_, rfl⟩))) ?hg) ⟨?hb, trivial⟩ (by omega) ?_; (case hb => repeat (first | exact upd_eq _ _ _ | refine (upd_ne _ _ _ _ (by omega)).trans ?_ | assumption | exact hd _ (by omega) | exact hd0 _ (by omega) | exact hd1 _ (by omega) | exact hd2 _ (by omega) | fail)); (case hg => (rw [bytesV, List.length_map, beB_len]; simp; omega)))
      | (refine' rl1 (gn rfl) rfl rfl (step_append_new (k := n + 0) rfl rfl rfl Try.underlying48 ⟨_, Try.underlying48, fun k_ => by intro h_; cases h_⟩ F.el5 (ev_mk rfl) (.inl rfl) (ev_mk rfl) (gives_sl (.inr (.inr ⟨_, rfl⟩))) ?hg) ⟨?hb, trivial⟩ (by omega) ?_; (case hb => repeat (first | exact upd_eq _ _ _ | refine (upd_ne _ _ _ _ (by omega)).trans ?_ | assumption | exact hd _ (by omega) | exact hd0 _ (by omega) | exact hd1 _ (by omega) | exact hd2 _ (by omega) | fail)); (case hg => (rw [bytesV, List.length_map, beB_len]; simp; omega)))
      | (refine' rl1 (gn rfl) rfl rfl (step_append_new (k := n + 0) (xs := []) rfl rfl rfl Try.underlying48 ⟨_, Try.underlying48, fun k_ => by intro h_; cases h_⟩ F.el5 (ev_mk rfl) (.inr ⟨rfl, rfl⟩) (ev_mk rfl) (gives_sl (.inr (.inr ⟨_, rfl⟩))) ?hg) ⟨?hb, trivial⟩ (by omega) ?_; (case hb => repeat (first | exact upd_eq _ _ _ | refine (upd_ne _ _ _ _ (by omega)).trans ?_ | assumption | exact hd _ (by omega) | exact hd0 _ (by omega) | exact hd1 _ (by omega) | exact hd2 _ (by omega) | fail)); (case hg => (rw [bytesV, List.length_map, beB_len]; simp; omega)))
      | (refine' rl1 (gn rfl) rfl rfl (step_append_own rfl rfl rfl Try.underlying48 ⟨_, Try.underlying48, fun k_ => by intro h_; cases h_⟩ F.el5 (ev_mk rfl) (ev_mk rfl) gives_nil ?hg) ⟨?hb, trivial⟩ (by omega) ?_; (case hb => repeat (first | exact upd_eq _ _ _ | refine (upd_ne _ _ _ _ (by omega)).trans ?_ | assumption | exact hd _ (by omega) | exact hd0 _ (by omega) | exact hd1 _ (by omega) | exact hd2 _ (by omega) | fail)); (case hg => (rw [bytesV, List.length_map, beB_len]; simp; omega)))
      | (refine' rl1 (gn rfl) rfl rfl (step_append_new (k := n + 0) rfl rfl rfl Try.underlying48 ⟨_, Try.underlying48, fun k_ => by intro h_; cases h_⟩ F.el5 (ev_mk rfl) (.inl rfl) (ev_mk rfl) gives_nil ?hg) ⟨?hb, trivial⟩ (by omega) ?_; (case hb => repeat (first | exact upd_eq _ _ _ | refine (upd_ne _ _ _ _ (by omega)).trans ?_ | assumption | exact hd _ (by omega) | exact hd0 _ (by omega) | exact hd1 _ (by omega) | exact hd2 _ (by omega) | fail)); (case hg => (rw [bytesV, List.length_map, beB_len]; simp; omega)))
      | (refine' rl1 (gn rfl) rfl rfl (step_append_new (k := n + 0) (xs := []) rfl rfl rfl Try.underlying48 ⟨_, Try.underlying48, fun k_ => by intro h_; cases h_⟩ F.el5 (ev_mk rfl) (.inr ⟨rfl, rfl⟩) (ev_mk rfl) gives_nil ?hg) ⟨?hb, trivial⟩ (by omega) ?_; (case hb => repeat (first | exact upd_eq _ _ _ | refine (upd_ne _ _ _ _ (by omega)).trans ?_ | assumption | exact hd _ (by omega) | exact hd0 _ (by omega) | exact hd1 _ (by omega) | exact hd2 _ (by omega) | fail)); (case hg => (rw [bytesV, List.length_map, beB_len]; simp; omega)))
      | (refine' rl1 (gn rfl) rfl rfl (step_append_own rfl rfl rfl Try.underlying48 ⟨_, Try.underlying48, fun k_ => by intro h_; cases h_⟩ F.el5 (ev_mk rfl) (ev_mk rfl) (gives_msl ?hl ?hy) ?hg) ⟨?hb, ⟨?hm, trivial⟩⟩ (by omega) ?_; (case hb => repeat (first | exact upd_eq _ _ _ | refine (upd_ne _ _ _ _ (by omega)).trans ?_ | assumption | exact hd _ (by omega) | exact hd0 _ (by omega) | exact hd1 _ (by omega) | exact hd2 _ (by omega) | fail)); (case hg => (rw [bytesV, List.length_map, beB_len]; simp; omega)); (case hm => repeat (first | exact upd_eq _ _ _ | refine (upd_ne _ _ _ _ (by omega)).trans ?_ | assumption | exact hd _ (by omega) | exact hd0 _ (by omega) | exact hd1 _ (by omega) | exact hd2 _ (by omega) | fail)); (case hl => (simp; omega)); (case hy => rfl))
      | (refine' rl1 (gn rfl) rfl rfl (step_append_new (k := n + 0) rfl rfl rfl Try.underlying48 ⟨_, Try.underlying48, fun k_ => by intro h_; cases h_⟩ F.el5 (ev_mk rfl) (.inl rfl) (ev_mk rfl) (gives_msl ?hl ?hy) ?hg) ⟨?hb, ⟨?hm, trivial⟩⟩ (by omega) ?_; (case hb => repeat (first | exact upd_eq _ _ _ | refine (upd_ne _ _ _ _ (by omega)).trans ?_ | assumption | exact hd _ (by omega) | exact hd0 _ (by omega) | exact hd1 _ (by omega) | exact hd2 _ (by omega) | fail)); (case hg => (rw [bytesV, List.length_map, beB_len]; simp; omega)); (case hm => repeat (first | exact upd_eq _ _ _ | refine (upd_ne _ _ _ _ (by omega)).trans ?_ | assumption | exact hd _ (by omega) | exact hd0 _ (by omega) | exact hd1 _ (by omega) | exact hd2 _ (by omega) | fail)); (case hl => (simp; omega)); (case hy => rfl))
      | (refine' rl1 (gn rfl) rfl rfl (step_append_new (k := n + 0) (xs := []) rfl rfl rfl Try.underlying48 ⟨_, Try.underlying48, fun k_ => by intro h_; cases h_⟩ F.el5 (ev_mk rfl) (.inr ⟨rfl, rfl⟩) (ev_mk rfl) (gives_msl ?hl ?hy) ?hg) ⟨?hb, ⟨?hm, trivial⟩⟩ (by omega) ?_; (case hb => repeat (first | exact upd_eq _ _ _ | refine (upd_ne _ _ _ _ (by omega)).trans ?_ | assumption | exact hd _ (by omega) | exact hd0 _ (by omega) | exact hd1 _ (by omega) | exact hd2 _ (by omega) | fail)); (case hg => (rw [bytesV, List.length_map, beB_len]; simp; omega)); (case hm => repeat (first | exact upd_eq _ _ _ | refine (upd_ne _ _ _ _ (by omega)).trans ?_ | assumption | exact hd _ (by omega) | exact hd0 _ (by omega) | exact hd1 _ (by omega) | exact hd2 _ (by omega) | fail)); (case hl => (simp; omega)); (case hy => rfl))
    refine rl0 (gn rfl) rfl rfl (step_as rfl rfl) trivial ?_
    refine runsL_nil ?_
    refine runs_ret ?_
    refine ⟨by first | exact .inr rfl | exact .inl rfl, fin_mk (rest rfl res0) ?_ ?_ ?_ ?_⟩
    · rw [← beB_snoc]; exact VLe.refl _
    · exact ⟨bdR_map fun _ => ⟨trivial, trivial⟩, hu0⟩
    · intro k hk; simp only [upds]; by_cases e_ : k = kk; (focus subst e_; refine bl_eq ?_; refine ble ?_; rw [upd_eq]; (first | rfl | (rw [← beB_snoc]; done) | (rw [← beB_snoc]; rfl) | skip)); refine bl_ne e_ ?_; exact ble (by first | exact rfl | (refine (upd_ne _ _ _ _ (by omega)).trans ?_; first | exact rfl | skip; repeat (first | exact rfl | refine (upd_ne _ _ _ _ (by omega)).trans ?_ | assumption | exact hf0 _ (by omega) | exact hf1 _ (by omega) | exact hf2 _ (by omega) | exact hf0 _ (by omega) (by first | assumption | omega) | exact hf1 _ (by omega) (by first | assumption | omega))) | exact hf0 _ (by omega) | exact hf1 _ (by omega) | exact hf2 _ (by omega) | exact hf0 _ (by omega) (by first | assumption | omega) | exact hf1 _ (by omega) (by first | assumption | omega))
    · intro p hp cs hcs; simp only [List.mem_cons, List.not_mem_nil, or_false] at hp; subst hp; cases hcs
theorem rput_c : ∀ (k : Nat), k ≤ 1000 → ∀ (v s_ : Int) (kk : Nat), U64 v → s_ = ((k + 1 : Nat) : Int) → Does Try.prog 24 [.sc (.int .u64 v), .sc (.int .i64 s_)] [(kk, .dead)] [(kk, .tail (bytesV (beB (k + 1) v)).length)] (.own 1 (bytesV (beB (k + 1) v)) kk)
  | 0, _ => fun v s_ kk hv h => rput_1 v s_ kk hv (by omega)
  | k + 1, hk => fun v s_ kk hv h => rput_s (k + 1) (by omega) (rput_c k (by omega)) v s_ kk hv (by omega)
set_option maxRecDepth 100000 in
set_option maxHeartbeats 4000000 in
theorem wput_c (v : Int) (hv : U64 v) : Does Try.prog 21 [.sl 1 [], .sc (.int .u64 v), .sc (.int .i64 8)] [] [] (.sl 1 (bytesV (beB 8 v))) := by
  refine does_mk 20 Try.func21 rfl rfl rfl (fun n B bx hd hpre hup hvs hbx => ?_)
  have hv' := hv
  unfold U64 at hv'
  refine runs_seq ?_
  refine runs_region ?_
  refine rl0 (gn rfl) rfl rfl (step_as rfl rfl) trivial ?_
  refine runsL_nil ?_
  refine runs_seq ?_
  refine runs_region ?_
  refine rl0 (gn rfl) rfl rfl (step_lit rfl Try.underlying48 F.sz5 F.zero5 (by first | rfl | simp) (by first | rfl | simp | decide) (by decide) rfl rfl (by first | (simp [V.cs, V.stor, oneV]; done) | (simp [V.cs, V.stor, oneV])) rfl) trivial ?_
  refine rl0 (gn rfl) rfl rfl (step_mv rfl rfl) trivial ?_
  first
    | (refine' rl1 (gn rfl) rfl rfl (step_append_own rfl rfl rfl Try.underlying48 ⟨_, Try.underlying48, fun k_ => by intro h_; cases h_⟩ F.el5 (ev_mk rfl) (ev_mk rfl) (gives_sl (.inl rfl)) ?hg) ⟨?hb, trivial⟩ (by omega) ?_; (case hb => repeat (first | exact upd_eq _ _ _ | refine (upd_ne _ _ _ _ (by omega)).trans ?_ | assumption | exact hd _ (by omega) | exact hd0 _ (by omega) | exact hd1 _ (by omega) | exact hd2 _ (by omega) | fail)); (case hg => first | (simp; done) | (simp [bytesV, wB]; omega)))
    | (refine' rl1 (gn rfl) rfl rfl (step_append_new (k := n + 0) rfl rfl rfl Try.underlying48 ⟨_, Try.underlying48, fun k_ => by intro h_; cases h_⟩ F.el5 (ev_mk rfl) (.inl rfl) (ev_mk rfl) (gives_sl (.inl rfl)) ?hg) ⟨?hb, trivial⟩ (by omega) ?_; (case hb => repeat (first | exact upd_eq _ _ _ | refine (upd_ne _ _ _ _ (by omega)).trans ?_ | assumption | exact hd _ (by omega) | exact hd0 _ (by omega) | exact hd1 _ (by omega) | exact hd2 _ (by omega) | fail)); (case hg => first | (simp; done) | (simp [bytesV, wB]; omega)))
    | (refine' rl1 (gn rfl) rfl rfl (step_append_new (k := n + 0) (xs := []) rfl rfl rfl Try.underlying48 ⟨_, Try.underlying48, fun k_ => by intro h_; cases h_⟩ F.el5 (ev_mk rfl) (.inr ⟨rfl, rfl⟩) (ev_mk rfl) (gives_sl (.inl rfl)) ?hg) ⟨?hb, trivial⟩ (by omega) ?_; (case hb => repeat (first | exact upd_eq _ _ _ | refine (upd_ne _ _ _ _ (by omega)).trans ?_ | assumption | exact hd _ (by omega) | exact hd0 _ (by omega) | exact hd1 _ (by omega) | exact hd2 _ (by omega) | fail)); (case hg => first | (simp; done) | (simp [bytesV, wB]; omega)))
    | (refine' rl1 (gn rfl) rfl rfl (step_append_own rfl rfl rfl Try.underlying48 ⟨_, Try.underlying48, fun k_ => by intro h_; cases h_⟩ F.el5 (ev_mk rfl) (ev_mk rfl) (gives_sl (.inr (.inl rfl))) ?hg) ⟨?hb, trivial⟩ (by omega) ?_; (case hb => repeat (first | exact upd_eq _ _ _ | refine (upd_ne _ _ _ _ (by omega)).trans ?_ | assumption | exact hd _ (by omega) | exact hd0 _ (by omega) | exact hd1 _ (by omega) | exact hd2 _ (by omega) | fail)); (case hg => first | (simp; done) | (simp [bytesV, wB]; omega)))
    | (refine' rl1 (gn rfl) rfl rfl (step_append_new (k := n + 0) rfl rfl rfl Try.underlying48 ⟨_, Try.underlying48, fun k_ => by intro h_; cases h_⟩ F.el5 (ev_mk rfl) (.inl rfl) (ev_mk rfl) (gives_sl (.inr (.inl rfl))) ?hg) ⟨?hb, trivial⟩ (by omega) ?_; (case hb => repeat (first | exact upd_eq _ _ _ | refine (upd_ne _ _ _ _ (by omega)).trans ?_ | assumption | exact hd _ (by omega) | exact hd0 _ (by omega) | exact hd1 _ (by omega) | exact hd2 _ (by omega) | fail)); (case hg => first | (simp; done) | (simp [bytesV, wB]; omega)))
    | (refine' rl1 (gn rfl) rfl rfl (step_append_new (k := n + 0) (xs := []) rfl rfl rfl Try.underlying48 ⟨_, Try.underlying48, fun k_ => by intro h_; cases h_⟩ F.el5 (ev_mk rfl) (.inr ⟨rfl, rfl⟩) (ev_mk rfl) (gives_sl (.inr (.inl rfl))) ?hg) ⟨?hb, trivial⟩ (by omega) ?_; (case hb => repeat (first | exact upd_eq _ _ _ | refine (upd_ne _ _ _ _ (by omega)).trans ?_ | assumption | exact hd _ (by omega) | exact hd0 _ (by omega) | exact hd1 _ (by omega) | exact hd2 _ (by omega) | fail)); (case hg => first | (simp; done) | (simp [bytesV, wB]; omega)))
    | (refine' rl1 (gn rfl) rfl rfl (step_append_own rfl rfl rfl Try.underlying48 ⟨_, Try.underlying48, fun k_ => by intro h_; cases h_⟩ F.el5 (ev_mk rfl) (ev_mk rfl) (gives_sl (.inr (.inr ⟨_, rfl⟩))) ?hg) ⟨?hb, trivial⟩ (by omega) ?_; (case hb => repeat (first | exact upd_eq _ _ _ | refine (upd_ne _ _ _ _ (by omega)).trans ?_ | assumption | exact hd _ (by omega) | exact hd0 _ (by omega) | exact hd1 _ (by omega) | exact hd2 _ (by omega) | fail)); (case hg => first | (simp; done) | (simp [bytesV, wB]; omega)))
    | (refine' rl1 (gn rfl) rfl rfl (step_append_new (k := n + 0) rfl rfl rfl Try.underlying48 ⟨_, Try.underlying48, fun k_ => by intro h_; cases h_⟩ F.el5 (ev_mk rfl) (.inl rfl) (ev_mk rfl) (gives_sl (.inr (.inr ⟨_, rfl⟩))) ?hg) ⟨?hb, trivial⟩ (by omega) ?_; (case hb => repeat (first | exact upd_eq _ _ _ | refine (upd_ne _ _ _ _ (by omega)).trans ?_ | assumption | exact hd _ (by omega) | exact hd0 _ (by omega) | exact hd1 _ (by omega) | exact hd2 _ (by omega) | fail)); (case hg => first | (simp; done) | (simp [bytesV, wB]; omega)))
    | (refine' rl1 (gn rfl) rfl rfl (step_append_new (k := n + 0) (xs := []) rfl rfl rfl Try.underlying48 ⟨_, Try.underlying48, fun k_ => by intro h_; cases h_⟩ F.el5 (ev_mk rfl) (.inr ⟨rfl, rfl⟩) (ev_mk rfl) (gives_sl (.inr (.inr ⟨_, rfl⟩))) ?hg) ⟨?hb, trivial⟩ (by omega) ?_; (case hb => repeat (first | exact upd_eq _ _ _ | refine (upd_ne _ _ _ _ (by omega)).trans ?_ | assumption | exact hd _ (by omega) | exact hd0 _ (by omega) | exact hd1 _ (by omega) | exact hd2 _ (by omega) | fail)); (case hg => first | (simp; done) | (simp [bytesV, wB]; omega)))
    | (refine' rl1 (gn rfl) rfl rfl (step_append_own rfl rfl rfl Try.underlying48 ⟨_, Try.underlying48, fun k_ => by intro h_; cases h_⟩ F.el5 (ev_mk rfl) (ev_mk rfl) gives_nil ?hg) ⟨?hb, trivial⟩ (by omega) ?_; (case hb => repeat (first | exact upd_eq _ _ _ | refine (upd_ne _ _ _ _ (by omega)).trans ?_ | assumption | exact hd _ (by omega) | exact hd0 _ (by omega) | exact hd1 _ (by omega) | exact hd2 _ (by omega) | fail)); (case hg => first | (simp; done) | (simp [bytesV, wB]; omega)))
    | (refine' rl1 (gn rfl) rfl rfl (step_append_new (k := n + 0) rfl rfl rfl Try.underlying48 ⟨_, Try.underlying48, fun k_ => by intro h_; cases h_⟩ F.el5 (ev_mk rfl) (.inl rfl) (ev_mk rfl) gives_nil ?hg) ⟨?hb, trivial⟩ (by omega) ?_; (case hb => repeat (first | exact upd_eq _ _ _ | refine (upd_ne _ _ _ _ (by omega)).trans ?_ | assumption | exact hd _ (by omega) | exact hd0 _ (by omega) | exact hd1 _ (by omega) | exact hd2 _ (by omega) | fail)); (case hg => first | (simp; done) | (simp [bytesV, wB]; omega)))
    | (refine' rl1 (gn rfl) rfl rfl (step_append_new (k := n + 0) (xs := []) rfl rfl rfl Try.underlying48 ⟨_, Try.underlying48, fun k_ => by intro h_; cases h_⟩ F.el5 (ev_mk rfl) (.inr ⟨rfl, rfl⟩) (ev_mk rfl) gives_nil ?hg) ⟨?hb, trivial⟩ (by omega) ?_; (case hb => repeat (first | exact upd_eq _ _ _ | refine (upd_ne _ _ _ _ (by omega)).trans ?_ | assumption | exact hd _ (by omega) | exact hd0 _ (by omega) | exact hd1 _ (by omega) | exact hd2 _ (by omega) | fail)); (case hg => first | (simp; done) | (simp [bytesV, wB]; omega)))
    | (refine' rl1 (gn rfl) rfl rfl (step_append_own rfl rfl rfl Try.underlying48 ⟨_, Try.underlying48, fun k_ => by intro h_; cases h_⟩ F.el5 (ev_mk rfl) (ev_mk rfl) (gives_msl ?hl ?hy) ?hg) ⟨?hb, ⟨?hm, trivial⟩⟩ (by omega) ?_; (case hb => repeat (first | exact upd_eq _ _ _ | refine (upd_ne _ _ _ _ (by omega)).trans ?_ | assumption | exact hd _ (by omega) | exact hd0 _ (by omega) | exact hd1 _ (by omega) | exact hd2 _ (by omega) | fail)); (case hg => first | (simp; done) | (simp [bytesV, wB]; omega)); (case hm => repeat (first | exact upd_eq _ _ _ | refine (upd_ne _ _ _ _ (by omega)).trans ?_ | assumption | exact hd _ (by omega) | exact hd0 _ (by omega) | exact hd1 _ (by omega) | exact hd2 _ (by omega) | fail)); (case hl => (simp; omega)); (case hy => rfl))
    | (refine' rl1 (gn rfl) rfl rfl (step_append_new (k := n + 0) rfl rfl rfl Try.underlying48 ⟨_, Try.underlying48, fun k_ => by intro h_; cases h_⟩ F.el5 (ev_mk rfl) (.inl rfl) (ev_mk rfl) (gives_msl ?hl ?hy) ?hg) ⟨?hb, ⟨?hm, trivial⟩⟩ (by omega) ?_; (case hb => repeat (first | exact upd_eq _ _ _ | refine (upd_ne _ _ _ _ (by omega)).trans ?_ | assumption | exact hd _ (by omega) | exact hd0 _ (by omega) | exact hd1 _ (by omega) | exact hd2 _ (by omega) | fail)); (case hg => first | (simp; done) | (simp [bytesV, wB]; omega)); (case hm => repeat (first | exact upd_eq _ _ _ | refine (upd_ne _ _ _ _ (by omega)).trans ?_ | assumption | exact hd _ (by omega) | exact hd0 _ (by omega) | exact hd1 _ (by omega) | exact hd2 _ (by omega) | fail)); (case hl => (simp; omega)); (case hy => rfl))
    | (refine' rl1 (gn rfl) rfl rfl (step_append_new (k := n + 0) (xs := []) rfl rfl rfl Try.underlying48 ⟨_, Try.underlying48, fun k_ => by intro h_; cases h_⟩ F.el5 (ev_mk rfl) (.inr ⟨rfl, rfl⟩) (ev_mk rfl) (gives_msl ?hl ?hy) ?hg) ⟨?hb, ⟨?hm, trivial⟩⟩ (by omega) ?_; (case hb => repeat (first | exact upd_eq _ _ _ | refine (upd_ne _ _ _ _ (by omega)).trans ?_ | assumption | exact hd _ (by omega) | exact hd0 _ (by omega) | exact hd1 _ (by omega) | exact hd2 _ (by omega) | fail)); (case hg => first | (simp; done) | (simp [bytesV, wB]; omega)); (case hm => repeat (first | exact upd_eq _ _ _ | refine (upd_ne _ _ _ _ (by omega)).trans ?_ | assumption | exact hd _ (by omega) | exact hd0 _ (by omega) | exact hd1 _ (by omega) | exact hd2 _ (by omega) | fail)); (case hl => (simp; omega)); (case hy => rfl))
  refine rl0 (gn rfl) rfl rfl (step_as rfl rfl) trivial ?_
  refine runsL_nil ?_
  refine runs_seq ?_
  refine runs_seq ?_
  refine runs_region ?_
  refine rl0 (gn rfl) rfl rfl (step_mv rfl rfl) trivial ?_
  refine rl0 (gn rfl) rfl rfl (step_sub rfl (ev_mk rfl) (ev_mk rfl) (w64 (by omega))) trivial ?_
  refine rl0 (gn rfl) rfl rfl (step_as rfl rfl) trivial ?_
  refine runsL_nil ?_
  refine runs_block ?_
  refine runs_loop (fun (i : Nat) (s : Go.Vm.S) => ∃ (j : Nat) (m0 : Nat) (b0 : Nat → Box), (s = ⟨mk [(1, .sc (.int .u64 v)), (7, .own 1 (bytesV (wB v j)) (n + 0)), (8, .sc (.int .i64 (7 - (j : Int))))], m0, b0⟩) ∧ (i = 8 - j) ∧ (n + 1 ≤ m0) ∧ (∀ k, k < n → b0 k = bx k) ∧ (b0 (n + 0) = .tail (bytesV (wB v j)).length) ∧ (j ≤ 8)) (8) ⟨_, sle ?_ (Nat.le_refl _), 0, _, _, rfl, rfl, ?_⟩ ?_
  · (repeat' (first | exact trivial | refine ⟨⟨_, rfl, ?_⟩, ?_⟩ | fail)); (all_goals first | exact VLe.refl _ | (rw [Int.natCast_add]; exact VLe.refl _) | exact VLe.own_sl _ _ _ | exact VLe.fl_sl _ _ | exact VLe.nil_sl _ | (rw [← hsn_]; exact VLe.refl _) | (rw [show (7 : Int) - ((j + 1 : Nat) : Int) = 7 - (j : Int) - 1 by omega]; exact VLe.refl _))
  · exact ⟨by omega, (fun k hk => by first | exact rfl | (refine (upd_ne _ _ _ _ (by omega)).trans ?_; first | exact rfl | skip; repeat (first | exact rfl | refine (upd_ne _ _ _ _ (by omega)).trans ?_ | assumption | exact hf0 _ (by omega) | exact hf1 _ (by omega) | exact hf2 _ (by omega) | exact hf0 _ (by omega) (by first | assumption | omega) | exact hf1 _ (by omega) (by first | assumption | omega))) | exact hf0 _ (by omega) | exact hf1 _ (by omega) | exact hf2 _ (by omega) | exact hf0 _ (by omega) (by first | assumption | omega) | exact hf1 _ (by omega) (by first | assumption | omega)), by repeat (first | exact upd_eq _ _ _ | assumption | refine (upd_ne _ _ _ _ (by omega)).trans ?_ | fail), by omega⟩
  · rintro _ _ ⟨j, m0, b0, rfl, rfl, hm0, hf0, hB0_0, hF0_0⟩
    refine runs_know (fun hd0 => ?_)
    refine runs_bump 8 ?_
    simp only at hd0
    refine runs_seq ?_
    refine runs_seq ?_
    refine runs_region ?_
    refine rl0 (gn rfl) rfl rfl (step_mv rfl rfl) trivial ?_
    refine rl_geq (gn rfl) rfl rfl rfl rfl rfl (fun h1 => ?_) (fun h1 => ?_)
    · skip
      refine runsL_nil ?_
      refine runs_cond true (ev_mk rfl) (fun _ => ?_) (fun h_ => nomatch h_)
      refine runs_skip ?_
      refine runs_seq ?_
      refine runs_block ?_
      refine runs_seq ?_
      refine runs_seq ?_
      refine runs_region ?_
      refine rl0 (gn rfl) rfl rfl (step_mv rfl rfl) trivial ?_
      refine rl_gtr (gn rfl) rfl rfl rfl rfl rfl (fun h2 => ?_) (fun h2 => ?_)
      · exact absurd h2 (by omega)
      refine runsL_nil ?_
      refine runs_cond false (ev_mk rfl) (fun h_ => nomatch h_) (fun _ => ?_)
      refine runs_skip ?_
      refine runs_region ?_
      refine rl0 (gn rfl) rfl rfl (step_mv rfl rfl) trivial ?_
      refine rl0 (gn rfl) rfl rfl (step_mv rfl rfl) trivial ?_
      refine rl0 (gn rfl) rfl rfl (step_mv rfl rfl) trivial ?_
      refine rl0 (gn rfl) rfl rfl (step_mul rfl (ev_mk rfl) (ev_mk rfl) (w64 (by omega))) trivial ?_
      refine rl0 (gn rfl) rfl rfl (step_shr (r := v / 256 ^ (7 - j)) rfl (ev_mk rfl) (ev_mk rfl) (by omega) (shr_eq hv rfl (by omega))) trivial ?_
      refine rl0 (gn rfl) rfl rfl (step_conv rfl rfl Try.underlying23 Try.underlying5) trivial ?_
      rw [wrap_u8]
      refine rl0 (gn rfl) rfl rfl (step_lit rfl Try.underlying48 F.sz5 F.zero5 (by first | rfl | simp) (by first | rfl | simp | decide) (by decide) rfl rfl (by first | (simp [V.cs, V.stor, oneV]; done) | (simp [V.cs, V.stor, oneV])) rfl) trivial ?_
      first
        | (refine' rl1 (gn rfl) rfl rfl (step_append_own rfl rfl rfl Try.underlying48 ⟨_, Try.underlying48, fun k_ => by intro h_; cases h_⟩ F.el5 (ev_mk rfl) (ev_mk rfl) (gives_sl (.inl rfl)) ?hg) ⟨?hb, trivial⟩ (by omega) ?_; (case hb => repeat (first | exact upd_eq _ _ _ | refine (upd_ne _ _ _ _ (by omega)).trans ?_ | assumption | exact hd _ (by omega) | exact hd0 _ (by omega) | exact hd1 _ (by omega) | exact hd2 _ (by omega) | fail)); (case hg => first | (simp; done) | (simp [bytesV, wB]; omega)))
        | (refine' rl1 (gn rfl) rfl rfl (step_append_new (k := m0 + 0) rfl rfl rfl Try.underlying48 ⟨_, Try.underlying48, fun k_ => by intro h_; cases h_⟩ F.el5 (ev_mk rfl) (.inl rfl) (ev_mk rfl) (gives_sl (.inl rfl)) ?hg) ⟨?hb, trivial⟩ (by omega) ?_; (case hb => repeat (first | exact upd_eq _ _ _ | refine (upd_ne _ _ _ _ (by omega)).trans ?_ | assumption | exact hd _ (by omega) | exact hd0 _ (by omega) | exact hd1 _ (by omega) | exact hd2 _ (by omega) | fail)); (case hg => first | (simp; done) | (simp [bytesV, wB]; omega)))
        | (refine' rl1 (gn rfl) rfl rfl (step_append_new (k := m0 + 0) (xs := []) rfl rfl rfl Try.underlying48 ⟨_, Try.underlying48, fun k_ => by intro h_; cases h_⟩ F.el5 (ev_mk rfl) (.inr ⟨rfl, rfl⟩) (ev_mk rfl) (gives_sl (.inl rfl)) ?hg) ⟨?hb, trivial⟩ (by omega) ?_; (case hb => repeat (first | exact upd_eq _ _ _ | refine (upd_ne _ _ _ _ (by omega)).trans ?_ | assumption | exact hd _ (by omega) | exact hd0 _ (by omega) | exact hd1 _ (by omega) | exact hd2 _ (by omega) | fail)); (case hg => first | (simp; done) | (simp [bytesV, wB]; omega)))
        | (refine' rl1 (gn rfl) rfl rfl (step_append_own rfl rfl rfl Try.underlying48 ⟨_, Try.underlying48, fun k_ => by intro h_; cases h_⟩ F.el5 (ev_mk rfl) (ev_mk rfl) (gives_sl (.inr (.inl rfl))) ?hg) ⟨?hb, trivial⟩ (by omega) ?_; (case hb => repeat (first | exact upd_eq _ _ _ | refine (upd_ne _ _ _ _ (by omega)).trans ?_ | assumption | exact hd _ (by omega) | exact hd0 _ (by omega) | exact hd1 _ (by omega) | exact hd2 _ (by omega) | fail)); (case hg => first | (simp; done) | (simp [bytesV, wB]; omega)))
        | (refine' rl1 (gn rfl) rfl rfl (step_append_new (k := m0 + 0) rfl rfl rfl Try.underlying48 ⟨_, Try.underlying48, fun k_ => by intro h_; cases h_⟩ F.el5 (ev_mk rfl) (.inl rfl) (ev_mk rfl) (gives_sl (.inr (.inl rfl))) ?hg) ⟨?hb, trivial⟩ (by omega) ?_; (case hb => repeat (first | exact upd_eq _ _ _ | refine (upd_ne _ _ _ _ (by omega)).trans ?_ | assumption | exact hd _ (by omega) | exact hd0 _ (by omega) | exact hd1 _ (by omega) | exact hd2 _ (by omega) | fail)); (case hg => first | (simp; done) | (simp [bytesV, wB]; omega)))
        | (refine' rl1 (gn rfl) rfl rfl (step_append_new (k := m0 + 0) (xs := []) rfl rfl rfl Try.underlying48 ⟨_, Try.underlying48, fun k_ => by intro h_; cases h_⟩ F.el5 (ev_mk rfl) (.inr ⟨rfl, rfl⟩) (ev_mk rfl) (gives_sl (.inr (.inl rfl))) ?hg) ⟨?hb, trivial⟩ (by omega) ?_; (case hb => repeat (first | exact upd_eq _ _ _ | refine (upd_ne _ _ _ _ (by omega)).trans ?_ | assumption | exact hd _ (by omega) | exact hd0 _ (by omega) | exact hd1 _ (by omega) | exact hd2 _ (by omega) | fail)); (case hg => first | (simp; done) | (simp [bytesV, wB]; omega)))
        | (refine' rl1 (gn rfl) rfl rfl (step_append_own rfl rfl rfl Try.underlying48 ⟨_, Try.underlying48, fun k_ => by intro h_; cases h_⟩ F.el5 (ev_mk rfl) (ev_mk rfl) (gives_sl (.inr (.inr ⟨_, rfl⟩))) ?hg) ⟨?hb, trivial⟩ (by omega) ?_; (case hb => repeat (first | exact upd_eq _ _ _ | refine (upd_ne _ _ _ _ (by omega)).trans ?_ | assumption | exact hd _ (by omega) | exact hd0 _ (by omega) | exact hd1 _ (by omega) | exact hd2 _ (by omega) | fail)); (case hg => first | (simp; done) | (simp [bytesV, wB]; omega)))
        | (refine' rl1 (gn rfl) rfl rfl (step_append_new (k := m0 + 0) rfl rfl rfl Try.underlying48 ⟨_, Try.underlying48, fun k_ => by intro h_; cases h_⟩ F.el5 (ev_mk rfl) (.inl rfl) (ev_mk rfl) (gives_sl (.inr (.inr ⟨_, rfl⟩))) ?hg) ⟨?hb, trivial⟩ (by omega) ?_; (case hb => repeat (first | exact upd_eq _ _ _ | refine (upd_ne _ _ _ _ (by omega)).trans ?_ | assumption | exact hd _ (by omega) | exact hd0 _ (by omega) | exact hd1 _ (by omega) | exact hd2 _ (by omega) | fail)); (case hg => first | (simp; done) | (simp [bytesV, wB]; omega)))
        | (refine' rl1 (gn rfl) rfl rfl (step_append_new (k := m0 + 0) (xs := []) rfl rfl rfl Try.underlying48 ⟨_, Try.underlying48, fun k_ => by intro h_; cases h_⟩ F.el5 (ev_mk rfl) (.inr ⟨rfl, rfl⟩) (ev_mk rfl) (gives_sl (.inr (.inr ⟨_, rfl⟩))) ?hg) ⟨?hb, trivial⟩ (by omega) ?_; (case hb => repeat (first | exact upd_eq _ _ _ | refine (upd_ne _ _ _ _ (by omega)).trans ?_ | assumption | exact hd _ (by omega) | exact hd0 _ (by omega) | exact hd1 _ (by omega) | exact hd2 _ (by omega) | fail)); (case hg => first | (simp; done) | (simp [bytesV, wB]; omega)))
        | (refine' rl1 (gn rfl) rfl rfl (step_append_own rfl rfl rfl Try.underlying48 ⟨_, Try.underlying48, fun k_ => by intro h_; cases h_⟩ F.el5 (ev_mk rfl) (ev_mk rfl) gives_nil ?hg) ⟨?hb, trivial⟩ (by omega) ?_; (case hb => repeat (first | exact upd_eq _ _ _ | refine (upd_ne _ _ _ _ (by omega)).trans ?_ | assumption | exact hd _ (by omega) | exact hd0 _ (by omega) | exact hd1 _ (by omega) | exact hd2 _ (by omega) | fail)); (case hg => first | (simp; done) | (simp [bytesV, wB]; omega)))
        | (refine' rl1 (gn rfl) rfl rfl (step_append_new (k := m0 + 0) rfl rfl rfl Try.underlying48 ⟨_, Try.underlying48, fun k_ => by intro h_; cases h_⟩ F.el5 (ev_mk rfl) (.inl rfl) (ev_mk rfl) gives_nil ?hg) ⟨?hb, trivial⟩ (by omega) ?_; (case hb => repeat (first | exact upd_eq _ _ _ | refine (upd_ne _ _ _ _ (by omega)).trans ?_ | assumption | exact hd _ (by omega) | exact hd0 _ (by omega) | exact hd1 _ (by omega) | exact hd2 _ (by omega) | fail)); (case hg => first | (simp; done) | (simp [bytesV, wB]; omega)))
        | (refine' rl1 (gn rfl) rfl rfl (step_append_new (k := m0 + 0) (xs := []) rfl rfl rfl Try.underlying48 ⟨_, Try.underlying48, fun k_ => by intro h_; cases h_⟩ F.el5 (ev_mk rfl) (.inr ⟨rfl, rfl⟩) (ev_mk rfl) gives_nil ?hg) ⟨?hb, trivial⟩ (by omega) ?_; (case hb => repeat (first | exact upd_eq _ _ _ | refine (upd_ne _ _ _ _ (by omega)).trans ?_ | assumption | exact hd _ (by omega) | exact hd0 _ (by omega) | exact hd1 _ (by omega) | exact hd2 _ (by omega) | fail)); (case hg => first | (simp; done) | (simp [bytesV, wB]; omega)))
        | (refine' rl1 (gn rfl) rfl rfl (step_append_own rfl rfl rfl Try.underlying48 ⟨_, Try.underlying48, fun k_ => by intro h_; cases h_⟩ F.el5 (ev_mk rfl) (ev_mk rfl) (gives_msl ?hl ?hy) ?hg) ⟨?hb, ⟨?hm, trivial⟩⟩ (by omega) ?_; (case hb => repeat (first | exact upd_eq _ _ _ | refine (upd_ne _ _ _ _ (by omega)).trans ?_ | assumption | exact hd _ (by omega) | exact hd0 _ (by omega) | exact hd1 _ (by omega) | exact hd2 _ (by omega) | fail)); (case hg => first | (simp; done) | (simp [bytesV, wB]; omega)); (case hm => repeat (first | exact upd_eq _ _ _ | refine (upd_ne _ _ _ _ (by omega)).trans ?_ | assumption | exact hd _ (by omega) | exact hd0 _ (by omega) | exact hd1 _ (by omega) | exact hd2 _ (by omega) | fail)); (case hl => (simp; omega)); (case hy => rfl))
        | (refine' rl1 (gn rfl) rfl rfl (step_append_new (k := m0 + 0) rfl rfl rfl Try.underlying48 ⟨_, Try.underlying48, fun k_ => by intro h_; cases h_⟩ F.el5 (ev_mk rfl) (.inl rfl) (ev_mk rfl) (gives_msl ?hl ?hy) ?hg) ⟨?hb, ⟨?hm, trivial⟩⟩ (by omega) ?_; (case hb => repeat (first | exact upd_eq _ _ _ | refine (upd_ne _ _ _ _ (by omega)).trans ?_ | assumption | exact hd _ (by omega) | exact hd0 _ (by omega) | exact hd1 _ (by omega) | exact hd2 _ (by omega) | fail)); (case hg => first | (simp; done) | (simp [bytesV, wB]; omega)); (case hm => repeat (first | exact upd_eq _ _ _ | refine (upd_ne _ _ _ _ (by omega)).trans ?_ | assumption | exact hd _ (by omega) | exact hd0 _ (by omega) | exact hd1 _ (by omega) | exact hd2 _ (by omega) | fail)); (case hl => (simp; omega)); (case hy => rfl))
        | (refine' rl1 (gn rfl) rfl rfl (step_append_new (k := m0 + 0) (xs := []) rfl rfl rfl Try.underlying48 ⟨_, Try.underlying48, fun k_ => by intro h_; cases h_⟩ F.el5 (ev_mk rfl) (.inr ⟨rfl, rfl⟩) (ev_mk rfl) (gives_msl ?hl ?hy) ?hg) ⟨?hb, ⟨?hm, trivial⟩⟩ (by omega) ?_; (case hb => repeat (first | exact upd_eq _ _ _ | refine (upd_ne _ _ _ _ (by omega)).trans ?_ | assumption | exact hd _ (by omega) | exact hd0 _ (by omega) | exact hd1 _ (by omega) | exact hd2 _ (by omega) | fail)); (case hg => first | (simp; done) | (simp [bytesV, wB]; omega)); (case hm => repeat (first | exact upd_eq _ _ _ | refine (upd_ne _ _ _ _ (by omega)).trans ?_ | assumption | exact hd _ (by omega) | exact hd0 _ (by omega) | exact hd1 _ (by omega) | exact hd2 _ (by omega) | fail)); (case hl => (simp; omega)); (case hy => rfl))
      refine rl0 (gn rfl) rfl rfl (step_as rfl rfl) trivial ?_
      refine runsL_nil ?_
      refine runs_region ?_
      refine rl0 (gn rfl) rfl rfl (step_mv rfl rfl) trivial ?_
      refine rl0 (gn rfl) rfl rfl (step_sub rfl (ev_mk rfl) (ev_mk rfl) (w64 (by omega))) trivial ?_
      refine rl0 (gn rfl) rfl rfl (step_as rfl rfl) trivial ?_
      refine runsL_nil ?_
      have hsn_ := wB_snoc v j
      refine ⟨_, _, ?_, sle ?_ (Nat.le_refl _), j + 1, _, _, rfl, rfl, by omega, (fun k hk => by repeat (first | exact hf0 k hk | exact hf0 k hk | exact hf1 k hk | exact hf2 k hk | refine (upd_ne _ _ _ _ (by first | assumption | omega)).trans ?_ | fail)), by (rw [← hsn_]; repeat (first | exact upd_eq _ _ _ | assumption | refine (upd_ne _ _ _ _ (by omega)).trans ?_ | fail)), by omega⟩
      · omega
      · (repeat' (first | exact trivial | refine ⟨⟨_, rfl, ?_⟩, ?_⟩ | fail)); (all_goals first | exact VLe.refl _ | (rw [Int.natCast_add]; exact VLe.refl _) | exact VLe.own_sl _ _ _ | exact VLe.fl_sl _ _ | exact VLe.nil_sl _ | (rw [← hsn_]; exact VLe.refl _) | (rw [show (7 : Int) - ((j + 1 : Nat) : Int) = 7 - (j : Int) - 1 by omega]; exact VLe.refl _))
    · skip
      refine runsL_nil ?_
      refine runs_cond false (ev_mk rfl) (fun h_ => nomatch h_) (fun _ => ?_)
      refine runs_exit ?_
      refine runs_seq ?_
      refine runs_region ?_
      refine rl0 (gn rfl) rfl rfl (step_mv rfl rfl) trivial ?_
      refine rl0 (gn rfl) rfl rfl (step_as rfl rfl) trivial ?_
      refine runsL_nil ?_
      refine runs_ret ?_
      refine ⟨by first | exact .inr rfl | exact .inl rfl, fin_mk (rest rfl res0) ?_ ?_ ?_ ?_⟩
      · (obtain rfl : j = 8 := by omega); rw [← wB_8]; exact VLe.own_sl _ _ _
      · repeat (first | exact trivial | assumption | omega | exact bd_bs | exact bd_row | exact bd_secs | exact bd_bools | refine ⟨?_, ?_⟩ | fail)
      · intro k hk; exact ble (by first | exact rfl | (refine (upd_ne _ _ _ _ (by omega)).trans ?_; first | exact rfl | skip; repeat (first | exact rfl | refine (upd_ne _ _ _ _ (by omega)).trans ?_ | assumption | exact hf0 _ (by omega) | exact hf1 _ (by omega) | exact hf2 _ (by omega) | exact hf0 _ (by omega) (by first | assumption | omega) | exact hf1 _ (by omega) (by first | assumption | omega))) | exact hf0 _ (by omega) | exact hf1 _ (by omega) | exact hf2 _ (by omega) | exact hf0 _ (by omega) (by first | assumption | omega) | exact hf1 _ (by omega) (by first | assumption | omega))
      · intro p hp; cases hp
end Go.Proofs.Ytdcmcmgbnkolbaa
