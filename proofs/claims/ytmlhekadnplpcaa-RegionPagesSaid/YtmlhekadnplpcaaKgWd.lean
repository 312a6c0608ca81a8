/- Walks by the logic of values. -/
import Derived.Test.YtmlhekadnplpcaaKgWa
import Derived.Test.YtmlhekadnplpcaaKgWb
namespace Go.Proofs.Ytmlhekadnplpcaa
open Go.Vm
set_option linter.unusedVariables false
set_option linter.unusedSimpArgs false
set_option maxRecDepth 100000 in
set_option maxHeartbeats 4000000 in
theorem rput_0 (v m : Int) (kk : Nat) (hm : m = 0) : Does Try.prog 39 [.sc (.int .u64 v), .sc (.int .i64 m)] [(kk, .dead)] [(kk, .tail (bytesV (beB 0 v)).length)] (.own 1 (bytesV (beB 0 v)) kk) := by
  refine does_mkg 40 Try.func39 rfl rfl rfl (fun n B bx hd hpre hup hvs hbx hgx => ?_)
  have hp0 := hpre.1
  have hz0 := hp0
  have hu0 := hup.1
  refine runs_seq ?_
  refine runs_region ?_
  refine rl0 (gn rfl) rfl rfl (step_as rfl rfl) trivial ?_
  refine runsL_nil ?_
  refine runs_seq ?_
  refine runs_seq ?_
  refine runs_region ?_
  refine rl0 (gn rfl) rfl rfl (step_mv rfl rfl) trivial ?_
  refine rl_leq (gn rfl) rfl rfl rfl rfl rfl (fun h1 => ?_) (fun h1 => ?_)
  rotate_left
  · exact False.elim (by omega)
  refine runsL_nil ?_
  refine runs_cond true (ev_mk rfl) (fun _ => ?_) (fun h_ => nomatch h_)
  refine runs_seq ?_
  refine runs_region ?_
  refine rl0 (gn rfl) rfl rfl (step_as rfl rfl) trivial ?_
  refine runsL_nil ?_
  refine runs_grow (l' := []) (d := 4) (k := kk) (e := 1) (xs := []) rfl (.inr ⟨rfl, rfl⟩) (by repeat (first | exact uE | refine uN (by omega) ?_ | assumption | exact hd _ (by omega) | fail)) (by omega) ?_
  refine runs_ret ?_
  refine ⟨by first | exact .inr rfl | exact .inl rfl, fin_mkg (rest rfl res0) ?_ ?_ ?_ ?_ ?_⟩
  · (repeat' (first | exact VLe.refl _ | exact VLe.own_sl _ _ _ | exact VLe.fl_sl _ _ | exact VLe.nil_sl _ | exact VLe.nil_fl _ | exact VLes.refl _ | exact .nil | refine VLe.tup ?_ | refine VLe.agg ?_ | refine .cons ?_ ?_ | (rw [Int.natCast_add]; exact VLe.refl _) | exact vle_int (by omega) | exact vle_bool (by first | rfl | assumption | (simp_all; done) | fail) | fail))
  · repeat (first | exact trivial | assumption | omega | (refine bdR_map (fun _ => ?_)) | (refine bdL_map (fun _ => ?_)) | refine ⟨?_, ?_⟩ | fail)
  · intro k_ hk_; simp only [upds]; by_cases e_ : k_ = kk; (focus subst e_; refine bl_eq ?_; first | (refine' blec ?hb ?hl; (case hb => repeat (first | exact uE | assumption | refine uN (by omega) ?_ | fail)); (case hl => first | exact VLes.refl _ | ((repeat' (first | exact VLe.refl _ | exact VLe.own_sl _ _ _ | exact VLe.fl_sl _ _ | exact VLe.nil_sl _ | exact VLe.nil_fl _ | exact VLes.refl _ | exact .nil | refine VLe.tup ?_ | refine VLe.agg ?_ | refine .cons ?_ ?_ | (rw [Int.natCast_add]; exact VLe.refl _) | exact vle_int (by omega) | exact vle_bool (by first | rfl | assumption | (simp_all; done) | fail) | fail)); done))) | (refine ble ?_; (repeat (first | exact uE | assumption | refine uN (by omega) ?_ | fail)); done) | exact ble (tl_eq (by repeat (first | exact uE | assumption | refine uN (by omega) ?_ | fail)) (by first | rfl | (simp [bytesV, beB_len]; done) | (simp [bytesV, beB_len]; omega) | omega))); refine bl_ne e_ ?_; exact ble (by repeat (first | exact rfl | refine uN (by omega) ?_ | assumption | fail))
  · intro p hp cs hcs; simp only [List.mem_cons, List.not_mem_nil, or_false] at hp; (first | (rcases hp with rfl)) <;> (first | (cases hcs; done) | (cases hcs; repeat (first | exact trivial | assumption | omega | (refine bdR_map (fun _ => ?_)) | (refine bdL_map (fun _ => ?_)) | refine ⟨?_, ?_⟩ | fail)))
  · repeat (first | exact trivial | assumption | omega | (refine bdR_map (fun _ => ?_)) | (refine bdL_map (fun _ => ?_)) | refine ⟨?_, ?_⟩ | fail)
def rputP (k : Nat) : Prop := ∀ (v m : Int) (kk : Nat), U64 v → m = (k : Int) → Does Try.prog 39 [.sc (.int .u64 v), .sc (.int .i64 m)] [(kk, .dead)] [(kk, .tail (bytesV (beB k v)).length)] (.own 1 (bytesV (beB k v)) kk)
set_option maxRecDepth 100000 in
set_option maxHeartbeats 4000000 in
theorem rput_s (k : Nat) (hk : k ≤ 1000) (rput_ih : rputP k) (v m : Int) (kk : Nat) (hv : U64 v) (hm : m = ((k + 1 : Nat) : Int)) : Does Try.prog 39 [.sc (.int .u64 v), .sc (.int .i64 m)] [(kk, .dead)] [(kk, .tail (bytesV (beB (k + 1) v)).length)] (.own 1 (bytesV (beB (k + 1) v)) kk) := by
  refine does_mkg 40 Try.func39 rfl rfl rfl (fun n B bx hd hpre hup hvs hbx hgx => ?_)
  have hp0 := hpre.1
  have hz0 := hp0
  have hu0 := hup.1
  have hv' := hv
  unfold U64 at hv'
  refine runs_seq ?_
  refine runs_region ?_
  refine rl0 (gn rfl) rfl rfl (step_as rfl rfl) trivial ?_
  refine runsL_nil ?_
  refine runs_seq ?_
  refine runs_seq ?_
  refine runs_region ?_
  refine rl0 (gn rfl) rfl rfl (step_mv rfl rfl) trivial ?_
  refine rl_leq (gn rfl) rfl rfl rfl rfl rfl (fun h1 => ?_) (fun h1 => ?_)
  · exact False.elim (by omega)
  refine runsL_nil ?_
  refine runs_cond false (ev_mk rfl) (fun h_ => nomatch h_) (fun _ => ?_)
  refine runs_skip ?_
  refine runs_seq ?_
  refine runs_region ?_
  refine rl0 (gn rfl) rfl rfl (step_mv rfl rfl) trivial ?_
  refine rl0 (gn rfl) rfl rfl (step_quo rfl (ev_mk rfl) (ev_mk rfl) (by omega) (by omega) (wu64 (by omega))) trivial ?_
  refine rl0 (gn rfl) rfl rfl (step_mv rfl rfl) trivial ?_
  refine rl0 (gn rfl) rfl rfl (step_sub rfl (ev_mk rfl) (ev_mk rfl) (w64 (by omega))) trivial ?_
  refine rl1 (gn rfl) rfl rfl (step_callc rfl Try.func39 rfl rfl rfl (rput_ih (v / 256) (m - 1) kk (by unfold U64; omega) (by omega)) (by repeat (first | exact .nil | refine .cons ?_ ?_ | exact VLe.refl _ | exact VLe.own_sl _ _ _ | exact VLe.fl_sl _ _ | exact VLe.nil_sl _ | exact VLe.nil_fl _ | refine VLe.agg ?_))) ⟨by repeat (first | exact uE | refine uN (by omega) ?_ | assumption | exact hd _ (by omega) | fail), trivial⟩ (by omega) ?_
  refine rl0 (gn rfl) rfl rfl (step_mv rfl rfl) trivial ?_
  refine rl0 (gn rfl) rfl rfl (step_rem rfl (ev_mk rfl) (ev_mk rfl) (by omega) (by omega)) trivial ?_
  refine rl0 (gn rfl) rfl rfl (step_convw (r := v % 256) rfl rfl Try.underlying48 Try.underlying5 (by rw [wrap_u8]; omega)) trivial ?_
  refine rl0 (gn rfl) rfl rfl (step_lit rfl Try.underlying76 F.sz5 F.zero5 (by first | rfl | simp) (by first | rfl | simp | decide) (by decide) rfl rfl (by first | (simp [V.cs, V.stor, oneV]; done) | (simp [V.cs, V.stor, oneV])) rfl) trivial ?_
  refine' rl1 (gn rfl) rfl rfl (step_append_own rfl rfl rfl Try.underlying76 ⟨_, Try.underlying76, fun k_ => by intro h_; cases h_⟩ F.el5 (ev_mk rfl) (ev_mk rfl) (gives_sl (.inr (.inl rfl))) ?hg) ⟨?hb, trivial⟩ (by omega) ?_
  case hb => repeat (first | exact uE | refine uN (by omega) ?_ | assumption | exact hd _ (by omega) | fail)
  case hg => (simp [bytesV, beB_len]; omega)
  refine rl0 (gn rfl) rfl rfl (step_as rfl rfl) trivial ?_
  refine runsL_nil ?_
  refine runs_ret ?_
  refine ⟨by first | exact .inr rfl | exact .inl rfl, fin_mkg (rest rfl res0) ?_ ?_ ?_ ?_ ?_⟩
  · (repeat' (first | exact VLe.refl _ | exact VLe.own_sl _ _ _ | exact VLe.fl_sl _ _ | exact VLe.nil_sl _ | exact VLe.nil_fl _ | exact VLes.refl _ | exact .nil | refine VLe.tup ?_ | refine VLe.agg ?_ | refine .cons ?_ ?_ | (rw [Int.natCast_add]; exact VLe.refl _) | exact vle_int (by omega) | exact vle_bool (by first | rfl | assumption | (simp_all; done) | fail) | ((refine vle_own ?_; rw [← beB_snoc]; rfl)) | fail))
  · repeat (first | exact trivial | assumption | omega | (refine bdR_map (fun _ => ?_)) | (refine bdL_map (fun _ => ?_)) | refine ⟨?_, ?_⟩ | fail)
  · intro k_ hk_; simp only [upds]; by_cases e_ : k_ = kk; (focus subst e_; refine bl_eq ?_; first | (refine' blec ?hb ?hl; (case hb => repeat (first | exact uE | assumption | refine uN (by omega) ?_ | fail)); (case hl => first | exact VLes.refl _ | ((repeat' (first | exact VLe.refl _ | exact VLe.own_sl _ _ _ | exact VLe.fl_sl _ _ | exact VLe.nil_sl _ | exact VLe.nil_fl _ | exact VLes.refl _ | exact .nil | refine VLe.tup ?_ | refine VLe.agg ?_ | refine .cons ?_ ?_ | (rw [Int.natCast_add]; exact VLe.refl _) | exact vle_int (by omega) | exact vle_bool (by first | rfl | assumption | (simp_all; done) | fail) | ((refine vle_own ?_; rw [← beB_snoc]; rfl)) | fail)); done))) | (refine ble ?_; (repeat (first | exact uE | assumption | refine uN (by omega) ?_ | fail)); done) | exact ble (tl_eq (by repeat (first | exact uE | assumption | refine uN (by omega) ?_ | fail)) (by simp [bytesV, beB_len]))); refine bl_ne e_ ?_; exact ble (by repeat (first | exact rfl | refine uN (by omega) ?_ | assumption | fail))
  · intro p hp cs hcs; simp only [List.mem_cons, List.not_mem_nil, or_false] at hp; (first | (rcases hp with rfl)) <;> (first | (cases hcs; done) | (cases hcs; repeat (first | exact trivial | assumption | omega | (refine bdR_map (fun _ => ?_)) | (refine bdL_map (fun _ => ?_)) | refine ⟨?_, ?_⟩ | fail)))
  · repeat (first | exact trivial | assumption | omega | (refine bdR_map (fun _ => ?_)) | (refine bdL_map (fun _ => ?_)) | refine ⟨?_, ?_⟩ | fail)
theorem rput_all : ∀ (k : Nat), k ≤ 1000 → rputP k
  | 0, _ => fun v m kk hv h => rput_0 v m kk (by omega)
  | k + 1, hk => fun v m kk hv h => rput_s k (by omega) (rput_all k (by omega)) v m kk hv h
theorem rput_o (v : Int) (m : Nat) (kk : Nat) (hv : U64 v) (hm : m ≤ 1000) : Does Try.prog 39 [.sc (.int .u64 v), .sc (.int .i64 m)] [(kk, .dead)] [(kk, .tail (bytesV (beB m v)).length)] (.own 1 (bytesV (beB m v)) kk) := rput_all m hm v m kk hv rfl
end Go.Proofs.Ytmlhekadnplpcaa
