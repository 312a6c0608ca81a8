/- Walks by the logic of values. -/
import Derived.Test.YtmlhekadnplpcaaKgVmV
import Derived.Test.YtmlhekadnplpcaaKgVb
import Derived.Test.YtmlhekadnplpcaaKgVc
import Derived.Test.YtmlhekadnplpcaaKgVj
import Derived.Test.YtmlhekadnplpcaaKgVmT
import Derived.Test.YtmlhekadnplpcaaKgVmP
import Derived.Test.YtmlhekadnplpcaaKgVmV
import Derived.Test.YtmlhekadnplpcaaKgVa
namespace Go.Proofs.Ytmlhekadnplpcaa
open Go.Vm
set_option linter.unusedVariables false
set_option linter.unusedSimpArgs false
set_option maxRecDepth 100000 in
set_option maxHeartbeats 4000000 in
theorem clone_g (l : List Pt) {kk : Nat} (hne : l ≠ []) (hl2 : l.length ≤ 1000) : Does Try.prog 35 [.sl 4 (l.map ptC)] [(kk, .dead)] [(kk, .gcells 1 4 (l.map ptC))] (.gsl kk 1 0 l.length 4) := by
  refine does_mkg 40 Try.func35 rfl rfl rfl (fun n B bx hd hpre hup hvs hbx hgx => ?_)
  have hp0 := hpre.1
  have hz0 := hp0
  have hu0 := hup.1
  refine runs_seq ?_
  refine runs_region ?_
  refine rl0 (gn rfl) rfl rfl (step_as rfl rfl) trivial ?_
  refine runsL_nil ?_
  refine runs_seq ?_
  refine runs_seq ?_
  refine runs_region ?_
  refine rl0 (gn rfl) rfl rfl (step_mv rfl rfl) trivial ?_
  refine rl_slnil (gn rfl) rfl rfl rfl rfl (.inl rfl) rfl Try.underlying40 (fun h1 => ?_) ?_
  · skip
    exact False.elim (by exact hne (List.map_eq_nil_iff.1 h1))
  · skip
    refine runsL_nil ?_
    refine runs_cond false (ev_mk rfl) (fun h_ => nomatch h_) (fun _ => ?_)
    refine runs_skip ?_
    refine runs_seq ?_
    refine runs_region ?_
    refine rl0 (gn rfl) rfl rfl (step_lit rfl Try.underlying40 F.sz50 F.zero50 (by first | rfl | simp) (by first | rfl | simp | decide) (by decide) rfl rfl (by first | (simp [V.cs, V.stor, oneV]; done) | (simp [V.cs, V.stor, oneV])) rfl) trivial ?_
    refine rl_growgf (d := 5) (k := kk) (e := 4) rfl (by repeat (first | exact uE | refine uN (by omega) ?_ | assumption | exact hd _ (by omega) | fail)) (by omega) ?_
    refine rl0 (gn rfl) rfl rfl (step_mv rfl rfl) trivial ?_
    refine' rl1 (gn rfl) rfl rfl (step_append_g (xs' := l.map ptC) rfl rfl rfl Try.underlying40 ⟨_, Try.underlying40, fun k_ => by intro h_; cases h_⟩ F.el50 (ev_mk rfl) (ev_mk rfl) (gives_sl (.inl rfl)) ?hl ?hg ?hx) ⟨?hb, trivial⟩ (by omega) ?_
    case hb => repeat (first | exact uE | refine uN (by omega) ?_ | assumption | exact hd _ (by omega) | fail)
    case hl => first | omega | (simp; done) | (first | (simp; done) | (simp; omega) | omega)
    case hg => (simp; omega)
    case hx => rfl
    refine rl0 (gn rfl) rfl rfl (step_as rfl rfl) trivial ?_
    refine runsL_nil ?_
    refine runs_ret ?_
    refine ⟨by first | exact .inr rfl | exact .inl rfl, fin_mkg (rest rfl res0) ?_ ?_ ?_ ?_ ?_⟩
    · (repeat' (first | exact VLe.refl _ | exact VLe.own_sl _ _ _ | exact VLe.fl_sl _ _ | exact VLe.nil_sl _ | exact VLe.nil_fl _ | exact VLes.refl _ | exact .nil | refine VLe.tup ?_ | refine VLe.agg ?_ | refine .cons ?_ ?_ | (rw [Int.natCast_add]; exact VLe.refl _) | exact vle_int (by omega) | exact vle_bool (by first | rfl | assumption | (simp_all; done) | fail) | ((simp only [Nat.zero_add, List.length_map, retV]; exact VLe.refl _)) | fail))
    · repeat (first | exact trivial | assumption | omega | (refine bdR_map (fun _ => ?_)) | (refine bdL_map (fun _ => ?_)) | refine ⟨?_, ?_⟩ | fail)
    · intro k_ hk_; simp only [upds]; by_cases e_ : k_ = kk; (focus subst e_; refine bl_eq ?_; first | (refine' blec ?hb ?hl; (case hb => repeat (first | exact uE | assumption | refine uN (by omega) ?_ | fail)); (case hl => first | exact VLes.refl _ | ((repeat' (first | exact VLe.refl _ | exact VLe.own_sl _ _ _ | exact VLe.fl_sl _ _ | exact VLe.nil_sl _ | exact VLe.nil_fl _ | exact VLes.refl _ | exact .nil | refine VLe.tup ?_ | refine VLe.agg ?_ | refine .cons ?_ ?_ | (rw [Int.natCast_add]; exact VLe.refl _) | exact vle_int (by omega) | exact vle_bool (by first | rfl | assumption | (simp_all; done) | fail) | ((simp only [Nat.zero_add, List.length_map, retV]; exact VLe.refl _)) | fail)); done))) | (refine ble ?_; (repeat (first | exact uE | assumption | refine uN (by omega) ?_ | fail)); done) | exact ble (tl_eq (by repeat (first | exact uE | assumption | refine uN (by omega) ?_ | fail)) (by first | rfl | (simp [bytesV, beB_len]; done) | (simp [bytesV, beB_len]; omega) | omega))); refine bl_ne e_ ?_; exact ble (by repeat (first | exact rfl | refine uN (by omega) ?_ | assumption | fail))
    · intro p hp cs hcs; simp only [List.mem_cons, List.not_mem_nil, or_false] at hp; (first | (rcases hp with rfl)) <;> (first | (cases hcs; done) | (cases hcs; repeat (first | exact trivial | assumption | omega | (refine bdR_map (fun _ => ?_)) | (refine bdL_map (fun _ => ?_)) | refine ⟨?_, ?_⟩ | fail)))
    · repeat (first | exact trivial | assumption | omega | (refine bdR_map (fun _ => ?_)) | (refine bdL_map (fun _ => ?_)) | refine ⟨?_, ?_⟩ | fail)
set_option maxRecDepth 100000 in
set_option maxHeartbeats 4000000 in
theorem drop_c (a b c d : Int) (g : List Int) (l : List Pt) (hg : g.length ≤ 1000) (hl : l.length ≤ 1000) (p : Pt) : Does Try.prog 19 [.agg (rgC a b c d g l), .agg (ptC p)] [] [] (.tup [.agg (rgC a b c d g (drL l p)), .sc (.bool (decide (p ∈ l)))]) := by
  refine does_mkg 40 Try.func19 rfl rfl rfl (fun n B bx hd hpre hup hvs hbx hgx => ?_)
  have hfb := fnd_bd l p
  refine runs_seq ?_
  refine runs_region ?_
  refine rl1 (gn rfl) rfl rfl (step_box_agg (k := n + 0) rfl rfl) ⟨by repeat (first | exact uE | refine uN (by omega) ?_ | assumption | exact hd _ (by omega) | fail), trivial⟩ (by omega) ?_
  refine rl1 (gn rfl) rfl rfl (step_box_agg (k := n + 1) rfl rfl) ⟨by repeat (first | exact uE | refine uN (by omega) ?_ | assumption | exact hd _ (by omega) | fail), trivial⟩ (by omega) ?_
  refine rl1 (gn rfl) rfl rfl (step_allocc (k := n + 2) (zs := [.int .i64 0, .int .i64 0, .int .i64 0, .int .i64 0, .slice none 0 0, .slice none 0 0]) (cs := [.sc (.int .i64 0), .sc (.int .i64 0), .sc (.int .i64 0), .sc (.int .i64 0), .sc (.slice none 0 0), .sc (.slice none 0 0)]) rfl F.zero44 (by first | rfl | simp) (by first | rfl | decide | simp) (by first | rfl | simp)) ⟨by repeat (first | exact uE | refine uN (by omega) ?_ | assumption | exact hd _ (by omega) | fail), trivial⟩ (by omega) ?_
  refine rl0 (gn rfl) rfl rfl (step_as rfl rfl) trivial ?_
  refine runsL_nil ?_
  refine runs_seq ?_
  refine runs_region ?_
  refine rl0 (gn rfl) rfl rfl (step_fieldAddr (off := 5) rfl (ev_mk rfl) Try.underlying44 rfl F.sz40 rfl) trivial ?_
  refine' rl0 (gn rfl) rfl rfl (step_load_one rfl (ev_mk rfl) F.one40 ?hv) ⟨?hb, trivial⟩ ?_
  case hb => repeat (first | exact uE | refine uN (by omega) ?_ | assumption | exact hd _ (by omega) | fail)
  case hv => rfl
  refine' rl0 (gn rfl) rfl rfl (step_load_all rfl rfl F.agg50 ?hl) ⟨?hb, trivial⟩ ?_
  case hb => repeat (first | exact uE | refine uN (by omega) ?_ | assumption | exact hd _ (by omega) | fail)
  case hl => first | rfl | (simp; done) | (first | (simp; done) | (simp; omega) | omega)
  refine rl0 (gn rfl) rfl rfl (step_callc rfl Try.func33 rfl rfl rfl (index_c l (by omega) p) (by repeat (first | exact .nil | refine .cons ?_ ?_ | exact VLe.refl _ | exact vle_int (by omega)))) trivial ?_
  refine rl0 (gn rfl) rfl rfl (step_as rfl rfl) trivial ?_
  refine runsL_nil ?_
  refine runs_seq ?_
  refine runs_seq ?_
  refine runs_region ?_
  refine rl0 (gn rfl) rfl rfl (step_mv rfl rfl) trivial ?_
  refine rl_lss (gn rfl) rfl rfl rfl rfl rfl (fun h1 => ?_) (fun h1 => ?_)
  · skip
    have hno_ := fnd_nn.1 (by assumption)
    have hem_ : false = decide (p ∈ l) := (decide_eq_false hno_).symm
    have hea_ := dr_no hno_
    refine runsL_nil ?_
    refine runs_cond true (ev_mk rfl) (fun _ => ?_) (fun h_ => nomatch h_)
    refine runs_seq ?_
    refine runs_region ?_
    refine' rl0 (gn rfl) rfl rfl (step_load_all rfl rfl F.agg44 ?hl) ⟨?hb, trivial⟩ ?_
    case hb => repeat (first | exact uE | refine uN (by omega) ?_ | assumption | exact hd _ (by omega) | fail)
    case hl => first | rfl | (simp; done) | (first | (simp; done) | (simp; omega) | omega)
    refine' rls (gn rfl) rfl (step_storeA rfl rfl rfl rfl F.agg44 ?hm ?hl) ⟨?hb, trivial⟩ ?hk ?_
    case hb => repeat (first | exact uE | refine uN (by omega) ?_ | assumption | exact hd _ (by omega) | fail)
    case hm => first | rfl | (simp; done) | (first | (simp; done) | (simp; omega) | omega)
    case hl => first | rfl | (simp; done) | (first | (simp; done) | (simp; omega) | omega)
    case hk => omega
    refine rl0 (gn rfl) rfl rfl (step_as rfl rfl) trivial ?_
    refine runsL_nil ?_
    refine runs_ret ?_
    refine ⟨by first | exact .inr rfl | exact .inl rfl, fin_mkg (resc rfl (by repeat (first | exact uE | refine uN (by omega) ?_ | assumption | exact hd _ (by omega) | fail)) F.agg44 (by first | rfl | (simp; done) | (first | (simp; done) | (simp; omega) | omega)) (rest rfl res0)) ?_ ?_ ?_ ?_ ?_⟩
    · (repeat' (first | exact VLe.refl _ | exact VLe.own_sl _ _ _ | exact VLe.fl_sl _ _ | exact VLe.nil_sl _ | exact VLe.nil_fl _ | exact VLes.refl _ | exact .nil | refine VLe.tup ?_ | refine VLe.agg ?_ | refine .cons ?_ ?_ | (rw [Int.natCast_add]; exact VLe.refl _) | exact vle_int (by omega) | exact vle_bool (by first | rfl | assumption | (simp_all; done) | fail) | ((rw [hea_]; exact VLe.refl _)) | fail))
    · repeat (first | exact trivial | assumption | omega | (refine bdR_map (fun _ => ?_)) | (refine bdL_map (fun _ => ?_)) | refine ⟨?_, ?_⟩ | fail)
    · intro k_ hk_; exact ble (by repeat (first | exact rfl | refine uN (by omega) ?_ | assumption | fail))
    · intro p hp; cases hp
    · repeat (first | exact trivial | assumption | omega | (refine bdR_map (fun _ => ?_)) | (refine bdL_map (fun _ => ?_)) | refine ⟨?_, ?_⟩ | fail)
  · skip
    have hyes_ : p ∈ l := Classical.byContradiction fun q_ => by have := fnd_nn.2 q_; omega
    obtain ⟨k, hk⟩ : ∃ k : Nat, (k : Int) = fnd l p := ⟨(fnd l p).toNat, by omega⟩
    have hea_ := dr_yes hyes_ hk
    have hem_ : true = decide (p ∈ l) := (decide_eq_true hyes_).symm
    refine runsL_nil ?_
    refine runs_cond false (ev_mk rfl) (fun h_ => nomatch h_) (fun _ => ?_)
    refine runs_skip ?_
    refine runs_seq ?_
    refine runs_region ?_
    refine rl0 (gn rfl) rfl rfl (step_fieldAddr (off := 5) rfl (ev_mk rfl) Try.underlying44 rfl F.sz40 rfl) trivial ?_
    refine' rl0 (gn rfl) rfl rfl (step_load_one rfl (ev_mk rfl) F.one40 ?hv) ⟨?hb, trivial⟩ ?_
    case hb => repeat (first | exact uE | refine uN (by omega) ?_ | assumption | exact hd _ (by omega) | fail)
    case hv => rfl
    refine rl1 (gn rfl) rfl rfl (step_callc rfl Try.func35 rfl rfl rfl (clone_g l (kk := (n + 3)) (fun q_ => by subst q_; simp at hyes_) (by omega)) (by repeat (first | exact .nil | refine .cons ?_ ?_ | exact VLe.refl _ | exact vle_int (by omega)))) ⟨by repeat (first | exact uE | refine uN (by omega) ?_ | assumption | exact hd _ (by omega) | fail), trivial⟩ (by omega) ?_
    refine rl0 (gn rfl) rfl rfl (step_mv rfl rfl) trivial ?_
    refine rl0 (gn rfl) rfl rfl (step_mv rfl rfl) trivial ?_
    refine rl0 (gn rfl) rfl rfl (step_add rfl (ev_mk rfl) (ev_mk rfl) (w64 (by omega))) trivial ?_
    refine rl1 (gn rfl) rfl rfl (step_callc rfl Try.func34 rfl rfl rfl (delete_c (n + 3) 1 l k (by omega)) (by repeat (first | exact .nil | refine .cons ?_ ?_ | exact VLe.refl _ | exact vle_int (by omega)))) ⟨by repeat (first | exact uE | refine uN (by omega) ?_ | assumption | exact hd _ (by omega) | fail), trivial⟩ (by omega) ?_
    refine rl0 (gn rfl) rfl rfl (step_fieldAddr (off := 5) rfl (ev_mk rfl) Try.underlying44 rfl F.sz40 rfl) trivial ?_
    refine' rls (gn rfl) rfl (step_store1 rfl rfl rfl rfl F.one40 rfl rfl ?hl ?hc) ⟨?hb, trivial⟩ ?hk ?_
    case hb => repeat (first | exact uE | refine uN (by omega) ?_ | assumption | exact hd _ (by omega) | fail)
    case hl => first | exact Nat.le_of_ble_eq_true rfl | decide | (simp; done) | (simp; omega) | (first | (simp; done) | (simp; omega) | omega)
    case hc => first | (simp only [List.set_cons_succ, List.set_cons_zero]; rfl) | rfl
    case hk => omega
    refine runsL_nil ?_
    refine runs_seq ?_
    refine runs_region ?_
    refine' rl0 (gn rfl) rfl rfl (step_load_all rfl rfl F.agg44 ?hl) ⟨?hb, trivial⟩ ?_
    case hb => repeat (first | exact uE | refine uN (by omega) ?_ | assumption | exact hd _ (by omega) | fail)
    case hl => first | rfl | (simp; done) | (first | (simp; done) | (simp; omega) | omega)
    refine' rls (gn rfl) rfl (step_storeA rfl rfl rfl rfl F.agg44 ?hm ?hl) ⟨?hb, trivial⟩ ?hk ?_
    case hb => repeat (first | exact uE | refine uN (by omega) ?_ | assumption | exact hd _ (by omega) | fail)
    case hm => first | rfl | (simp; done) | (first | (simp; done) | (simp; omega) | omega)
    case hl => first | rfl | (simp; done) | (first | (simp; done) | (simp; omega) | omega)
    case hk => omega
    refine rl0 (gn rfl) rfl rfl (step_as rfl rfl) trivial ?_
    refine runsL_nil ?_
    refine runs_freezeb (kb := n + 2) (i := 5) (ys := (l.eraseIdx k).map ptC) (by repeat (first | exact uE | refine uN (by omega) ?_ | assumption | exact hd _ (by omega) | fail)) rfl (by repeat (first | exact uE | refine uN (by omega) ?_ | assumption | exact hd _ (by omega) | fail)) (by (rw [List.length_map, List.length_eraseIdx_of_lt (by omega)]; omega)) (by (rw [List.drop_zero, List.take_of_length_le (by rw [List.length_map, List.length_eraseIdx_of_lt (by omega)]; omega)])) ?_
    refine runs_ret ?_
    refine ⟨by first | exact .inr rfl | exact .inl rfl, fin_mkg (resc rfl (by repeat (first | exact uE | refine uN (by omega) ?_ | assumption | exact hd _ (by omega) | fail)) F.agg44 (by first | rfl | (simp; done) | (first | (simp; done) | (simp; omega) | omega)) (rest rfl res0)) ?_ ?_ ?_ ?_ ?_⟩
    · (repeat' (first | exact VLe.refl _ | exact VLe.own_sl _ _ _ | exact VLe.fl_sl _ _ | exact VLe.nil_sl _ | exact VLe.nil_fl _ | exact VLes.refl _ | exact .nil | refine VLe.tup ?_ | refine VLe.agg ?_ | refine .cons ?_ ?_ | (rw [Int.natCast_add]; exact VLe.refl _) | exact vle_int (by omega) | exact vle_bool (by first | rfl | assumption | (simp_all; done) | fail) | ((rw [hea_]; exact VLe.refl _)) | fail))
    · repeat (first | exact trivial | assumption | omega | (refine bdR_map (fun _ => ?_)) | (refine bdL_map (fun _ => ?_)) | refine ⟨?_, ?_⟩ | fail)
    · intro k_ hk_; exact ble (by repeat (first | exact rfl | refine uN (by omega) ?_ | assumption | fail))
    · intro p hp; cases hp
    · repeat (first | exact trivial | assumption | omega | (refine bdR_map (fun _ => ?_)) | (refine bdL_map (fun _ => ?_)) | refine ⟨?_, ?_⟩ | fail)
end Go.Proofs.Ytmlhekadnplpcaa
