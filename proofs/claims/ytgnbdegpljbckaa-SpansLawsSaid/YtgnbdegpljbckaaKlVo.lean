/- Walks by the logic of values. -/
import Derived.Test.YtgnbdegpljbckaaKlVmT
import Derived.Test.YtgnbdegpljbckaaKlVmP
import Derived.Test.YtgnbdegpljbckaaKlVmV
import Derived.Test.YtgnbdegpljbckaaKlVa
import Derived.Test.YtgnbdegpljbckaaKlVp
import Derived.Test.YtgnbdegpljbckaaKlVb
import Derived.Test.YtgnbdegpljbckaaKlVc
import Derived.Test.YtgnbdegpljbckaaKlVd
import Derived.Test.YtgnbdegpljbckaaKlVe
import Derived.Test.YtgnbdegpljbckaaKlVf
import Derived.Test.YtgnbdegpljbckaaKlVg
import Derived.Test.YtgnbdegpljbckaaKlVh
import Derived.Test.YtgnbdegpljbckaaKlVi
import Derived.Test.YtgnbdegpljbckaaKlVj
import Derived.Test.YtgnbdegpljbckaaKlVk
import Derived.Test.YtgnbdegpljbckaaKlVl
namespace Go.Proofs.Ytgnbdegpljbckaa
open Go.Vm
set_option linter.unusedVariables false
set_option linter.unusedSimpArgs false
theorem any_s {l : List Sp} {n : Int} {i : Nat} (h : (i : Int) < l.length) : (l.take (i + 1)).any (fun y => decide (y.lo ≤ n) && decide (n ≤ y.hi)) = ((l.take i).any (fun y => decide (y.lo ≤ n) && decide (n ≤ y.hi)) || (decide ((at' l (i : Int)).lo ≤ n) && decide (n ≤ (at' l (i : Int)).hi))) := by
  rw [List.take_add_one, oat h, List.any_append]; simp
def inL (l : List Sp) (n : Int) : Bool := l.any fun y => decide (y.lo ≤ n) && decide (n ≤ y.hi)
theorem inL_iff {l : List Sp} {n : Int} : inL l n = true ↔ mem l n := by unfold inL mem; rw [List.any_eq_true]; simp
theorem inL_1 {l : List Sp} {n : Int} {i : Nat} (h : (i : Int) < l.length) (h0 : inL (l.take i) n = true) : true = inL (l.take (i + 1)) n := by unfold inL at *; rw [any_s h, h0]; rfl
theorem inL_2 {l : List Sp} {n : Int} {i : Nat} (h : (i : Int) < l.length) (h0 : (at' l (i : Int)).lo ≤ n) (h1 : n ≤ (at' l (i : Int)).hi) : true = inL (l.take (i + 1)) n := by unfold inL at *; rw [any_s h, decide_eq_true h0, decide_eq_true h1]; simp
theorem inL_3 {l : List Sp} {n : Int} {i : Nat} (h : (i : Int) < l.length) (h0 : inL (l.take i) n = false) (h1 : ¬ ((at' l (i : Int)).lo ≤ n ∧ n ≤ (at' l (i : Int)).hi)) : false = inL (l.take (i + 1)) n := by
  unfold inL at *; rw [any_s h, h0, ← Bool.decide_and, decide_eq_false h1]; rfl
theorem has_in {M : Int} {l : List Sp} (h : ∀ x ∈ l, inM M x) {n : Int} : hasB (ofL l) n = inL l n := by
  rw [Bool.eq_iff_iff, hasB_iff (setM_of h), inL_iff, mem_of h]
theorem has_out {M : Int} (hM : 0 ≤ M) {l : List Sp} (h : ∀ x ∈ l, inM M x) {n : Int} (hn : 0 ≤ n ∧ n ≤ M) : hasB (notL M (ofL l)) n = !inL l n := by
  rw [Bool.eq_iff_iff, hasB_iff (setM_not hM), mem_not hM, Bool.not_eq_true', ← Bool.not_eq_true, inL_iff, mem_of h]
  exact ⟨fun q => q.2, fun q => ⟨hn, q⟩⟩
set_option maxRecDepth 100000 in
set_option maxHeartbeats 4000000 in
theorem laws_c (l m : List Sp) (n_ : Int) (hx : ∀ y ∈ l, inM 18446744073709551615 y) (hm : ∀ y ∈ m, inM 18446744073709551615 y) (hn : 0 ≤ n_ ∧ n_ ≤ 18446744073709551615) (hw : Does Try.prog 6 [] [] [] (.sc (.bool true))) : Does Try.prog 5 [.sl 2 (l.map spQ), .sl 2 (m.map spQ), .sc (.int .u64 n_)] [] [] (.sc (.bool true)) := by
  refine does_mkg 40 Try.func5 rfl rfl rfl (fun n B bx hd hpre hup hvs hbx hgx => ?_)
  refine runs_seq ?_
  refine runs_region ?_
  refine rl0 (gn rfl) rfl rfl (step_as rfl rfl) trivial ?_
  refine runsL_nil ?_
  refine runs_seq ?_
  refine runs_seq ?_
  refine runs_region ?_
  refine rl0 (gn rfl) rfl rfl (step_mv rfl rfl) trivial ?_
  refine rl0 (gn rfl) rfl rfl (step_len (m := l.length) rfl rfl (ev_mk rfl) (.inl ⟨⟨_, Try.underlying49⟩, .inl ⟨_, _, .inl rfl, List.length_map _⟩⟩)) trivial ?_
  refine rl_gtr (gn rfl) rfl rfl rfl rfl rfl (fun h1 => ?_) (fun h1 => ?_)
  · skip
    refine rl0 (gn rfl) rfl rfl (step_mv rfl rfl) trivial ?_
    refine rlk rfl rfl rfl rfl rfl (ngb rfl rfl) rfl rfl ?_
    refine rlk rfl rfl rfl rfl rfl (ngb rfl rfl) rfl rfl ?_
    refine rlk rfl rfl rfl rfl rfl (ngb rfl rfl) rfl rfl ?_
    refine rl0 (gn rfl) rfl rfl (step_pick rfl (ev_mk rfl) (ev_mk rfl)) trivial ?_
    refine runsL_nil ?_
    refine runs_cond true (ev_mk rfl) (fun _ => ?_) (fun h_ => nomatch h_)
    refine runs_seq ?_
    refine runs_region ?_
    refine rl0 (gn rfl) rfl rfl (step_callc rfl Try.func6 rfl rfl rfl (hw) (by repeat (first | exact .nil | refine .cons ?_ ?_ | exact VLe.refl _ | refine VLe.agg ?_ | exact VLe.own_sl _ _ _ | exact VLe.fl_sl _ _ | exact VLe.nil_sl _ | exact vle_int (by omega)))) trivial ?_
    refine rl0 (gn rfl) rfl rfl (step_as rfl rfl) trivial ?_
    refine runsL_nil ?_
    refine runs_ret ?_
    refine ⟨by first | exact .inr rfl | exact .inl rfl, fin_mkg (rest rfl res0) ?_ ?_ ?_ ?_ ?_⟩
    · (repeat' (first | exact VLe.refl _ | exact VLe.own_sl _ _ _ | exact VLe.fl_sl _ _ | exact VLe.nil_sl _ | exact VLe.nil_fl _ | exact VLes.refl _ | exact .nil | refine VLe.tup ?_ | refine VLe.agg ?_ | refine .cons ?_ ?_ | (rw [Int.natCast_add]; exact VLe.refl _) | exact vle_int (by omega) | exact vle_bool (by first | rfl | assumption | (simp_all; done) | fail) | fail))
    · first | ((repeat (first | exact trivial | exact bd_bCA _ _ | exact bd_bC _ _ | assumption | omega | (refine bdR_map (fun _ => ?_)) | refine ⟨?_, ?_⟩ | fail)); done) | (repeat (first | exact trivial | assumption | omega | (refine bdR_map (fun _ => ?_)) | (refine bdL_map (fun _ => ?_)) | refine ⟨?_, ?_⟩ | fail))
    · intro k_ hk_; exact ble (by repeat (first | exact rfl | refine uN (by omega) ?_ | assumption | fail))
    · intro p hp; cases hp
    · first | ((repeat (first | exact trivial | exact bd_bCA _ _ | exact bd_bC _ _ | assumption | omega | (refine bdR_map (fun _ => ?_)) | refine ⟨?_, ?_⟩ | fail)); done) | (repeat (first | exact trivial | assumption | omega | (refine bdR_map (fun _ => ?_)) | (refine bdL_map (fun _ => ?_)) | refine ⟨?_, ?_⟩ | fail))
  · skip
    refine rl0 (gn rfl) rfl rfl (step_mv rfl rfl) trivial ?_
    refine rl0 (gy rfl rfl rfl rfl rfl rfl) rfl rfl (step_mv rfl rfl) trivial ?_
    refine rl0 (gy rfl rfl rfl rfl rfl rfl) rfl rfl (step_len (m := m.length) rfl rfl (ev_mk rfl) (.inl ⟨⟨_, Try.underlying49⟩, .inl ⟨_, _, .inl rfl, List.length_map _⟩⟩)) trivial ?_
    refine rl_gtr (gy rfl rfl rfl rfl rfl rfl) rfl rfl rfl rfl rfl (fun h2 => ?_) (fun h2 => ?_)
    · skip
      refine rl0 (gn rfl) rfl rfl (step_pick rfl (ev_mk rfl) (ev_mk rfl)) trivial ?_
      refine runsL_nil ?_
      refine runs_cond true (ev_mk rfl) (fun _ => ?_) (fun h_ => nomatch h_)
      refine runs_seq ?_
      refine runs_region ?_
      refine rl0 (gn rfl) rfl rfl (step_callc rfl Try.func6 rfl rfl rfl (hw) (by repeat (first | exact .nil | refine .cons ?_ ?_ | exact VLe.refl _ | refine VLe.agg ?_ | exact VLe.own_sl _ _ _ | exact VLe.fl_sl _ _ | exact VLe.nil_sl _ | exact vle_int (by omega)))) trivial ?_
      refine rl0 (gn rfl) rfl rfl (step_as rfl rfl) trivial ?_
      refine runsL_nil ?_
      refine runs_ret ?_
      refine ⟨by first | exact .inr rfl | exact .inl rfl, fin_mkg (rest rfl res0) ?_ ?_ ?_ ?_ ?_⟩
      · (repeat' (first | exact VLe.refl _ | exact VLe.own_sl _ _ _ | exact VLe.fl_sl _ _ | exact VLe.nil_sl _ | exact VLe.nil_fl _ | exact VLes.refl _ | exact .nil | refine VLe.tup ?_ | refine VLe.agg ?_ | refine .cons ?_ ?_ | (rw [Int.natCast_add]; exact VLe.refl _) | exact vle_int (by omega) | exact vle_bool (by first | rfl | assumption | (simp_all; done) | fail) | fail))
      · first | ((repeat (first | exact trivial | exact bd_bCA _ _ | exact bd_bC _ _ | assumption | omega | (refine bdR_map (fun _ => ?_)) | refine ⟨?_, ?_⟩ | fail)); done) | (repeat (first | exact trivial | assumption | omega | (refine bdR_map (fun _ => ?_)) | (refine bdL_map (fun _ => ?_)) | refine ⟨?_, ?_⟩ | fail))
      · intro k_ hk_; exact ble (by repeat (first | exact rfl | refine uN (by omega) ?_ | assumption | fail))
      · intro p hp; cases hp
      · first | ((repeat (first | exact trivial | exact bd_bCA _ _ | exact bd_bC _ _ | assumption | omega | (refine bdR_map (fun _ => ?_)) | refine ⟨?_, ?_⟩ | fail)); done) | (repeat (first | exact trivial | assumption | omega | (refine bdR_map (fun _ => ?_)) | (refine bdL_map (fun _ => ?_)) | refine ⟨?_, ?_⟩ | fail))
    · skip
      have hsa_ := setM_of hx
      have hsb_ := setM_of hm
      have hol_ := of_len l
      have hom_ := of_len m
      have hjl_ := join_len (ofL m) (ofL l)
      have hjm_ := join_len (ofL l) (ofL m)
      have hll_ := less_len (m := ofL m) hsa_.c
      have hml_ := meet_len (m := ofL m) hsa_.c
      have hmm_ := meet_len (m := ofL l) hsb_.c
      have hnl_ := not_len (M := 18446744073709551615) (a := ofL l)
      have hnm_ := not_len (M := 18446744073709551615) (a := ofL m)
      have hnn_ := not_len (M := 18446744073709551615) (a := (notL 18446744073709551615 (ofL l)))
      have hnj_ := not_len (M := 18446744073709551615) (a := (joinL (ofL l) (ofL m)))
      have hM0_ : (0 : Int) ≤ 18446744073709551615 := by omega
      have hmn_ := meet_len (m := (notL 18446744073709551615 (ofL m))) (setM_not (M := 18446744073709551615) hM0_ (a := ofL l)).c
      have hma_ := meet_len (m := (notL 18446744073709551615 (ofL m))) hsa_.c
      refine rl0 (gn rfl) rfl rfl (step_pick rfl (ev_mk rfl) (ev_mk rfl)) trivial ?_
      refine runsL_nil ?_
      refine runs_cond false (ev_mk rfl) (fun h_ => nomatch h_) (fun _ => ?_)
      refine runs_skip ?_
      refine runs_seq ?_
      refine runs_region ?_
      refine rl0 (gn rfl) rfl rfl (step_mv rfl rfl) trivial ?_
      refine rl0 (gn rfl) rfl rfl (step_callc rfl Try.func23 rfl rfl rfl (of_Q l hx (by omega)) (by repeat (first | exact .nil | refine .cons ?_ ?_ | exact VLe.refl _ | refine VLe.agg ?_ | exact VLe.own_sl _ _ _ | exact VLe.fl_sl _ _ | exact VLe.nil_sl _ | exact vle_int (by omega)))) trivial ?_
      refine rl0 (gn rfl) rfl rfl (step_mv rfl rfl) trivial ?_
      refine rl0 (gn rfl) rfl rfl (step_callc rfl Try.func23 rfl rfl rfl (of_Q m hm (by omega)) (by repeat (first | exact .nil | refine .cons ?_ ?_ | exact VLe.refl _ | refine VLe.agg ?_ | exact VLe.own_sl _ _ _ | exact VLe.fl_sl _ _ | exact VLe.nil_sl _ | exact vle_int (by omega)))) trivial ?_
      refine rl1 (gn rfl) rfl rfl (step_allocc (k := n + 0) (zs := [.slice none 0 0]) (cs := [.sc (.slice none 0 0)]) rfl F.zero52 (by first | rfl | simp) (by first | rfl | decide | simp) (by first | rfl | simp)) ⟨by repeat (first | exact uE | refine uN (by omega) ?_ | assumption | exact hd _ (by omega) | fail), trivial⟩ (by omega) ?_
      refine rl1 (gn rfl) rfl rfl (step_allocc (k := n + 1) (zs := [.slice none 0 0]) (cs := [.sc (.slice none 0 0)]) rfl F.zero52 (by first | rfl | simp) (by first | rfl | decide | simp) (by first | rfl | simp)) ⟨by repeat (first | exact uE | refine uN (by omega) ?_ | assumption | exact hd _ (by omega) | fail), trivial⟩ (by omega) ?_
      refine' rls (gn rfl) rfl (step_storeA rfl rfl rfl rfl F.agg52 ?hm ?hl) ⟨?hb, trivial⟩ ?hk ?_
      case hb => repeat (first | exact uE | refine uN (by omega) ?_ | assumption | exact hd _ (by omega) | fail)
      case hm => first | rfl | (simp; done) | (first | exact bC_len _ | (simp; done) | (rw [bC_len]; omega) | omega)
      case hl => first | rfl | (simp; done) | (first | exact bC_len _ | (simp; done) | (rw [bC_len]; omega) | omega)
      case hk => omega
      refine' rls (gn rfl) rfl (step_storeA rfl rfl rfl rfl F.agg52 ?hm ?hl) ⟨?hb, trivial⟩ ?hk ?_
      case hb => repeat (first | exact uE | refine uN (by omega) ?_ | assumption | exact hd _ (by omega) | fail)
      case hm => first | rfl | (simp; done) | (first | exact bC_len _ | (simp; done) | (rw [bC_len]; omega) | omega)
      case hl => first | rfl | (simp; done) | (first | exact bC_len _ | (simp; done) | (rw [bC_len]; omega) | omega)
      case hk => omega
      refine runsL_nil ?_
      refine runs_seq ?_
      refine runs_seq ?_
      refine runs_draw (by kernel_rfl) (by kernel_rfl) (by kernel_rfl) ?_
      refine' dl0 (gn rfl) rfl rfl (step_load_all rfl rfl F.agg52 ?hl) ⟨?hb, trivial⟩ ?_
      case hb => repeat (first | exact uE | refine uN (by omega) ?_ | assumption | exact hd _ (by omega) | fail)
      case hl => first | rfl | (simp; done) | (first | exact bC_len _ | (simp; done) | (rw [bC_len]; omega) | omega)
      refine' dl0 (gn rfl) rfl rfl (step_load_all rfl rfl F.agg52 ?hl) ⟨?hb, trivial⟩ ?_
      case hb => repeat (first | exact uE | refine uN (by omega) ?_ | assumption | exact hd _ (by omega) | fail)
      case hl => first | rfl | (simp; done) | (first | exact bC_len _ | (simp; done) | (rw [bC_len]; omega) | omega)
      refine dl0 (gn rfl) rfl rfl (step_callc rfl Try.func25 rfl rfl rfl (join_Q (ofL l) (ofL m) hsa_ hsb_ (by omega)) (by repeat (first | exact .nil | refine .cons ?_ ?_ | exact VLe.refl _ | refine VLe.agg ?_ | exact VLe.own_sl _ _ _ | exact VLe.fl_sl _ _ | exact VLe.nil_sl _ | exact vle_int (by omega)))) trivial ?_
      refine' dl0 (gn rfl) rfl rfl (step_load_all rfl rfl F.agg52 ?hl) ⟨?hb, trivial⟩ ?_
      case hb => repeat (first | exact uE | refine uN (by omega) ?_ | assumption | exact hd _ (by omega) | fail)
      case hl => first | rfl | (simp; done) | (first | exact bC_len _ | (simp; done) | (rw [bC_len]; omega) | omega)
      refine' dl0 (gn rfl) rfl rfl (step_load_all rfl rfl F.agg52 ?hl) ⟨?hb, trivial⟩ ?_
      case hb => repeat (first | exact uE | refine uN (by omega) ?_ | assumption | exact hd _ (by omega) | fail)
      case hl => first | rfl | (simp; done) | (first | exact bC_len _ | (simp; done) | (rw [bC_len]; omega) | omega)
      refine dl0 (gn rfl) rfl rfl (step_callc rfl Try.func25 rfl rfl rfl (join_Q (ofL m) (ofL l) hsb_ hsa_ (by omega)) (by repeat (first | exact .nil | refine .cons ?_ ?_ | exact VLe.refl _ | refine VLe.agg ?_ | exact VLe.own_sl _ _ _ | exact VLe.fl_sl _ _ | exact VLe.nil_sl _ | exact vle_int (by omega)))) trivial ?_
      refine dl0 (gn rfl) rfl rfl (step_callc rfl Try.func24 rfl rfl rfl (same_Q (joinL (ofL l) (ofL m)) (joinL (ofL m) (ofL l)) (by omega) (by omega)) (by repeat (first | exact .nil | refine .cons ?_ ?_ | exact VLe.refl _ | refine VLe.agg ?_ | exact VLe.own_sl _ _ _ | exact VLe.fl_sl _ _ | exact VLe.nil_sl _ | exact vle_int (by omega)))) trivial ?_
      refine dl_know (d := 30) (c := true) rfl ((decide_eq_true (law_join hsa_ hsb_))) ?_
      refine dl0 (gn rfl) rfl rfl (step_unOp (c := .bool false) rfl (ev_mk rfl) (fun _ => rfl)) trivial ?_
      refine dl0 (gn rfl) rfl rfl (step_mv rfl rfl) trivial ?_
      refine' dl0 (gy rfl rfl rfl rfl rfl rfl) rfl rfl (step_load_all rfl rfl F.agg52 ?hl) ⟨?hb, trivial⟩ ?_
      case hb => repeat (first | exact uE | refine uN (by omega) ?_ | assumption | exact hd _ (by omega) | fail)
      case hl => first | rfl | (simp; done) | (first | exact bC_len _ | (simp; done) | (rw [bC_len]; omega) | omega)
      refine' dl0 (gy rfl rfl rfl rfl rfl rfl) rfl rfl (step_load_all rfl rfl F.agg52 ?hl) ⟨?hb, trivial⟩ ?_
      case hb => repeat (first | exact uE | refine uN (by omega) ?_ | assumption | exact hd _ (by omega) | fail)
      case hl => first | rfl | (simp; done) | (first | exact bC_len _ | (simp; done) | (rw [bC_len]; omega) | omega)
      refine dl0 (gy rfl rfl rfl rfl rfl rfl) rfl rfl (step_callc rfl Try.func26 rfl rfl rfl (meet_Q (ofL l) (ofL m) hsa_ hsb_ (by omega)) (by repeat (first | exact .nil | refine .cons ?_ ?_ | exact VLe.refl _ | refine VLe.agg ?_ | exact VLe.own_sl _ _ _ | exact VLe.fl_sl _ _ | exact VLe.nil_sl _ | exact vle_int (by omega)))) trivial ?_
      refine' dl0 (gy rfl rfl rfl rfl rfl rfl) rfl rfl (step_load_all rfl rfl F.agg52 ?hl) ⟨?hb, trivial⟩ ?_
      case hb => repeat (first | exact uE | refine uN (by omega) ?_ | assumption | exact hd _ (by omega) | fail)
      case hl => first | rfl | (simp; done) | (first | exact bC_len _ | (simp; done) | (rw [bC_len]; omega) | omega)
      refine' dl0 (gy rfl rfl rfl rfl rfl rfl) rfl rfl (step_load_all rfl rfl F.agg52 ?hl) ⟨?hb, trivial⟩ ?_
      case hb => repeat (first | exact uE | refine uN (by omega) ?_ | assumption | exact hd _ (by omega) | fail)
      case hl => first | rfl | (simp; done) | (first | exact bC_len _ | (simp; done) | (rw [bC_len]; omega) | omega)
      refine dl0 (gy rfl rfl rfl rfl rfl rfl) rfl rfl (step_callc rfl Try.func26 rfl rfl rfl (meet_Q (ofL m) (ofL l) hsb_ hsa_ (by omega)) (by repeat (first | exact .nil | refine .cons ?_ ?_ | exact VLe.refl _ | refine VLe.agg ?_ | exact VLe.own_sl _ _ _ | exact VLe.fl_sl _ _ | exact VLe.nil_sl _ | exact vle_int (by omega)))) trivial ?_
      refine dl0 (gy rfl rfl rfl rfl rfl rfl) rfl rfl (step_callc rfl Try.func24 rfl rfl rfl (same_Q (meetL (ofL l) (ofL m)) (meetL (ofL m) (ofL l)) (by omega) (by omega)) (by repeat (first | exact .nil | refine .cons ?_ ?_ | exact VLe.refl _ | refine VLe.agg ?_ | exact VLe.own_sl _ _ _ | exact VLe.fl_sl _ _ | exact VLe.nil_sl _ | exact vle_int (by omega)))) trivial ?_
      refine dl_know (d := 39) (c := true) rfl ((decide_eq_true (law_meet hsa_ hsb_))) ?_
      refine dl0 (gy rfl rfl rfl rfl rfl rfl) rfl rfl (step_unOp (c := .bool false) rfl (ev_mk rfl) (fun _ => rfl)) trivial ?_
      refine dl0 (gn rfl) rfl rfl (step_pick rfl (ev_mk rfl) (ev_mk rfl)) trivial ?_
      refine dl0 (gn rfl) rfl rfl (step_mv rfl rfl) trivial ?_
      refine' dl0 (gy rfl rfl rfl rfl rfl rfl) rfl rfl (step_load_all rfl rfl F.agg52 ?hl) ⟨?hb, trivial⟩ ?_
      case hb => repeat (first | exact uE | refine uN (by omega) ?_ | assumption | exact hd _ (by omega) | fail)
      case hl => first | rfl | (simp; done) | (first | exact bC_len _ | (simp; done) | (rw [bC_len]; omega) | omega)
      refine dl0 (gy rfl rfl rfl rfl rfl rfl) rfl rfl (step_callc rfl Try.func27 rfl rfl rfl (not_Q (ofL l) hsa_ (by omega)) (by repeat (first | exact .nil | refine .cons ?_ ?_ | exact VLe.refl _ | refine VLe.agg ?_ | exact VLe.own_sl _ _ _ | exact VLe.fl_sl _ _ | exact VLe.nil_sl _ | exact vle_int (by omega)))) trivial ?_
      refine dl0 (gy rfl rfl rfl rfl rfl rfl) rfl rfl (step_callc rfl Try.func27 rfl rfl rfl (not_Q (notL 18446744073709551615 (ofL l)) (setM_not hM0_) (by omega)) (by repeat (first | exact .nil | refine .cons ?_ ?_ | exact VLe.refl _ | refine VLe.agg ?_ | exact VLe.own_sl _ _ _ | exact VLe.fl_sl _ _ | exact VLe.nil_sl _ | exact vle_int (by omega)))) trivial ?_
      refine' dl0 (gy rfl rfl rfl rfl rfl rfl) rfl rfl (step_load_all rfl rfl F.agg52 ?hl) ⟨?hb, trivial⟩ ?_
      case hb => repeat (first | exact uE | refine uN (by omega) ?_ | assumption | exact hd _ (by omega) | fail)
      case hl => first | rfl | (simp; done) | (first | exact bC_len _ | (simp; done) | (rw [bC_len]; omega) | omega)
      refine dl0 (gy rfl rfl rfl rfl rfl rfl) rfl rfl (step_callc rfl Try.func24 rfl rfl rfl (same_Q (notL 18446744073709551615 (notL 18446744073709551615 (ofL l))) (ofL l) (by omega) (by omega)) (by repeat (first | exact .nil | refine .cons ?_ ?_ | exact VLe.refl _ | refine VLe.agg ?_ | exact VLe.own_sl _ _ _ | exact VLe.fl_sl _ _ | exact VLe.nil_sl _ | exact vle_int (by omega)))) trivial ?_
      refine dl_know (d := 47) (c := true) rfl ((decide_eq_true (law_notnot hM0_ hsa_))) ?_
      refine dl0 (gy rfl rfl rfl rfl rfl rfl) rfl rfl (step_unOp (c := .bool false) rfl (ev_mk rfl) (fun _ => rfl)) trivial ?_
      refine dl0 (gn rfl) rfl rfl (step_pick rfl (ev_mk rfl) (ev_mk rfl)) trivial ?_
      refine dlnil ?_ ?_
      · repeat' (first | exact trivial | exact .inr (ap0 _ _ _ _) | exact .inr (ap2 _ _ _ _) | exact .inr (ap3 _ _ _ _) | exact .inr ⟨by first | (simp; done) | (simp; omega), by first | (simp; done) | (simp; omega)⟩ | exact .inl (by kernel_rfl) | refine ⟨?_, ?_⟩ | fail)
      refine runs_cond false (ev_mk rfl) (fun h_ => nomatch h_) (fun _ => ?_)
      refine runs_skip ?_
      refine runs_seq ?_
      refine runs_seq ?_
      refine runs_draw (by kernel_rfl) (by kernel_rfl) (by kernel_rfl) ?_
      refine' dl0 (gn rfl) rfl rfl (step_load_all rfl rfl F.agg52 ?hl) ⟨?hb, trivial⟩ ?_
      case hb => repeat (first | exact uE | refine uN (by omega) ?_ | assumption | exact hd _ (by omega) | fail)
      case hl => first | rfl | (simp; done) | (first | exact bC_len _ | (simp; done) | (rw [bC_len]; omega) | omega)
      refine' dl0 (gn rfl) rfl rfl (step_load_all rfl rfl F.agg52 ?hl) ⟨?hb, trivial⟩ ?_
      case hb => repeat (first | exact uE | refine uN (by omega) ?_ | assumption | exact hd _ (by omega) | fail)
      case hl => first | rfl | (simp; done) | (first | exact bC_len _ | (simp; done) | (rw [bC_len]; omega) | omega)
      refine dl0 (gn rfl) rfl rfl (step_callc rfl Try.func25 rfl rfl rfl (join_Q (ofL l) (ofL m) hsa_ hsb_ (by omega)) (by repeat (first | exact .nil | refine .cons ?_ ?_ | exact VLe.refl _ | refine VLe.agg ?_ | exact VLe.own_sl _ _ _ | exact VLe.fl_sl _ _ | exact VLe.nil_sl _ | exact vle_int (by omega)))) trivial ?_
      refine dl0 (gn rfl) rfl rfl (step_callc rfl Try.func27 rfl rfl rfl (not_Q (joinL (ofL l) (ofL m)) (hsa_.join hsb_.ins) (by omega)) (by repeat (first | exact .nil | refine .cons ?_ ?_ | exact VLe.refl _ | refine VLe.agg ?_ | exact VLe.own_sl _ _ _ | exact VLe.fl_sl _ _ | exact VLe.nil_sl _ | exact vle_int (by omega)))) trivial ?_
      refine' dl0 (gn rfl) rfl rfl (step_load_all rfl rfl F.agg52 ?hl) ⟨?hb, trivial⟩ ?_
      case hb => repeat (first | exact uE | refine uN (by omega) ?_ | assumption | exact hd _ (by omega) | fail)
      case hl => first | rfl | (simp; done) | (first | exact bC_len _ | (simp; done) | (rw [bC_len]; omega) | omega)
      refine dl0 (gn rfl) rfl rfl (step_callc rfl Try.func27 rfl rfl rfl (not_Q (ofL l) hsa_ (by omega)) (by repeat (first | exact .nil | refine .cons ?_ ?_ | exact VLe.refl _ | refine VLe.agg ?_ | exact VLe.own_sl _ _ _ | exact VLe.fl_sl _ _ | exact VLe.nil_sl _ | exact vle_int (by omega)))) trivial ?_
      refine' dl0 (gn rfl) rfl rfl (step_load_all rfl rfl F.agg52 ?hl) ⟨?hb, trivial⟩ ?_
      case hb => repeat (first | exact uE | refine uN (by omega) ?_ | assumption | exact hd _ (by omega) | fail)
      case hl => first | rfl | (simp; done) | (first | exact bC_len _ | (simp; done) | (rw [bC_len]; omega) | omega)
      refine dl0 (gn rfl) rfl rfl (step_callc rfl Try.func27 rfl rfl rfl (not_Q (ofL m) hsb_ (by omega)) (by repeat (first | exact .nil | refine .cons ?_ ?_ | exact VLe.refl _ | refine VLe.agg ?_ | exact VLe.own_sl _ _ _ | exact VLe.fl_sl _ _ | exact VLe.nil_sl _ | exact vle_int (by omega)))) trivial ?_
      refine dl0 (gn rfl) rfl rfl (step_callc rfl Try.func26 rfl rfl rfl (meet_Q (notL 18446744073709551615 (ofL l)) (notL 18446744073709551615 (ofL m)) (setM_not hM0_) (setM_not hM0_) (by omega)) (by repeat (first | exact .nil | refine .cons ?_ ?_ | exact VLe.refl _ | refine VLe.agg ?_ | exact VLe.own_sl _ _ _ | exact VLe.fl_sl _ _ | exact VLe.nil_sl _ | exact vle_int (by omega)))) trivial ?_
      refine dl0 (gn rfl) rfl rfl (step_callc rfl Try.func24 rfl rfl rfl (same_Q (notL 18446744073709551615 (joinL (ofL l) (ofL m))) (meetL (notL 18446744073709551615 (ofL l)) (notL 18446744073709551615 (ofL m))) (by omega) (by omega)) (by repeat (first | exact .nil | refine .cons ?_ ?_ | exact VLe.refl _ | refine VLe.agg ?_ | exact VLe.own_sl _ _ _ | exact VLe.fl_sl _ _ | exact VLe.nil_sl _ | exact vle_int (by omega)))) trivial ?_
      refine dl_know (d := 59) (c := true) rfl ((decide_eq_true (law_morgan hM0_ hsa_ hsb_))) ?_
      refine dl0 (gn rfl) rfl rfl (step_unOp (c := .bool false) rfl (ev_mk rfl) (fun _ => rfl)) trivial ?_
      refine dl0 (gn rfl) rfl rfl (step_mv rfl rfl) trivial ?_
      refine' dl0 (gy rfl rfl rfl rfl rfl rfl) rfl rfl (step_load_all rfl rfl F.agg52 ?hl) ⟨?hb, trivial⟩ ?_
      case hb => repeat (first | exact uE | refine uN (by omega) ?_ | assumption | exact hd _ (by omega) | fail)
      case hl => first | rfl | (simp; done) | (first | exact bC_len _ | (simp; done) | (rw [bC_len]; omega) | omega)
      refine' dl0 (gy rfl rfl rfl rfl rfl rfl) rfl rfl (step_load_all rfl rfl F.agg52 ?hl) ⟨?hb, trivial⟩ ?_
      case hb => repeat (first | exact uE | refine uN (by omega) ?_ | assumption | exact hd _ (by omega) | fail)
      case hl => first | rfl | (simp; done) | (first | exact bC_len _ | (simp; done) | (rw [bC_len]; omega) | omega)
      refine dl0 (gy rfl rfl rfl rfl rfl rfl) rfl rfl (step_callc rfl Try.func28 rfl rfl rfl (less_Q (ofL l) (ofL m) hsa_ hsb_ (by omega)) (by repeat (first | exact .nil | refine .cons ?_ ?_ | exact VLe.refl _ | refine VLe.agg ?_ | exact VLe.own_sl _ _ _ | exact VLe.fl_sl _ _ | exact VLe.nil_sl _ | exact vle_int (by omega)))) trivial ?_
      refine' dl0 (gy rfl rfl rfl rfl rfl rfl) rfl rfl (step_load_all rfl rfl F.agg52 ?hl) ⟨?hb, trivial⟩ ?_
      case hb => repeat (first | exact uE | refine uN (by omega) ?_ | assumption | exact hd _ (by omega) | fail)
      case hl => first | rfl | (simp; done) | (first | exact bC_len _ | (simp; done) | (rw [bC_len]; omega) | omega)
      refine' dl0 (gy rfl rfl rfl rfl rfl rfl) rfl rfl (step_load_all rfl rfl F.agg52 ?hl) ⟨?hb, trivial⟩ ?_
      case hb => repeat (first | exact uE | refine uN (by omega) ?_ | assumption | exact hd _ (by omega) | fail)
      case hl => first | rfl | (simp; done) | (first | exact bC_len _ | (simp; done) | (rw [bC_len]; omega) | omega)
      refine dl0 (gy rfl rfl rfl rfl rfl rfl) rfl rfl (step_callc rfl Try.func27 rfl rfl rfl (not_Q (ofL m) hsb_ (by omega)) (by repeat (first | exact .nil | refine .cons ?_ ?_ | exact VLe.refl _ | refine VLe.agg ?_ | exact VLe.own_sl _ _ _ | exact VLe.fl_sl _ _ | exact VLe.nil_sl _ | exact vle_int (by omega)))) trivial ?_
      refine dl0 (gy rfl rfl rfl rfl rfl rfl) rfl rfl (step_callc rfl Try.func26 rfl rfl rfl (meet_Q (ofL l) (notL 18446744073709551615 (ofL m)) hsa_ (setM_not hM0_) (by omega)) (by repeat (first | exact .nil | refine .cons ?_ ?_ | exact VLe.refl _ | refine VLe.agg ?_ | exact VLe.own_sl _ _ _ | exact VLe.fl_sl _ _ | exact VLe.nil_sl _ | exact vle_int (by omega)))) trivial ?_
      refine dl0 (gy rfl rfl rfl rfl rfl rfl) rfl rfl (step_callc rfl Try.func24 rfl rfl rfl (same_Q (lessL (ofL l) (ofL m)) (meetL (ofL l) (notL 18446744073709551615 (ofL m))) (by omega) (by omega)) (by repeat (first | exact .nil | refine .cons ?_ ?_ | exact VLe.refl _ | refine VLe.agg ?_ | exact VLe.own_sl _ _ _ | exact VLe.fl_sl _ _ | exact VLe.nil_sl _ | exact vle_int (by omega)))) trivial ?_
      refine dl_know (d := 69) (c := true) rfl ((decide_eq_true (law_less hM0_ hsa_))) ?_
      refine dl0 (gy rfl rfl rfl rfl rfl rfl) rfl rfl (step_unOp (c := .bool false) rfl (ev_mk rfl) (fun _ => rfl)) trivial ?_
      refine dl0 (gn rfl) rfl rfl (step_pick rfl (ev_mk rfl) (ev_mk rfl)) trivial ?_
      refine dl0 (gn rfl) rfl rfl (step_mv rfl rfl) trivial ?_
      refine' dl0 (gy rfl rfl rfl rfl rfl rfl) rfl rfl (step_load_all rfl rfl F.agg52 ?hl) ⟨?hb, trivial⟩ ?_
      case hb => repeat (first | exact uE | refine uN (by omega) ?_ | assumption | exact hd _ (by omega) | fail)
      case hl => first | rfl | (simp; done) | (first | exact bC_len _ | (simp; done) | (rw [bC_len]; omega) | omega)
      refine' dl0 (gy rfl rfl rfl rfl rfl rfl) rfl rfl (step_load_all rfl rfl F.agg52 ?hl) ⟨?hb, trivial⟩ ?_
      case hb => repeat (first | exact uE | refine uN (by omega) ?_ | assumption | exact hd _ (by omega) | fail)
      case hl => first | rfl | (simp; done) | (first | exact bC_len _ | (simp; done) | (rw [bC_len]; omega) | omega)
      refine dl0 (gy rfl rfl rfl rfl rfl rfl) rfl rfl (step_callc rfl Try.func26 rfl rfl rfl (meet_Q (ofL l) (ofL m) hsa_ hsb_ (by omega)) (by repeat (first | exact .nil | refine .cons ?_ ?_ | exact VLe.refl _ | refine VLe.agg ?_ | exact VLe.own_sl _ _ _ | exact VLe.fl_sl _ _ | exact VLe.nil_sl _ | exact vle_int (by omega)))) trivial ?_
      refine' dl0 (gy rfl rfl rfl rfl rfl rfl) rfl rfl (step_load_all rfl rfl F.agg52 ?hl) ⟨?hb, trivial⟩ ?_
      case hb => repeat (first | exact uE | refine uN (by omega) ?_ | assumption | exact hd _ (by omega) | fail)
      case hl => first | rfl | (simp; done) | (first | exact bC_len _ | (simp; done) | (rw [bC_len]; omega) | omega)
      refine dl0 (gy rfl rfl rfl rfl rfl rfl) rfl rfl (step_callc rfl Try.func29 rfl rfl rfl (within_Q (meetL (ofL l) (ofL m)) (ofL l) hsa_.meet hsa_ (by omega)) (by repeat (first | exact .nil | refine .cons ?_ ?_ | exact VLe.refl _ | refine VLe.agg ?_ | exact VLe.own_sl _ _ _ | exact VLe.fl_sl _ _ | exact VLe.nil_sl _ | exact vle_int (by omega)))) trivial ?_
      refine dl_know (d := 77) (c := true) rfl ((decide_eq_true (law_in hsa_))) ?_
      refine dl0 (gy rfl rfl rfl rfl rfl rfl) rfl rfl (step_unOp (c := .bool false) rfl (ev_mk rfl) (fun _ => rfl)) trivial ?_
      refine dl0 (gn rfl) rfl rfl (step_pick rfl (ev_mk rfl) (ev_mk rfl)) trivial ?_
      refine dl0 (gn rfl) rfl rfl (step_mv rfl rfl) trivial ?_
      refine' dl0 (gy rfl rfl rfl rfl rfl rfl) rfl rfl (step_load_all rfl rfl F.agg52 ?hl) ⟨?hb, trivial⟩ ?_
      case hb => repeat (first | exact uE | refine uN (by omega) ?_ | assumption | exact hd _ (by omega) | fail)
      case hl => first | rfl | (simp; done) | (first | exact bC_len _ | (simp; done) | (rw [bC_len]; omega) | omega)
      refine' dl0 (gy rfl rfl rfl rfl rfl rfl) rfl rfl (step_load_all rfl rfl F.agg52 ?hl) ⟨?hb, trivial⟩ ?_
      case hb => repeat (first | exact uE | refine uN (by omega) ?_ | assumption | exact hd _ (by omega) | fail)
      case hl => first | rfl | (simp; done) | (first | exact bC_len _ | (simp; done) | (rw [bC_len]; omega) | omega)
      refine' dl0 (gy rfl rfl rfl rfl rfl rfl) rfl rfl (step_load_all rfl rfl F.agg52 ?hl) ⟨?hb, trivial⟩ ?_
      case hb => repeat (first | exact uE | refine uN (by omega) ?_ | assumption | exact hd _ (by omega) | fail)
      case hl => first | rfl | (simp; done) | (first | exact bC_len _ | (simp; done) | (rw [bC_len]; omega) | omega)
      refine dl0 (gy rfl rfl rfl rfl rfl rfl) rfl rfl (step_callc rfl Try.func25 rfl rfl rfl (join_Q (ofL l) (ofL m) hsa_ hsb_ (by omega)) (by repeat (first | exact .nil | refine .cons ?_ ?_ | exact VLe.refl _ | refine VLe.agg ?_ | exact VLe.own_sl _ _ _ | exact VLe.fl_sl _ _ | exact VLe.nil_sl _ | exact vle_int (by omega)))) trivial ?_
      refine dl0 (gy rfl rfl rfl rfl rfl rfl) rfl rfl (step_callc rfl Try.func29 rfl rfl rfl (within_Q (ofL l) (joinL (ofL l) (ofL m)) hsa_ (hsa_.join hsb_.ins) (by omega)) (by repeat (first | exact .nil | refine .cons ?_ ?_ | exact VLe.refl _ | refine VLe.agg ?_ | exact VLe.own_sl _ _ _ | exact VLe.fl_sl _ _ | exact VLe.nil_sl _ | exact vle_int (by omega)))) trivial ?_
      refine dl_know (d := 85) (c := true) rfl ((decide_eq_true (law_out hsa_ hsb_))) ?_
      refine dl0 (gy rfl rfl rfl rfl rfl rfl) rfl rfl (step_unOp (c := .bool false) rfl (ev_mk rfl) (fun _ => rfl)) trivial ?_
      refine dl0 (gn rfl) rfl rfl (step_pick rfl (ev_mk rfl) (ev_mk rfl)) trivial ?_
      refine dlnil ?_ ?_
      · repeat' (first | exact trivial | exact .inr (ap0 _ _ _ _) | exact .inr (ap2 _ _ _ _) | exact .inr (ap3 _ _ _ _) | exact .inr ⟨by first | (simp; done) | (simp; omega), by first | (simp; done) | (simp; omega)⟩ | exact .inl (by kernel_rfl) | refine ⟨?_, ?_⟩ | fail)
      refine runs_cond false (ev_mk rfl) (fun h_ => nomatch h_) (fun _ => ?_)
      refine runs_skip ?_
      refine runs_seq ?_
      refine runs_region ?_
      refine rl0 (gn rfl) rfl rfl (step_as rfl rfl) trivial ?_
      refine runsL_nil ?_
      refine runs_seq ?_
      refine runs_seq ?_
      refine runs_region ?_
      refine rl0 (gn rfl) rfl rfl (step_as rfl rfl) trivial ?_
      refine runsL_nil ?_
      refine runs_block ?_
      have hs0_ : false = inL (l.take 0) n_ := by rfl
      refine runs_loop (fun (ri_ : Nat) (st_ : Go.Vm.S) => ∃ (i : Nat) (m0 : Nat) (b0 : Nat → Box), (st_ = ⟨mk [(0, .sl 2 (l.map spQ)), (2, .sc (.int .u64 n_)), (6, .sc (.bool false)), (7, .ref (n + 0) 0), (9, .sc (.bool (inL (l.take i) n_))), (10, .sc (.int .i64 (i : Int)))], m0, b0⟩) ∧ (ri_ = 1 + (l.length - i)) ∧ (n + 2 ≤ m0) ∧ (∀ k_, k_ < n → b0 k_ = bx k_) ∧ (b0 (n + 0) = .cells [.sl 2 (((ofL l)).map spQ)]) ∧ (b0 (n + 1) = .cells [.sl 2 (((ofL m)).map spQ)]) ∧ (i ≤ l.length)) (1 + (l.length - 0)) ⟨_, sle ?_ (Nat.le_refl _), 0, _, _, rfl, rfl, ?_⟩ ?_
      · (repeat' (first | exact trivial | refine ⟨⟨_, rfl, ?_⟩, ?_⟩ | fail)); all_goals (repeat' (first | exact VLe.refl _ | exact VLe.own_sl _ _ _ | exact VLe.fl_sl _ _ | exact VLe.nil_sl _ | exact VLe.nil_fl _ | exact VLes.refl _ | exact .nil | refine VLe.tup ?_ | refine VLe.agg ?_ | refine .cons ?_ ?_ | (rw [Int.natCast_add]; exact VLe.refl _) | exact vle_int (by omega) | exact vle_bool (by first | rfl | assumption | (simp_all; done) | fail) | (rw [← hs0_]; exact VLe.refl _) | (rw [hs0_]; exact VLe.refl _) | fail))
      · exact ⟨by omega, (fun k_ hk_ => by repeat (first | exact rfl | refine uN (by omega) ?_ | assumption | fail)), by first | ((repeat (first | exact uE | assumption | refine uN (by omega) ?_ | fail)); done) | exact tl_eq (by repeat (first | exact uE | assumption | refine uN (by omega) ?_ | fail)) (by first | rfl | (simp [bytesV, beB_len]; done) | (simp [bytesV, beB_len]; omega) | omega) | (rw [← hs0_]; (repeat (first | exact uE | assumption | refine uN (by omega) ?_ | fail)); done), by first | ((repeat (first | exact uE | assumption | refine uN (by omega) ?_ | fail)); done) | exact tl_eq (by repeat (first | exact uE | assumption | refine uN (by omega) ?_ | fail)) (by first | rfl | (simp [bytesV, beB_len]; done) | (simp [bytesV, beB_len]; omega) | omega) | (rw [← hs0_]; (repeat (first | exact uE | assumption | refine uN (by omega) ?_ | fail)); done), by omega⟩
      · rintro _ _ ⟨i, m0, b0, rfl, rfl, hm0, hf0, hB0_0, hB0_1, hF0_0⟩
        refine runs_know (fun hd0 => ?_)
        refine runs_bump 20 ?_
        simp only at hd0
        refine runs_seq ?_
        refine runs_seq ?_
        refine runs_region ?_
        refine rl0 (gn rfl) rfl rfl (step_mv rfl rfl) trivial ?_
        refine rl0 (gn rfl) rfl rfl (step_mv rfl rfl) trivial ?_
        refine rl0 (gn rfl) rfl rfl (step_len (m := l.length) rfl rfl (ev_mk rfl) (.inl ⟨⟨_, Try.underlying49⟩, .inl ⟨_, _, .inl rfl, List.length_map _⟩⟩)) trivial ?_
        refine rl_lss (gn rfl) rfl rfl rfl rfl rfl (fun h3 => ?_) (fun h3 => ?_)
        · skip
          refine runsL_nil ?_
          refine runs_cond true (ev_mk rfl) (fun _ => ?_) (fun h_ => nomatch h_)
          refine runs_skip ?_
          refine runs_seq ?_
          refine runs_block ?_
          refine runs_region ?_
          refine rl0 (gn rfl) rfl rfl (step_mv rfl rfl) trivial ?_
          refine rl0 (gn rfl) rfl rfl (step_mv rfl rfl) trivial ?_
          refine rl_bool (d := 95) rfl (fun h4 => ?_) (fun h4 => ?_)
          · skip
            have hin_ := inL_1 (l := l) (n := n_) (i := i) (by omega) h4
            refine rlk rfl rfl rfl rfl rfl (ngb rfl rfl) rfl rfl ?_
            refine rlk rfl rfl rfl rfl rfl (ngb rfl rfl) rfl rfl ?_
            refine rlk rfl rfl rfl rfl rfl (ngb rfl rfl) rfl rfl ?_
            refine rlk rfl rfl rfl rfl rfl (ngb rfl rfl) rfl rfl ?_
            refine rlk rfl rfl rfl rfl rfl (ngb rfl rfl) rfl rfl ?_
            refine rlk rfl rfl rfl rfl rfl (ngb rfl rfl) rfl rfl ?_
            refine rlk rfl rfl rfl rfl rfl (ngb rfl rfl) rfl rfl ?_
            refine rlk rfl rfl rfl rfl rfl (ngb rfl rfl) rfl rfl ?_
            refine rlk rfl rfl rfl rfl rfl (ngu rfl) rfl rfl ?_
            refine rlk rfl rfl rfl rfl rfl (ngu rfl) rfl rfl ?_
            refine rlk rfl rfl rfl rfl rfl (ngu rfl) rfl rfl ?_
            refine rlk rfl rfl rfl rfl rfl (ngu rfl) rfl rfl ?_
            refine rlk rfl rfl rfl rfl rfl (ngu rfl) rfl rfl ?_
            refine rlk rfl rfl rfl rfl rfl (ngu rfl) rfl rfl ?_
            refine rlk rfl rfl rfl rfl rfl (ngu rfl) rfl rfl ?_
            refine rlk rfl rfl rfl rfl rfl (ngb rfl rfl) rfl rfl ?_
            refine rl0 (gn rfl) rfl rfl (step_pick rfl (ev_mk rfl) (ev_mk rfl)) trivial ?_
            refine rl0 (gn rfl) rfl rfl (step_as rfl rfl) trivial ?_
            refine runsL_nil ?_
            refine runs_region ?_
            refine rl0 (gn rfl) rfl rfl (step_mv rfl rfl) trivial ?_
            refine rl0 (gn rfl) rfl rfl (step_add rfl (ev_mk rfl) (ev_mk rfl) (w64 (by omega))) trivial ?_
            refine rl0 (gn rfl) rfl rfl (step_as rfl rfl) trivial ?_
            refine runsL_nil ?_
            have hq0_ : true = inL (l.take (i + 1)) n_ := by (exact hin_)
            refine ⟨_, _, ?_, sle ?_ (Nat.le_refl _), (i + 1), _, _, rfl, rfl, by omega, (fun k_ hk_ => by repeat (first | exact hf0 k_ hk_ | refine uN (by first | assumption | omega) ?_ | fail)), by first | ((repeat (first | exact uE | assumption | refine uN (by omega) ?_ | fail)); done) | exact tl_eq (by repeat (first | exact uE | assumption | refine uN (by omega) ?_ | fail)) (by first | rfl | (simp [bytesV, beB_len]; done) | (simp [bytesV, beB_len]; omega) | omega) | (rw [← hq0_]; (repeat (first | exact uE | assumption | refine uN (by omega) ?_ | fail)); done), by first | ((repeat (first | exact uE | assumption | refine uN (by omega) ?_ | fail)); done) | exact tl_eq (by repeat (first | exact uE | assumption | refine uN (by omega) ?_ | fail)) (by first | rfl | (simp [bytesV, beB_len]; done) | (simp [bytesV, beB_len]; omega) | omega) | (rw [← hq0_]; (repeat (first | exact uE | assumption | refine uN (by omega) ?_ | fail)); done), by omega⟩
            · omega
            · (repeat' (first | exact trivial | refine ⟨⟨_, rfl, ?_⟩, ?_⟩ | fail)); all_goals (repeat' (first | exact VLe.refl _ | exact VLe.own_sl _ _ _ | exact VLe.fl_sl _ _ | exact VLe.nil_sl _ | exact VLe.nil_fl _ | exact VLes.refl _ | exact .nil | refine VLe.tup ?_ | refine VLe.agg ?_ | refine .cons ?_ ?_ | (rw [Int.natCast_add]; exact VLe.refl _) | exact vle_int (by omega) | exact vle_bool (by first | rfl | assumption | (simp_all; done) | fail) | (rw [← hq0_]; exact VLe.refl _) | (rw [hq0_]; exact VLe.refl _) | fail))
          · skip
            have hi0_ := h4
            refine rl0 (gy rfl rfl rfl rfl rfl rfl) rfl rfl (step_mv rfl rfl) trivial ?_
            refine rl0 (gy rfl rfl rfl rfl rfl rfl) rfl rfl (step_mv rfl rfl) trivial ?_
            refine' rl0 (gy rfl rfl rfl rfl rfl rfl) rfl rfl (step_index rfl (ev_mk rfl) (.inl rfl) (ev_mk rfl) Try.underlying49 F.sz58 (by omega) ?hr) trivial ?_
            case hr => exact map_at _ _ _ (by omega) (by omega)
            refine rl0 (gy rfl rfl rfl rfl rfl rfl) rfl rfl (step_fieldAddr_ro (off := 0) rfl (ev_mk rfl) Try.underlying58 rfl F.sz50 rfl rfl) trivial ?_
            refine rl0 (gy rfl rfl rfl rfl rfl rfl) rfl rfl (step_load_ro rfl (ev_mk rfl) F.one50 rfl) trivial ?_
            refine rl0 (gy rfl rfl rfl rfl rfl rfl) rfl rfl (step_mv rfl rfl) trivial ?_
            refine rl_leq (gy rfl rfl rfl rfl rfl rfl) rfl rfl rfl rfl rfl (fun h5 => ?_) (fun h5 => ?_)
            · skip
              refine rl0 (gy rfl rfl rfl rfl rfl rfl) rfl rfl (step_mv rfl rfl) trivial ?_
              refine rl0 (gy rfl rfl rfl rfl rfl rfl) rfl rfl (step_mv rfl rfl) trivial ?_
              refine rl0 (gy rfl rfl rfl rfl rfl rfl) rfl rfl (step_mv rfl rfl) trivial ?_
              refine rl0 (gy rfl rfl rfl rfl rfl rfl) rfl rfl (step_mv rfl rfl) trivial ?_
              refine' rl0 (gy rfl rfl rfl rfl rfl rfl) rfl rfl (step_index rfl (ev_mk rfl) (.inl rfl) (ev_mk rfl) Try.underlying49 F.sz58 (by omega) ?hr) trivial ?_
              case hr => exact map_at _ _ _ (by omega) (by omega)
              refine rl0 (gy rfl rfl rfl rfl rfl rfl) rfl rfl (step_fieldAddr_ro (off := 1) rfl (ev_mk rfl) Try.underlying58 rfl F.sz50 rfl rfl) trivial ?_
              refine rl0 (gy rfl rfl rfl rfl rfl rfl) rfl rfl (step_load_ro rfl (ev_mk rfl) F.one50 rfl) trivial ?_
              refine rl_leq (gy rfl rfl rfl rfl rfl rfl) rfl rfl rfl rfl rfl (fun h6 => ?_) (fun h6 => ?_)
              · skip
                have hin_ := inL_2 (l := l) (n := n_) (i := i) (by omega) (by omega) (by omega)
                refine rl0 (gy rfl rfl rfl rfl rfl rfl) rfl rfl (step_pick rfl (ev_mk rfl) (ev_mk rfl)) trivial ?_
                refine rl0 (gn rfl) rfl rfl (step_pick rfl (ev_mk rfl) (ev_mk rfl)) trivial ?_
                refine rl0 (gn rfl) rfl rfl (step_as rfl rfl) trivial ?_
                refine runsL_nil ?_
                refine runs_region ?_
                refine rl0 (gn rfl) rfl rfl (step_mv rfl rfl) trivial ?_
                refine rl0 (gn rfl) rfl rfl (step_add rfl (ev_mk rfl) (ev_mk rfl) (w64 (by omega))) trivial ?_
                refine rl0 (gn rfl) rfl rfl (step_as rfl rfl) trivial ?_
                refine runsL_nil ?_
                have hq0_ : true = inL (l.take (i + 1)) n_ := by (exact hin_)
                refine ⟨_, _, ?_, sle ?_ (Nat.le_refl _), (i + 1), _, _, rfl, rfl, by omega, (fun k_ hk_ => by repeat (first | exact hf0 k_ hk_ | refine uN (by first | assumption | omega) ?_ | fail)), by first | ((repeat (first | exact uE | assumption | refine uN (by omega) ?_ | fail)); done) | exact tl_eq (by repeat (first | exact uE | assumption | refine uN (by omega) ?_ | fail)) (by first | rfl | (simp [bytesV, beB_len]; done) | (simp [bytesV, beB_len]; omega) | omega) | (rw [← hq0_]; (repeat (first | exact uE | assumption | refine uN (by omega) ?_ | fail)); done), by first | ((repeat (first | exact uE | assumption | refine uN (by omega) ?_ | fail)); done) | exact tl_eq (by repeat (first | exact uE | assumption | refine uN (by omega) ?_ | fail)) (by first | rfl | (simp [bytesV, beB_len]; done) | (simp [bytesV, beB_len]; omega) | omega) | (rw [← hq0_]; (repeat (first | exact uE | assumption | refine uN (by omega) ?_ | fail)); done), by omega⟩
                · omega
                · (repeat' (first | exact trivial | refine ⟨⟨_, rfl, ?_⟩, ?_⟩ | fail)); all_goals (repeat' (first | exact VLe.refl _ | exact VLe.own_sl _ _ _ | exact VLe.fl_sl _ _ | exact VLe.nil_sl _ | exact VLe.nil_fl _ | exact VLes.refl _ | exact .nil | refine VLe.tup ?_ | refine VLe.agg ?_ | refine .cons ?_ ?_ | (rw [Int.natCast_add]; exact VLe.refl _) | exact vle_int (by omega) | exact vle_bool (by first | rfl | assumption | (simp_all; done) | fail) | (rw [← hq0_]; exact VLe.refl _) | (rw [hq0_]; exact VLe.refl _) | fail))
              · skip
                have hin_ := inL_3 (l := l) (n := n_) (i := i) (by omega) hi0_ (by omega)
                refine rl0 (gy rfl rfl rfl rfl rfl rfl) rfl rfl (step_pick rfl (ev_mk rfl) (ev_mk rfl)) trivial ?_
                refine rl0 (gn rfl) rfl rfl (step_pick rfl (ev_mk rfl) (ev_mk rfl)) trivial ?_
                refine rl0 (gn rfl) rfl rfl (step_as rfl rfl) trivial ?_
                refine runsL_nil ?_
                refine runs_region ?_
                refine rl0 (gn rfl) rfl rfl (step_mv rfl rfl) trivial ?_
                refine rl0 (gn rfl) rfl rfl (step_add rfl (ev_mk rfl) (ev_mk rfl) (w64 (by omega))) trivial ?_
                refine rl0 (gn rfl) rfl rfl (step_as rfl rfl) trivial ?_
                refine runsL_nil ?_
                have hq0_ : false = inL (l.take (i + 1)) n_ := by (exact hin_)
                refine ⟨_, _, ?_, sle ?_ (Nat.le_refl _), (i + 1), _, _, rfl, rfl, by omega, (fun k_ hk_ => by repeat (first | exact hf0 k_ hk_ | refine uN (by first | assumption | omega) ?_ | fail)), by first | ((repeat (first | exact uE | assumption | refine uN (by omega) ?_ | fail)); done) | exact tl_eq (by repeat (first | exact uE | assumption | refine uN (by omega) ?_ | fail)) (by first | rfl | (simp [bytesV, beB_len]; done) | (simp [bytesV, beB_len]; omega) | omega) | (rw [← hq0_]; (repeat (first | exact uE | assumption | refine uN (by omega) ?_ | fail)); done), by first | ((repeat (first | exact uE | assumption | refine uN (by omega) ?_ | fail)); done) | exact tl_eq (by repeat (first | exact uE | assumption | refine uN (by omega) ?_ | fail)) (by first | rfl | (simp [bytesV, beB_len]; done) | (simp [bytesV, beB_len]; omega) | omega) | (rw [← hq0_]; (repeat (first | exact uE | assumption | refine uN (by omega) ?_ | fail)); done), by omega⟩
                · omega
                · (repeat' (first | exact trivial | refine ⟨⟨_, rfl, ?_⟩, ?_⟩ | fail)); all_goals (repeat' (first | exact VLe.refl _ | exact VLe.own_sl _ _ _ | exact VLe.fl_sl _ _ | exact VLe.nil_sl _ | exact VLe.nil_fl _ | exact VLes.refl _ | exact .nil | refine VLe.tup ?_ | refine VLe.agg ?_ | refine .cons ?_ ?_ | (rw [Int.natCast_add]; exact VLe.refl _) | exact vle_int (by omega) | exact vle_bool (by first | rfl | assumption | (simp_all; done) | fail) | (rw [← hq0_]; exact VLe.refl _) | (rw [hq0_]; exact VLe.refl _) | fail))
            · skip
              have hin_ := inL_3 (l := l) (n := n_) (i := i) (by omega) hi0_ (by omega)
              refine rl0 (gy rfl rfl rfl rfl rfl rfl) rfl rfl (step_mv rfl rfl) trivial ?_
              refine rlk rfl rfl rfl rfl rfl (ngb rfl rfl) rfl rfl ?_
              refine rlk rfl rfl rfl rfl rfl (ngb rfl rfl) rfl rfl ?_
              refine rlk rfl rfl rfl rfl rfl (ngb rfl rfl) rfl rfl ?_
              refine rlk rfl rfl rfl rfl rfl (ngb rfl rfl) rfl rfl ?_
              refine rlk rfl rfl rfl rfl rfl (ngb rfl rfl) rfl rfl ?_
              refine rlk rfl rfl rfl rfl rfl (ngb rfl rfl) rfl rfl ?_
              refine rlk rfl rfl rfl rfl rfl (ngb rfl rfl) rfl rfl ?_
              refine rl0 (gy rfl rfl rfl rfl rfl rfl) rfl rfl (step_pick rfl (ev_mk rfl) (ev_mk rfl)) trivial ?_
              refine rl0 (gn rfl) rfl rfl (step_pick rfl (ev_mk rfl) (ev_mk rfl)) trivial ?_
              refine rl0 (gn rfl) rfl rfl (step_as rfl rfl) trivial ?_
              refine runsL_nil ?_
              refine runs_region ?_
              refine rl0 (gn rfl) rfl rfl (step_mv rfl rfl) trivial ?_
              refine rl0 (gn rfl) rfl rfl (step_add rfl (ev_mk rfl) (ev_mk rfl) (w64 (by omega))) trivial ?_
              refine rl0 (gn rfl) rfl rfl (step_as rfl rfl) trivial ?_
              refine runsL_nil ?_
              have hq0_ : false = inL (l.take (i + 1)) n_ := by (exact hin_)
              refine ⟨_, _, ?_, sle ?_ (Nat.le_refl _), (i + 1), _, _, rfl, rfl, by omega, (fun k_ hk_ => by repeat (first | exact hf0 k_ hk_ | refine uN (by first | assumption | omega) ?_ | fail)), by first | ((repeat (first | exact uE | assumption | refine uN (by omega) ?_ | fail)); done) | exact tl_eq (by repeat (first | exact uE | assumption | refine uN (by omega) ?_ | fail)) (by first | rfl | (simp [bytesV, beB_len]; done) | (simp [bytesV, beB_len]; omega) | omega) | (rw [← hq0_]; (repeat (first | exact uE | assumption | refine uN (by omega) ?_ | fail)); done), by first | ((repeat (first | exact uE | assumption | refine uN (by omega) ?_ | fail)); done) | exact tl_eq (by repeat (first | exact uE | assumption | refine uN (by omega) ?_ | fail)) (by first | rfl | (simp [bytesV, beB_len]; done) | (simp [bytesV, beB_len]; omega) | omega) | (rw [← hq0_]; (repeat (first | exact uE | assumption | refine uN (by omega) ?_ | fail)); done), by omega⟩
              · omega
              · (repeat' (first | exact trivial | refine ⟨⟨_, rfl, ?_⟩, ?_⟩ | fail)); all_goals (repeat' (first | exact VLe.refl _ | exact VLe.own_sl _ _ _ | exact VLe.fl_sl _ _ | exact VLe.nil_sl _ | exact VLe.nil_fl _ | exact VLes.refl _ | exact .nil | refine VLe.tup ?_ | refine VLe.agg ?_ | refine .cons ?_ ?_ | (rw [Int.natCast_add]; exact VLe.refl _) | exact vle_int (by omega) | exact vle_bool (by first | rfl | assumption | (simp_all; done) | fail) | (rw [← hq0_]; exact VLe.refl _) | (rw [hq0_]; exact VLe.refl _) | fail))
        · skip
          obtain rfl : i = l.length := by omega
          refine runsL_nil ?_
          refine runs_cond false (ev_mk rfl) (fun h_ => nomatch h_) (fun _ => ?_)
          refine runs_exit ?_
          refine runs_seq ?_
          refine runs_region ?_
          refine' rl0 (gn rfl) rfl rfl (step_load_all rfl rfl F.agg52 ?hl) ⟨?hb, trivial⟩ ?_
          case hb => repeat (first | exact uE | refine uN (by omega) ?_ | assumption | exact hd _ (by omega) | exact hd0 _ (by omega) | fail)
          case hl => first | rfl | (simp; done) | (first | exact bC_len _ | (simp; done) | (rw [bC_len]; omega) | omega)
          refine rl0 (gn rfl) rfl rfl (step_mv rfl rfl) trivial ?_
          refine rl0 (gn rfl) rfl rfl (step_callc rfl Try.func30 rfl rfl rfl (has_Q (ofL l) hsa_ (by omega) n_) (by repeat (first | exact .nil | refine .cons ?_ ?_ | exact VLe.refl _ | refine VLe.agg ?_ | exact VLe.own_sl _ _ _ | exact VLe.fl_sl _ _ | exact VLe.nil_sl _ | exact vle_int (by omega)))) trivial ?_
          refine rl0 (gn rfl) rfl rfl (step_mv rfl rfl) trivial ?_
          refine rl0 (gn rfl) rfl rfl (step_eqlb rfl (ev_mk rfl) (ev_mk rfl) Try.underlying4) trivial ?_
          refine rl_know (d := 117) (c := true) rfl ((by rw [has_in hx, List.take_length]; simp)) ?_
          refine rl0 (gn rfl) rfl rfl (step_mv rfl rfl) trivial ?_
          refine' rl0 (gy rfl rfl rfl rfl rfl rfl) rfl rfl (step_load_all rfl rfl F.agg52 ?hl) ⟨?hb, trivial⟩ ?_
          case hb => repeat (first | exact uE | refine uN (by omega) ?_ | assumption | exact hd _ (by omega) | exact hd0 _ (by omega) | fail)
          case hl => first | rfl | (simp; done) | (first | exact bC_len _ | (simp; done) | (rw [bC_len]; omega) | omega)
          refine rl0 (gy rfl rfl rfl rfl rfl rfl) rfl rfl (step_callc rfl Try.func27 rfl rfl rfl (not_Q (ofL l) hsa_ (by omega)) (by repeat (first | exact .nil | refine .cons ?_ ?_ | exact VLe.refl _ | refine VLe.agg ?_ | exact VLe.own_sl _ _ _ | exact VLe.fl_sl _ _ | exact VLe.nil_sl _ | exact vle_int (by omega)))) trivial ?_
          refine rl0 (gy rfl rfl rfl rfl rfl rfl) rfl rfl (step_mv rfl rfl) trivial ?_
          refine rl0 (gy rfl rfl rfl rfl rfl rfl) rfl rfl (step_callc rfl Try.func30 rfl rfl rfl (has_Q (notL 18446744073709551615 (ofL l)) (setM_not hM0_) (by omega) n_) (by repeat (first | exact .nil | refine .cons ?_ ?_ | exact VLe.refl _ | refine VLe.agg ?_ | exact VLe.own_sl _ _ _ | exact VLe.fl_sl _ _ | exact VLe.nil_sl _ | exact vle_int (by omega)))) trivial ?_
          refine rl0 (gy rfl rfl rfl rfl rfl rfl) rfl rfl (step_mv rfl rfl) trivial ?_
          refine rl0 (gy rfl rfl rfl rfl rfl rfl) rfl rfl (step_unOp rfl (ev_mk rfl) (fun _ => rfl)) trivial ?_
          refine rl0 (gy rfl rfl rfl rfl rfl rfl) rfl rfl (step_eqlb rfl (ev_mk rfl) (ev_mk rfl) Try.underlying4) trivial ?_
          refine rl_know (d := 125) (c := true) rfl ((by rw [has_out hM0_ hx hn, List.take_length]; simp)) ?_
          refine rl0 (gn rfl) rfl rfl (step_pick rfl (ev_mk rfl) (ev_mk rfl)) trivial ?_
          refine rl0 (gn rfl) rfl rfl (step_mv rfl rfl) trivial ?_
          refine rl0 (gy rfl rfl rfl rfl rfl rfl) rfl rfl (step_callc rfl Try.func6 rfl rfl rfl (hw) (by repeat (first | exact .nil | refine .cons ?_ ?_ | exact VLe.refl _ | refine VLe.agg ?_ | exact VLe.own_sl _ _ _ | exact VLe.fl_sl _ _ | exact VLe.nil_sl _ | exact vle_int (by omega)))) trivial ?_
          refine rl0 (gn rfl) rfl rfl (step_pick rfl (ev_mk rfl) (ev_mk rfl)) trivial ?_
          refine rl0 (gn rfl) rfl rfl (step_as rfl rfl) trivial ?_
          refine runsL_nil ?_
          refine runs_ret ?_
          refine ⟨by first | exact .inr rfl | exact .inl rfl, fin_mkg (rest rfl res0) ?_ ?_ ?_ ?_ ?_⟩
          · (repeat' (first | exact VLe.refl _ | exact VLe.own_sl _ _ _ | exact VLe.fl_sl _ _ | exact VLe.nil_sl _ | exact VLe.nil_fl _ | exact VLes.refl _ | exact .nil | refine VLe.tup ?_ | refine VLe.agg ?_ | refine .cons ?_ ?_ | (rw [Int.natCast_add]; exact VLe.refl _) | exact vle_int (by omega) | exact vle_bool (by first | rfl | assumption | (simp_all; done) | fail) | fail))
          · first | ((repeat (first | exact trivial | exact bd_bCA _ _ | exact bd_bC _ _ | assumption | omega | (refine bdR_map (fun _ => ?_)) | refine ⟨?_, ?_⟩ | fail)); done) | (repeat (first | exact trivial | assumption | omega | (refine bdR_map (fun _ => ?_)) | (refine bdL_map (fun _ => ?_)) | refine ⟨?_, ?_⟩ | fail))
          · intro k_ hk_; exact ble (by repeat (first | exact rfl | refine uN (by omega) ?_ | assumption | exact hf0 _ (by omega) | fail))
          · intro p hp; cases hp
          · first | ((repeat (first | exact trivial | exact bd_bCA _ _ | exact bd_bC _ _ | assumption | omega | (refine bdR_map (fun _ => ?_)) | refine ⟨?_, ?_⟩ | fail)); done) | (repeat (first | exact trivial | assumption | omega | (refine bdR_map (fun _ => ?_)) | (refine bdL_map (fun _ => ?_)) | refine ⟨?_, ?_⟩ | fail))
end Go.Proofs.Ytgnbdegpljbckaa
