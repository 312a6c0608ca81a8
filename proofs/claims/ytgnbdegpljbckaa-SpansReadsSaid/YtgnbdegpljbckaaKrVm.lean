/- Walks by the logic of values. -/
import Derived.Test.YtgnbdegpljbckaaKrVmT
import Derived.Test.YtgnbdegpljbckaaKrVmP
import Derived.Test.YtgnbdegpljbckaaKrVmV
import Derived.Test.YtgnbdegpljbckaaKrVa
import Derived.Test.YtgnbdegpljbckaaKrVp
import Derived.Test.YtgnbdegpljbckaaKrVb
import Derived.Test.YtgnbdegpljbckaaKrVc
import Derived.Test.YtgnbdegpljbckaaKrVd
import Derived.Test.YtgnbdegpljbckaaKrVe
import Derived.Test.YtgnbdegpljbckaaKrVf
import Derived.Test.YtgnbdegpljbckaaKrVg
import Derived.Test.YtgnbdegpljbckaaKrVh
import Derived.Test.YtgnbdegpljbckaaKrVi
import Derived.Test.YtgnbdegpljbckaaKrVj
import Derived.Test.YtgnbdegpljbckaaKrVk
namespace Go.Proofs.Ytgnbdegpljbckaa
open Go.Vm
set_option linter.unusedVariables false
set_option linter.unusedSimpArgs false
def wS : List Sp := [⟨3, 6⟩, ⟨9, 9⟩]
def wT : List Sp := [⟨3, 3⟩, ⟨5, 6⟩, ⟨9, 9⟩]
def wU : List Sp := [⟨5, 6⟩, ⟨9, 9⟩]
def wA : List Sp := [⟨3, 5⟩, ⟨6, 6⟩, ⟨9, 9⟩]
def wB : List Sp := [⟨5, 9⟩]
def wF : List Sp := [⟨0, 18446744073709551615⟩]
instance (M : Int) (x : Sp) : Decidable (inM M x) := inferInstanceAs (Decidable (_ ∧ _))
theorem inA : ∀ x ∈ wA, inM 255 x := by decide +kernel
theorem inB : ∀ x ∈ wB, inM 255 x := by decide +kernel
theorem inF : ∀ x ∈ wF, inM 18446744073709551615 x := by decide +kernel
theorem eS : ofL wA = wS := by decide +kernel
theorem eB : ofL wB = wB := by decide +kernel
theorem eF : ofL wF = wF := by decide +kernel
theorem eT : cutL wS ⟨4, 4⟩ = wT := by decide +kernel
theorem eU : meetL wS wB = wU := by decide +kernel
theorem setS : SetM 255 wS := eS ▸ setM_of inA
theorem setB : SetM 255 wB := eB ▸ setM_of inB
theorem setF : SetM 18446744073709551615 wF := eF ▸ setM_of inF
theorem setT : SetM 255 wT := eT ▸ setS.cut _
theorem setU : SetM 255 wU := eU ▸ setS.meet
theorem of_wS : Does Try.prog 7 [.sl 2 (wA.map spB)] [] [] (.agg [.sl 2 (wS.map spB)]) := by
  have h := of_B wA inA (by decide); rw [eS] at h; exact h
theorem of_wB : Does Try.prog 7 [.sl 2 (wB.map spB)] [] [] (.agg [.sl 2 (wB.map spB)]) := by
  have h := of_B wB inB (by decide); rw [eB] at h; exact h
theorem of_wF : Does Try.prog 23 [.sl 2 (wF.map spQ)] [] [] (.agg [.sl 2 (wF.map spQ)]) := by
  have h := of_Q wF inF (by decide); rw [eF] at h; exact h
theorem cut_w : Does Try.prog 16 [.agg [.sl 2 (wS.map spB)], .agg [.sc (.int .u8 4), .sc (.int .u8 4)]] [] [] (.agg [.sl 2 (wT.map spB)]) := by
  have h := cut_B wS setS (by decide) ⟨4, 4⟩ (by decide +kernel); rw [eT] at h; exact h
theorem next_4 : Does Try.prog 20 [.agg [.sl 2 (wT.map spB)], .sc (.int .u8 4)] [] [] (.tup [.sc (.int .u8 5), .sc (.bool true)]) := by
  have h := next_B wT setT (by decide) 4; rw [show nxV wT 4 = 5 by decide +kernel, show nxB wT 4 = true by decide +kernel] at h; exact h
theorem next_10 : Does Try.prog 20 [.agg [.sl 2 (wS.map spB)], .sc (.int .u8 10)] [] [] (.tup [.sc (.int .u8 0), .sc (.bool false)]) := by
  have h := next_B wS setS (by decide) 10; rw [show nxV wS 10 = 0 by decide +kernel, show nxB wS 10 = false by decide +kernel] at h; exact h
theorem meet_w : Does Try.prog 14 [.agg [.sl 2 (wS.map spB)], .agg [.sl 2 (wB.map spB)]] [] [] (.agg [.sl 2 (wU.map spB)]) := by
  have h := meet_B wS wB setS setB (by decide); rw [eU] at h; exact h
theorem has_6 : Does Try.prog 21 [.agg [.sl 2 (wS.map spB)], .sc (.int .u8 6)] [] [] (.sc (.bool true)) := by
  have h := has_B wS setS (by decide) 6; rw [show hasB wS 6 = true by decide +kernel] at h; exact h
theorem has_4 : Does Try.prog 21 [.agg [.sl 2 (wT.map spB)], .sc (.int .u8 4)] [] [] (.sc (.bool false)) := by
  have h := has_B wT setT (by decide) 4; rw [show hasB wT 4 = false by decide +kernel] at h; exact h
theorem has_F : Does Try.prog 30 [.agg [.sl 2 (wF.map spQ)], .sc (.int .u64 9223372036854775808)] [] [] (.sc (.bool true)) := by
  have h := has_Q wF setF (by decide) 9223372036854775808; rw [show hasB wF 9223372036854775808 = true by decide +kernel] at h; exact h
theorem not_1 : Does Try.prog 17 [.agg [.sl 2 (wS.map spB)]] [] [] (.agg [.sl 2 ((notL 255 wS).map spB)]) := not_B wS setS (by decide)
theorem not_2 : Does Try.prog 17 [.agg [.sl 2 ((notL 255 wS).map spB)]] [] [] (.agg [.sl 2 (wS.map spB)]) := by
  have h := not_B (notL 255 wS) (setM_not (by omega)) (by decide +kernel); rw [law_notnot (by omega) setS] at h; exact h
theorem same_w : Does Try.prog 19 [.agg [.sl 2 (wS.map spB)], .agg [.sl 2 (wS.map spB)]] [] [] (.sc (.bool true)) := by
  have h := same_B wS wS (by decide) (by decide); rw [decide_eq_true rfl] at h; exact h
theorem empty_w : Does Try.prog 32 [.agg [.sl 2 (wS.map spB)]] [] [] (.sc (.bool false)) := by
  have h := empty_B wS (by decide); rw [show decide (wS = []) = false by decide +kernel] at h; exact h
theorem not_F : Does Try.prog 27 [.agg [.sl 2 (wF.map spQ)]] [] [] (.agg [.sl 2 (([] : List Sp).map spQ)]) := by
  have h := not_Q wF setF (by decide); rw [show notL 18446744073709551615 wF = [] by decide +kernel] at h; exact h
theorem empty_F : Does Try.prog 33 [.agg [.sl 2 (([] : List Sp).map spQ)]] [] [] (.sc (.bool true)) := by
  have h := empty_Q [] (by decide); rw [decide_eq_true rfl] at h; exact h
theorem within_1 : Does Try.prog 34 [.agg [.sl 2 (wU.map spB)], .agg [.sl 2 (wS.map spB)]] [] [] (.sc (.bool true)) := by
  have h := within_B wU wS setU setS (by decide); rw [show decide (lessL wU wS = []) = true by decide +kernel] at h; exact h
theorem within_2 : Does Try.prog 34 [.agg [.sl 2 (wS.map spB)], .agg [.sl 2 (wU.map spB)]] [] [] (.sc (.bool false)) := by
  have h := within_B wS wU setS setU (by decide); rw [show decide (lessL wS wU = []) = false by decide +kernel] at h; exact h
theorem join_w : Does Try.prog 11 [.agg [.sl 2 (wT.map spB)], .agg [.sl 2 (wS.map spB)]] [] [] (.agg [.sl 2 (wS.map spB)]) := by
  have h := join_B wT wS setT setS (by decide); rw [show joinL wT wS = wS by decide +kernel] at h; exact h
def smW (i : Nat) : Int := ((numL wU).take i).sum
theorem sm_s {i : Nat} {v : Int} (h : (numL wU)[i]? = some v) : smW (i + 1) = smW i + v := by
  unfold smW; rw [List.take_add_one, h, List.sum_append]; simp
theorem sm_b : ∀ i, i < 4 → 0 ≤ smW i ∧ smW i ≤ 20 := by decide +kernel
theorem sm_v : ∀ v ∈ numL wU, 0 ≤ v ∧ v ≤ 9 := by decide +kernel
theorem sm_i {i : Nat} {v : Int} (h : (numL wU)[i]? = some v) : i < 4 := by
  have hl : (numL wU).length = 3 := by decide +kernel
  rcases Nat.lt_or_ge i 4 with q | q
  · exact q
  · rw [List.getElem?_eq_none (by omega)] at h; cases h
set_option maxRecDepth 100000 in
set_option maxHeartbeats 4000000 in
theorem works_c  : Does Try.prog 6 [] [] [] (.sc (.bool true)) := by
  refine does_mkr 40 Try.func6 rfl rfl rfl (fun n B bx hd hpre hup hvs hbx hgx hO => ?_)
  refine runs_seq ?_
  refine runs_region ?_
  refine rl0 (gn rfl) rfl rfl (step_as rfl rfl) trivial ?_
  refine runsL_nil ?_
  refine runs_seq ?_
  refine runs_region ?_
  refine rl0 (gn rfl) rfl rfl (step_build (ss := [1, 1]) (zs := [.int .u8 0, .int .u8 0]) (cs := [.sc (.int .u8 3), .sc (.int .u8 5)]) rfl Try.underlying37 (by kernel_rfl) F.zero37 rfl rfl rfl) trivial ?_
  refine rl0 (gn rfl) rfl rfl (step_build (ss := [1, 1]) (zs := [.int .u8 0, .int .u8 0]) (cs := [.sc (.int .u8 6), .sc (.int .u8 6)]) rfl Try.underlying37 (by kernel_rfl) F.zero37 rfl rfl rfl) trivial ?_
  refine rl0 (gn rfl) rfl rfl (step_build (ss := [1, 1]) (zs := [.int .u8 0, .int .u8 0]) (cs := [.sc (.int .u8 9), .sc (.int .u8 9)]) rfl Try.underlying37 (by kernel_rfl) F.zero37 rfl rfl rfl) trivial ?_
  refine rl0 (gn rfl) rfl rfl (step_lit rfl Try.underlying26 F.sz37 F.zero37 (by first | rfl | simp) (by first | rfl | simp | decide) (by decide) rfl rfl (by first | (simp [V.cs, V.stor, oneV]; done) | (simp [V.cs, V.stor, oneV])) rfl) trivial ?_
  refine rl0 (gn rfl) rfl rfl (step_callc rfl Try.func7 rfl rfl rfl (of_wS) (by repeat (first | exact .nil | refine .cons ?_ ?_ | exact VLe.refl _ | refine VLe.agg ?_ | exact VLe.own_sl _ _ _ | exact VLe.fl_sl _ _ | exact VLe.nil_sl _ | exact vle_int (by omega)))) trivial ?_
  refine rl1 (gn rfl) rfl rfl (step_allocc (k := n + 0) (zs := [.slice none 0 0]) (cs := [.sc (.slice none 0 0)]) rfl F.zero28 (by first | rfl | simp) (by first | rfl | decide | simp) (by first | rfl | simp)) ⟨by repeat (first | exact uE | refine uN (by omega) ?_ | assumption | exact hd _ (by omega) | fail), trivial⟩ (by omega) ?_
  refine' rls (gn rfl) rfl (step_storeA rfl rfl rfl rfl F.agg28 ?hm ?hl) ⟨?hb, trivial⟩ ?hk ?_
  case hb => repeat (first | exact uE | refine uN (by omega) ?_ | assumption | exact hd _ (by omega) | fail)
  case hm => first | rfl | (simp; done) | (first | (simp; done) | (simp; omega) | omega)
  case hl => first | rfl | (simp; done) | (first | (simp; done) | (simp; omega) | omega)
  case hk => omega
  refine runsL_nil ?_
  refine runs_seq ?_
  refine runs_region ?_
  refine' rl0 (gn rfl) rfl rfl (step_load_all rfl rfl F.agg28 ?hl) ⟨?hb, trivial⟩ ?_
  case hb => repeat (first | exact uE | refine uN (by omega) ?_ | assumption | exact hd _ (by omega) | fail)
  case hl => first | rfl | (simp; done) | (first | (simp; done) | (simp; omega) | omega)
  refine rl0 (gn rfl) rfl rfl (step_callc rfl Try.func31 rfl rfl rfl (spans_B wS (by decide)) (by repeat (first | exact .nil | refine .cons ?_ ?_ | exact VLe.refl _ | refine VLe.agg ?_ | exact VLe.own_sl _ _ _ | exact VLe.fl_sl _ _ | exact VLe.nil_sl _ | exact vle_int (by omega)))) trivial ?_
  refine rl0 (gn rfl) rfl rfl (step_as rfl rfl) trivial ?_
  refine runsL_nil ?_
  refine runs_seq ?_
  refine runs_region ?_
  refine' rl0 (gn rfl) rfl rfl (step_load_all rfl rfl F.agg28 ?hl) ⟨?hb, trivial⟩ ?_
  case hb => repeat (first | exact uE | refine uN (by omega) ?_ | assumption | exact hd _ (by omega) | fail)
  case hl => first | rfl | (simp; done) | (first | (simp; done) | (simp; omega) | omega)
  refine rl0 (gn rfl) rfl rfl (step_build (ss := [1, 1]) (zs := [.int .u8 0, .int .u8 0]) (cs := [.sc (.int .u8 4), .sc (.int .u8 4)]) rfl Try.underlying37 (by kernel_rfl) F.zero37 rfl rfl rfl) trivial ?_
  refine rl0 (gn rfl) rfl rfl (step_callc rfl Try.func16 rfl rfl rfl (cut_w) (by repeat (first | exact .nil | refine .cons ?_ ?_ | exact VLe.refl _ | refine VLe.agg ?_ | exact VLe.own_sl _ _ _ | exact VLe.fl_sl _ _ | exact VLe.nil_sl _ | exact vle_int (by omega)))) trivial ?_
  refine rl1 (gn rfl) rfl rfl (step_allocc (k := n + 1) (zs := [.slice none 0 0]) (cs := [.sc (.slice none 0 0)]) rfl F.zero28 (by first | rfl | simp) (by first | rfl | decide | simp) (by first | rfl | simp)) ⟨by repeat (first | exact uE | refine uN (by omega) ?_ | assumption | exact hd _ (by omega) | fail), trivial⟩ (by omega) ?_
  refine' rls (gn rfl) rfl (step_storeA rfl rfl rfl rfl F.agg28 ?hm ?hl) ⟨?hb, trivial⟩ ?hk ?_
  case hb => repeat (first | exact uE | refine uN (by omega) ?_ | assumption | exact hd _ (by omega) | fail)
  case hm => first | rfl | (simp; done) | (first | (simp; done) | (simp; omega) | omega)
  case hl => first | rfl | (simp; done) | (first | (simp; done) | (simp; omega) | omega)
  case hk => omega
  refine runsL_nil ?_
  refine runs_seq ?_
  refine runs_region ?_
  refine' rl0 (gn rfl) rfl rfl (step_load_all rfl rfl F.agg28 ?hl) ⟨?hb, trivial⟩ ?_
  case hb => repeat (first | exact uE | refine uN (by omega) ?_ | assumption | exact hd _ (by omega) | fail)
  case hl => first | rfl | (simp; done) | (first | (simp; done) | (simp; omega) | omega)
  refine rl0 (gn rfl) rfl rfl (step_callc rfl Try.func20 rfl rfl rfl (next_4) (by repeat (first | exact .nil | refine .cons ?_ ?_ | exact VLe.refl _ | refine VLe.agg ?_ | exact VLe.own_sl _ _ _ | exact VLe.fl_sl _ _ | exact VLe.nil_sl _ | exact vle_int (by omega)))) trivial ?_
  refine rl0 (gn rfl) rfl rfl (step_mv rfl rfl) trivial ?_
  refine rl0 (gn rfl) rfl rfl (step_extract rfl (ev_mk rfl) rfl) trivial ?_
  refine rl0 (gn rfl) rfl rfl (step_extract rfl (ev_mk rfl) rfl) trivial ?_
  refine rl0 (gn rfl) rfl rfl (step_as rfl rfl) trivial ?_
  refine rl0 (gn rfl) rfl rfl (step_as rfl rfl) trivial ?_
  refine runsL_nil ?_
  refine runs_seq ?_
  refine runs_draw (by kernel_rfl) (by kernel_rfl) (by kernel_rfl) ?_
  refine' dl0 (gn rfl) rfl rfl (step_load_all rfl rfl F.agg28 ?hl) ⟨?hb, trivial⟩ ?_
  case hb => repeat (first | exact uE | refine uN (by omega) ?_ | assumption | exact hd _ (by omega) | fail)
  case hl => first | rfl | (simp; done) | (first | (simp; done) | (simp; omega) | omega)
  refine dl0 (gn rfl) rfl rfl (step_build (ss := [1, 1]) (zs := [.int .u8 0, .int .u8 0]) (cs := [.sc (.int .u8 5), .sc (.int .u8 9)]) rfl Try.underlying37 (by kernel_rfl) F.zero37 rfl rfl rfl) trivial ?_
  refine dl0 (gn rfl) rfl rfl (step_lit rfl Try.underlying26 F.sz37 F.zero37 (by first | rfl | simp) (by first | rfl | simp | decide) (by decide) rfl rfl (by first | (simp [V.cs, V.stor, oneV]; done) | (simp [V.cs, V.stor, oneV])) rfl) trivial ?_
  refine dl0 (gn rfl) rfl rfl (step_callc rfl Try.func7 rfl rfl rfl (of_wB) (by repeat (first | exact .nil | refine .cons ?_ ?_ | exact VLe.refl _ | refine VLe.agg ?_ | exact VLe.own_sl _ _ _ | exact VLe.fl_sl _ _ | exact VLe.nil_sl _ | exact vle_int (by omega)))) trivial ?_
  refine dl0 (gn rfl) rfl rfl (step_callc rfl Try.func14 rfl rfl rfl (meet_w) (by repeat (first | exact .nil | refine .cons ?_ ?_ | exact VLe.refl _ | refine VLe.agg ?_ | exact VLe.own_sl _ _ _ | exact VLe.fl_sl _ _ | exact VLe.nil_sl _ | exact vle_int (by omega)))) trivial ?_
  refine dl1 (gn rfl) rfl rfl (step_allocc (k := n + 2) (zs := [.slice none 0 0]) (cs := [.sc (.slice none 0 0)]) rfl F.zero28 (by first | rfl | simp) (by first | rfl | decide | simp) (by first | rfl | simp)) ⟨by repeat (first | exact uE | refine uN (by omega) ?_ | assumption | exact hd _ (by omega) | fail), trivial⟩ (by omega) ?_
  refine' dls (gn rfl) rfl (step_storeA rfl rfl rfl rfl F.agg28 ?hm ?hl) ⟨?hb, trivial⟩ ?hk ?_
  case hb => repeat (first | exact uE | refine uN (by omega) ?_ | assumption | exact hd _ (by omega) | fail)
  case hm => first | rfl | (simp; done) | (first | (simp; done) | (simp; omega) | omega)
  case hl => first | rfl | (simp; done) | (first | (simp; done) | (simp; omega) | omega)
  case hk => omega
  refine dlnil ?_ ?_
  · repeat' (first | exact trivial | exact .inr (ap0 _ _ _ _) | exact .inr (ap2 _ _ _ _) | exact .inr (ap3 _ _ _ _) | exact .inr ⟨by first | (simp; done) | (simp; omega), by first | (simp; done) | (simp; omega)⟩ | exact .inl (by kernel_rfl) | refine ⟨?_, ?_⟩ | fail)
  refine runs_seq ?_
  refine runs_region ?_
  refine rl1 (gn rfl) rfl rfl (step_allocc (k := n + 3) (zs := [.int .i64 0]) (cs := [.sc (.int .i64 0)]) rfl F.zero3 (by first | rfl | simp) (by first | rfl | decide | simp) (by first | rfl | simp)) ⟨by repeat (first | exact uE | refine uN (by omega) ?_ | assumption | exact hd _ (by omega) | fail), trivial⟩ (by omega) ?_
  refine' rls (gn rfl) rfl (step_store1 rfl rfl rfl rfl F.one3 rfl rfl ?hl ?hc) ⟨?hb, trivial⟩ ?hk ?_
  case hb => repeat (first | exact uE | refine uN (by omega) ?_ | assumption | exact hd _ (by omega) | fail)
  case hl => first | exact Nat.le_of_ble_eq_true rfl | decide | (simp; done) | (simp; omega) | (first | (simp; done) | (simp; omega) | omega)
  case hc => first | (simp only [List.set_cons_succ, List.set_cons_zero]; rfl) | rfl
  case hk => omega
  refine runsL_nil ?_
  refine runs_seq ?_
  refine runs_region ?_
  refine' rl0 (gn rfl) rfl rfl (step_load_all rfl rfl F.agg28 ?hl) ⟨?hb, trivial⟩ ?_
  case hb => repeat (first | exact uE | refine uN (by omega) ?_ | assumption | exact hd _ (by omega) | fail)
  case hl => first | rfl | (simp; done) | (first | (simp; done) | (simp; omega) | omega)
  refine rl1 (gn rfl) rfl rfl (step_callc rfl Try.func22 rfl rfl rfl (all_c wU (kk := (n + 4))) (by repeat (first | exact .nil | refine .cons ?_ ?_ | exact VLe.refl _ | refine VLe.agg ?_ | exact VLe.own_sl _ _ _ | exact VLe.fl_sl _ _ | exact VLe.nil_sl _ | exact vle_int (by omega)))) ⟨by repeat (first | exact uE | refine uN (by omega) ?_ | assumption | exact hd _ (by omega) | fail), trivial⟩ (by omega) ?_
  refine rl0 (gn rfl) rfl rfl (step_as rfl rfl) trivial ?_
  refine runsL_nil ?_
  refine runs_seq ?_
  refine runs_seq ?_
  refine runs_region ?_
  refine rl0 (gn rfl) rfl rfl (step_mv rfl rfl) trivial ?_
  refine rl0 (gn rfl) rfl rfl (step_eq_nilf (b := false) rfl (ev_mk rfl) (ev_mk rfl) Try.underlying46 ⟨_, .inl ⟨.inl ⟨_, _, rfl⟩, rfl⟩, .inl ⟨rfl, rfl⟩⟩) trivial ?_
  refine rl0 (gn rfl) rfl rfl (step_mv rfl rfl) trivial ?_
  refine rl0 (gy rfl rfl rfl rfl rfl rfl) rfl rfl (step_mv rfl rfl) trivial ?_
  refine rl0 (gy rfl rfl rfl rfl rfl rfl) rfl rfl (step_len (m := wS.length) rfl rfl (ev_mk rfl) (.inl ⟨⟨_, Try.underlying26⟩, .inl ⟨_, _, .inl rfl, List.length_map _⟩⟩)) trivial ?_
  refine rl_neq (gy rfl rfl rfl rfl rfl rfl) rfl rfl rfl rfl rfl (fun h1 => ?_) (fun h1 => ?_)
  · exact False.elim (by exact h1 (by decide))
  refine rl0 (gn rfl) rfl rfl (step_pick rfl (ev_mk rfl) (ev_mk rfl)) trivial ?_
  refine runsL_nil ?_
  refine runs_cond false (ev_mk rfl) (fun h_ => nomatch h_) (fun _ => ?_)
  refine runs_skip ?_
  refine runs_seq ?_
  refine runs_seq ?_
  refine runs_region ?_
  refine rl0 (gn rfl) rfl rfl (step_mv rfl rfl) trivial ?_
  refine runsL_nil ?_
  refine runs_block ?_
  refine runs_rangeL (f := 38) (caps := [.ref (n + 4) 0]) (xs := (numL wU).map nuR) (Dl := [(n + 3, fun i60 => .cells [.sc (.int .i64 (smW i60))])]) (El := [(n + 4, .cells [.sl 2 (wU.map spB)], fun m_ b_ => .cells [.sl 2 (wU.map spB)])]) (kl := n + 5) (m := (numL wU).length) (brk := false) (ex := .normal) hO rfl (.inl rfl) Try.func38 rfl rfl (all_i wU setU (by decide)) (by repeat (first | exact uE | refine uN (by omega) ?_ | assumption | exact hd _ (by omega) | fail)) (by omega) ((by rw [List.length_map]; exact Nat.le_refl _)) (fun h_ => nomatch h_) (fun _ => ⟨by rw [List.length_map], rfl⟩) (fun v_ hv_ => by obtain ⟨_, _, rfl⟩ := List.mem_map.1 hv_; rfl) rfl ⟨trivial, trivial⟩ ⟨⟨by dsimp only; omega, by dsimp only; omega, ⟨by dsimp only; omega, trivial⟩, by dsimp only; (first | ((repeat (first | exact uE | assumption | refine uN (by omega) ?_ | fail)); done) | (refine Eq.trans (b := .cells [.sc (.int .i64 0)]) (by repeat (first | exact uE | assumption | refine uN (by omega) ?_ | fail)) ?_; first | rfl | (simp; done)))⟩, trivial⟩ ⟨⟨by dsimp only; omega, by dsimp only; omega, by dsimp only; repeat (first | exact uE | refine uN (by omega) ?_ | assumption | exact hd _ (by omega) | fail)⟩, trivial⟩ (fun i60 => ⟨bdb_cells (by repeat (first | exact trivial | assumption | omega | (refine bdR_map (fun _ => ?_)) | (refine bdL_map (fun _ => ?_)) | refine ⟨?_, ?_⟩ | fail)), trivial⟩) ⟨bdb_cells (by repeat (first | exact trivial | assumption | omega | (refine bdR_map (fun _ => ?_)) | (refine bdL_map (fun _ => ?_)) | refine ⟨?_, ?_⟩ | fail)), trivial⟩ ?_ ?_
  · intro i60 v60 hi60 hv60 B60 n60 lr60 bx60 hR60 hl60 hk60 ho60 he60 hn60 hd60 hD60 hfr60
    have hf60 : ∀ k_, k_ < _ → k_ ≠ n + 3 → k_ ≠ n + 4 → k_ ≠ n + 5 → bx60 k_ = _ := fun k_ a_ e0_ e1_ e2_ => hfr60 k_ a_ ⟨e0_, e1_, trivial⟩ e2_
    have hb60_0 : bx60 (n + 3) = .cells [.sc (.int .i64 (smW i60))] := hD60.1
    have hc60_0 : bx60 (n + 0) = .cells [.sl 2 (wS.map spB)] := (hf60 _ (by omega) (by omega) (by omega) (by omega)).trans (by repeat (first | exact uE | refine uN (by omega) ?_ | assumption | exact hd _ (by omega) | fail))
    have hc60_1 : bx60 (n + 1) = .cells [.sl 2 (wT.map spB)] := (hf60 _ (by omega) (by omega) (by omega) (by omega)).trans (by repeat (first | exact uE | refine uN (by omega) ?_ | assumption | exact hd _ (by omega) | fail))
    have hc60_2 : bx60 (n + 2) = .cells [.sl 2 (wU.map spB)] := (hf60 _ (by omega) (by omega) (by omega) (by omega)).trans (by repeat (first | exact uE | refine uN (by omega) ?_ | assumption | exact hd _ (by omega) | fail))
    obtain ⟨t60, ht60, rfl⟩ := map_get hv60
    refine runs_keep (l' := [(43, .sc (.int .u8 t60)), (0, .sc (.bool false)), (7, .ref (n + 3) 0)]) ?_ ?_
    · (repeat' (first | exact trivial | refine ⟨⟨_, rfl, ?_⟩, ?_⟩ | fail)); all_goals (repeat' (first | exact VLe.refl _ | exact VLe.own_sl _ _ _ | exact VLe.fl_sl _ _ | exact VLe.nil_sl _ | exact VLe.nil_fl _ | exact VLes.refl _ | exact .nil | refine VLe.tup ?_ | refine VLe.agg ?_ | refine .cons ?_ ?_ | (rw [Int.natCast_add]; exact VLe.refl _) | exact vle_int (by omega) | exact vle_bool (by first | rfl | assumption | (simp_all; done) | fail) | fail))
    refine runs_bump 40 ?_
    have hsm_ := sm_s ht60
    have hsb_ := sm_b _ (sm_i ht60)
    have hsv_ := sm_v _ (List.mem_of_getElem? ht60)
    refine runs_region ?_
    refine rl0 (gn rfl) rfl rfl (step_as rfl rfl) trivial ?_
    refine runsL_nil ?_
    refine ⟨rfl, by first | rfl | (repeat (first | exact uE | refine uN (by omega) ?_ | assumption | exact hd _ (by omega) | exact hd60 _ (by omega) | fail)), fun r60 => ?_⟩
    show Runs _ _ _ _ ⟨mk _, _ + _, upd _ _ _⟩ _
    refine runs_block ?_
    refine runs_region ?_
    refine' rl0 (gn rfl) rfl rfl (step_load_one rfl (ev_mk rfl) F.one3 ?hv) ⟨?hb, trivial⟩ ?_
    case hb => repeat (first | exact uE | refine uN (by omega) ?_ | assumption | exact hd _ (by omega) | exact hd60 _ (by omega) | fail)
    case hv => rfl
    refine rl0 (gn rfl) rfl rfl (step_mv rfl rfl) trivial ?_
    refine rl0 (gn rfl) rfl rfl (step_conv_id rfl rfl Try.underlying5 Try.underlying3 (w64 (by omega))) trivial ?_
    refine rl0 (gn rfl) rfl rfl (step_add rfl (ev_mk rfl) (ev_mk rfl) (w64 (by omega))) trivial ?_
    refine' rls (gn rfl) rfl (step_store1 rfl rfl rfl rfl F.one3 rfl rfl ?hl ?hc) ⟨?hb, trivial⟩ ?hk ?_
    case hb => repeat (first | exact uE | refine uN (by omega) ?_ | assumption | exact hd _ (by omega) | exact hd60 _ (by omega) | fail)
    case hl => first | exact Nat.le_of_ble_eq_true rfl | decide | (simp; done) | (simp; omega) | (first | (simp; done) | (simp; omega) | omega)
    case hc => first | (simp only [List.set_cons_succ, List.set_cons_zero]; rfl) | rfl
    case hk => omega
    refine runsL_nil ?_
    refine ⟨by exact (if_neg (fun h_ => nomatch h_.1)).symm, by repeat (first | exact uE | refine uN (by omega) ?_ | assumption | exact hd _ (by omega) | exact hd60 _ (by omega) | fail), fun k_ hk_ hl_ => ?_⟩
    simp only [dL, updL, List.map_cons, List.map_nil]; by_cases e0_ : k_ = (n + 3); (focus subst e0_; refine bl_eq ?_; first | (refine' blec ?hb ?hl; (case hb => repeat (first | exact uE | assumption | refine uN (by omega) ?_ | fail)); (case hl => first | exact VLes.refl _ | ((repeat' (first | exact VLe.refl _ | exact VLe.own_sl _ _ _ | exact VLe.fl_sl _ _ | exact VLe.nil_sl _ | exact VLe.nil_fl _ | exact VLes.refl _ | exact .nil | refine VLe.tup ?_ | refine VLe.agg ?_ | refine .cons ?_ ?_ | (rw [Int.natCast_add]; exact VLe.refl _) | exact vle_int (by omega) | exact vle_bool (by first | rfl | assumption | (simp_all; done) | fail) | fail)); done))) | (refine ble ?_; (repeat (first | exact uE | assumption | refine uN (by omega) ?_ | fail)); done)); refine bl_ne e0_ ?_; exact ble (by repeat (first | exact rfl | refine uN (by first | assumption | omega) ?_ | assumption | exact hf60 _ (by omega) (by first | assumption | omega) (by first | assumption | omega) (by first | assumption | omega) | fail))
  · intro bb60 b60 hb60
    simp only [dL, eM, updL, List.map_cons, List.map_nil] at hb60
    subst hb60
    refine runs_seq ?_
    refine runs_region ?_
    refine' rl0 (gn rfl) rfl rfl (step_load_all rfl rfl F.agg28 ?hl) ⟨?hb, trivial⟩ ?_
    case hb => repeat (first | exact uE | refine uN (by omega) ?_ | assumption | exact hd _ (by omega) | fail)
    case hl => first | rfl | (simp; done) | (first | (simp; done) | (simp; omega) | omega)
    refine rl0 (gn rfl) rfl rfl (step_callc rfl Try.func20 rfl rfl rfl (next_10) (by repeat (first | exact .nil | refine .cons ?_ ?_ | exact VLe.refl _ | refine VLe.agg ?_ | exact VLe.own_sl _ _ _ | exact VLe.fl_sl _ _ | exact VLe.nil_sl _ | exact vle_int (by omega)))) trivial ?_
    refine rl0 (gn rfl) rfl rfl (step_mv rfl rfl) trivial ?_
    refine rl0 (gn rfl) rfl rfl (step_extract rfl (ev_mk rfl) rfl) trivial ?_
    refine rl0 (gn rfl) rfl rfl (step_extract rfl (ev_mk rfl) rfl) trivial ?_
    refine rl0 (gn rfl) rfl rfl (step_as rfl rfl) trivial ?_
    refine rl0 (gn rfl) rfl rfl (step_as rfl rfl) trivial ?_
    refine runsL_nil ?_
    refine runs_seq ?_
    refine runs_region ?_
    refine rl0 (gn rfl) rfl rfl (step_build (ss := [1, 1]) (zs := [.int .u64 0, .int .u64 0]) (cs := [.sc (.int .u64 0), .sc (.int .u64 18446744073709551615)]) rfl Try.underlying58 (by kernel_rfl) F.zero58 rfl rfl rfl) trivial ?_
    refine rl0 (gn rfl) rfl rfl (step_lit rfl Try.underlying49 F.sz58 F.zero58 (by first | rfl | simp) (by first | rfl | simp | decide) (by decide) rfl rfl (by first | (simp [V.cs, V.stor, oneV]; done) | (simp [V.cs, V.stor, oneV])) rfl) trivial ?_
    refine rl0 (gn rfl) rfl rfl (step_callc rfl Try.func23 rfl rfl rfl (of_wF) (by repeat (first | exact .nil | refine .cons ?_ ?_ | exact VLe.refl _ | refine VLe.agg ?_ | exact VLe.own_sl _ _ _ | exact VLe.fl_sl _ _ | exact VLe.nil_sl _ | exact vle_int (by omega)))) trivial ?_
    refine rl1 (gn rfl) rfl rfl (step_allocc (k := n + 6) (zs := [.slice none 0 0]) (cs := [.sc (.slice none 0 0)]) rfl F.zero52 (by first | rfl | simp) (by first | rfl | decide | simp) (by first | rfl | simp)) ⟨by repeat (first | exact uE | refine uN (by omega) ?_ | assumption | exact hd _ (by omega) | fail), trivial⟩ (by omega) ?_
    refine' rls (gn rfl) rfl (step_storeA rfl rfl rfl rfl F.agg52 ?hm ?hl) ⟨?hb, trivial⟩ ?hk ?_
    case hb => repeat (first | exact uE | refine uN (by omega) ?_ | assumption | exact hd _ (by omega) | fail)
    case hm => first | rfl | (simp; done) | (first | (simp; done) | (simp; omega) | omega)
    case hl => first | rfl | (simp; done) | (first | (simp; done) | (simp; omega) | omega)
    case hk => omega
    refine runsL_nil ?_
    refine runs_seq ?_
    refine runs_draw (by kernel_rfl) (by kernel_rfl) (by kernel_rfl) ?_
    refine dl0 (gn rfl) rfl rfl (step_mv rfl rfl) trivial ?_
    refine' dl0 (gn rfl) rfl rfl (step_index rfl (ev_mk rfl) (.inl rfl) (ev_mk rfl) Try.underlying26 F.sz37 (by omega) ?hr) trivial ?_
    case hr => exact map_at _ _ _ (by omega) (by omega)
    refine dl0 (gn rfl) rfl rfl (step_load_ro_all rfl rfl F.agg37 (by first | rfl | (simp; done) | (first | (simp; done) | (simp; omega) | omega))) trivial ?_
    refine dl0 (gn rfl) rfl rfl (step_build (ss := [1, 1]) (zs := [.int .u8 0, .int .u8 0]) (cs := [.sc (.int .u8 3), .sc (.int .u8 6)]) rfl Try.underlying37 (by kernel_rfl) F.zero37 rfl rfl rfl) trivial ?_
    refine dl0 (gn rfl) rfl rfl (step_eql37 (a := at' wS (0 : Int)) (b := ⟨3, 6⟩) rfl (ev_mk rfl) (ev_mk rfl)) trivial ?_
    refine dl_know (d := 60) (c := true) rfl ((by decide +kernel)) ?_
    refine dl0 (gn rfl) rfl rfl (step_mv rfl rfl) trivial ?_
    refine' dl0 (gy rfl rfl rfl rfl rfl rfl) rfl rfl (step_load_all rfl rfl F.agg28 ?hl) ⟨?hb, trivial⟩ ?_
    case hb => repeat (first | exact uE | refine uN (by omega) ?_ | assumption | exact hd _ (by omega) | fail)
    case hl => first | rfl | (simp; done) | (first | (simp; done) | (simp; omega) | omega)
    refine dl0 (gy rfl rfl rfl rfl rfl rfl) rfl rfl (step_callc rfl Try.func21 rfl rfl rfl (has_6) (by repeat (first | exact .nil | refine .cons ?_ ?_ | exact VLe.refl _ | refine VLe.agg ?_ | exact VLe.own_sl _ _ _ | exact VLe.fl_sl _ _ | exact VLe.nil_sl _ | exact vle_int (by omega)))) trivial ?_
    refine dl0 (gn rfl) rfl rfl (step_pick rfl (ev_mk rfl) (ev_mk rfl)) trivial ?_
    refine dl0 (gn rfl) rfl rfl (step_mv rfl rfl) trivial ?_
    refine' dl0 (gy rfl rfl rfl rfl rfl rfl) rfl rfl (step_load_all rfl rfl F.agg28 ?hl) ⟨?hb, trivial⟩ ?_
    case hb => repeat (first | exact uE | refine uN (by omega) ?_ | assumption | exact hd _ (by omega) | fail)
    case hl => first | rfl | (simp; done) | (first | (simp; done) | (simp; omega) | omega)
    refine dl0 (gy rfl rfl rfl rfl rfl rfl) rfl rfl (step_callc rfl Try.func21 rfl rfl rfl (has_4) (by repeat (first | exact .nil | refine .cons ?_ ?_ | exact VLe.refl _ | refine VLe.agg ?_ | exact VLe.own_sl _ _ _ | exact VLe.fl_sl _ _ | exact VLe.nil_sl _ | exact vle_int (by omega)))) trivial ?_
    refine dl0 (gy rfl rfl rfl rfl rfl rfl) rfl rfl (step_unOp (c := .bool true) rfl (ev_mk rfl) (fun _ => rfl)) trivial ?_
    refine dl0 (gn rfl) rfl rfl (step_pick rfl (ev_mk rfl) (ev_mk rfl)) trivial ?_
    refine dl0 (gn rfl) rfl rfl (step_mv rfl rfl) trivial ?_
    refine dl0 (gy rfl rfl rfl rfl rfl rfl) rfl rfl (step_mv rfl rfl) trivial ?_
    refine dl_eql (gy rfl rfl rfl rfl rfl rfl) rfl rfl rfl rfl rfl (fun h2 => ?_) (fun h2 => ?_)
    rotate_left
    · exact False.elim (by exact h2 rfl)
    refine dl0 (gn rfl) rfl rfl (step_pick rfl (ev_mk rfl) (ev_mk rfl)) trivial ?_
    refine dl0 (gn rfl) rfl rfl (step_mv rfl rfl) trivial ?_
    refine dl0 (gy rfl rfl rfl rfl rfl rfl) rfl rfl (step_mv rfl rfl) trivial ?_
    refine dl0 (gn rfl) rfl rfl (step_pick rfl (ev_mk rfl) (ev_mk rfl)) trivial ?_
    refine dl0 (gn rfl) rfl rfl (step_mv rfl rfl) trivial ?_
    refine' dl0 (gy rfl rfl rfl rfl rfl rfl) rfl rfl (step_load_one rfl (ev_mk rfl) F.one3 ?hv) ⟨?hb, trivial⟩ ?_
    case hb => repeat (first | exact uE | refine uN (by omega) ?_ | assumption | exact hd _ (by omega) | fail)
    case hv => rfl
    refine dl_eql (gy rfl rfl rfl rfl rfl rfl) rfl rfl rfl rfl rfl (fun h3 => ?_) (fun h3 => ?_)
    rotate_left
    · exact False.elim (by exact h3 (by decide +kernel))
    refine dl0 (gn rfl) rfl rfl (step_pick rfl (ev_mk rfl) (ev_mk rfl)) trivial ?_
    refine dl0 (gn rfl) rfl rfl (step_mv rfl rfl) trivial ?_
    refine dl0 (gy rfl rfl rfl rfl rfl rfl) rfl rfl (step_mv rfl rfl) trivial ?_
    refine dl0 (gy rfl rfl rfl rfl rfl rfl) rfl rfl (step_unOp (c := .bool true) rfl (ev_mk rfl) (fun _ => rfl)) trivial ?_
    refine dl0 (gn rfl) rfl rfl (step_pick rfl (ev_mk rfl) (ev_mk rfl)) trivial ?_
    refine dl0 (gn rfl) rfl rfl (step_mv rfl rfl) trivial ?_
    refine' dl0 (gy rfl rfl rfl rfl rfl rfl) rfl rfl (step_load_all rfl rfl F.agg28 ?hl) ⟨?hb, trivial⟩ ?_
    case hb => repeat (first | exact uE | refine uN (by omega) ?_ | assumption | exact hd _ (by omega) | fail)
    case hl => first | rfl | (simp; done) | (first | (simp; done) | (simp; omega) | omega)
    refine dl0 (gy rfl rfl rfl rfl rfl rfl) rfl rfl (step_callc rfl Try.func17 rfl rfl rfl (not_1) (by repeat (first | exact .nil | refine .cons ?_ ?_ | exact VLe.refl _ | refine VLe.agg ?_ | exact VLe.own_sl _ _ _ | exact VLe.fl_sl _ _ | exact VLe.nil_sl _ | exact vle_int (by omega)))) trivial ?_
    refine dl0 (gy rfl rfl rfl rfl rfl rfl) rfl rfl (step_callc rfl Try.func17 rfl rfl rfl (not_2) (by repeat (first | exact .nil | refine .cons ?_ ?_ | exact VLe.refl _ | refine VLe.agg ?_ | exact VLe.own_sl _ _ _ | exact VLe.fl_sl _ _ | exact VLe.nil_sl _ | exact vle_int (by omega)))) trivial ?_
    refine' dl0 (gy rfl rfl rfl rfl rfl rfl) rfl rfl (step_load_all rfl rfl F.agg28 ?hl) ⟨?hb, trivial⟩ ?_
    case hb => repeat (first | exact uE | refine uN (by omega) ?_ | assumption | exact hd _ (by omega) | fail)
    case hl => first | rfl | (simp; done) | (first | (simp; done) | (simp; omega) | omega)
    refine dl0 (gy rfl rfl rfl rfl rfl rfl) rfl rfl (step_callc rfl Try.func19 rfl rfl rfl (same_w) (by repeat (first | exact .nil | refine .cons ?_ ?_ | exact VLe.refl _ | refine VLe.agg ?_ | exact VLe.own_sl _ _ _ | exact VLe.fl_sl _ _ | exact VLe.nil_sl _ | exact vle_int (by omega)))) trivial ?_
    refine dl0 (gn rfl) rfl rfl (step_pick rfl (ev_mk rfl) (ev_mk rfl)) trivial ?_
    refine dl0 (gn rfl) rfl rfl (step_mv rfl rfl) trivial ?_
    refine' dl0 (gy rfl rfl rfl rfl rfl rfl) rfl rfl (step_load_all rfl rfl F.agg28 ?hl) ⟨?hb, trivial⟩ ?_
    case hb => repeat (first | exact uE | refine uN (by omega) ?_ | assumption | exact hd _ (by omega) | fail)
    case hl => first | rfl | (simp; done) | (first | (simp; done) | (simp; omega) | omega)
    refine dl0 (gy rfl rfl rfl rfl rfl rfl) rfl rfl (step_callc rfl Try.func32 rfl rfl rfl (empty_w) (by repeat (first | exact .nil | refine .cons ?_ ?_ | exact VLe.refl _ | refine VLe.agg ?_ | exact VLe.own_sl _ _ _ | exact VLe.fl_sl _ _ | exact VLe.nil_sl _ | exact vle_int (by omega)))) trivial ?_
    refine dl0 (gy rfl rfl rfl rfl rfl rfl) rfl rfl (step_unOp (c := .bool true) rfl (ev_mk rfl) (fun _ => rfl)) trivial ?_
    refine dl0 (gn rfl) rfl rfl (step_pick rfl (ev_mk rfl) (ev_mk rfl)) trivial ?_
    refine dl0 (gn rfl) rfl rfl (step_mv rfl rfl) trivial ?_
    refine' dl0 (gy rfl rfl rfl rfl rfl rfl) rfl rfl (step_load_all rfl rfl F.agg52 ?hl) ⟨?hb, trivial⟩ ?_
    case hb => repeat (first | exact uE | refine uN (by omega) ?_ | assumption | exact hd _ (by omega) | fail)
    case hl => first | rfl | (simp; done) | (first | (simp; done) | (simp; omega) | omega)
    refine dl0 (gy rfl rfl rfl rfl rfl rfl) rfl rfl (step_callc rfl Try.func27 rfl rfl rfl (not_F) (by repeat (first | exact .nil | refine .cons ?_ ?_ | exact VLe.refl _ | refine VLe.agg ?_ | exact VLe.own_sl _ _ _ | exact VLe.fl_sl _ _ | exact VLe.nil_sl _ | exact vle_int (by omega)))) trivial ?_
    refine dl0 (gy rfl rfl rfl rfl rfl rfl) rfl rfl (step_callc rfl Try.func33 rfl rfl rfl (empty_F) (by repeat (first | exact .nil | refine .cons ?_ ?_ | exact VLe.refl _ | refine VLe.agg ?_ | exact VLe.own_sl _ _ _ | exact VLe.fl_sl _ _ | exact VLe.nil_sl _ | exact vle_int (by omega)))) trivial ?_
    refine dl0 (gn rfl) rfl rfl (step_pick rfl (ev_mk rfl) (ev_mk rfl)) trivial ?_
    refine dl0 (gn rfl) rfl rfl (step_mv rfl rfl) trivial ?_
    refine' dl0 (gy rfl rfl rfl rfl rfl rfl) rfl rfl (step_load_all rfl rfl F.agg28 ?hl) ⟨?hb, trivial⟩ ?_
    case hb => repeat (first | exact uE | refine uN (by omega) ?_ | assumption | exact hd _ (by omega) | fail)
    case hl => first | rfl | (simp; done) | (first | (simp; done) | (simp; omega) | omega)
    refine' dl0 (gy rfl rfl rfl rfl rfl rfl) rfl rfl (step_load_all rfl rfl F.agg28 ?hl) ⟨?hb, trivial⟩ ?_
    case hb => repeat (first | exact uE | refine uN (by omega) ?_ | assumption | exact hd _ (by omega) | fail)
    case hl => first | rfl | (simp; done) | (first | (simp; done) | (simp; omega) | omega)
    refine dl0 (gy rfl rfl rfl rfl rfl rfl) rfl rfl (step_callc rfl Try.func34 rfl rfl rfl (within_1) (by repeat (first | exact .nil | refine .cons ?_ ?_ | exact VLe.refl _ | refine VLe.agg ?_ | exact VLe.own_sl _ _ _ | exact VLe.fl_sl _ _ | exact VLe.nil_sl _ | exact vle_int (by omega)))) trivial ?_
    refine dl0 (gn rfl) rfl rfl (step_pick rfl (ev_mk rfl) (ev_mk rfl)) trivial ?_
    refine dl0 (gn rfl) rfl rfl (step_mv rfl rfl) trivial ?_
    refine' dl0 (gy rfl rfl rfl rfl rfl rfl) rfl rfl (step_load_all rfl rfl F.agg28 ?hl) ⟨?hb, trivial⟩ ?_
    case hb => repeat (first | exact uE | refine uN (by omega) ?_ | assumption | exact hd _ (by omega) | fail)
    case hl => first | rfl | (simp; done) | (first | (simp; done) | (simp; omega) | omega)
    refine' dl0 (gy rfl rfl rfl rfl rfl rfl) rfl rfl (step_load_all rfl rfl F.agg28 ?hl) ⟨?hb, trivial⟩ ?_
    case hb => repeat (first | exact uE | refine uN (by omega) ?_ | assumption | exact hd _ (by omega) | fail)
    case hl => first | rfl | (simp; done) | (first | (simp; done) | (simp; omega) | omega)
    refine dl0 (gy rfl rfl rfl rfl rfl rfl) rfl rfl (step_callc rfl Try.func34 rfl rfl rfl (within_2) (by repeat (first | exact .nil | refine .cons ?_ ?_ | exact VLe.refl _ | refine VLe.agg ?_ | exact VLe.own_sl _ _ _ | exact VLe.fl_sl _ _ | exact VLe.nil_sl _ | exact vle_int (by omega)))) trivial ?_
    refine dl0 (gy rfl rfl rfl rfl rfl rfl) rfl rfl (step_unOp (c := .bool true) rfl (ev_mk rfl) (fun _ => rfl)) trivial ?_
    refine dl0 (gn rfl) rfl rfl (step_pick rfl (ev_mk rfl) (ev_mk rfl)) trivial ?_
    refine dl0 (gn rfl) rfl rfl (step_mv rfl rfl) trivial ?_
    refine' dl0 (gy rfl rfl rfl rfl rfl rfl) rfl rfl (step_load_all rfl rfl F.agg28 ?hl) ⟨?hb, trivial⟩ ?_
    case hb => repeat (first | exact uE | refine uN (by omega) ?_ | assumption | exact hd _ (by omega) | fail)
    case hl => first | rfl | (simp; done) | (first | (simp; done) | (simp; omega) | omega)
    refine' dl0 (gy rfl rfl rfl rfl rfl rfl) rfl rfl (step_load_all rfl rfl F.agg28 ?hl) ⟨?hb, trivial⟩ ?_
    case hb => repeat (first | exact uE | refine uN (by omega) ?_ | assumption | exact hd _ (by omega) | fail)
    case hl => first | rfl | (simp; done) | (first | (simp; done) | (simp; omega) | omega)
    refine dl0 (gy rfl rfl rfl rfl rfl rfl) rfl rfl (step_callc rfl Try.func11 rfl rfl rfl (join_w) (by repeat (first | exact .nil | refine .cons ?_ ?_ | exact VLe.refl _ | refine VLe.agg ?_ | exact VLe.own_sl _ _ _ | exact VLe.fl_sl _ _ | exact VLe.nil_sl _ | exact vle_int (by omega)))) trivial ?_
    refine dl0 (gy rfl rfl rfl rfl rfl rfl) rfl rfl (step_callc rfl Try.func31 rfl rfl rfl (spans_B wS (by decide)) (by repeat (first | exact .nil | refine .cons ?_ ?_ | exact VLe.refl _ | refine VLe.agg ?_ | exact VLe.own_sl _ _ _ | exact VLe.fl_sl _ _ | exact VLe.nil_sl _ | exact vle_int (by omega)))) trivial ?_
    refine dl0 (gy rfl rfl rfl rfl rfl rfl) rfl rfl (step_len (m := wS.length) rfl rfl (ev_mk rfl) (.inl ⟨⟨_, Try.underlying26⟩, .inl ⟨_, _, .inl rfl, List.length_map _⟩⟩)) trivial ?_
    refine dl_eql (gy rfl rfl rfl rfl rfl rfl) rfl rfl rfl rfl rfl (fun h4 => ?_) (fun h4 => ?_)
    rotate_left
    · exact False.elim (by exact h4 (by decide))
    refine dl0 (gn rfl) rfl rfl (step_pick rfl (ev_mk rfl) (ev_mk rfl)) trivial ?_
    refine dl0 (gn rfl) rfl rfl (step_mv rfl rfl) trivial ?_
    refine' dl0 (gy rfl rfl rfl rfl rfl rfl) rfl rfl (step_load_all rfl rfl F.agg52 ?hl) ⟨?hb, trivial⟩ ?_
    case hb => repeat (first | exact uE | refine uN (by omega) ?_ | assumption | exact hd _ (by omega) | fail)
    case hl => first | rfl | (simp; done) | (first | (simp; done) | (simp; omega) | omega)
    refine dl0 (gy rfl rfl rfl rfl rfl rfl) rfl rfl (step_callc rfl Try.func30 rfl rfl rfl (has_F) (by repeat (first | exact .nil | refine .cons ?_ ?_ | exact VLe.refl _ | refine VLe.agg ?_ | exact VLe.own_sl _ _ _ | exact VLe.fl_sl _ _ | exact VLe.nil_sl _ | exact vle_int (by omega)))) trivial ?_
    refine dl0 (gn rfl) rfl rfl (step_pick rfl (ev_mk rfl) (ev_mk rfl)) trivial ?_
    refine dl0 (gn rfl) rfl rfl (step_as rfl rfl) trivial ?_
    refine dlnil ?_ ?_
    · repeat' (first | exact trivial | exact .inr (ap0 _ _ _ _) | exact .inr (ap2 _ _ _ _) | exact .inr (ap3 _ _ _ _) | exact .inr ⟨by first | (simp; done) | (simp; omega), by first | (simp; done) | (simp; omega)⟩ | exact .inl (by kernel_rfl) | refine ⟨?_, ?_⟩ | fail)
    refine runs_ret ?_
    refine ⟨by first | exact .inr rfl | exact .inl rfl, fin_mkg (rest rfl res0) ?_ ?_ ?_ ?_ ?_⟩
    · (repeat' (first | exact VLe.refl _ | exact VLe.own_sl _ _ _ | exact VLe.fl_sl _ _ | exact VLe.nil_sl _ | exact VLe.nil_fl _ | exact VLes.refl _ | exact .nil | refine VLe.tup ?_ | refine VLe.agg ?_ | refine .cons ?_ ?_ | (rw [Int.natCast_add]; exact VLe.refl _) | exact vle_int (by omega) | exact vle_bool (by first | rfl | assumption | (simp_all; done) | fail) | fail))
    · repeat (first | exact trivial | assumption | omega | (refine bdR_map (fun _ => ?_)) | (refine bdL_map (fun _ => ?_)) | refine ⟨?_, ?_⟩ | fail)
    · intro k_ hk_; exact ble (by repeat (first | exact rfl | refine uN (by omega) ?_ | assumption | fail))
    · intro p hp; cases hp
    · repeat (first | exact trivial | assumption | omega | (refine bdR_map (fun _ => ?_)) | (refine bdL_map (fun _ => ?_)) | refine ⟨?_, ?_⟩ | fail)
end Go.Proofs.Ytgnbdegpljbckaa
