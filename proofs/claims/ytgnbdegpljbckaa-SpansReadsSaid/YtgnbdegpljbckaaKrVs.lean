/- Walks by the logic of values. -/
import Derived.Test.YtgnbdegpljbckaaKrVmT
import Derived.Test.YtgnbdegpljbckaaKrVmP
import Derived.Test.YtgnbdegpljbckaaKrVmV
import Derived.Test.YtgnbdegpljbckaaKrVa
import Derived.Test.YtgnbdegpljbckaaKrVp
import Derived.Test.YtgnbdegpljbckaaKrVb
import Derived.Test.YtgnbdegpljbckaaKrVc
import Derived.Test.YtgnbdegpljbckaaKrVd
import Derived.Test.YtgnbdegpljbckaaKrVe
import Derived.Test.YtgnbdegpljbckaaKrVf
import Derived.Test.YtgnbdegpljbckaaKrVg
import Derived.Test.YtgnbdegpljbckaaKrVh
import Derived.Test.YtgnbdegpljbckaaKrVi
import Derived.Test.YtgnbdegpljbckaaKrVj
import Derived.Test.YtgnbdegpljbckaaKrVk
import Derived.Test.YtgnbdegpljbckaaKrVl
namespace Go.Proofs.Ytgnbdegpljbckaa
open Go.Vm
set_option linter.unusedVariables false
set_option linter.unusedSimpArgs false
attribute [local irreducible] bC
theorem nx_y {r : Nat → Bool} {f : Nat} (h : r (255 - f) = true) : nxF r (f + 1) = 255 - f := if_pos h
theorem nx_n {r : Nat → Bool} {f : Nat} (h : r (255 - f) = false) : nxF r (f + 1) = nxF r f := if_neg (by rw [h]; simp)
theorem nxB_t {l : List Sp} {r : Nat → Bool} (hI : Is l r) {p : Nat} (hp : p < 256) (h : nxB l (p : Int) = true) : nxF r (256 - p) < 256 ∧ nxV l (p : Int) = (nxF r (256 - p) : Nat) := by
  unfold nxB at h
  have h0 : ¬ fdL l (p : Int) = l.length := by intro q; rw [decide_eq_true q] at h; cases h
  rcases next_rel hI hp with ⟨a, b⟩ | ⟨y, a, b, c⟩
  · exact absurd a h0
  · refine ⟨c, ?_⟩
    unfold nxV
    rw [if_neg h0, ← b]
    have hl : fdL l (p : Int) < l.length := by have := fdL_le l (p : Int); omega
    rw [oat (by omega)] at a; cases a; rfl
theorem nxB_f {l : List Sp} {r : Nat → Bool} (hI : Is l r) {p : Nat} (hp : p < 256) (h : nxB l (p : Int) = false) : nxF r (256 - p) = 256 := by
  unfold nxB at h
  have h0 : fdL l (p : Int) = l.length := by simpa using h
  rcases next_rel hI hp with ⟨a, b⟩ | ⟨y, a, b, c⟩
  · exact b
  · rw [h0, List.getElem?_eq_none (Nat.le_refl _)] at a; cases a
theorem has_r {l : List Sp} {r : Nat → Bool} (hI : Is l r) {p : Nat} (hp : p < 256) : hasB l (p : Int) = r p := by
  rw [Bool.eq_iff_iff, hasB_iff hI.setM, has_rel hI hp]
set_option maxRecDepth 100000 in
set_option maxHeartbeats 4000000 in
theorem reads_y (l : List Sp) (p : Nat) (hx : ∀ y ∈ l, inM 255 y) (hp : p < 256) (hq : nxB (ofL l) (p : Int) = true) (hw : Does Try.prog 6 [] [] [] (.sc (.bool true))) : Does Try.prog 4 [.sl 2 (l.map spB), .sc (.int .u8 (p : Int))] [] [] (.sc (.bool true)) := by
  refine does_mkr 40 Try.func4 rfl rfl rfl (fun n B bx hd hpre hup hvs hbx hgx hO => ?_)
  refine runs_seq ?_
  refine runs_region ?_
  refine rl1 (gn rfl) rfl rfl (step_allocc (k := n + 0) (zs := [.bool false]) (cs := [.sc (.bool false)]) rfl F.zero4 (by first | rfl | simp) (by first | rfl | decide | simp) (by first | rfl | simp)) ⟨by repeat (first | exact uE | refine uN (by omega) ?_ | assumption | exact hd _ (by omega) | fail), trivial⟩ (by omega) ?_
  refine runsL_nil ?_
  refine runs_seq ?_
  refine runs_seq ?_
  refine runs_region ?_
  refine rl0 (gn rfl) rfl rfl (step_mv rfl rfl) trivial ?_
  refine rl0 (gn rfl) rfl rfl (step_len (m := l.length) rfl rfl (ev_mk rfl) (.inl ⟨⟨_, Try.underlying22⟩, .inl ⟨_, _, .inl rfl, List.length_map _⟩⟩)) trivial ?_
  refine rl_gtr (gn rfl) rfl rfl rfl rfl rfl (fun h1 => ?_) (fun h1 => ?_)
  · skip
    refine runsL_nil ?_
    refine runs_cond true (ev_mk rfl) (fun _ => ?_) (fun h_ => nomatch h_)
    refine runs_seq ?_
    refine runs_region ?_
    refine rl0 (gn rfl) rfl rfl (step_callc rfl Try.func6 rfl rfl rfl (hw) (by repeat (first | exact .nil | refine .cons ?_ ?_ | exact VLe.refl _ | refine VLe.agg ?_ | exact VLe.own_sl _ _ _ | exact VLe.fl_sl _ _ | exact VLe.nil_sl _ | exact vle_int (by omega)))) trivial ?_
    refine' rls (gn rfl) rfl (step_store1 rfl rfl rfl rfl F.one4 rfl rfl ?hl ?hc) ⟨?hb, trivial⟩ ?hk ?_
    case hb => repeat (first | exact uE | refine uN (by omega) ?_ | assumption | exact hd _ (by omega) | fail)
    case hl => first | exact Nat.le_of_ble_eq_true rfl | decide | (simp; done) | (simp; omega) | (first | exact bC_len _ | (simp; done) | (rw [bC_len]; omega) | omega)
    case hc => first | (simp only [List.set_cons_succ, List.set_cons_zero]; rfl) | rfl
    case hk => omega
    refine runsL_nil ?_
    refine runs_ret ?_
    refine ⟨by first | exact .inr rfl | exact .inl rfl, fin_mkg (resc1 rfl (by repeat (first | exact uE | refine uN (by omega) ?_ | assumption | exact hd _ (by omega) | fail)) F.one4 rfl res0) ?_ ?_ ?_ ?_ ?_⟩
    · (repeat' (first | exact VLe.refl _ | exact VLe.own_sl _ _ _ | exact VLe.fl_sl _ _ | exact VLe.nil_sl _ | exact VLe.nil_fl _ | exact VLes.refl _ | exact .nil | refine VLe.tup ?_ | refine VLe.agg ?_ | refine .cons ?_ ?_ | (rw [Int.natCast_add]; exact VLe.refl _) | exact vle_int (by omega) | exact vle_bool (by first | rfl | assumption | (simp_all; done) | fail) | fail))
    · first | ((repeat (first | exact trivial | exact bd_bCA _ _ | exact bd_bC _ _ | assumption | omega | (refine bdR_map (fun _ => ?_)) | refine ⟨?_, ?_⟩ | fail)); done) | (repeat (first | exact trivial | assumption | omega | (refine bdR_map (fun _ => ?_)) | (refine bdL_map (fun _ => ?_)) | refine ⟨?_, ?_⟩ | fail))
    · intro k_ hk_; exact ble (by repeat (first | exact rfl | refine uN (by omega) ?_ | assumption | fail))
    · intro p hp; cases hp
    · first | ((repeat (first | exact trivial | exact bd_bCA _ _ | exact bd_bC _ _ | assumption | omega | (refine bdR_map (fun _ => ?_)) | refine ⟨?_, ?_⟩ | fail)); done) | (repeat (first | exact trivial | assumption | omega | (refine bdR_map (fun _ => ?_)) | (refine bdL_map (fun _ => ?_)) | refine ⟨?_, ?_⟩ | fail))
  · skip
    have hia_ := is_of hx
    have hsa_ := setM_of hx
    have hol_ := of_len l
    have hha_ := has_r hia_ hp
    have hen_ := at_end hia_
    obtain ⟨hlt_, hxv_⟩ := nxB_t hia_ hp hq
    refine runsL_nil ?_
    refine runs_cond false (ev_mk rfl) (fun h_ => nomatch h_) (fun _ => ?_)
    refine runs_skip ?_
    refine runs_seq ?_
    refine runs_region ?_
    refine rl0 (gn rfl) rfl rfl (step_mv rfl rfl) trivial ?_
    refine rl0 (gn rfl) rfl rfl (step_callc rfl Try.func8 rfl rfl rfl (own_c l (by omega)) (by repeat (first | exact .nil | refine .cons ?_ ?_ | exact VLe.refl _ | refine VLe.agg ?_ | exact VLe.own_sl _ _ _ | exact VLe.fl_sl _ _ | exact VLe.nil_sl _ | exact vle_int (by omega)))) trivial ?_
    refine rl0 (gn rfl) rfl rfl (step_callc rfl Try.func7 rfl rfl rfl (of_B l hx (by omega)) (by repeat (first | exact .nil | refine .cons ?_ ?_ | exact VLe.refl _ | refine VLe.agg ?_ | exact VLe.own_sl _ _ _ | exact VLe.fl_sl _ _ | exact VLe.nil_sl _ | exact vle_int (by omega)))) trivial ?_
    refine rl1 (gn rfl) rfl rfl (step_allocc (k := n + 1) (zs := [.slice none 0 0]) (cs := [.sc (.slice none 0 0)]) rfl F.zero28 (by first | rfl | simp) (by first | rfl | decide | simp) (by first | rfl | simp)) ⟨by repeat (first | exact uE | refine uN (by omega) ?_ | assumption | exact hd _ (by omega) | fail), trivial⟩ (by omega) ?_
    refine' rls (gn rfl) rfl (step_storeA rfl rfl rfl rfl F.agg28 ?hm ?hl) ⟨?hb, trivial⟩ ?hk ?_
    case hb => repeat (first | exact uE | refine uN (by omega) ?_ | assumption | exact hd _ (by omega) | fail)
    case hm => first | rfl | (simp; done) | (first | exact bC_len _ | (simp; done) | (rw [bC_len]; omega) | omega)
    case hl => first | rfl | (simp; done) | (first | exact bC_len _ | (simp; done) | (rw [bC_len]; omega) | omega)
    case hk => omega
    refine runsL_nil ?_
    refine runs_seq ?_
    refine runs_region ?_
    refine rl0 (gn rfl) rfl rfl (step_mv rfl rfl) trivial ?_
    refine rl0 (gn rfl) rfl rfl (step_callc rfl Try.func9 rfl rfl rfl (rof_c l (by omega) hx) (by repeat (first | exact .nil | refine .cons ?_ ?_ | exact VLe.refl _ | refine VLe.agg ?_ | exact VLe.own_sl _ _ _ | exact VLe.fl_sl _ _ | exact VLe.nil_sl _ | exact vle_int (by omega)))) trivial ?_
    refine rl1 (gn rfl) rfl rfl (step_allocc (k := n + 2) (zs := (List.replicate 256 (.bool false))) (cs := List.replicate 256 (.sc (.bool false))) rfl F.zero31 (by first | rfl | simp) (by first | rfl | decide | simp) (by first | rfl | simp)) ⟨by repeat (first | exact uE | refine uN (by omega) ?_ | assumption | exact hd _ (by omega) | fail), trivial⟩ (by omega) ?_
    refine' rls (gn rfl) rfl (step_storeA rfl rfl rfl rfl F.agg31 ?hm ?hl) ⟨?hb, trivial⟩ ?hk ?_
    case hb => repeat (first | exact uE | refine uN (by omega) ?_ | assumption | exact hd _ (by omega) | fail)
    case hm => first | rfl | (simp; done) | (first | exact bC_len _ | (simp; done) | (rw [bC_len]; omega) | omega)
    case hl => first | rfl | (simp; done) | (first | exact bC_len _ | (simp; done) | (rw [bC_len]; omega) | omega)
    case hk => omega
    refine runsL_nil ?_
    refine runs_seq ?_
    refine runs_region ?_
    refine rl0 (gn rfl) rfl rfl (step_as rfl rfl) trivial ?_
    refine runsL_nil ?_
    refine runs_seq ?_
    refine runs_seq ?_
    refine runs_region ?_
    refine rl0 (gn rfl) rfl rfl (step_as rfl rfl) trivial ?_
    refine runsL_nil ?_
    refine runs_block ?_
    have hs0_ : 256 = ((nxF (ofR l) 0 : Nat) : Int) := by rfl
    refine runs_loop (fun (ri_ : Nat) (st_ : Go.Vm.S) => ∃ (f : Nat) (m0 : Nat) (b0 : Nat → Box), (st_ = ⟨mk [(1, .sc (.int .u8 (p : Int))), (4, .ref (n + 0) 0), (5, .ref (n + 1) 0), (6, .ref (n + 2) 0), (7, .sc (.int .i64 ((nxF (ofR l) f : Nat) : Int))), (8, .sc (.int .i64 (255 - (f : Int))))], m0, b0⟩) ∧ (ri_ = 1 + (256 - f)) ∧ (n + 3 ≤ m0) ∧ (∀ k_, k_ < n → b0 k_ = bx k_) ∧ (b0 (n + 0) = .cells [.sc (.bool false)]) ∧ (b0 (n + 1) = .cells [.sl 2 (((ofL l)).map spB)]) ∧ (b0 (n + 2) = .cells (bC (ofR l))) ∧ (f ≤ 256 - p)) (1 + (256 - 0)) ⟨_, sle ?_ (Nat.le_refl _), 0, _, _, rfl, rfl, ?_⟩ ?_
    · (repeat' (first | exact trivial | refine ⟨⟨_, rfl, ?_⟩, ?_⟩ | fail)); all_goals (repeat' (first | exact VLe.refl _ | exact VLe.own_sl _ _ _ | exact VLe.fl_sl _ _ | exact VLe.nil_sl _ | exact VLe.nil_fl _ | exact VLes.refl _ | exact .nil | refine VLe.tup ?_ | refine VLe.agg ?_ | refine .cons ?_ ?_ | (rw [Int.natCast_add]; exact VLe.refl _) | exact vle_int (by omega) | exact vle_bool (by first | rfl | assumption | (simp_all; done) | fail) | (rw [← hs0_]; exact VLe.refl _) | (rw [hs0_]; exact VLe.refl _) | fail))
    · exact ⟨by omega, (fun k_ hk_ => by repeat (first | exact rfl | refine uN (by omega) ?_ | assumption | fail)), by first | ((repeat (first | exact uE | assumption | refine uN (by omega) ?_ | fail)); done) | exact tl_eq (by repeat (first | exact uE | assumption | refine uN (by omega) ?_ | fail)) (by first | rfl | (simp [bytesV, beB_len]; done) | (simp [bytesV, beB_len]; omega) | omega) | (rw [← hs0_]; (repeat (first | exact uE | assumption | refine uN (by omega) ?_ | fail)); done), by first | ((repeat (first | exact uE | assumption | refine uN (by omega) ?_ | fail)); done) | exact tl_eq (by repeat (first | exact uE | assumption | refine uN (by omega) ?_ | fail)) (by first | rfl | (simp [bytesV, beB_len]; done) | (simp [bytesV, beB_len]; omega) | omega) | (rw [← hs0_]; (repeat (first | exact uE | assumption | refine uN (by omega) ?_ | fail)); done), by first | ((repeat (first | exact uE | assumption | refine uN (by omega) ?_ | fail)); done) | exact tl_eq (by repeat (first | exact uE | assumption | refine uN (by omega) ?_ | fail)) (by first | rfl | (simp [bytesV, beB_len]; done) | (simp [bytesV, beB_len]; omega) | omega) | (rw [← hs0_]; (repeat (first | exact uE | assumption | refine uN (by omega) ?_ | fail)); done), by omega⟩
    · rintro _ _ ⟨f, m0, b0, rfl, rfl, hm0, hf0, hB0_0, hB0_1, hB0_2, hF0_0⟩
      refine runs_know (fun hd0 => ?_)
      refine runs_bump 20 ?_
      simp only at hd0
      refine runs_seq ?_
      refine runs_seq ?_
      refine runs_region ?_
      refine rl0 (gn rfl) rfl rfl (step_mv rfl rfl) trivial ?_
      refine rl0 (gn rfl) rfl rfl (step_mv rfl rfl) trivial ?_
      refine rl0 (gn rfl) rfl rfl (step_conv_id rfl rfl Try.underlying5 Try.underlying3 (w64 (by omega))) trivial ?_
      refine rl_geq (gn rfl) rfl rfl rfl rfl rfl (fun h2 => ?_) (fun h2 => ?_)
      · skip
        refine runsL_nil ?_
        refine runs_cond true (ev_mk rfl) (fun _ => ?_) (fun h_ => nomatch h_)
        refine runs_skip ?_
        refine runs_seq ?_
        refine runs_block ?_
        refine runs_seq ?_
        refine runs_region ?_
        refine rl0 (gn rfl) rfl rfl (step_mv rfl rfl) trivial ?_
        refine rl0 (gn rfl) rfl rfl (step_index_arr rfl (ev_mk rfl) (ev_mk rfl) Try.underlying31 F.sz4 (by omega) (by omega)) trivial ?_
        refine' rl0 (gn rfl) rfl rfl (step_load_one (v := .sc (.bool ((ofR l) (255 - f)))) rfl (ev_mk rfl) F.one4 ?hv) ⟨?hb, trivial⟩ ?_
        case hb => repeat (first | exact uE | refine uN (by omega) ?_ | assumption | exact hd _ (by omega) | exact hd0 _ (by omega) | fail)
        case hv => exact bC_q (by omega) (by omega)
        refine runsL_nil ?_
        refine runs_cond _ (ev_mk rfl) (fun h3 => ?_) (fun h3 => ?_)
        · skip
          have hnx_ := nx_y (r := (ofR l)) (f := f) h3
          refine runs_region ?_
          refine rl0 (gn rfl) rfl rfl (step_mv rfl rfl) trivial ?_
          refine rl0 (gn rfl) rfl rfl (step_as rfl rfl) trivial ?_
          refine runsL_nil ?_
          refine runs_region ?_
          refine rl0 (gn rfl) rfl rfl (step_mv rfl rfl) trivial ?_
          refine rl0 (gn rfl) rfl rfl (step_sub rfl (ev_mk rfl) (ev_mk rfl) (w64 (by omega))) trivial ?_
          refine rl0 (gn rfl) rfl rfl (step_as rfl rfl) trivial ?_
          refine runsL_nil ?_
          have hq0_ : (255 - (f : Int)) = ((nxF (ofR l) (f + 1) : Nat) : Int) := by omega
          have hq1_ : ((255 - (f : Int)) - 1) = (255 - ((f + 1) : Int)) := by omega
          refine ⟨_, _, ?_, sle ?_ (Nat.le_refl _), (f + 1), _, _, rfl, rfl, by omega, (fun k_ hk_ => by repeat (first | exact hf0 k_ hk_ | refine uN (by first | assumption | omega) ?_ | fail)), by first | ((repeat (first | exact uE | assumption | refine uN (by omega) ?_ | fail)); done) | exact tl_eq (by repeat (first | exact uE | assumption | refine uN (by omega) ?_ | fail)) (by first | rfl | (simp [bytesV, beB_len]; done) | (simp [bytesV, beB_len]; omega) | omega) | (rw [← hq0_]; (repeat (first | exact uE | assumption | refine uN (by omega) ?_ | fail)); done) | (rw [← hq1_]; (repeat (first | exact uE | assumption | refine uN (by omega) ?_ | fail)); done) | (rw [← hq0_, ← hq1_]; (repeat (first | exact uE | assumption | refine uN (by omega) ?_ | fail)); done), by first | ((repeat (first | exact uE | assumption | refine uN (by omega) ?_ | fail)); done) | exact tl_eq (by repeat (first | exact uE | assumption | refine uN (by omega) ?_ | fail)) (by first | rfl | (simp [bytesV, beB_len]; done) | (simp [bytesV, beB_len]; omega) | omega) | (rw [← hq0_]; (repeat (first | exact uE | assumption | refine uN (by omega) ?_ | fail)); done) | (rw [← hq1_]; (repeat (first | exact uE | assumption | refine uN (by omega) ?_ | fail)); done) | (rw [← hq0_, ← hq1_]; (repeat (first | exact uE | assumption | refine uN (by omega) ?_ | fail)); done), by first | ((repeat (first | exact uE | assumption | refine uN (by omega) ?_ | fail)); done) | exact tl_eq (by repeat (first | exact uE | assumption | refine uN (by omega) ?_ | fail)) (by first | rfl | (simp [bytesV, beB_len]; done) | (simp [bytesV, beB_len]; omega) | omega) | (rw [← hq0_]; (repeat (first | exact uE | assumption | refine uN (by omega) ?_ | fail)); done) | (rw [← hq1_]; (repeat (first | exact uE | assumption | refine uN (by omega) ?_ | fail)); done) | (rw [← hq0_, ← hq1_]; (repeat (first | exact uE | assumption | refine uN (by omega) ?_ | fail)); done), by omega⟩
          · omega
          · (repeat' (first | exact trivial | refine ⟨⟨_, rfl, ?_⟩, ?_⟩ | fail)); all_goals (repeat' (first | exact VLe.refl _ | exact VLe.own_sl _ _ _ | exact VLe.fl_sl _ _ | exact VLe.nil_sl _ | exact VLe.nil_fl _ | exact VLes.refl _ | exact .nil | refine VLe.tup ?_ | refine VLe.agg ?_ | refine .cons ?_ ?_ | (rw [Int.natCast_add]; exact VLe.refl _) | exact vle_int (by omega) | exact vle_bool (by first | rfl | assumption | (simp_all; done) | fail) | (rw [← hq0_]; exact VLe.refl _) | (rw [hq0_]; exact VLe.refl _) | (rw [← hq1_]; exact VLe.refl _) | (rw [hq1_]; exact VLe.refl _) | fail))
        · skip
          have hnx_ := nx_n (r := (ofR l)) (f := f) h3
          refine runs_skip ?_
          refine runs_region ?_
          refine rl0 (gn rfl) rfl rfl (step_mv rfl rfl) trivial ?_
          refine rl0 (gn rfl) rfl rfl (step_sub rfl (ev_mk rfl) (ev_mk rfl) (w64 (by omega))) trivial ?_
          refine rl0 (gn rfl) rfl rfl (step_as rfl rfl) trivial ?_
          refine runsL_nil ?_
          have hq0_ : ((nxF (ofR l) f : Nat) : Int) = ((nxF (ofR l) (f + 1) : Nat) : Int) := by omega
          have hq1_ : ((255 - (f : Int)) - 1) = (255 - ((f + 1) : Int)) := by omega
          refine ⟨_, _, ?_, sle ?_ (Nat.le_refl _), (f + 1), _, _, rfl, rfl, by omega, (fun k_ hk_ => by repeat (first | exact hf0 k_ hk_ | refine uN (by first | assumption | omega) ?_ | fail)), by first | ((repeat (first | exact uE | assumption | refine uN (by omega) ?_ | fail)); done) | exact tl_eq (by repeat (first | exact uE | assumption | refine uN (by omega) ?_ | fail)) (by first | rfl | (simp [bytesV, beB_len]; done) | (simp [bytesV, beB_len]; omega) | omega) | (rw [← hq0_]; (repeat (first | exact uE | assumption | refine uN (by omega) ?_ | fail)); done) | (rw [← hq1_]; (repeat (first | exact uE | assumption | refine uN (by omega) ?_ | fail)); done) | (rw [← hq0_, ← hq1_]; (repeat (first | exact uE | assumption | refine uN (by omega) ?_ | fail)); done), by first | ((repeat (first | exact uE | assumption | refine uN (by omega) ?_ | fail)); done) | exact tl_eq (by repeat (first | exact uE | assumption | refine uN (by omega) ?_ | fail)) (by first | rfl | (simp [bytesV, beB_len]; done) | (simp [bytesV, beB_len]; omega) | omega) | (rw [← hq0_]; (repeat (first | exact uE | assumption | refine uN (by omega) ?_ | fail)); done) | (rw [← hq1_]; (repeat (first | exact uE | assumption | refine uN (by omega) ?_ | fail)); done) | (rw [← hq0_, ← hq1_]; (repeat (first | exact uE | assumption | refine uN (by omega) ?_ | fail)); done), by first | ((repeat (first | exact uE | assumption | refine uN (by omega) ?_ | fail)); done) | exact tl_eq (by repeat (first | exact uE | assumption | refine uN (by omega) ?_ | fail)) (by first | rfl | (simp [bytesV, beB_len]; done) | (simp [bytesV, beB_len]; omega) | omega) | (rw [← hq0_]; (repeat (first | exact uE | assumption | refine uN (by omega) ?_ | fail)); done) | (rw [← hq1_]; (repeat (first | exact uE | assumption | refine uN (by omega) ?_ | fail)); done) | (rw [← hq0_, ← hq1_]; (repeat (first | exact uE | assumption | refine uN (by omega) ?_ | fail)); done), by omega⟩
          · omega
          · (repeat' (first | exact trivial | refine ⟨⟨_, rfl, ?_⟩, ?_⟩ | fail)); all_goals (repeat' (first | exact VLe.refl _ | exact VLe.own_sl _ _ _ | exact VLe.fl_sl _ _ | exact VLe.nil_sl _ | exact VLe.nil_fl _ | exact VLes.refl _ | exact .nil | refine VLe.tup ?_ | refine VLe.agg ?_ | refine .cons ?_ ?_ | (rw [Int.natCast_add]; exact VLe.refl _) | exact vle_int (by omega) | exact vle_bool (by first | rfl | assumption | (simp_all; done) | fail) | (rw [← hq0_]; exact VLe.refl _) | (rw [hq0_]; exact VLe.refl _) | (rw [← hq1_]; exact VLe.refl _) | (rw [hq1_]; exact VLe.refl _) | fail))
      · skip
        obtain rfl : f = (256 - p) := by omega
        refine runsL_nil ?_
        refine runs_cond false (ev_mk rfl) (fun h_ => nomatch h_) (fun _ => ?_)
        refine runs_exit ?_
        refine runs_seq ?_
        refine runs_region ?_
        refine' rl0 (gn rfl) rfl rfl (step_load_all rfl rfl F.agg28 ?hl) ⟨?hb, trivial⟩ ?_
        case hb => repeat (first | exact uE | refine uN (by omega) ?_ | assumption | exact hd _ (by omega) | exact hd0 _ (by omega) | fail)
        case hl => first | rfl | (simp; done) | (first | exact bC_len _ | (simp; done) | (rw [bC_len]; omega) | omega)
        refine rl0 (gn rfl) rfl rfl (step_mv rfl rfl) trivial ?_
        refine rl0 (gn rfl) rfl rfl (step_callc rfl Try.func20 rfl rfl rfl (next_B (ofL l) hsa_ (by omega) (p : Int)) (by repeat (first | exact .nil | refine .cons ?_ ?_ | exact VLe.refl _ | refine VLe.agg ?_ | exact VLe.own_sl _ _ _ | exact VLe.fl_sl _ _ | exact VLe.nil_sl _ | exact vle_int (by omega)))) trivial ?_
        refine rl0 (gn rfl) rfl rfl (step_mv rfl rfl) trivial ?_
        refine rl0 (gn rfl) rfl rfl (step_extract rfl (ev_mk rfl) rfl) trivial ?_
        refine rl0 (gn rfl) rfl rfl (step_extract rfl (ev_mk rfl) rfl) trivial ?_
        refine rl_know (d := 38) (c := true) rfl (hq) ?_
        refine rl0 (gn rfl) rfl rfl (step_as rfl rfl) trivial ?_
        refine rl0 (gn rfl) rfl rfl (step_as rfl rfl) trivial ?_
        refine runsL_nil ?_
        refine runs_seq ?_
        refine runs_seq ?_
        refine runs_draw (by kernel_rfl) (by kernel_rfl) (by kernel_rfl) ?_
        refine' dl0 (gn rfl) rfl rfl (step_load_all rfl rfl F.agg28 ?hl) ⟨?hb, trivial⟩ ?_
        case hb => repeat (first | exact uE | refine uN (by omega) ?_ | assumption | exact hd _ (by omega) | exact hd0 _ (by omega) | fail)
        case hl => first | rfl | (simp; done) | (first | exact bC_len _ | (simp; done) | (rw [bC_len]; omega) | omega)
        refine dl0 (gn rfl) rfl rfl (step_mv rfl rfl) trivial ?_
        refine dl0 (gn rfl) rfl rfl (step_callc rfl Try.func21 rfl rfl rfl (has_B (ofL l) hsa_ (by omega) (p : Int)) (by repeat (first | exact .nil | refine .cons ?_ ?_ | exact VLe.refl _ | refine VLe.agg ?_ | exact VLe.own_sl _ _ _ | exact VLe.fl_sl _ _ | exact VLe.nil_sl _ | exact vle_int (by omega)))) trivial ?_
        refine dl0 (gn rfl) rfl rfl (step_mv rfl rfl) trivial ?_
        refine dl0 (gn rfl) rfl rfl (step_index_arr rfl (ev_mk rfl) (ev_mk rfl) Try.underlying31 F.sz4 (by omega) (by omega)) trivial ?_
        refine' dl0 (gn rfl) rfl rfl (step_load_one (v := .sc (.bool ((ofR l) (p)))) rfl (ev_mk rfl) F.one4 ?hv) ⟨?hb, trivial⟩ ?_
        case hb => repeat (first | exact uE | refine uN (by omega) ?_ | assumption | exact hd _ (by omega) | exact hd0 _ (by omega) | fail)
        case hv => exact bC_q (by omega) (by omega)
        refine dl0 (gn rfl) rfl rfl (step_neqb rfl (ev_mk rfl) (ev_mk rfl) Try.underlying4) trivial ?_
        refine dl_know (d := 45) (c := false) rfl ((by rw [hha_]; simp)) ?_
        refine dl0 (gn rfl) rfl rfl (step_mv rfl rfl) trivial ?_
        refine dl0 (gy rfl rfl rfl rfl rfl rfl) rfl rfl (step_mv rfl rfl) trivial ?_
        refine dl0 (gy rfl rfl rfl rfl rfl rfl) rfl rfl (step_mv rfl rfl) trivial ?_
        refine dl_lss (gy rfl rfl rfl rfl rfl rfl) rfl rfl rfl rfl rfl (fun h3 => ?_) (fun h3 => ?_)
        rotate_left
        · exact False.elim (by omega)
        refine dl0 (gy rfl rfl rfl rfl rfl rfl) rfl rfl (step_binOp (c := .bool false) rfl (ev_mk rfl) (ev_mk rfl) (fun _ => rfl)) trivial ?_
        refine dl0 (gn rfl) rfl rfl (step_pick rfl (ev_mk rfl) (ev_mk rfl)) trivial ?_
        refine dl0 (gn rfl) rfl rfl (step_mv rfl rfl) trivial ?_
        refine dl0 (gy rfl rfl rfl rfl rfl rfl) rfl rfl (step_mv rfl rfl) trivial ?_
        refine dl0 (gy rfl rfl rfl rfl rfl rfl) rfl rfl (step_mv rfl rfl) trivial ?_
        refine dl0 (gy rfl rfl rfl rfl rfl rfl) rfl rfl (step_mv rfl rfl) trivial ?_
        refine dl0 (gy rfl rfl rfl rfl rfl rfl) rfl rfl (step_conv_id rfl rfl Try.underlying5 Try.underlying3 (w64 (by omega))) trivial ?_
        refine dl0 (gy rfl rfl rfl rfl rfl rfl) rfl rfl (step_mv rfl rfl) trivial ?_
        refine dl_neq (gy rfl rfl rfl rfl rfl rfl) rfl rfl rfl rfl rfl (fun h4 => ?_) (fun h4 => ?_)
        · exact False.elim (by omega)
        refine dl0 (gy rfl rfl rfl rfl rfl rfl) rfl rfl (step_pick rfl (ev_mk rfl) (ev_mk rfl)) trivial ?_
        refine dl0 (gn rfl) rfl rfl (step_pick rfl (ev_mk rfl) (ev_mk rfl)) trivial ?_
        refine dlnil ?_ ?_
        · repeat' (first | exact trivial | exact .inr (ap0 _ _ _ _) | exact .inr (ap2 _ _ _ _) | exact .inr (ap3 _ _ _ _) | exact .inr ⟨by first | (simp; done) | (simp; omega), by first | (simp; done) | (simp; omega)⟩ | exact .inl (by kernel_rfl) | refine ⟨?_, ?_⟩ | fail)
        refine runs_cond false (ev_mk rfl) (fun h_ => nomatch h_) (fun _ => ?_)
        refine runs_skip ?_
        refine runs_seq ?_
        refine runs_region ?_
        refine rl1 (gn rfl) rfl rfl (step_allocc (k := m0 + 0) (zs := [.int .i64 0]) (cs := [.sc (.int .i64 0)]) rfl F.zero3 (by first | rfl | simp) (by first | rfl | decide | simp) (by first | rfl | simp)) ⟨by repeat (first | exact uE | refine uN (by omega) ?_ | assumption | exact hd _ (by omega) | exact hd0 _ (by omega) | fail), trivial⟩ (by omega) ?_
        refine' rls (gn rfl) rfl (step_store1 rfl rfl rfl rfl F.one3 rfl rfl ?hl ?hc) ⟨?hb, trivial⟩ ?hk ?_
        case hb => repeat (first | exact uE | refine uN (by omega) ?_ | assumption | exact hd _ (by omega) | exact hd0 _ (by omega) | fail)
        case hl => first | exact Nat.le_of_ble_eq_true rfl | decide | (simp; done) | (simp; omega) | (first | exact bC_len _ | (simp; done) | (rw [bC_len]; omega) | omega)
        case hc => first | (simp only [List.set_cons_succ, List.set_cons_zero]; rfl) | rfl
        case hk => omega
        refine runsL_nil ?_
        refine runs_seq ?_
        refine runs_region ?_
        refine' rl0 (gn rfl) rfl rfl (step_load_all rfl rfl F.agg28 ?hl) ⟨?hb, trivial⟩ ?_
        case hb => repeat (first | exact uE | refine uN (by omega) ?_ | assumption | exact hd _ (by omega) | exact hd0 _ (by omega) | fail)
        case hl => first | rfl | (simp; done) | (first | exact bC_len _ | (simp; done) | (rw [bC_len]; omega) | omega)
        refine rl1 (gn rfl) rfl rfl (step_callc rfl Try.func22 rfl rfl rfl (all_c (ofL l) (kk := (m0 + 1))) (by repeat (first | exact .nil | refine .cons ?_ ?_ | exact VLe.refl _ | refine VLe.agg ?_ | exact VLe.own_sl _ _ _ | exact VLe.fl_sl _ _ | exact VLe.nil_sl _ | exact vle_int (by omega)))) ⟨by repeat (first | exact uE | refine uN (by omega) ?_ | assumption | exact hd _ (by omega) | exact hd0 _ (by omega) | fail), trivial⟩ (by omega) ?_
        refine rl0 (gn rfl) rfl rfl (step_as rfl rfl) trivial ?_
        refine runsL_nil ?_
        refine runs_seq ?_
        refine runs_seq ?_
        refine runs_region ?_
        refine rl0 (gn rfl) rfl rfl (step_mv rfl rfl) trivial ?_
        refine rl0 (gn rfl) rfl rfl (step_eq_nilf (b := false) rfl (ev_mk rfl) (ev_mk rfl) Try.underlying46 ⟨_, .inl ⟨.inl ⟨_, _, rfl⟩, rfl⟩, .inl ⟨rfl, rfl⟩⟩) trivial ?_
        refine runsL_nil ?_
        refine runs_cond false (ev_mk rfl) (fun h_ => nomatch h_) (fun _ => ?_)
        refine runs_skip ?_
        refine runs_seq ?_
        refine runs_seq ?_
        refine runs_region ?_
        refine rl0 (gn rfl) rfl rfl (step_mv rfl rfl) trivial ?_
        refine runsL_nil ?_
        refine runs_block ?_
        refine runs_rangeL (f := 38) (caps := [.ref (m0 + 1) 0]) (xs := (numL (ofL l)).map nuR) (Dl := [(m0 + 0, fun i60 => .cells [.sc (.int .i64 (atN (numL (ofL l)) i60))])]) (El := [(m0 + 1, .cells [.sl 2 ((ofL l).map spB)], fun m_ b_ => .cells [.sl 2 ((ofL l).map spB)])]) (kl := m0 + 2) (m := (numL (ofL l)).length) (brk := false) (ex := .normal) hO rfl (.inl rfl) Try.func38 rfl rfl (all_i (ofL l) hsa_ (by omega)) (by repeat (first | exact uE | refine uN (by omega) ?_ | assumption | exact hd _ (by omega) | exact hd0 _ (by omega) | fail)) (by omega) ((by rw [List.length_map]; exact Nat.le_refl _)) (fun h_ => nomatch h_) (fun _ => ⟨by rw [List.length_map], rfl⟩) (fun v_ hv_ => by obtain ⟨_, _, rfl⟩ := List.mem_map.1 hv_; rfl) rfl ⟨trivial, trivial⟩ ⟨⟨by dsimp only; omega, by dsimp only; omega, ⟨by dsimp only; omega, trivial⟩, by dsimp only; (first | ((repeat (first | exact uE | assumption | refine uN (by omega) ?_ | fail)); done) | (refine Eq.trans (b := .cells [.sc (.int .i64 0)]) (by repeat (first | exact uE | assumption | refine uN (by omega) ?_ | fail)) ?_; first | rfl | (simp; done)))⟩, trivial⟩ ⟨⟨by dsimp only; omega, by dsimp only; omega, by dsimp only; repeat (first | exact uE | refine uN (by omega) ?_ | assumption | exact hd _ (by omega) | exact hd0 _ (by omega) | fail)⟩, trivial⟩ (fun i60 => ⟨bdb_cells (by first | ((repeat (first | exact trivial | exact bd_bCA _ _ | exact bd_bC _ _ | assumption | omega | (refine bdR_map (fun _ => ?_)) | refine ⟨?_, ?_⟩ | fail)); done) | (repeat (first | exact trivial | assumption | omega | (refine bdR_map (fun _ => ?_)) | (refine bdL_map (fun _ => ?_)) | refine ⟨?_, ?_⟩ | fail))), trivial⟩) ⟨bdb_cells (by first | ((repeat (first | exact trivial | exact bd_bCA _ _ | exact bd_bC _ _ | assumption | omega | (refine bdR_map (fun _ => ?_)) | refine ⟨?_, ?_⟩ | fail)); done) | (repeat (first | exact trivial | assumption | omega | (refine bdR_map (fun _ => ?_)) | (refine bdL_map (fun _ => ?_)) | refine ⟨?_, ?_⟩ | fail))), trivial⟩ ?_ ?_
        · intro i60 v60 hi60 hv60 B60 n60 lr60 bx60 hR60 hl60 hk60 ho60 he60 hn60 hd60 hD60 hfr60
          have hf60 : ∀ k_, k_ < _ → k_ ≠ m0 + 0 → k_ ≠ m0 + 1 → k_ ≠ m0 + 2 → bx60 k_ = _ := fun k_ a_ e0_ e1_ e2_ => hfr60 k_ a_ ⟨e0_, e1_, trivial⟩ e2_
          have hb60_0 : bx60 (m0 + 0) = .cells [.sc (.int .i64 (atN (numL (ofL l)) i60))] := hD60.1
          have hc60_0 : bx60 (n + 0) = .cells [.sc (.bool false)] := (hf60 _ (by omega) (by omega) (by omega) (by omega)).trans (by repeat (first | exact uE | refine uN (by omega) ?_ | assumption | exact hd _ (by omega) | exact hd0 _ (by omega) | fail))
          have hc60_1 : bx60 (n + 1) = .cells [.sl 2 (((ofL l)).map spB)] := (hf60 _ (by omega) (by omega) (by omega) (by omega)).trans (by repeat (first | exact uE | refine uN (by omega) ?_ | assumption | exact hd _ (by omega) | exact hd0 _ (by omega) | fail))
          have hc60_2 : bx60 (n + 2) = .cells (bC (ofR l)) := (hf60 _ (by omega) (by omega) (by omega) (by omega)).trans (by repeat (first | exact uE | refine uN (by omega) ?_ | assumption | exact hd _ (by omega) | exact hd0 _ (by omega) | fail))
          obtain ⟨t60, ht60, rfl⟩ := map_get hv60
          refine runs_keep (l' := [(66, .sc (.int .u8 t60)), (4, .ref (n + 0) 0), (6, .ref (n + 2) 0), (11, .ref (m0 + 0) 0)]) ?_ ?_
          · (repeat' (first | exact trivial | refine ⟨⟨_, rfl, ?_⟩, ?_⟩ | fail)); all_goals (repeat' (first | exact VLe.refl _ | exact VLe.own_sl _ _ _ | exact VLe.fl_sl _ _ | exact VLe.nil_sl _ | exact VLe.nil_fl _ | exact VLes.refl _ | exact .nil | refine VLe.tup ?_ | refine VLe.agg ?_ | refine .cons ?_ ?_ | (rw [Int.natCast_add]; exact VLe.refl _) | exact vle_int (by omega) | exact vle_bool (by first | rfl | assumption | (simp_all; done) | fail) | fail))
          refine runs_bump 40 ?_
          obtain ⟨hat1_, hat2_, hat3_, hat4_, hat5_⟩ := at_next hia_ ht60
          have hats_ := atN_s ht60
          refine runs_region ?_
          refine rl0 (gn rfl) rfl rfl (step_as rfl rfl) trivial ?_
          refine runsL_nil ?_
          refine ⟨rfl, by first | rfl | (repeat (first | exact uE | refine uN (by omega) ?_ | assumption | exact hd _ (by omega) | exact hd0 _ (by omega) | exact hd60 _ (by omega) | fail)), fun r60 => ?_⟩
          show Runs _ _ _ _ ⟨mk _, _ + _, upd _ _ _⟩ _
          refine runs_block ?_
          refine runs_seq ?_
          refine runs_block ?_
          have hs0_ : atN (numL (ofL l)) i60 = ((atN (numL (ofL l)) i60).toNat : Int) := by omega
          refine runs_loop (fun (ri_ : Nat) (st_ : Go.Vm.S) => ∃ (a : Nat) (m1 : Nat) (b1 : Nat → Box), (st_ = ⟨mk [(4, .ref (n + 0) 0), (6, .ref (n + 2) 0), (11, .ref (m0 + 0) 0), (13, .sc (.int .u8 t60))], m1, b1⟩) ∧ (ri_ = 1 + (256 - a)) ∧ (n60 + 0 ≤ m1) ∧ (∀ k_, k_ < n60 → k_ ≠ m0 + 0 → k_ ≠ m0 + 2 → b1 k_ = bx60 k_) ∧ (b1 (m0 + 0) = .cells [.sc (.int .i64 (a : Int))]) ∧ (b1 (n + 0) = .cells [.sc (.bool false)]) ∧ (b1 (n + 1) = .cells [.sl 2 (((ofL l)).map spB)]) ∧ (b1 (n + 2) = .cells (bC (ofR l))) ∧ (atN (numL (ofL l)) i60 ≤ (a : Int)) ∧ ((a : Int) ≤ t60) ∧ (b1 (m0 + 2) = Box.obj (.loop r60))) (1 + (256 - (atN (numL (ofL l)) i60).toNat)) ⟨_, sle ?_ (Nat.le_refl _), (atN (numL (ofL l)) i60).toNat, _, _, rfl, rfl, ?_⟩ ?_
          · (repeat' (first | exact trivial | refine ⟨⟨_, rfl, ?_⟩, ?_⟩ | fail)); all_goals (repeat' (first | exact VLe.refl _ | exact VLe.own_sl _ _ _ | exact VLe.fl_sl _ _ | exact VLe.nil_sl _ | exact VLe.nil_fl _ | exact VLes.refl _ | exact .nil | refine VLe.tup ?_ | refine VLe.agg ?_ | refine .cons ?_ ?_ | (rw [Int.natCast_add]; exact VLe.refl _) | exact vle_int (by omega) | exact vle_bool (by first | rfl | assumption | (simp_all; done) | fail) | (rw [← hs0_]; exact VLe.refl _) | (rw [hs0_]; exact VLe.refl _) | fail))
          · exact ⟨by omega, (fun k_ hk_ e0_ e1_ => by repeat (first | exact rfl | refine uN (by omega) ?_ | assumption | exact hf0 _ (by omega) | exact hf60 _ (by omega) (by first | assumption | omega) (by first | assumption | omega) (by first | assumption | omega) | fail)), by first | ((repeat (first | exact uE | assumption | refine uN (by omega) ?_ | fail)); done) | exact tl_eq (by repeat (first | exact uE | assumption | refine uN (by omega) ?_ | fail)) (by first | rfl | (simp [bytesV, beB_len]; done) | (simp [bytesV, beB_len]; omega) | omega) | (rw [← hs0_]; (repeat (first | exact uE | assumption | refine uN (by omega) ?_ | fail)); done), by first | ((repeat (first | exact uE | assumption | refine uN (by omega) ?_ | fail)); done) | exact tl_eq (by repeat (first | exact uE | assumption | refine uN (by omega) ?_ | fail)) (by first | rfl | (simp [bytesV, beB_len]; done) | (simp [bytesV, beB_len]; omega) | omega) | (rw [← hs0_]; (repeat (first | exact uE | assumption | refine uN (by omega) ?_ | fail)); done), by first | ((repeat (first | exact uE | assumption | refine uN (by omega) ?_ | fail)); done) | exact tl_eq (by repeat (first | exact uE | assumption | refine uN (by omega) ?_ | fail)) (by first | rfl | (simp [bytesV, beB_len]; done) | (simp [bytesV, beB_len]; omega) | omega) | (rw [← hs0_]; (repeat (first | exact uE | assumption | refine uN (by omega) ?_ | fail)); done), by first | ((repeat (first | exact uE | assumption | refine uN (by omega) ?_ | fail)); done) | exact tl_eq (by repeat (first | exact uE | assumption | refine uN (by omega) ?_ | fail)) (by first | rfl | (simp [bytesV, beB_len]; done) | (simp [bytesV, beB_len]; omega) | omega) | (rw [← hs0_]; (repeat (first | exact uE | assumption | refine uN (by omega) ?_ | fail)); done), by omega, by omega, (by exact uE)⟩
          · rintro _ _ ⟨a, m1, b1, rfl, rfl, hm1, hf1, hB1_0, hB1_1, hB1_2, hB1_3, hF1_0, hF1_1, hF1_2⟩
            refine runs_know (fun hd1 => ?_)
            refine runs_bump 20 ?_
            simp only at hd1
            refine runs_seq ?_
            refine runs_seq ?_
            refine runs_region ?_
            refine' rl0 (gn rfl) rfl rfl (step_load_one rfl (ev_mk rfl) F.one3 ?hv) ⟨?hb, trivial⟩ ?_
            case hb => repeat (first | exact uE | refine uN (by omega) ?_ | assumption | exact hd _ (by omega) | exact hd0 _ (by omega) | exact hd60 _ (by omega) | exact hd1 _ (by omega) | fail)
            case hv => rfl
            refine rl0 (gn rfl) rfl rfl (step_mv rfl rfl) trivial ?_
            refine rl0 (gn rfl) rfl rfl (step_conv_id rfl rfl Try.underlying5 Try.underlying3 (w64 (by omega))) trivial ?_
            refine rl_lss (gn rfl) rfl rfl rfl rfl rfl (fun h5 => ?_) (fun h5 => ?_)
            · skip
              refine runsL_nil ?_
              refine runs_cond true (ev_mk rfl) (fun _ => ?_) (fun h_ => nomatch h_)
              refine runs_skip ?_
              refine runs_block ?_
              refine runs_seq ?_
              refine runs_seq ?_
              refine runs_region ?_
              refine' rl0 (gn rfl) rfl rfl (step_load_one rfl (ev_mk rfl) F.one3 ?hv) ⟨?hb, trivial⟩ ?_
              case hb => repeat (first | exact uE | refine uN (by omega) ?_ | assumption | exact hd _ (by omega) | exact hd0 _ (by omega) | exact hd60 _ (by omega) | exact hd1 _ (by omega) | fail)
              case hv => rfl
              refine rl0 (gn rfl) rfl rfl (step_index_arr rfl (ev_mk rfl) (ev_mk rfl) Try.underlying31 F.sz4 (by omega) (by omega)) trivial ?_
              refine' rl0 (gn rfl) rfl rfl (step_load_one (v := .sc (.bool ((ofR l) (a)))) rfl (ev_mk rfl) F.one4 ?hv) ⟨?hb, trivial⟩ ?_
              case hb => repeat (first | exact uE | refine uN (by omega) ?_ | assumption | exact hd _ (by omega) | exact hd0 _ (by omega) | exact hd60 _ (by omega) | exact hd1 _ (by omega) | fail)
              case hv => exact bC_q (by omega) (by omega)
              refine rl_know (d := 73) (c := false) rfl ((hat5_ a (by omega) (by omega))) ?_
              refine runsL_nil ?_
              refine runs_cond false (ev_mk rfl) (fun h_ => nomatch h_) (fun _ => ?_)
              refine runs_skip ?_
              refine runs_region ?_
              refine' rl0 (gn rfl) rfl rfl (step_load_one rfl (ev_mk rfl) F.one3 ?hv) ⟨?hb, trivial⟩ ?_
              case hb => repeat (first | exact uE | refine uN (by omega) ?_ | assumption | exact hd _ (by omega) | exact hd0 _ (by omega) | exact hd60 _ (by omega) | exact hd1 _ (by omega) | fail)
              case hv => rfl
              refine rl0 (gn rfl) rfl rfl (step_add rfl (ev_mk rfl) (ev_mk rfl) (w64 (by omega))) trivial ?_
              refine' rls (gn rfl) rfl (step_store1 rfl rfl rfl rfl F.one3 rfl rfl ?hl ?hc) ⟨?hb, trivial⟩ ?hk ?_
              case hb => repeat (first | exact uE | refine uN (by omega) ?_ | assumption | exact hd _ (by omega) | exact hd0 _ (by omega) | exact hd60 _ (by omega) | exact hd1 _ (by omega) | fail)
              case hl => first | exact Nat.le_of_ble_eq_true rfl | decide | (simp; done) | (simp; omega) | (first | exact bC_len _ | (simp; done) | (rw [bC_len]; omega) | omega)
              case hc => first | (simp only [List.set_cons_succ, List.set_cons_zero]; rfl) | rfl
              case hk => omega
              refine runsL_nil ?_
              have hq0_ : ((a : Int) + 1) = ((a + 1) : Int) := by omega
              refine ⟨_, _, ?_, sle ?_ (Nat.le_refl _), (a + 1), _, _, rfl, rfl, by omega, (fun k_ hk_ e0_ e1_ => by repeat (first | exact hf1 k_ hk_ e0_ e1_ | exact hf0 k_ hk_ | exact hf60 k_ hk_ | exact hf0 k_ hk_ e0_ e1_ | exact hf60 k_ hk_ e0_ e1_ | refine uN (by first | assumption | omega) ?_ | fail)), by first | ((repeat (first | exact uE | assumption | refine uN (by omega) ?_ | fail)); done) | exact tl_eq (by repeat (first | exact uE | assumption | refine uN (by omega) ?_ | fail)) (by first | rfl | (simp [bytesV, beB_len]; done) | (simp [bytesV, beB_len]; omega) | omega) | (rw [← hq0_]; (repeat (first | exact uE | assumption | refine uN (by omega) ?_ | fail)); done), by first | ((repeat (first | exact uE | assumption | refine uN (by omega) ?_ | fail)); done) | exact tl_eq (by repeat (first | exact uE | assumption | refine uN (by omega) ?_ | fail)) (by first | rfl | (simp [bytesV, beB_len]; done) | (simp [bytesV, beB_len]; omega) | omega) | (rw [← hq0_]; (repeat (first | exact uE | assumption | refine uN (by omega) ?_ | fail)); done), by first | ((repeat (first | exact uE | assumption | refine uN (by omega) ?_ | fail)); done) | exact tl_eq (by repeat (first | exact uE | assumption | refine uN (by omega) ?_ | fail)) (by first | rfl | (simp [bytesV, beB_len]; done) | (simp [bytesV, beB_len]; omega) | omega) | (rw [← hq0_]; (repeat (first | exact uE | assumption | refine uN (by omega) ?_ | fail)); done), by first | ((repeat (first | exact uE | assumption | refine uN (by omega) ?_ | fail)); done) | exact tl_eq (by repeat (first | exact uE | assumption | refine uN (by omega) ?_ | fail)) (by first | rfl | (simp [bytesV, beB_len]; done) | (simp [bytesV, beB_len]; omega) | omega) | (rw [← hq0_]; (repeat (first | exact uE | assumption | refine uN (by omega) ?_ | fail)); done), by omega, by omega, (by repeat (first | assumption | refine uN (by omega) ?_ | fail))⟩
              · omega
              · (repeat' (first | exact trivial | refine ⟨⟨_, rfl, ?_⟩, ?_⟩ | fail)); all_goals (repeat' (first | exact VLe.refl _ | exact VLe.own_sl _ _ _ | exact VLe.fl_sl _ _ | exact VLe.nil_sl _ | exact VLe.nil_fl _ | exact VLes.refl _ | exact .nil | refine VLe.tup ?_ | refine VLe.agg ?_ | refine .cons ?_ ?_ | (rw [Int.natCast_add]; exact VLe.refl _) | exact vle_int (by omega) | exact vle_bool (by first | rfl | assumption | (simp_all; done) | fail) | (rw [← hq0_]; exact VLe.refl _) | (rw [hq0_]; exact VLe.refl _) | fail))
            · skip
              refine runsL_nil ?_
              refine runs_cond false (ev_mk rfl) (fun h_ => nomatch h_) (fun _ => ?_)
              refine runs_exit ?_
              refine runs_seq ?_
              refine runs_seq ?_
              refine runs_region ?_
              refine rl0 (gn rfl) rfl rfl (step_mv rfl rfl) trivial ?_
              refine rl0 (gn rfl) rfl rfl (step_index_arr rfl (ev_mk rfl) (ev_mk rfl) Try.underlying31 F.sz4 (by omega) (by omega)) trivial ?_
              refine' rl0 (gn rfl) rfl rfl (step_load_one (v := .sc (.bool ((ofR l) (t60.toNat)))) rfl (ev_mk rfl) F.one4 ?hv) ⟨?hb, trivial⟩ ?_
              case hb => repeat (first | exact uE | refine uN (by omega) ?_ | assumption | exact hd _ (by omega) | exact hd0 _ (by omega) | exact hd60 _ (by omega) | exact hd1 _ (by omega) | fail)
              case hv => exact bC_q (by omega) (by omega)
              refine rl_know (d := 78) (c := true) rfl (hat2_) ?_
              refine rl0 (gn rfl) rfl rfl (step_unOp (c := .bool false) rfl (ev_mk rfl) (fun _ => rfl)) trivial ?_
              refine runsL_nil ?_
              refine runs_cond false (ev_mk rfl) (fun h_ => nomatch h_) (fun _ => ?_)
              refine runs_skip ?_
              refine runs_region ?_
              refine rl0 (gn rfl) rfl rfl (step_mv rfl rfl) trivial ?_
              refine rl0 (gn rfl) rfl rfl (step_conv_id rfl rfl Try.underlying5 Try.underlying3 (w64 (by omega))) trivial ?_
              refine rl0 (gn rfl) rfl rfl (step_add rfl (ev_mk rfl) (ev_mk rfl) (w64 (by omega))) trivial ?_
              refine' rls (gn rfl) rfl (step_store1 rfl rfl rfl rfl F.one3 rfl rfl ?hl ?hc) ⟨?hb, trivial⟩ ?hk ?_
              case hb => repeat (first | exact uE | refine uN (by omega) ?_ | assumption | exact hd _ (by omega) | exact hd0 _ (by omega) | exact hd60 _ (by omega) | exact hd1 _ (by omega) | fail)
              case hl => first | exact Nat.le_of_ble_eq_true rfl | decide | (simp; done) | (simp; omega) | (first | exact bC_len _ | (simp; done) | (rw [bC_len]; omega) | omega)
              case hc => first | (simp only [List.set_cons_succ, List.set_cons_zero]; rfl) | rfl
              case hk => omega
              refine runsL_nil ?_
              refine ⟨by exact (if_neg (fun h_ => nomatch h_.1)).symm, by repeat (first | exact uE | refine uN (by omega) ?_ | assumption | exact hd _ (by omega) | exact hd0 _ (by omega) | exact hd60 _ (by omega) | exact hd1 _ (by omega) | fail), fun k_ hk_ hl_ => ?_⟩
              simp only [dL, updL, List.map_cons, List.map_nil]; by_cases e0_ : k_ = (m0 + 0); (focus subst e0_; refine bl_eq ?_; first | (refine' blec ?hb ?hl; (case hb => repeat (first | exact uE | assumption | refine uN (by omega) ?_ | fail)); (case hl => first | exact VLes.refl _ | ((repeat' (first | exact VLe.refl _ | exact VLe.own_sl _ _ _ | exact VLe.fl_sl _ _ | exact VLe.nil_sl _ | exact VLe.nil_fl _ | exact VLes.refl _ | exact .nil | refine VLe.tup ?_ | refine VLe.agg ?_ | refine .cons ?_ ?_ | (rw [Int.natCast_add]; exact VLe.refl _) | exact vle_int (by omega) | exact vle_bool (by first | rfl | assumption | (simp_all; done) | fail) | fail)); done))) | (refine ble ?_; (repeat (first | exact uE | assumption | refine uN (by omega) ?_ | fail)); done)); refine bl_ne e0_ ?_; exact ble (by repeat (first | exact rfl | refine uN (by first | assumption | omega) ?_ | assumption | exact hf0 _ (by omega) | exact hf60 _ (by omega) (by first | assumption | omega) (by first | assumption | omega) (by first | assumption | omega) | exact hf1 _ (by omega) (by first | assumption | omega) (by first | assumption | omega) | fail))
        · intro bb60 b60 hb60
          simp only [dL, eM, updL, List.map_cons, List.map_nil] at hb60
          subst hb60
          refine runs_seq ?_
          refine runs_block ?_
          have hs0_ : atN (numL (ofL l)) (numL (ofL l)).length = ((atN (numL (ofL l)) (numL (ofL l)).length).toNat : Int) := by omega
          refine runs_loop (fun (ri_ : Nat) (st_ : Go.Vm.S) => ∃ (a : Nat) (m2 : Nat) (b2 : Nat → Box), (st_ = ⟨mk [(4, .ref (n + 0) 0), (6, .ref (n + 2) 0), (11, .ref (m0 + 0) 0)], m2, b2⟩) ∧ (ri_ = 1 + (256 - a)) ∧ (m0 + 3 ≤ m2) ∧ (∀ k_, k_ < n → k_ ≠ m0 + 0 → b2 k_ = bx k_) ∧ (b2 (n + 0) = .cells [.sc (.bool false)]) ∧ (b2 (n + 1) = .cells [.sl 2 (((ofL l)).map spB)]) ∧ (b2 (n + 2) = .cells (bC (ofR l))) ∧ (b2 (m0 + 0) = .cells [.sc (.int .i64 (a : Int))]) ∧ (b2 (m0 + 1) = .cells [.sl 2 ((ofL l).map spB)]) ∧ (atN (numL (ofL l)) (numL (ofL l)).length ≤ (a : Int)) ∧ (a ≤ 256)) (1 + (256 - (atN (numL (ofL l)) (numL (ofL l)).length).toNat)) ⟨_, sle ?_ (Nat.le_refl _), (atN (numL (ofL l)) (numL (ofL l)).length).toNat, _, _, rfl, rfl, ?_⟩ ?_
          · (repeat' (first | exact trivial | refine ⟨⟨_, rfl, ?_⟩, ?_⟩ | fail)); all_goals (repeat' (first | exact VLe.refl _ | exact VLe.own_sl _ _ _ | exact VLe.fl_sl _ _ | exact VLe.nil_sl _ | exact VLe.nil_fl _ | exact VLes.refl _ | exact .nil | refine VLe.tup ?_ | refine VLe.agg ?_ | refine .cons ?_ ?_ | (rw [Int.natCast_add]; exact VLe.refl _) | exact vle_int (by omega) | exact vle_bool (by first | rfl | assumption | (simp_all; done) | fail) | (rw [← hs0_]; exact VLe.refl _) | (rw [hs0_]; exact VLe.refl _) | fail))
          · exact ⟨by omega, (fun k_ hk_ e0_ => by repeat (first | exact rfl | refine uN (by omega) ?_ | assumption | exact hf0 _ (by omega) | fail)), by first | ((repeat (first | exact uE | assumption | refine uN (by omega) ?_ | fail)); done) | exact tl_eq (by repeat (first | exact uE | assumption | refine uN (by omega) ?_ | fail)) (by first | rfl | (simp [bytesV, beB_len]; done) | (simp [bytesV, beB_len]; omega) | omega) | (rw [← hs0_]; (repeat (first | exact uE | assumption | refine uN (by omega) ?_ | fail)); done), by first | ((repeat (first | exact uE | assumption | refine uN (by omega) ?_ | fail)); done) | exact tl_eq (by repeat (first | exact uE | assumption | refine uN (by omega) ?_ | fail)) (by first | rfl | (simp [bytesV, beB_len]; done) | (simp [bytesV, beB_len]; omega) | omega) | (rw [← hs0_]; (repeat (first | exact uE | assumption | refine uN (by omega) ?_ | fail)); done), by first | ((repeat (first | exact uE | assumption | refine uN (by omega) ?_ | fail)); done) | exact tl_eq (by repeat (first | exact uE | assumption | refine uN (by omega) ?_ | fail)) (by first | rfl | (simp [bytesV, beB_len]; done) | (simp [bytesV, beB_len]; omega) | omega) | (rw [← hs0_]; (repeat (first | exact uE | assumption | refine uN (by omega) ?_ | fail)); done), by first | ((repeat (first | exact uE | assumption | refine uN (by omega) ?_ | fail)); done) | exact tl_eq (by repeat (first | exact uE | assumption | refine uN (by omega) ?_ | fail)) (by first | rfl | (simp [bytesV, beB_len]; done) | (simp [bytesV, beB_len]; omega) | omega) | (rw [← hs0_]; (repeat (first | exact uE | assumption | refine uN (by omega) ?_ | fail)); done), by first | ((repeat (first | exact uE | assumption | refine uN (by omega) ?_ | fail)); done) | exact tl_eq (by repeat (first | exact uE | assumption | refine uN (by omega) ?_ | fail)) (by first | rfl | (simp [bytesV, beB_len]; done) | (simp [bytesV, beB_len]; omega) | omega) | (rw [← hs0_]; (repeat (first | exact uE | assumption | refine uN (by omega) ?_ | fail)); done), by omega, by omega⟩
          · rintro _ _ ⟨a, m2, b2, rfl, rfl, hm2, hf2, hB2_0, hB2_1, hB2_2, hB2_3, hB2_4, hF2_0, hF2_1⟩
            refine runs_know (fun hd2 => ?_)
            refine runs_bump 20 ?_
            simp only at hd2
            refine runs_seq ?_
            refine runs_seq ?_
            refine runs_region ?_
            refine' rl0 (gn rfl) rfl rfl (step_load_one rfl (ev_mk rfl) F.one3 ?hv) ⟨?hb, trivial⟩ ?_
            case hb => repeat (first | exact uE | refine uN (by omega) ?_ | assumption | exact hd _ (by omega) | exact hd0 _ (by omega) | exact hd2 _ (by omega) | fail)
            case hv => rfl
            refine rl_lss (gn rfl) rfl rfl rfl rfl rfl (fun h5 => ?_) (fun h5 => ?_)
            · skip
              refine runsL_nil ?_
              refine runs_cond true (ev_mk rfl) (fun _ => ?_) (fun h_ => nomatch h_)
              refine runs_skip ?_
              refine runs_seq ?_
              refine runs_block ?_
              refine runs_seq ?_
              refine runs_region ?_
              refine' rl0 (gn rfl) rfl rfl (step_load_one rfl (ev_mk rfl) F.one3 ?hv) ⟨?hb, trivial⟩ ?_
              case hb => repeat (first | exact uE | refine uN (by omega) ?_ | assumption | exact hd _ (by omega) | exact hd0 _ (by omega) | exact hd2 _ (by omega) | fail)
              case hv => rfl
              refine rl0 (gn rfl) rfl rfl (step_index_arr rfl (ev_mk rfl) (ev_mk rfl) Try.underlying31 F.sz4 (by omega) (by omega)) trivial ?_
              refine' rl0 (gn rfl) rfl rfl (step_load_one (v := .sc (.bool ((ofR l) (a)))) rfl (ev_mk rfl) F.one4 ?hv) ⟨?hb, trivial⟩ ?_
              case hb => repeat (first | exact uE | refine uN (by omega) ?_ | assumption | exact hd _ (by omega) | exact hd0 _ (by omega) | exact hd2 _ (by omega) | fail)
              case hv => exact bC_q (by omega) (by omega)
              refine rl_know (d := 89) (c := false) rfl ((hen_.2.2 a (by omega) (by omega))) ?_
              refine runsL_nil ?_
              refine runs_cond false (ev_mk rfl) (fun h_ => nomatch h_) (fun _ => ?_)
              refine runs_skip ?_
              refine runs_region ?_
              refine' rl0 (gn rfl) rfl rfl (step_load_one rfl (ev_mk rfl) F.one3 ?hv) ⟨?hb, trivial⟩ ?_
              case hb => repeat (first | exact uE | refine uN (by omega) ?_ | assumption | exact hd _ (by omega) | exact hd0 _ (by omega) | exact hd2 _ (by omega) | fail)
              case hv => rfl
              refine rl0 (gn rfl) rfl rfl (step_add rfl (ev_mk rfl) (ev_mk rfl) (w64 (by omega))) trivial ?_
              refine' rls (gn rfl) rfl (step_store1 rfl rfl rfl rfl F.one3 rfl rfl ?hl ?hc) ⟨?hb, trivial⟩ ?hk ?_
              case hb => repeat (first | exact uE | refine uN (by omega) ?_ | assumption | exact hd _ (by omega) | exact hd0 _ (by omega) | exact hd2 _ (by omega) | fail)
              case hl => first | exact Nat.le_of_ble_eq_true rfl | decide | (simp; done) | (simp; omega) | (first | exact bC_len _ | (simp; done) | (rw [bC_len]; omega) | omega)
              case hc => first | (simp only [List.set_cons_succ, List.set_cons_zero]; rfl) | rfl
              case hk => omega
              refine runsL_nil ?_
              have hq0_ : ((a : Int) + 1) = ((a + 1) : Int) := by omega
              refine ⟨_, _, ?_, sle ?_ (Nat.le_refl _), (a + 1), _, _, rfl, rfl, by omega, (fun k_ hk_ e0_ => by repeat (first | exact hf2 k_ hk_ e0_ | exact hf0 k_ hk_ | exact hf0 k_ hk_ e0_ | refine uN (by first | assumption | omega) ?_ | fail)), by first | ((repeat (first | exact uE | assumption | refine uN (by omega) ?_ | fail)); done) | exact tl_eq (by repeat (first | exact uE | assumption | refine uN (by omega) ?_ | fail)) (by first | rfl | (simp [bytesV, beB_len]; done) | (simp [bytesV, beB_len]; omega) | omega) | (rw [← hq0_]; (repeat (first | exact uE | assumption | refine uN (by omega) ?_ | fail)); done), by first | ((repeat (first | exact uE | assumption | refine uN (by omega) ?_ | fail)); done) | exact tl_eq (by repeat (first | exact uE | assumption | refine uN (by omega) ?_ | fail)) (by first | rfl | (simp [bytesV, beB_len]; done) | (simp [bytesV, beB_len]; omega) | omega) | (rw [← hq0_]; (repeat (first | exact uE | assumption | refine uN (by omega) ?_ | fail)); done), by first | ((repeat (first | exact uE | assumption | refine uN (by omega) ?_ | fail)); done) | exact tl_eq (by repeat (first | exact uE | assumption | refine uN (by omega) ?_ | fail)) (by first | rfl | (simp [bytesV, beB_len]; done) | (simp [bytesV, beB_len]; omega) | omega) | (rw [← hq0_]; (repeat (first | exact uE | assumption | refine uN (by omega) ?_ | fail)); done), by first | ((repeat (first | exact uE | assumption | refine uN (by omega) ?_ | fail)); done) | exact tl_eq (by repeat (first | exact uE | assumption | refine uN (by omega) ?_ | fail)) (by first | rfl | (simp [bytesV, beB_len]; done) | (simp [bytesV, beB_len]; omega) | omega) | (rw [← hq0_]; (repeat (first | exact uE | assumption | refine uN (by omega) ?_ | fail)); done), by first | ((repeat (first | exact uE | assumption | refine uN (by omega) ?_ | fail)); done) | exact tl_eq (by repeat (first | exact uE | assumption | refine uN (by omega) ?_ | fail)) (by first | rfl | (simp [bytesV, beB_len]; done) | (simp [bytesV, beB_len]; omega) | omega) | (rw [← hq0_]; (repeat (first | exact uE | assumption | refine uN (by omega) ?_ | fail)); done), by omega, by omega⟩
              · omega
              · (repeat' (first | exact trivial | refine ⟨⟨_, rfl, ?_⟩, ?_⟩ | fail)); all_goals (repeat' (first | exact VLe.refl _ | exact VLe.own_sl _ _ _ | exact VLe.fl_sl _ _ | exact VLe.nil_sl _ | exact VLe.nil_fl _ | exact VLes.refl _ | exact .nil | refine VLe.tup ?_ | refine VLe.agg ?_ | refine .cons ?_ ?_ | (rw [Int.natCast_add]; exact VLe.refl _) | exact vle_int (by omega) | exact vle_bool (by first | rfl | assumption | (simp_all; done) | fail) | (rw [← hq0_]; exact VLe.refl _) | (rw [hq0_]; exact VLe.refl _) | fail))
            · skip
              refine runsL_nil ?_
              refine runs_cond false (ev_mk rfl) (fun h_ => nomatch h_) (fun _ => ?_)
              refine runs_exit ?_
              refine runs_seq ?_
              refine runs_region ?_
              refine rl0 (gn rfl) rfl rfl (step_callc rfl Try.func6 rfl rfl rfl (hw) (by repeat (first | exact .nil | refine .cons ?_ ?_ | exact VLe.refl _ | refine VLe.agg ?_ | exact VLe.own_sl _ _ _ | exact VLe.fl_sl _ _ | exact VLe.nil_sl _ | exact vle_int (by omega)))) trivial ?_
              refine' rls (gn rfl) rfl (step_store1 rfl rfl rfl rfl F.one4 rfl rfl ?hl ?hc) ⟨?hb, trivial⟩ ?hk ?_
              case hb => repeat (first | exact uE | refine uN (by omega) ?_ | assumption | exact hd _ (by omega) | exact hd0 _ (by omega) | exact hd2 _ (by omega) | fail)
              case hl => first | exact Nat.le_of_ble_eq_true rfl | decide | (simp; done) | (simp; omega) | (first | exact bC_len _ | (simp; done) | (rw [bC_len]; omega) | omega)
              case hc => first | (simp only [List.set_cons_succ, List.set_cons_zero]; rfl) | rfl
              case hk => omega
              refine runsL_nil ?_
              refine runs_ret ?_
              refine ⟨by first | exact .inr rfl | exact .inl rfl, fin_mkg (resc1 rfl (by repeat (first | exact uE | refine uN (by omega) ?_ | assumption | exact hd _ (by omega) | exact hd0 _ (by omega) | exact hd2 _ (by omega) | fail)) F.one4 rfl res0) ?_ ?_ ?_ ?_ ?_⟩
              · (repeat' (first | exact VLe.refl _ | exact VLe.own_sl _ _ _ | exact VLe.fl_sl _ _ | exact VLe.nil_sl _ | exact VLe.nil_fl _ | exact VLes.refl _ | exact .nil | refine VLe.tup ?_ | refine VLe.agg ?_ | refine .cons ?_ ?_ | (rw [Int.natCast_add]; exact VLe.refl _) | exact vle_int (by omega) | exact vle_bool (by first | rfl | assumption | (simp_all; done) | fail) | fail))
              · first | ((repeat (first | exact trivial | exact bd_bCA _ _ | exact bd_bC _ _ | assumption | omega | (refine bdR_map (fun _ => ?_)) | refine ⟨?_, ?_⟩ | fail)); done) | (repeat (first | exact trivial | assumption | omega | (refine bdR_map (fun _ => ?_)) | (refine bdL_map (fun _ => ?_)) | refine ⟨?_, ?_⟩ | fail))
              · intro k_ hk_; exact ble (by repeat (first | exact rfl | refine uN (by omega) ?_ | assumption | exact hf0 _ (by omega) | exact hf2 _ (by omega) (by first | assumption | omega) | fail))
              · intro p hp; cases hp
              · first | ((repeat (first | exact trivial | exact bd_bCA _ _ | exact bd_bC _ _ | assumption | omega | (refine bdR_map (fun _ => ?_)) | refine ⟨?_, ?_⟩ | fail)); done) | (repeat (first | exact trivial | assumption | omega | (refine bdR_map (fun _ => ?_)) | (refine bdL_map (fun _ => ?_)) | refine ⟨?_, ?_⟩ | fail))
set_option maxRecDepth 100000 in
set_option maxHeartbeats 4000000 in
theorem reads_n (l : List Sp) (p : Nat) (hx : ∀ y ∈ l, inM 255 y) (hp : p < 256) (hq : nxB (ofL l) (p : Int) = false) (hw : Does Try.prog 6 [] [] [] (.sc (.bool true))) : Does Try.prog 4 [.sl 2 (l.map spB), .sc (.int .u8 (p : Int))] [] [] (.sc (.bool true)) := by
  refine does_mkr 40 Try.func4 rfl rfl rfl (fun n B bx hd hpre hup hvs hbx hgx hO => ?_)
  refine runs_seq ?_
  refine runs_region ?_
  refine rl1 (gn rfl) rfl rfl (step_allocc (k := n + 0) (zs := [.bool false]) (cs := [.sc (.bool false)]) rfl F.zero4 (by first | rfl | simp) (by first | rfl | decide | simp) (by first | rfl | simp)) ⟨by repeat (first | exact uE | refine uN (by omega) ?_ | assumption | exact hd _ (by omega) | fail), trivial⟩ (by omega) ?_
  refine runsL_nil ?_
  refine runs_seq ?_
  refine runs_seq ?_
  refine runs_region ?_
  refine rl0 (gn rfl) rfl rfl (step_mv rfl rfl) trivial ?_
  refine rl0 (gn rfl) rfl rfl (step_len (m := l.length) rfl rfl (ev_mk rfl) (.inl ⟨⟨_, Try.underlying22⟩, .inl ⟨_, _, .inl rfl, List.length_map _⟩⟩)) trivial ?_
  refine rl_gtr (gn rfl) rfl rfl rfl rfl rfl (fun h1 => ?_) (fun h1 => ?_)
  · skip
    refine runsL_nil ?_
    refine runs_cond true (ev_mk rfl) (fun _ => ?_) (fun h_ => nomatch h_)
    refine runs_seq ?_
    refine runs_region ?_
    refine rl0 (gn rfl) rfl rfl (step_callc rfl Try.func6 rfl rfl rfl (hw) (by repeat (first | exact .nil | refine .cons ?_ ?_ | exact VLe.refl _ | refine VLe.agg ?_ | exact VLe.own_sl _ _ _ | exact VLe.fl_sl _ _ | exact VLe.nil_sl _ | exact vle_int (by omega)))) trivial ?_
    refine' rls (gn rfl) rfl (step_store1 rfl rfl rfl rfl F.one4 rfl rfl ?hl ?hc) ⟨?hb, trivial⟩ ?hk ?_
    case hb => repeat (first | exact uE | refine uN (by omega) ?_ | assumption | exact hd _ (by omega) | fail)
    case hl => first | exact Nat.le_of_ble_eq_true rfl | decide | (simp; done) | (simp; omega) | (first | exact bC_len _ | (simp; done) | (rw [bC_len]; omega) | omega)
    case hc => first | (simp only [List.set_cons_succ, List.set_cons_zero]; rfl) | rfl
    case hk => omega
    refine runsL_nil ?_
    refine runs_ret ?_
    refine ⟨by first | exact .inr rfl | exact .inl rfl, fin_mkg (resc1 rfl (by repeat (first | exact uE | refine uN (by omega) ?_ | assumption | exact hd _ (by omega) | fail)) F.one4 rfl res0) ?_ ?_ ?_ ?_ ?_⟩
    · (repeat' (first | exact VLe.refl _ | exact VLe.own_sl _ _ _ | exact VLe.fl_sl _ _ | exact VLe.nil_sl _ | exact VLe.nil_fl _ | exact VLes.refl _ | exact .nil | refine VLe.tup ?_ | refine VLe.agg ?_ | refine .cons ?_ ?_ | (rw [Int.natCast_add]; exact VLe.refl _) | exact vle_int (by omega) | exact vle_bool (by first | rfl | assumption | (simp_all; done) | fail) | fail))
    · first | ((repeat (first | exact trivial | exact bd_bCA _ _ | exact bd_bC _ _ | assumption | omega | (refine bdR_map (fun _ => ?_)) | refine ⟨?_, ?_⟩ | fail)); done) | (repeat (first | exact trivial | assumption | omega | (refine bdR_map (fun _ => ?_)) | (refine bdL_map (fun _ => ?_)) | refine ⟨?_, ?_⟩ | fail))
    · intro k_ hk_; exact ble (by repeat (first | exact rfl | refine uN (by omega) ?_ | assumption | fail))
    · intro p hp; cases hp
    · first | ((repeat (first | exact trivial | exact bd_bCA _ _ | exact bd_bC _ _ | assumption | omega | (refine bdR_map (fun _ => ?_)) | refine ⟨?_, ?_⟩ | fail)); done) | (repeat (first | exact trivial | assumption | omega | (refine bdR_map (fun _ => ?_)) | (refine bdL_map (fun _ => ?_)) | refine ⟨?_, ?_⟩ | fail))
  · skip
    have hia_ := is_of hx
    have hsa_ := setM_of hx
    have hol_ := of_len l
    have hha_ := has_r hia_ hp
    have hen_ := at_end hia_
    have hge_ := nxB_f hia_ hp hq
    refine runsL_nil ?_
    refine runs_cond false (ev_mk rfl) (fun h_ => nomatch h_) (fun _ => ?_)
    refine runs_skip ?_
    refine runs_seq ?_
    refine runs_region ?_
    refine rl0 (gn rfl) rfl rfl (step_mv rfl rfl) trivial ?_
    refine rl0 (gn rfl) rfl rfl (step_callc rfl Try.func8 rfl rfl rfl (own_c l (by omega)) (by repeat (first | exact .nil | refine .cons ?_ ?_ | exact VLe.refl _ | refine VLe.agg ?_ | exact VLe.own_sl _ _ _ | exact VLe.fl_sl _ _ | exact VLe.nil_sl _ | exact vle_int (by omega)))) trivial ?_
    refine rl0 (gn rfl) rfl rfl (step_callc rfl Try.func7 rfl rfl rfl (of_B l hx (by omega)) (by repeat (first | exact .nil | refine .cons ?_ ?_ | exact VLe.refl _ | refine VLe.agg ?_ | exact VLe.own_sl _ _ _ | exact VLe.fl_sl _ _ | exact VLe.nil_sl _ | exact vle_int (by omega)))) trivial ?_
    refine rl1 (gn rfl) rfl rfl (step_allocc (k := n + 1) (zs := [.slice none 0 0]) (cs := [.sc (.slice none 0 0)]) rfl F.zero28 (by first | rfl | simp) (by first | rfl | decide | simp) (by first | rfl | simp)) ⟨by repeat (first | exact uE | refine uN (by omega) ?_ | assumption | exact hd _ (by omega) | fail), trivial⟩ (by omega) ?_
    refine' rls (gn rfl) rfl (step_storeA rfl rfl rfl rfl F.agg28 ?hm ?hl) ⟨?hb, trivial⟩ ?hk ?_
    case hb => repeat (first | exact uE | refine uN (by omega) ?_ | assumption | exact hd _ (by omega) | fail)
    case hm => first | rfl | (simp; done) | (first | exact bC_len _ | (simp; done) | (rw [bC_len]; omega) | omega)
    case hl => first | rfl | (simp; done) | (first | exact bC_len _ | (simp; done) | (rw [bC_len]; omega) | omega)
    case hk => omega
    refine runsL_nil ?_
    refine runs_seq ?_
    refine runs_region ?_
    refine rl0 (gn rfl) rfl rfl (step_mv rfl rfl) trivial ?_
    refine rl0 (gn rfl) rfl rfl (step_callc rfl Try.func9 rfl rfl rfl (rof_c l (by omega) hx) (by repeat (first | exact .nil | refine .cons ?_ ?_ | exact VLe.refl _ | refine VLe.agg ?_ | exact VLe.own_sl _ _ _ | exact VLe.fl_sl _ _ | exact VLe.nil_sl _ | exact vle_int (by omega)))) trivial ?_
    refine rl1 (gn rfl) rfl rfl (step_allocc (k := n + 2) (zs := (List.replicate 256 (.bool false))) (cs := List.replicate 256 (.sc (.bool false))) rfl F.zero31 (by first | rfl | simp) (by first | rfl | decide | simp) (by first | rfl | simp)) ⟨by repeat (first | exact uE | refine uN (by omega) ?_ | assumption | exact hd _ (by omega) | fail), trivial⟩ (by omega) ?_
    refine' rls (gn rfl) rfl (step_storeA rfl rfl rfl rfl F.agg31 ?hm ?hl) ⟨?hb, trivial⟩ ?hk ?_
    case hb => repeat (first | exact uE | refine uN (by omega) ?_ | assumption | exact hd _ (by omega) | fail)
    case hm => first | rfl | (simp; done) | (first | exact bC_len _ | (simp; done) | (rw [bC_len]; omega) | omega)
    case hl => first | rfl | (simp; done) | (first | exact bC_len _ | (simp; done) | (rw [bC_len]; omega) | omega)
    case hk => omega
    refine runsL_nil ?_
    refine runs_seq ?_
    refine runs_region ?_
    refine rl0 (gn rfl) rfl rfl (step_as rfl rfl) trivial ?_
    refine runsL_nil ?_
    refine runs_seq ?_
    refine runs_seq ?_
    refine runs_region ?_
    refine rl0 (gn rfl) rfl rfl (step_as rfl rfl) trivial ?_
    refine runsL_nil ?_
    refine runs_block ?_
    have hs0_ : 256 = ((nxF (ofR l) 0 : Nat) : Int) := by rfl
    refine runs_loop (fun (ri_ : Nat) (st_ : Go.Vm.S) => ∃ (f : Nat) (m0 : Nat) (b0 : Nat → Box), (st_ = ⟨mk [(1, .sc (.int .u8 (p : Int))), (4, .ref (n + 0) 0), (5, .ref (n + 1) 0), (6, .ref (n + 2) 0), (7, .sc (.int .i64 ((nxF (ofR l) f : Nat) : Int))), (8, .sc (.int .i64 (255 - (f : Int))))], m0, b0⟩) ∧ (ri_ = 1 + (256 - f)) ∧ (n + 3 ≤ m0) ∧ (∀ k_, k_ < n → b0 k_ = bx k_) ∧ (b0 (n + 0) = .cells [.sc (.bool false)]) ∧ (b0 (n + 1) = .cells [.sl 2 (((ofL l)).map spB)]) ∧ (b0 (n + 2) = .cells (bC (ofR l))) ∧ (f ≤ 256 - p)) (1 + (256 - 0)) ⟨_, sle ?_ (Nat.le_refl _), 0, _, _, rfl, rfl, ?_⟩ ?_
    · (repeat' (first | exact trivial | refine ⟨⟨_, rfl, ?_⟩, ?_⟩ | fail)); all_goals (repeat' (first | exact VLe.refl _ | exact VLe.own_sl _ _ _ | exact VLe.fl_sl _ _ | exact VLe.nil_sl _ | exact VLe.nil_fl _ | exact VLes.refl _ | exact .nil | refine VLe.tup ?_ | refine VLe.agg ?_ | refine .cons ?_ ?_ | (rw [Int.natCast_add]; exact VLe.refl _) | exact vle_int (by omega) | exact vle_bool (by first | rfl | assumption | (simp_all; done) | fail) | (rw [← hs0_]; exact VLe.refl _) | (rw [hs0_]; exact VLe.refl _) | fail))
    · exact ⟨by omega, (fun k_ hk_ => by repeat (first | exact rfl | refine uN (by omega) ?_ | assumption | fail)), by first | ((repeat (first | exact uE | assumption | refine uN (by omega) ?_ | fail)); done) | exact tl_eq (by repeat (first | exact uE | assumption | refine uN (by omega) ?_ | fail)) (by first | rfl | (simp [bytesV, beB_len]; done) | (simp [bytesV, beB_len]; omega) | omega) | (rw [← hs0_]; (repeat (first | exact uE | assumption | refine uN (by omega) ?_ | fail)); done), by first | ((repeat (first | exact uE | assumption | refine uN (by omega) ?_ | fail)); done) | exact tl_eq (by repeat (first | exact uE | assumption | refine uN (by omega) ?_ | fail)) (by first | rfl | (simp [bytesV, beB_len]; done) | (simp [bytesV, beB_len]; omega) | omega) | (rw [← hs0_]; (repeat (first | exact uE | assumption | refine uN (by omega) ?_ | fail)); done), by first | ((repeat (first | exact uE | assumption | refine uN (by omega) ?_ | fail)); done) | exact tl_eq (by repeat (first | exact uE | assumption | refine uN (by omega) ?_ | fail)) (by first | rfl | (simp [bytesV, beB_len]; done) | (simp [bytesV, beB_len]; omega) | omega) | (rw [← hs0_]; (repeat (first | exact uE | assumption | refine uN (by omega) ?_ | fail)); done), by omega⟩
    · rintro _ _ ⟨f, m0, b0, rfl, rfl, hm0, hf0, hB0_0, hB0_1, hB0_2, hF0_0⟩
      refine runs_know (fun hd0 => ?_)
      refine runs_bump 20 ?_
      simp only at hd0
      refine runs_seq ?_
      refine runs_seq ?_
      refine runs_region ?_
      refine rl0 (gn rfl) rfl rfl (step_mv rfl rfl) trivial ?_
      refine rl0 (gn rfl) rfl rfl (step_mv rfl rfl) trivial ?_
      refine rl0 (gn rfl) rfl rfl (step_conv_id rfl rfl Try.underlying5 Try.underlying3 (w64 (by omega))) trivial ?_
      refine rl_geq (gn rfl) rfl rfl rfl rfl rfl (fun h2 => ?_) (fun h2 => ?_)
      · skip
        refine runsL_nil ?_
        refine runs_cond true (ev_mk rfl) (fun _ => ?_) (fun h_ => nomatch h_)
        refine runs_skip ?_
        refine runs_seq ?_
        refine runs_block ?_
        refine runs_seq ?_
        refine runs_region ?_
        refine rl0 (gn rfl) rfl rfl (step_mv rfl rfl) trivial ?_
        refine rl0 (gn rfl) rfl rfl (step_index_arr rfl (ev_mk rfl) (ev_mk rfl) Try.underlying31 F.sz4 (by omega) (by omega)) trivial ?_
        refine' rl0 (gn rfl) rfl rfl (step_load_one (v := .sc (.bool ((ofR l) (255 - f)))) rfl (ev_mk rfl) F.one4 ?hv) ⟨?hb, trivial⟩ ?_
        case hb => repeat (first | exact uE | refine uN (by omega) ?_ | assumption | exact hd _ (by omega) | exact hd0 _ (by omega) | fail)
        case hv => exact bC_q (by omega) (by omega)
        refine runsL_nil ?_
        refine runs_cond _ (ev_mk rfl) (fun h3 => ?_) (fun h3 => ?_)
        · skip
          have hnx_ := nx_y (r := (ofR l)) (f := f) h3
          refine runs_region ?_
          refine rl0 (gn rfl) rfl rfl (step_mv rfl rfl) trivial ?_
          refine rl0 (gn rfl) rfl rfl (step_as rfl rfl) trivial ?_
          refine runsL_nil ?_
          refine runs_region ?_
          refine rl0 (gn rfl) rfl rfl (step_mv rfl rfl) trivial ?_
          refine rl0 (gn rfl) rfl rfl (step_sub rfl (ev_mk rfl) (ev_mk rfl) (w64 (by omega))) trivial ?_
          refine rl0 (gn rfl) rfl rfl (step_as rfl rfl) trivial ?_
          refine runsL_nil ?_
          have hq0_ : (255 - (f : Int)) = ((nxF (ofR l) (f + 1) : Nat) : Int) := by omega
          have hq1_ : ((255 - (f : Int)) - 1) = (255 - ((f + 1) : Int)) := by omega
          refine ⟨_, _, ?_, sle ?_ (Nat.le_refl _), (f + 1), _, _, rfl, rfl, by omega, (fun k_ hk_ => by repeat (first | exact hf0 k_ hk_ | refine uN (by first | assumption | omega) ?_ | fail)), by first | ((repeat (first | exact uE | assumption | refine uN (by omega) ?_ | fail)); done) | exact tl_eq (by repeat (first | exact uE | assumption | refine uN (by omega) ?_ | fail)) (by first | rfl | (simp [bytesV, beB_len]; done) | (simp [bytesV, beB_len]; omega) | omega) | (rw [← hq0_]; (repeat (first | exact uE | assumption | refine uN (by omega) ?_ | fail)); done) | (rw [← hq1_]; (repeat (first | exact uE | assumption | refine uN (by omega) ?_ | fail)); done) | (rw [← hq0_, ← hq1_]; (repeat (first | exact uE | assumption | refine uN (by omega) ?_ | fail)); done), by first | ((repeat (first | exact uE | assumption | refine uN (by omega) ?_ | fail)); done) | exact tl_eq (by repeat (first | exact uE | assumption | refine uN (by omega) ?_ | fail)) (by first | rfl | (simp [bytesV, beB_len]; done) | (simp [bytesV, beB_len]; omega) | omega) | (rw [← hq0_]; (repeat (first | exact uE | assumption | refine uN (by omega) ?_ | fail)); done) | (rw [← hq1_]; (repeat (first | exact uE | assumption | refine uN (by omega) ?_ | fail)); done) | (rw [← hq0_, ← hq1_]; (repeat (first | exact uE | assumption | refine uN (by omega) ?_ | fail)); done), by first | ((repeat (first | exact uE | assumption | refine uN (by omega) ?_ | fail)); done) | exact tl_eq (by repeat (first | exact uE | assumption | refine uN (by omega) ?_ | fail)) (by first | rfl | (simp [bytesV, beB_len]; done) | (simp [bytesV, beB_len]; omega) | omega) | (rw [← hq0_]; (repeat (first | exact uE | assumption | refine uN (by omega) ?_ | fail)); done) | (rw [← hq1_]; (repeat (first | exact uE | assumption | refine uN (by omega) ?_ | fail)); done) | (rw [← hq0_, ← hq1_]; (repeat (first | exact uE | assumption | refine uN (by omega) ?_ | fail)); done), by omega⟩
          · omega
          · (repeat' (first | exact trivial | refine ⟨⟨_, rfl, ?_⟩, ?_⟩ | fail)); all_goals (repeat' (first | exact VLe.refl _ | exact VLe.own_sl _ _ _ | exact VLe.fl_sl _ _ | exact VLe.nil_sl _ | exact VLe.nil_fl _ | exact VLes.refl _ | exact .nil | refine VLe.tup ?_ | refine VLe.agg ?_ | refine .cons ?_ ?_ | (rw [Int.natCast_add]; exact VLe.refl _) | exact vle_int (by omega) | exact vle_bool (by first | rfl | assumption | (simp_all; done) | fail) | (rw [← hq0_]; exact VLe.refl _) | (rw [hq0_]; exact VLe.refl _) | (rw [← hq1_]; exact VLe.refl _) | (rw [hq1_]; exact VLe.refl _) | fail))
        · skip
          have hnx_ := nx_n (r := (ofR l)) (f := f) h3
          refine runs_skip ?_
          refine runs_region ?_
          refine rl0 (gn rfl) rfl rfl (step_mv rfl rfl) trivial ?_
          refine rl0 (gn rfl) rfl rfl (step_sub rfl (ev_mk rfl) (ev_mk rfl) (w64 (by omega))) trivial ?_
          refine rl0 (gn rfl) rfl rfl (step_as rfl rfl) trivial ?_
          refine runsL_nil ?_
          have hq0_ : ((nxF (ofR l) f : Nat) : Int) = ((nxF (ofR l) (f + 1) : Nat) : Int) := by omega
          have hq1_ : ((255 - (f : Int)) - 1) = (255 - ((f + 1) : Int)) := by omega
          refine ⟨_, _, ?_, sle ?_ (Nat.le_refl _), (f + 1), _, _, rfl, rfl, by omega, (fun k_ hk_ => by repeat (first | exact hf0 k_ hk_ | refine uN (by first | assumption | omega) ?_ | fail)), by first | ((repeat (first | exact uE | assumption | refine uN (by omega) ?_ | fail)); done) | exact tl_eq (by repeat (first | exact uE | assumption | refine uN (by omega) ?_ | fail)) (by first | rfl | (simp [bytesV, beB_len]; done) | (simp [bytesV, beB_len]; omega) | omega) | (rw [← hq0_]; (repeat (first | exact uE | assumption | refine uN (by omega) ?_ | fail)); done) | (rw [← hq1_]; (repeat (first | exact uE | assumption | refine uN (by omega) ?_ | fail)); done) | (rw [← hq0_, ← hq1_]; (repeat (first | exact uE | assumption | refine uN (by omega) ?_ | fail)); done), by first | ((repeat (first | exact uE | assumption | refine uN (by omega) ?_ | fail)); done) | exact tl_eq (by repeat (first | exact uE | assumption | refine uN (by omega) ?_ | fail)) (by first | rfl | (simp [bytesV, beB_len]; done) | (simp [bytesV, beB_len]; omega) | omega) | (rw [← hq0_]; (repeat (first | exact uE | assumption | refine uN (by omega) ?_ | fail)); done) | (rw [← hq1_]; (repeat (first | exact uE | assumption | refine uN (by omega) ?_ | fail)); done) | (rw [← hq0_, ← hq1_]; (repeat (first | exact uE | assumption | refine uN (by omega) ?_ | fail)); done), by first | ((repeat (first | exact uE | assumption | refine uN (by omega) ?_ | fail)); done) | exact tl_eq (by repeat (first | exact uE | assumption | refine uN (by omega) ?_ | fail)) (by first | rfl | (simp [bytesV, beB_len]; done) | (simp [bytesV, beB_len]; omega) | omega) | (rw [← hq0_]; (repeat (first | exact uE | assumption | refine uN (by omega) ?_ | fail)); done) | (rw [← hq1_]; (repeat (first | exact uE | assumption | refine uN (by omega) ?_ | fail)); done) | (rw [← hq0_, ← hq1_]; (repeat (first | exact uE | assumption | refine uN (by omega) ?_ | fail)); done), by omega⟩
          · omega
          · (repeat' (first | exact trivial | refine ⟨⟨_, rfl, ?_⟩, ?_⟩ | fail)); all_goals (repeat' (first | exact VLe.refl _ | exact VLe.own_sl _ _ _ | exact VLe.fl_sl _ _ | exact VLe.nil_sl _ | exact VLe.nil_fl _ | exact VLes.refl _ | exact .nil | refine VLe.tup ?_ | refine VLe.agg ?_ | refine .cons ?_ ?_ | (rw [Int.natCast_add]; exact VLe.refl _) | exact vle_int (by omega) | exact vle_bool (by first | rfl | assumption | (simp_all; done) | fail) | (rw [← hq0_]; exact VLe.refl _) | (rw [hq0_]; exact VLe.refl _) | (rw [← hq1_]; exact VLe.refl _) | (rw [hq1_]; exact VLe.refl _) | fail))
      · skip
        obtain rfl : f = (256 - p) := by omega
        refine runsL_nil ?_
        refine runs_cond false (ev_mk rfl) (fun h_ => nomatch h_) (fun _ => ?_)
        refine runs_exit ?_
        refine runs_seq ?_
        refine runs_region ?_
        refine' rl0 (gn rfl) rfl rfl (step_load_all rfl rfl F.agg28 ?hl) ⟨?hb, trivial⟩ ?_
        case hb => repeat (first | exact uE | refine uN (by omega) ?_ | assumption | exact hd _ (by omega) | exact hd0 _ (by omega) | fail)
        case hl => first | rfl | (simp; done) | (first | exact bC_len _ | (simp; done) | (rw [bC_len]; omega) | omega)
        refine rl0 (gn rfl) rfl rfl (step_mv rfl rfl) trivial ?_
        refine rl0 (gn rfl) rfl rfl (step_callc rfl Try.func20 rfl rfl rfl (next_B (ofL l) hsa_ (by omega) (p : Int)) (by repeat (first | exact .nil | refine .cons ?_ ?_ | exact VLe.refl _ | refine VLe.agg ?_ | exact VLe.own_sl _ _ _ | exact VLe.fl_sl _ _ | exact VLe.nil_sl _ | exact vle_int (by omega)))) trivial ?_
        refine rl0 (gn rfl) rfl rfl (step_mv rfl rfl) trivial ?_
        refine rl0 (gn rfl) rfl rfl (step_extract rfl (ev_mk rfl) rfl) trivial ?_
        refine rl0 (gn rfl) rfl rfl (step_extract rfl (ev_mk rfl) rfl) trivial ?_
        refine rl_know (d := 38) (c := false) rfl (hq) ?_
        refine rl0 (gn rfl) rfl rfl (step_as rfl rfl) trivial ?_
        refine rl0 (gn rfl) rfl rfl (step_as rfl rfl) trivial ?_
        refine runsL_nil ?_
        refine runs_seq ?_
        refine runs_seq ?_
        refine runs_draw (by kernel_rfl) (by kernel_rfl) (by kernel_rfl) ?_
        refine' dl0 (gn rfl) rfl rfl (step_load_all rfl rfl F.agg28 ?hl) ⟨?hb, trivial⟩ ?_
        case hb => repeat (first | exact uE | refine uN (by omega) ?_ | assumption | exact hd _ (by omega) | exact hd0 _ (by omega) | fail)
        case hl => first | rfl | (simp; done) | (first | exact bC_len _ | (simp; done) | (rw [bC_len]; omega) | omega)
        refine dl0 (gn rfl) rfl rfl (step_mv rfl rfl) trivial ?_
        refine dl0 (gn rfl) rfl rfl (step_callc rfl Try.func21 rfl rfl rfl (has_B (ofL l) hsa_ (by omega) (p : Int)) (by repeat (first | exact .nil | refine .cons ?_ ?_ | exact VLe.refl _ | refine VLe.agg ?_ | exact VLe.own_sl _ _ _ | exact VLe.fl_sl _ _ | exact VLe.nil_sl _ | exact vle_int (by omega)))) trivial ?_
        refine dl0 (gn rfl) rfl rfl (step_mv rfl rfl) trivial ?_
        refine dl0 (gn rfl) rfl rfl (step_index_arr rfl (ev_mk rfl) (ev_mk rfl) Try.underlying31 F.sz4 (by omega) (by omega)) trivial ?_
        refine' dl0 (gn rfl) rfl rfl (step_load_one (v := .sc (.bool ((ofR l) (p)))) rfl (ev_mk rfl) F.one4 ?hv) ⟨?hb, trivial⟩ ?_
        case hb => repeat (first | exact uE | refine uN (by omega) ?_ | assumption | exact hd _ (by omega) | exact hd0 _ (by omega) | fail)
        case hv => exact bC_q (by omega) (by omega)
        refine dl0 (gn rfl) rfl rfl (step_neqb rfl (ev_mk rfl) (ev_mk rfl) Try.underlying4) trivial ?_
        refine dl_know (d := 45) (c := false) rfl ((by rw [hha_]; simp)) ?_
        refine dl0 (gn rfl) rfl rfl (step_mv rfl rfl) trivial ?_
        refine dl0 (gy rfl rfl rfl rfl rfl rfl) rfl rfl (step_mv rfl rfl) trivial ?_
        refine dl0 (gy rfl rfl rfl rfl rfl rfl) rfl rfl (step_mv rfl rfl) trivial ?_
        refine dl_lss (gy rfl rfl rfl rfl rfl rfl) rfl rfl rfl rfl rfl (fun h3 => ?_) (fun h3 => ?_)
        · exact False.elim (by omega)
        refine dl0 (gy rfl rfl rfl rfl rfl rfl) rfl rfl (step_binOp (c := .bool false) rfl (ev_mk rfl) (ev_mk rfl) (fun _ => rfl)) trivial ?_
        refine dl0 (gn rfl) rfl rfl (step_pick rfl (ev_mk rfl) (ev_mk rfl)) trivial ?_
        refine dl0 (gn rfl) rfl rfl (step_mv rfl rfl) trivial ?_
        refine dl0 (gy rfl rfl rfl rfl rfl rfl) rfl rfl (step_mv rfl rfl) trivial ?_
        refine dl0 (gy rfl rfl rfl rfl rfl rfl) rfl rfl (step_mv rfl rfl) trivial ?_
        refine dlk rfl rfl rfl rfl rfl (ngb rfl rfl) rfl rfl ?_
        refine dlk rfl rfl rfl rfl rfl (ngb rfl rfl) rfl rfl ?_
        refine dlk rfl rfl rfl rfl rfl (ngb rfl rfl) rfl rfl ?_
        refine dlk rfl rfl rfl rfl rfl (ngb rfl rfl) rfl rfl ?_
        refine dl0 (gy rfl rfl rfl rfl rfl rfl) rfl rfl (step_pick rfl (ev_mk rfl) (ev_mk rfl)) trivial ?_
        refine dl0 (gn rfl) rfl rfl (step_pick rfl (ev_mk rfl) (ev_mk rfl)) trivial ?_
        refine dlnil ?_ ?_
        · repeat' (first | exact trivial | exact .inr (ap0 _ _ _ _) | exact .inr (ap2 _ _ _ _) | exact .inr (ap3 _ _ _ _) | exact .inr ⟨by first | (simp; done) | (simp; omega), by first | (simp; done) | (simp; omega)⟩ | exact .inl (by kernel_rfl) | refine ⟨?_, ?_⟩ | fail)
        refine runs_cond false (ev_mk rfl) (fun h_ => nomatch h_) (fun _ => ?_)
        refine runs_skip ?_
        refine runs_seq ?_
        refine runs_region ?_
        refine rl1 (gn rfl) rfl rfl (step_allocc (k := m0 + 0) (zs := [.int .i64 0]) (cs := [.sc (.int .i64 0)]) rfl F.zero3 (by first | rfl | simp) (by first | rfl | decide | simp) (by first | rfl | simp)) ⟨by repeat (first | exact uE | refine uN (by omega) ?_ | assumption | exact hd _ (by omega) | exact hd0 _ (by omega) | fail), trivial⟩ (by omega) ?_
        refine' rls (gn rfl) rfl (step_store1 rfl rfl rfl rfl F.one3 rfl rfl ?hl ?hc) ⟨?hb, trivial⟩ ?hk ?_
        case hb => repeat (first | exact uE | refine uN (by omega) ?_ | assumption | exact hd _ (by omega) | exact hd0 _ (by omega) | fail)
        case hl => first | exact Nat.le_of_ble_eq_true rfl | decide | (simp; done) | (simp; omega) | (first | exact bC_len _ | (simp; done) | (rw [bC_len]; omega) | omega)
        case hc => first | (simp only [List.set_cons_succ, List.set_cons_zero]; rfl) | rfl
        case hk => omega
        refine runsL_nil ?_
        refine runs_seq ?_
        refine runs_region ?_
        refine' rl0 (gn rfl) rfl rfl (step_load_all rfl rfl F.agg28 ?hl) ⟨?hb, trivial⟩ ?_
        case hb => repeat (first | exact uE | refine uN (by omega) ?_ | assumption | exact hd _ (by omega) | exact hd0 _ (by omega) | fail)
        case hl => first | rfl | (simp; done) | (first | exact bC_len _ | (simp; done) | (rw [bC_len]; omega) | omega)
        refine rl1 (gn rfl) rfl rfl (step_callc rfl Try.func22 rfl rfl rfl (all_c (ofL l) (kk := (m0 + 1))) (by repeat (first | exact .nil | refine .cons ?_ ?_ | exact VLe.refl _ | refine VLe.agg ?_ | exact VLe.own_sl _ _ _ | exact VLe.fl_sl _ _ | exact VLe.nil_sl _ | exact vle_int (by omega)))) ⟨by repeat (first | exact uE | refine uN (by omega) ?_ | assumption | exact hd _ (by omega) | exact hd0 _ (by omega) | fail), trivial⟩ (by omega) ?_
        refine rl0 (gn rfl) rfl rfl (step_as rfl rfl) trivial ?_
        refine runsL_nil ?_
        refine runs_seq ?_
        refine runs_seq ?_
        refine runs_region ?_
        refine rl0 (gn rfl) rfl rfl (step_mv rfl rfl) trivial ?_
        refine rl0 (gn rfl) rfl rfl (step_eq_nilf (b := false) rfl (ev_mk rfl) (ev_mk rfl) Try.underlying46 ⟨_, .inl ⟨.inl ⟨_, _, rfl⟩, rfl⟩, .inl ⟨rfl, rfl⟩⟩) trivial ?_
        refine runsL_nil ?_
        refine runs_cond false (ev_mk rfl) (fun h_ => nomatch h_) (fun _ => ?_)
        refine runs_skip ?_
        refine runs_seq ?_
        refine runs_seq ?_
        refine runs_region ?_
        refine rl0 (gn rfl) rfl rfl (step_mv rfl rfl) trivial ?_
        refine runsL_nil ?_
        refine runs_block ?_
        refine runs_rangeL (f := 38) (caps := [.ref (m0 + 1) 0]) (xs := (numL (ofL l)).map nuR) (Dl := [(m0 + 0, fun i60 => .cells [.sc (.int .i64 (atN (numL (ofL l)) i60))])]) (El := [(m0 + 1, .cells [.sl 2 ((ofL l).map spB)], fun m_ b_ => .cells [.sl 2 ((ofL l).map spB)])]) (kl := m0 + 2) (m := (numL (ofL l)).length) (brk := false) (ex := .normal) hO rfl (.inl rfl) Try.func38 rfl rfl (all_i (ofL l) hsa_ (by omega)) (by repeat (first | exact uE | refine uN (by omega) ?_ | assumption | exact hd _ (by omega) | exact hd0 _ (by omega) | fail)) (by omega) ((by rw [List.length_map]; exact Nat.le_refl _)) (fun h_ => nomatch h_) (fun _ => ⟨by rw [List.length_map], rfl⟩) (fun v_ hv_ => by obtain ⟨_, _, rfl⟩ := List.mem_map.1 hv_; rfl) rfl ⟨trivial, trivial⟩ ⟨⟨by dsimp only; omega, by dsimp only; omega, ⟨by dsimp only; omega, trivial⟩, by dsimp only; (first | ((repeat (first | exact uE | assumption | refine uN (by omega) ?_ | fail)); done) | (refine Eq.trans (b := .cells [.sc (.int .i64 0)]) (by repeat (first | exact uE | assumption | refine uN (by omega) ?_ | fail)) ?_; first | rfl | (simp; done)))⟩, trivial⟩ ⟨⟨by dsimp only; omega, by dsimp only; omega, by dsimp only; repeat (first | exact uE | refine uN (by omega) ?_ | assumption | exact hd _ (by omega) | exact hd0 _ (by omega) | fail)⟩, trivial⟩ (fun i60 => ⟨bdb_cells (by first | ((repeat (first | exact trivial | exact bd_bCA _ _ | exact bd_bC _ _ | assumption | omega | (refine bdR_map (fun _ => ?_)) | refine ⟨?_, ?_⟩ | fail)); done) | (repeat (first | exact trivial | assumption | omega | (refine bdR_map (fun _ => ?_)) | (refine bdL_map (fun _ => ?_)) | refine ⟨?_, ?_⟩ | fail))), trivial⟩) ⟨bdb_cells (by first | ((repeat (first | exact trivial | exact bd_bCA _ _ | exact bd_bC _ _ | assumption | omega | (refine bdR_map (fun _ => ?_)) | refine ⟨?_, ?_⟩ | fail)); done) | (repeat (first | exact trivial | assumption | omega | (refine bdR_map (fun _ => ?_)) | (refine bdL_map (fun _ => ?_)) | refine ⟨?_, ?_⟩ | fail))), trivial⟩ ?_ ?_
        · intro i60 v60 hi60 hv60 B60 n60 lr60 bx60 hR60 hl60 hk60 ho60 he60 hn60 hd60 hD60 hfr60
          have hf60 : ∀ k_, k_ < _ → k_ ≠ m0 + 0 → k_ ≠ m0 + 1 → k_ ≠ m0 + 2 → bx60 k_ = _ := fun k_ a_ e0_ e1_ e2_ => hfr60 k_ a_ ⟨e0_, e1_, trivial⟩ e2_
          have hb60_0 : bx60 (m0 + 0) = .cells [.sc (.int .i64 (atN (numL (ofL l)) i60))] := hD60.1
          have hc60_0 : bx60 (n + 0) = .cells [.sc (.bool false)] := (hf60 _ (by omega) (by omega) (by omega) (by omega)).trans (by repeat (first | exact uE | refine uN (by omega) ?_ | assumption | exact hd _ (by omega) | exact hd0 _ (by omega) | fail))
          have hc60_1 : bx60 (n + 1) = .cells [.sl 2 (((ofL l)).map spB)] := (hf60 _ (by omega) (by omega) (by omega) (by omega)).trans (by repeat (first | exact uE | refine uN (by omega) ?_ | assumption | exact hd _ (by omega) | exact hd0 _ (by omega) | fail))
          have hc60_2 : bx60 (n + 2) = .cells (bC (ofR l)) := (hf60 _ (by omega) (by omega) (by omega) (by omega)).trans (by repeat (first | exact uE | refine uN (by omega) ?_ | assumption | exact hd _ (by omega) | exact hd0 _ (by omega) | fail))
          obtain ⟨t60, ht60, rfl⟩ := map_get hv60
          refine runs_keep (l' := [(66, .sc (.int .u8 t60)), (4, .ref (n + 0) 0), (6, .ref (n + 2) 0), (11, .ref (m0 + 0) 0)]) ?_ ?_
          · (repeat' (first | exact trivial | refine ⟨⟨_, rfl, ?_⟩, ?_⟩ | fail)); all_goals (repeat' (first | exact VLe.refl _ | exact VLe.own_sl _ _ _ | exact VLe.fl_sl _ _ | exact VLe.nil_sl _ | exact VLe.nil_fl _ | exact VLes.refl _ | exact .nil | refine VLe.tup ?_ | refine VLe.agg ?_ | refine .cons ?_ ?_ | (rw [Int.natCast_add]; exact VLe.refl _) | exact vle_int (by omega) | exact vle_bool (by first | rfl | assumption | (simp_all; done) | fail) | fail))
          refine runs_bump 40 ?_
          obtain ⟨hat1_, hat2_, hat3_, hat4_, hat5_⟩ := at_next hia_ ht60
          have hats_ := atN_s ht60
          refine runs_region ?_
          refine rl0 (gn rfl) rfl rfl (step_as rfl rfl) trivial ?_
          refine runsL_nil ?_
          refine ⟨rfl, by first | rfl | (repeat (first | exact uE | refine uN (by omega) ?_ | assumption | exact hd _ (by omega) | exact hd0 _ (by omega) | exact hd60 _ (by omega) | fail)), fun r60 => ?_⟩
          show Runs _ _ _ _ ⟨mk _, _ + _, upd _ _ _⟩ _
          refine runs_block ?_
          refine runs_seq ?_
          refine runs_block ?_
          have hs0_ : atN (numL (ofL l)) i60 = ((atN (numL (ofL l)) i60).toNat : Int) := by omega
          refine runs_loop (fun (ri_ : Nat) (st_ : Go.Vm.S) => ∃ (a : Nat) (m1 : Nat) (b1 : Nat → Box), (st_ = ⟨mk [(4, .ref (n + 0) 0), (6, .ref (n + 2) 0), (11, .ref (m0 + 0) 0), (13, .sc (.int .u8 t60))], m1, b1⟩) ∧ (ri_ = 1 + (256 - a)) ∧ (n60 + 0 ≤ m1) ∧ (∀ k_, k_ < n60 → k_ ≠ m0 + 0 → k_ ≠ m0 + 2 → b1 k_ = bx60 k_) ∧ (b1 (m0 + 0) = .cells [.sc (.int .i64 (a : Int))]) ∧ (b1 (n + 0) = .cells [.sc (.bool false)]) ∧ (b1 (n + 1) = .cells [.sl 2 (((ofL l)).map spB)]) ∧ (b1 (n + 2) = .cells (bC (ofR l))) ∧ (atN (numL (ofL l)) i60 ≤ (a : Int)) ∧ ((a : Int) ≤ t60) ∧ (b1 (m0 + 2) = Box.obj (.loop r60))) (1 + (256 - (atN (numL (ofL l)) i60).toNat)) ⟨_, sle ?_ (Nat.le_refl _), (atN (numL (ofL l)) i60).toNat, _, _, rfl, rfl, ?_⟩ ?_
          · (repeat' (first | exact trivial | refine ⟨⟨_, rfl, ?_⟩, ?_⟩ | fail)); all_goals (repeat' (first | exact VLe.refl _ | exact VLe.own_sl _ _ _ | exact VLe.fl_sl _ _ | exact VLe.nil_sl _ | exact VLe.nil_fl _ | exact VLes.refl _ | exact .nil | refine VLe.tup ?_ | refine VLe.agg ?_ | refine .cons ?_ ?_ | (rw [Int.natCast_add]; exact VLe.refl _) | exact vle_int (by omega) | exact vle_bool (by first | rfl | assumption | (simp_all; done) | fail) | (rw [← hs0_]; exact VLe.refl _) | (rw [hs0_]; exact VLe.refl _) | fail))
          · exact ⟨by omega, (fun k_ hk_ e0_ e1_ => by repeat (first | exact rfl | refine uN (by omega) ?_ | assumption | exact hf0 _ (by omega) | exact hf60 _ (by omega) (by first | assumption | omega) (by first | assumption | omega) (by first | assumption | omega) | fail)), by first | ((repeat (first | exact uE | assumption | refine uN (by omega) ?_ | fail)); done) | exact tl_eq (by repeat (first | exact uE | assumption | refine uN (by omega) ?_ | fail)) (by first | rfl | (simp [bytesV, beB_len]; done) | (simp [bytesV, beB_len]; omega) | omega) | (rw [← hs0_]; (repeat (first | exact uE | assumption | refine uN (by omega) ?_ | fail)); done), by first | ((repeat (first | exact uE | assumption | refine uN (by omega) ?_ | fail)); done) | exact tl_eq (by repeat (first | exact uE | assumption | refine uN (by omega) ?_ | fail)) (by first | rfl | (simp [bytesV, beB_len]; done) | (simp [bytesV, beB_len]; omega) | omega) | (rw [← hs0_]; (repeat (first | exact uE | assumption | refine uN (by omega) ?_ | fail)); done), by first | ((repeat (first | exact uE | assumption | refine uN (by omega) ?_ | fail)); done) | exact tl_eq (by repeat (first | exact uE | assumption | refine uN (by omega) ?_ | fail)) (by first | rfl | (simp [bytesV, beB_len]; done) | (simp [bytesV, beB_len]; omega) | omega) | (rw [← hs0_]; (repeat (first | exact uE | assumption | refine uN (by omega) ?_ | fail)); done), by first | ((repeat (first | exact uE | assumption | refine uN (by omega) ?_ | fail)); done) | exact tl_eq (by repeat (first | exact uE | assumption | refine uN (by omega) ?_ | fail)) (by first | rfl | (simp [bytesV, beB_len]; done) | (simp [bytesV, beB_len]; omega) | omega) | (rw [← hs0_]; (repeat (first | exact uE | assumption | refine uN (by omega) ?_ | fail)); done), by omega, by omega, (by exact uE)⟩
          · rintro _ _ ⟨a, m1, b1, rfl, rfl, hm1, hf1, hB1_0, hB1_1, hB1_2, hB1_3, hF1_0, hF1_1, hF1_2⟩
            refine runs_know (fun hd1 => ?_)
            refine runs_bump 20 ?_
            simp only at hd1
            refine runs_seq ?_
            refine runs_seq ?_
            refine runs_region ?_
            refine' rl0 (gn rfl) rfl rfl (step_load_one rfl (ev_mk rfl) F.one3 ?hv) ⟨?hb, trivial⟩ ?_
            case hb => repeat (first | exact uE | refine uN (by omega) ?_ | assumption | exact hd _ (by omega) | exact hd0 _ (by omega) | exact hd60 _ (by omega) | exact hd1 _ (by omega) | fail)
            case hv => rfl
            refine rl0 (gn rfl) rfl rfl (step_mv rfl rfl) trivial ?_
            refine rl0 (gn rfl) rfl rfl (step_conv_id rfl rfl Try.underlying5 Try.underlying3 (w64 (by omega))) trivial ?_
            refine rl_lss (gn rfl) rfl rfl rfl rfl rfl (fun h4 => ?_) (fun h4 => ?_)
            · skip
              refine runsL_nil ?_
              refine runs_cond true (ev_mk rfl) (fun _ => ?_) (fun h_ => nomatch h_)
              refine runs_skip ?_
              refine runs_block ?_
              refine runs_seq ?_
              refine runs_seq ?_
              refine runs_region ?_
              refine' rl0 (gn rfl) rfl rfl (step_load_one rfl (ev_mk rfl) F.one3 ?hv) ⟨?hb, trivial⟩ ?_
              case hb => repeat (first | exact uE | refine uN (by omega) ?_ | assumption | exact hd _ (by omega) | exact hd0 _ (by omega) | exact hd60 _ (by omega) | exact hd1 _ (by omega) | fail)
              case hv => rfl
              refine rl0 (gn rfl) rfl rfl (step_index_arr rfl (ev_mk rfl) (ev_mk rfl) Try.underlying31 F.sz4 (by omega) (by omega)) trivial ?_
              refine' rl0 (gn rfl) rfl rfl (step_load_one (v := .sc (.bool ((ofR l) (a)))) rfl (ev_mk rfl) F.one4 ?hv) ⟨?hb, trivial⟩ ?_
              case hb => repeat (first | exact uE | refine uN (by omega) ?_ | assumption | exact hd _ (by omega) | exact hd0 _ (by omega) | exact hd60 _ (by omega) | exact hd1 _ (by omega) | fail)
              case hv => exact bC_q (by omega) (by omega)
              refine rl_know (d := 73) (c := false) rfl ((hat5_ a (by omega) (by omega))) ?_
              refine runsL_nil ?_
              refine runs_cond false (ev_mk rfl) (fun h_ => nomatch h_) (fun _ => ?_)
              refine runs_skip ?_
              refine runs_region ?_
              refine' rl0 (gn rfl) rfl rfl (step_load_one rfl (ev_mk rfl) F.one3 ?hv) ⟨?hb, trivial⟩ ?_
              case hb => repeat (first | exact uE | refine uN (by omega) ?_ | assumption | exact hd _ (by omega) | exact hd0 _ (by omega) | exact hd60 _ (by omega) | exact hd1 _ (by omega) | fail)
              case hv => rfl
              refine rl0 (gn rfl) rfl rfl (step_add rfl (ev_mk rfl) (ev_mk rfl) (w64 (by omega))) trivial ?_
              refine' rls (gn rfl) rfl (step_store1 rfl rfl rfl rfl F.one3 rfl rfl ?hl ?hc) ⟨?hb, trivial⟩ ?hk ?_
              case hb => repeat (first | exact uE | refine uN (by omega) ?_ | assumption | exact hd _ (by omega) | exact hd0 _ (by omega) | exact hd60 _ (by omega) | exact hd1 _ (by omega) | fail)
              case hl => first | exact Nat.le_of_ble_eq_true rfl | decide | (simp; done) | (simp; omega) | (first | exact bC_len _ | (simp; done) | (rw [bC_len]; omega) | omega)
              case hc => first | (simp only [List.set_cons_succ, List.set_cons_zero]; rfl) | rfl
              case hk => omega
              refine runsL_nil ?_
              have hq0_ : ((a : Int) + 1) = ((a + 1) : Int) := by omega
              refine ⟨_, _, ?_, sle ?_ (Nat.le_refl _), (a + 1), _, _, rfl, rfl, by omega, (fun k_ hk_ e0_ e1_ => by repeat (first | exact hf1 k_ hk_ e0_ e1_ | exact hf0 k_ hk_ | exact hf60 k_ hk_ | exact hf0 k_ hk_ e0_ e1_ | exact hf60 k_ hk_ e0_ e1_ | refine uN (by first | assumption | omega) ?_ | fail)), by first | ((repeat (first | exact uE | assumption | refine uN (by omega) ?_ | fail)); done) | exact tl_eq (by repeat (first | exact uE | assumption | refine uN (by omega) ?_ | fail)) (by first | rfl | (simp [bytesV, beB_len]; done) | (simp [bytesV, beB_len]; omega) | omega) | (rw [← hq0_]; (repeat (first | exact uE | assumption | refine uN (by omega) ?_ | fail)); done), by first | ((repeat (first | exact uE | assumption | refine uN (by omega) ?_ | fail)); done) | exact tl_eq (by repeat (first | exact uE | assumption | refine uN (by omega) ?_ | fail)) (by first | rfl | (simp [bytesV, beB_len]; done) | (simp [bytesV, beB_len]; omega) | omega) | (rw [← hq0_]; (repeat (first | exact uE | assumption | refine uN (by omega) ?_ | fail)); done), by first | ((repeat (first | exact uE | assumption | refine uN (by omega) ?_ | fail)); done) | exact tl_eq (by repeat (first | exact uE | assumption | refine uN (by omega) ?_ | fail)) (by first | rfl | (simp [bytesV, beB_len]; done) | (simp [bytesV, beB_len]; omega) | omega) | (rw [← hq0_]; (repeat (first | exact uE | assumption | refine uN (by omega) ?_ | fail)); done), by first | ((repeat (first | exact uE | assumption | refine uN (by omega) ?_ | fail)); done) | exact tl_eq (by repeat (first | exact uE | assumption | refine uN (by omega) ?_ | fail)) (by first | rfl | (simp [bytesV, beB_len]; done) | (simp [bytesV, beB_len]; omega) | omega) | (rw [← hq0_]; (repeat (first | exact uE | assumption | refine uN (by omega) ?_ | fail)); done), by omega, by omega, (by repeat (first | assumption | refine uN (by omega) ?_ | fail))⟩
              · omega
              · (repeat' (first | exact trivial | refine ⟨⟨_, rfl, ?_⟩, ?_⟩ | fail)); all_goals (repeat' (first | exact VLe.refl _ | exact VLe.own_sl _ _ _ | exact VLe.fl_sl _ _ | exact VLe.nil_sl _ | exact VLe.nil_fl _ | exact VLes.refl _ | exact .nil | refine VLe.tup ?_ | refine VLe.agg ?_ | refine .cons ?_ ?_ | (rw [Int.natCast_add]; exact VLe.refl _) | exact vle_int (by omega) | exact vle_bool (by first | rfl | assumption | (simp_all; done) | fail) | (rw [← hq0_]; exact VLe.refl _) | (rw [hq0_]; exact VLe.refl _) | fail))
            · skip
              refine runsL_nil ?_
              refine runs_cond false (ev_mk rfl) (fun h_ => nomatch h_) (fun _ => ?_)
              refine runs_exit ?_
              refine runs_seq ?_
              refine runs_seq ?_
              refine runs_region ?_
              refine rl0 (gn rfl) rfl rfl (step_mv rfl rfl) trivial ?_
              refine rl0 (gn rfl) rfl rfl (step_index_arr rfl (ev_mk rfl) (ev_mk rfl) Try.underlying31 F.sz4 (by omega) (by omega)) trivial ?_
              refine' rl0 (gn rfl) rfl rfl (step_load_one (v := .sc (.bool ((ofR l) (t60.toNat)))) rfl (ev_mk rfl) F.one4 ?hv) ⟨?hb, trivial⟩ ?_
              case hb => repeat (first | exact uE | refine uN (by omega) ?_ | assumption | exact hd _ (by omega) | exact hd0 _ (by omega) | exact hd60 _ (by omega) | exact hd1 _ (by omega) | fail)
              case hv => exact bC_q (by omega) (by omega)
              refine rl_know (d := 78) (c := true) rfl (hat2_) ?_
              refine rl0 (gn rfl) rfl rfl (step_unOp (c := .bool false) rfl (ev_mk rfl) (fun _ => rfl)) trivial ?_
              refine runsL_nil ?_
              refine runs_cond false (ev_mk rfl) (fun h_ => nomatch h_) (fun _ => ?_)
              refine runs_skip ?_
              refine runs_region ?_
              refine rl0 (gn rfl) rfl rfl (step_mv rfl rfl) trivial ?_
              refine rl0 (gn rfl) rfl rfl (step_conv_id rfl rfl Try.underlying5 Try.underlying3 (w64 (by omega))) trivial ?_
              refine rl0 (gn rfl) rfl rfl (step_add rfl (ev_mk rfl) (ev_mk rfl) (w64 (by omega))) trivial ?_
              refine' rls (gn rfl) rfl (step_store1 rfl rfl rfl rfl F.one3 rfl rfl ?hl ?hc) ⟨?hb, trivial⟩ ?hk ?_
              case hb => repeat (first | exact uE | refine uN (by omega) ?_ | assumption | exact hd _ (by omega) | exact hd0 _ (by omega) | exact hd60 _ (by omega) | exact hd1 _ (by omega) | fail)
              case hl => first | exact Nat.le_of_ble_eq_true rfl | decide | (simp; done) | (simp; omega) | (first | exact bC_len _ | (simp; done) | (rw [bC_len]; omega) | omega)
              case hc => first | (simp only [List.set_cons_succ, List.set_cons_zero]; rfl) | rfl
              case hk => omega
              refine runsL_nil ?_
              refine ⟨by exact (if_neg (fun h_ => nomatch h_.1)).symm, by repeat (first | exact uE | refine uN (by omega) ?_ | assumption | exact hd _ (by omega) | exact hd0 _ (by omega) | exact hd60 _ (by omega) | exact hd1 _ (by omega) | fail), fun k_ hk_ hl_ => ?_⟩
              simp only [dL, updL, List.map_cons, List.map_nil]; by_cases e0_ : k_ = (m0 + 0); (focus subst e0_; refine bl_eq ?_; first | (refine' blec ?hb ?hl; (case hb => repeat (first | exact uE | assumption | refine uN (by omega) ?_ | fail)); (case hl => first | exact VLes.refl _ | ((repeat' (first | exact VLe.refl _ | exact VLe.own_sl _ _ _ | exact VLe.fl_sl _ _ | exact VLe.nil_sl _ | exact VLe.nil_fl _ | exact VLes.refl _ | exact .nil | refine VLe.tup ?_ | refine VLe.agg ?_ | refine .cons ?_ ?_ | (rw [Int.natCast_add]; exact VLe.refl _) | exact vle_int (by omega) | exact vle_bool (by first | rfl | assumption | (simp_all; done) | fail) | fail)); done))) | (refine ble ?_; (repeat (first | exact uE | assumption | refine uN (by omega) ?_ | fail)); done)); refine bl_ne e0_ ?_; exact ble (by repeat (first | exact rfl | refine uN (by first | assumption | omega) ?_ | assumption | exact hf0 _ (by omega) | exact hf60 _ (by omega) (by first | assumption | omega) (by first | assumption | omega) (by first | assumption | omega) | exact hf1 _ (by omega) (by first | assumption | omega) (by first | assumption | omega) | fail))
        · intro bb60 b60 hb60
          simp only [dL, eM, updL, List.map_cons, List.map_nil] at hb60
          subst hb60
          refine runs_seq ?_
          refine runs_block ?_
          have hs0_ : atN (numL (ofL l)) (numL (ofL l)).length = ((atN (numL (ofL l)) (numL (ofL l)).length).toNat : Int) := by omega
          refine runs_loop (fun (ri_ : Nat) (st_ : Go.Vm.S) => ∃ (a : Nat) (m2 : Nat) (b2 : Nat → Box), (st_ = ⟨mk [(4, .ref (n + 0) 0), (6, .ref (n + 2) 0), (11, .ref (m0 + 0) 0)], m2, b2⟩) ∧ (ri_ = 1 + (256 - a)) ∧ (m0 + 3 ≤ m2) ∧ (∀ k_, k_ < n → k_ ≠ m0 + 0 → b2 k_ = bx k_) ∧ (b2 (n + 0) = .cells [.sc (.bool false)]) ∧ (b2 (n + 1) = .cells [.sl 2 (((ofL l)).map spB)]) ∧ (b2 (n + 2) = .cells (bC (ofR l))) ∧ (b2 (m0 + 0) = .cells [.sc (.int .i64 (a : Int))]) ∧ (b2 (m0 + 1) = .cells [.sl 2 ((ofL l).map spB)]) ∧ (atN (numL (ofL l)) (numL (ofL l)).length ≤ (a : Int)) ∧ (a ≤ 256)) (1 + (256 - (atN (numL (ofL l)) (numL (ofL l)).length).toNat)) ⟨_, sle ?_ (Nat.le_refl _), (atN (numL (ofL l)) (numL (ofL l)).length).toNat, _, _, rfl, rfl, ?_⟩ ?_
          · (repeat' (first | exact trivial | refine ⟨⟨_, rfl, ?_⟩, ?_⟩ | fail)); all_goals (repeat' (first | exact VLe.refl _ | exact VLe.own_sl _ _ _ | exact VLe.fl_sl _ _ | exact VLe.nil_sl _ | exact VLe.nil_fl _ | exact VLes.refl _ | exact .nil | refine VLe.tup ?_ | refine VLe.agg ?_ | refine .cons ?_ ?_ | (rw [Int.natCast_add]; exact VLe.refl _) | exact vle_int (by omega) | exact vle_bool (by first | rfl | assumption | (simp_all; done) | fail) | (rw [← hs0_]; exact VLe.refl _) | (rw [hs0_]; exact VLe.refl _) | fail))
          · exact ⟨by omega, (fun k_ hk_ e0_ => by repeat (first | exact rfl | refine uN (by omega) ?_ | assumption | exact hf0 _ (by omega) | fail)), by first | ((repeat (first | exact uE | assumption | refine uN (by omega) ?_ | fail)); done) | exact tl_eq (by repeat (first | exact uE | assumption | refine uN (by omega) ?_ | fail)) (by first | rfl | (simp [bytesV, beB_len]; done) | (simp [bytesV, beB_len]; omega) | omega) | (rw [← hs0_]; (repeat (first | exact uE | assumption | refine uN (by omega) ?_ | fail)); done), by first | ((repeat (first | exact uE | assumption | refine uN (by omega) ?_ | fail)); done) | exact tl_eq (by repeat (first | exact uE | assumption | refine uN (by omega) ?_ | fail)) (by first | rfl | (simp [bytesV, beB_len]; done) | (simp [bytesV, beB_len]; omega) | omega) | (rw [← hs0_]; (repeat (first | exact uE | assumption | refine uN (by omega) ?_ | fail)); done), by first | ((repeat (first | exact uE | assumption | refine uN (by omega) ?_ | fail)); done) | exact tl_eq (by repeat (first | exact uE | assumption | refine uN (by omega) ?_ | fail)) (by first | rfl | (simp [bytesV, beB_len]; done) | (simp [bytesV, beB_len]; omega) | omega) | (rw [← hs0_]; (repeat (first | exact uE | assumption | refine uN (by omega) ?_ | fail)); done), by first | ((repeat (first | exact uE | assumption | refine uN (by omega) ?_ | fail)); done) | exact tl_eq (by repeat (first | exact uE | assumption | refine uN (by omega) ?_ | fail)) (by first | rfl | (simp [bytesV, beB_len]; done) | (simp [bytesV, beB_len]; omega) | omega) | (rw [← hs0_]; (repeat (first | exact uE | assumption | refine uN (by omega) ?_ | fail)); done), by first | ((repeat (first | exact uE | assumption | refine uN (by omega) ?_ | fail)); done) | exact tl_eq (by repeat (first | exact uE | assumption | refine uN (by omega) ?_ | fail)) (by first | rfl | (simp [bytesV, beB_len]; done) | (simp [bytesV, beB_len]; omega) | omega) | (rw [← hs0_]; (repeat (first | exact uE | assumption | refine uN (by omega) ?_ | fail)); done), by omega, by omega⟩
          · rintro _ _ ⟨a, m2, b2, rfl, rfl, hm2, hf2, hB2_0, hB2_1, hB2_2, hB2_3, hB2_4, hF2_0, hF2_1⟩
            refine runs_know (fun hd2 => ?_)
            refine runs_bump 20 ?_
            simp only at hd2
            refine runs_seq ?_
            refine runs_seq ?_
            refine runs_region ?_
            refine' rl0 (gn rfl) rfl rfl (step_load_one rfl (ev_mk rfl) F.one3 ?hv) ⟨?hb, trivial⟩ ?_
            case hb => repeat (first | exact uE | refine uN (by omega) ?_ | assumption | exact hd _ (by omega) | exact hd0 _ (by omega) | exact hd2 _ (by omega) | fail)
            case hv => rfl
            refine rl_lss (gn rfl) rfl rfl rfl rfl rfl (fun h4 => ?_) (fun h4 => ?_)
            · skip
              refine runsL_nil ?_
              refine runs_cond true (ev_mk rfl) (fun _ => ?_) (fun h_ => nomatch h_)
              refine runs_skip ?_
              refine runs_seq ?_
              refine runs_block ?_
              refine runs_seq ?_
              refine runs_region ?_
              refine' rl0 (gn rfl) rfl rfl (step_load_one rfl (ev_mk rfl) F.one3 ?hv) ⟨?hb, trivial⟩ ?_
              case hb => repeat (first | exact uE | refine uN (by omega) ?_ | assumption | exact hd _ (by omega) | exact hd0 _ (by omega) | exact hd2 _ (by omega) | fail)
              case hv => rfl
              refine rl0 (gn rfl) rfl rfl (step_index_arr rfl (ev_mk rfl) (ev_mk rfl) Try.underlying31 F.sz4 (by omega) (by omega)) trivial ?_
              refine' rl0 (gn rfl) rfl rfl (step_load_one (v := .sc (.bool ((ofR l) (a)))) rfl (ev_mk rfl) F.one4 ?hv) ⟨?hb, trivial⟩ ?_
              case hb => repeat (first | exact uE | refine uN (by omega) ?_ | assumption | exact hd _ (by omega) | exact hd0 _ (by omega) | exact hd2 _ (by omega) | fail)
              case hv => exact bC_q (by omega) (by omega)
              refine rl_know (d := 89) (c := false) rfl ((hen_.2.2 a (by omega) (by omega))) ?_
              refine runsL_nil ?_
              refine runs_cond false (ev_mk rfl) (fun h_ => nomatch h_) (fun _ => ?_)
              refine runs_skip ?_
              refine runs_region ?_
              refine' rl0 (gn rfl) rfl rfl (step_load_one rfl (ev_mk rfl) F.one3 ?hv) ⟨?hb, trivial⟩ ?_
              case hb => repeat (first | exact uE | refine uN (by omega) ?_ | assumption | exact hd _ (by omega) | exact hd0 _ (by omega) | exact hd2 _ (by omega) | fail)
              case hv => rfl
              refine rl0 (gn rfl) rfl rfl (step_add rfl (ev_mk rfl) (ev_mk rfl) (w64 (by omega))) trivial ?_
              refine' rls (gn rfl) rfl (step_store1 rfl rfl rfl rfl F.one3 rfl rfl ?hl ?hc) ⟨?hb, trivial⟩ ?hk ?_
              case hb => repeat (first | exact uE | refine uN (by omega) ?_ | assumption | exact hd _ (by omega) | exact hd0 _ (by omega) | exact hd2 _ (by omega) | fail)
              case hl => first | exact Nat.le_of_ble_eq_true rfl | decide | (simp; done) | (simp; omega) | (first | exact bC_len _ | (simp; done) | (rw [bC_len]; omega) | omega)
              case hc => first | (simp only [List.set_cons_succ, List.set_cons_zero]; rfl) | rfl
              case hk => omega
              refine runsL_nil ?_
              have hq0_ : ((a : Int) + 1) = ((a + 1) : Int) := by omega
              refine ⟨_, _, ?_, sle ?_ (Nat.le_refl _), (a + 1), _, _, rfl, rfl, by omega, (fun k_ hk_ e0_ => by repeat (first | exact hf2 k_ hk_ e0_ | exact hf0 k_ hk_ | exact hf0 k_ hk_ e0_ | refine uN (by first | assumption | omega) ?_ | fail)), by first | ((repeat (first | exact uE | assumption | refine uN (by omega) ?_ | fail)); done) | exact tl_eq (by repeat (first | exact uE | assumption | refine uN (by omega) ?_ | fail)) (by first | rfl | (simp [bytesV, beB_len]; done) | (simp [bytesV, beB_len]; omega) | omega) | (rw [← hq0_]; (repeat (first | exact uE | assumption | refine uN (by omega) ?_ | fail)); done), by first | ((repeat (first | exact uE | assumption | refine uN (by omega) ?_ | fail)); done) | exact tl_eq (by repeat (first | exact uE | assumption | refine uN (by omega) ?_ | fail)) (by first | rfl | (simp [bytesV, beB_len]; done) | (simp [bytesV, beB_len]; omega) | omega) | (rw [← hq0_]; (repeat (first | exact uE | assumption | refine uN (by omega) ?_ | fail)); done), by first | ((repeat (first | exact uE | assumption | refine uN (by omega) ?_ | fail)); done) | exact tl_eq (by repeat (first | exact uE | assumption | refine uN (by omega) ?_ | fail)) (by first | rfl | (simp [bytesV, beB_len]; done) | (simp [bytesV, beB_len]; omega) | omega) | (rw [← hq0_]; (repeat (first | exact uE | assumption | refine uN (by omega) ?_ | fail)); done), by first | ((repeat (first | exact uE | assumption | refine uN (by omega) ?_ | fail)); done) | exact tl_eq (by repeat (first | exact uE | assumption | refine uN (by omega) ?_ | fail)) (by first | rfl | (simp [bytesV, beB_len]; done) | (simp [bytesV, beB_len]; omega) | omega) | (rw [← hq0_]; (repeat (first | exact uE | assumption | refine uN (by omega) ?_ | fail)); done), by first | ((repeat (first | exact uE | assumption | refine uN (by omega) ?_ | fail)); done) | exact tl_eq (by repeat (first | exact uE | assumption | refine uN (by omega) ?_ | fail)) (by first | rfl | (simp [bytesV, beB_len]; done) | (simp [bytesV, beB_len]; omega) | omega) | (rw [← hq0_]; (repeat (first | exact uE | assumption | refine uN (by omega) ?_ | fail)); done), by omega, by omega⟩
              · omega
              · (repeat' (first | exact trivial | refine ⟨⟨_, rfl, ?_⟩, ?_⟩ | fail)); all_goals (repeat' (first | exact VLe.refl _ | exact VLe.own_sl _ _ _ | exact VLe.fl_sl _ _ | exact VLe.nil_sl _ | exact VLe.nil_fl _ | exact VLes.refl _ | exact .nil | refine VLe.tup ?_ | refine VLe.agg ?_ | refine .cons ?_ ?_ | (rw [Int.natCast_add]; exact VLe.refl _) | exact vle_int (by omega) | exact vle_bool (by first | rfl | assumption | (simp_all; done) | fail) | (rw [← hq0_]; exact VLe.refl _) | (rw [hq0_]; exact VLe.refl _) | fail))
            · skip
              refine runsL_nil ?_
              refine runs_cond false (ev_mk rfl) (fun h_ => nomatch h_) (fun _ => ?_)
              refine runs_exit ?_
              refine runs_seq ?_
              refine runs_region ?_
              refine rl0 (gn rfl) rfl rfl (step_callc rfl Try.func6 rfl rfl rfl (hw) (by repeat (first | exact .nil | refine .cons ?_ ?_ | exact VLe.refl _ | refine VLe.agg ?_ | exact VLe.own_sl _ _ _ | exact VLe.fl_sl _ _ | exact VLe.nil_sl _ | exact vle_int (by omega)))) trivial ?_
              refine' rls (gn rfl) rfl (step_store1 rfl rfl rfl rfl F.one4 rfl rfl ?hl ?hc) ⟨?hb, trivial⟩ ?hk ?_
              case hb => repeat (first | exact uE | refine uN (by omega) ?_ | assumption | exact hd _ (by omega) | exact hd0 _ (by omega) | exact hd2 _ (by omega) | fail)
              case hl => first | exact Nat.le_of_ble_eq_true rfl | decide | (simp; done) | (simp; omega) | (first | exact bC_len _ | (simp; done) | (rw [bC_len]; omega) | omega)
              case hc => first | (simp only [List.set_cons_succ, List.set_cons_zero]; rfl) | rfl
              case hk => omega
              refine runsL_nil ?_
              refine runs_ret ?_
              refine ⟨by first | exact .inr rfl | exact .inl rfl, fin_mkg (resc1 rfl (by repeat (first | exact uE | refine uN (by omega) ?_ | assumption | exact hd _ (by omega) | exact hd0 _ (by omega) | exact hd2 _ (by omega) | fail)) F.one4 rfl res0) ?_ ?_ ?_ ?_ ?_⟩
              · (repeat' (first | exact VLe.refl _ | exact VLe.own_sl _ _ _ | exact VLe.fl_sl _ _ | exact VLe.nil_sl _ | exact VLe.nil_fl _ | exact VLes.refl _ | exact .nil | refine VLe.tup ?_ | refine VLe.agg ?_ | refine .cons ?_ ?_ | (rw [Int.natCast_add]; exact VLe.refl _) | exact vle_int (by omega) | exact vle_bool (by first | rfl | assumption | (simp_all; done) | fail) | fail))
              · first | ((repeat (first | exact trivial | exact bd_bCA _ _ | exact bd_bC _ _ | assumption | omega | (refine bdR_map (fun _ => ?_)) | refine ⟨?_, ?_⟩ | fail)); done) | (repeat (first | exact trivial | assumption | omega | (refine bdR_map (fun _ => ?_)) | (refine bdL_map (fun _ => ?_)) | refine ⟨?_, ?_⟩ | fail))
              · intro k_ hk_; exact ble (by repeat (first | exact rfl | refine uN (by omega) ?_ | assumption | exact hf0 _ (by omega) | exact hf2 _ (by omega) (by first | assumption | omega) | fail))
              · intro p hp; cases hp
              · first | ((repeat (first | exact trivial | exact bd_bCA _ _ | exact bd_bC _ _ | assumption | omega | (refine bdR_map (fun _ => ?_)) | refine ⟨?_, ?_⟩ | fail)); done) | (repeat (first | exact trivial | assumption | omega | (refine bdR_map (fun _ => ?_)) | (refine bdL_map (fun _ => ?_)) | refine ⟨?_, ?_⟩ | fail))
end Go.Proofs.Ytgnbdegpljbckaa
