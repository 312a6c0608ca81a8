/- Walks by the logic of values. -/
import Derived.Test.YtgfmjipdegkemaaKpVa
import Derived.Test.YtgfmjipdegkemaaKpVe
import Derived.Test.YtgfmjipdegkemaaKpVf
import Derived.Test.YtgfmjipdegkemaaKpVg
import Derived.Test.YtgfmjipdegkemaaKpWa
import Derived.Test.YtgfmjipdegkemaaKpWb
import Derived.Test.YtgfmjipdegkemaaKpWc
import Derived.Test.YtgfmjipdegkemaaKpWd
import Derived.Test.YtgfmjipdegkemaaKpWe
import Derived.Test.YtgfmjipdegkemaaKpVmT
import Derived.Test.YtgfmjipdegkemaaKpVmP
namespace Go.Proofs.Ytgfmjipdegkemaa
open Go.Vm
set_option linter.unusedVariables false
set_option linter.unusedSimpArgs false
theorem shape49 : shapeOf Try.prog 3 49 = some (List.replicate 224 (CK.i .u8)) := by kernel_rfl
theorem eqg49 : Try.prog.eqGuardType Try.prog.depth 49 = false := by kernel_rfl
def pgC (p : List Int) : List Value := p.map fun x => .int .u8 x
theorem step_neq49 {o : Oper} {t : Nat → V} {x y : Operand} {a b : List Int} {ty2 : TypeId} (ho : o.op = .binOp .neq 49 x y ty2) (hx : ev t x = .agg (a.map bV)) (hy : ev t y = .agg (b.map bV)) (ha : a.length = 224) (hb : b.length = 224) : StepOK Try.prog o t [] [] (.sc (.bool (!eqCs (pgC a) (pgC b)))) := by
  have e : ∀ l : List Int, l.map bV = (pgC l).map V.sc := fun l => by unfold pgC; rw [List.map_map]; rfl
  rw [e] at hx hy
  exact step_eq_agg (xs := pgC a) (ys := pgC b) ho hx hy shape49 (by omega) ⟨_, Try.underlying49, rfl⟩ eqg49 (fits_u8 _ 224 ha) (fits_u8 _ 224 hb) (.inr ⟨rfl, rfl⟩)
theorem same_r {a b : En} (h : (!eqCs (rcV a.r) (rcV b.r)) = true) : ¬ sameQ a b := fun hs => by rw [hs.2.2.2.2.2.2.2] at h; cases h
theorem same_n {a b : En} {j : Nat} (h : ¬ (at' a.pages (j : Int)).n = (at' b.pages (j : Int)).n) : ¬ sameQ a b := fun hs => h (by rw [hs.1])
theorem same_p {a b : En} {j : Nat} (h : (!eqCs (pgC (at' a.pages (j : Int)).p) (pgC (at' b.pages (j : Int)).p)) = true) : ¬ sameQ a b := fun hs => by
  rw [hs.1, show eqCs (pgC (at' b.pages (j : Int)).p) (pgC (at' b.pages (j : Int)).p) = true from (eqCs_u8 _ _ rfl).2 rfl] at h; cases h
theorem same_i {a b : Im} (h1 : a.n = b.n) (hl : a.p.length = b.p.length) (h2 : (!eqCs (pgC a.p) (pgC b.p)) = false) : a = b := by
  obtain ⟨an, ap⟩ := a
  obtain ⟨bn, bp⟩ := b
  have h3 : eqCs (pgC ap) (pgC bp) = true := by simpa using h2
  have h4 := (eqCs_u8 ap bp hl).1 h3
  simp only at h1; rw [h1, h4]
set_option maxRecDepth 100000 in
set_option maxHeartbeats 4000000 in
theorem rsame_c (a b : En) (hA : (a.pages.length : Int) ≤ 9223372036854775807 ∧ (a.act.length : Int) ≤ 9223372036854775807) (hB : (b.pages.length : Int) ≤ 9223372036854775807 ∧ (b.act.length : Int) ≤ 9223372036854775807) (ha : okPg a) (hb : okPg b) (q : Bool) (hq : q = true ↔ sameQ a b) : Does Try.prog 14 [.agg (enC a), .agg (enC b)] [] [] (.sc (.bool q)) := by
  refine does_mkg 40 Try.func14 rfl rfl rfl (fun n B bx hd hpre hup hvs hbx hgx => ?_)
  refine runs_seq ?_
  refine runs_region ?_
  refine rl1 (gn rfl) rfl rfl (step_box_agg (k := n + 0) rfl rfl) ⟨by repeat (first | exact uE | refine uN (by omega) ?_ | assumption | exact hd _ (by omega) | fail), trivial⟩ (by omega) ?_
  refine rl1 (gn rfl) rfl rfl (step_box_agg (k := n + 1) rfl rfl) ⟨by repeat (first | exact uE | refine uN (by omega) ?_ | assumption | exact hd _ (by omega) | fail), trivial⟩ (by omega) ?_
  refine rl0 (gn rfl) rfl rfl (step_as rfl rfl) trivial ?_
  refine runsL_nil ?_
  refine runs_seq ?_
  refine runs_seq ?_
  refine runs_region ?_
  refine rl0 (gn rfl) rfl rfl (step_fieldAddr (off := 0) rfl (ev_mk rfl) Try.underlying29 rfl F.sz22 rfl) trivial ?_
  refine' rl0 (gn rfl) rfl rfl (step_load_one rfl (ev_mk rfl) F.one22 ?hv) ⟨?hb, trivial⟩ ?_
  case hb => repeat (first | exact uE | refine uN (by omega) ?_ | assumption | exact hd _ (by omega) | fail)
  case hv => rfl
  refine rl0 (gn rfl) rfl rfl (step_fieldAddr (off := 0) rfl (ev_mk rfl) Try.underlying29 rfl F.sz22 rfl) trivial ?_
  refine' rl0 (gn rfl) rfl rfl (step_load_one rfl (ev_mk rfl) F.one22 ?hv) ⟨?hb, trivial⟩ ?_
  case hb => repeat (first | exact uE | refine uN (by omega) ?_ | assumption | exact hd _ (by omega) | fail)
  case hv => rfl
  refine rl_neq (gn rfl) rfl rfl rfl rfl rfl (fun h1 => ?_) (fun h1 => ?_)
  · skip
    refine rl0 (gn rfl) rfl rfl (step_mv rfl rfl) trivial ?_
    refine rlk rfl rfl rfl rfl rfl (ngb rfl rfl) rfl rfl ?_
    refine rlk rfl rfl rfl rfl rfl (ngb rfl rfl) rfl rfl ?_
    refine rlk rfl rfl rfl rfl rfl (ngb rfl rfl) rfl rfl ?_
    refine rlk rfl rfl rfl rfl rfl (ngb rfl rfl) rfl rfl ?_
    refine rlk rfl rfl rfl rfl rfl (ngb rfl rfl) rfl rfl ?_
    refine rl0 (gn rfl) rfl rfl (step_pick rfl (ev_mk rfl) (ev_mk rfl)) trivial ?_
    refine rl0 (gn rfl) rfl rfl (step_mv rfl rfl) trivial ?_
    refine rlk rfl rfl rfl rfl rfl (ngb rfl rfl) rfl rfl ?_
    refine rlk rfl rfl rfl rfl rfl (ngb rfl rfl) rfl rfl ?_
    refine rlk rfl rfl rfl rfl rfl (ngb rfl rfl) rfl rfl ?_
    refine rlk rfl rfl rfl rfl rfl (ngb rfl rfl) rfl rfl ?_
    refine rlk rfl rfl rfl rfl rfl (ngb rfl rfl) rfl rfl ?_
    refine rl0 (gn rfl) rfl rfl (step_pick rfl (ev_mk rfl) (ev_mk rfl)) trivial ?_
    refine rl0 (gn rfl) rfl rfl (step_mv rfl rfl) trivial ?_
    refine rlk rfl rfl rfl rfl rfl (ngb rfl rfl) rfl rfl ?_
    refine rlk rfl rfl rfl rfl rfl (ngb rfl rfl) rfl rfl ?_
    refine rlk rfl rfl rfl rfl rfl (ngb rfl rfl) rfl rfl ?_
    refine rlk rfl rfl rfl rfl rfl (ngb rfl rfl) rfl rfl ?_
    refine rlk rfl rfl rfl rfl rfl (ngb rfl rfl) rfl rfl ?_
    refine rl0 (gn rfl) rfl rfl (step_pick rfl (ev_mk rfl) (ev_mk rfl)) trivial ?_
    refine rl0 (gn rfl) rfl rfl (step_mv rfl rfl) trivial ?_
    refine rlk rfl rfl rfl rfl rfl (ngb rfl rfl) rfl rfl ?_
    refine rlk rfl rfl rfl rfl rfl (ngb rfl rfl) rfl rfl ?_
    refine rlk rfl rfl rfl rfl rfl (ngb rfl rfl) rfl rfl ?_
    refine rlk rfl rfl rfl rfl rfl (ngb rfl rfl) rfl rfl ?_
    refine rlk rfl rfl rfl rfl rfl (ngb rfl rfl) rfl rfl ?_
    refine rl0 (gn rfl) rfl rfl (step_pick rfl (ev_mk rfl) (ev_mk rfl)) trivial ?_
    refine rl0 (gn rfl) rfl rfl (step_mv rfl rfl) trivial ?_
    refine rlk rfl rfl rfl rfl rfl (ngb rfl rfl) rfl rfl ?_
    refine rlk rfl rfl rfl rfl rfl (ngb rfl rfl) rfl rfl ?_
    refine rlk rfl rfl rfl rfl rfl (ngb rfl rfl) rfl rfl ?_
    refine rlk rfl rfl rfl rfl rfl (ngb rfl rfl) rfl rfl ?_
    refine rlk rfl rfl rfl rfl rfl (ngb rfl rfl) rfl rfl ?_
    refine rl0 (gn rfl) rfl rfl (step_pick rfl (ev_mk rfl) (ev_mk rfl)) trivial ?_
    refine rl0 (gn rfl) rfl rfl (step_mv rfl rfl) trivial ?_
    refine rlk rfl rfl rfl rfl rfl (ngb rfl rfl) rfl rfl ?_
    refine rlk rfl rfl rfl rfl rfl (ngb rfl rfl) rfl rfl ?_
    refine rlk rfl rfl rfl rfl rfl (ngb rfl rfl) rfl rfl ?_
    refine rlk rfl rfl rfl rfl rfl (ngb rfl rfl) rfl rfl ?_
    refine rlk rfl rfl rfl rfl rfl (ngb rfl rfl) rfl rfl ?_
    refine rlk rfl rfl rfl rfl rfl (ngb rfl rfl) rfl rfl ?_
    refine rlk rfl rfl rfl rfl rfl (ngb rfl rfl) rfl rfl ?_
    refine rl0 (gn rfl) rfl rfl (step_pick rfl (ev_mk rfl) (ev_mk rfl)) trivial ?_
    refine rl0 (gn rfl) rfl rfl (step_mv rfl rfl) trivial ?_
    refine rlk rfl rfl rfl rfl rfl (ngb rfl rfl) rfl rfl ?_
    refine rlk rfl rfl rfl rfl rfl (ngb rfl rfl) rfl rfl ?_
    refine rlk rfl rfl rfl rfl rfl (ngb rfl rfl) rfl rfl ?_
    refine rlk rfl rfl rfl rfl rfl (ngb rfl rfl) rfl rfl ?_
    refine rlk rfl rfl rfl rfl rfl (ngb rfl rfl) rfl rfl ?_
    refine rlk rfl rfl rfl rfl rfl (ngb rfl rfl) rfl rfl ?_
    refine rlk rfl rfl rfl rfl rfl (ngb rfl rfl) rfl rfl ?_
    refine rl0 (gn rfl) rfl rfl (step_pick rfl (ev_mk rfl) (ev_mk rfl)) trivial ?_
    refine runsL_nil ?_
    refine runs_cond true (ev_mk rfl) (fun _ => ?_) (fun h_ => nomatch h_)
    refine runs_seq ?_
    refine runs_region ?_
    refine rl0 (gn rfl) rfl rfl (step_as rfl rfl) trivial ?_
    refine runsL_nil ?_
    refine runs_ret ?_
    first | (have hem_ := qf hq (same_lp (by assumption))) | (have hem_ := qf hq (same_la (by assumption))) | (have hem_ := qf hq (same_r (by assumption))) | (have hem_ := qf hq (same_n (j := j) (by omega))) | (have hem_ := qf hq (same_p (j := j) (by assumption))) | (have hem_ := qf hq (same_ac (j := w) (by omega))) | (have hp_ : a.pages = b.pages := ext_at (by omega) (fun i hi => hF0_1 i (by omega)); have ha_ : a.act = b.act := ext_at (by omega) (fun i hi => hF1_1 i (by omega)); have hem_ : true = q := (hq.2 ⟨hp_, ha_, by omega, by omega, by omega, by omega, by omega, by simpa using (by assumption : (!eqCs (rcV a.r) (rcV b.r)) = false)⟩).symm) | (have hem_ := qf hq (fun hs => by obtain ⟨_, _, g1, g2, g3, g4, g5, _⟩ := hs; omega))
    refine ⟨by first | exact .inr rfl | exact .inl rfl, fin_mkg (rest rfl res0) ?_ ?_ ?_ ?_ ?_⟩
    · (repeat' (first | exact VLe.refl _ | exact VLe.own_sl _ _ _ | exact VLe.fl_sl _ _ | exact VLe.nil_sl _ | exact VLe.nil_fl _ | exact VLes.refl _ | exact .nil | refine VLe.tup ?_ | refine VLe.agg ?_ | refine .cons ?_ ?_ | (rw [Int.natCast_add]; exact VLe.refl _) | exact vle_int (by omega) | exact vle_bool (by first | rfl | assumption | (simp_all; done)) | fail))
    · repeat (first | exact trivial | assumption | omega | (refine bdR_map (fun _ => ?_)) | (refine bdL_map (fun _ => ?_)) | refine ⟨?_, ?_⟩ | fail)
    · intro k_ hk_; exact ble (by repeat (first | exact rfl | refine uN (by omega) ?_ | assumption | fail))
    · intro p hp; cases hp
    · repeat (first | exact trivial | assumption | omega | (refine bdR_map (fun _ => ?_)) | (refine bdL_map (fun _ => ?_)) | refine ⟨?_, ?_⟩ | fail)
  · skip
    refine rl0 (gn rfl) rfl rfl (step_mv rfl rfl) trivial ?_
    refine rl0 (gy rfl rfl rfl rfl rfl rfl) rfl rfl (step_fieldAddr (off := 1) rfl (ev_mk rfl) Try.underlying29 rfl F.sz3 rfl) trivial ?_
    refine' rl0 (gy rfl rfl rfl rfl rfl rfl) rfl rfl (step_load_one rfl (ev_mk rfl) F.one3 ?hv) ⟨?hb, trivial⟩ ?_
    case hb => repeat (first | exact uE | refine uN (by omega) ?_ | assumption | exact hd _ (by omega) | fail)
    case hv => rfl
    refine rl0 (gy rfl rfl rfl rfl rfl rfl) rfl rfl (step_fieldAddr (off := 1) rfl (ev_mk rfl) Try.underlying29 rfl F.sz3 rfl) trivial ?_
    refine' rl0 (gy rfl rfl rfl rfl rfl rfl) rfl rfl (step_load_one rfl (ev_mk rfl) F.one3 ?hv) ⟨?hb, trivial⟩ ?_
    case hb => repeat (first | exact uE | refine uN (by omega) ?_ | assumption | exact hd _ (by omega) | fail)
    case hv => rfl
    refine rl_neq (gy rfl rfl rfl rfl rfl rfl) rfl rfl rfl rfl rfl (fun h2 => ?_) (fun h2 => ?_)
    · skip
      refine rl0 (gn rfl) rfl rfl (step_pick rfl (ev_mk rfl) (ev_mk rfl)) trivial ?_
      refine rl0 (gn rfl) rfl rfl (step_mv rfl rfl) trivial ?_
      refine rlk rfl rfl rfl rfl rfl (ngb rfl rfl) rfl rfl ?_
      refine rlk rfl rfl rfl rfl rfl (ngb rfl rfl) rfl rfl ?_
      refine rlk rfl rfl rfl rfl rfl (ngb rfl rfl) rfl rfl ?_
      refine rlk rfl rfl rfl rfl rfl (ngb rfl rfl) rfl rfl ?_
      refine rlk rfl rfl rfl rfl rfl (ngb rfl rfl) rfl rfl ?_
      refine rl0 (gn rfl) rfl rfl (step_pick rfl (ev_mk rfl) (ev_mk rfl)) trivial ?_
      refine rl0 (gn rfl) rfl rfl (step_mv rfl rfl) trivial ?_
      refine rlk rfl rfl rfl rfl rfl (ngb rfl rfl) rfl rfl ?_
      refine rlk rfl rfl rfl rfl rfl (ngb rfl rfl) rfl rfl ?_
      refine rlk rfl rfl rfl rfl rfl (ngb rfl rfl) rfl rfl ?_
      refine rlk rfl rfl rfl rfl rfl (ngb rfl rfl) rfl rfl ?_
      refine rlk rfl rfl rfl rfl rfl (ngb rfl rfl) rfl rfl ?_
      refine rl0 (gn rfl) rfl rfl (step_pick rfl (ev_mk rfl) (ev_mk rfl)) trivial ?_
      refine rl0 (gn rfl) rfl rfl (step_mv rfl rfl) trivial ?_
      refine rlk rfl rfl rfl rfl rfl (ngb rfl rfl) rfl rfl ?_
      refine rlk rfl rfl rfl rfl rfl (ngb rfl rfl) rfl rfl ?_
      refine rlk rfl rfl rfl rfl rfl (ngb rfl rfl) rfl rfl ?_
      refine rlk rfl rfl rfl rfl rfl (ngb rfl rfl) rfl rfl ?_
      refine rlk rfl rfl rfl rfl rfl (ngb rfl rfl) rfl rfl ?_
      refine rl0 (gn rfl) rfl rfl (step_pick rfl (ev_mk rfl) (ev_mk rfl)) trivial ?_
      refine rl0 (gn rfl) rfl rfl (step_mv rfl rfl) trivial ?_
      refine rlk rfl rfl rfl rfl rfl (ngb rfl rfl) rfl rfl ?_
      refine rlk rfl rfl rfl rfl rfl (ngb rfl rfl) rfl rfl ?_
      refine rlk rfl rfl rfl rfl rfl (ngb rfl rfl) rfl rfl ?_
      refine rlk rfl rfl rfl rfl rfl (ngb rfl rfl) rfl rfl ?_
      refine rlk rfl rfl rfl rfl rfl (ngb rfl rfl) rfl rfl ?_
      refine rl0 (gn rfl) rfl rfl (step_pick rfl (ev_mk rfl) (ev_mk rfl)) trivial ?_
      refine rl0 (gn rfl) rfl rfl (step_mv rfl rfl) trivial ?_
      refine rlk rfl rfl rfl rfl rfl (ngb rfl rfl) rfl rfl ?_
      refine rlk rfl rfl rfl rfl rfl (ngb rfl rfl) rfl rfl ?_
      refine rlk rfl rfl rfl rfl rfl (ngb rfl rfl) rfl rfl ?_
      refine rlk rfl rfl rfl rfl rfl (ngb rfl rfl) rfl rfl ?_
      refine rlk rfl rfl rfl rfl rfl (ngb rfl rfl) rfl rfl ?_
      refine rlk rfl rfl rfl rfl rfl (ngb rfl rfl) rfl rfl ?_
      refine rlk rfl rfl rfl rfl rfl (ngb rfl rfl) rfl rfl ?_
      refine rl0 (gn rfl) rfl rfl (step_pick rfl (ev_mk rfl) (ev_mk rfl)) trivial ?_
      refine rl0 (gn rfl) rfl rfl (step_mv rfl rfl) trivial ?_
      refine rlk rfl rfl rfl rfl rfl (ngb rfl rfl) rfl rfl ?_
      refine rlk rfl rfl rfl rfl rfl (ngb rfl rfl) rfl rfl ?_
      refine rlk rfl rfl rfl rfl rfl (ngb rfl rfl) rfl rfl ?_
      refine rlk rfl rfl rfl rfl rfl (ngb rfl rfl) rfl rfl ?_
      refine rlk rfl rfl rfl rfl rfl (ngb rfl rfl) rfl rfl ?_
      refine rlk rfl rfl rfl rfl rfl (ngb rfl rfl) rfl rfl ?_
      refine rlk rfl rfl rfl rfl rfl (ngb rfl rfl) rfl rfl ?_
      refine rl0 (gn rfl) rfl rfl (step_pick rfl (ev_mk rfl) (ev_mk rfl)) trivial ?_
      refine runsL_nil ?_
      refine runs_cond true (ev_mk rfl) (fun _ => ?_) (fun h_ => nomatch h_)
      refine runs_seq ?_
      refine runs_region ?_
      refine rl0 (gn rfl) rfl rfl (step_as rfl rfl) trivial ?_
      refine runsL_nil ?_
      refine runs_ret ?_
      first | (have hem_ := qf hq (same_lp (by assumption))) | (have hem_ := qf hq (same_la (by assumption))) | (have hem_ := qf hq (same_r (by assumption))) | (have hem_ := qf hq (same_n (j := j) (by omega))) | (have hem_ := qf hq (same_p (j := j) (by assumption))) | (have hem_ := qf hq (same_ac (j := w) (by omega))) | (have hp_ : a.pages = b.pages := ext_at (by omega) (fun i hi => hF0_1 i (by omega)); have ha_ : a.act = b.act := ext_at (by omega) (fun i hi => hF1_1 i (by omega)); have hem_ : true = q := (hq.2 ⟨hp_, ha_, by omega, by omega, by omega, by omega, by omega, by simpa using (by assumption : (!eqCs (rcV a.r) (rcV b.r)) = false)⟩).symm) | (have hem_ := qf hq (fun hs => by obtain ⟨_, _, g1, g2, g3, g4, g5, _⟩ := hs; omega))
      refine ⟨by first | exact .inr rfl | exact .inl rfl, fin_mkg (rest rfl res0) ?_ ?_ ?_ ?_ ?_⟩
      · (repeat' (first | exact VLe.refl _ | exact VLe.own_sl _ _ _ | exact VLe.fl_sl _ _ | exact VLe.nil_sl _ | exact VLe.nil_fl _ | exact VLes.refl _ | exact .nil | refine VLe.tup ?_ | refine VLe.agg ?_ | refine .cons ?_ ?_ | (rw [Int.natCast_add]; exact VLe.refl _) | exact vle_int (by omega) | exact vle_bool (by first | rfl | assumption | (simp_all; done)) | fail))
      · repeat (first | exact trivial | assumption | omega | (refine bdR_map (fun _ => ?_)) | (refine bdL_map (fun _ => ?_)) | refine ⟨?_, ?_⟩ | fail)
      · intro k_ hk_; exact ble (by repeat (first | exact rfl | refine uN (by omega) ?_ | assumption | fail))
      · intro p hp; cases hp
      · repeat (first | exact trivial | assumption | omega | (refine bdR_map (fun _ => ?_)) | (refine bdL_map (fun _ => ?_)) | refine ⟨?_, ?_⟩ | fail)
    · skip
      refine rl0 (gn rfl) rfl rfl (step_pick rfl (ev_mk rfl) (ev_mk rfl)) trivial ?_
      refine rl0 (gn rfl) rfl rfl (step_mv rfl rfl) trivial ?_
      refine rl0 (gy rfl rfl rfl rfl rfl rfl) rfl rfl (step_fieldAddr (off := 2) rfl (ev_mk rfl) Try.underlying29 rfl F.sz22 rfl) trivial ?_
      refine' rl0 (gy rfl rfl rfl rfl rfl rfl) rfl rfl (step_load_one rfl (ev_mk rfl) F.one22 ?hv) ⟨?hb, trivial⟩ ?_
      case hb => repeat (first | exact uE | refine uN (by omega) ?_ | assumption | exact hd _ (by omega) | fail)
      case hv => rfl
      refine rl0 (gy rfl rfl rfl rfl rfl rfl) rfl rfl (step_fieldAddr (off := 2) rfl (ev_mk rfl) Try.underlying29 rfl F.sz22 rfl) trivial ?_
      refine' rl0 (gy rfl rfl rfl rfl rfl rfl) rfl rfl (step_load_one rfl (ev_mk rfl) F.one22 ?hv) ⟨?hb, trivial⟩ ?_
      case hb => repeat (first | exact uE | refine uN (by omega) ?_ | assumption | exact hd _ (by omega) | fail)
      case hv => rfl
      refine rl_neq (gy rfl rfl rfl rfl rfl rfl) rfl rfl rfl rfl rfl (fun h3 => ?_) (fun h3 => ?_)
      · skip
        refine rl0 (gn rfl) rfl rfl (step_pick rfl (ev_mk rfl) (ev_mk rfl)) trivial ?_
        refine rl0 (gn rfl) rfl rfl (step_mv rfl rfl) trivial ?_
        refine rlk rfl rfl rfl rfl rfl (ngb rfl rfl) rfl rfl ?_
        refine rlk rfl rfl rfl rfl rfl (ngb rfl rfl) rfl rfl ?_
        refine rlk rfl rfl rfl rfl rfl (ngb rfl rfl) rfl rfl ?_
        refine rlk rfl rfl rfl rfl rfl (ngb rfl rfl) rfl rfl ?_
        refine rlk rfl rfl rfl rfl rfl (ngb rfl rfl) rfl rfl ?_
        refine rl0 (gn rfl) rfl rfl (step_pick rfl (ev_mk rfl) (ev_mk rfl)) trivial ?_
        refine rl0 (gn rfl) rfl rfl (step_mv rfl rfl) trivial ?_
        refine rlk rfl rfl rfl rfl rfl (ngb rfl rfl) rfl rfl ?_
        refine rlk rfl rfl rfl rfl rfl (ngb rfl rfl) rfl rfl ?_
        refine rlk rfl rfl rfl rfl rfl (ngb rfl rfl) rfl rfl ?_
        refine rlk rfl rfl rfl rfl rfl (ngb rfl rfl) rfl rfl ?_
        refine rlk rfl rfl rfl rfl rfl (ngb rfl rfl) rfl rfl ?_
        refine rl0 (gn rfl) rfl rfl (step_pick rfl (ev_mk rfl) (ev_mk rfl)) trivial ?_
        refine rl0 (gn rfl) rfl rfl (step_mv rfl rfl) trivial ?_
        refine rlk rfl rfl rfl rfl rfl (ngb rfl rfl) rfl rfl ?_
        refine rlk rfl rfl rfl rfl rfl (ngb rfl rfl) rfl rfl ?_
        refine rlk rfl rfl rfl rfl rfl (ngb rfl rfl) rfl rfl ?_
        refine rlk rfl rfl rfl rfl rfl (ngb rfl rfl) rfl rfl ?_
        refine rlk rfl rfl rfl rfl rfl (ngb rfl rfl) rfl rfl ?_
        refine rl0 (gn rfl) rfl rfl (step_pick rfl (ev_mk rfl) (ev_mk rfl)) trivial ?_
        refine rl0 (gn rfl) rfl rfl (step_mv rfl rfl) trivial ?_
        refine rlk rfl rfl rfl rfl rfl (ngb rfl rfl) rfl rfl ?_
        refine rlk rfl rfl rfl rfl rfl (ngb rfl rfl) rfl rfl ?_
        refine rlk rfl rfl rfl rfl rfl (ngb rfl rfl) rfl rfl ?_
        refine rlk rfl rfl rfl rfl rfl (ngb rfl rfl) rfl rfl ?_
        refine rlk rfl rfl rfl rfl rfl (ngb rfl rfl) rfl rfl ?_
        refine rlk rfl rfl rfl rfl rfl (ngb rfl rfl) rfl rfl ?_
        refine rlk rfl rfl rfl rfl rfl (ngb rfl rfl) rfl rfl ?_
        refine rl0 (gn rfl) rfl rfl (step_pick rfl (ev_mk rfl) (ev_mk rfl)) trivial ?_
        refine rl0 (gn rfl) rfl rfl (step_mv rfl rfl) trivial ?_
        refine rlk rfl rfl rfl rfl rfl (ngb rfl rfl) rfl rfl ?_
        refine rlk rfl rfl rfl rfl rfl (ngb rfl rfl) rfl rfl ?_
        refine rlk rfl rfl rfl rfl rfl (ngb rfl rfl) rfl rfl ?_
        refine rlk rfl rfl rfl rfl rfl (ngb rfl rfl) rfl rfl ?_
        refine rlk rfl rfl rfl rfl rfl (ngb rfl rfl) rfl rfl ?_
        refine rlk rfl rfl rfl rfl rfl (ngb rfl rfl) rfl rfl ?_
        refine rlk rfl rfl rfl rfl rfl (ngb rfl rfl) rfl rfl ?_
        refine rl0 (gn rfl) rfl rfl (step_pick rfl (ev_mk rfl) (ev_mk rfl)) trivial ?_
        refine runsL_nil ?_
        refine runs_cond true (ev_mk rfl) (fun _ => ?_) (fun h_ => nomatch h_)
        refine runs_seq ?_
        refine runs_region ?_
        refine rl0 (gn rfl) rfl rfl (step_as rfl rfl) trivial ?_
        refine runsL_nil ?_
        refine runs_ret ?_
        first | (have hem_ := qf hq (same_lp (by assumption))) | (have hem_ := qf hq (same_la (by assumption))) | (have hem_ := qf hq (same_r (by assumption))) | (have hem_ := qf hq (same_n (j := j) (by omega))) | (have hem_ := qf hq (same_p (j := j) (by assumption))) | (have hem_ := qf hq (same_ac (j := w) (by omega))) | (have hp_ : a.pages = b.pages := ext_at (by omega) (fun i hi => hF0_1 i (by omega)); have ha_ : a.act = b.act := ext_at (by omega) (fun i hi => hF1_1 i (by omega)); have hem_ : true = q := (hq.2 ⟨hp_, ha_, by omega, by omega, by omega, by omega, by omega, by simpa using (by assumption : (!eqCs (rcV a.r) (rcV b.r)) = false)⟩).symm) | (have hem_ := qf hq (fun hs => by obtain ⟨_, _, g1, g2, g3, g4, g5, _⟩ := hs; omega))
        refine ⟨by first | exact .inr rfl | exact .inl rfl, fin_mkg (rest rfl res0) ?_ ?_ ?_ ?_ ?_⟩
        · (repeat' (first | exact VLe.refl _ | exact VLe.own_sl _ _ _ | exact VLe.fl_sl _ _ | exact VLe.nil_sl _ | exact VLe.nil_fl _ | exact VLes.refl _ | exact .nil | refine VLe.tup ?_ | refine VLe.agg ?_ | refine .cons ?_ ?_ | (rw [Int.natCast_add]; exact VLe.refl _) | exact vle_int (by omega) | exact vle_bool (by first | rfl | assumption | (simp_all; done)) | fail))
        · repeat (first | exact trivial | assumption | omega | (refine bdR_map (fun _ => ?_)) | (refine bdL_map (fun _ => ?_)) | refine ⟨?_, ?_⟩ | fail)
        · intro k_ hk_; exact ble (by repeat (first | exact rfl | refine uN (by omega) ?_ | assumption | fail))
        · intro p hp; cases hp
        · repeat (first | exact trivial | assumption | omega | (refine bdR_map (fun _ => ?_)) | (refine bdL_map (fun _ => ?_)) | refine ⟨?_, ?_⟩ | fail)
      · skip
        refine rl0 (gn rfl) rfl rfl (step_pick rfl (ev_mk rfl) (ev_mk rfl)) trivial ?_
        refine rl0 (gn rfl) rfl rfl (step_mv rfl rfl) trivial ?_
        refine rl0 (gy rfl rfl rfl rfl rfl rfl) rfl rfl (step_fieldAddr (off := 3) rfl (ev_mk rfl) Try.underlying29 rfl F.sz22 rfl) trivial ?_
        refine' rl0 (gy rfl rfl rfl rfl rfl rfl) rfl rfl (step_load_one rfl (ev_mk rfl) F.one22 ?hv) ⟨?hb, trivial⟩ ?_
        case hb => repeat (first | exact uE | refine uN (by omega) ?_ | assumption | exact hd _ (by omega) | fail)
        case hv => rfl
        refine rl0 (gy rfl rfl rfl rfl rfl rfl) rfl rfl (step_fieldAddr (off := 3) rfl (ev_mk rfl) Try.underlying29 rfl F.sz22 rfl) trivial ?_
        refine' rl0 (gy rfl rfl rfl rfl rfl rfl) rfl rfl (step_load_one rfl (ev_mk rfl) F.one22 ?hv) ⟨?hb, trivial⟩ ?_
        case hb => repeat (first | exact uE | refine uN (by omega) ?_ | assumption | exact hd _ (by omega) | fail)
        case hv => rfl
        refine rl_neq (gy rfl rfl rfl rfl rfl rfl) rfl rfl rfl rfl rfl (fun h4 => ?_) (fun h4 => ?_)
        · skip
          refine rl0 (gn rfl) rfl rfl (step_pick rfl (ev_mk rfl) (ev_mk rfl)) trivial ?_
          refine rl0 (gn rfl) rfl rfl (step_mv rfl rfl) trivial ?_
          refine rlk rfl rfl rfl rfl rfl (ngb rfl rfl) rfl rfl ?_
          refine rlk rfl rfl rfl rfl rfl (ngb rfl rfl) rfl rfl ?_
          refine rlk rfl rfl rfl rfl rfl (ngb rfl rfl) rfl rfl ?_
          refine rlk rfl rfl rfl rfl rfl (ngb rfl rfl) rfl rfl ?_
          refine rlk rfl rfl rfl rfl rfl (ngb rfl rfl) rfl rfl ?_
          refine rl0 (gn rfl) rfl rfl (step_pick rfl (ev_mk rfl) (ev_mk rfl)) trivial ?_
          refine rl0 (gn rfl) rfl rfl (step_mv rfl rfl) trivial ?_
          refine rlk rfl rfl rfl rfl rfl (ngb rfl rfl) rfl rfl ?_
          refine rlk rfl rfl rfl rfl rfl (ngb rfl rfl) rfl rfl ?_
          refine rlk rfl rfl rfl rfl rfl (ngb rfl rfl) rfl rfl ?_
          refine rlk rfl rfl rfl rfl rfl (ngb rfl rfl) rfl rfl ?_
          refine rlk rfl rfl rfl rfl rfl (ngb rfl rfl) rfl rfl ?_
          refine rl0 (gn rfl) rfl rfl (step_pick rfl (ev_mk rfl) (ev_mk rfl)) trivial ?_
          refine rl0 (gn rfl) rfl rfl (step_mv rfl rfl) trivial ?_
          refine rlk rfl rfl rfl rfl rfl (ngb rfl rfl) rfl rfl ?_
          refine rlk rfl rfl rfl rfl rfl (ngb rfl rfl) rfl rfl ?_
          refine rlk rfl rfl rfl rfl rfl (ngb rfl rfl) rfl rfl ?_
          refine rlk rfl rfl rfl rfl rfl (ngb rfl rfl) rfl rfl ?_
          refine rlk rfl rfl rfl rfl rfl (ngb rfl rfl) rfl rfl ?_
          refine rlk rfl rfl rfl rfl rfl (ngb rfl rfl) rfl rfl ?_
          refine rlk rfl rfl rfl rfl rfl (ngb rfl rfl) rfl rfl ?_
          refine rl0 (gn rfl) rfl rfl (step_pick rfl (ev_mk rfl) (ev_mk rfl)) trivial ?_
          refine rl0 (gn rfl) rfl rfl (step_mv rfl rfl) trivial ?_
          refine rlk rfl rfl rfl rfl rfl (ngb rfl rfl) rfl rfl ?_
          refine rlk rfl rfl rfl rfl rfl (ngb rfl rfl) rfl rfl ?_
          refine rlk rfl rfl rfl rfl rfl (ngb rfl rfl) rfl rfl ?_
          refine rlk rfl rfl rfl rfl rfl (ngb rfl rfl) rfl rfl ?_
          refine rlk rfl rfl rfl rfl rfl (ngb rfl rfl) rfl rfl ?_
          refine rlk rfl rfl rfl rfl rfl (ngb rfl rfl) rfl rfl ?_
          refine rlk rfl rfl rfl rfl rfl (ngb rfl rfl) rfl rfl ?_
          refine rl0 (gn rfl) rfl rfl (step_pick rfl (ev_mk rfl) (ev_mk rfl)) trivial ?_
          refine runsL_nil ?_
          refine runs_cond true (ev_mk rfl) (fun _ => ?_) (fun h_ => nomatch h_)
          refine runs_seq ?_
          refine runs_region ?_
          refine rl0 (gn rfl) rfl rfl (step_as rfl rfl) trivial ?_
          refine runsL_nil ?_
          refine runs_ret ?_
          first | (have hem_ := qf hq (same_lp (by assumption))) | (have hem_ := qf hq (same_la (by assumption))) | (have hem_ := qf hq (same_r (by assumption))) | (have hem_ := qf hq (same_n (j := j) (by omega))) | (have hem_ := qf hq (same_p (j := j) (by assumption))) | (have hem_ := qf hq (same_ac (j := w) (by omega))) | (have hp_ : a.pages = b.pages := ext_at (by omega) (fun i hi => hF0_1 i (by omega)); have ha_ : a.act = b.act := ext_at (by omega) (fun i hi => hF1_1 i (by omega)); have hem_ : true = q := (hq.2 ⟨hp_, ha_, by omega, by omega, by omega, by omega, by omega, by simpa using (by assumption : (!eqCs (rcV a.r) (rcV b.r)) = false)⟩).symm) | (have hem_ := qf hq (fun hs => by obtain ⟨_, _, g1, g2, g3, g4, g5, _⟩ := hs; omega))
          refine ⟨by first | exact .inr rfl | exact .inl rfl, fin_mkg (rest rfl res0) ?_ ?_ ?_ ?_ ?_⟩
          · (repeat' (first | exact VLe.refl _ | exact VLe.own_sl _ _ _ | exact VLe.fl_sl _ _ | exact VLe.nil_sl _ | exact VLe.nil_fl _ | exact VLes.refl _ | exact .nil | refine VLe.tup ?_ | refine VLe.agg ?_ | refine .cons ?_ ?_ | (rw [Int.natCast_add]; exact VLe.refl _) | exact vle_int (by omega) | exact vle_bool (by first | rfl | assumption | (simp_all; done)) | fail))
          · repeat (first | exact trivial | assumption | omega | (refine bdR_map (fun _ => ?_)) | (refine bdL_map (fun _ => ?_)) | refine ⟨?_, ?_⟩ | fail)
          · intro k_ hk_; exact ble (by repeat (first | exact rfl | refine uN (by omega) ?_ | assumption | fail))
          · intro p hp; cases hp
          · repeat (first | exact trivial | assumption | omega | (refine bdR_map (fun _ => ?_)) | (refine bdL_map (fun _ => ?_)) | refine ⟨?_, ?_⟩ | fail)
        · skip
          refine rl0 (gn rfl) rfl rfl (step_pick rfl (ev_mk rfl) (ev_mk rfl)) trivial ?_
          refine rl0 (gn rfl) rfl rfl (step_mv rfl rfl) trivial ?_
          refine rl0 (gy rfl rfl rfl rfl rfl rfl) rfl rfl (step_fieldAddr (off := 4) rfl (ev_mk rfl) Try.underlying29 rfl F.sz22 rfl) trivial ?_
          refine' rl0 (gy rfl rfl rfl rfl rfl rfl) rfl rfl (step_load_one rfl (ev_mk rfl) F.one22 ?hv) ⟨?hb, trivial⟩ ?_
          case hb => repeat (first | exact uE | refine uN (by omega) ?_ | assumption | exact hd _ (by omega) | fail)
          case hv => rfl
          refine rl0 (gy rfl rfl rfl rfl rfl rfl) rfl rfl (step_fieldAddr (off := 4) rfl (ev_mk rfl) Try.underlying29 rfl F.sz22 rfl) trivial ?_
          refine' rl0 (gy rfl rfl rfl rfl rfl rfl) rfl rfl (step_load_one rfl (ev_mk rfl) F.one22 ?hv) ⟨?hb, trivial⟩ ?_
          case hb => repeat (first | exact uE | refine uN (by omega) ?_ | assumption | exact hd _ (by omega) | fail)
          case hv => rfl
          refine rl_neq (gy rfl rfl rfl rfl rfl rfl) rfl rfl rfl rfl rfl (fun h5 => ?_) (fun h5 => ?_)
          · skip
            refine rl0 (gn rfl) rfl rfl (step_pick rfl (ev_mk rfl) (ev_mk rfl)) trivial ?_
            refine rl0 (gn rfl) rfl rfl (step_mv rfl rfl) trivial ?_
            refine rlk rfl rfl rfl rfl rfl (ngb rfl rfl) rfl rfl ?_
            refine rlk rfl rfl rfl rfl rfl (ngb rfl rfl) rfl rfl ?_
            refine rlk rfl rfl rfl rfl rfl (ngb rfl rfl) rfl rfl ?_
            refine rlk rfl rfl rfl rfl rfl (ngb rfl rfl) rfl rfl ?_
            refine rlk rfl rfl rfl rfl rfl (ngb rfl rfl) rfl rfl ?_
            refine rl0 (gn rfl) rfl rfl (step_pick rfl (ev_mk rfl) (ev_mk rfl)) trivial ?_
            refine rl0 (gn rfl) rfl rfl (step_mv rfl rfl) trivial ?_
            refine rlk rfl rfl rfl rfl rfl (ngb rfl rfl) rfl rfl ?_
            refine rlk rfl rfl rfl rfl rfl (ngb rfl rfl) rfl rfl ?_
            refine rlk rfl rfl rfl rfl rfl (ngb rfl rfl) rfl rfl ?_
            refine rlk rfl rfl rfl rfl rfl (ngb rfl rfl) rfl rfl ?_
            refine rlk rfl rfl rfl rfl rfl (ngb rfl rfl) rfl rfl ?_
            refine rlk rfl rfl rfl rfl rfl (ngb rfl rfl) rfl rfl ?_
            refine rlk rfl rfl rfl rfl rfl (ngb rfl rfl) rfl rfl ?_
            refine rl0 (gn rfl) rfl rfl (step_pick rfl (ev_mk rfl) (ev_mk rfl)) trivial ?_
            refine rl0 (gn rfl) rfl rfl (step_mv rfl rfl) trivial ?_
            refine rlk rfl rfl rfl rfl rfl (ngb rfl rfl) rfl rfl ?_
            refine rlk rfl rfl rfl rfl rfl (ngb rfl rfl) rfl rfl ?_
            refine rlk rfl rfl rfl rfl rfl (ngb rfl rfl) rfl rfl ?_
            refine rlk rfl rfl rfl rfl rfl (ngb rfl rfl) rfl rfl ?_
            refine rlk rfl rfl rfl rfl rfl (ngb rfl rfl) rfl rfl ?_
            refine rlk rfl rfl rfl rfl rfl (ngb rfl rfl) rfl rfl ?_
            refine rlk rfl rfl rfl rfl rfl (ngb rfl rfl) rfl rfl ?_
            refine rl0 (gn rfl) rfl rfl (step_pick rfl (ev_mk rfl) (ev_mk rfl)) trivial ?_
            refine runsL_nil ?_
            refine runs_cond true (ev_mk rfl) (fun _ => ?_) (fun h_ => nomatch h_)
            refine runs_seq ?_
            refine runs_region ?_
            refine rl0 (gn rfl) rfl rfl (step_as rfl rfl) trivial ?_
            refine runsL_nil ?_
            refine runs_ret ?_
            first | (have hem_ := qf hq (same_lp (by assumption))) | (have hem_ := qf hq (same_la (by assumption))) | (have hem_ := qf hq (same_r (by assumption))) | (have hem_ := qf hq (same_n (j := j) (by omega))) | (have hem_ := qf hq (same_p (j := j) (by assumption))) | (have hem_ := qf hq (same_ac (j := w) (by omega))) | (have hp_ : a.pages = b.pages := ext_at (by omega) (fun i hi => hF0_1 i (by omega)); have ha_ : a.act = b.act := ext_at (by omega) (fun i hi => hF1_1 i (by omega)); have hem_ : true = q := (hq.2 ⟨hp_, ha_, by omega, by omega, by omega, by omega, by omega, by simpa using (by assumption : (!eqCs (rcV a.r) (rcV b.r)) = false)⟩).symm) | (have hem_ := qf hq (fun hs => by obtain ⟨_, _, g1, g2, g3, g4, g5, _⟩ := hs; omega))
            refine ⟨by first | exact .inr rfl | exact .inl rfl, fin_mkg (rest rfl res0) ?_ ?_ ?_ ?_ ?_⟩
            · (repeat' (first | exact VLe.refl _ | exact VLe.own_sl _ _ _ | exact VLe.fl_sl _ _ | exact VLe.nil_sl _ | exact VLe.nil_fl _ | exact VLes.refl _ | exact .nil | refine VLe.tup ?_ | refine VLe.agg ?_ | refine .cons ?_ ?_ | (rw [Int.natCast_add]; exact VLe.refl _) | exact vle_int (by omega) | exact vle_bool (by first | rfl | assumption | (simp_all; done)) | fail))
            · repeat (first | exact trivial | assumption | omega | (refine bdR_map (fun _ => ?_)) | (refine bdL_map (fun _ => ?_)) | refine ⟨?_, ?_⟩ | fail)
            · intro k_ hk_; exact ble (by repeat (first | exact rfl | refine uN (by omega) ?_ | assumption | fail))
            · intro p hp; cases hp
            · repeat (first | exact trivial | assumption | omega | (refine bdR_map (fun _ => ?_)) | (refine bdL_map (fun _ => ?_)) | refine ⟨?_, ?_⟩ | fail)
          · skip
            refine rl0 (gn rfl) rfl rfl (step_pick rfl (ev_mk rfl) (ev_mk rfl)) trivial ?_
            refine rl0 (gn rfl) rfl rfl (step_mv rfl rfl) trivial ?_
            refine rl0 (gy rfl rfl rfl rfl rfl rfl) rfl rfl (step_fieldAddr (off := 5) rfl (ev_mk rfl) Try.underlying29 rfl F.sz25 rfl) trivial ?_
            refine' rl0 (gy rfl rfl rfl rfl rfl rfl) rfl rfl (step_load_agg rfl (ev_mk rfl) F.agg25 ?hc ?hl) ⟨?hb, trivial⟩ ?_
            case hb => repeat (first | exact uE | refine uN (by omega) ?_ | assumption | exact hd _ (by omega) | fail)
            case hc => rfl
            case hl => first | rfl | (simp; done) | (first | rfl | exact imR_len (ha _ (at_mem (xs := a.pages) (i := (j : Int)) (by omega) (by omega))) | exact imR_len (hb _ (at_mem (xs := b.pages) (i := (j : Int)) (by omega) (by omega))) | (simp [imR, ha _ (at_mem (xs := a.pages) (i := (j : Int)) (by omega) (by omega))]; done) | (simp [imR, hb _ (at_mem (xs := b.pages) (i := (j : Int)) (by omega) (by omega))]; done))
            refine rl0 (gy rfl rfl rfl rfl rfl rfl) rfl rfl (step_fieldAddr (off := 5) rfl (ev_mk rfl) Try.underlying29 rfl F.sz25 rfl) trivial ?_
            refine' rl0 (gy rfl rfl rfl rfl rfl rfl) rfl rfl (step_load_agg rfl (ev_mk rfl) F.agg25 ?hc ?hl) ⟨?hb, trivial⟩ ?_
            case hb => repeat (first | exact uE | refine uN (by omega) ?_ | assumption | exact hd _ (by omega) | fail)
            case hc => rfl
            case hl => first | rfl | (simp; done) | (first | rfl | exact imR_len (ha _ (at_mem (xs := a.pages) (i := (j : Int)) (by omega) (by omega))) | exact imR_len (hb _ (at_mem (xs := b.pages) (i := (j : Int)) (by omega) (by omega))) | (simp [imR, ha _ (at_mem (xs := a.pages) (i := (j : Int)) (by omega) (by omega))]; done) | (simp [imR, hb _ (at_mem (xs := b.pages) (i := (j : Int)) (by omega) (by omega))]; done))
            refine rl0 (gy rfl rfl rfl rfl rfl rfl) rfl rfl (step_neq25 rfl (ev_mk rfl) (ev_mk rfl)) trivial ?_
            refine rl0 (gn rfl) rfl rfl (step_pick rfl (ev_mk rfl) (ev_mk rfl)) trivial ?_
            refine rl0 (gn rfl) rfl rfl (step_mv rfl rfl) trivial ?_
            refine rl_bool (d := 47) rfl (fun h6 => ?_) (fun h6 => ?_)
            · skip
              refine rlk rfl rfl rfl rfl rfl (ngb rfl rfl) rfl rfl ?_
              refine rlk rfl rfl rfl rfl rfl (ngb rfl rfl) rfl rfl ?_
              refine rlk rfl rfl rfl rfl rfl (ngb rfl rfl) rfl rfl ?_
              refine rlk rfl rfl rfl rfl rfl (ngb rfl rfl) rfl rfl ?_
              refine rlk rfl rfl rfl rfl rfl (ngb rfl rfl) rfl rfl ?_
              refine rlk rfl rfl rfl rfl rfl (ngb rfl rfl) rfl rfl ?_
              refine rlk rfl rfl rfl rfl rfl (ngb rfl rfl) rfl rfl ?_
              refine rl0 (gn rfl) rfl rfl (step_pick rfl (ev_mk rfl) (ev_mk rfl)) trivial ?_
              refine rl0 (gn rfl) rfl rfl (step_mv rfl rfl) trivial ?_
              refine rlk rfl rfl rfl rfl rfl (ngb rfl rfl) rfl rfl ?_
              refine rlk rfl rfl rfl rfl rfl (ngb rfl rfl) rfl rfl ?_
              refine rlk rfl rfl rfl rfl rfl (ngb rfl rfl) rfl rfl ?_
              refine rlk rfl rfl rfl rfl rfl (ngb rfl rfl) rfl rfl ?_
              refine rlk rfl rfl rfl rfl rfl (ngb rfl rfl) rfl rfl ?_
              refine rlk rfl rfl rfl rfl rfl (ngb rfl rfl) rfl rfl ?_
              refine rlk rfl rfl rfl rfl rfl (ngb rfl rfl) rfl rfl ?_
              refine rl0 (gn rfl) rfl rfl (step_pick rfl (ev_mk rfl) (ev_mk rfl)) trivial ?_
              refine runsL_nil ?_
              refine runs_cond true (ev_mk rfl) (fun _ => ?_) (fun h_ => nomatch h_)
              refine runs_seq ?_
              refine runs_region ?_
              refine rl0 (gn rfl) rfl rfl (step_as rfl rfl) trivial ?_
              refine runsL_nil ?_
              refine runs_ret ?_
              first | (have hem_ := qf hq (same_lp (by assumption))) | (have hem_ := qf hq (same_la (by assumption))) | (have hem_ := qf hq (same_r (by assumption))) | (have hem_ := qf hq (same_n (j := j) (by omega))) | (have hem_ := qf hq (same_p (j := j) (by assumption))) | (have hem_ := qf hq (same_ac (j := w) (by omega))) | (have hp_ : a.pages = b.pages := ext_at (by omega) (fun i hi => hF0_1 i (by omega)); have ha_ : a.act = b.act := ext_at (by omega) (fun i hi => hF1_1 i (by omega)); have hem_ : true = q := (hq.2 ⟨hp_, ha_, by omega, by omega, by omega, by omega, by omega, by simpa using (by assumption : (!eqCs (rcV a.r) (rcV b.r)) = false)⟩).symm) | (have hem_ := qf hq (fun hs => by obtain ⟨_, _, g1, g2, g3, g4, g5, _⟩ := hs; omega))
              refine ⟨by first | exact .inr rfl | exact .inl rfl, fin_mkg (rest rfl res0) ?_ ?_ ?_ ?_ ?_⟩
              · (repeat' (first | exact VLe.refl _ | exact VLe.own_sl _ _ _ | exact VLe.fl_sl _ _ | exact VLe.nil_sl _ | exact VLe.nil_fl _ | exact VLes.refl _ | exact .nil | refine VLe.tup ?_ | refine VLe.agg ?_ | refine .cons ?_ ?_ | (rw [Int.natCast_add]; exact VLe.refl _) | exact vle_int (by omega) | exact vle_bool (by first | rfl | assumption | (simp_all; done)) | fail))
              · repeat (first | exact trivial | assumption | omega | (refine bdR_map (fun _ => ?_)) | (refine bdL_map (fun _ => ?_)) | refine ⟨?_, ?_⟩ | fail)
              · intro k_ hk_; exact ble (by repeat (first | exact rfl | refine uN (by omega) ?_ | assumption | fail))
              · intro p hp; cases hp
              · repeat (first | exact trivial | assumption | omega | (refine bdR_map (fun _ => ?_)) | (refine bdL_map (fun _ => ?_)) | refine ⟨?_, ?_⟩ | fail)
            · skip
              refine rl0 (gy rfl rfl rfl rfl rfl rfl) rfl rfl (step_fieldAddr (off := 11) rfl (ev_mk rfl) Try.underlying29 rfl F.sz26 rfl) trivial ?_
              refine' rl0 (gy rfl rfl rfl rfl rfl rfl) rfl rfl (step_load_one rfl (ev_mk rfl) F.one26 ?hv) ⟨?hb, trivial⟩ ?_
              case hb => repeat (first | exact uE | refine uN (by omega) ?_ | assumption | exact hd _ (by omega) | fail)
              case hv => rfl
              refine rl0 (gy rfl rfl rfl rfl rfl rfl) rfl rfl (step_len (m := a.pages.length) rfl rfl (ev_mk rfl) (.inl ⟨⟨_, Try.underlying26⟩, .inl ⟨_, _, .inl rfl, List.length_map _⟩⟩)) trivial ?_
              refine rl0 (gy rfl rfl rfl rfl rfl rfl) rfl rfl (step_fieldAddr (off := 11) rfl (ev_mk rfl) Try.underlying29 rfl F.sz26 rfl) trivial ?_
              refine' rl0 (gy rfl rfl rfl rfl rfl rfl) rfl rfl (step_load_one rfl (ev_mk rfl) F.one26 ?hv) ⟨?hb, trivial⟩ ?_
              case hb => repeat (first | exact uE | refine uN (by omega) ?_ | assumption | exact hd _ (by omega) | fail)
              case hv => rfl
              refine rl0 (gy rfl rfl rfl rfl rfl rfl) rfl rfl (step_len (m := b.pages.length) rfl rfl (ev_mk rfl) (.inl ⟨⟨_, Try.underlying26⟩, .inl ⟨_, _, .inl rfl, List.length_map _⟩⟩)) trivial ?_
              refine rl_neq (gy rfl rfl rfl rfl rfl rfl) rfl rfl rfl rfl rfl (fun h7 => ?_) (fun h7 => ?_)
              · skip
                refine rl0 (gn rfl) rfl rfl (step_pick rfl (ev_mk rfl) (ev_mk rfl)) trivial ?_
                refine rl0 (gn rfl) rfl rfl (step_mv rfl rfl) trivial ?_
                refine rlk rfl rfl rfl rfl rfl (ngb rfl rfl) rfl rfl ?_
                refine rlk rfl rfl rfl rfl rfl (ngb rfl rfl) rfl rfl ?_
                refine rlk rfl rfl rfl rfl rfl (ngb rfl rfl) rfl rfl ?_
                refine rlk rfl rfl rfl rfl rfl (ngb rfl rfl) rfl rfl ?_
                refine rlk rfl rfl rfl rfl rfl (ngb rfl rfl) rfl rfl ?_
                refine rlk rfl rfl rfl rfl rfl (ngb rfl rfl) rfl rfl ?_
                refine rlk rfl rfl rfl rfl rfl (ngb rfl rfl) rfl rfl ?_
                refine rl0 (gn rfl) rfl rfl (step_pick rfl (ev_mk rfl) (ev_mk rfl)) trivial ?_
                refine runsL_nil ?_
                refine runs_cond true (ev_mk rfl) (fun _ => ?_) (fun h_ => nomatch h_)
                refine runs_seq ?_
                refine runs_region ?_
                refine rl0 (gn rfl) rfl rfl (step_as rfl rfl) trivial ?_
                refine runsL_nil ?_
                refine runs_ret ?_
                first | (have hem_ := qf hq (same_lp (by assumption))) | (have hem_ := qf hq (same_la (by assumption))) | (have hem_ := qf hq (same_r (by assumption))) | (have hem_ := qf hq (same_n (j := j) (by omega))) | (have hem_ := qf hq (same_p (j := j) (by assumption))) | (have hem_ := qf hq (same_ac (j := w) (by omega))) | (have hp_ : a.pages = b.pages := ext_at (by omega) (fun i hi => hF0_1 i (by omega)); have ha_ : a.act = b.act := ext_at (by omega) (fun i hi => hF1_1 i (by omega)); have hem_ : true = q := (hq.2 ⟨hp_, ha_, by omega, by omega, by omega, by omega, by omega, by simpa using (by assumption : (!eqCs (rcV a.r) (rcV b.r)) = false)⟩).symm) | (have hem_ := qf hq (fun hs => by obtain ⟨_, _, g1, g2, g3, g4, g5, _⟩ := hs; omega))
                refine ⟨by first | exact .inr rfl | exact .inl rfl, fin_mkg (rest rfl res0) ?_ ?_ ?_ ?_ ?_⟩
                · (repeat' (first | exact VLe.refl _ | exact VLe.own_sl _ _ _ | exact VLe.fl_sl _ _ | exact VLe.nil_sl _ | exact VLe.nil_fl _ | exact VLes.refl _ | exact .nil | refine VLe.tup ?_ | refine VLe.agg ?_ | refine .cons ?_ ?_ | (rw [Int.natCast_add]; exact VLe.refl _) | exact vle_int (by omega) | exact vle_bool (by first | rfl | assumption | (simp_all; done)) | fail))
                · repeat (first | exact trivial | assumption | omega | (refine bdR_map (fun _ => ?_)) | (refine bdL_map (fun _ => ?_)) | refine ⟨?_, ?_⟩ | fail)
                · intro k_ hk_; exact ble (by repeat (first | exact rfl | refine uN (by omega) ?_ | assumption | fail))
                · intro p hp; cases hp
                · repeat (first | exact trivial | assumption | omega | (refine bdR_map (fun _ => ?_)) | (refine bdL_map (fun _ => ?_)) | refine ⟨?_, ?_⟩ | fail)
              · skip
                refine rl0 (gn rfl) rfl rfl (step_pick rfl (ev_mk rfl) (ev_mk rfl)) trivial ?_
                refine rl0 (gn rfl) rfl rfl (step_mv rfl rfl) trivial ?_
                refine rl0 (gy rfl rfl rfl rfl rfl rfl) rfl rfl (step_fieldAddr (off := 12) rfl (ev_mk rfl) Try.underlying29 rfl F.sz27 rfl) trivial ?_
                refine' rl0 (gy rfl rfl rfl rfl rfl rfl) rfl rfl (step_load_one rfl (ev_mk rfl) F.one27 ?hv) ⟨?hb, trivial⟩ ?_
                case hb => repeat (first | exact uE | refine uN (by omega) ?_ | assumption | exact hd _ (by omega) | fail)
                case hv => rfl
                refine rl0 (gy rfl rfl rfl rfl rfl rfl) rfl rfl (step_len (m := a.act.length) rfl rfl (ev_mk rfl) (.inl ⟨⟨_, Try.underlying27⟩, .inl ⟨_, _, .inl rfl, List.length_map _⟩⟩)) trivial ?_
                refine rl0 (gy rfl rfl rfl rfl rfl rfl) rfl rfl (step_fieldAddr (off := 12) rfl (ev_mk rfl) Try.underlying29 rfl F.sz27 rfl) trivial ?_
                refine' rl0 (gy rfl rfl rfl rfl rfl rfl) rfl rfl (step_load_one rfl (ev_mk rfl) F.one27 ?hv) ⟨?hb, trivial⟩ ?_
                case hb => repeat (first | exact uE | refine uN (by omega) ?_ | assumption | exact hd _ (by omega) | fail)
                case hv => rfl
                refine rl0 (gy rfl rfl rfl rfl rfl rfl) rfl rfl (step_len (m := b.act.length) rfl rfl (ev_mk rfl) (.inl ⟨⟨_, Try.underlying27⟩, .inl ⟨_, _, .inl rfl, List.length_map _⟩⟩)) trivial ?_
                refine rl_neq (gy rfl rfl rfl rfl rfl rfl) rfl rfl rfl rfl rfl (fun h8 => ?_) (fun h8 => ?_)
                · skip
                  refine rl0 (gn rfl) rfl rfl (step_pick rfl (ev_mk rfl) (ev_mk rfl)) trivial ?_
                  refine runsL_nil ?_
                  refine runs_cond true (ev_mk rfl) (fun _ => ?_) (fun h_ => nomatch h_)
                  refine runs_seq ?_
                  refine runs_region ?_
                  refine rl0 (gn rfl) rfl rfl (step_as rfl rfl) trivial ?_
                  refine runsL_nil ?_
                  refine runs_ret ?_
                  first | (have hem_ := qf hq (same_lp (by assumption))) | (have hem_ := qf hq (same_la (by assumption))) | (have hem_ := qf hq (same_r (by assumption))) | (have hem_ := qf hq (same_n (j := j) (by omega))) | (have hem_ := qf hq (same_p (j := j) (by assumption))) | (have hem_ := qf hq (same_ac (j := w) (by omega))) | (have hp_ : a.pages = b.pages := ext_at (by omega) (fun i hi => hF0_1 i (by omega)); have ha_ : a.act = b.act := ext_at (by omega) (fun i hi => hF1_1 i (by omega)); have hem_ : true = q := (hq.2 ⟨hp_, ha_, by omega, by omega, by omega, by omega, by omega, by simpa using (by assumption : (!eqCs (rcV a.r) (rcV b.r)) = false)⟩).symm) | (have hem_ := qf hq (fun hs => by obtain ⟨_, _, g1, g2, g3, g4, g5, _⟩ := hs; omega))
                  refine ⟨by first | exact .inr rfl | exact .inl rfl, fin_mkg (rest rfl res0) ?_ ?_ ?_ ?_ ?_⟩
                  · (repeat' (first | exact VLe.refl _ | exact VLe.own_sl _ _ _ | exact VLe.fl_sl _ _ | exact VLe.nil_sl _ | exact VLe.nil_fl _ | exact VLes.refl _ | exact .nil | refine VLe.tup ?_ | refine VLe.agg ?_ | refine .cons ?_ ?_ | (rw [Int.natCast_add]; exact VLe.refl _) | exact vle_int (by omega) | exact vle_bool (by first | rfl | assumption | (simp_all; done)) | fail))
                  · repeat (first | exact trivial | assumption | omega | (refine bdR_map (fun _ => ?_)) | (refine bdL_map (fun _ => ?_)) | refine ⟨?_, ?_⟩ | fail)
                  · intro k_ hk_; exact ble (by repeat (first | exact rfl | refine uN (by omega) ?_ | assumption | fail))
                  · intro p hp; cases hp
                  · repeat (first | exact trivial | assumption | omega | (refine bdR_map (fun _ => ?_)) | (refine bdL_map (fun _ => ?_)) | refine ⟨?_, ?_⟩ | fail)
                · skip
                  refine rl0 (gn rfl) rfl rfl (step_pick rfl (ev_mk rfl) (ev_mk rfl)) trivial ?_
                  refine runsL_nil ?_
                  refine runs_cond false (ev_mk rfl) (fun h_ => nomatch h_) (fun _ => ?_)
                  refine runs_skip ?_
                  refine runs_seq ?_
                  refine runs_seq ?_
                  refine runs_region ?_
                  refine rl0 (gn rfl) rfl rfl (step_as rfl rfl) trivial ?_
                  refine runsL_nil ?_
                  refine runs_block ?_
                  refine runs_loop (fun (ri_ : Nat) (st_ : Go.Vm.S) => ∃ (j : Nat) (m0 : Nat) (b0 : Nat → Box), (st_ = ⟨mk [(2, .ref (n + 0) 0), (3, .ref (n + 1) 0), (4, .sc (.bool false)), (5, .sc (.int .i64 j))], m0, b0⟩) ∧ (ri_ = a.pages.length - j) ∧ (n + 2 ≤ m0) ∧ (∀ k_, k_ < n → b0 k_ = bx k_) ∧ (b0 (n + 0) = .cells [.sc (.int .u64 a.lsn), .sc (.int .i64 a.kind), .sc (.int .u64 a.txn), .sc (.int .u64 a.prev), .sc (.int .u64 a.next), .sc (.int .u64 a.r.id), .sc (.int .u64 a.r.key), .sc (.int .u32 a.r.x), .sc (.int .u32 a.r.y), .sc (.string a.r.val), .sc (.bool a.r.gh), .sl 225 (a.pages.map imR), .sl 1 (a.act.map acR)]) ∧ (b0 (n + 1) = .cells [.sc (.int .u64 b.lsn), .sc (.int .i64 b.kind), .sc (.int .u64 b.txn), .sc (.int .u64 b.prev), .sc (.int .u64 b.next), .sc (.int .u64 b.r.id), .sc (.int .u64 b.r.key), .sc (.int .u32 b.r.x), .sc (.int .u32 b.r.y), .sc (.string b.r.val), .sc (.bool b.r.gh), .sl 225 (b.pages.map imR), .sl 1 (b.act.map acR)]) ∧ (j ≤ a.pages.length) ∧ (∀ i : Nat, i < j → at' a.pages (i : Int) = at' b.pages (i : Int))) (a.pages.length - 0) ⟨_, sle ?_ (Nat.le_refl _), 0, _, _, rfl, rfl, ?_⟩ ?_
                  · (repeat' (first | exact trivial | refine ⟨⟨_, rfl, ?_⟩, ?_⟩ | fail)); all_goals (repeat' (first | exact VLe.refl _ | exact VLe.own_sl _ _ _ | exact VLe.fl_sl _ _ | exact VLe.nil_sl _ | exact VLe.nil_fl _ | exact VLes.refl _ | exact .nil | refine VLe.tup ?_ | refine VLe.agg ?_ | refine .cons ?_ ?_ | (rw [Int.natCast_add]; exact VLe.refl _) | exact vle_int (by omega) | exact vle_bool (by first | rfl | assumption | (simp_all; done)) | fail))
                  · exact ⟨by omega, (fun k_ hk_ => by repeat (first | exact rfl | refine uN (by omega) ?_ | assumption | fail)), by first | ((repeat (first | exact uE | assumption | refine uN (by omega) ?_ | fail)); done) | exact tl_eq (by repeat (first | exact uE | assumption | refine uN (by omega) ?_ | fail)) (by first | rfl | (simp [bytesV, beB_len]; done) | (simp [bytesV, beB_len]; omega) | omega), by first | ((repeat (first | exact uE | assumption | refine uN (by omega) ?_ | fail)); done) | exact tl_eq (by repeat (first | exact uE | assumption | refine uN (by omega) ?_ | fail)) (by first | rfl | (simp [bytesV, beB_len]; done) | (simp [bytesV, beB_len]; omega) | omega), by omega, fun i hi => by omega⟩
                  · rintro _ _ ⟨j, m0, b0, rfl, rfl, hm0, hf0, hB0_0, hB0_1, hF0_0, hF0_1⟩
                    refine runs_know (fun hd0 => ?_)
                    refine runs_bump 20 ?_
                    simp only at hd0
                    refine runs_seq ?_
                    refine runs_seq ?_
                    refine runs_region ?_
                    refine rl0 (gn rfl) rfl rfl (step_mv rfl rfl) trivial ?_
                    refine rl0 (gn rfl) rfl rfl (step_fieldAddr (off := 11) rfl (ev_mk rfl) Try.underlying29 rfl F.sz26 rfl) trivial ?_
                    refine' rl0 (gn rfl) rfl rfl (step_load_one rfl (ev_mk rfl) F.one26 ?hv) ⟨?hb, trivial⟩ ?_
                    case hb => repeat (first | exact uE | refine uN (by omega) ?_ | assumption | exact hd _ (by omega) | exact hd0 _ (by omega) | fail)
                    case hv => rfl
                    refine rl0 (gn rfl) rfl rfl (step_len (m := a.pages.length) rfl rfl (ev_mk rfl) (.inl ⟨⟨_, Try.underlying26⟩, .inl ⟨_, _, .inl rfl, List.length_map _⟩⟩)) trivial ?_
                    refine rl_lss (gn rfl) rfl rfl rfl rfl rfl (fun h9 => ?_) (fun h9 => ?_)
                    · skip
                      refine runsL_nil ?_
                      refine runs_cond true (ev_mk rfl) (fun _ => ?_) (fun h_ => nomatch h_)
                      refine runs_skip ?_
                      refine runs_seq ?_
                      refine runs_block ?_
                      refine runs_seq ?_
                      refine runs_draw (by kernel_rfl) (by kernel_rfl) (by kernel_rfl) ?_
                      refine dl0 (gn rfl) rfl rfl (step_fieldAddr (off := 11) rfl (ev_mk rfl) Try.underlying29 rfl F.sz26 rfl) trivial ?_
                      refine' dl0 (gn rfl) rfl rfl (step_load_one rfl (ev_mk rfl) F.one26 ?hv) ⟨?hb, trivial⟩ ?_
                      case hb => repeat (first | exact uE | refine uN (by omega) ?_ | assumption | exact hd _ (by omega) | exact hd0 _ (by omega) | fail)
                      case hv => rfl
                      refine dl0 (gn rfl) rfl rfl (step_mv rfl rfl) trivial ?_
                      refine' dl0 (gn rfl) rfl rfl (step_index rfl (ev_mk rfl) (.inl rfl) (ev_mk rfl) Try.underlying26 F.sz51 (by omega) ?hr) trivial ?_
                      case hr => exact map_at _ _ _ (by omega) (by omega)
                      refine dl0 (gn rfl) rfl rfl (step_fieldAddr_ro (off := 0) rfl (ev_mk rfl) Try.underlying51 rfl F.sz3 rfl rfl) trivial ?_
                      refine dl0 (gn rfl) rfl rfl (step_load_ro (v := .sc (.int .i64 (at' a.pages (j : Int)).n)) rfl (ev_mk rfl) F.one3 rfl) trivial ?_
                      refine dl0 (gn rfl) rfl rfl (step_fieldAddr (off := 11) rfl (ev_mk rfl) Try.underlying29 rfl F.sz26 rfl) trivial ?_
                      refine' dl0 (gn rfl) rfl rfl (step_load_one rfl (ev_mk rfl) F.one26 ?hv) ⟨?hb, trivial⟩ ?_
                      case hb => repeat (first | exact uE | refine uN (by omega) ?_ | assumption | exact hd _ (by omega) | exact hd0 _ (by omega) | fail)
                      case hv => rfl
                      refine dl0 (gn rfl) rfl rfl (step_mv rfl rfl) trivial ?_
                      refine' dl0 (gn rfl) rfl rfl (step_index rfl (ev_mk rfl) (.inl rfl) (ev_mk rfl) Try.underlying26 F.sz51 (by omega) ?hr) trivial ?_
                      case hr => exact map_at _ _ _ (by omega) (by omega)
                      refine dl0 (gn rfl) rfl rfl (step_fieldAddr_ro (off := 0) rfl (ev_mk rfl) Try.underlying51 rfl F.sz3 rfl rfl) trivial ?_
                      refine dl0 (gn rfl) rfl rfl (step_load_ro (v := .sc (.int .i64 (at' b.pages (j : Int)).n)) rfl (ev_mk rfl) F.one3 rfl) trivial ?_
                      refine dl_neq (gn rfl) rfl rfl rfl rfl rfl (fun h10 => ?_) (fun h10 => ?_)
                      · skip
                        refine dl0 (gn rfl) rfl rfl (step_mv rfl rfl) trivial ?_
                        refine dlk rfl rfl rfl rfl rfl (ngb rfl rfl) rfl rfl ?_
                        refine dlk rfl rfl rfl rfl rfl (ngb rfl rfl) rfl rfl ?_
                        refine dlk rfl rfl rfl rfl rfl (ngb rfl rfl) rfl rfl ?_
                        refine dlk rfl rfl rfl rfl rfl (ngb rfl rfl) rfl rfl ?_
                        refine dlk rfl rfl rfl rfl rfl (ngb rfl rfl) rfl rfl ?_
                        refine dlk rfl rfl rfl rfl rfl (ngb rfl rfl) rfl rfl ?_
                        refine dlk rfl rfl rfl rfl rfl (ngb rfl rfl) rfl rfl ?_
                        refine dlk rfl rfl rfl rfl rfl (ngb rfl rfl) rfl rfl ?_
                        refine dlk rfl rfl rfl rfl rfl (ngb rfl rfl) rfl rfl ?_
                        refine dlk rfl rfl rfl rfl rfl (ngb rfl rfl) rfl rfl ?_
                        refine dlk rfl rfl rfl rfl rfl (ngb rfl rfl) rfl rfl ?_
                        refine dlk rfl rfl rfl rfl rfl (ngb rfl rfl) rfl rfl ?_
                        refine dlk rfl rfl rfl rfl rfl (ngb rfl rfl) rfl rfl ?_
                        refine dl0 (gn rfl) rfl rfl (step_pick rfl (ev_mk rfl) (ev_mk rfl)) trivial ?_
                        refine dlnil ?_ ?_
                        · repeat' (first | exact trivial | exact .inr (ap0 _ _ _ _) | exact .inr (ap2 _ _ _ _) | exact .inr (ap3 _ _ _ _) | exact .inr ⟨by first | (simp; done) | (simp; omega), by first | (simp; done) | (simp; omega)⟩ | exact .inl (by kernel_rfl) | refine ⟨?_, ?_⟩ | fail)
                        refine runs_cond true (ev_mk rfl) (fun _ => ?_) (fun h_ => nomatch h_)
                        refine runs_seq ?_
                        refine runs_region ?_
                        refine rl0 (gn rfl) rfl rfl (step_as rfl rfl) trivial ?_
                        refine runsL_nil ?_
                        refine runs_ret ?_
                        first | (have hem_ := qf hq (same_lp (by assumption))) | (have hem_ := qf hq (same_la (by assumption))) | (have hem_ := qf hq (same_r (by assumption))) | (have hem_ := qf hq (same_n (j := j) (by omega))) | (have hem_ := qf hq (same_p (j := j) (by assumption))) | (have hem_ := qf hq (same_ac (j := w) (by omega))) | (have hp_ : a.pages = b.pages := ext_at (by omega) (fun i hi => hF0_1 i (by omega)); have ha_ : a.act = b.act := ext_at (by omega) (fun i hi => hF1_1 i (by omega)); have hem_ : true = q := (hq.2 ⟨hp_, ha_, by omega, by omega, by omega, by omega, by omega, by simpa using (by assumption : (!eqCs (rcV a.r) (rcV b.r)) = false)⟩).symm) | (have hem_ := qf hq (fun hs => by obtain ⟨_, _, g1, g2, g3, g4, g5, _⟩ := hs; omega))
                        refine ⟨by first | exact .inr rfl | exact .inl rfl, fin_mkg (rest rfl res0) ?_ ?_ ?_ ?_ ?_⟩
                        · (repeat' (first | exact VLe.refl _ | exact VLe.own_sl _ _ _ | exact VLe.fl_sl _ _ | exact VLe.nil_sl _ | exact VLe.nil_fl _ | exact VLes.refl _ | exact .nil | refine VLe.tup ?_ | refine VLe.agg ?_ | refine .cons ?_ ?_ | (rw [Int.natCast_add]; exact VLe.refl _) | exact vle_int (by omega) | exact vle_bool (by first | rfl | assumption | (simp_all; done)) | fail))
                        · repeat (first | exact trivial | assumption | omega | (refine bdR_map (fun _ => ?_)) | (refine bdL_map (fun _ => ?_)) | refine ⟨?_, ?_⟩ | fail)
                        · intro k_ hk_; exact ble (by repeat (first | exact rfl | refine uN (by omega) ?_ | assumption | exact hf0 _ (by omega) | fail))
                        · intro p hp; cases hp
                        · repeat (first | exact trivial | assumption | omega | (refine bdR_map (fun _ => ?_)) | (refine bdL_map (fun _ => ?_)) | refine ⟨?_, ?_⟩ | fail)
                      · skip
                        refine dl0 (gn rfl) rfl rfl (step_mv rfl rfl) trivial ?_
                        refine dl0 (gy rfl rfl rfl rfl rfl rfl) rfl rfl (step_fieldAddr (off := 11) rfl (ev_mk rfl) Try.underlying29 rfl F.sz26 rfl) trivial ?_
                        refine' dl0 (gy rfl rfl rfl rfl rfl rfl) rfl rfl (step_load_one rfl (ev_mk rfl) F.one26 ?hv) ⟨?hb, trivial⟩ ?_
                        case hb => repeat (first | exact uE | refine uN (by omega) ?_ | assumption | exact hd _ (by omega) | exact hd0 _ (by omega) | fail)
                        case hv => rfl
                        refine dl0 (gy rfl rfl rfl rfl rfl rfl) rfl rfl (step_mv rfl rfl) trivial ?_
                        refine' dl0 (gy rfl rfl rfl rfl rfl rfl) rfl rfl (step_index rfl (ev_mk rfl) (.inl rfl) (ev_mk rfl) Try.underlying26 F.sz51 (by omega) ?hr) trivial ?_
                        case hr => exact map_at _ _ _ (by omega) (by omega)
                        refine dl0 (gy rfl rfl rfl rfl rfl rfl) rfl rfl (step_fieldAddr_ro (off := 1) rfl (ev_mk rfl) Try.underlying51 rfl F.sz49 rfl rfl) trivial ?_
                        refine dl0 (gy rfl rfl rfl rfl rfl rfl) rfl rfl (step_load_ro_all rfl rfl F.agg49 (by first | rfl | (simp; done) | (first | rfl | exact imR_len (ha _ (at_mem (xs := a.pages) (i := (j : Int)) (by omega) (by omega))) | exact imR_len (hb _ (at_mem (xs := b.pages) (i := (j : Int)) (by omega) (by omega))) | (simp [imR, ha _ (at_mem (xs := a.pages) (i := (j : Int)) (by omega) (by omega))]; done) | (simp [imR, hb _ (at_mem (xs := b.pages) (i := (j : Int)) (by omega) (by omega))]; done)))) trivial ?_
                        refine dl0 (gy rfl rfl rfl rfl rfl rfl) rfl rfl (step_fieldAddr (off := 11) rfl (ev_mk rfl) Try.underlying29 rfl F.sz26 rfl) trivial ?_
                        refine' dl0 (gy rfl rfl rfl rfl rfl rfl) rfl rfl (step_load_one rfl (ev_mk rfl) F.one26 ?hv) ⟨?hb, trivial⟩ ?_
                        case hb => repeat (first | exact uE | refine uN (by omega) ?_ | assumption | exact hd _ (by omega) | exact hd0 _ (by omega) | fail)
                        case hv => rfl
                        refine dl0 (gy rfl rfl rfl rfl rfl rfl) rfl rfl (step_mv rfl rfl) trivial ?_
                        refine' dl0 (gy rfl rfl rfl rfl rfl rfl) rfl rfl (step_index rfl (ev_mk rfl) (.inl rfl) (ev_mk rfl) Try.underlying26 F.sz51 (by omega) ?hr) trivial ?_
                        case hr => exact map_at _ _ _ (by omega) (by omega)
                        refine dl0 (gy rfl rfl rfl rfl rfl rfl) rfl rfl (step_fieldAddr_ro (off := 1) rfl (ev_mk rfl) Try.underlying51 rfl F.sz49 rfl rfl) trivial ?_
                        refine dl0 (gy rfl rfl rfl rfl rfl rfl) rfl rfl (step_load_ro_all rfl rfl F.agg49 (by first | rfl | (simp; done) | (first | rfl | exact imR_len (ha _ (at_mem (xs := a.pages) (i := (j : Int)) (by omega) (by omega))) | exact imR_len (hb _ (at_mem (xs := b.pages) (i := (j : Int)) (by omega) (by omega))) | (simp [imR, ha _ (at_mem (xs := a.pages) (i := (j : Int)) (by omega) (by omega))]; done) | (simp [imR, hb _ (at_mem (xs := b.pages) (i := (j : Int)) (by omega) (by omega))]; done)))) trivial ?_
                        refine dl0 (gy rfl rfl rfl rfl rfl rfl) rfl rfl (step_neq49 (a := (at' a.pages (j : Int)).p) (b := (at' b.pages (j : Int)).p) rfl (ev_mk rfl) (ev_mk rfl) (ha _ (at_mem (xs := a.pages) (i := (j : Int)) (by omega) (by omega))) (hb _ (at_mem (xs := b.pages) (i := (j : Int)) (by omega) (by omega)))) trivial ?_
                        refine dl0 (gn rfl) rfl rfl (step_pick rfl (ev_mk rfl) (ev_mk rfl)) trivial ?_
                        refine dlnil ?_ ?_
                        · repeat' (first | exact trivial | exact .inr (ap0 _ _ _ _) | exact .inr (ap2 _ _ _ _) | exact .inr (ap3 _ _ _ _) | exact .inr ⟨by first | (simp; done) | (simp; omega), by first | (simp; done) | (simp; omega)⟩ | exact .inl (by kernel_rfl) | refine ⟨?_, ?_⟩ | fail)
                        refine runs_cond _ (ev_mk rfl) (fun h11 => ?_) (fun h11 => ?_)
                        · skip
                          refine runs_seq ?_
                          refine runs_region ?_
                          refine rl0 (gn rfl) rfl rfl (step_as rfl rfl) trivial ?_
                          refine runsL_nil ?_
                          refine runs_ret ?_
                          first | (have hem_ := qf hq (same_lp (by assumption))) | (have hem_ := qf hq (same_la (by assumption))) | (have hem_ := qf hq (same_r (by assumption))) | (have hem_ := qf hq (same_n (j := j) (by omega))) | (have hem_ := qf hq (same_p (j := j) (by assumption))) | (have hem_ := qf hq (same_ac (j := w) (by omega))) | (have hp_ : a.pages = b.pages := ext_at (by omega) (fun i hi => hF0_1 i (by omega)); have ha_ : a.act = b.act := ext_at (by omega) (fun i hi => hF1_1 i (by omega)); have hem_ : true = q := (hq.2 ⟨hp_, ha_, by omega, by omega, by omega, by omega, by omega, by simpa using (by assumption : (!eqCs (rcV a.r) (rcV b.r)) = false)⟩).symm) | (have hem_ := qf hq (fun hs => by obtain ⟨_, _, g1, g2, g3, g4, g5, _⟩ := hs; omega))
                          refine ⟨by first | exact .inr rfl | exact .inl rfl, fin_mkg (rest rfl res0) ?_ ?_ ?_ ?_ ?_⟩
                          · (repeat' (first | exact VLe.refl _ | exact VLe.own_sl _ _ _ | exact VLe.fl_sl _ _ | exact VLe.nil_sl _ | exact VLe.nil_fl _ | exact VLes.refl _ | exact .nil | refine VLe.tup ?_ | refine VLe.agg ?_ | refine .cons ?_ ?_ | (rw [Int.natCast_add]; exact VLe.refl _) | exact vle_int (by omega) | exact vle_bool (by first | rfl | assumption | (simp_all; done)) | fail))
                          · repeat (first | exact trivial | assumption | omega | (refine bdR_map (fun _ => ?_)) | (refine bdL_map (fun _ => ?_)) | refine ⟨?_, ?_⟩ | fail)
                          · intro k_ hk_; exact ble (by repeat (first | exact rfl | refine uN (by omega) ?_ | assumption | exact hf0 _ (by omega) | fail))
                          · intro p hp; cases hp
                          · repeat (first | exact trivial | assumption | omega | (refine bdR_map (fun _ => ?_)) | (refine bdL_map (fun _ => ?_)) | refine ⟨?_, ?_⟩ | fail)
                        · skip
                          refine runs_skip ?_
                          refine runs_region ?_
                          refine rl0 (gn rfl) rfl rfl (step_mv rfl rfl) trivial ?_
                          refine rl0 (gn rfl) rfl rfl (step_add rfl (ev_mk rfl) (ev_mk rfl) (w64 (by omega))) trivial ?_
                          refine rl0 (gn rfl) rfl rfl (step_as rfl rfl) trivial ?_
                          refine runsL_nil ?_
                          refine ⟨_, _, ?_, sle ?_ (Nat.le_refl _), (j + 1), _, _, rfl, rfl, by omega, (fun k_ hk_ => by repeat (first | exact hf0 k_ hk_ | refine uN (by first | assumption | omega) ?_ | fail)), by first | ((repeat (first | exact uE | assumption | refine uN (by omega) ?_ | fail)); done) | exact tl_eq (by repeat (first | exact uE | assumption | refine uN (by omega) ?_ | fail)) (by first | rfl | (simp [bytesV, beB_len]; done) | (simp [bytesV, beB_len]; omega) | omega), by first | ((repeat (first | exact uE | assumption | refine uN (by omega) ?_ | fail)); done) | exact tl_eq (by repeat (first | exact uE | assumption | refine uN (by omega) ?_ | fail)) (by first | rfl | (simp [bytesV, beB_len]; done) | (simp [bytesV, beB_len]; omega) | omega), by omega, fun i hi => by (rcases Nat.lt_succ_iff_lt_or_eq.mp hi with h_ | h_); exact hF0_1 i h_; (subst h_; exact same_i (by omega) (((ha _ (at_mem (xs := a.pages) (i := (i : Int)) (by omega) (by omega)))).trans ((hb _ (at_mem (xs := b.pages) (i := (i : Int)) (by omega) (by omega)))).symm) (by assumption))⟩
                          · omega
                          · (repeat' (first | exact trivial | refine ⟨⟨_, rfl, ?_⟩, ?_⟩ | fail)); all_goals (repeat' (first | exact VLe.refl _ | exact VLe.own_sl _ _ _ | exact VLe.fl_sl _ _ | exact VLe.nil_sl _ | exact VLe.nil_fl _ | exact VLes.refl _ | exact .nil | refine VLe.tup ?_ | refine VLe.agg ?_ | refine .cons ?_ ?_ | (rw [Int.natCast_add]; exact VLe.refl _) | exact vle_int (by omega) | exact vle_bool (by first | rfl | assumption | (simp_all; done)) | fail))
                    · skip
                      refine runsL_nil ?_
                      refine runs_cond false (ev_mk rfl) (fun h_ => nomatch h_) (fun _ => ?_)
                      refine runs_exit ?_
                      refine runs_seq ?_
                      refine runs_seq ?_
                      refine runs_region ?_
                      refine rl0 (gn rfl) rfl rfl (step_as rfl rfl) trivial ?_
                      refine runsL_nil ?_
                      refine runs_block ?_
                      refine runs_loop (fun (ri_ : Nat) (st_ : Go.Vm.S) => ∃ (w : Nat) (m1 : Nat) (b1 : Nat → Box), (st_ = ⟨mk [(2, .ref (n + 0) 0), (3, .ref (n + 1) 0), (4, .sc (.bool false)), (6, .sc (.int .i64 w))], m1, b1⟩) ∧ (ri_ = a.act.length - w) ∧ (m0 + 0 ≤ m1) ∧ (∀ k_, k_ < n → b1 k_ = bx k_) ∧ (b1 (n + 0) = .cells [.sc (.int .u64 a.lsn), .sc (.int .i64 a.kind), .sc (.int .u64 a.txn), .sc (.int .u64 a.prev), .sc (.int .u64 a.next), .sc (.int .u64 a.r.id), .sc (.int .u64 a.r.key), .sc (.int .u32 a.r.x), .sc (.int .u32 a.r.y), .sc (.string a.r.val), .sc (.bool a.r.gh), .sl 225 (a.pages.map imR), .sl 1 (a.act.map acR)]) ∧ (b1 (n + 1) = .cells [.sc (.int .u64 b.lsn), .sc (.int .i64 b.kind), .sc (.int .u64 b.txn), .sc (.int .u64 b.prev), .sc (.int .u64 b.next), .sc (.int .u64 b.r.id), .sc (.int .u64 b.r.key), .sc (.int .u32 b.r.x), .sc (.int .u32 b.r.y), .sc (.string b.r.val), .sc (.bool b.r.gh), .sl 225 (b.pages.map imR), .sl 1 (b.act.map acR)]) ∧ (w ≤ a.act.length) ∧ (∀ i : Nat, i < w → at' a.act (i : Int) = at' b.act (i : Int))) (a.act.length - 0) ⟨_, sle ?_ (Nat.le_refl _), 0, _, _, rfl, rfl, ?_⟩ ?_
                      · (repeat' (first | exact trivial | refine ⟨⟨_, rfl, ?_⟩, ?_⟩ | fail)); all_goals (repeat' (first | exact VLe.refl _ | exact VLe.own_sl _ _ _ | exact VLe.fl_sl _ _ | exact VLe.nil_sl _ | exact VLe.nil_fl _ | exact VLes.refl _ | exact .nil | refine VLe.tup ?_ | refine VLe.agg ?_ | refine .cons ?_ ?_ | (rw [Int.natCast_add]; exact VLe.refl _) | exact vle_int (by omega) | exact vle_bool (by first | rfl | assumption | (simp_all; done)) | fail))
                      · exact ⟨by omega, (fun k_ hk_ => by repeat (first | exact rfl | refine uN (by omega) ?_ | assumption | exact hf0 _ (by omega) | fail)), by first | ((repeat (first | exact uE | assumption | refine uN (by omega) ?_ | fail)); done) | exact tl_eq (by repeat (first | exact uE | assumption | refine uN (by omega) ?_ | fail)) (by first | rfl | (simp [bytesV, beB_len]; done) | (simp [bytesV, beB_len]; omega) | omega), by first | ((repeat (first | exact uE | assumption | refine uN (by omega) ?_ | fail)); done) | exact tl_eq (by repeat (first | exact uE | assumption | refine uN (by omega) ?_ | fail)) (by first | rfl | (simp [bytesV, beB_len]; done) | (simp [bytesV, beB_len]; omega) | omega), by omega, fun i hi => by omega⟩
                      · rintro _ _ ⟨w, m1, b1, rfl, rfl, hm1, hf1, hB1_0, hB1_1, hF1_0, hF1_1⟩
                        refine runs_know (fun hd1 => ?_)
                        refine runs_bump 20 ?_
                        simp only at hd1
                        refine runs_seq ?_
                        refine runs_seq ?_
                        refine runs_region ?_
                        refine rl0 (gn rfl) rfl rfl (step_mv rfl rfl) trivial ?_
                        refine rl0 (gn rfl) rfl rfl (step_fieldAddr (off := 12) rfl (ev_mk rfl) Try.underlying29 rfl F.sz27 rfl) trivial ?_
                        refine' rl0 (gn rfl) rfl rfl (step_load_one rfl (ev_mk rfl) F.one27 ?hv) ⟨?hb, trivial⟩ ?_
                        case hb => repeat (first | exact uE | refine uN (by omega) ?_ | assumption | exact hd _ (by omega) | exact hd0 _ (by omega) | exact hd1 _ (by omega) | fail)
                        case hv => rfl
                        refine rl0 (gn rfl) rfl rfl (step_len (m := a.act.length) rfl rfl (ev_mk rfl) (.inl ⟨⟨_, Try.underlying27⟩, .inl ⟨_, _, .inl rfl, List.length_map _⟩⟩)) trivial ?_
                        refine rl_lss (gn rfl) rfl rfl rfl rfl rfl (fun h10 => ?_) (fun h10 => ?_)
                        · skip
                          refine runsL_nil ?_
                          refine runs_cond true (ev_mk rfl) (fun _ => ?_) (fun h_ => nomatch h_)
                          refine runs_skip ?_
                          refine runs_seq ?_
                          refine runs_block ?_
                          refine runs_seq ?_
                          refine runs_draw (by kernel_rfl) (by kernel_rfl) (by kernel_rfl) ?_
                          refine dl0 (gn rfl) rfl rfl (step_fieldAddr (off := 12) rfl (ev_mk rfl) Try.underlying29 rfl F.sz27 rfl) trivial ?_
                          refine' dl0 (gn rfl) rfl rfl (step_load_one rfl (ev_mk rfl) F.one27 ?hv) ⟨?hb, trivial⟩ ?_
                          case hb => repeat (first | exact uE | refine uN (by omega) ?_ | assumption | exact hd _ (by omega) | exact hd0 _ (by omega) | exact hd1 _ (by omega) | fail)
                          case hv => rfl
                          refine dl0 (gn rfl) rfl rfl (step_mv rfl rfl) trivial ?_
                          refine' dl0 (gn rfl) rfl rfl (step_index rfl (ev_mk rfl) (.inl rfl) (ev_mk rfl) Try.underlying27 F.sz22 (by omega) ?hr) trivial ?_
                          case hr => exact map_at _ _ _ (by omega) (by omega)
                          refine dl0 (gn rfl) rfl rfl (step_load_ro rfl (ev_mk rfl) F.one22 rfl) trivial ?_
                          refine dl0 (gn rfl) rfl rfl (step_fieldAddr (off := 12) rfl (ev_mk rfl) Try.underlying29 rfl F.sz27 rfl) trivial ?_
                          refine' dl0 (gn rfl) rfl rfl (step_load_one rfl (ev_mk rfl) F.one27 ?hv) ⟨?hb, trivial⟩ ?_
                          case hb => repeat (first | exact uE | refine uN (by omega) ?_ | assumption | exact hd _ (by omega) | exact hd0 _ (by omega) | exact hd1 _ (by omega) | fail)
                          case hv => rfl
                          refine dl0 (gn rfl) rfl rfl (step_mv rfl rfl) trivial ?_
                          refine' dl0 (gn rfl) rfl rfl (step_index rfl (ev_mk rfl) (.inl rfl) (ev_mk rfl) Try.underlying27 F.sz22 (by omega) ?hr) trivial ?_
                          case hr => exact map_at _ _ _ (by omega) (by omega)
                          refine dl0 (gn rfl) rfl rfl (step_load_ro rfl (ev_mk rfl) F.one22 rfl) trivial ?_
                          refine dl_neq (gn rfl) rfl rfl rfl rfl rfl (fun h11 => ?_) (fun h11 => ?_)
                          · skip
                            refine dlnil ?_ ?_
                            · repeat' (first | exact trivial | exact .inr (ap0 _ _ _ _) | exact .inr (ap2 _ _ _ _) | exact .inr (ap3 _ _ _ _) | exact .inr ⟨by first | (simp; done) | (simp; omega), by first | (simp; done) | (simp; omega)⟩ | exact .inl (by kernel_rfl) | refine ⟨?_, ?_⟩ | fail)
                            refine runs_cond true (ev_mk rfl) (fun _ => ?_) (fun h_ => nomatch h_)
                            refine runs_seq ?_
                            refine runs_region ?_
                            refine rl0 (gn rfl) rfl rfl (step_as rfl rfl) trivial ?_
                            refine runsL_nil ?_
                            refine runs_ret ?_
                            first | (have hem_ := qf hq (same_lp (by assumption))) | (have hem_ := qf hq (same_la (by assumption))) | (have hem_ := qf hq (same_r (by assumption))) | (have hem_ := qf hq (same_n (j := j) (by omega))) | (have hem_ := qf hq (same_p (j := j) (by assumption))) | (have hem_ := qf hq (same_ac (j := w) (by omega))) | (have hp_ : a.pages = b.pages := ext_at (by omega) (fun i hi => hF0_1 i (by omega)); have ha_ : a.act = b.act := ext_at (by omega) (fun i hi => hF1_1 i (by omega)); have hem_ : true = q := (hq.2 ⟨hp_, ha_, by omega, by omega, by omega, by omega, by omega, by simpa using (by assumption : (!eqCs (rcV a.r) (rcV b.r)) = false)⟩).symm) | (have hem_ := qf hq (fun hs => by obtain ⟨_, _, g1, g2, g3, g4, g5, _⟩ := hs; omega))
                            refine ⟨by first | exact .inr rfl | exact .inl rfl, fin_mkg (rest rfl res0) ?_ ?_ ?_ ?_ ?_⟩
                            · (repeat' (first | exact VLe.refl _ | exact VLe.own_sl _ _ _ | exact VLe.fl_sl _ _ | exact VLe.nil_sl _ | exact VLe.nil_fl _ | exact VLes.refl _ | exact .nil | refine VLe.tup ?_ | refine VLe.agg ?_ | refine .cons ?_ ?_ | (rw [Int.natCast_add]; exact VLe.refl _) | exact vle_int (by omega) | exact vle_bool (by first | rfl | assumption | (simp_all; done)) | fail))
                            · repeat (first | exact trivial | assumption | omega | (refine bdR_map (fun _ => ?_)) | (refine bdL_map (fun _ => ?_)) | refine ⟨?_, ?_⟩ | fail)
                            · intro k_ hk_; exact ble (by repeat (first | exact rfl | refine uN (by omega) ?_ | assumption | exact hf0 _ (by omega) | exact hf1 _ (by omega) | fail))
                            · intro p hp; cases hp
                            · repeat (first | exact trivial | assumption | omega | (refine bdR_map (fun _ => ?_)) | (refine bdL_map (fun _ => ?_)) | refine ⟨?_, ?_⟩ | fail)
                          · skip
                            refine dlnil ?_ ?_
                            · repeat' (first | exact trivial | exact .inr (ap0 _ _ _ _) | exact .inr (ap2 _ _ _ _) | exact .inr (ap3 _ _ _ _) | exact .inr ⟨by first | (simp; done) | (simp; omega), by first | (simp; done) | (simp; omega)⟩ | exact .inl (by kernel_rfl) | refine ⟨?_, ?_⟩ | fail)
                            refine runs_cond false (ev_mk rfl) (fun h_ => nomatch h_) (fun _ => ?_)
                            refine runs_skip ?_
                            refine runs_region ?_
                            refine rl0 (gn rfl) rfl rfl (step_mv rfl rfl) trivial ?_
                            refine rl0 (gn rfl) rfl rfl (step_add rfl (ev_mk rfl) (ev_mk rfl) (w64 (by omega))) trivial ?_
                            refine rl0 (gn rfl) rfl rfl (step_as rfl rfl) trivial ?_
                            refine runsL_nil ?_
                            refine ⟨_, _, ?_, sle ?_ (Nat.le_refl _), (w + 1), _, _, rfl, rfl, by omega, (fun k_ hk_ => by repeat (first | exact hf1 k_ hk_ | exact hf0 k_ hk_ | refine uN (by first | assumption | omega) ?_ | fail)), by first | ((repeat (first | exact uE | assumption | refine uN (by omega) ?_ | fail)); done) | exact tl_eq (by repeat (first | exact uE | assumption | refine uN (by omega) ?_ | fail)) (by first | rfl | (simp [bytesV, beB_len]; done) | (simp [bytesV, beB_len]; omega) | omega), by first | ((repeat (first | exact uE | assumption | refine uN (by omega) ?_ | fail)); done) | exact tl_eq (by repeat (first | exact uE | assumption | refine uN (by omega) ?_ | fail)) (by first | rfl | (simp [bytesV, beB_len]; done) | (simp [bytesV, beB_len]; omega) | omega), by omega, fun i hi => by (rcases Nat.lt_succ_iff_lt_or_eq.mp hi with h_ | h_); exact hF1_1 i h_; (subst h_; omega)⟩
                            · omega
                            · (repeat' (first | exact trivial | refine ⟨⟨_, rfl, ?_⟩, ?_⟩ | fail)); all_goals (repeat' (first | exact VLe.refl _ | exact VLe.own_sl _ _ _ | exact VLe.fl_sl _ _ | exact VLe.nil_sl _ | exact VLe.nil_fl _ | exact VLes.refl _ | exact .nil | refine VLe.tup ?_ | refine VLe.agg ?_ | refine .cons ?_ ?_ | (rw [Int.natCast_add]; exact VLe.refl _) | exact vle_int (by omega) | exact vle_bool (by first | rfl | assumption | (simp_all; done)) | fail))
                        · skip
                          refine runsL_nil ?_
                          refine runs_cond false (ev_mk rfl) (fun h_ => nomatch h_) (fun _ => ?_)
                          refine runs_exit ?_
                          refine runs_seq ?_
                          refine runs_region ?_
                          refine rl0 (gn rfl) rfl rfl (step_as rfl rfl) trivial ?_
                          refine runsL_nil ?_
                          refine runs_ret ?_
                          first | (have hem_ := qf hq (same_lp (by assumption))) | (have hem_ := qf hq (same_la (by assumption))) | (have hem_ := qf hq (same_r (by assumption))) | (have hem_ := qf hq (same_n (j := j) (by omega))) | (have hem_ := qf hq (same_p (j := j) (by assumption))) | (have hem_ := qf hq (same_ac (j := w) (by omega))) | (have hp_ : a.pages = b.pages := ext_at (by omega) (fun i hi => hF0_1 i (by omega)); have ha_ : a.act = b.act := ext_at (by omega) (fun i hi => hF1_1 i (by omega)); have hem_ : true = q := (hq.2 ⟨hp_, ha_, by omega, by omega, by omega, by omega, by omega, by simpa using (by assumption : (!eqCs (rcV a.r) (rcV b.r)) = false)⟩).symm) | (have hem_ := qf hq (fun hs => by obtain ⟨_, _, g1, g2, g3, g4, g5, _⟩ := hs; omega))
                          refine ⟨by first | exact .inr rfl | exact .inl rfl, fin_mkg (rest rfl res0) ?_ ?_ ?_ ?_ ?_⟩
                          · (repeat' (first | exact VLe.refl _ | exact VLe.own_sl _ _ _ | exact VLe.fl_sl _ _ | exact VLe.nil_sl _ | exact VLe.nil_fl _ | exact VLes.refl _ | exact .nil | refine VLe.tup ?_ | refine VLe.agg ?_ | refine .cons ?_ ?_ | (rw [Int.natCast_add]; exact VLe.refl _) | exact vle_int (by omega) | exact vle_bool (by first | rfl | assumption | (simp_all; done)) | fail))
                          · repeat (first | exact trivial | assumption | omega | (refine bdR_map (fun _ => ?_)) | (refine bdL_map (fun _ => ?_)) | refine ⟨?_, ?_⟩ | fail)
                          · intro k_ hk_; exact ble (by repeat (first | exact rfl | refine uN (by omega) ?_ | assumption | exact hf0 _ (by omega) | exact hf1 _ (by omega) | fail))
                          · intro p hp; cases hp
                          · repeat (first | exact trivial | assumption | omega | (refine bdR_map (fun _ => ?_)) | (refine bdL_map (fun _ => ?_)) | refine ⟨?_, ?_⟩ | fail)
end Go.Proofs.Ytgfmjipdegkemaa
