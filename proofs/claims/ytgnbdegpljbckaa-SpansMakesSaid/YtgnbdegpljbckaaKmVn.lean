/- Walks by the logic of values. -/
import Derived.Test.YtgnbdegpljbckaaKmVmT
import Derived.Test.YtgnbdegpljbckaaKmVmP
import Derived.Test.YtgnbdegpljbckaaKmVmV
import Derived.Test.YtgnbdegpljbckaaKmVa
import Derived.Test.YtgnbdegpljbckaaKmVp
import Derived.Test.YtgnbdegpljbckaaKmVb
import Derived.Test.YtgnbdegpljbckaaKmVc
import Derived.Test.YtgnbdegpljbckaaKmVd
import Derived.Test.YtgnbdegpljbckaaKmVe
import Derived.Test.YtgnbdegpljbckaaKmVf
import Derived.Test.YtgnbdegpljbckaaKmVg
import Derived.Test.YtgnbdegpljbckaaKmVh
import Derived.Test.YtgnbdegpljbckaaKmVi
import Derived.Test.YtgnbdegpljbckaaKmVj
import Derived.Test.YtgnbdegpljbckaaKmVk
import Derived.Test.YtgnbdegpljbckaaKmVl
namespace Go.Proofs.Ytgnbdegpljbckaa
open Go.Vm
set_option linter.unusedVariables false
set_option linter.unusedSimpArgs false
attribute [local irreducible] bC
def bV_ (r : Nat → Bool) : List Value := (List.range 256).map fun k => .bool (r k)
theorem bV_c (r : Nat → Bool) : bC r = (bV_ r).map V.sc := by unfold bC bV_; rw [List.map_map]; rfl
theorem bV_eqs (f g : Nat → Bool) : ∀ l : List Nat, eqCs (l.map fun k => Value.bool (f k)) (l.map fun k => Value.bool (g k)) = l.all fun k => f k == g k
  | [] => rfl
  | k :: l => by simp only [List.map_cons, eqCs, eqC, bV_eqs f g l, List.all_cons]
theorem bV_fits (f : Nat → Bool) : fitsL (List.replicate 256 CK.b) (bV_ f) = true := by
  have : ∀ l : List Nat, fitsL (List.replicate l.length CK.b) (l.map fun k => Value.bool (f k)) = true := by
    intro l
    induction l with
    | nil => rfl
    | cons a l ih => simp only [List.length_cons, List.replicate_succ, List.map_cons, fitsL, CK.fits, ih]; rfl
  have h := this (List.range 256)
  rw [List.length_range] at h; exact h
theorem shape31 : shapeOf Try.prog 3 31 = some (List.replicate 256 CK.b) := by kernel_rfl
theorem eqg31 : Try.prog.eqGuardType Try.prog.depth 31 = false := by kernel_rfl
def aeq (r s : Nat → Bool) : Bool := (List.range 256).all fun k => r k == s k
theorem step_eql31 {o : Oper} {t : Nat → V} {x y : Operand} {f f2 : Nat → Bool} {ty2 : TypeId} (ho : o.op = .binOp .eql 31 x y ty2) (hx : ev t x = .agg (bC f)) (hy : ev t y = .agg (bC f2)) : StepOK Try.prog o t [] [] (.sc (.bool (aeq f f2))) := by
  rw [bV_c] at hx hy
  exact step_eq_agg ho hx hy shape31 (by omega) ⟨_, Try.underlying31, rfl⟩ eqg31 (bV_fits f) (bV_fits f2) (.inl ⟨rfl, (bV_eqs f f2 _).symm⟩)
theorem same_aeq {a b : List Sp} {r s : Nat → Bool} (ha : Is a r) (hb : Is b s) : decide (a = b) = aeq r s := by
  have h : aeq r s = true ↔ ∀ k, k < 256 → r k = s k := by
    unfold aeq; rw [List.all_eq_true]
    exact ⟨fun q k hk => by simpa using q k (List.mem_range.2 hk), fun q k hk => by rw [q k (List.mem_range.1 hk)]; simp⟩
  rw [Bool.eq_iff_iff, h, decide_eq_true_eq]; exact ha.same hb
set_option maxRecDepth 100000 in
set_option maxHeartbeats 4000000 in
theorem makes_c (l m : List Sp) (x : Sp) (hx : ∀ y ∈ l, inM 255 y) (hm : ∀ y ∈ m, inM 255 y) (hxx : inM 255 x) (hw : Does Try.prog 6 [] [] [] (.sc (.bool true))) : Does Try.prog 3 [.sl 2 (l.map spB), .sl 2 (m.map spB), .agg (spB x)] [] [] (.sc (.bool true)) := by
  refine does_mkg 40 Try.func3 rfl rfl rfl (fun n B bx hd hpre hup hvs hbx hgx => ?_)
  refine runs_seq ?_
  refine runs_region ?_
  refine rl1 (gn rfl) rfl rfl (step_box_agg (k := n + 0) rfl rfl) ⟨by repeat (first | exact uE | refine uN (by omega) ?_ | assumption | exact hd _ (by omega) | fail), trivial⟩ (by omega) ?_
  refine rl0 (gn rfl) rfl rfl (step_as rfl rfl) trivial ?_
  refine runsL_nil ?_
  refine runs_seq ?_
  refine runs_seq ?_
  refine runs_region ?_
  refine rl0 (gn rfl) rfl rfl (step_mv rfl rfl) trivial ?_
  refine rl0 (gn rfl) rfl rfl (step_len (m := l.length) rfl rfl (ev_mk rfl) (.inl ⟨⟨_, Try.underlying22⟩, .inl ⟨_, _, .inl rfl, List.length_map _⟩⟩)) trivial ?_
  refine rl_gtr (gn rfl) rfl rfl rfl rfl rfl (fun h1 => ?_) (fun h1 => ?_)
  · skip
    refine rl0 (gn rfl) rfl rfl (step_mv rfl rfl) trivial ?_
    refine rlk rfl rfl rfl rfl rfl (ngb rfl rfl) rfl rfl ?_
    refine rlk rfl rfl rfl rfl rfl (ngb rfl rfl) rfl rfl ?_
    refine rlk rfl rfl rfl rfl rfl (ngb rfl rfl) rfl rfl ?_
    refine rl0 (gn rfl) rfl rfl (step_pick rfl (ev_mk rfl) (ev_mk rfl)) trivial ?_
    refine runsL_nil ?_
    refine runs_cond true (ev_mk rfl) (fun _ => ?_) (fun h_ => nomatch h_)
    refine runs_seq ?_
    refine runs_region ?_
    refine rl0 (gn rfl) rfl rfl (step_callc rfl Try.func6 rfl rfl rfl (hw) (by repeat (first | exact .nil | refine .cons ?_ ?_ | exact VLe.refl _ | refine VLe.agg ?_ | exact VLe.own_sl _ _ _ | exact VLe.fl_sl _ _ | exact VLe.nil_sl _ | exact vle_int (by omega)))) trivial ?_
    refine rl0 (gn rfl) rfl rfl (step_as rfl rfl) trivial ?_
    refine runsL_nil ?_
    refine runs_ret ?_
    refine ⟨by first | exact .inr rfl | exact .inl rfl, fin_mkg (rest rfl res0) ?_ ?_ ?_ ?_ ?_⟩
    · (repeat' (first | exact VLe.refl _ | exact VLe.own_sl _ _ _ | exact VLe.fl_sl _ _ | exact VLe.nil_sl _ | exact VLe.nil_fl _ | exact VLes.refl _ | exact .nil | refine VLe.tup ?_ | refine VLe.agg ?_ | refine .cons ?_ ?_ | (rw [Int.natCast_add]; exact VLe.refl _) | exact vle_int (by omega) | exact vle_bool (by first | rfl | assumption | (simp_all; done) | fail) | fail))
    · first | ((repeat (first | exact trivial | exact bd_bCA _ _ | exact bd_bC _ _ | assumption | omega | (refine bdR_map (fun _ => ?_)) | refine ⟨?_, ?_⟩ | fail)); done) | (repeat (first | exact trivial | assumption | omega | (refine bdR_map (fun _ => ?_)) | (refine bdL_map (fun _ => ?_)) | refine ⟨?_, ?_⟩ | fail))
    · intro k_ hk_; exact ble (by repeat (first | exact rfl | refine uN (by omega) ?_ | assumption | fail))
    · intro p hp; cases hp
    · first | ((repeat (first | exact trivial | exact bd_bCA _ _ | exact bd_bC _ _ | assumption | omega | (refine bdR_map (fun _ => ?_)) | refine ⟨?_, ?_⟩ | fail)); done) | (repeat (first | exact trivial | assumption | omega | (refine bdR_map (fun _ => ?_)) | (refine bdL_map (fun _ => ?_)) | refine ⟨?_, ?_⟩ | fail))
  · skip
    refine rl0 (gn rfl) rfl rfl (step_mv rfl rfl) trivial ?_
    refine rl0 (gy rfl rfl rfl rfl rfl rfl) rfl rfl (step_mv rfl rfl) trivial ?_
    refine rl0 (gy rfl rfl rfl rfl rfl rfl) rfl rfl (step_len (m := m.length) rfl rfl (ev_mk rfl) (.inl ⟨⟨_, Try.underlying22⟩, .inl ⟨_, _, .inl rfl, List.length_map _⟩⟩)) trivial ?_
    refine rl_gtr (gy rfl rfl rfl rfl rfl rfl) rfl rfl rfl rfl rfl (fun h2 => ?_) (fun h2 => ?_)
    · skip
      refine rl0 (gn rfl) rfl rfl (step_pick rfl (ev_mk rfl) (ev_mk rfl)) trivial ?_
      refine runsL_nil ?_
      refine runs_cond true (ev_mk rfl) (fun _ => ?_) (fun h_ => nomatch h_)
      refine runs_seq ?_
      refine runs_region ?_
      refine rl0 (gn rfl) rfl rfl (step_callc rfl Try.func6 rfl rfl rfl (hw) (by repeat (first | exact .nil | refine .cons ?_ ?_ | exact VLe.refl _ | refine VLe.agg ?_ | exact VLe.own_sl _ _ _ | exact VLe.fl_sl _ _ | exact VLe.nil_sl _ | exact vle_int (by omega)))) trivial ?_
      refine rl0 (gn rfl) rfl rfl (step_as rfl rfl) trivial ?_
      refine runsL_nil ?_
      refine runs_ret ?_
      refine ⟨by first | exact .inr rfl | exact .inl rfl, fin_mkg (rest rfl res0) ?_ ?_ ?_ ?_ ?_⟩
      · (repeat' (first | exact VLe.refl _ | exact VLe.own_sl _ _ _ | exact VLe.fl_sl _ _ | exact VLe.nil_sl _ | exact VLe.nil_fl _ | exact VLes.refl _ | exact .nil | refine VLe.tup ?_ | refine VLe.agg ?_ | refine .cons ?_ ?_ | (rw [Int.natCast_add]; exact VLe.refl _) | exact vle_int (by omega) | exact vle_bool (by first | rfl | assumption | (simp_all; done) | fail) | fail))
      · first | ((repeat (first | exact trivial | exact bd_bCA _ _ | exact bd_bC _ _ | assumption | omega | (refine bdR_map (fun _ => ?_)) | refine ⟨?_, ?_⟩ | fail)); done) | (repeat (first | exact trivial | assumption | omega | (refine bdR_map (fun _ => ?_)) | (refine bdL_map (fun _ => ?_)) | refine ⟨?_, ?_⟩ | fail))
      · intro k_ hk_; exact ble (by repeat (first | exact rfl | refine uN (by omega) ?_ | assumption | fail))
      · intro p hp; cases hp
      · first | ((repeat (first | exact trivial | exact bd_bCA _ _ | exact bd_bC _ _ | assumption | omega | (refine bdR_map (fun _ => ?_)) | refine ⟨?_, ?_⟩ | fail)); done) | (repeat (first | exact trivial | assumption | omega | (refine bdR_map (fun _ => ?_)) | (refine bdL_map (fun _ => ?_)) | refine ⟨?_, ?_⟩ | fail))
    · skip
      have hia_ := is_of hx
      have hib_ := is_of hm
      have hsa_ := setM_of hx
      have hsb_ := setM_of hm
      have hol_ := of_len l
      have hom_ := of_len m
      have hjl_ := join_len (ofL m) (ofL l)
      have hll_ := less_len (m := ofL m) hsa_.c
      have hml_ := meet_len (m := ofL m) hsa_.c
      have hal_ := addL_len (ofL l) x
      have hcl_ := cutL_len (x := x) hsa_.c
      have hnl_ := not_len (M := 255) (a := ofL l)
      have hx1_ : ∀ y ∈ [x], inM 255 y := fun y hy_ => by rw [List.mem_singleton.1 hy_]; exact hxx
      refine rl0 (gn rfl) rfl rfl (step_pick rfl (ev_mk rfl) (ev_mk rfl)) trivial ?_
      refine runsL_nil ?_
      refine runs_cond false (ev_mk rfl) (fun h_ => nomatch h_) (fun _ => ?_)
      refine runs_skip ?_
      refine runs_seq ?_
      refine runs_region ?_
      refine rl0 (gn rfl) rfl rfl (step_mv rfl rfl) trivial ?_
      refine rl0 (gn rfl) rfl rfl (step_callc rfl Try.func8 rfl rfl rfl (own_c l (by omega)) (by repeat (first | exact .nil | refine .cons ?_ ?_ | exact VLe.refl _ | refine VLe.agg ?_ | exact VLe.own_sl _ _ _ | exact VLe.fl_sl _ _ | exact VLe.nil_sl _ | exact vle_int (by omega)))) trivial ?_
      refine rl0 (gn rfl) rfl rfl (step_callc rfl Try.func7 rfl rfl rfl (of_B l hx (by omega)) (by repeat (first | exact .nil | refine .cons ?_ ?_ | exact VLe.refl _ | refine VLe.agg ?_ | exact VLe.own_sl _ _ _ | exact VLe.fl_sl _ _ | exact VLe.nil_sl _ | exact vle_int (by omega)))) trivial ?_
      refine rl0 (gn rfl) rfl rfl (step_mv rfl rfl) trivial ?_
      refine rl0 (gn rfl) rfl rfl (step_callc rfl Try.func8 rfl rfl rfl (own_c m (by omega)) (by repeat (first | exact .nil | refine .cons ?_ ?_ | exact VLe.refl _ | refine VLe.agg ?_ | exact VLe.own_sl _ _ _ | exact VLe.fl_sl _ _ | exact VLe.nil_sl _ | exact vle_int (by omega)))) trivial ?_
      refine rl0 (gn rfl) rfl rfl (step_callc rfl Try.func7 rfl rfl rfl (of_B m hm (by omega)) (by repeat (first | exact .nil | refine .cons ?_ ?_ | exact VLe.refl _ | refine VLe.agg ?_ | exact VLe.own_sl _ _ _ | exact VLe.fl_sl _ _ | exact VLe.nil_sl _ | exact vle_int (by omega)))) trivial ?_
      refine rl1 (gn rfl) rfl rfl (step_allocc (k := n + 1) (zs := [.slice none 0 0]) (cs := [.sc (.slice none 0 0)]) rfl F.zero28 (by first | rfl | simp) (by first | rfl | decide | simp) (by first | rfl | simp)) ⟨by repeat (first | exact uE | refine uN (by omega) ?_ | assumption | exact hd _ (by omega) | fail), trivial⟩ (by omega) ?_
      refine rl1 (gn rfl) rfl rfl (step_allocc (k := n + 2) (zs := [.slice none 0 0]) (cs := [.sc (.slice none 0 0)]) rfl F.zero28 (by first | rfl | simp) (by first | rfl | decide | simp) (by first | rfl | simp)) ⟨by repeat (first | exact uE | refine uN (by omega) ?_ | assumption | exact hd _ (by omega) | fail), trivial⟩ (by omega) ?_
      refine' rls (gn rfl) rfl (step_storeA rfl rfl rfl rfl F.agg28 ?hm ?hl) ⟨?hb, trivial⟩ ?hk ?_
      case hb => repeat (first | exact uE | refine uN (by omega) ?_ | assumption | exact hd _ (by omega) | fail)
      case hm => first | rfl | (simp; done) | (first | exact bC_len _ | (simp; done) | (rw [bC_len]; omega) | omega)
      case hl => first | rfl | (simp; done) | (first | exact bC_len _ | (simp; done) | (rw [bC_len]; omega) | omega)
      case hk => omega
      refine' rls (gn rfl) rfl (step_storeA rfl rfl rfl rfl F.agg28 ?hm ?hl) ⟨?hb, trivial⟩ ?hk ?_
      case hb => repeat (first | exact uE | refine uN (by omega) ?_ | assumption | exact hd _ (by omega) | fail)
      case hm => first | rfl | (simp; done) | (first | exact bC_len _ | (simp; done) | (rw [bC_len]; omega) | omega)
      case hl => first | rfl | (simp; done) | (first | exact bC_len _ | (simp; done) | (rw [bC_len]; omega) | omega)
      case hk => omega
      refine runsL_nil ?_
      refine runs_seq ?_
      refine runs_region ?_
      refine rl0 (gn rfl) rfl rfl (step_mv rfl rfl) trivial ?_
      refine rl0 (gn rfl) rfl rfl (step_callc rfl Try.func9 rfl rfl rfl (rof_c l (by omega) hx) (by repeat (first | exact .nil | refine .cons ?_ ?_ | exact VLe.refl _ | refine VLe.agg ?_ | exact VLe.own_sl _ _ _ | exact VLe.fl_sl _ _ | exact VLe.nil_sl _ | exact vle_int (by omega)))) trivial ?_
      refine rl0 (gn rfl) rfl rfl (step_mv rfl rfl) trivial ?_
      refine rl0 (gn rfl) rfl rfl (step_callc rfl Try.func9 rfl rfl rfl (rof_c m (by omega) hm) (by repeat (first | exact .nil | refine .cons ?_ ?_ | exact VLe.refl _ | refine VLe.agg ?_ | exact VLe.own_sl _ _ _ | exact VLe.fl_sl _ _ | exact VLe.nil_sl _ | exact vle_int (by omega)))) trivial ?_
      refine rl1 (gn rfl) rfl rfl (step_allocc (k := n + 3) (zs := (List.replicate 256 (.bool false))) (cs := List.replicate 256 (.sc (.bool false))) rfl F.zero31 (by first | rfl | simp) (by first | rfl | decide | simp) (by first | rfl | simp)) ⟨by repeat (first | exact uE | refine uN (by omega) ?_ | assumption | exact hd _ (by omega) | fail), trivial⟩ (by omega) ?_
      refine rl1 (gn rfl) rfl rfl (step_allocc (k := n + 4) (zs := (List.replicate 256 (.bool false))) (cs := List.replicate 256 (.sc (.bool false))) rfl F.zero31 (by first | rfl | simp) (by first | rfl | decide | simp) (by first | rfl | simp)) ⟨by repeat (first | exact uE | refine uN (by omega) ?_ | assumption | exact hd _ (by omega) | fail), trivial⟩ (by omega) ?_
      refine' rls (gn rfl) rfl (step_storeA rfl rfl rfl rfl F.agg31 ?hm ?hl) ⟨?hb, trivial⟩ ?hk ?_
      case hb => repeat (first | exact uE | refine uN (by omega) ?_ | assumption | exact hd _ (by omega) | fail)
      case hm => first | rfl | (simp; done) | (first | exact bC_len _ | (simp; done) | (rw [bC_len]; omega) | omega)
      case hl => first | rfl | (simp; done) | (first | exact bC_len _ | (simp; done) | (rw [bC_len]; omega) | omega)
      case hk => omega
      refine' rls (gn rfl) rfl (step_storeA rfl rfl rfl rfl F.agg31 ?hm ?hl) ⟨?hb, trivial⟩ ?hk ?_
      case hb => repeat (first | exact uE | refine uN (by omega) ?_ | assumption | exact hd _ (by omega) | fail)
      case hm => first | rfl | (simp; done) | (first | exact bC_len _ | (simp; done) | (rw [bC_len]; omega) | omega)
      case hl => first | rfl | (simp; done) | (first | exact bC_len _ | (simp; done) | (rw [bC_len]; omega) | omega)
      case hk => omega
      refine runsL_nil ?_
      refine runs_seq ?_
      refine runs_seq ?_
      refine runs_draw (by kernel_rfl) (by kernel_rfl) (by kernel_rfl) ?_
      refine' dl0 (gn rfl) rfl rfl (step_load_all rfl rfl F.agg28 ?hl) ⟨?hb, trivial⟩ ?_
      case hb => repeat (first | exact uE | refine uN (by omega) ?_ | assumption | exact hd _ (by omega) | fail)
      case hl => first | rfl | (simp; done) | (first | exact bC_len _ | (simp; done) | (rw [bC_len]; omega) | omega)
      refine' dl0 (gn rfl) rfl rfl (step_load_all rfl rfl F.agg31 ?hl) ⟨?hb, trivial⟩ ?_
      case hb => repeat (first | exact uE | refine uN (by omega) ?_ | assumption | exact hd _ (by omega) | fail)
      case hl => first | rfl | (simp; done) | (first | exact bC_len _ | (simp; done) | (rw [bC_len]; omega) | omega)
      refine dl0 (gn rfl) rfl rfl (step_callc rfl Try.func10 rfl rfl rfl (is_c (ofL l) (ofR l) hia_ (by omega)) (by repeat (first | exact .nil | refine .cons ?_ ?_ | exact VLe.refl _ | refine VLe.agg ?_ | exact VLe.own_sl _ _ _ | exact VLe.fl_sl _ _ | exact VLe.nil_sl _ | exact vle_int (by omega)))) trivial ?_
      refine dl0 (gn rfl) rfl rfl (step_unOp (c := .bool false) rfl (ev_mk rfl) (fun _ => rfl)) trivial ?_
      refine dl0 (gn rfl) rfl rfl (step_mv rfl rfl) trivial ?_
      refine' dl0 (gy rfl rfl rfl rfl rfl rfl) rfl rfl (step_load_all rfl rfl F.agg28 ?hl) ⟨?hb, trivial⟩ ?_
      case hb => repeat (first | exact uE | refine uN (by omega) ?_ | assumption | exact hd _ (by omega) | fail)
      case hl => first | rfl | (simp; done) | (first | exact bC_len _ | (simp; done) | (rw [bC_len]; omega) | omega)
      refine' dl0 (gy rfl rfl rfl rfl rfl rfl) rfl rfl (step_load_all rfl rfl F.agg31 ?hl) ⟨?hb, trivial⟩ ?_
      case hb => repeat (first | exact uE | refine uN (by omega) ?_ | assumption | exact hd _ (by omega) | fail)
      case hl => first | rfl | (simp; done) | (first | exact bC_len _ | (simp; done) | (rw [bC_len]; omega) | omega)
      refine dl0 (gy rfl rfl rfl rfl rfl rfl) rfl rfl (step_callc rfl Try.func10 rfl rfl rfl (is_c (ofL m) (ofR m) hib_ (by omega)) (by repeat (first | exact .nil | refine .cons ?_ ?_ | exact VLe.refl _ | refine VLe.agg ?_ | exact VLe.own_sl _ _ _ | exact VLe.fl_sl _ _ | exact VLe.nil_sl _ | exact vle_int (by omega)))) trivial ?_
      refine dl0 (gy rfl rfl rfl rfl rfl rfl) rfl rfl (step_unOp (c := .bool false) rfl (ev_mk rfl) (fun _ => rfl)) trivial ?_
      refine dl0 (gn rfl) rfl rfl (step_pick rfl (ev_mk rfl) (ev_mk rfl)) trivial ?_
      refine dl0 (gn rfl) rfl rfl (step_mv rfl rfl) trivial ?_
      refine' dl0 (gy rfl rfl rfl rfl rfl rfl) rfl rfl (step_load_all rfl rfl F.agg28 ?hl) ⟨?hb, trivial⟩ ?_
      case hb => repeat (first | exact uE | refine uN (by omega) ?_ | assumption | exact hd _ (by omega) | fail)
      case hl => first | rfl | (simp; done) | (first | exact bC_len _ | (simp; done) | (rw [bC_len]; omega) | omega)
      refine' dl0 (gy rfl rfl rfl rfl rfl rfl) rfl rfl (step_load_all rfl rfl F.agg28 ?hl) ⟨?hb, trivial⟩ ?_
      case hb => repeat (first | exact uE | refine uN (by omega) ?_ | assumption | exact hd _ (by omega) | fail)
      case hl => first | rfl | (simp; done) | (first | exact bC_len _ | (simp; done) | (rw [bC_len]; omega) | omega)
      refine dl0 (gy rfl rfl rfl rfl rfl rfl) rfl rfl (step_callc rfl Try.func11 rfl rfl rfl (join_B (ofL l) (ofL m) hsa_ hsb_ (by omega)) (by repeat (first | exact .nil | refine .cons ?_ ?_ | exact VLe.refl _ | refine VLe.agg ?_ | exact VLe.own_sl _ _ _ | exact VLe.fl_sl _ _ | exact VLe.nil_sl _ | exact vle_int (by omega)))) trivial ?_
      refine' dl0 (gy rfl rfl rfl rfl rfl rfl) rfl rfl (step_load_all rfl rfl F.agg31 ?hl) ⟨?hb, trivial⟩ ?_
      case hb => repeat (first | exact uE | refine uN (by omega) ?_ | assumption | exact hd _ (by omega) | fail)
      case hl => first | rfl | (simp; done) | (first | exact bC_len _ | (simp; done) | (rw [bC_len]; omega) | omega)
      refine' dl0 (gy rfl rfl rfl rfl rfl rfl) rfl rfl (step_load_all rfl rfl F.agg31 ?hl) ⟨?hb, trivial⟩ ?_
      case hb => repeat (first | exact uE | refine uN (by omega) ?_ | assumption | exact hd _ (by omega) | fail)
      case hl => first | rfl | (simp; done) | (first | exact bC_len _ | (simp; done) | (rw [bC_len]; omega) | omega)
      refine dl0 (gy rfl rfl rfl rfl rfl rfl) rfl rfl (step_callc rfl Try.func12 rfl rfl rfl (rboth_1 (ofR l) (ofR m)) (by repeat (first | exact .nil | refine .cons ?_ ?_ | exact VLe.refl _ | refine VLe.agg ?_ | exact VLe.own_sl _ _ _ | exact VLe.fl_sl _ _ | exact VLe.nil_sl _ | exact vle_int (by omega)))) trivial ?_
      refine dl0 (gy rfl rfl rfl rfl rfl rfl) rfl rfl (step_callc rfl Try.func10 rfl rfl rfl (is_c (joinL (ofL l) (ofL m)) (fun k => (ofR l) k || (ofR m) k) (is_join hia_ hib_) (by omega)) (by repeat (first | exact .nil | refine .cons ?_ ?_ | exact VLe.refl _ | refine VLe.agg ?_ | exact VLe.own_sl _ _ _ | exact VLe.fl_sl _ _ | exact VLe.nil_sl _ | exact vle_int (by omega)))) trivial ?_
      refine dl0 (gy rfl rfl rfl rfl rfl rfl) rfl rfl (step_unOp (c := .bool false) rfl (ev_mk rfl) (fun _ => rfl)) trivial ?_
      refine dl0 (gn rfl) rfl rfl (step_pick rfl (ev_mk rfl) (ev_mk rfl)) trivial ?_
      refine dl0 (gn rfl) rfl rfl (step_mv rfl rfl) trivial ?_
      refine' dl0 (gy rfl rfl rfl rfl rfl rfl) rfl rfl (step_load_all rfl rfl F.agg28 ?hl) ⟨?hb, trivial⟩ ?_
      case hb => repeat (first | exact uE | refine uN (by omega) ?_ | assumption | exact hd _ (by omega) | fail)
      case hl => first | rfl | (simp; done) | (first | exact bC_len _ | (simp; done) | (rw [bC_len]; omega) | omega)
      refine' dl0 (gy rfl rfl rfl rfl rfl rfl) rfl rfl (step_load_all rfl rfl F.agg28 ?hl) ⟨?hb, trivial⟩ ?_
      case hb => repeat (first | exact uE | refine uN (by omega) ?_ | assumption | exact hd _ (by omega) | fail)
      case hl => first | rfl | (simp; done) | (first | exact bC_len _ | (simp; done) | (rw [bC_len]; omega) | omega)
      refine dl0 (gy rfl rfl rfl rfl rfl rfl) rfl rfl (step_callc rfl Try.func13 rfl rfl rfl (less_B (ofL l) (ofL m) hsa_ hsb_ (by omega)) (by repeat (first | exact .nil | refine .cons ?_ ?_ | exact VLe.refl _ | refine VLe.agg ?_ | exact VLe.own_sl _ _ _ | exact VLe.fl_sl _ _ | exact VLe.nil_sl _ | exact vle_int (by omega)))) trivial ?_
      refine' dl0 (gy rfl rfl rfl rfl rfl rfl) rfl rfl (step_load_all rfl rfl F.agg31 ?hl) ⟨?hb, trivial⟩ ?_
      case hb => repeat (first | exact uE | refine uN (by omega) ?_ | assumption | exact hd _ (by omega) | fail)
      case hl => first | rfl | (simp; done) | (first | exact bC_len _ | (simp; done) | (rw [bC_len]; omega) | omega)
      refine' dl0 (gy rfl rfl rfl rfl rfl rfl) rfl rfl (step_load_all rfl rfl F.agg31 ?hl) ⟨?hb, trivial⟩ ?_
      case hb => repeat (first | exact uE | refine uN (by omega) ?_ | assumption | exact hd _ (by omega) | fail)
      case hl => first | rfl | (simp; done) | (first | exact bC_len _ | (simp; done) | (rw [bC_len]; omega) | omega)
      refine dl0 (gy rfl rfl rfl rfl rfl rfl) rfl rfl (step_callc rfl Try.func12 rfl rfl rfl (rboth_2 (ofR l) (ofR m)) (by repeat (first | exact .nil | refine .cons ?_ ?_ | exact VLe.refl _ | refine VLe.agg ?_ | exact VLe.own_sl _ _ _ | exact VLe.fl_sl _ _ | exact VLe.nil_sl _ | exact vle_int (by omega)))) trivial ?_
      refine dl0 (gy rfl rfl rfl rfl rfl rfl) rfl rfl (step_callc rfl Try.func10 rfl rfl rfl (is_c (lessL (ofL l) (ofL m)) (fun k => (ofR l) k && !(ofR m) k) (is_less hia_ hib_) (by omega)) (by repeat (first | exact .nil | refine .cons ?_ ?_ | exact VLe.refl _ | refine VLe.agg ?_ | exact VLe.own_sl _ _ _ | exact VLe.fl_sl _ _ | exact VLe.nil_sl _ | exact vle_int (by omega)))) trivial ?_
      refine dl0 (gy rfl rfl rfl rfl rfl rfl) rfl rfl (step_unOp (c := .bool false) rfl (ev_mk rfl) (fun _ => rfl)) trivial ?_
      refine dl0 (gn rfl) rfl rfl (step_pick rfl (ev_mk rfl) (ev_mk rfl)) trivial ?_
      refine dl0 (gn rfl) rfl rfl (step_mv rfl rfl) trivial ?_
      refine' dl0 (gy rfl rfl rfl rfl rfl rfl) rfl rfl (step_load_all rfl rfl F.agg28 ?hl) ⟨?hb, trivial⟩ ?_
      case hb => repeat (first | exact uE | refine uN (by omega) ?_ | assumption | exact hd _ (by omega) | fail)
      case hl => first | rfl | (simp; done) | (first | exact bC_len _ | (simp; done) | (rw [bC_len]; omega) | omega)
      refine' dl0 (gy rfl rfl rfl rfl rfl rfl) rfl rfl (step_load_all rfl rfl F.agg28 ?hl) ⟨?hb, trivial⟩ ?_
      case hb => repeat (first | exact uE | refine uN (by omega) ?_ | assumption | exact hd _ (by omega) | fail)
      case hl => first | rfl | (simp; done) | (first | exact bC_len _ | (simp; done) | (rw [bC_len]; omega) | omega)
      refine dl0 (gy rfl rfl rfl rfl rfl rfl) rfl rfl (step_callc rfl Try.func14 rfl rfl rfl (meet_B (ofL l) (ofL m) hsa_ hsb_ (by omega)) (by repeat (first | exact .nil | refine .cons ?_ ?_ | exact VLe.refl _ | refine VLe.agg ?_ | exact VLe.own_sl _ _ _ | exact VLe.fl_sl _ _ | exact VLe.nil_sl _ | exact vle_int (by omega)))) trivial ?_
      refine' dl0 (gy rfl rfl rfl rfl rfl rfl) rfl rfl (step_load_all rfl rfl F.agg31 ?hl) ⟨?hb, trivial⟩ ?_
      case hb => repeat (first | exact uE | refine uN (by omega) ?_ | assumption | exact hd _ (by omega) | fail)
      case hl => first | rfl | (simp; done) | (first | exact bC_len _ | (simp; done) | (rw [bC_len]; omega) | omega)
      refine' dl0 (gy rfl rfl rfl rfl rfl rfl) rfl rfl (step_load_all rfl rfl F.agg31 ?hl) ⟨?hb, trivial⟩ ?_
      case hb => repeat (first | exact uE | refine uN (by omega) ?_ | assumption | exact hd _ (by omega) | fail)
      case hl => first | rfl | (simp; done) | (first | exact bC_len _ | (simp; done) | (rw [bC_len]; omega) | omega)
      refine dl0 (gy rfl rfl rfl rfl rfl rfl) rfl rfl (step_callc rfl Try.func12 rfl rfl rfl (rboth_3 (ofR l) (ofR m)) (by repeat (first | exact .nil | refine .cons ?_ ?_ | exact VLe.refl _ | refine VLe.agg ?_ | exact VLe.own_sl _ _ _ | exact VLe.fl_sl _ _ | exact VLe.nil_sl _ | exact vle_int (by omega)))) trivial ?_
      refine dl0 (gy rfl rfl rfl rfl rfl rfl) rfl rfl (step_callc rfl Try.func10 rfl rfl rfl (is_c (meetL (ofL l) (ofL m)) (fun k => (ofR l) k && (ofR m) k) (is_meet hia_ hib_) (by omega)) (by repeat (first | exact .nil | refine .cons ?_ ?_ | exact VLe.refl _ | refine VLe.agg ?_ | exact VLe.own_sl _ _ _ | exact VLe.fl_sl _ _ | exact VLe.nil_sl _ | exact vle_int (by omega)))) trivial ?_
      refine dl0 (gy rfl rfl rfl rfl rfl rfl) rfl rfl (step_unOp (c := .bool false) rfl (ev_mk rfl) (fun _ => rfl)) trivial ?_
      refine dl0 (gn rfl) rfl rfl (step_pick rfl (ev_mk rfl) (ev_mk rfl)) trivial ?_
      refine dlnil ?_ ?_
      · repeat' (first | exact trivial | exact .inr (ap0 _ _ _ _) | exact .inr (ap2 _ _ _ _) | exact .inr (ap3 _ _ _ _) | exact .inr ⟨by first | (simp; done) | (simp; omega), by first | (simp; done) | (simp; omega)⟩ | exact .inl (by kernel_rfl) | refine ⟨?_, ?_⟩ | fail)
      refine runs_cond false (ev_mk rfl) (fun h_ => nomatch h_) (fun _ => ?_)
      refine runs_skip ?_
      refine runs_seq ?_
      refine runs_region ?_
      refine' rl0 (gn rfl) rfl rfl (step_load_all rfl rfl F.agg24 ?hl) ⟨?hb, trivial⟩ ?_
      case hb => repeat (first | exact uE | refine uN (by omega) ?_ | assumption | exact hd _ (by omega) | fail)
      case hl => first | rfl | (simp; done) | (first | exact bC_len _ | (simp; done) | (rw [bC_len]; omega) | omega)
      refine rl0 (gn rfl) rfl rfl (step_lit rfl Try.underlying22 F.sz24 F.zero24 (by first | rfl | simp) (by first | rfl | simp | decide) (by decide) rfl rfl (by first | (simp [V.cs, V.stor, oneV]; done) | (simp [V.cs, V.stor, oneV])) rfl) trivial ?_
      refine rl0 (gn rfl) rfl rfl (step_callc rfl Try.func9 rfl rfl rfl (rof_c [x] (by simp) hx1_) (by repeat (first | exact .nil | refine .cons ?_ ?_ | exact VLe.refl _ | refine VLe.agg ?_ | exact VLe.own_sl _ _ _ | exact VLe.fl_sl _ _ | exact VLe.nil_sl _ | exact vle_int (by omega)))) trivial ?_
      refine rl1 (gn rfl) rfl rfl (step_allocc (k := n + 5) (zs := (List.replicate 256 (.bool false))) (cs := List.replicate 256 (.sc (.bool false))) rfl F.zero31 (by first | rfl | simp) (by first | rfl | decide | simp) (by first | rfl | simp)) ⟨by repeat (first | exact uE | refine uN (by omega) ?_ | assumption | exact hd _ (by omega) | fail), trivial⟩ (by omega) ?_
      refine' rls (gn rfl) rfl (step_storeA rfl rfl rfl rfl F.agg31 ?hm ?hl) ⟨?hb, trivial⟩ ?hk ?_
      case hb => repeat (first | exact uE | refine uN (by omega) ?_ | assumption | exact hd _ (by omega) | fail)
      case hm => first | rfl | (simp; done) | (first | exact bC_len _ | (simp; done) | (rw [bC_len]; omega) | omega)
      case hl => first | rfl | (simp; done) | (first | exact bC_len _ | (simp; done) | (rw [bC_len]; omega) | omega)
      case hk => omega
      refine runsL_nil ?_
      refine runs_seq ?_
      refine runs_seq ?_
      refine runs_draw (by kernel_rfl) (by kernel_rfl) (by kernel_rfl) ?_
      refine' dl0 (gn rfl) rfl rfl (step_load_all rfl rfl F.agg28 ?hl) ⟨?hb, trivial⟩ ?_
      case hb => repeat (first | exact uE | refine uN (by omega) ?_ | assumption | exact hd _ (by omega) | fail)
      case hl => first | rfl | (simp; done) | (first | exact bC_len _ | (simp; done) | (rw [bC_len]; omega) | omega)
      refine dl0 (gn rfl) rfl rfl (step_fieldAddr (off := 0) rfl (ev_mk rfl) Try.underlying24 rfl F.sz5 rfl) trivial ?_
      refine' dl0 (gn rfl) rfl rfl (step_load_one rfl (ev_mk rfl) F.one5 ?hv) ⟨?hb, trivial⟩ ?_
      case hb => repeat (first | exact uE | refine uN (by omega) ?_ | assumption | exact hd _ (by omega) | fail)
      case hv => rfl
      refine dl0 (gn rfl) rfl rfl (step_fieldAddr (off := 1) rfl (ev_mk rfl) Try.underlying24 rfl F.sz5 rfl) trivial ?_
      refine' dl0 (gn rfl) rfl rfl (step_load_one rfl (ev_mk rfl) F.one5 ?hv) ⟨?hb, trivial⟩ ?_
      case hb => repeat (first | exact uE | refine uN (by omega) ?_ | assumption | exact hd _ (by omega) | fail)
      case hv => rfl
      refine dl0 (gn rfl) rfl rfl (step_build (ss := [1, 1]) (zs := [.int .u8 0, .int .u8 0]) (cs := [.sc (.int .u8 x.lo), .sc (.int .u8 x.hi)]) rfl Try.underlying37 (by kernel_rfl) F.zero37 rfl rfl rfl) trivial ?_
      refine dl0 (gn rfl) rfl rfl (step_callc rfl Try.func15 rfl rfl rfl (add_B (ofL l) hsa_ (by omega) x hxx) (by repeat (first | exact .nil | refine .cons ?_ ?_ | exact VLe.refl _ | refine VLe.agg ?_ | exact VLe.own_sl _ _ _ | exact VLe.fl_sl _ _ | exact VLe.nil_sl _ | exact vle_int (by omega)))) trivial ?_
      refine' dl0 (gn rfl) rfl rfl (step_load_all rfl rfl F.agg31 ?hl) ⟨?hb, trivial⟩ ?_
      case hb => repeat (first | exact uE | refine uN (by omega) ?_ | assumption | exact hd _ (by omega) | fail)
      case hl => first | rfl | (simp; done) | (first | exact bC_len _ | (simp; done) | (rw [bC_len]; omega) | omega)
      refine' dl0 (gn rfl) rfl rfl (step_load_all rfl rfl F.agg31 ?hl) ⟨?hb, trivial⟩ ?_
      case hb => repeat (first | exact uE | refine uN (by omega) ?_ | assumption | exact hd _ (by omega) | fail)
      case hl => first | rfl | (simp; done) | (first | exact bC_len _ | (simp; done) | (rw [bC_len]; omega) | omega)
      refine dl0 (gn rfl) rfl rfl (step_callc rfl Try.func12 rfl rfl rfl (rboth_1 (ofR l) (ofR [x])) (by repeat (first | exact .nil | refine .cons ?_ ?_ | exact VLe.refl _ | refine VLe.agg ?_ | exact VLe.own_sl _ _ _ | exact VLe.fl_sl _ _ | exact VLe.nil_sl _ | exact vle_int (by omega)))) trivial ?_
      refine dl0 (gn rfl) rfl rfl (step_callc rfl Try.func10 rfl rfl rfl (is_c (addL (ofL l) x) (fun k => (ofR l) k || ofR [x] k) (is_add hia_ hxx) (by omega)) (by repeat (first | exact .nil | refine .cons ?_ ?_ | exact VLe.refl _ | refine VLe.agg ?_ | exact VLe.own_sl _ _ _ | exact VLe.fl_sl _ _ | exact VLe.nil_sl _ | exact vle_int (by omega)))) trivial ?_
      refine dl0 (gn rfl) rfl rfl (step_unOp (c := .bool false) rfl (ev_mk rfl) (fun _ => rfl)) trivial ?_
      refine dl0 (gn rfl) rfl rfl (step_mv rfl rfl) trivial ?_
      refine' dl0 (gy rfl rfl rfl rfl rfl rfl) rfl rfl (step_load_all rfl rfl F.agg28 ?hl) ⟨?hb, trivial⟩ ?_
      case hb => repeat (first | exact uE | refine uN (by omega) ?_ | assumption | exact hd _ (by omega) | fail)
      case hl => first | rfl | (simp; done) | (first | exact bC_len _ | (simp; done) | (rw [bC_len]; omega) | omega)
      refine dl0 (gy rfl rfl rfl rfl rfl rfl) rfl rfl (step_fieldAddr (off := 0) rfl (ev_mk rfl) Try.underlying24 rfl F.sz5 rfl) trivial ?_
      refine' dl0 (gy rfl rfl rfl rfl rfl rfl) rfl rfl (step_load_one rfl (ev_mk rfl) F.one5 ?hv) ⟨?hb, trivial⟩ ?_
      case hb => repeat (first | exact uE | refine uN (by omega) ?_ | assumption | exact hd _ (by omega) | fail)
      case hv => rfl
      refine dl0 (gy rfl rfl rfl rfl rfl rfl) rfl rfl (step_fieldAddr (off := 1) rfl (ev_mk rfl) Try.underlying24 rfl F.sz5 rfl) trivial ?_
      refine' dl0 (gy rfl rfl rfl rfl rfl rfl) rfl rfl (step_load_one rfl (ev_mk rfl) F.one5 ?hv) ⟨?hb, trivial⟩ ?_
      case hb => repeat (first | exact uE | refine uN (by omega) ?_ | assumption | exact hd _ (by omega) | fail)
      case hv => rfl
      refine dl0 (gy rfl rfl rfl rfl rfl rfl) rfl rfl (step_build (ss := [1, 1]) (zs := [.int .u8 0, .int .u8 0]) (cs := [.sc (.int .u8 x.lo), .sc (.int .u8 x.hi)]) rfl Try.underlying37 (by kernel_rfl) F.zero37 rfl rfl rfl) trivial ?_
      refine dl0 (gy rfl rfl rfl rfl rfl rfl) rfl rfl (step_callc rfl Try.func16 rfl rfl rfl (cut_B (ofL l) hsa_ (by omega) x hxx) (by repeat (first | exact .nil | refine .cons ?_ ?_ | exact VLe.refl _ | refine VLe.agg ?_ | exact VLe.own_sl _ _ _ | exact VLe.fl_sl _ _ | exact VLe.nil_sl _ | exact vle_int (by omega)))) trivial ?_
      refine' dl0 (gy rfl rfl rfl rfl rfl rfl) rfl rfl (step_load_all rfl rfl F.agg31 ?hl) ⟨?hb, trivial⟩ ?_
      case hb => repeat (first | exact uE | refine uN (by omega) ?_ | assumption | exact hd _ (by omega) | fail)
      case hl => first | rfl | (simp; done) | (first | exact bC_len _ | (simp; done) | (rw [bC_len]; omega) | omega)
      refine' dl0 (gy rfl rfl rfl rfl rfl rfl) rfl rfl (step_load_all rfl rfl F.agg31 ?hl) ⟨?hb, trivial⟩ ?_
      case hb => repeat (first | exact uE | refine uN (by omega) ?_ | assumption | exact hd _ (by omega) | fail)
      case hl => first | rfl | (simp; done) | (first | exact bC_len _ | (simp; done) | (rw [bC_len]; omega) | omega)
      refine dl0 (gy rfl rfl rfl rfl rfl rfl) rfl rfl (step_callc rfl Try.func12 rfl rfl rfl (rboth_2 (ofR l) (ofR [x])) (by repeat (first | exact .nil | refine .cons ?_ ?_ | exact VLe.refl _ | refine VLe.agg ?_ | exact VLe.own_sl _ _ _ | exact VLe.fl_sl _ _ | exact VLe.nil_sl _ | exact vle_int (by omega)))) trivial ?_
      refine dl0 (gy rfl rfl rfl rfl rfl rfl) rfl rfl (step_callc rfl Try.func10 rfl rfl rfl (is_c (cutL (ofL l) x) (fun k => (ofR l) k && !ofR [x] k) (is_cut hia_ x) (by omega)) (by repeat (first | exact .nil | refine .cons ?_ ?_ | exact VLe.refl _ | refine VLe.agg ?_ | exact VLe.own_sl _ _ _ | exact VLe.fl_sl _ _ | exact VLe.nil_sl _ | exact vle_int (by omega)))) trivial ?_
      refine dl0 (gy rfl rfl rfl rfl rfl rfl) rfl rfl (step_unOp (c := .bool false) rfl (ev_mk rfl) (fun _ => rfl)) trivial ?_
      refine dl0 (gn rfl) rfl rfl (step_pick rfl (ev_mk rfl) (ev_mk rfl)) trivial ?_
      refine dlnil ?_ ?_
      · repeat' (first | exact trivial | exact .inr (ap0 _ _ _ _) | exact .inr (ap2 _ _ _ _) | exact .inr (ap3 _ _ _ _) | exact .inr ⟨by first | (simp; done) | (simp; omega), by first | (simp; done) | (simp; omega)⟩ | exact .inl (by kernel_rfl) | refine ⟨?_, ?_⟩ | fail)
      refine runs_cond false (ev_mk rfl) (fun h_ => nomatch h_) (fun _ => ?_)
      refine runs_skip ?_
      refine runs_seq ?_
      refine runs_draw (by kernel_rfl) (by kernel_rfl) (by kernel_rfl) ?_
      refine' dl0 (gn rfl) rfl rfl (step_load_all rfl rfl F.agg28 ?hl) ⟨?hb, trivial⟩ ?_
      case hb => repeat (first | exact uE | refine uN (by omega) ?_ | assumption | exact hd _ (by omega) | fail)
      case hl => first | rfl | (simp; done) | (first | exact bC_len _ | (simp; done) | (rw [bC_len]; omega) | omega)
      refine dl0 (gn rfl) rfl rfl (step_callc rfl Try.func17 rfl rfl rfl (not_B (ofL l) hsa_ (by omega)) (by repeat (first | exact .nil | refine .cons ?_ ?_ | exact VLe.refl _ | refine VLe.agg ?_ | exact VLe.own_sl _ _ _ | exact VLe.fl_sl _ _ | exact VLe.nil_sl _ | exact vle_int (by omega)))) trivial ?_
      refine' dl0 (gn rfl) rfl rfl (step_load_all rfl rfl F.agg31 ?hl) ⟨?hb, trivial⟩ ?_
      case hb => repeat (first | exact uE | refine uN (by omega) ?_ | assumption | exact hd _ (by omega) | fail)
      case hl => first | rfl | (simp; done) | (first | exact bC_len _ | (simp; done) | (rw [bC_len]; omega) | omega)
      refine dl0 (gn rfl) rfl rfl (step_callc rfl Try.func18 rfl rfl rfl (rnot_c (ofR l)) (by repeat (first | exact .nil | refine .cons ?_ ?_ | exact VLe.refl _ | refine VLe.agg ?_ | exact VLe.own_sl _ _ _ | exact VLe.fl_sl _ _ | exact VLe.nil_sl _ | exact vle_int (by omega)))) trivial ?_
      refine dl0 (gn rfl) rfl rfl (step_callc rfl Try.func10 rfl rfl rfl (is_c (notL 255 (ofL l)) (fun k => !(ofR l) k) (is_not hia_) (by omega)) (by repeat (first | exact .nil | refine .cons ?_ ?_ | exact VLe.refl _ | refine VLe.agg ?_ | exact VLe.own_sl _ _ _ | exact VLe.fl_sl _ _ | exact VLe.nil_sl _ | exact vle_int (by omega)))) trivial ?_
      refine dl0 (gn rfl) rfl rfl (step_mv rfl rfl) trivial ?_
      refine' dl0 (gy rfl rfl rfl rfl rfl rfl) rfl rfl (step_load_all rfl rfl F.agg28 ?hl) ⟨?hb, trivial⟩ ?_
      case hb => repeat (first | exact uE | refine uN (by omega) ?_ | assumption | exact hd _ (by omega) | fail)
      case hl => first | rfl | (simp; done) | (first | exact bC_len _ | (simp; done) | (rw [bC_len]; omega) | omega)
      refine' dl0 (gy rfl rfl rfl rfl rfl rfl) rfl rfl (step_load_all rfl rfl F.agg28 ?hl) ⟨?hb, trivial⟩ ?_
      case hb => repeat (first | exact uE | refine uN (by omega) ?_ | assumption | exact hd _ (by omega) | fail)
      case hl => first | rfl | (simp; done) | (first | exact bC_len _ | (simp; done) | (rw [bC_len]; omega) | omega)
      refine dl0 (gy rfl rfl rfl rfl rfl rfl) rfl rfl (step_callc rfl Try.func19 rfl rfl rfl (same_B (ofL l) (ofL m) (by omega) (by omega)) (by repeat (first | exact .nil | refine .cons ?_ ?_ | exact VLe.refl _ | refine VLe.agg ?_ | exact VLe.own_sl _ _ _ | exact VLe.fl_sl _ _ | exact VLe.nil_sl _ | exact vle_int (by omega)))) trivial ?_
      refine' dl0 (gy rfl rfl rfl rfl rfl rfl) rfl rfl (step_load_all rfl rfl F.agg31 ?hl) ⟨?hb, trivial⟩ ?_
      case hb => repeat (first | exact uE | refine uN (by omega) ?_ | assumption | exact hd _ (by omega) | fail)
      case hl => first | rfl | (simp; done) | (first | exact bC_len _ | (simp; done) | (rw [bC_len]; omega) | omega)
      refine' dl0 (gy rfl rfl rfl rfl rfl rfl) rfl rfl (step_load_all rfl rfl F.agg31 ?hl) ⟨?hb, trivial⟩ ?_
      case hb => repeat (first | exact uE | refine uN (by omega) ?_ | assumption | exact hd _ (by omega) | fail)
      case hl => first | rfl | (simp; done) | (first | exact bC_len _ | (simp; done) | (rw [bC_len]; omega) | omega)
      refine dl0 (gy rfl rfl rfl rfl rfl rfl) rfl rfl (step_eql31 rfl (ev_mk rfl) (ev_mk rfl)) trivial ?_
      refine dl0 (gy rfl rfl rfl rfl rfl rfl) rfl rfl (step_eqlb rfl (ev_mk rfl) (ev_mk rfl) Try.underlying4) trivial ?_
      refine dl_know (d := 112) (c := true) rfl ((by rw [same_aeq hia_ hib_]; simp)) ?_
      refine dl0 (gn rfl) rfl rfl (step_pick rfl (ev_mk rfl) (ev_mk rfl)) trivial ?_
      refine dl0 (gn rfl) rfl rfl (step_mv rfl rfl) trivial ?_
      refine dl0 (gy rfl rfl rfl rfl rfl rfl) rfl rfl (step_callc rfl Try.func6 rfl rfl rfl (hw) (by repeat (first | exact .nil | refine .cons ?_ ?_ | exact VLe.refl _ | refine VLe.agg ?_ | exact VLe.own_sl _ _ _ | exact VLe.fl_sl _ _ | exact VLe.nil_sl _ | exact vle_int (by omega)))) trivial ?_
      refine dl0 (gn rfl) rfl rfl (step_pick rfl (ev_mk rfl) (ev_mk rfl)) trivial ?_
      refine dl0 (gn rfl) rfl rfl (step_as rfl rfl) trivial ?_
      refine dlnil ?_ ?_
      · repeat' (first | exact trivial | exact .inr (ap0 _ _ _ _) | exact .inr (ap2 _ _ _ _) | exact .inr (ap3 _ _ _ _) | exact .inr ⟨by first | (simp; done) | (simp; omega), by first | (simp; done) | (simp; omega)⟩ | exact .inl (by kernel_rfl) | refine ⟨?_, ?_⟩ | fail)
      refine runs_ret ?_
      refine ⟨by first | exact .inr rfl | exact .inl rfl, fin_mkg (rest rfl res0) ?_ ?_ ?_ ?_ ?_⟩
      · (repeat' (first | exact VLe.refl _ | exact VLe.own_sl _ _ _ | exact VLe.fl_sl _ _ | exact VLe.nil_sl _ | exact VLe.nil_fl _ | exact VLes.refl _ | exact .nil | refine VLe.tup ?_ | refine VLe.agg ?_ | refine .cons ?_ ?_ | (rw [Int.natCast_add]; exact VLe.refl _) | exact vle_int (by omega) | exact vle_bool (by first | rfl | assumption | (simp_all; done) | fail) | fail))
      · first | ((repeat (first | exact trivial | exact bd_bCA _ _ | exact bd_bC _ _ | assumption | omega | (refine bdR_map (fun _ => ?_)) | refine ⟨?_, ?_⟩ | fail)); done) | (repeat (first | exact trivial | assumption | omega | (refine bdR_map (fun _ => ?_)) | (refine bdL_map (fun _ => ?_)) | refine ⟨?_, ?_⟩ | fail))
      · intro k_ hk_; exact ble (by repeat (first | exact rfl | refine uN (by omega) ?_ | assumption | fail))
      · intro p hp; cases hp
      · first | ((repeat (first | exact trivial | exact bd_bCA _ _ | exact bd_bC _ _ | assumption | omega | (refine bdR_map (fun _ => ?_)) | refine ⟨?_, ?_⟩ | fail)); done) | (repeat (first | exact trivial | assumption | omega | (refine bdR_map (fun _ => ?_)) | (refine bdL_map (fun _ => ?_)) | refine ⟨?_, ?_⟩ | fail))
end Go.Proofs.Ytgnbdegpljbckaa
