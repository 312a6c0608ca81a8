/- Walks by the logic of values. -/
import Derived.Test.YtmlhekadnplpcaaKoVa
import Derived.Test.YtmlhekadnplpcaaKoVb
import Derived.Test.YtmlhekadnplpcaaKoVc
import Derived.Test.YtmlhekadnplpcaaKoVg
import Derived.Test.YtmlhekadnplpcaaKoVh
import Derived.Test.YtmlhekadnplpcaaKoVi
import Derived.Test.YtmlhekadnplpcaaKoVl
import Derived.Test.YtmlhekadnplpcaaKoVy
import Derived.Test.YtmlhekadnplpcaaKoVmT
import Derived.Test.YtmlhekadnplpcaaKoVmP
import Derived.Test.YtmlhekadnplpcaaKoVmV
import Derived.Test.YtmlhekadnplpcaaKoVa
namespace Go.Proofs.Ytmlhekadnplpcaa
open Go.Vm
set_option linter.unusedVariables false
set_option linter.unusedSimpArgs false
theorem eqCs_u8 : ∀ (a : List Int), eqCs (a.map fun x => Value.int .u8 x) (a.map fun x => Value.int .u8 x) = true
  | [] => by simp [eqCs]
  | x :: a => by
    have ih := eqCs_u8 a
    simp only [List.map_cons, eqCs, Bool.and_eq_true, ih]
    simp [eqC]
theorem fits_u8 : ∀ (a : List Int) (n : Nat), a.length = n → fitsL (List.replicate n (CK.i .u8)) (a.map fun x => .int .u8 x) = true
  | [], 0, _ => rfl
  | x :: a, n + 1, h => by simp only [List.replicate_succ, List.map_cons, fitsL, CK.fits, fits_u8 a n (by simpa using h)]; rfl
theorem shape62 : shapeOf Try.prog 3 62 = some (List.replicate 224 (CK.i .u8)) := by kernel_rfl
theorem eqg62 : Try.prog.eqGuardType Try.prog.depth 62 = false := by kernel_rfl
theorem step_eql62 {o : Oper} {t : Nat → V} {x y : Operand} {p : List Int} {ty2 : TypeId} (ho : o.op = .binOp .eql 62 x y ty2) (hx : ev t x = .agg (p.map bV)) (hy : ev t y = .agg (p.map bV)) (hl : p.length = 224) : StepOK Try.prog o t [] [] (.sc (.bool true)) := by
  have e : p.map bV = (p.map fun x => Value.int .u8 x).map V.sc := by rw [List.map_map]; rfl
  rw [e] at hx hy
  exact step_eq_agg (xs := p.map fun x => .int .u8 x) (ys := p.map fun x => .int .u8 x) ho hx hy shape62 (by omega) ⟨_, Try.underlying62, rfl⟩ eqg62 (fits_u8 _ _ hl) (fits_u8 _ _ hl) (.inl ⟨rfl, (eqCs_u8 p).symm⟩)
theorem rPt_ok {p : List Int} (hb : Byts p) (hl : p.length = 224) : ∀ q ∈ rPt p, okPt q := by
  intro q hq
  unfold rPt at hq
  split at hq
  · rename_i hg
    obtain ⟨h1, h2⟩ := of_decide_eq_true hg
    have h3 := cn_bd hb hl
    unfold ptsB at hq
    obtain ⟨i, hi, rfl⟩ := List.mem_map.1 hq
    have hi := List.mem_range.1 hi
    have b0 : Byts (p.drop (3 + 24 * i)) := bytes_drop hb _
    have l0 : (p.drop (3 + 24 * i)).length = p.length - (3 + 24 * i) := List.length_drop
    have k1 := b4_bd b0 (by omega)
    have k2 := b4_bd (bytes_drop b0 4) (by rw [List.length_drop]; omega)
    refine ⟨?_, ?_, ?_, ?_⟩
    · exact ⟨k1.1, Int.lt_of_le_of_lt k1.2 (by decide)⟩
    · exact ⟨k2.1, Int.lt_of_le_of_lt k2.2 (by decide)⟩
    · exact beN_u64 (bytes_take (bytes_drop (bytes_drop b0 4) 4) 8) (by rw [List.length_take]; omega)
    · exact beN_u64 (bytes_take (bytes_drop (bytes_drop (bytes_drop b0 4) 4) 8) 8) (by rw [List.length_take]; omega)
  · cases hq
theorem put_one {p : List Int} (hb : Byts p) (hl : p.length = 224) (ho : rOk p = true) (hn : rNx p = 0) : putL [(3 : Int)] (rPt p) [(3 : Int)].length = [((3 : Int), p)] := by
  have h8 := rPt_len hb hl
  have e : ptsA (rPt p) 0 = rPt p := by unfold ptsA; rw [Nat.mul_zero, List.drop_zero, List.take_of_length_le h8]
  have hr := read_back hb hl ho
  rw [hn] at hr
  unfold putL imA
  simp only [List.length_cons, List.length_nil, Nat.zero_add, List.range_succ, List.range_zero, List.nil_append, List.map_cons, List.map_nil, e]
  rw [show nxA [(3 : Int)] 0 = 0 from rfl, hr]
  rfl
theorem put_p {p : List Int} (hb : Byts p) (hl : p.length = 224) (ho : rOk p = true) (hn : rNx p = 0) : Does Try.prog 25 [.agg (rgC 0 0 1 1 [3] (rPt p))] [] [] (.sl 225 ([((3 : Int), p)].map imR)) := by
  have h := put_c 0 0 1 1 [3] (rPt p) (by simp) (by have := rPt_len hb hl; omega) (rPt_ok hb hl)
  rw [put_one hb hl ho hn] at h
  exact h
theorem at_1 {p : List Int} (hb : Byts p) (hl : p.length = 224) (ho : rOk p = true) (hn : rNx p = 0) : p[1]? = some 0 := by
  have hg : rGd p = true := by
    unfold rOk at ho
    cases h : rGd p with
    | true => rfl
    | false => rw [h] at ho; simp at ho
  have t1 := tk (bytes_drop hb 1) (m := 1) (by rw [List.length_drop]; omega)
  have e : beN ((p.drop 1).take 1) = 0 := by unfold rNx at hn; rw [if_pos hg] at hn; exact hn
  rw [e, beB_1] at t1
  have : ((p.drop 1).take 1)[0]? = some 0 := by rw [← t1]; rfl
  simpa using this
set_option maxRecDepth 100000 in
set_option maxHeartbeats 4000000 in
theorem at29 (w_ : Int) (kk : Nat) (p : List Int) (hl : p.length = 224) : Does Try.prog 29 [.sc (.int .i64 w_), .ref kk 0] [(kk, .cells (p.map bV))] [] (.tup [.agg (p.map bV), .sc (.bool (decide (w_ = 3)))]) := by
  refine does_mkg 40 Try.func29 rfl rfl rfl (fun n B bx hd hpre hup hvs hbx hgx => ?_)
  have hp0 := hpre.1
  have hk0 := lt_cells hd hp0
  refine runs_seq ?_
  refine runs_region ?_
  refine rl1 (gn rfl) rfl rfl (step_allocc (k := n + 0) (zs := (List.replicate 224 (.int .u8 0))) (cs := List.replicate 224 (.sc (.int .u8 0))) rfl F.zero62 (by first | rfl | simp) (by first | rfl | decide | simp) (by first | rfl | simp)) ⟨by repeat (first | exact uE | refine uN (by omega) ?_ | assumption | exact hd _ (by omega) | fail), trivial⟩ (by omega) ?_
  refine rl0 (gn rfl) rfl rfl (step_as rfl rfl) trivial ?_
  refine runsL_nil ?_
  refine runs_seq ?_
  refine runs_region ?_
  refine' rl0 (gn rfl) rfl rfl (step_load_all rfl rfl F.agg62 ?hl) ⟨?hb, trivial⟩ ?_
  case hb => repeat (first | exact uE | refine uN (by omega) ?_ | assumption | exact hd _ (by omega) | fail)
  case hl => first | rfl | (simp; done) | (first | (simp; done) | (rw [List.length_map]; exact hl))
  refine rl0 (gn rfl) rfl rfl (step_mv rfl rfl) trivial ?_
  refine rl_eql (gn rfl) rfl rfl rfl rfl rfl (fun h1 => ?_) (fun h1 => ?_)
  · skip
    refine' rls (gn rfl) rfl (step_storeA rfl rfl rfl rfl F.agg62 ?hm ?hl) ⟨?hb, trivial⟩ ?hk ?_
    case hb => repeat (first | exact uE | refine uN (by omega) ?_ | assumption | exact hd _ (by omega) | fail)
    case hm => first | rfl | (simp; done) | (first | (simp; done) | (rw [List.length_map]; exact hl))
    case hl => first | rfl | (simp; done) | (first | (simp; done) | (rw [List.length_map]; exact hl))
    case hk => omega
    refine rl0 (gn rfl) rfl rfl (step_as rfl rfl) trivial ?_
    refine runsL_nil ?_
    refine runs_ret ?_
    refine ⟨by first | exact .inr rfl | exact .inl rfl, fin_mkg (resc rfl (by repeat (first | exact uE | refine uN (by omega) ?_ | assumption | exact hd _ (by omega) | fail)) F.agg62 (by first | rfl | (simp; done) | (first | (simp; done) | (rw [List.length_map]; exact hl))) (rest rfl res0)) ?_ ?_ ?_ ?_ ?_⟩
    · (repeat' (first | exact VLe.refl _ | exact VLe.own_sl _ _ _ | exact VLe.fl_sl _ _ | exact VLe.nil_sl _ | exact VLe.nil_fl _ | exact VLes.refl _ | exact .nil | refine VLe.tup ?_ | refine VLe.agg ?_ | refine .cons ?_ ?_ | (rw [Int.natCast_add]; exact VLe.refl _) | exact vle_int (by omega) | exact vle_bool (by first | rfl | assumption | (simp_all; done) | fail) | (exact vle_bool (by simp_all)) | fail))
    · repeat (first | exact trivial | assumption | omega | (refine bdR_map (fun _ => ?_)) | (refine bdL_map (fun _ => ?_)) | refine ⟨?_, ?_⟩ | fail)
    · intro k_ hk_; exact ble (by repeat (first | exact rfl | refine uN (by omega) ?_ | assumption | fail))
    · intro p hp; cases hp
    · repeat (first | exact trivial | assumption | omega | (refine bdR_map (fun _ => ?_)) | (refine bdL_map (fun _ => ?_)) | refine ⟨?_, ?_⟩ | fail)
  · skip
    refine' rls (gn rfl) rfl (step_storeA rfl rfl rfl rfl F.agg62 ?hm ?hl) ⟨?hb, trivial⟩ ?hk ?_
    case hb => repeat (first | exact uE | refine uN (by omega) ?_ | assumption | exact hd _ (by omega) | fail)
    case hm => first | rfl | (simp; done) | (first | (simp; done) | (rw [List.length_map]; exact hl))
    case hl => first | rfl | (simp; done) | (first | (simp; done) | (rw [List.length_map]; exact hl))
    case hk => omega
    refine rl0 (gn rfl) rfl rfl (step_as rfl rfl) trivial ?_
    refine runsL_nil ?_
    refine runs_ret ?_
    refine ⟨by first | exact .inr rfl | exact .inl rfl, fin_mkg (resc rfl (by repeat (first | exact uE | refine uN (by omega) ?_ | assumption | exact hd _ (by omega) | fail)) F.agg62 (by first | rfl | (simp; done) | (first | (simp; done) | (rw [List.length_map]; exact hl))) (rest rfl res0)) ?_ ?_ ?_ ?_ ?_⟩
    · (repeat' (first | exact VLe.refl _ | exact VLe.own_sl _ _ _ | exact VLe.fl_sl _ _ | exact VLe.nil_sl _ | exact VLe.nil_fl _ | exact VLes.refl _ | exact .nil | refine VLe.tup ?_ | refine VLe.agg ?_ | refine .cons ?_ ?_ | (rw [Int.natCast_add]; exact VLe.refl _) | exact vle_int (by omega) | exact vle_bool (by first | rfl | assumption | (simp_all; done) | fail) | (exact vle_bool (by simp_all)) | fail))
    · repeat (first | exact trivial | assumption | omega | (refine bdR_map (fun _ => ?_)) | (refine bdL_map (fun _ => ?_)) | refine ⟨?_, ?_⟩ | fail)
    · intro k_ hk_; exact ble (by repeat (first | exact rfl | refine uN (by omega) ?_ | assumption | fail))
    · intro p hp; cases hp
    · repeat (first | exact trivial | assumption | omega | (refine bdR_map (fun _ => ?_)) | (refine bdL_map (fun _ => ?_)) | refine ⟨?_, ?_⟩ | fail)
set_option maxRecDepth 100000 in
set_option maxHeartbeats 4000000 in
theorem rone_n (p : List Int) (hb : Byts p) (hl : p.length = 224) (hw : Does Try.prog 15 [] [] [] (.sc (.bool true))) (hG : getG (fun _ => p) (fun w_ => decide (w_ = 3)) 7 3 [] [] = none) : Does Try.prog 6 [.agg (p.map bV)] [] [] (.sc (.bool true)) := by
  refine does_mkg 40 Try.func6 rfl rfl rfl (fun n B bx hd hpre hup hvs hbx hgx => ?_)
  refine runs_seq ?_
  refine runs_region ?_
  refine rl1 (gn rfl) rfl rfl (step_box_agg (k := n + 0) rfl rfl) ⟨by repeat (first | exact uE | refine uN (by omega) ?_ | assumption | exact hd _ (by omega) | fail), trivial⟩ (by omega) ?_
  refine rl0 (gn rfl) rfl rfl (step_as rfl rfl) trivial ?_
  refine runsL_nil ?_
  refine runs_seq ?_
  refine runs_region ?_
  refine rl0 (gn rfl) rfl rfl (step_build (ss := [1, 1, 1, 1]) (zs := [.int .i64 0, .int .i64 0, .int .i64 0, .int .i64 0]) rfl Try.underlying23 (by kernel_rfl) F.zero23 rfl rfl rfl) trivial ?_
  refine rl0 (gn rfl) rfl rfl (step_makeFunc rfl rfl) trivial ?_
  refine rl0 (gn rfl) rfl rfl (step_callc rfl Try.func27 rfl rfl rfl (get_n1 0 0 1 1 3 (fun _ => p) (fun w_ => decide (w_ = 3)) (fun _ => ⟨hb, hl⟩) (n + 0) (p.map bV) (fun w_ => at29 w_ _ p hl) hG) (by repeat (first | exact .nil | refine .cons ?_ ?_ | exact VLe.refl _ | exact VLe.own_sl _ _ _ | exact VLe.fl_sl _ _ | exact VLe.nil_sl _ | exact VLe.nil_fl _ | refine VLe.agg ?_))) ⟨by repeat (first | exact uE | refine uN (by omega) ?_ | assumption | exact hd _ (by omega) | fail), trivial⟩ ?_
  refine rl0 (gn rfl) rfl rfl (step_mv rfl rfl) trivial ?_
  refine rl0 (gn rfl) rfl rfl (step_extract rfl (ev_mk rfl) rfl) trivial ?_
  refine rl0 (gn rfl) rfl rfl (step_extract rfl (ev_mk rfl) rfl) trivial ?_
  refine rl1 (gn rfl) rfl rfl (step_allocc (k := n + 1) (zs := [.int .i64 0, .int .i64 0, .int .i64 0, .int .i64 0, .slice none 0 0, .slice none 0 0]) (cs := [.sc (.int .i64 0), .sc (.int .i64 0), .sc (.int .i64 0), .sc (.int .i64 0), .sc (.slice none 0 0), .sc (.slice none 0 0)]) rfl F.zero44 (by first | rfl | simp) (by first | rfl | decide | simp) (by first | rfl | simp)) ⟨by repeat (first | exact uE | refine uN (by omega) ?_ | assumption | exact hd _ (by omega) | fail), trivial⟩ (by omega) ?_
  refine' rls (gn rfl) rfl (step_storeA rfl rfl rfl rfl F.agg44 ?hm ?hl) ⟨?hb, trivial⟩ ?hk ?_
  case hb => repeat (first | exact uE | refine uN (by omega) ?_ | assumption | exact hd _ (by omega) | fail)
  case hm => first | rfl | (simp; done) | (first | (simp; done) | (rw [List.length_map]; exact hl) | (show (p.map bV).length = 224; rw [List.length_map]; exact hl))
  case hl => first | rfl | (simp; done) | (first | (simp; done) | (rw [List.length_map]; exact hl) | (show (p.map bV).length = 224; rw [List.length_map]; exact hl))
  case hk => omega
  refine rl0 (gn rfl) rfl rfl (step_as rfl rfl) trivial ?_
  refine runsL_nil ?_
  refine runs_seq ?_
  refine runs_seq ?_
  refine runs_region ?_
  refine rl0 (gn rfl) rfl rfl (step_mv rfl rfl) trivial ?_
  refine rl0 (gn rfl) rfl rfl (step_unOp (c := .bool true) rfl (ev_mk rfl) (fun _ => rfl)) trivial ?_
  refine runsL_nil ?_
  refine runs_cond true (ev_mk rfl) (fun _ => ?_) (fun h_ => nomatch h_)
  refine runs_seq ?_
  refine runs_region ?_
  refine rl0 (gn rfl) rfl rfl (step_fieldAddr (off := 5) rfl (ev_mk rfl) Try.underlying44 rfl F.sz40 rfl) trivial ?_
  refine' rl0 (gn rfl) rfl rfl (step_load_one rfl (ev_mk rfl) F.one40 ?hv) ⟨?hb, trivial⟩ ?_
  case hb => repeat (first | exact uE | refine uN (by omega) ?_ | assumption | exact hd _ (by omega) | fail)
  case hv => rfl
  refine rl0 (gn rfl) rfl rfl (step_len (m := 0) rfl rfl (ev_mk rfl) (.inl ⟨⟨_, Try.underlying40⟩, .inl ⟨_, _, .inl rfl, rfl⟩⟩)) trivial ?_
  refine rl_eql (gn rfl) rfl rfl rfl rfl rfl (fun h1 => ?_) (fun h1 => ?_)
  rotate_left
  · exact False.elim (by omega)
  refine rl0 (gn rfl) rfl rfl (step_mv rfl rfl) trivial ?_
  refine rl0 (gy rfl rfl rfl rfl rfl rfl) rfl rfl (step_fieldAddr (off := 4) rfl (ev_mk rfl) Try.underlying44 rfl F.sz42 rfl) trivial ?_
  refine' rl0 (gy rfl rfl rfl rfl rfl rfl) rfl rfl (step_load_one rfl (ev_mk rfl) F.one42 ?hv) ⟨?hb, trivial⟩ ?_
  case hb => repeat (first | exact uE | refine uN (by omega) ?_ | assumption | exact hd _ (by omega) | fail)
  case hv => rfl
  refine rl0 (gy rfl rfl rfl rfl rfl rfl) rfl rfl (step_len (m := 0) rfl rfl (ev_mk rfl) (.inl ⟨⟨_, Try.underlying42⟩, .inl ⟨_, _, .inl rfl, rfl⟩⟩)) trivial ?_
  refine rl_eql (gy rfl rfl rfl rfl rfl rfl) rfl rfl rfl rfl rfl (fun h2 => ?_) (fun h2 => ?_)
  rotate_left
  · exact False.elim (by omega)
  refine rl0 (gn rfl) rfl rfl (step_pick rfl (ev_mk rfl) (ev_mk rfl)) trivial ?_
  refine rl0 (gn rfl) rfl rfl (step_mv rfl rfl) trivial ?_
  refine rl0 (gy rfl rfl rfl rfl rfl rfl) rfl rfl (step_callc rfl Try.func15 rfl rfl rfl (hw) (by repeat (first | exact .nil | refine .cons ?_ ?_ | exact VLe.refl _ | exact VLe.own_sl _ _ _ | exact VLe.fl_sl _ _ | exact VLe.nil_sl _ | exact VLe.nil_fl _ | refine VLe.agg ?_))) trivial ?_
  refine rl0 (gn rfl) rfl rfl (step_pick rfl (ev_mk rfl) (ev_mk rfl)) trivial ?_
  refine rl0 (gn rfl) rfl rfl (step_as rfl rfl) trivial ?_
  refine runsL_nil ?_
  refine runs_ret ?_
  refine ⟨by first | exact .inr rfl | exact .inl rfl, fin_mkg (rest rfl res0) ?_ ?_ ?_ ?_ ?_⟩
  · (repeat' (first | exact VLe.refl _ | exact VLe.own_sl _ _ _ | exact VLe.fl_sl _ _ | exact VLe.nil_sl _ | exact VLe.nil_fl _ | exact VLes.refl _ | exact .nil | refine VLe.tup ?_ | refine VLe.agg ?_ | refine .cons ?_ ?_ | (rw [Int.natCast_add]; exact VLe.refl _) | exact vle_int (by omega) | exact vle_bool (by first | rfl | assumption | (simp_all; done) | fail) | fail))
  · repeat (first | exact trivial | assumption | omega | (refine bdR_map (fun _ => ?_)) | (refine bdL_map (fun _ => ?_)) | refine ⟨?_, ?_⟩ | fail)
  · intro k_ hk_; exact ble (by repeat (first | exact rfl | refine uN (by omega) ?_ | assumption | fail))
  · intro p hp; cases hp
  · repeat (first | exact trivial | assumption | omega | (refine bdR_map (fun _ => ?_)) | (refine bdL_map (fun _ => ?_)) | refine ⟨?_, ?_⟩ | fail)
set_option maxRecDepth 100000 in
set_option maxHeartbeats 4000000 in
theorem rone_y (p : List Int) (hb : Byts p) (hl : p.length = 224) (hw : Does Try.prog 15 [] [] [] (.sc (.bool true))) (hG : getG (fun _ => p) (fun w_ => decide (w_ = 3)) 7 3 [] [] = some ([3], rPt p)) (ho : rOk p = true) (hn : rNx p = 0) : Does Try.prog 6 [.agg (p.map bV)] [] [] (.sc (.bool true)) := by
  refine does_mkg 40 Try.func6 rfl rfl rfl (fun n B bx hd hpre hup hvs hbx hgx => ?_)
  refine runs_seq ?_
  refine runs_region ?_
  refine rl1 (gn rfl) rfl rfl (step_box_agg (k := n + 0) rfl rfl) ⟨by repeat (first | exact uE | refine uN (by omega) ?_ | assumption | exact hd _ (by omega) | fail), trivial⟩ (by omega) ?_
  refine rl0 (gn rfl) rfl rfl (step_as rfl rfl) trivial ?_
  refine runsL_nil ?_
  refine runs_seq ?_
  refine runs_region ?_
  refine rl0 (gn rfl) rfl rfl (step_build (ss := [1, 1, 1, 1]) (zs := [.int .i64 0, .int .i64 0, .int .i64 0, .int .i64 0]) rfl Try.underlying23 (by kernel_rfl) F.zero23 rfl rfl rfl) trivial ?_
  refine rl0 (gn rfl) rfl rfl (step_makeFunc rfl rfl) trivial ?_
  refine rl0 (gn rfl) rfl rfl (step_callc rfl Try.func27 rfl rfl rfl (get_y1 0 0 1 1 3 (fun _ => p) (fun w_ => decide (w_ = 3)) (fun _ => ⟨hb, hl⟩) (n + 0) (p.map bV) (fun w_ => at29 w_ _ p hl) [3] (rPt p) hG) (by repeat (first | exact .nil | refine .cons ?_ ?_ | exact VLe.refl _ | exact VLe.own_sl _ _ _ | exact VLe.fl_sl _ _ | exact VLe.nil_sl _ | exact VLe.nil_fl _ | refine VLe.agg ?_))) ⟨by repeat (first | exact uE | refine uN (by omega) ?_ | assumption | exact hd _ (by omega) | fail), trivial⟩ ?_
  refine rl0 (gn rfl) rfl rfl (step_mv rfl rfl) trivial ?_
  refine rl0 (gn rfl) rfl rfl (step_extract rfl (ev_mk rfl) rfl) trivial ?_
  refine rl0 (gn rfl) rfl rfl (step_extract rfl (ev_mk rfl) rfl) trivial ?_
  refine rl1 (gn rfl) rfl rfl (step_allocc (k := n + 1) (zs := [.int .i64 0, .int .i64 0, .int .i64 0, .int .i64 0, .slice none 0 0, .slice none 0 0]) (cs := [.sc (.int .i64 0), .sc (.int .i64 0), .sc (.int .i64 0), .sc (.int .i64 0), .sc (.slice none 0 0), .sc (.slice none 0 0)]) rfl F.zero44 (by first | rfl | simp) (by first | rfl | decide | simp) (by first | rfl | simp)) ⟨by repeat (first | exact uE | refine uN (by omega) ?_ | assumption | exact hd _ (by omega) | fail), trivial⟩ (by omega) ?_
  refine' rls (gn rfl) rfl (step_storeA rfl rfl rfl rfl F.agg44 ?hm ?hl) ⟨?hb, trivial⟩ ?hk ?_
  case hb => repeat (first | exact uE | refine uN (by omega) ?_ | assumption | exact hd _ (by omega) | fail)
  case hm => first | rfl | (simp; done) | (first | (simp; done) | (rw [List.length_map]; exact hl) | (show (p.map bV).length = 224; rw [List.length_map]; exact hl))
  case hl => first | rfl | (simp; done) | (first | (simp; done) | (rw [List.length_map]; exact hl) | (show (p.map bV).length = 224; rw [List.length_map]; exact hl))
  case hk => omega
  refine rl0 (gn rfl) rfl rfl (step_as rfl rfl) trivial ?_
  refine runsL_nil ?_
  refine runs_seq ?_
  refine runs_seq ?_
  refine runs_region ?_
  refine rl0 (gn rfl) rfl rfl (step_mv rfl rfl) trivial ?_
  refine rl0 (gn rfl) rfl rfl (step_unOp (c := .bool false) rfl (ev_mk rfl) (fun _ => rfl)) trivial ?_
  refine runsL_nil ?_
  refine runs_cond false (ev_mk rfl) (fun h_ => nomatch h_) (fun _ => ?_)
  refine runs_skip ?_
  refine runs_seq ?_
  refine runs_region ?_
  refine' rl0 (gn rfl) rfl rfl (step_load_all rfl rfl F.agg44 ?hl) ⟨?hb, trivial⟩ ?_
  case hb => repeat (first | exact uE | refine uN (by omega) ?_ | assumption | exact hd _ (by omega) | fail)
  case hl => first | rfl | (simp; done) | (first | (simp; done) | (rw [List.length_map]; exact hl) | (show (p.map bV).length = 224; rw [List.length_map]; exact hl))
  refine rl0 (gn rfl) rfl rfl (step_callc rfl Try.func25 rfl rfl rfl (put_p hb hl ho hn) (by repeat (first | exact .nil | refine .cons ?_ ?_ | exact VLe.refl _ | exact VLe.own_sl _ _ _ | exact VLe.fl_sl _ _ | exact VLe.nil_sl _ | exact VLe.nil_fl _ | refine VLe.agg ?_))) trivial ?_
  refine rl0 (gn rfl) rfl rfl (step_as rfl rfl) trivial ?_
  refine runsL_nil ?_
  refine runs_seq ?_
  refine runs_draw (by kernel_rfl) (by kernel_rfl) (by kernel_rfl) ?_
  refine dl0 (gn rfl) rfl rfl (step_mv rfl rfl) trivial ?_
  refine dl0 (gn rfl) rfl rfl (step_len (m := 1) rfl rfl (ev_mk rfl) (.inl ⟨⟨_, Try.underlying60⟩, .inl ⟨_, _, .inl rfl, rfl⟩⟩)) trivial ?_
  refine dl_eql (gn rfl) rfl rfl rfl rfl rfl (fun h1 => ?_) (fun h1 => ?_)
  rotate_left
  · exact False.elim (by omega)
  refine dl0 (gn rfl) rfl rfl (step_mv rfl rfl) trivial ?_
  refine dl0 (gy rfl rfl rfl rfl rfl rfl) rfl rfl (step_mv rfl rfl) trivial ?_
  refine' dl0 (gy rfl rfl rfl rfl rfl rfl) rfl rfl (step_index rfl (ev_mk rfl) (.inl rfl) (ev_mk rfl) Try.underlying60 F.sz64 (by first | omega | (simp; done)) ?hr) trivial ?_
  case hr => exact map_at _ _ _ (by first | omega | (simp; done)) (by first | omega | (simp; done))
  refine dl0 (gy rfl rfl rfl rfl rfl rfl) rfl rfl (step_fieldAddr_ro (off := 0) rfl (ev_mk rfl) Try.underlying64 rfl F.sz3 rfl rfl) trivial ?_
  refine dl0 (gy rfl rfl rfl rfl rfl rfl) rfl rfl (step_load_ro (v := .sc (.int .i64 3)) rfl (ev_mk rfl) F.one3 rfl) trivial ?_
  refine dl_eql (gy rfl rfl rfl rfl rfl rfl) rfl rfl rfl rfl rfl (fun h2 => ?_) (fun h2 => ?_)
  rotate_left
  · exact False.elim (by omega)
  refine dl0 (gn rfl) rfl rfl (step_pick rfl (ev_mk rfl) (ev_mk rfl)) trivial ?_
  refine dl0 (gn rfl) rfl rfl (step_mv rfl rfl) trivial ?_
  refine dl0 (gy rfl rfl rfl rfl rfl rfl) rfl rfl (step_mv rfl rfl) trivial ?_
  refine' dl0 (gy rfl rfl rfl rfl rfl rfl) rfl rfl (step_index rfl (ev_mk rfl) (.inl rfl) (ev_mk rfl) Try.underlying60 F.sz64 (by first | omega | (simp; done)) ?hr) trivial ?_
  case hr => exact map_at _ _ _ (by first | omega | (simp; done)) (by first | omega | (simp; done))
  refine dl0 (gy rfl rfl rfl rfl rfl rfl) rfl rfl (step_fieldAddr_ro (off := 1) rfl (ev_mk rfl) Try.underlying64 rfl F.sz62 rfl rfl) trivial ?_
  refine dl0 (gy rfl rfl rfl rfl rfl rfl) rfl rfl (step_load_ro_all rfl rfl F.agg62 (by first | rfl | (simp; done) | (first | (simp; done) | (rw [List.length_map]; exact hl) | (show (p.map bV).length = 224; rw [List.length_map]; exact hl)))) trivial ?_
  refine' dl0 (gy rfl rfl rfl rfl rfl rfl) rfl rfl (step_load_all rfl rfl F.agg62 ?hl) ⟨?hb, trivial⟩ ?_
  case hb => repeat (first | exact uE | refine uN (by omega) ?_ | assumption | exact hd _ (by omega) | fail)
  case hl => first | rfl | (simp; done) | (first | (simp; done) | (rw [List.length_map]; exact hl) | (show (p.map bV).length = 224; rw [List.length_map]; exact hl))
  refine dl0 (gy rfl rfl rfl rfl rfl rfl) rfl rfl (step_eql62 (p := p) rfl (ev_mk rfl) (ev_mk rfl) hl) trivial ?_
  refine dl0 (gn rfl) rfl rfl (step_pick rfl (ev_mk rfl) (ev_mk rfl)) trivial ?_
  refine dl0 (gn rfl) rfl rfl (step_mv rfl rfl) trivial ?_
  refine dl0 (gy rfl rfl rfl rfl rfl rfl) rfl rfl (step_index_arr rfl (ev_mk rfl) (ev_mk rfl) Try.underlying62 F.sz5 (by omega) (by omega)) trivial ?_
  refine' dl0 (gy rfl rfl rfl rfl rfl rfl) rfl rfl (step_load_one (v := .sc (.int .u8 0)) rfl (ev_mk rfl) F.one5 ?hv) ⟨?hb, trivial⟩ ?_
  case hb => repeat (first | exact uE | refine uN (by omega) ?_ | assumption | exact hd _ (by omega) | fail)
  case hv => (rw [List.getElem?_map, show 0 + (1 : Int).toNat * 1 = 1 from rfl, at_1 hb hl ho hn]; rfl)
  refine dl_eql (gy rfl rfl rfl rfl rfl rfl) rfl rfl rfl rfl rfl (fun h3 => ?_) (fun h3 => ?_)
  rotate_left
  · exact False.elim (by omega)
  refine dl0 (gn rfl) rfl rfl (step_pick rfl (ev_mk rfl) (ev_mk rfl)) trivial ?_
  refine dl0 (gn rfl) rfl rfl (step_mv rfl rfl) trivial ?_
  refine dl0 (gy rfl rfl rfl rfl rfl rfl) rfl rfl (step_callc rfl Try.func15 rfl rfl rfl (hw) (by repeat (first | exact .nil | refine .cons ?_ ?_ | exact VLe.refl _ | exact VLe.own_sl _ _ _ | exact VLe.fl_sl _ _ | exact VLe.nil_sl _ | exact VLe.nil_fl _ | refine VLe.agg ?_))) trivial ?_
  refine dl0 (gn rfl) rfl rfl (step_pick rfl (ev_mk rfl) (ev_mk rfl)) trivial ?_
  refine dl0 (gn rfl) rfl rfl (step_as rfl rfl) trivial ?_
  refine dlnil ?_ ?_
  · repeat' (first | exact trivial | exact .inr (ap0 _ _ _ _) | exact .inr (ap2 _ _ _ _) | exact .inr (ap3 _ _ _ _) | exact .inr ⟨by first | (simp; done) | (simp; omega), by first | (simp; done) | (simp; omega)⟩ | exact .inl (by kernel_rfl) | refine ⟨?_, ?_⟩ | fail)
  refine runs_ret ?_
  refine ⟨by first | exact .inr rfl | exact .inl rfl, fin_mkg (rest rfl res0) ?_ ?_ ?_ ?_ ?_⟩
  · (repeat' (first | exact VLe.refl _ | exact VLe.own_sl _ _ _ | exact VLe.fl_sl _ _ | exact VLe.nil_sl _ | exact VLe.nil_fl _ | exact VLes.refl _ | exact .nil | refine VLe.tup ?_ | refine VLe.agg ?_ | refine .cons ?_ ?_ | (rw [Int.natCast_add]; exact VLe.refl _) | exact vle_int (by omega) | exact vle_bool (by first | rfl | assumption | (simp_all; done) | fail) | fail))
  · repeat (first | exact trivial | assumption | omega | (refine bdR_map (fun _ => ?_)) | (refine bdL_map (fun _ => ?_)) | refine ⟨?_, ?_⟩ | fail)
  · intro k_ hk_; exact ble (by repeat (first | exact rfl | refine uN (by omega) ?_ | assumption | fail))
  · intro p hp; cases hp
  · repeat (first | exact trivial | assumption | omega | (refine bdR_map (fun _ => ?_)) | (refine bdL_map (fun _ => ?_)) | refine ⟨?_, ?_⟩ | fail)
end Go.Proofs.Ytmlhekadnplpcaa
