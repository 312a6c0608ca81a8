/- Walks by the logic of values. -/
import Derived.Test.YthpkhecialkmmaaKeVmT
import Derived.Test.YthpkhecialkmmaaKeVmP
import Derived.Test.YthpkhecialkmmaaKeVmV
import Derived.Test.YthpkhecialkmmaaKeVmO
import Derived.Test.YthpkhecialkmmaaKeVa
import Derived.Test.YthpkhecialkmmaaKeVb
import Derived.Test.YthpkhecialkmmaaKeVc
import Derived.Test.YthpkhecialkmmaaKeVd
import Derived.Test.YthpkhecialkmmaaKeVf
import Derived.Test.YthpkhecialkmmaaKeVh
namespace Go.Proofs.Ythpkhecialkmmaa
open Go.Vm
set_option linter.unusedVariables false
set_option linter.unusedSimpArgs false
def h21F (k : Int) : Int := if k = 0 then 2 else 0
theorem h21_m6 (k : Int) : M6 (h21F k) := by unfold h21F M6; split <;> omega
set_option maxRecDepth 100000 in
set_option maxHeartbeats 4000000 in
theorem find_20 (o : Op1) (r : Rc1) (th : Bool) (hr20 : r = ⟨0, o.key, 536870912, 0, ByteArray.empty, false⟩) (ht20 : th = decide (o.key = 5)) : Does Try.prog 20 [.sc (.int .u64 o.key)] [] [] (.tup [.agg (rcdC r), .sc (.bool th)]) := by
  refine does_mkg 40 Try.func20 rfl rfl rfl (fun n B bx hd hpre hup hvs hbx hgx => ?_)
  subst hr20
  subst ht20
  refine runs_seq ?_
  refine runs_region ?_
  refine rl1 (gn rfl) rfl rfl (step_allocc (k := n + 0) (zs := [.int .u64 0, .int .u64 0, .int .u32 0, .int .u32 0, .string ByteArray.empty, .bool false]) (cs := [.sc (.int .u64 0), .sc (.int .u64 0), .sc (.int .u32 0), .sc (.int .u32 0), .sc (.string ByteArray.empty), .sc (.bool false)]) rfl F.zero29 (by first | rfl | simp) (by first | rfl | decide | simp) (by first | rfl | simp)) ⟨by repeat (first | exact uE | refine uN (by omega) ?_ | assumption | exact hd _ (by omega) | fail), trivial⟩ (by omega) ?_
  refine rl0 (gn rfl) rfl rfl (step_as rfl rfl) trivial ?_
  refine runsL_nil ?_
  refine runs_seq ?_
  refine runs_region ?_
  refine rl0 (gn rfl) rfl rfl (step_mv rfl rfl) trivial ?_
  refine rl0 (gn rfl) rfl rfl (step_build (ss := [1, 1, 1, 1, 1, 1]) (zs := [.int .u64 0, .int .u64 0, .int .u32 0, .int .u32 0, .string ByteArray.empty, .bool false]) rfl Try.underlying29 (by kernel_rfl) F.zero29 rfl rfl rfl) trivial ?_
  refine rl0 (gn rfl) rfl rfl (step_mv rfl rfl) trivial ?_
  refine rl_eql (gn rfl) rfl rfl rfl rfl rfl (fun h1 => ?_) (fun h1 => ?_)
  · skip
    refine' rls (gn rfl) rfl (step_storeA rfl rfl rfl rfl F.agg29 ?hm ?hl) ⟨?hb, trivial⟩ ?hk ?_
    case hb => repeat (first | exact uE | refine uN (by omega) ?_ | assumption | exact hd _ (by omega) | fail)
    case hm => first | rfl | (simp; done) | (first | (simp; done) | (simp; omega) | omega)
    case hl => first | rfl | (simp; done) | (first | (simp; done) | (simp; omega) | omega)
    case hk => omega
    refine rl0 (gn rfl) rfl rfl (step_as rfl rfl) trivial ?_
    refine runsL_nil ?_
    refine runs_ret ?_
    first | (have hem_ : true = decide (o.key = 5) := (decide_eq_true (by assumption)).symm) | (have hem_ : false = decide (o.key = 5) := (decide_eq_false (by assumption)).symm)
    refine ⟨by first | exact .inr rfl | exact .inl rfl, fin_mkg (resc rfl (by repeat (first | exact uE | refine uN (by omega) ?_ | assumption | exact hd _ (by omega) | fail)) F.agg29 (by first | rfl | (simp; done) | (first | (simp; done) | (simp; omega) | omega)) (rest rfl res0)) ?_ ?_ ?_ ?_ ?_⟩
    · (repeat' (first | exact VLe.refl _ | exact VLe.own_sl _ _ _ | exact VLe.fl_sl _ _ | exact VLe.nil_sl _ | exact VLe.nil_fl _ | exact VLes.refl _ | exact .nil | refine VLe.tup ?_ | refine VLe.agg ?_ | refine .cons ?_ ?_ | (rw [Int.natCast_add]; exact VLe.refl _) | exact vle_int (by omega) | exact vle_bool (by first | rfl | assumption | (simp_all; done) | fail) | fail))
    · repeat (first | exact trivial | assumption | omega | (refine bdR_map (fun _ => ?_)) | (refine bdL_map (fun _ => ?_)) | refine ⟨?_, ?_⟩ | fail)
    · intro k_ hk_; exact ble (by repeat (first | exact rfl | refine uN (by omega) ?_ | assumption | fail))
    · intro p hp; cases hp
    · repeat (first | exact trivial | assumption | omega | (refine bdR_map (fun _ => ?_)) | (refine bdL_map (fun _ => ?_)) | refine ⟨?_, ?_⟩ | fail)
  · skip
    refine' rls (gn rfl) rfl (step_storeA rfl rfl rfl rfl F.agg29 ?hm ?hl) ⟨?hb, trivial⟩ ?hk ?_
    case hb => repeat (first | exact uE | refine uN (by omega) ?_ | assumption | exact hd _ (by omega) | fail)
    case hm => first | rfl | (simp; done) | (first | (simp; done) | (simp; omega) | omega)
    case hl => first | rfl | (simp; done) | (first | (simp; done) | (simp; omega) | omega)
    case hk => omega
    refine rl0 (gn rfl) rfl rfl (step_as rfl rfl) trivial ?_
    refine runsL_nil ?_
    refine runs_ret ?_
    first | (have hem_ : true = decide (o.key = 5) := (decide_eq_true (by assumption)).symm) | (have hem_ : false = decide (o.key = 5) := (decide_eq_false (by assumption)).symm)
    refine ⟨by first | exact .inr rfl | exact .inl rfl, fin_mkg (resc rfl (by repeat (first | exact uE | refine uN (by omega) ?_ | assumption | exact hd _ (by omega) | fail)) F.agg29 (by first | rfl | (simp; done) | (first | (simp; done) | (simp; omega) | omega)) (rest rfl res0)) ?_ ?_ ?_ ?_ ?_⟩
    · (repeat' (first | exact VLe.refl _ | exact VLe.own_sl _ _ _ | exact VLe.fl_sl _ _ | exact VLe.nil_sl _ | exact VLe.nil_fl _ | exact VLes.refl _ | exact .nil | refine VLe.tup ?_ | refine VLe.agg ?_ | refine .cons ?_ ?_ | (rw [Int.natCast_add]; exact VLe.refl _) | exact vle_int (by omega) | exact vle_bool (by first | rfl | assumption | (simp_all; done) | fail) | fail))
    · repeat (first | exact trivial | assumption | omega | (refine bdR_map (fun _ => ?_)) | (refine bdL_map (fun _ => ?_)) | refine ⟨?_, ?_⟩ | fail)
    · intro k_ hk_; exact ble (by repeat (first | exact rfl | refine uN (by omega) ?_ | assumption | fail))
    · intro p hp; cases hp
    · repeat (first | exact trivial | assumption | omega | (refine bdR_map (fun _ => ?_)) | (refine bdL_map (fun _ => ?_)) | refine ⟨?_, ?_⟩ | fail)
set_option maxRecDepth 100000 in
set_option maxHeartbeats 4000000 in
theorem h21_0 (n_ : Int) : Does Try.prog 21 [.agg [.sc (.int .i64 0), .sc (.int .u64 n_)]] [] [] (.sc (.int .i64 2)) := by
  refine does_mkg 40 Try.func21 rfl rfl rfl (fun n B bx hd hpre hup hvs hbx hgx => ?_)
  refine runs_seq ?_
  refine runs_region ?_
  refine rl1 (gn rfl) rfl rfl (step_box_agg (k := n + 0) rfl rfl) ⟨by repeat (first | exact uE | refine uN (by omega) ?_ | assumption | exact hd _ (by omega) | fail), trivial⟩ (by omega) ?_
  refine rl0 (gn rfl) rfl rfl (step_as rfl rfl) trivial ?_
  refine runsL_nil ?_
  refine runs_seq ?_
  refine runs_region ?_
  refine rl0 (gn rfl) rfl rfl (step_fieldAddr (off := 0) rfl (ev_mk rfl) Try.underlying39 rfl F.sz3 rfl) trivial ?_
  refine' rl0 (gn rfl) rfl rfl (step_load_one rfl (ev_mk rfl) F.one3 ?hv) ⟨?hb, trivial⟩ ?_
  case hb => repeat (first | exact uE | refine uN (by omega) ?_ | assumption | exact hd _ (by omega) | fail)
  case hv => rfl
  refine rl0 (gn rfl) rfl rfl (step_sub rfl (ev_mk rfl) (ev_mk rfl) (w64 (by omega))) trivial ?_
  refine rl0 (gn rfl) rfl rfl (step_mul rfl (ev_mk rfl) (ev_mk rfl) (w64 (by omega))) trivial ?_
  refine rl0 (gn rfl) rfl rfl (step_fieldAddr (off := 0) rfl (ev_mk rfl) Try.underlying39 rfl F.sz3 rfl) trivial ?_
  refine' rl0 (gn rfl) rfl rfl (step_load_one rfl (ev_mk rfl) F.one3 ?hv) ⟨?hb, trivial⟩ ?_
  case hb => repeat (first | exact uE | refine uN (by omega) ?_ | assumption | exact hd _ (by omega) | fail)
  case hv => rfl
  refine rl0 (gn rfl) rfl rfl (step_sub rfl (ev_mk rfl) (ev_mk rfl) (w64 (by omega))) trivial ?_
  refine rl0 (gn rfl) rfl rfl (step_mul rfl (ev_mk rfl) (ev_mk rfl) (w64 (by omega))) trivial ?_
  refine rl0 (gn rfl) rfl rfl (step_quo rfl (ev_mk rfl) (ev_mk rfl) (by omega) (by omega) (w64 (by omega))) trivial ?_
  refine rl0 (gn rfl) rfl rfl (step_as rfl rfl) trivial ?_
  refine runsL_nil ?_
  refine runs_ret ?_
  refine ⟨by first | exact .inr rfl | exact .inl rfl, fin_mkg (rest rfl res0) ?_ ?_ ?_ ?_ ?_⟩
  · (repeat' (first | exact VLe.refl _ | exact VLe.own_sl _ _ _ | exact VLe.fl_sl _ _ | exact VLe.nil_sl _ | exact VLe.nil_fl _ | exact VLes.refl _ | exact .nil | refine VLe.tup ?_ | refine VLe.agg ?_ | refine .cons ?_ ?_ | (rw [Int.natCast_add]; exact VLe.refl _) | exact vle_int (by omega) | exact vle_bool (by first | rfl | assumption | (simp_all; done) | fail) | fail))
  · repeat (first | exact trivial | assumption | omega | (refine bdR_map (fun _ => ?_)) | (refine bdL_map (fun _ => ?_)) | refine ⟨?_, ?_⟩ | fail)
  · intro k_ hk_; exact ble (by repeat (first | exact rfl | refine uN (by omega) ?_ | assumption | fail))
  · intro p hp; cases hp
  · repeat (first | exact trivial | assumption | omega | (refine bdR_map (fun _ => ?_)) | (refine bdL_map (fun _ => ?_)) | refine ⟨?_, ?_⟩ | fail)
set_option maxRecDepth 100000 in
set_option maxHeartbeats 4000000 in
theorem h21_1 (n_ : Int) : Does Try.prog 21 [.agg [.sc (.int .i64 1), .sc (.int .u64 n_)]] [] [] (.sc (.int .i64 0)) := by
  refine does_mkg 40 Try.func21 rfl rfl rfl (fun n B bx hd hpre hup hvs hbx hgx => ?_)
  refine runs_seq ?_
  refine runs_region ?_
  refine rl1 (gn rfl) rfl rfl (step_box_agg (k := n + 0) rfl rfl) ⟨by repeat (first | exact uE | refine uN (by omega) ?_ | assumption | exact hd _ (by omega) | fail), trivial⟩ (by omega) ?_
  refine rl0 (gn rfl) rfl rfl (step_as rfl rfl) trivial ?_
  refine runsL_nil ?_
  refine runs_seq ?_
  refine runs_region ?_
  refine rl0 (gn rfl) rfl rfl (step_fieldAddr (off := 0) rfl (ev_mk rfl) Try.underlying39 rfl F.sz3 rfl) trivial ?_
  refine' rl0 (gn rfl) rfl rfl (step_load_one rfl (ev_mk rfl) F.one3 ?hv) ⟨?hb, trivial⟩ ?_
  case hb => repeat (first | exact uE | refine uN (by omega) ?_ | assumption | exact hd _ (by omega) | fail)
  case hv => rfl
  refine rl0 (gn rfl) rfl rfl (step_sub rfl (ev_mk rfl) (ev_mk rfl) (w64 (by omega))) trivial ?_
  refine rl0 (gn rfl) rfl rfl (step_mul rfl (ev_mk rfl) (ev_mk rfl) (w64 (by omega))) trivial ?_
  refine rl0 (gn rfl) rfl rfl (step_fieldAddr (off := 0) rfl (ev_mk rfl) Try.underlying39 rfl F.sz3 rfl) trivial ?_
  refine' rl0 (gn rfl) rfl rfl (step_load_one rfl (ev_mk rfl) F.one3 ?hv) ⟨?hb, trivial⟩ ?_
  case hb => repeat (first | exact uE | refine uN (by omega) ?_ | assumption | exact hd _ (by omega) | fail)
  case hv => rfl
  refine rl0 (gn rfl) rfl rfl (step_sub rfl (ev_mk rfl) (ev_mk rfl) (w64 (by omega))) trivial ?_
  refine rl0 (gn rfl) rfl rfl (step_mul rfl (ev_mk rfl) (ev_mk rfl) (w64 (by omega))) trivial ?_
  refine rl0 (gn rfl) rfl rfl (step_quo rfl (ev_mk rfl) (ev_mk rfl) (by omega) (by omega) (w64 (by omega))) trivial ?_
  refine rl0 (gn rfl) rfl rfl (step_as rfl rfl) trivial ?_
  refine runsL_nil ?_
  refine runs_ret ?_
  refine ⟨by first | exact .inr rfl | exact .inl rfl, fin_mkg (rest rfl res0) ?_ ?_ ?_ ?_ ?_⟩
  · (repeat' (first | exact VLe.refl _ | exact VLe.own_sl _ _ _ | exact VLe.fl_sl _ _ | exact VLe.nil_sl _ | exact VLe.nil_fl _ | exact VLes.refl _ | exact .nil | refine VLe.tup ?_ | refine VLe.agg ?_ | refine .cons ?_ ?_ | (rw [Int.natCast_add]; exact VLe.refl _) | exact vle_int (by omega) | exact vle_bool (by first | rfl | assumption | (simp_all; done) | fail) | fail))
  · repeat (first | exact trivial | assumption | omega | (refine bdR_map (fun _ => ?_)) | (refine bdL_map (fun _ => ?_)) | refine ⟨?_, ?_⟩ | fail)
  · intro k_ hk_; exact ble (by repeat (first | exact rfl | refine uN (by omega) ?_ | assumption | fail))
  · intro p hp; cases hp
  · repeat (first | exact trivial | assumption | omega | (refine bdR_map (fun _ => ?_)) | (refine bdL_map (fun _ => ?_)) | refine ⟨?_, ?_⟩ | fail)
set_option maxRecDepth 100000 in
set_option maxHeartbeats 4000000 in
theorem h21_2 (n_ : Int) : Does Try.prog 21 [.agg [.sc (.int .i64 2), .sc (.int .u64 n_)]] [] [] (.sc (.int .i64 0)) := by
  refine does_mkg 40 Try.func21 rfl rfl rfl (fun n B bx hd hpre hup hvs hbx hgx => ?_)
  refine runs_seq ?_
  refine runs_region ?_
  refine rl1 (gn rfl) rfl rfl (step_box_agg (k := n + 0) rfl rfl) ⟨by repeat (first | exact uE | refine uN (by omega) ?_ | assumption | exact hd _ (by omega) | fail), trivial⟩ (by omega) ?_
  refine rl0 (gn rfl) rfl rfl (step_as rfl rfl) trivial ?_
  refine runsL_nil ?_
  refine runs_seq ?_
  refine runs_region ?_
  refine rl0 (gn rfl) rfl rfl (step_fieldAddr (off := 0) rfl (ev_mk rfl) Try.underlying39 rfl F.sz3 rfl) trivial ?_
  refine' rl0 (gn rfl) rfl rfl (step_load_one rfl (ev_mk rfl) F.one3 ?hv) ⟨?hb, trivial⟩ ?_
  case hb => repeat (first | exact uE | refine uN (by omega) ?_ | assumption | exact hd _ (by omega) | fail)
  case hv => rfl
  refine rl0 (gn rfl) rfl rfl (step_sub rfl (ev_mk rfl) (ev_mk rfl) (w64 (by omega))) trivial ?_
  refine rl0 (gn rfl) rfl rfl (step_mul rfl (ev_mk rfl) (ev_mk rfl) (w64 (by omega))) trivial ?_
  refine rl0 (gn rfl) rfl rfl (step_fieldAddr (off := 0) rfl (ev_mk rfl) Try.underlying39 rfl F.sz3 rfl) trivial ?_
  refine' rl0 (gn rfl) rfl rfl (step_load_one rfl (ev_mk rfl) F.one3 ?hv) ⟨?hb, trivial⟩ ?_
  case hb => repeat (first | exact uE | refine uN (by omega) ?_ | assumption | exact hd _ (by omega) | fail)
  case hv => rfl
  refine rl0 (gn rfl) rfl rfl (step_sub rfl (ev_mk rfl) (ev_mk rfl) (w64 (by omega))) trivial ?_
  refine rl0 (gn rfl) rfl rfl (step_mul rfl (ev_mk rfl) (ev_mk rfl) (w64 (by omega))) trivial ?_
  refine rl0 (gn rfl) rfl rfl (step_quo rfl (ev_mk rfl) (ev_mk rfl) (by omega) (by omega) (w64 (by omega))) trivial ?_
  refine rl0 (gn rfl) rfl rfl (step_as rfl rfl) trivial ?_
  refine runsL_nil ?_
  refine runs_ret ?_
  refine ⟨by first | exact .inr rfl | exact .inl rfl, fin_mkg (rest rfl res0) ?_ ?_ ?_ ?_ ?_⟩
  · (repeat' (first | exact VLe.refl _ | exact VLe.own_sl _ _ _ | exact VLe.fl_sl _ _ | exact VLe.nil_sl _ | exact VLe.nil_fl _ | exact VLes.refl _ | exact .nil | refine VLe.tup ?_ | refine VLe.agg ?_ | refine .cons ?_ ?_ | (rw [Int.natCast_add]; exact VLe.refl _) | exact vle_int (by omega) | exact vle_bool (by first | rfl | assumption | (simp_all; done) | fail) | fail))
  · repeat (first | exact trivial | assumption | omega | (refine bdR_map (fun _ => ?_)) | (refine bdL_map (fun _ => ?_)) | refine ⟨?_, ?_⟩ | fail)
  · intro k_ hk_; exact ble (by repeat (first | exact rfl | refine uN (by omega) ?_ | assumption | fail))
  · intro p hp; cases hp
  · repeat (first | exact trivial | assumption | omega | (refine bdR_map (fun _ => ?_)) | (refine bdL_map (fun _ => ?_)) | refine ⟨?_, ?_⟩ | fail)
theorem held_21 (k n_ : Int) (hk : 0 ≤ k ∧ k ≤ 2) : Does Try.prog 21 [.agg [.sc (.int .i64 k), .sc (.int .u64 n_)]] [] [] (.sc (.int .i64 (h21F k))) := by
  rcases (by omega : k = 0 ∨ k = 1 ∨ k = 2) with rfl | rfl | rfl
  · exact h21_0 n_
  · exact h21_1 n_
  · exact h21_2 n_
set_option maxRecDepth 100000 in
set_option maxHeartbeats 4000000 in
theorem all_20 (o : Op1) (r : Rc1) (th : Bool) (hr20 : r = ⟨0, o.key, 536870912, 0, ByteArray.empty, false⟩) (ht20 : th = decide (o.key = 5)) {k2 kf : Nat} (h2f : k2 ≠ kf) (ho : OkO o) (hr : OkR r) : DoesL Try.prog 24 [.ref k2 0, .ref kf 0] ((allL o r th).map enW) [(k2, .cells (opC o), fun m_ b_ => .cells (opC o)), (kf, .cells [.sc (.func (.func 20) #[] #[])], fun m_ b_ => .cells [.sc (.func (.func 20) #[] #[])])] [] := by
  refine doesL_mk 40 Try.func24 rfl rfl rfl (⟨⟨by dsimp only; omega, trivial⟩, ⟨trivial, trivial⟩⟩) (fun ll => rfl) (fun Xb ll n0 D σ m brk h1m h2m h3m hDE hY n B bx hn0 hO hXb hd hDlt hf99 hE hPr hOt hcb hbb hsb => ?_)
  have hDn : ∀ k, n ≤ k → D k = false := fun k hk => by cases h_ : D k with | false => rfl | true => exact absurd (hDlt k h_) (by omega)
  have hJ_ := OkJ.zero (brk := brk) (m := m) h2m
  have hk0 : k2 < n := hE.1.1
  have hz0 : D k2 = false := hE.1.2.1
  have hp0 : bx k2 = .cells (opC o) := hE.1.2.2
  have hk1 : kf < n := hE.2.1.1
  have hz1 : D kf = false := hE.2.1.2.1
  have hp1 : bx kf = .cells [.sc (.func (.func 20) #[] #[])] := hE.2.1.2.2
  refine runs_seq ?_
  refine runs_region ?_
  refine rl1 (gn rfl) rfl rfl (step_box_one (k := n + 0) rfl rfl rfl rfl) ⟨by repeat (first | exact uE | refine uN (by omega) ?_ | assumption | refine ovN (by first | assumption | exact hDn _ (by omega)) ?_ | exact hd _ (by omega) | fail), trivial⟩ (by omega) ?_
  refine runsL_nil ?_
  refine runs_seq ?_
  refine runs_region ?_
  refine rl0 (gn rfl) rfl rfl (step_fieldAddr (off := 0) rfl (ev_mk rfl) Try.underlying27 rfl F.sz3 rfl) trivial ?_
  refine' rl0 (gn rfl) rfl rfl (step_load_one rfl (ev_mk rfl) F.one3 ?hv) ⟨?hb, trivial⟩ ?_
  case hb => repeat (first | exact uE | refine uN (by omega) ?_ | assumption | refine ovN (by first | assumption | exact hDn _ (by omega)) ?_ | exact hd _ (by omega) | fail)
  case hv => rfl
  refine runsL_nil ?_
  refine runs_block ?_
  refine runs_seq ?_
  refine runs_region ?_
  refine rl_eql (gn rfl) rfl rfl rfl rfl rfl (fun h1 => ?_) (fun h1 => ?_)
  · skip
    have hal_ := al1 (r := r) (th := th) h1
    refine rl0 (gn rfl) rfl rfl (step_as rfl rfl) trivial ?_
    refine runsL_nil ?_
    refine runs_cond true (ev_mk rfl) (fun _ => ?_) (fun h_ => nomatch h_)
    refine runs_reg (by kernel_rfl) ?_
    refine reg_draw (m := 3) (by kernel_rfl) (by kernel_rfl) rfl rfl (.inr (by kernel_rfl)) ?_
    refine' dl0 (gn rfl) rfl rfl (step_load_one rfl (ev_mk rfl) F.one59 ?hv) ⟨?hb, trivial⟩ ?_
    case hb => repeat (first | exact uE | refine uN (by omega) ?_ | assumption | refine ovN (by first | assumption | exact hDn _ (by omega)) ?_ | exact hd _ (by omega) | fail)
    case hv => rfl
    refine dl0 (gn rfl) rfl rfl (step_callc rfl Try.func25 rfl rfl rfl (store_c) (by repeat (first | exact .nil | refine .cons ?_ ?_ | exact VLe.refl _ | exact VLe.own_sl _ _ _ | exact VLe.fl_sl _ _ | exact VLe.nil_sl _ | exact VLe.nil_fl _ | refine VLe.agg ?_))) trivial ?_
    refine dl0 (gn rfl) rfl rfl (step_build (ss := [2, 1]) (zs := [.int .i64 0, .int .u64 0, .int .i64 0]) rfl Try.underlying41 (by kernel_rfl) F.zero41 rfl rfl rfl) trivial ?_
    refine dlnils (acc' := [_, _, _]) ?_ ?_
    · repeat' (first | exact trivial | exact .inr (ap0 _ _ _ _) | exact .inr (ap2 _ _ _ _) | exact .inr (ap3 _ _ _ _) | exact .inr ⟨by first | (simp; done) | (simp; omega), by first | (simp; done) | (simp; omega)⟩ | exact .inl (by kernel_rfl) | refine ⟨?_, ?_⟩ | fail)
    have hget_ : ((allL o r th).map enW)[0]? = some [.agg [.sc (.int .i64 0), .sc (.int .u64 0), .sc (.int .i64 2)]] := by rw [hal_]; rfl
    have hlt_ : 0 < m := OkJ.lt hJ_ h3m (by rw [hal_]; simp)
    refine reg_yield (by kernel_rfl) (by kernel_rfl) rfl (gn rfl) rfl rfl rfl rfl rfl (by repeat (first | exact .nil | refine .cons ?_ ?_ | exact VLe.refl _ | exact vle_int (by omega) | refine VLe.agg ?_)) (hY (0) _ hlt_ (hget_)) hXb (by omega) (fun k_ hD_ => ?_) (fun k_ hk1_ hD_ hk3_ => ?_) ?_
    · have hk1_ := hDlt k_ hD_; obtain ⟨ee0_, ee1_, _⟩ := hDE k_ hD_; exact ⟨by omega, by repeat (first | exact ovYJ hD_ (by omega) | refine uN (by first | assumption | omega) ?_ | exact (hf99 _ (by omega)).trans (ovYJ hD_ (by omega)) | fail)⟩
    · obtain ⟨ee0_, ee1_, _⟩ := inK_no hk3_; repeat (first | refine uN (by first | assumption | omega) ?_ | refine ovN hD_ ?_ | exact hOt k_ hk1_ hD_ hk3_ | fail)
    refine reg_bool (d := 14) rfl (fun h2 => ?_) (fun h2 => ?_)
    · skip
      have hJn_ := OkJ.next h2 hlt_
      refine reg_draw (m := 6) (by kernel_rfl) (by kernel_rfl) rfl rfl (.inr (by kernel_rfl)) ?_
      refine dl0 (gn rfl) rfl rfl (step_mv rfl rfl) trivial ?_
      refine' dl0 (gy rfl rfl rfl rfl rfl rfl) rfl rfl (step_load_one rfl (ev_mk rfl) F.one59 ?hv) ⟨?hb, trivial⟩ ?_
      case hb => repeat (first | exact uE | refine uN (by omega) ?_ | assumption | refine ovN (by first | assumption | exact hDn _ (by omega)) ?_ | exact hd _ (by omega) | fail)
      case hv => rfl
      refine dl0 (gy rfl rfl rfl rfl rfl rfl) rfl rfl (step_fieldAddr (off := 1) rfl (ev_mk rfl) Try.underlying27 rfl F.sz22 rfl) trivial ?_
      refine' dl0 (gy rfl rfl rfl rfl rfl rfl) rfl rfl (step_load_one rfl (ev_mk rfl) F.one22 ?hv) ⟨?hb, trivial⟩ ?_
      case hb => repeat (first | exact uE | refine uN (by omega) ?_ | assumption | refine ovN (by first | assumption | exact hDn _ (by omega)) ?_ | exact hd _ (by omega) | fail)
      case hv => rfl
      refine dl0 (gy rfl rfl rfl rfl rfl rfl) rfl rfl (step_callc rfl Try.func26 rfl rfl rfl (key_c) (by repeat (first | exact .nil | refine .cons ?_ ?_ | exact VLe.refl _ | exact VLe.own_sl _ _ _ | exact VLe.fl_sl _ _ | exact VLe.nil_sl _ | exact VLe.nil_fl _ | refine VLe.agg ?_))) trivial ?_
      refine dl0 (gy rfl rfl rfl rfl rfl rfl) rfl rfl (step_build (ss := [2, 1]) (zs := [.int .i64 0, .int .u64 0, .int .i64 0]) rfl Try.underlying41 (by kernel_rfl) F.zero41 rfl rfl rfl) trivial ?_
      refine dlnils (acc' := [_, _, _, _, _, _]) ?_ ?_
      · repeat' (first | exact trivial | exact .inr (ap0 _ _ _ _) | exact .inr (ap2 _ _ _ _) | exact .inr (ap3 _ _ _ _) | exact .inr ⟨by first | (simp; done) | (simp; omega), by first | (simp; done) | (simp; omega)⟩ | exact .inl (by kernel_rfl) | refine ⟨?_, ?_⟩ | fail)
      have hget_ : ((allL o r th).map enW)[1]? = some [.agg [.sc (.int .i64 2), .sc (.int .u64 o.key), .sc (.int .i64 5)]] := by rw [hal_]; rfl
      have hlt_ : 1 < m := OkJ.lt hJn_ h3m (by rw [hal_]; simp)
      refine reg_yield (by kernel_rfl) (by kernel_rfl) rfl (gy rfl rfl rfl rfl rfl rfl) rfl rfl rfl rfl rfl (by repeat (first | exact .nil | refine .cons ?_ ?_ | exact VLe.refl _ | exact vle_int (by omega) | refine VLe.agg ?_)) (hY (1) _ hlt_ (hget_)) hXb (by omega) (fun k_ hD_ => ?_) (fun k_ hk1_ hD_ hk3_ => ?_) ?_
      · have hk1_ := hDlt k_ hD_; obtain ⟨ee0_, ee1_, _⟩ := hDE k_ hD_; exact ⟨by omega, by repeat (first | exact ovYJ hD_ (by omega) | refine uN (by first | assumption | omega) ?_ | exact (hf99 _ (by omega)).trans (ovYJ hD_ (by omega)) | fail)⟩
      · obtain ⟨ee0_, ee1_, _⟩ := inK_no hk3_; repeat (first | refine uN (by first | assumption | omega) ?_ | refine ovN hD_ ?_ | exact hOt k_ hk1_ hD_ hk3_ | fail)
      refine reg_bool (d := 21) rfl (fun h3 => ?_) (fun h3 => ?_)
      · skip
        have hJn_ := OkJ.next h3 hlt_
        refine reg_draw (m := 10) (by kernel_rfl) (by kernel_rfl) rfl rfl (.inr (by kernel_rfl)) ?_
        refine dl0 (gn rfl) rfl rfl (step_pick rfl (ev_mk rfl) (ev_mk rfl)) trivial ?_
        refine dl0 (gn rfl) rfl rfl (step_mv rfl rfl) trivial ?_
        refine' dl0 (gy rfl rfl rfl rfl rfl rfl) rfl rfl (step_load_one rfl (ev_mk rfl) F.one59 ?hv) ⟨?hb, trivial⟩ ?_
        case hb => repeat (first | exact uE | refine uN (by omega) ?_ | assumption | refine ovN (by first | assumption | exact hDn _ (by omega)) ?_ | exact hd _ (by omega) | fail)
        case hv => rfl
        refine dl0 (gy rfl rfl rfl rfl rfl rfl) rfl rfl (step_fieldAddr (off := 2) rfl (ev_mk rfl) Try.underlying27 rfl F.sz23 rfl) trivial ?_
        refine' dl0 (gy rfl rfl rfl rfl rfl rfl) rfl rfl (step_load_one rfl (ev_mk rfl) F.one23 ?hv) ⟨?hb, trivial⟩ ?_
        case hb => repeat (first | exact uE | refine uN (by omega) ?_ | assumption | refine ovN (by first | assumption | exact hDn _ (by omega)) ?_ | exact hd _ (by omega) | fail)
        case hv => rfl
        refine dl0 (gy rfl rfl rfl rfl rfl rfl) rfl rfl (step_fieldAddr (off := 3) rfl (ev_mk rfl) Try.underlying27 rfl F.sz23 rfl) trivial ?_
        refine' dl0 (gy rfl rfl rfl rfl rfl rfl) rfl rfl (step_load_one rfl (ev_mk rfl) F.one23 ?hv) ⟨?hb, trivial⟩ ?_
        case hb => repeat (first | exact uE | refine uN (by omega) ?_ | assumption | refine ovN (by first | assumption | exact hDn _ (by omega)) ?_ | exact hd _ (by omega) | fail)
        case hv => rfl
        refine dl0 (gy rfl rfl rfl rfl rfl rfl) rfl rfl (step_callc rfl Try.func28 rfl rfl rfl (tile_c ho.1 ho.2.1) (by repeat (first | exact .nil | refine .cons ?_ ?_ | exact VLe.refl _ | exact VLe.own_sl _ _ _ | exact VLe.fl_sl _ _ | exact VLe.nil_sl _ | exact VLe.nil_fl _ | refine VLe.agg ?_))) trivial ?_
        refine dl0 (gy rfl rfl rfl rfl rfl rfl) rfl rfl (step_callc rfl Try.func27 rfl rfl rfl (ntile_c (t := tiF o.x o.y) (by have := ti_bd ho.1 ho.2.1; omega)) (by repeat (first | exact .nil | refine .cons ?_ ?_ | exact VLe.refl _ | exact VLe.own_sl _ _ _ | exact VLe.fl_sl _ _ | exact VLe.nil_sl _ | exact VLe.nil_fl _ | refine VLe.agg ?_))) trivial ?_
        refine dl0 (gy rfl rfl rfl rfl rfl rfl) rfl rfl (step_build (ss := [2, 1]) (zs := [.int .i64 0, .int .u64 0, .int .i64 0]) rfl Try.underlying41 (by kernel_rfl) F.zero41 rfl rfl rfl) trivial ?_
        refine dlnils (acc' := [_, _, _, _, _, _, _, _, _, _]) ?_ ?_
        · repeat' (first | exact trivial | exact .inr (ap0 _ _ _ _) | exact .inr (ap2 _ _ _ _) | exact .inr (ap3 _ _ _ _) | exact .inr ⟨by first | (simp; done) | (simp; omega), by first | (simp; done) | (simp; omega)⟩ | exact .inl (by kernel_rfl) | refine ⟨?_, ?_⟩ | fail)
        have hget_ : ((allL o r th).map enW)[2]? = some [.agg [.sc (.int .i64 1), .sc (.int .u64 (tiF o.x o.y)), .sc (.int .i64 2)]] := by rw [hal_]; rfl
        have hlt_ : 2 < m := OkJ.lt hJn_ h3m (by rw [hal_]; simp)
        refine reg_yield (by kernel_rfl) (by kernel_rfl) rfl (gy rfl rfl rfl rfl rfl rfl) rfl rfl rfl rfl rfl (by repeat (first | exact .nil | refine .cons ?_ ?_ | exact VLe.refl _ | exact vle_int (by omega) | refine VLe.agg ?_)) (hY (2) _ hlt_ (hget_)) hXb (by omega) (fun k_ hD_ => ?_) (fun k_ hk1_ hD_ hk3_ => ?_) ?_
        · have hk1_ := hDlt k_ hD_; obtain ⟨ee0_, ee1_, _⟩ := hDE k_ hD_; exact ⟨by omega, by repeat (first | exact ovYJ hD_ (by omega) | refine uN (by first | assumption | omega) ?_ | exact (hf99 _ (by omega)).trans (ovYJ hD_ (by omega)) | fail)⟩
        · obtain ⟨ee0_, ee1_, _⟩ := inK_no hk3_; repeat (first | refine uN (by first | assumption | omega) ?_ | refine ovN hD_ ?_ | exact hOt k_ hk1_ hD_ hk3_ | fail)
        refine reg_bool (d := 32) rfl (fun h4 => ?_) (fun h4 => ?_)
        · skip
          have hJn_ := OkJ.next h4 hlt_
          have hJm_ := OkJ.fin hJn_ h1m (by rw [hal_]; simp)
          refine reg_draw (m := 1) (by kernel_rfl) (by kernel_rfl) rfl rfl (.inl rfl) ?_
          refine dl0 (gn rfl) rfl rfl (step_pick rfl (ev_mk rfl) (ev_mk rfl)) trivial ?_
          refine dlnils (acc' := [_]) ?_ ?_
          · repeat' (first | exact trivial | exact .inr (ap0 _ _ _ _) | exact .inr (ap2 _ _ _ _) | exact .inr (ap3 _ _ _ _) | exact .inr ⟨by first | (simp; done) | (simp; omega), by first | (simp; done) | (simp; omega)⟩ | exact .inl (by kernel_rfl) | refine ⟨?_, ?_⟩ | fail)
          refine reg_end (Nat.le_refl _) ?_
          refine ⟨by first | exact .inr rfl | exact .inl rfl, fun k_ hk_ => ?_⟩
          cases hD_ : D k_ with
          | true => obtain ⟨ee0_, ee1_, _⟩ := hDE k_ hD_; refine ble (Eq.trans ?_ (ovY hD_ rfl).symm); repeat (first | exact ovYJ hD_ (by omega) | refine uN (by first | assumption | omega) ?_ | exact (hf99 _ (by omega)).trans (ovYJ hD_ (by omega)) | fail)
          | false => refine bl_ov hD_ ?_; simp only [eM, updL, List.map_cons, List.map_nil]; by_cases e0_ : k_ = k2; (focus subst e0_; refine bl_eq ?_; first | (refine ble ?_; (repeat (first | exact uE | assumption | refine uN (by omega) ?_ | refine ovN (by first | assumption | exact hDn _ (by omega)) ?_ | fail)); done) | (refine' blec ?hb ?hl; (case hb => repeat (first | exact uE | assumption | refine uN (by omega) ?_ | refine ovN (by first | assumption | exact hDn _ (by omega)) ?_ | fail)); (case hl => first | exact VLes.refl _ | ((repeat' (first | exact VLe.refl _ | exact VLe.own_sl _ _ _ | exact VLe.fl_sl _ _ | exact VLe.nil_sl _ | exact VLe.nil_fl _ | exact VLes.refl _ | exact .nil | refine VLe.tup ?_ | refine VLe.agg ?_ | refine .cons ?_ ?_ | (rw [Int.natCast_add]; exact VLe.refl _) | exact vle_int (by omega) | exact vle_bool (by first | rfl | assumption | (simp_all; done) | fail) | fail)); done)))); refine bl_ne e0_ ?_; by_cases e1_ : k_ = kf; (focus subst e1_; refine bl_eq ?_; first | (refine ble ?_; (repeat (first | exact uE | assumption | refine uN (by omega) ?_ | refine ovN (by first | assumption | exact hDn _ (by omega)) ?_ | fail)); done) | (refine' blec ?hb ?hl; (case hb => repeat (first | exact uE | assumption | refine uN (by omega) ?_ | refine ovN (by first | assumption | exact hDn _ (by omega)) ?_ | fail)); (case hl => first | exact VLes.refl _ | ((repeat' (first | exact VLe.refl _ | exact VLe.own_sl _ _ _ | exact VLe.fl_sl _ _ | exact VLe.nil_sl _ | exact VLe.nil_fl _ | exact VLes.refl _ | exact .nil | refine VLe.tup ?_ | refine VLe.agg ?_ | refine .cons ?_ ?_ | (rw [Int.natCast_add]; exact VLe.refl _) | exact vle_int (by omega) | exact vle_bool (by first | rfl | assumption | (simp_all; done) | fail) | fail)); done)))); refine bl_ne e1_ ?_; exact ble (by repeat (first | refine uN (by first | assumption | omega) ?_ | refine ovN hD_ ?_ | exact rfl | fail))
        · skip
          obtain ⟨hbk_, hjm_⟩ := beq_s h4
          refine reg_draw (m := 1) (by kernel_rfl) (by kernel_rfl) rfl rfl (.inl rfl) ?_
          refine dl0 (gn rfl) rfl rfl (step_pick rfl (ev_mk rfl) (ev_mk rfl)) trivial ?_
          refine dlnils (acc' := [_]) ?_ ?_
          · repeat' (first | exact trivial | exact .inr (ap0 _ _ _ _) | exact .inr (ap2 _ _ _ _) | exact .inr (ap3 _ _ _ _) | exact .inr ⟨by first | (simp; done) | (simp; omega), by first | (simp; done) | (simp; omega)⟩ | exact .inl (by kernel_rfl) | refine ⟨?_, ?_⟩ | fail)
          refine reg_end (Nat.le_refl _) ?_
          refine ⟨by first | exact .inr rfl | exact .inl rfl, fun k_ hk_ => ?_⟩
          cases hD_ : D k_ with
          | true => obtain ⟨ee0_, ee1_, _⟩ := hDE k_ hD_; refine ble (Eq.trans ?_ (ovY hD_ rfl).symm); repeat (first | exact ovYJ hD_ (by omega) | refine uN (by first | assumption | omega) ?_ | exact (hf99 _ (by omega)).trans (ovYJ hD_ (by omega)) | fail)
          | false => refine bl_ov hD_ ?_; simp only [eM, updL, List.map_cons, List.map_nil]; by_cases e0_ : k_ = k2; (focus subst e0_; refine bl_eq ?_; first | (refine ble ?_; (repeat (first | exact uE | assumption | refine uN (by omega) ?_ | refine ovN (by first | assumption | exact hDn _ (by omega)) ?_ | fail)); done) | (refine' blec ?hb ?hl; (case hb => repeat (first | exact uE | assumption | refine uN (by omega) ?_ | refine ovN (by first | assumption | exact hDn _ (by omega)) ?_ | fail)); (case hl => first | exact VLes.refl _ | ((repeat' (first | exact VLe.refl _ | exact VLe.own_sl _ _ _ | exact VLe.fl_sl _ _ | exact VLe.nil_sl _ | exact VLe.nil_fl _ | exact VLes.refl _ | exact .nil | refine VLe.tup ?_ | refine VLe.agg ?_ | refine .cons ?_ ?_ | (rw [Int.natCast_add]; exact VLe.refl _) | exact vle_int (by omega) | exact vle_bool (by first | rfl | assumption | (simp_all; done) | fail) | fail)); done)))); refine bl_ne e0_ ?_; by_cases e1_ : k_ = kf; (focus subst e1_; refine bl_eq ?_; first | (refine ble ?_; (repeat (first | exact uE | assumption | refine uN (by omega) ?_ | refine ovN (by first | assumption | exact hDn _ (by omega)) ?_ | fail)); done) | (refine' blec ?hb ?hl; (case hb => repeat (first | exact uE | assumption | refine uN (by omega) ?_ | refine ovN (by first | assumption | exact hDn _ (by omega)) ?_ | fail)); (case hl => first | exact VLes.refl _ | ((repeat' (first | exact VLe.refl _ | exact VLe.own_sl _ _ _ | exact VLe.fl_sl _ _ | exact VLe.nil_sl _ | exact VLe.nil_fl _ | exact VLes.refl _ | exact .nil | refine VLe.tup ?_ | refine VLe.agg ?_ | refine .cons ?_ ?_ | (rw [Int.natCast_add]; exact VLe.refl _) | exact vle_int (by omega) | exact vle_bool (by first | rfl | assumption | (simp_all; done) | fail) | fail)); done)))); refine bl_ne e1_ ?_; exact ble (by repeat (first | refine uN (by first | assumption | omega) ?_ | refine ovN hD_ ?_ | exact rfl | fail))
      · skip
        obtain ⟨hbk_, hjm_⟩ := beq_s h3
        refine reg_draw (m := 10) (by kernel_rfl) (by kernel_rfl) rfl rfl (.inr (by kernel_rfl)) ?_
        refine dl0 (gn rfl) rfl rfl (step_pick rfl (ev_mk rfl) (ev_mk rfl)) trivial ?_
        refine dl0 (gn rfl) rfl rfl (step_mv rfl rfl) trivial ?_
        refine dlk rfl rfl rfl rfl rfl (ngb rfl rfl) rfl rfl ?_
        refine dlk rfl rfl rfl rfl rfl (ngb rfl rfl) rfl rfl ?_
        refine dlk rfl rfl rfl rfl rfl (ngb rfl rfl) rfl rfl ?_
        refine dlk rfl rfl rfl rfl rfl (ngb rfl rfl) rfl rfl ?_
        refine dlk rfl rfl rfl rfl rfl (ngb rfl rfl) rfl rfl ?_
        refine dlk rfl rfl rfl rfl rfl (ngb rfl rfl) rfl rfl ?_
        refine dlk rfl rfl rfl rfl rfl (ngb rfl rfl) rfl rfl ?_
        refine dlk rfl rfl rfl rfl rfl (ngb rfl rfl) rfl rfl ?_
        refine dlnils (acc' := [_, _, _, _, _, _, _, _, _, _]) ?_ ?_
        · repeat' (first | exact trivial | exact .inr (ap0 _ _ _ _) | exact .inr (ap2 _ _ _ _) | exact .inr (ap3 _ _ _ _) | exact .inr ⟨by first | (simp; done) | (simp; omega), by first | (simp; done) | (simp; omega)⟩ | exact .inl (by kernel_rfl) | refine ⟨?_, ?_⟩ | fail)
        refine reg_draw (m := 2) (by kernel_rfl) (by kernel_rfl) rfl rfl (.inl rfl) ?_
        refine dlk rfl rfl rfl rfl rfl (ngb rfl rfl) rfl rfl ?_
        refine dl0 (gn rfl) rfl rfl (step_pick rfl (ev_mk rfl) (ev_mk rfl)) trivial ?_
        refine dlnils (acc' := [_, _]) ?_ ?_
        · repeat' (first | exact trivial | exact .inr (ap0 _ _ _ _) | exact .inr (ap2 _ _ _ _) | exact .inr (ap3 _ _ _ _) | exact .inr ⟨by first | (simp; done) | (simp; omega), by first | (simp; done) | (simp; omega)⟩ | exact .inl (by kernel_rfl) | refine ⟨?_, ?_⟩ | fail)
        refine reg_end (Nat.le_refl _) ?_
        refine ⟨by first | exact .inr rfl | exact .inl rfl, fun k_ hk_ => ?_⟩
        cases hD_ : D k_ with
        | true => obtain ⟨ee0_, ee1_, _⟩ := hDE k_ hD_; refine ble (Eq.trans ?_ (ovY hD_ rfl).symm); repeat (first | exact ovYJ hD_ (by omega) | refine uN (by first | assumption | omega) ?_ | exact (hf99 _ (by omega)).trans (ovYJ hD_ (by omega)) | fail)
        | false => refine bl_ov hD_ ?_; simp only [eM, updL, List.map_cons, List.map_nil]; by_cases e0_ : k_ = k2; (focus subst e0_; refine bl_eq ?_; first | (refine ble ?_; (repeat (first | exact uE | assumption | refine uN (by omega) ?_ | refine ovN (by first | assumption | exact hDn _ (by omega)) ?_ | fail)); done) | (refine' blec ?hb ?hl; (case hb => repeat (first | exact uE | assumption | refine uN (by omega) ?_ | refine ovN (by first | assumption | exact hDn _ (by omega)) ?_ | fail)); (case hl => first | exact VLes.refl _ | ((repeat' (first | exact VLe.refl _ | exact VLe.own_sl _ _ _ | exact VLe.fl_sl _ _ | exact VLe.nil_sl _ | exact VLe.nil_fl _ | exact VLes.refl _ | exact .nil | refine VLe.tup ?_ | refine VLe.agg ?_ | refine .cons ?_ ?_ | (rw [Int.natCast_add]; exact VLe.refl _) | exact vle_int (by omega) | exact vle_bool (by first | rfl | assumption | (simp_all; done) | fail) | fail)); done)))); refine bl_ne e0_ ?_; by_cases e1_ : k_ = kf; (focus subst e1_; refine bl_eq ?_; first | (refine ble ?_; (repeat (first | exact uE | assumption | refine uN (by omega) ?_ | refine ovN (by first | assumption | exact hDn _ (by omega)) ?_ | fail)); done) | (refine' blec ?hb ?hl; (case hb => repeat (first | exact uE | assumption | refine uN (by omega) ?_ | refine ovN (by first | assumption | exact hDn _ (by omega)) ?_ | fail)); (case hl => first | exact VLes.refl _ | ((repeat' (first | exact VLe.refl _ | exact VLe.own_sl _ _ _ | exact VLe.fl_sl _ _ | exact VLe.nil_sl _ | exact VLe.nil_fl _ | exact VLes.refl _ | exact .nil | refine VLe.tup ?_ | refine VLe.agg ?_ | refine .cons ?_ ?_ | (rw [Int.natCast_add]; exact VLe.refl _) | exact vle_int (by omega) | exact vle_bool (by first | rfl | assumption | (simp_all; done) | fail) | fail)); done)))); refine bl_ne e1_ ?_; exact ble (by repeat (first | refine uN (by first | assumption | omega) ?_ | refine ovN hD_ ?_ | exact rfl | fail))
    · skip
      obtain ⟨hbk_, hjm_⟩ := beq_s h2
      refine reg_draw (m := 6) (by kernel_rfl) (by kernel_rfl) rfl rfl (.inr (by kernel_rfl)) ?_
      refine dl0 (gn rfl) rfl rfl (step_mv rfl rfl) trivial ?_
      refine dlk rfl rfl rfl rfl rfl (ngb rfl rfl) rfl rfl ?_
      refine dlk rfl rfl rfl rfl rfl (ngb rfl rfl) rfl rfl ?_
      refine dlk rfl rfl rfl rfl rfl (ngb rfl rfl) rfl rfl ?_
      refine dlk rfl rfl rfl rfl rfl (ngb rfl rfl) rfl rfl ?_
      refine dlk rfl rfl rfl rfl rfl (ngb rfl rfl) rfl rfl ?_
      refine dlnils (acc' := [_, _, _, _, _, _]) ?_ ?_
      · repeat' (first | exact trivial | exact .inr (ap0 _ _ _ _) | exact .inr (ap2 _ _ _ _) | exact .inr (ap3 _ _ _ _) | exact .inr ⟨by first | (simp; done) | (simp; omega), by first | (simp; done) | (simp; omega)⟩ | exact .inl (by kernel_rfl) | refine ⟨?_, ?_⟩ | fail)
      refine reg_draw (m := 11) (by kernel_rfl) (by kernel_rfl) rfl rfl (.inr (by kernel_rfl)) ?_
      refine dlk rfl rfl rfl rfl rfl (ngb rfl rfl) rfl rfl ?_
      refine dl0 (gn rfl) rfl rfl (step_pick rfl (ev_mk rfl) (ev_mk rfl)) trivial ?_
      refine dl0 (gn rfl) rfl rfl (step_mv rfl rfl) trivial ?_
      refine dlk rfl rfl rfl rfl rfl (ngb rfl rfl) rfl rfl ?_
      refine dlk rfl rfl rfl rfl rfl (ngb rfl rfl) rfl rfl ?_
      refine dlk rfl rfl rfl rfl rfl (ngb rfl rfl) rfl rfl ?_
      refine dlk rfl rfl rfl rfl rfl (ngb rfl rfl) rfl rfl ?_
      refine dlk rfl rfl rfl rfl rfl (ngb rfl rfl) rfl rfl ?_
      refine dlk rfl rfl rfl rfl rfl (ngb rfl rfl) rfl rfl ?_
      refine dlk rfl rfl rfl rfl rfl (ngb rfl rfl) rfl rfl ?_
      refine dlk rfl rfl rfl rfl rfl (ngb rfl rfl) rfl rfl ?_
      refine dlnils (acc' := [_, _, _, _, _, _, _, _, _, _, _]) ?_ ?_
      · repeat' (first | exact trivial | exact .inr (ap0 _ _ _ _) | exact .inr (ap2 _ _ _ _) | exact .inr (ap3 _ _ _ _) | exact .inr ⟨by first | (simp; done) | (simp; omega), by first | (simp; done) | (simp; omega)⟩ | exact .inl (by kernel_rfl) | refine ⟨?_, ?_⟩ | fail)
      refine reg_draw (m := 2) (by kernel_rfl) (by kernel_rfl) rfl rfl (.inl rfl) ?_
      refine dlk rfl rfl rfl rfl rfl (ngb rfl rfl) rfl rfl ?_
      refine dl0 (gn rfl) rfl rfl (step_pick rfl (ev_mk rfl) (ev_mk rfl)) trivial ?_
      refine dlnils (acc' := [_, _]) ?_ ?_
      · repeat' (first | exact trivial | exact .inr (ap0 _ _ _ _) | exact .inr (ap2 _ _ _ _) | exact .inr (ap3 _ _ _ _) | exact .inr ⟨by first | (simp; done) | (simp; omega), by first | (simp; done) | (simp; omega)⟩ | exact .inl (by kernel_rfl) | refine ⟨?_, ?_⟩ | fail)
      refine reg_end (Nat.le_refl _) ?_
      refine ⟨by first | exact .inr rfl | exact .inl rfl, fun k_ hk_ => ?_⟩
      cases hD_ : D k_ with
      | true => obtain ⟨ee0_, ee1_, _⟩ := hDE k_ hD_; refine ble (Eq.trans ?_ (ovY hD_ rfl).symm); repeat (first | exact ovYJ hD_ (by omega) | refine uN (by first | assumption | omega) ?_ | exact (hf99 _ (by omega)).trans (ovYJ hD_ (by omega)) | fail)
      | false => refine bl_ov hD_ ?_; simp only [eM, updL, List.map_cons, List.map_nil]; by_cases e0_ : k_ = k2; (focus subst e0_; refine bl_eq ?_; first | (refine ble ?_; (repeat (first | exact uE | assumption | refine uN (by omega) ?_ | refine ovN (by first | assumption | exact hDn _ (by omega)) ?_ | fail)); done) | (refine' blec ?hb ?hl; (case hb => repeat (first | exact uE | assumption | refine uN (by omega) ?_ | refine ovN (by first | assumption | exact hDn _ (by omega)) ?_ | fail)); (case hl => first | exact VLes.refl _ | ((repeat' (first | exact VLe.refl _ | exact VLe.own_sl _ _ _ | exact VLe.fl_sl _ _ | exact VLe.nil_sl _ | exact VLe.nil_fl _ | exact VLes.refl _ | exact .nil | refine VLe.tup ?_ | refine VLe.agg ?_ | refine .cons ?_ ?_ | (rw [Int.natCast_add]; exact VLe.refl _) | exact vle_int (by omega) | exact vle_bool (by first | rfl | assumption | (simp_all; done) | fail) | fail)); done)))); refine bl_ne e0_ ?_; by_cases e1_ : k_ = kf; (focus subst e1_; refine bl_eq ?_; first | (refine ble ?_; (repeat (first | exact uE | assumption | refine uN (by omega) ?_ | refine ovN (by first | assumption | exact hDn _ (by omega)) ?_ | fail)); done) | (refine' blec ?hb ?hl; (case hb => repeat (first | exact uE | assumption | refine uN (by omega) ?_ | refine ovN (by first | assumption | exact hDn _ (by omega)) ?_ | fail)); (case hl => first | exact VLes.refl _ | ((repeat' (first | exact VLe.refl _ | exact VLe.own_sl _ _ _ | exact VLe.fl_sl _ _ | exact VLe.nil_sl _ | exact VLe.nil_fl _ | exact VLes.refl _ | exact .nil | refine VLe.tup ?_ | refine VLe.agg ?_ | refine .cons ?_ ?_ | (rw [Int.natCast_add]; exact VLe.refl _) | exact vle_int (by omega) | exact vle_bool (by first | rfl | assumption | (simp_all; done) | fail) | fail)); done)))); refine bl_ne e1_ ?_; exact ble (by repeat (first | refine uN (by first | assumption | omega) ?_ | refine ovN hD_ ?_ | exact rfl | fail))
  · skip
    refine rl0 (gn rfl) rfl rfl (step_as rfl rfl) trivial ?_
    refine runsL_nil ?_
    refine runs_cond false (ev_mk rfl) (fun h_ => nomatch h_) (fun _ => ?_)
    refine runs_seq ?_
    refine runs_region ?_
    refine rl_eql (gn rfl) rfl rfl rfl rfl rfl (fun h2 => ?_) (fun h2 => ?_)
    · skip
      have hal_ := al2 (r := r) (th := th) h2
      refine rl0 (gn rfl) rfl rfl (step_as rfl rfl) trivial ?_
      refine runsL_nil ?_
      refine runs_cond true (ev_mk rfl) (fun _ => ?_) (fun h_ => nomatch h_)
      refine runs_reg (by kernel_rfl) ?_
      refine reg_draw (m := 3) (by kernel_rfl) (by kernel_rfl) rfl rfl (.inr (by kernel_rfl)) ?_
      refine' dl0 (gn rfl) rfl rfl (step_load_one rfl (ev_mk rfl) F.one59 ?hv) ⟨?hb, trivial⟩ ?_
      case hb => repeat (first | exact uE | refine uN (by omega) ?_ | assumption | refine ovN (by first | assumption | exact hDn _ (by omega)) ?_ | exact hd _ (by omega) | fail)
      case hv => rfl
      refine dl0 (gn rfl) rfl rfl (step_callc rfl Try.func25 rfl rfl rfl (store_c) (by repeat (first | exact .nil | refine .cons ?_ ?_ | exact VLe.refl _ | exact VLe.own_sl _ _ _ | exact VLe.fl_sl _ _ | exact VLe.nil_sl _ | exact VLe.nil_fl _ | refine VLe.agg ?_))) trivial ?_
      refine dl0 (gn rfl) rfl rfl (step_build (ss := [2, 1]) (zs := [.int .i64 0, .int .u64 0, .int .i64 0]) rfl Try.underlying41 (by kernel_rfl) F.zero41 rfl rfl rfl) trivial ?_
      refine dlnils (acc' := [_, _, _]) ?_ ?_
      · repeat' (first | exact trivial | exact .inr (ap0 _ _ _ _) | exact .inr (ap2 _ _ _ _) | exact .inr (ap3 _ _ _ _) | exact .inr ⟨by first | (simp; done) | (simp; omega), by first | (simp; done) | (simp; omega)⟩ | exact .inl (by kernel_rfl) | refine ⟨?_, ?_⟩ | fail)
      have hget_ : ((allL o r th).map enW)[0]? = some [.agg [.sc (.int .i64 0), .sc (.int .u64 0), .sc (.int .i64 1)]] := by rw [hal_]; rfl
      have hlt_ : 0 < m := OkJ.lt hJ_ h3m (by rw [hal_]; simp)
      refine reg_yield (by kernel_rfl) (by kernel_rfl) rfl (gn rfl) rfl rfl rfl rfl rfl (by repeat (first | exact .nil | refine .cons ?_ ?_ | exact VLe.refl _ | exact vle_int (by omega) | refine VLe.agg ?_)) (hY (0) _ hlt_ (hget_)) hXb (by omega) (fun k_ hD_ => ?_) (fun k_ hk1_ hD_ hk3_ => ?_) ?_
      · have hk1_ := hDlt k_ hD_; obtain ⟨ee0_, ee1_, _⟩ := hDE k_ hD_; exact ⟨by omega, by repeat (first | exact ovYJ hD_ (by omega) | refine uN (by first | assumption | omega) ?_ | exact (hf99 _ (by omega)).trans (ovYJ hD_ (by omega)) | fail)⟩
      · obtain ⟨ee0_, ee1_, _⟩ := inK_no hk3_; repeat (first | refine uN (by first | assumption | omega) ?_ | refine ovN hD_ ?_ | exact hOt k_ hk1_ hD_ hk3_ | fail)
      refine reg_bool (d := 39) rfl (fun h3 => ?_) (fun h3 => ?_)
      · skip
        have hJn_ := OkJ.next h3 hlt_
        refine reg_draw (m := 6) (by kernel_rfl) (by kernel_rfl) rfl rfl (.inr (by kernel_rfl)) ?_
        refine dl0 (gn rfl) rfl rfl (step_mv rfl rfl) trivial ?_
        refine' dl0 (gy rfl rfl rfl rfl rfl rfl) rfl rfl (step_load_one rfl (ev_mk rfl) F.one59 ?hv) ⟨?hb, trivial⟩ ?_
        case hb => repeat (first | exact uE | refine uN (by omega) ?_ | assumption | refine ovN (by first | assumption | exact hDn _ (by omega)) ?_ | exact hd _ (by omega) | fail)
        case hv => rfl
        refine dl0 (gy rfl rfl rfl rfl rfl rfl) rfl rfl (step_fieldAddr (off := 1) rfl (ev_mk rfl) Try.underlying27 rfl F.sz22 rfl) trivial ?_
        refine' dl0 (gy rfl rfl rfl rfl rfl rfl) rfl rfl (step_load_one rfl (ev_mk rfl) F.one22 ?hv) ⟨?hb, trivial⟩ ?_
        case hb => repeat (first | exact uE | refine uN (by omega) ?_ | assumption | refine ovN (by first | assumption | exact hDn _ (by omega)) ?_ | exact hd _ (by omega) | fail)
        case hv => rfl
        refine dl0 (gy rfl rfl rfl rfl rfl rfl) rfl rfl (step_callc rfl Try.func26 rfl rfl rfl (key_c) (by repeat (first | exact .nil | refine .cons ?_ ?_ | exact VLe.refl _ | exact VLe.own_sl _ _ _ | exact VLe.fl_sl _ _ | exact VLe.nil_sl _ | exact VLe.nil_fl _ | refine VLe.agg ?_))) trivial ?_
        refine dl0 (gy rfl rfl rfl rfl rfl rfl) rfl rfl (step_build (ss := [2, 1]) (zs := [.int .i64 0, .int .u64 0, .int .i64 0]) rfl Try.underlying41 (by kernel_rfl) F.zero41 rfl rfl rfl) trivial ?_
        refine dlnils (acc' := [_, _, _, _, _, _]) ?_ ?_
        · repeat' (first | exact trivial | exact .inr (ap0 _ _ _ _) | exact .inr (ap2 _ _ _ _) | exact .inr (ap3 _ _ _ _) | exact .inr ⟨by first | (simp; done) | (simp; omega), by first | (simp; done) | (simp; omega)⟩ | exact .inl (by kernel_rfl) | refine ⟨?_, ?_⟩ | fail)
        have hget_ : ((allL o r th).map enW)[1]? = some [.agg [.sc (.int .i64 2), .sc (.int .u64 o.key), .sc (.int .i64 3)]] := by rw [hal_]; rfl
        have hlt_ : 1 < m := OkJ.lt hJn_ h3m (by rw [hal_]; simp)
        refine reg_yield (by kernel_rfl) (by kernel_rfl) rfl (gy rfl rfl rfl rfl rfl rfl) rfl rfl rfl rfl rfl (by repeat (first | exact .nil | refine .cons ?_ ?_ | exact VLe.refl _ | exact vle_int (by omega) | refine VLe.agg ?_)) (hY (1) _ hlt_ (hget_)) hXb (by omega) (fun k_ hD_ => ?_) (fun k_ hk1_ hD_ hk3_ => ?_) ?_
        · have hk1_ := hDlt k_ hD_; obtain ⟨ee0_, ee1_, _⟩ := hDE k_ hD_; exact ⟨by omega, by repeat (first | exact ovYJ hD_ (by omega) | refine uN (by first | assumption | omega) ?_ | exact (hf99 _ (by omega)).trans (ovYJ hD_ (by omega)) | fail)⟩
        · obtain ⟨ee0_, ee1_, _⟩ := inK_no hk3_; repeat (first | refine uN (by first | assumption | omega) ?_ | refine ovN hD_ ?_ | exact hOt k_ hk1_ hD_ hk3_ | fail)
        refine reg_bool (d := 46) rfl (fun h4 => ?_) (fun h4 => ?_)
        · skip
          have hJn_ := OkJ.next h4 hlt_
          have hJm_ := OkJ.fin hJn_ h1m (by rw [hal_]; simp)
          refine reg_draw (m := 1) (by kernel_rfl) (by kernel_rfl) rfl rfl (.inl rfl) ?_
          refine dl0 (gn rfl) rfl rfl (step_pick rfl (ev_mk rfl) (ev_mk rfl)) trivial ?_
          refine dlnils (acc' := [_]) ?_ ?_
          · repeat' (first | exact trivial | exact .inr (ap0 _ _ _ _) | exact .inr (ap2 _ _ _ _) | exact .inr (ap3 _ _ _ _) | exact .inr ⟨by first | (simp; done) | (simp; omega), by first | (simp; done) | (simp; omega)⟩ | exact .inl (by kernel_rfl) | refine ⟨?_, ?_⟩ | fail)
          refine reg_end (Nat.le_refl _) ?_
          refine ⟨by first | exact .inr rfl | exact .inl rfl, fun k_ hk_ => ?_⟩
          cases hD_ : D k_ with
          | true => obtain ⟨ee0_, ee1_, _⟩ := hDE k_ hD_; refine ble (Eq.trans ?_ (ovY hD_ rfl).symm); repeat (first | exact ovYJ hD_ (by omega) | refine uN (by first | assumption | omega) ?_ | exact (hf99 _ (by omega)).trans (ovYJ hD_ (by omega)) | fail)
          | false => refine bl_ov hD_ ?_; simp only [eM, updL, List.map_cons, List.map_nil]; by_cases e0_ : k_ = k2; (focus subst e0_; refine bl_eq ?_; first | (refine ble ?_; (repeat (first | exact uE | assumption | refine uN (by omega) ?_ | refine ovN (by first | assumption | exact hDn _ (by omega)) ?_ | fail)); done) | (refine' blec ?hb ?hl; (case hb => repeat (first | exact uE | assumption | refine uN (by omega) ?_ | refine ovN (by first | assumption | exact hDn _ (by omega)) ?_ | fail)); (case hl => first | exact VLes.refl _ | ((repeat' (first | exact VLe.refl _ | exact VLe.own_sl _ _ _ | exact VLe.fl_sl _ _ | exact VLe.nil_sl _ | exact VLe.nil_fl _ | exact VLes.refl _ | exact .nil | refine VLe.tup ?_ | refine VLe.agg ?_ | refine .cons ?_ ?_ | (rw [Int.natCast_add]; exact VLe.refl _) | exact vle_int (by omega) | exact vle_bool (by first | rfl | assumption | (simp_all; done) | fail) | fail)); done)))); refine bl_ne e0_ ?_; by_cases e1_ : k_ = kf; (focus subst e1_; refine bl_eq ?_; first | (refine ble ?_; (repeat (first | exact uE | assumption | refine uN (by omega) ?_ | refine ovN (by first | assumption | exact hDn _ (by omega)) ?_ | fail)); done) | (refine' blec ?hb ?hl; (case hb => repeat (first | exact uE | assumption | refine uN (by omega) ?_ | refine ovN (by first | assumption | exact hDn _ (by omega)) ?_ | fail)); (case hl => first | exact VLes.refl _ | ((repeat' (first | exact VLe.refl _ | exact VLe.own_sl _ _ _ | exact VLe.fl_sl _ _ | exact VLe.nil_sl _ | exact VLe.nil_fl _ | exact VLes.refl _ | exact .nil | refine VLe.tup ?_ | refine VLe.agg ?_ | refine .cons ?_ ?_ | (rw [Int.natCast_add]; exact VLe.refl _) | exact vle_int (by omega) | exact vle_bool (by first | rfl | assumption | (simp_all; done) | fail) | fail)); done)))); refine bl_ne e1_ ?_; exact ble (by repeat (first | refine uN (by first | assumption | omega) ?_ | refine ovN hD_ ?_ | exact rfl | fail))
        · skip
          obtain ⟨hbk_, hjm_⟩ := beq_s h4
          refine reg_draw (m := 1) (by kernel_rfl) (by kernel_rfl) rfl rfl (.inl rfl) ?_
          refine dl0 (gn rfl) rfl rfl (step_pick rfl (ev_mk rfl) (ev_mk rfl)) trivial ?_
          refine dlnils (acc' := [_]) ?_ ?_
          · repeat' (first | exact trivial | exact .inr (ap0 _ _ _ _) | exact .inr (ap2 _ _ _ _) | exact .inr (ap3 _ _ _ _) | exact .inr ⟨by first | (simp; done) | (simp; omega), by first | (simp; done) | (simp; omega)⟩ | exact .inl (by kernel_rfl) | refine ⟨?_, ?_⟩ | fail)
          refine reg_end (Nat.le_refl _) ?_
          refine ⟨by first | exact .inr rfl | exact .inl rfl, fun k_ hk_ => ?_⟩
          cases hD_ : D k_ with
          | true => obtain ⟨ee0_, ee1_, _⟩ := hDE k_ hD_; refine ble (Eq.trans ?_ (ovY hD_ rfl).symm); repeat (first | exact ovYJ hD_ (by omega) | refine uN (by first | assumption | omega) ?_ | exact (hf99 _ (by omega)).trans (ovYJ hD_ (by omega)) | fail)
          | false => refine bl_ov hD_ ?_; simp only [eM, updL, List.map_cons, List.map_nil]; by_cases e0_ : k_ = k2; (focus subst e0_; refine bl_eq ?_; first | (refine ble ?_; (repeat (first | exact uE | assumption | refine uN (by omega) ?_ | refine ovN (by first | assumption | exact hDn _ (by omega)) ?_ | fail)); done) | (refine' blec ?hb ?hl; (case hb => repeat (first | exact uE | assumption | refine uN (by omega) ?_ | refine ovN (by first | assumption | exact hDn _ (by omega)) ?_ | fail)); (case hl => first | exact VLes.refl _ | ((repeat' (first | exact VLe.refl _ | exact VLe.own_sl _ _ _ | exact VLe.fl_sl _ _ | exact VLe.nil_sl _ | exact VLe.nil_fl _ | exact VLes.refl _ | exact .nil | refine VLe.tup ?_ | refine VLe.agg ?_ | refine .cons ?_ ?_ | (rw [Int.natCast_add]; exact VLe.refl _) | exact vle_int (by omega) | exact vle_bool (by first | rfl | assumption | (simp_all; done) | fail) | fail)); done)))); refine bl_ne e0_ ?_; by_cases e1_ : k_ = kf; (focus subst e1_; refine bl_eq ?_; first | (refine ble ?_; (repeat (first | exact uE | assumption | refine uN (by omega) ?_ | refine ovN (by first | assumption | exact hDn _ (by omega)) ?_ | fail)); done) | (refine' blec ?hb ?hl; (case hb => repeat (first | exact uE | assumption | refine uN (by omega) ?_ | refine ovN (by first | assumption | exact hDn _ (by omega)) ?_ | fail)); (case hl => first | exact VLes.refl _ | ((repeat' (first | exact VLe.refl _ | exact VLe.own_sl _ _ _ | exact VLe.fl_sl _ _ | exact VLe.nil_sl _ | exact VLe.nil_fl _ | exact VLes.refl _ | exact .nil | refine VLe.tup ?_ | refine VLe.agg ?_ | refine .cons ?_ ?_ | (rw [Int.natCast_add]; exact VLe.refl _) | exact vle_int (by omega) | exact vle_bool (by first | rfl | assumption | (simp_all; done) | fail) | fail)); done)))); refine bl_ne e1_ ?_; exact ble (by repeat (first | refine uN (by first | assumption | omega) ?_ | refine ovN hD_ ?_ | exact rfl | fail))
      · skip
        obtain ⟨hbk_, hjm_⟩ := beq_s h3
        refine reg_draw (m := 6) (by kernel_rfl) (by kernel_rfl) rfl rfl (.inr (by kernel_rfl)) ?_
        refine dl0 (gn rfl) rfl rfl (step_mv rfl rfl) trivial ?_
        refine dlk rfl rfl rfl rfl rfl (ngb rfl rfl) rfl rfl ?_
        refine dlk rfl rfl rfl rfl rfl (ngb rfl rfl) rfl rfl ?_
        refine dlk rfl rfl rfl rfl rfl (ngb rfl rfl) rfl rfl ?_
        refine dlk rfl rfl rfl rfl rfl (ngb rfl rfl) rfl rfl ?_
        refine dlk rfl rfl rfl rfl rfl (ngb rfl rfl) rfl rfl ?_
        refine dlnils (acc' := [_, _, _, _, _, _]) ?_ ?_
        · repeat' (first | exact trivial | exact .inr (ap0 _ _ _ _) | exact .inr (ap2 _ _ _ _) | exact .inr (ap3 _ _ _ _) | exact .inr ⟨by first | (simp; done) | (simp; omega), by first | (simp; done) | (simp; omega)⟩ | exact .inl (by kernel_rfl) | refine ⟨?_, ?_⟩ | fail)
        refine reg_draw (m := 2) (by kernel_rfl) (by kernel_rfl) rfl rfl (.inl rfl) ?_
        refine dlk rfl rfl rfl rfl rfl (ngb rfl rfl) rfl rfl ?_
        refine dl0 (gn rfl) rfl rfl (step_pick rfl (ev_mk rfl) (ev_mk rfl)) trivial ?_
        refine dlnils (acc' := [_, _]) ?_ ?_
        · repeat' (first | exact trivial | exact .inr (ap0 _ _ _ _) | exact .inr (ap2 _ _ _ _) | exact .inr (ap3 _ _ _ _) | exact .inr ⟨by first | (simp; done) | (simp; omega), by first | (simp; done) | (simp; omega)⟩ | exact .inl (by kernel_rfl) | refine ⟨?_, ?_⟩ | fail)
        refine reg_end (Nat.le_refl _) ?_
        refine ⟨by first | exact .inr rfl | exact .inl rfl, fun k_ hk_ => ?_⟩
        cases hD_ : D k_ with
        | true => obtain ⟨ee0_, ee1_, _⟩ := hDE k_ hD_; refine ble (Eq.trans ?_ (ovY hD_ rfl).symm); repeat (first | exact ovYJ hD_ (by omega) | refine uN (by first | assumption | omega) ?_ | exact (hf99 _ (by omega)).trans (ovYJ hD_ (by omega)) | fail)
        | false => refine bl_ov hD_ ?_; simp only [eM, updL, List.map_cons, List.map_nil]; by_cases e0_ : k_ = k2; (focus subst e0_; refine bl_eq ?_; first | (refine ble ?_; (repeat (first | exact uE | assumption | refine uN (by omega) ?_ | refine ovN (by first | assumption | exact hDn _ (by omega)) ?_ | fail)); done) | (refine' blec ?hb ?hl; (case hb => repeat (first | exact uE | assumption | refine uN (by omega) ?_ | refine ovN (by first | assumption | exact hDn _ (by omega)) ?_ | fail)); (case hl => first | exact VLes.refl _ | ((repeat' (first | exact VLe.refl _ | exact VLe.own_sl _ _ _ | exact VLe.fl_sl _ _ | exact VLe.nil_sl _ | exact VLe.nil_fl _ | exact VLes.refl _ | exact .nil | refine VLe.tup ?_ | refine VLe.agg ?_ | refine .cons ?_ ?_ | (rw [Int.natCast_add]; exact VLe.refl _) | exact vle_int (by omega) | exact vle_bool (by first | rfl | assumption | (simp_all; done) | fail) | fail)); done)))); refine bl_ne e0_ ?_; by_cases e1_ : k_ = kf; (focus subst e1_; refine bl_eq ?_; first | (refine ble ?_; (repeat (first | exact uE | assumption | refine uN (by omega) ?_ | refine ovN (by first | assumption | exact hDn _ (by omega)) ?_ | fail)); done) | (refine' blec ?hb ?hl; (case hb => repeat (first | exact uE | assumption | refine uN (by omega) ?_ | refine ovN (by first | assumption | exact hDn _ (by omega)) ?_ | fail)); (case hl => first | exact VLes.refl _ | ((repeat' (first | exact VLe.refl _ | exact VLe.own_sl _ _ _ | exact VLe.fl_sl _ _ | exact VLe.nil_sl _ | exact VLe.nil_fl _ | exact VLes.refl _ | exact .nil | refine VLe.tup ?_ | refine VLe.agg ?_ | refine .cons ?_ ?_ | (rw [Int.natCast_add]; exact VLe.refl _) | exact vle_int (by omega) | exact vle_bool (by first | rfl | assumption | (simp_all; done) | fail) | fail)); done)))); refine bl_ne e1_ ?_; exact ble (by repeat (first | refine uN (by first | assumption | omega) ?_ | refine ovN hD_ ?_ | exact rfl | fail))
    · skip
      refine rl0 (gn rfl) rfl rfl (step_as rfl rfl) trivial ?_
      refine runsL_nil ?_
      refine runs_cond false (ev_mk rfl) (fun h_ => nomatch h_) (fun _ => ?_)
      refine runs_seq ?_
      refine runs_region ?_
      refine rl_eql (gn rfl) rfl rfl rfl rfl rfl (fun h3 => ?_) (fun h3 => ?_)
      · skip
        refine rl0 (gn rfl) rfl rfl (step_as rfl rfl) trivial ?_
        refine runsL_nil ?_
        refine runs_cond true (ev_mk rfl) (fun _ => ?_) (fun h_ => nomatch h_)
        refine runs_seq ?_
        refine runs_seq ?_
        refine runs_reg (by kernel_rfl) ?_
        refine reg_draw (m := 3) (by kernel_rfl) (by kernel_rfl) rfl rfl (.inr (by kernel_rfl)) ?_
        refine' dl0 (gn rfl) rfl rfl (step_load_one rfl (ev_mk rfl) F.one59 ?hv) ⟨?hb, trivial⟩ ?_
        case hb => repeat (first | exact uE | refine uN (by omega) ?_ | assumption | refine ovN (by first | assumption | exact hDn _ (by omega)) ?_ | exact hd _ (by omega) | fail)
        case hv => rfl
        refine dl0 (gn rfl) rfl rfl (step_callc rfl Try.func25 rfl rfl rfl (store_c) (by repeat (first | exact .nil | refine .cons ?_ ?_ | exact VLe.refl _ | exact VLe.own_sl _ _ _ | exact VLe.fl_sl _ _ | exact VLe.nil_sl _ | exact VLe.nil_fl _ | refine VLe.agg ?_))) trivial ?_
        refine dl0 (gn rfl) rfl rfl (step_build (ss := [2, 1]) (zs := [.int .i64 0, .int .u64 0, .int .i64 0]) rfl Try.underlying41 (by kernel_rfl) F.zero41 rfl rfl rfl) trivial ?_
        refine dlnils (acc' := [_, _, _]) ?_ ?_
        · repeat' (first | exact trivial | exact .inr (ap0 _ _ _ _) | exact .inr (ap2 _ _ _ _) | exact .inr (ap3 _ _ _ _) | exact .inr ⟨by first | (simp; done) | (simp; omega), by first | (simp; done) | (simp; omega)⟩ | exact .inl (by kernel_rfl) | refine ⟨?_, ?_⟩ | fail)
        have hlt_ : 0 < m := OkJ.lt hJ_ h3m (by have := (al3_0 (r := r) (th := th) (o := o) (by assumption)).2.2; omega)
        refine reg_yield (by kernel_rfl) (by kernel_rfl) rfl (gn rfl) rfl rfl rfl rfl rfl (by repeat (first | exact .nil | refine .cons ?_ ?_ | exact VLe.refl _ | exact vle_int (by omega) | refine VLe.agg ?_)) (hY (0) _ hlt_ ((al3_0 (by assumption)).1)) hXb (by omega) (fun k_ hD_ => ?_) (fun k_ hk1_ hD_ hk3_ => ?_) ?_
        · have hk1_ := hDlt k_ hD_; obtain ⟨ee0_, ee1_, _⟩ := hDE k_ hD_; exact ⟨by omega, by repeat (first | exact ovYJ hD_ (by omega) | refine uN (by first | assumption | omega) ?_ | exact (hf99 _ (by omega)).trans (ovYJ hD_ (by omega)) | fail)⟩
        · obtain ⟨ee0_, ee1_, _⟩ := inK_no hk3_; repeat (first | refine uN (by first | assumption | omega) ?_ | refine ovN hD_ ?_ | exact hOt k_ hk1_ hD_ hk3_ | fail)
        refine reg_bool (d := 53) rfl (fun h4 => ?_) (fun h4 => ?_)
        · skip
          have hJn_ := OkJ.next h4 hlt_
          refine reg_draw (m := 7) (by kernel_rfl) (by kernel_rfl) rfl rfl (.inr (by kernel_rfl)) ?_
          refine dl0 (gn rfl) rfl rfl (step_unOp (c := .bool false) rfl (ev_mk rfl) (fun _ => rfl)) trivial ?_
          refine dl0 (gn rfl) rfl rfl (step_mv rfl rfl) trivial ?_
          refine' dl0 (gy rfl rfl rfl rfl rfl rfl) rfl rfl (step_load_one rfl (ev_mk rfl) F.one59 ?hv) ⟨?hb, trivial⟩ ?_
          case hb => repeat (first | exact uE | refine uN (by omega) ?_ | assumption | refine ovN (by first | assumption | exact hDn _ (by omega)) ?_ | exact hd _ (by omega) | fail)
          case hv => rfl
          refine dl0 (gy rfl rfl rfl rfl rfl rfl) rfl rfl (step_fieldAddr (off := 1) rfl (ev_mk rfl) Try.underlying27 rfl F.sz22 rfl) trivial ?_
          refine' dl0 (gy rfl rfl rfl rfl rfl rfl) rfl rfl (step_load_one rfl (ev_mk rfl) F.one22 ?hv) ⟨?hb, trivial⟩ ?_
          case hb => repeat (first | exact uE | refine uN (by omega) ?_ | assumption | refine ovN (by first | assumption | exact hDn _ (by omega)) ?_ | exact hd _ (by omega) | fail)
          case hv => rfl
          refine dl0 (gy rfl rfl rfl rfl rfl rfl) rfl rfl (step_callc rfl Try.func26 rfl rfl rfl (key_c) (by repeat (first | exact .nil | refine .cons ?_ ?_ | exact VLe.refl _ | exact VLe.own_sl _ _ _ | exact VLe.fl_sl _ _ | exact VLe.nil_sl _ | exact VLe.nil_fl _ | refine VLe.agg ?_))) trivial ?_
          refine dl0 (gy rfl rfl rfl rfl rfl rfl) rfl rfl (step_build (ss := [2, 1]) (zs := [.int .i64 0, .int .u64 0, .int .i64 0]) rfl Try.underlying41 (by kernel_rfl) F.zero41 rfl rfl rfl) trivial ?_
          refine dlnils (acc' := [_, _, _, _, _, _, _]) ?_ ?_
          · repeat' (first | exact trivial | exact .inr (ap0 _ _ _ _) | exact .inr (ap2 _ _ _ _) | exact .inr (ap3 _ _ _ _) | exact .inr ⟨by first | (simp; done) | (simp; omega), by first | (simp; done) | (simp; omega)⟩ | exact .inl (by kernel_rfl) | refine ⟨?_, ?_⟩ | fail)
          have hlt_ : 1 < m := OkJ.lt hJn_ h3m (by have := (al3_0 (r := r) (th := th) (o := o) (by assumption)).2.2; omega)
          refine reg_yield (by kernel_rfl) (by kernel_rfl) rfl (gy rfl rfl rfl rfl rfl rfl) rfl rfl rfl rfl rfl (by repeat (first | exact .nil | refine .cons ?_ ?_ | exact VLe.refl _ | exact vle_int (by omega) | refine VLe.agg ?_)) (hY (1) _ hlt_ ((al3_0 (by assumption)).2.1)) hXb (by omega) (fun k_ hD_ => ?_) (fun k_ hk1_ hD_ hk3_ => ?_) ?_
          · have hk1_ := hDlt k_ hD_; obtain ⟨ee0_, ee1_, _⟩ := hDE k_ hD_; exact ⟨by omega, by repeat (first | exact ovYJ hD_ (by omega) | refine uN (by first | assumption | omega) ?_ | exact (hf99 _ (by omega)).trans (ovYJ hD_ (by omega)) | fail)⟩
          · obtain ⟨ee0_, ee1_, _⟩ := inK_no hk3_; repeat (first | refine uN (by first | assumption | omega) ?_ | refine ovN hD_ ?_ | exact hOt k_ hk1_ hD_ hk3_ | fail)
          refine reg_bool (d := 61) rfl (fun h5 => ?_) (fun h5 => ?_)
          · skip
            have hJn_ := OkJ.next h5 hlt_
            refine reg_draw (m := 2) (by kernel_rfl) (by kernel_rfl) rfl rfl (.inl rfl) ?_
            refine dl0 (gy rfl rfl rfl rfl rfl rfl) rfl rfl (step_unOp (c := .bool false) rfl (ev_mk rfl) (fun _ => rfl)) trivial ?_
            refine dl0 (gn rfl) rfl rfl (step_pick rfl (ev_mk rfl) (ev_mk rfl)) trivial ?_
            refine dlnils (acc' := [_, _]) ?_ ?_
            · repeat' (first | exact trivial | exact .inr (ap0 _ _ _ _) | exact .inr (ap2 _ _ _ _) | exact .inr (ap3 _ _ _ _) | exact .inr ⟨by first | (simp; done) | (simp; omega), by first | (simp; done) | (simp; omega)⟩ | exact .inl (by kernel_rfl) | refine ⟨?_, ?_⟩ | fail)
            refine reg_end (Nat.le_refl _) ?_
            refine runs_cond false (ev_mk rfl) (fun h_ => nomatch h_) (fun _ => ?_)
            refine runs_skip ?_
            refine runs_seq ?_
            refine runs_region ?_
            refine' rl0 (gn rfl) rfl rfl (step_load_one rfl (ev_mk rfl) F.one32 ?hv) ⟨?hb, trivial⟩ ?_
            case hb => repeat (first | exact uE | refine uN (by omega) ?_ | assumption | refine ovN (by first | assumption | exact hDn _ (by omega)) ?_ | exact hd _ (by omega) | fail)
            case hv => rfl
            refine rl0 (gn rfl) rfl rfl (step_fieldAddr (off := 1) rfl (ev_mk rfl) Try.underlying27 rfl F.sz22 rfl) trivial ?_
            refine' rl0 (gn rfl) rfl rfl (step_load_one rfl (ev_mk rfl) F.one22 ?hv) ⟨?hb, trivial⟩ ?_
            case hb => repeat (first | exact uE | refine uN (by omega) ?_ | assumption | refine ovN (by first | assumption | exact hDn _ (by omega)) ?_ | exact hd _ (by omega) | fail)
            case hv => rfl
            refine rl0 (gn rfl) rfl rfl (step_callfn rfl (ev_mk rfl) (.inr ⟨rfl, rfl⟩) Try.func20 rfl rfl rfl (find_20 o r th hr20 ht20) (by repeat (first | exact .nil | refine .cons ?_ ?_ | exact VLe.refl _ | exact VLe.own_sl _ _ _ | exact VLe.fl_sl _ _ | exact VLe.nil_sl _ | exact VLe.nil_fl _ | refine VLe.agg ?_))) trivial ?_
            refine rl0 (gn rfl) rfl rfl (step_mv rfl rfl) trivial ?_
            refine rl0 (gn rfl) rfl rfl (step_extract rfl (ev_mk rfl) rfl) trivial ?_
            refine rl0 (gn rfl) rfl rfl (step_extract rfl (ev_mk rfl) rfl) trivial ?_
            refine rl1 (gn rfl) rfl rfl (step_allocc (k := n + 1) (zs := [.int .u64 0, .int .u64 0, .int .u32 0, .int .u32 0, .string ByteArray.empty, .bool false]) (cs := [.sc (.int .u64 0), .sc (.int .u64 0), .sc (.int .u32 0), .sc (.int .u32 0), .sc (.string ByteArray.empty), .sc (.bool false)]) rfl F.zero29 (by first | rfl | simp) (by first | rfl | decide | simp) (by first | rfl | simp)) ⟨by repeat (first | exact uE | refine uN (by omega) ?_ | assumption | refine ovN (by first | assumption | exact hDn _ (by omega)) ?_ | exact hd _ (by omega) | fail), trivial⟩ (by omega) ?_
            refine' rls (gn rfl) rfl (step_storeA rfl rfl rfl rfl F.agg29 ?hm ?hl) ⟨?hb, trivial⟩ ?hk ?_
            case hb => repeat (first | exact uE | refine uN (by omega) ?_ | assumption | refine ovN (by first | assumption | exact hDn _ (by omega)) ?_ | exact hd _ (by omega) | fail)
            case hm => first | rfl | (simp; done) | (first | (simp; done) | (simp; omega) | omega)
            case hl => first | rfl | (simp; done) | (first | (simp; done) | (simp; omega) | omega)
            case hk => omega
            refine rl0 (gn rfl) rfl rfl (step_as rfl rfl) trivial ?_
            refine runsL_nil ?_
            refine runs_seq ?_
            refine runs_region ?_
            refine rl0 (gn rfl) rfl rfl (step_mv rfl rfl) trivial ?_
            refine runsL_nil ?_
            refine runs_cond _ (ev_mk rfl) (fun h6 => ?_) (fun h6 => ?_)
            · skip
              have hal_ := al3t (r := r) (o := o) (th := th) (by omega) (by assumption)
              refine runs_reg (by kernel_rfl) ?_
              refine reg_draw (m := 8) (by kernel_rfl) (by kernel_rfl) rfl rfl (.inr (by kernel_rfl)) ?_
              refine' dl0 (gn rfl) rfl rfl (step_load_one rfl (ev_mk rfl) F.one59 ?hv) ⟨?hb, trivial⟩ ?_
              case hb => repeat (first | exact uE | refine uN (by omega) ?_ | assumption | refine ovN (by first | assumption | exact hDn _ (by omega)) ?_ | exact hd _ (by omega) | fail)
              case hv => rfl
              refine dl0 (gn rfl) rfl rfl (step_fieldAddr (off := 2) rfl (ev_mk rfl) Try.underlying29 rfl F.sz23 rfl) trivial ?_
              refine' dl0 (gn rfl) rfl rfl (step_load_one rfl (ev_mk rfl) F.one23 ?hv) ⟨?hb, trivial⟩ ?_
              case hb => repeat (first | exact uE | refine uN (by omega) ?_ | assumption | refine ovN (by first | assumption | exact hDn _ (by omega)) ?_ | exact hd _ (by omega) | fail)
              case hv => rfl
              refine dl0 (gn rfl) rfl rfl (step_fieldAddr (off := 3) rfl (ev_mk rfl) Try.underlying29 rfl F.sz23 rfl) trivial ?_
              refine' dl0 (gn rfl) rfl rfl (step_load_one rfl (ev_mk rfl) F.one23 ?hv) ⟨?hb, trivial⟩ ?_
              case hb => repeat (first | exact uE | refine uN (by omega) ?_ | assumption | refine ovN (by first | assumption | exact hDn _ (by omega)) ?_ | exact hd _ (by omega) | fail)
              case hv => rfl
              refine dl0 (gn rfl) rfl rfl (step_callc rfl Try.func28 rfl rfl rfl (tile_c hr.1 hr.2) (by repeat (first | exact .nil | refine .cons ?_ ?_ | exact VLe.refl _ | exact VLe.own_sl _ _ _ | exact VLe.fl_sl _ _ | exact VLe.nil_sl _ | exact VLe.nil_fl _ | refine VLe.agg ?_))) trivial ?_
              refine dl0 (gn rfl) rfl rfl (step_callc rfl Try.func27 rfl rfl rfl (ntile_c (t := tiF r.x r.y) (by have := ti_bd hr.1 hr.2; omega)) (by repeat (first | exact .nil | refine .cons ?_ ?_ | exact VLe.refl _ | exact VLe.own_sl _ _ _ | exact VLe.fl_sl _ _ | exact VLe.nil_sl _ | exact VLe.nil_fl _ | refine VLe.agg ?_))) trivial ?_
              refine dl0 (gn rfl) rfl rfl (step_build (ss := [2, 1]) (zs := [.int .i64 0, .int .u64 0, .int .i64 0]) rfl Try.underlying41 (by kernel_rfl) F.zero41 rfl rfl rfl) trivial ?_
              refine dlnils (acc' := [_, _, _, _, _, _, _, _]) ?_ ?_
              · repeat' (first | exact trivial | exact .inr (ap0 _ _ _ _) | exact .inr (ap2 _ _ _ _) | exact .inr (ap3 _ _ _ _) | exact .inr ⟨by first | (simp; done) | (simp; omega), by first | (simp; done) | (simp; omega)⟩ | exact .inl (by kernel_rfl) | refine ⟨?_, ?_⟩ | fail)
              have hget_ : ((allL o r th).map enW)[2]? = some [.agg [.sc (.int .i64 1), .sc (.int .u64 (tiF r.x r.y)), .sc (.int .i64 2)]] := by rw [hal_]; rfl
              have hlt_ : 2 < m := OkJ.lt hJn_ h3m (by rw [hal_]; simp)
              refine reg_yield (by kernel_rfl) (by kernel_rfl) rfl (gn rfl) rfl rfl rfl rfl rfl (by repeat (first | exact .nil | refine .cons ?_ ?_ | exact VLe.refl _ | exact vle_int (by omega) | refine VLe.agg ?_)) (hY (2) _ hlt_ (hget_)) hXb (by omega) (fun k_ hD_ => ?_) (fun k_ hk1_ hD_ hk3_ => ?_) ?_
              · have hk1_ := hDlt k_ hD_; obtain ⟨ee0_, ee1_, _⟩ := hDE k_ hD_; exact ⟨by omega, by repeat (first | exact ovYJ hD_ (by omega) | refine uN (by first | assumption | omega) ?_ | exact (hf99 _ (by omega)).trans (ovYJ hD_ (by omega)) | fail)⟩
              · obtain ⟨ee0_, ee1_, _⟩ := inK_no hk3_; repeat (first | refine uN (by first | assumption | omega) ?_ | refine ovN hD_ ?_ | exact hOt k_ hk1_ hD_ hk3_ | fail)
              refine reg_bool (d := 80) rfl (fun h7 => ?_) (fun h7 => ?_)
              · skip
                have hJn_ := OkJ.next h7 hlt_
                have hJm_ := OkJ.fin hJn_ h1m (by rw [hal_]; simp)
                refine reg_end (Nat.le_refl _) ?_
                refine ⟨by first | exact .inr rfl | exact .inl rfl, fun k_ hk_ => ?_⟩
                cases hD_ : D k_ with
                | true => obtain ⟨ee0_, ee1_, _⟩ := hDE k_ hD_; refine ble (Eq.trans ?_ (ovY hD_ rfl).symm); repeat (first | exact ovYJ hD_ (by omega) | refine uN (by first | assumption | omega) ?_ | exact (hf99 _ (by omega)).trans (ovYJ hD_ (by omega)) | fail)
                | false => refine bl_ov hD_ ?_; simp only [eM, updL, List.map_cons, List.map_nil]; by_cases e0_ : k_ = k2; (focus subst e0_; refine bl_eq ?_; first | (refine ble ?_; (repeat (first | exact uE | assumption | refine uN (by omega) ?_ | refine ovN (by first | assumption | exact hDn _ (by omega)) ?_ | fail)); done) | (refine' blec ?hb ?hl; (case hb => repeat (first | exact uE | assumption | refine uN (by omega) ?_ | refine ovN (by first | assumption | exact hDn _ (by omega)) ?_ | fail)); (case hl => first | exact VLes.refl _ | ((repeat' (first | exact VLe.refl _ | exact VLe.own_sl _ _ _ | exact VLe.fl_sl _ _ | exact VLe.nil_sl _ | exact VLe.nil_fl _ | exact VLes.refl _ | exact .nil | refine VLe.tup ?_ | refine VLe.agg ?_ | refine .cons ?_ ?_ | (rw [Int.natCast_add]; exact VLe.refl _) | exact vle_int (by omega) | exact vle_bool (by first | rfl | assumption | (simp_all; done) | fail) | fail)); done)))); refine bl_ne e0_ ?_; by_cases e1_ : k_ = kf; (focus subst e1_; refine bl_eq ?_; first | (refine ble ?_; (repeat (first | exact uE | assumption | refine uN (by omega) ?_ | refine ovN (by first | assumption | exact hDn _ (by omega)) ?_ | fail)); done) | (refine' blec ?hb ?hl; (case hb => repeat (first | exact uE | assumption | refine uN (by omega) ?_ | refine ovN (by first | assumption | exact hDn _ (by omega)) ?_ | fail)); (case hl => first | exact VLes.refl _ | ((repeat' (first | exact VLe.refl _ | exact VLe.own_sl _ _ _ | exact VLe.fl_sl _ _ | exact VLe.nil_sl _ | exact VLe.nil_fl _ | exact VLes.refl _ | exact .nil | refine VLe.tup ?_ | refine VLe.agg ?_ | refine .cons ?_ ?_ | (rw [Int.natCast_add]; exact VLe.refl _) | exact vle_int (by omega) | exact vle_bool (by first | rfl | assumption | (simp_all; done) | fail) | fail)); done)))); refine bl_ne e1_ ?_; exact ble (by repeat (first | refine uN (by first | assumption | omega) ?_ | refine ovN hD_ ?_ | exact rfl | fail))
              · skip
                obtain ⟨hbk_, hjm_⟩ := beq_s h7
                refine reg_end (Nat.le_refl _) ?_
                refine ⟨by first | exact .inr rfl | exact .inl rfl, fun k_ hk_ => ?_⟩
                cases hD_ : D k_ with
                | true => obtain ⟨ee0_, ee1_, _⟩ := hDE k_ hD_; refine ble (Eq.trans ?_ (ovY hD_ rfl).symm); repeat (first | exact ovYJ hD_ (by omega) | refine uN (by first | assumption | omega) ?_ | exact (hf99 _ (by omega)).trans (ovYJ hD_ (by omega)) | fail)
                | false => refine bl_ov hD_ ?_; simp only [eM, updL, List.map_cons, List.map_nil]; by_cases e0_ : k_ = k2; (focus subst e0_; refine bl_eq ?_; first | (refine ble ?_; (repeat (first | exact uE | assumption | refine uN (by omega) ?_ | refine ovN (by first | assumption | exact hDn _ (by omega)) ?_ | fail)); done) | (refine' blec ?hb ?hl; (case hb => repeat (first | exact uE | assumption | refine uN (by omega) ?_ | refine ovN (by first | assumption | exact hDn _ (by omega)) ?_ | fail)); (case hl => first | exact VLes.refl _ | ((repeat' (first | exact VLe.refl _ | exact VLe.own_sl _ _ _ | exact VLe.fl_sl _ _ | exact VLe.nil_sl _ | exact VLe.nil_fl _ | exact VLes.refl _ | exact .nil | refine VLe.tup ?_ | refine VLe.agg ?_ | refine .cons ?_ ?_ | (rw [Int.natCast_add]; exact VLe.refl _) | exact vle_int (by omega) | exact vle_bool (by first | rfl | assumption | (simp_all; done) | fail) | fail)); done)))); refine bl_ne e0_ ?_; by_cases e1_ : k_ = kf; (focus subst e1_; refine bl_eq ?_; first | (refine ble ?_; (repeat (first | exact uE | assumption | refine uN (by omega) ?_ | refine ovN (by first | assumption | exact hDn _ (by omega)) ?_ | fail)); done) | (refine' blec ?hb ?hl; (case hb => repeat (first | exact uE | assumption | refine uN (by omega) ?_ | refine ovN (by first | assumption | exact hDn _ (by omega)) ?_ | fail)); (case hl => first | exact VLes.refl _ | ((repeat' (first | exact VLe.refl _ | exact VLe.own_sl _ _ _ | exact VLe.fl_sl _ _ | exact VLe.nil_sl _ | exact VLe.nil_fl _ | exact VLes.refl _ | exact .nil | refine VLe.tup ?_ | refine VLe.agg ?_ | refine .cons ?_ ?_ | (rw [Int.natCast_add]; exact VLe.refl _) | exact vle_int (by omega) | exact vle_bool (by first | rfl | assumption | (simp_all; done) | fail) | fail)); done)))); refine bl_ne e1_ ?_; exact ble (by repeat (first | refine uN (by first | assumption | omega) ?_ | refine ovN hD_ ?_ | exact rfl | fail))
            · skip
              have hal_ := al3f (r := r) (o := o) (th := th) (by omega) (by assumption)
              have hJm_ := OkJ.fin hJn_ h1m (by rw [hal_]; simp)
              refine runs_skip ?_
              refine ⟨by first | exact .inr rfl | exact .inl rfl, fun k_ hk_ => ?_⟩
              cases hD_ : D k_ with
              | true => obtain ⟨ee0_, ee1_, _⟩ := hDE k_ hD_; refine ble (Eq.trans ?_ (ovY hD_ rfl).symm); repeat (first | exact ovYJ hD_ (by omega) | refine uN (by first | assumption | omega) ?_ | exact (hf99 _ (by omega)).trans (ovYJ hD_ (by omega)) | fail)
              | false => refine bl_ov hD_ ?_; simp only [eM, updL, List.map_cons, List.map_nil]; by_cases e0_ : k_ = k2; (focus subst e0_; refine bl_eq ?_; first | (refine ble ?_; (repeat (first | exact uE | assumption | refine uN (by omega) ?_ | refine ovN (by first | assumption | exact hDn _ (by omega)) ?_ | fail)); done) | (refine' blec ?hb ?hl; (case hb => repeat (first | exact uE | assumption | refine uN (by omega) ?_ | refine ovN (by first | assumption | exact hDn _ (by omega)) ?_ | fail)); (case hl => first | exact VLes.refl _ | ((repeat' (first | exact VLe.refl _ | exact VLe.own_sl _ _ _ | exact VLe.fl_sl _ _ | exact VLe.nil_sl _ | exact VLe.nil_fl _ | exact VLes.refl _ | exact .nil | refine VLe.tup ?_ | refine VLe.agg ?_ | refine .cons ?_ ?_ | (rw [Int.natCast_add]; exact VLe.refl _) | exact vle_int (by omega) | exact vle_bool (by first | rfl | assumption | (simp_all; done) | fail) | fail)); done)))); refine bl_ne e0_ ?_; by_cases e1_ : k_ = kf; (focus subst e1_; refine bl_eq ?_; first | (refine ble ?_; (repeat (first | exact uE | assumption | refine uN (by omega) ?_ | refine ovN (by first | assumption | exact hDn _ (by omega)) ?_ | fail)); done) | (refine' blec ?hb ?hl; (case hb => repeat (first | exact uE | assumption | refine uN (by omega) ?_ | refine ovN (by first | assumption | exact hDn _ (by omega)) ?_ | fail)); (case hl => first | exact VLes.refl _ | ((repeat' (first | exact VLe.refl _ | exact VLe.own_sl _ _ _ | exact VLe.fl_sl _ _ | exact VLe.nil_sl _ | exact VLe.nil_fl _ | exact VLes.refl _ | exact .nil | refine VLe.tup ?_ | refine VLe.agg ?_ | refine .cons ?_ ?_ | (rw [Int.natCast_add]; exact VLe.refl _) | exact vle_int (by omega) | exact vle_bool (by first | rfl | assumption | (simp_all; done) | fail) | fail)); done)))); refine bl_ne e1_ ?_; exact ble (by repeat (first | refine uN (by first | assumption | omega) ?_ | refine ovN hD_ ?_ | exact rfl | fail))
          · skip
            obtain ⟨hbk_, hjm_⟩ := beq_s h5
            refine reg_draw (m := 2) (by kernel_rfl) (by kernel_rfl) rfl rfl (.inl rfl) ?_
            refine dl0 (gy rfl rfl rfl rfl rfl rfl) rfl rfl (step_unOp (c := .bool true) rfl (ev_mk rfl) (fun _ => rfl)) trivial ?_
            refine dl0 (gn rfl) rfl rfl (step_pick rfl (ev_mk rfl) (ev_mk rfl)) trivial ?_
            refine dlnils (acc' := [_, _]) ?_ ?_
            · repeat' (first | exact trivial | exact .inr (ap0 _ _ _ _) | exact .inr (ap2 _ _ _ _) | exact .inr (ap3 _ _ _ _) | exact .inr ⟨by first | (simp; done) | (simp; omega), by first | (simp; done) | (simp; omega)⟩ | exact .inl (by kernel_rfl) | refine ⟨?_, ?_⟩ | fail)
            refine reg_end (Nat.le_refl _) ?_
            refine runs_cond true (ev_mk rfl) (fun _ => ?_) (fun h_ => nomatch h_)
            refine runs_ret ?_
            refine ⟨by first | exact .inr rfl | exact .inl rfl, fun k_ hk_ => ?_⟩
            cases hD_ : D k_ with
            | true => obtain ⟨ee0_, ee1_, _⟩ := hDE k_ hD_; refine ble (Eq.trans ?_ (ovY hD_ rfl).symm); repeat (first | exact ovYJ hD_ (by omega) | refine uN (by first | assumption | omega) ?_ | exact (hf99 _ (by omega)).trans (ovYJ hD_ (by omega)) | fail)
            | false => refine bl_ov hD_ ?_; simp only [eM, updL, List.map_cons, List.map_nil]; by_cases e0_ : k_ = k2; (focus subst e0_; refine bl_eq ?_; first | (refine ble ?_; (repeat (first | exact uE | assumption | refine uN (by omega) ?_ | refine ovN (by first | assumption | exact hDn _ (by omega)) ?_ | fail)); done) | (refine' blec ?hb ?hl; (case hb => repeat (first | exact uE | assumption | refine uN (by omega) ?_ | refine ovN (by first | assumption | exact hDn _ (by omega)) ?_ | fail)); (case hl => first | exact VLes.refl _ | ((repeat' (first | exact VLe.refl _ | exact VLe.own_sl _ _ _ | exact VLe.fl_sl _ _ | exact VLe.nil_sl _ | exact VLe.nil_fl _ | exact VLes.refl _ | exact .nil | refine VLe.tup ?_ | refine VLe.agg ?_ | refine .cons ?_ ?_ | (rw [Int.natCast_add]; exact VLe.refl _) | exact vle_int (by omega) | exact vle_bool (by first | rfl | assumption | (simp_all; done) | fail) | fail)); done)))); refine bl_ne e0_ ?_; by_cases e1_ : k_ = kf; (focus subst e1_; refine bl_eq ?_; first | (refine ble ?_; (repeat (first | exact uE | assumption | refine uN (by omega) ?_ | refine ovN (by first | assumption | exact hDn _ (by omega)) ?_ | fail)); done) | (refine' blec ?hb ?hl; (case hb => repeat (first | exact uE | assumption | refine uN (by omega) ?_ | refine ovN (by first | assumption | exact hDn _ (by omega)) ?_ | fail)); (case hl => first | exact VLes.refl _ | ((repeat' (first | exact VLe.refl _ | exact VLe.own_sl _ _ _ | exact VLe.fl_sl _ _ | exact VLe.nil_sl _ | exact VLe.nil_fl _ | exact VLes.refl _ | exact .nil | refine VLe.tup ?_ | refine VLe.agg ?_ | refine .cons ?_ ?_ | (rw [Int.natCast_add]; exact VLe.refl _) | exact vle_int (by omega) | exact vle_bool (by first | rfl | assumption | (simp_all; done) | fail) | fail)); done)))); refine bl_ne e1_ ?_; exact ble (by repeat (first | refine uN (by first | assumption | omega) ?_ | refine ovN hD_ ?_ | exact rfl | fail))
        · skip
          obtain ⟨hbk_, hjm_⟩ := beq_s h4
          refine reg_draw (m := 7) (by kernel_rfl) (by kernel_rfl) rfl rfl (.inr (by kernel_rfl)) ?_
          refine dl0 (gn rfl) rfl rfl (step_unOp (c := .bool true) rfl (ev_mk rfl) (fun _ => rfl)) trivial ?_
          refine dl0 (gn rfl) rfl rfl (step_mv rfl rfl) trivial ?_
          refine dlk rfl rfl rfl rfl rfl (ngb rfl rfl) rfl rfl ?_
          refine dlk rfl rfl rfl rfl rfl (ngb rfl rfl) rfl rfl ?_
          refine dlk rfl rfl rfl rfl rfl (ngb rfl rfl) rfl rfl ?_
          refine dlk rfl rfl rfl rfl rfl (ngb rfl rfl) rfl rfl ?_
          refine dlk rfl rfl rfl rfl rfl (ngb rfl rfl) rfl rfl ?_
          refine dlnils (acc' := [_, _, _, _, _, _, _]) ?_ ?_
          · repeat' (first | exact trivial | exact .inr (ap0 _ _ _ _) | exact .inr (ap2 _ _ _ _) | exact .inr (ap3 _ _ _ _) | exact .inr ⟨by first | (simp; done) | (simp; omega), by first | (simp; done) | (simp; omega)⟩ | exact .inl (by kernel_rfl) | refine ⟨?_, ?_⟩ | fail)
          refine reg_draw (m := 3) (by kernel_rfl) (by kernel_rfl) rfl rfl (.inl rfl) ?_
          refine dlk rfl rfl rfl rfl rfl (ngb rfl rfl) rfl rfl ?_
          refine dlk rfl rfl rfl rfl rfl (ngb rfl rfl) rfl rfl ?_
          refine dl0 (gn rfl) rfl rfl (step_pick rfl (ev_mk rfl) (ev_mk rfl)) trivial ?_
          refine dlnils (acc' := [_, _, _]) ?_ ?_
          · repeat' (first | exact trivial | exact .inr (ap0 _ _ _ _) | exact .inr (ap2 _ _ _ _) | exact .inr (ap3 _ _ _ _) | exact .inr ⟨by first | (simp; done) | (simp; omega), by first | (simp; done) | (simp; omega)⟩ | exact .inl (by kernel_rfl) | refine ⟨?_, ?_⟩ | fail)
          refine reg_end (Nat.le_refl _) ?_
          refine runs_cond true (ev_mk rfl) (fun _ => ?_) (fun h_ => nomatch h_)
          refine runs_ret ?_
          refine ⟨by first | exact .inr rfl | exact .inl rfl, fun k_ hk_ => ?_⟩
          cases hD_ : D k_ with
          | true => obtain ⟨ee0_, ee1_, _⟩ := hDE k_ hD_; refine ble (Eq.trans ?_ (ovY hD_ rfl).symm); repeat (first | exact ovYJ hD_ (by omega) | refine uN (by first | assumption | omega) ?_ | exact (hf99 _ (by omega)).trans (ovYJ hD_ (by omega)) | fail)
          | false => refine bl_ov hD_ ?_; simp only [eM, updL, List.map_cons, List.map_nil]; by_cases e0_ : k_ = k2; (focus subst e0_; refine bl_eq ?_; first | (refine ble ?_; (repeat (first | exact uE | assumption | refine uN (by omega) ?_ | refine ovN (by first | assumption | exact hDn _ (by omega)) ?_ | fail)); done) | (refine' blec ?hb ?hl; (case hb => repeat (first | exact uE | assumption | refine uN (by omega) ?_ | refine ovN (by first | assumption | exact hDn _ (by omega)) ?_ | fail)); (case hl => first | exact VLes.refl _ | ((repeat' (first | exact VLe.refl _ | exact VLe.own_sl _ _ _ | exact VLe.fl_sl _ _ | exact VLe.nil_sl _ | exact VLe.nil_fl _ | exact VLes.refl _ | exact .nil | refine VLe.tup ?_ | refine VLe.agg ?_ | refine .cons ?_ ?_ | (rw [Int.natCast_add]; exact VLe.refl _) | exact vle_int (by omega) | exact vle_bool (by first | rfl | assumption | (simp_all; done) | fail) | fail)); done)))); refine bl_ne e0_ ?_; by_cases e1_ : k_ = kf; (focus subst e1_; refine bl_eq ?_; first | (refine ble ?_; (repeat (first | exact uE | assumption | refine uN (by omega) ?_ | refine ovN (by first | assumption | exact hDn _ (by omega)) ?_ | fail)); done) | (refine' blec ?hb ?hl; (case hb => repeat (first | exact uE | assumption | refine uN (by omega) ?_ | refine ovN (by first | assumption | exact hDn _ (by omega)) ?_ | fail)); (case hl => first | exact VLes.refl _ | ((repeat' (first | exact VLe.refl _ | exact VLe.own_sl _ _ _ | exact VLe.fl_sl _ _ | exact VLe.nil_sl _ | exact VLe.nil_fl _ | exact VLes.refl _ | exact .nil | refine VLe.tup ?_ | refine VLe.agg ?_ | refine .cons ?_ ?_ | (rw [Int.natCast_add]; exact VLe.refl _) | exact vle_int (by omega) | exact vle_bool (by first | rfl | assumption | (simp_all; done) | fail) | fail)); done)))); refine bl_ne e1_ ?_; exact ble (by repeat (first | refine uN (by first | assumption | omega) ?_ | refine ovN hD_ ?_ | exact rfl | fail))
      · skip
        refine rl0 (gn rfl) rfl rfl (step_as rfl rfl) trivial ?_
        refine runsL_nil ?_
        refine runs_cond false (ev_mk rfl) (fun h_ => nomatch h_) (fun _ => ?_)
        refine runs_seq ?_
        refine runs_seq ?_
        refine runs_region ?_
        refine rl_eql (gn rfl) rfl rfl rfl rfl rfl (fun h4 => ?_) (fun h4 => ?_)
        · skip
          refine rl0 (gn rfl) rfl rfl (step_as rfl rfl) trivial ?_
          refine runsL_nil ?_
          refine runs_cond true (ev_mk rfl) (fun _ => ?_) (fun h_ => nomatch h_)
          refine runs_skip ?_
          refine runs_cond true (ev_mk rfl) (fun _ => ?_) (fun h_ => nomatch h_)
          refine runs_seq ?_
          refine runs_seq ?_
          refine runs_reg (by kernel_rfl) ?_
          refine reg_draw (m := 3) (by kernel_rfl) (by kernel_rfl) rfl rfl (.inr (by kernel_rfl)) ?_
          refine' dl0 (gn rfl) rfl rfl (step_load_one rfl (ev_mk rfl) F.one59 ?hv) ⟨?hb, trivial⟩ ?_
          case hb => repeat (first | exact uE | refine uN (by omega) ?_ | assumption | refine ovN (by first | assumption | exact hDn _ (by omega)) ?_ | exact hd _ (by omega) | fail)
          case hv => rfl
          refine dl0 (gn rfl) rfl rfl (step_callc rfl Try.func25 rfl rfl rfl (store_c) (by repeat (first | exact .nil | refine .cons ?_ ?_ | exact VLe.refl _ | exact VLe.own_sl _ _ _ | exact VLe.fl_sl _ _ | exact VLe.nil_sl _ | exact VLe.nil_fl _ | refine VLe.agg ?_))) trivial ?_
          refine dl0 (gn rfl) rfl rfl (step_build (ss := [2, 1]) (zs := [.int .i64 0, .int .u64 0, .int .i64 0]) rfl Try.underlying41 (by kernel_rfl) F.zero41 rfl rfl rfl) trivial ?_
          refine dlnils (acc' := [_, _, _]) ?_ ?_
          · repeat' (first | exact trivial | exact .inr (ap0 _ _ _ _) | exact .inr (ap2 _ _ _ _) | exact .inr (ap3 _ _ _ _) | exact .inr ⟨by first | (simp; done) | (simp; omega), by first | (simp; done) | (simp; omega)⟩ | exact .inl (by kernel_rfl) | refine ⟨?_, ?_⟩ | fail)
          have hlt_ : 0 < m := (OkJ.lt hJ_ h3m (by have := al4_len (o := o) (r := r) (th := th) (by omega); omega))
          refine reg_yield (by kernel_rfl) (by kernel_rfl) rfl (gn rfl) rfl rfl rfl rfl rfl (by repeat (first | exact .nil | refine .cons ?_ ?_ | exact VLe.refl _ | exact vle_int (by omega) | refine VLe.agg ?_)) (hY (0) _ hlt_ (al4_0 (by omega))) hXb (by omega) (fun k_ hD_ => ?_) (fun k_ hk1_ hD_ hk3_ => ?_) ?_
          · have hk1_ := hDlt k_ hD_; obtain ⟨ee0_, ee1_, _⟩ := hDE k_ hD_; exact ⟨by omega, by repeat (first | exact ovYJ hD_ (by omega) | refine uN (by first | assumption | omega) ?_ | exact (hf99 _ (by omega)).trans (ovYJ hD_ (by omega)) | fail)⟩
          · obtain ⟨ee0_, ee1_, _⟩ := inK_no hk3_; repeat (first | refine uN (by first | assumption | omega) ?_ | refine ovN hD_ ?_ | exact hOt k_ hk1_ hD_ hk3_ | fail)
          refine reg_bool (d := 87) rfl (fun h5 => ?_) (fun h5 => ?_)
          · skip
            have hJn_ := OkJ.next h5 hlt_
            refine reg_draw (m := 1) (by kernel_rfl) (by kernel_rfl) rfl rfl (.inl rfl) ?_
            refine dl0 (gn rfl) rfl rfl (step_unOp (c := .bool false) rfl (ev_mk rfl) (fun _ => rfl)) trivial ?_
            refine dlnils (acc' := [_]) ?_ ?_
            · repeat' (first | exact trivial | exact .inr (ap0 _ _ _ _) | exact .inr (ap2 _ _ _ _) | exact .inr (ap3 _ _ _ _) | exact .inr ⟨by first | (simp; done) | (simp; omega), by first | (simp; done) | (simp; omega)⟩ | exact .inl (by kernel_rfl) | refine ⟨?_, ?_⟩ | fail)
            refine reg_end (Nat.le_refl _) ?_
            refine runs_cond false (ev_mk rfl) (fun h_ => nomatch h_) (fun _ => ?_)
            refine runs_skip ?_
            refine runs_seq ?_
            refine runs_region ?_
            refine rl0 (gn rfl) rfl rfl (step_fieldAddr (off := 5) rfl (ev_mk rfl) Try.underlying27 rfl F.sz25 rfl) trivial ?_
            refine' rl0 (gn rfl) rfl rfl (step_load_agg rfl (ev_mk rfl) F.agg25 ?hc ?hl) ⟨?hb, trivial⟩ ?_
            case hb => repeat (first | exact uE | refine uN (by omega) ?_ | assumption | refine ovN (by first | assumption | exact hDn _ (by omega)) ?_ | exact hd _ (by omega) | fail)
            case hc => rfl
            case hl => first | rfl | (simp; done) | (first | (simp; done) | (simp; omega) | omega)
            refine rl1 (gn rfl) rfl rfl (step_callc rfl Try.func29 rfl rfl rfl (tou_c (kk := (n + 1))) (by repeat (first | exact .nil | refine .cons ?_ ?_ | exact VLe.refl _ | exact VLe.own_sl _ _ _ | exact VLe.fl_sl _ _ | exact VLe.nil_sl _ | exact VLe.nil_fl _ | refine VLe.agg ?_))) ⟨by repeat (first | exact uE | refine uN (by omega) ?_ | assumption | refine ovN (by first | assumption | exact hDn _ (by omega)) ?_ | exact hd _ (by omega) | fail), trivial⟩ (by omega) ?_
            refine runsL_nil ?_
            refine runs_block ?_
            have hL_ := al4_len (o := o) (r := r) (th := th) (by omega)
            have hT_ : ((touL o.a o.b o.c o.d).map enT).length = (touL o.a o.b o.c o.d).length := List.length_map _
            have hm1_ : 1 ≤ m := hJn_.1
            refine runs_rangeY (f := 38) (caps := [.ref (n + 1) 0]) (xs := (touL o.a o.b o.c o.d).map enT) (Dl := []) (El := [(n + 1, .cells (rcC o.a o.b o.c o.d), fun m_ b_ => .cells (rcC o.a o.b o.c o.d))]) (D := D) (σ := σ) (cnt := fun i_ => 1 + i_) (kl := n + 2) (m := m - 1) (brk := brk) (ex := if brk = true then .ret else .normal) hO rfl (.inl rfl) Try.func38 rfl rfl (tou_i ho.2.2.1 ho.2.2.2.1 ho.2.2.2.2.1 ho.2.2.2.2.2) trivial (by repeat (first | exact uE | refine uN (by omega) ?_ | assumption | refine ovN (by first | assumption | exact hDn _ (by omega)) ?_ | exact hd _ (by omega) | fail)) (by omega) (by omega) (fun h_ => ⟨by have := hJn_.2 h_; omega, .ret, by rw [if_pos h_]; rfl⟩) (fun h_ => ⟨by have := h3m h_; omega, if_neg (by rw [h_]; exact Bool.false_ne_true)⟩) (fun v_ hv_ => by obtain ⟨_, _, rfl⟩ := List.mem_map.1 hv_; rfl) rfl trivial (fun k_ hD_ => ?_) trivial ⟨⟨by dsimp only; omega, by dsimp only; omega, by dsimp only; repeat (first | exact uE | refine uN (by omega) ?_ | assumption | refine ovN (by first | assumption | exact hDn _ (by omega)) ?_ | exact hd _ (by omega) | fail)⟩, trivial⟩ (fun i_ hi_ k_ hD_ => (hsb _ (by first | omega | (dsimp only; omega)) k_ hD_).mono (by omega)) (fun i60 => trivial) ⟨bdb_cells (by repeat (first | exact trivial | assumption | omega | (refine bdR_map (fun _ => ?_)) | (refine bdL_map (fun _ => ?_)) | refine ⟨?_, ?_⟩ | fail)), trivial⟩ ?_ ?_
            · have hk1_ := hDlt k_ hD_; obtain ⟨ee0_, ee1_, _⟩ := hDE k_ hD_; exact ⟨by omega, by omega, ⟨by first | assumption | (dsimp only; omega), trivial⟩, by (try dsimp only); repeat (first | exact ovYJ hD_ (by omega) | refine uN (by first | assumption | omega) ?_ | exact (hf99 _ (by omega)).trans (ovYJ hD_ (by omega)) | fail)⟩
            · intro i60 v60 hi60 hv60 B60 n60 lr60 bx60 hR60 hl60 hk60 ho60 he60 hn60 hd60 hD60 hL60 hfr60
              have hf60 : ∀ k_, k_ < n → k_ ≠ n + 1 → k_ ≠ n + 2 → bx60 k_ = ov D (σ (1 + i60)) bx k_ := fun k_ a_ e0_ e1_ => ovT (fun hD_ => hD60 k_ hD_) (fun hD_ => (hfr60 k_ (by omega) hD_ ⟨e0_, trivial⟩ e1_).trans (by repeat (first | refine uN (by first | assumption | omega) ?_ | refine ovN hD_ ?_ | exact rfl | fail)))
              have hc60_0 : bx60 k2 = .cells [.sc (.int .i64 o.k), .sc (.int .u64 o.key), .sc (.int .u32 o.x), .sc (.int .u32 o.y), .sc (.string o.v), .sc (.int .u32 o.a), .sc (.int .u32 o.b), .sc (.int .u32 o.c), .sc (.int .u32 o.d), .sc (.int .i64 o.n)] := (hfr60 _ (by omega) (by first | assumption | exact hDn _ (by omega)) ⟨by first | omega | (dsimp only; omega), trivial⟩ (by omega)).trans (by repeat (first | exact uE | refine uN (by omega) ?_ | assumption | refine ovN (by first | assumption | exact hDn _ (by omega)) ?_ | exact hd _ (by omega) | fail))
              have hc60_1 : bx60 kf = .cells [.sc (.func (.func 20) #[] #[])] := (hfr60 _ (by omega) (by first | assumption | exact hDn _ (by omega)) ⟨by first | omega | (dsimp only; omega), trivial⟩ (by omega)).trans (by repeat (first | exact uE | refine uN (by omega) ?_ | assumption | refine ovN (by first | assumption | exact hDn _ (by omega)) ?_ | exact hd _ (by omega) | fail))
              have hc60_2 : bx60 (n + 0) = .cells [.sc (.func (.yield ll) #[] #[])] := (hfr60 _ (by omega) (by first | assumption | exact hDn _ (by omega)) ⟨by first | omega | (dsimp only; omega), trivial⟩ (by omega)).trans (by repeat (first | exact uE | refine uN (by omega) ?_ | assumption | refine ovN (by first | assumption | exact hDn _ (by omega)) ?_ | exact hd _ (by omega) | fail))
              obtain ⟨t60, ht60, rfl⟩ := map_get hv60
              refine runs_keep (l' := [(92, .sc (.int .i64 t60)), (3, .ref (n + 0) 0)]) ?_ ?_
              · (repeat' (first | exact trivial | refine ⟨⟨_, rfl, ?_⟩, ?_⟩ | fail)); all_goals (repeat' (first | exact VLe.refl _ | exact VLe.own_sl _ _ _ | exact VLe.fl_sl _ _ | exact VLe.nil_sl _ | exact VLe.nil_fl _ | exact VLes.refl _ | exact .nil | refine VLe.tup ?_ | refine VLe.agg ?_ | refine .cons ?_ ?_ | (rw [Int.natCast_add]; exact VLe.refl _) | exact vle_int (by omega) | exact vle_bool (by first | rfl | assumption | (simp_all; done) | fail) | fail))
              refine runs_bump 40 ?_
              refine runs_region ?_
              refine rl0 (gn rfl) rfl rfl (step_as rfl rfl) trivial ?_
              refine runsL_nil ?_
              refine ⟨rfl, by repeat (first | exact rfl | refine uN (by omega) ?_ | fail), fun r60 => ?_⟩
              show Runs _ _ _ _ ⟨mk _, _ + _, upd _ _ _⟩ _
              refine runs_block ?_
              refine runs_seq ?_
              refine runs_reg (by kernel_rfl) ?_
              refine reg_draw (m := 4) (by kernel_rfl) (by kernel_rfl) rfl rfl (.inr (by kernel_rfl)) ?_
              refine' dl0 (gn rfl) rfl rfl (step_load_one rfl (ev_mk rfl) F.one59 ?hv) ⟨?hb, trivial⟩ ?_
              case hb => repeat (first | exact uE | refine uN (by omega) ?_ | assumption | refine ovN (by first | assumption | exact hDn _ (by omega)) ?_ | exact hd _ (by omega) | exact hd60 _ (by omega) | fail)
              case hv => rfl
              refine dl0 (gn rfl) rfl rfl (step_mv rfl rfl) trivial ?_
              refine dl0 (gn rfl) rfl rfl (step_callc rfl Try.func27 rfl rfl rfl (ntile_c (t := t60) (tou_bd ho.2.2.1 ho.2.2.2.1 ho.2.2.2.2.1 ho.2.2.2.2.2 ht60)) (by repeat (first | exact .nil | refine .cons ?_ ?_ | exact VLe.refl _ | exact VLe.own_sl _ _ _ | exact VLe.fl_sl _ _ | exact VLe.nil_sl _ | exact VLe.nil_fl _ | refine VLe.agg ?_))) trivial ?_
              refine dl0 (gn rfl) rfl rfl (step_build (ss := [2, 1]) (zs := [.int .i64 0, .int .u64 0, .int .i64 0]) rfl Try.underlying41 (by kernel_rfl) F.zero41 rfl rfl rfl) trivial ?_
              refine dlnils (acc' := [_, _, _, _]) ?_ ?_
              · repeat' (first | exact trivial | exact .inr (ap0 _ _ _ _) | exact .inr (ap2 _ _ _ _) | exact .inr (ap3 _ _ _ _) | exact .inr ⟨by first | (simp; done) | (simp; omega), by first | (simp; done) | (simp; omega)⟩ | exact .inl (by kernel_rfl) | refine ⟨?_, ?_⟩ | fail)
              have hlt_ : (1 + i60) < m := (by omega)
              refine reg_yield (by kernel_rfl) (by kernel_rfl) rfl (gn rfl) rfl rfl rfl rfl rfl (by repeat (first | exact .nil | refine .cons ?_ ?_ | exact VLe.refl _ | exact vle_int (by omega) | refine VLe.agg ?_)) (hY (1 + i60) _ hlt_ (al4_get (by omega) ht60)) (hXb.trans he60) (by omega) (fun k_ hD_ => ?_) (fun k_ hk1_ hD_ hk3_ => ?_) ?_
              · have hk1_ := hDlt k_ hD_; obtain ⟨ee0_, ee1_, _⟩ := hDE k_ hD_; exact ⟨by omega, by repeat (first | exact ovYJ hD_ (by omega) | refine uN (by first | assumption | omega) ?_ | exact (hf60 _ (by omega) (by first | assumption | omega) (by first | assumption | omega)).trans (ovYJ hD_ (by omega)) | exact (hf99 _ (by omega)).trans (ovYJ hD_ (by omega)) | fail)⟩
              · obtain ⟨ee0_, ee1_, _⟩ := inK_no hk3_; repeat (first | refine uN (by first | assumption | omega) ?_ | refine ovN hD_ ?_ | exact (hf60 _ (by omega) (by first | assumption | omega) (by first | assumption | omega)).trans ((ovN hD_ rfl).trans (hOt k_ hk1_ hD_ hk3_)) | exact hOt k_ hk1_ hD_ hk3_ | fail)
              refine reg_bool (d := 97) rfl (fun h6 => ?_) (fun h6 => ?_)
              · skip
                have hJn_ := OkJ.next h6 hlt_
                refine reg_draw (m := 1) (by kernel_rfl) (by kernel_rfl) rfl rfl (.inl rfl) ?_
                refine dl0 (gn rfl) rfl rfl (step_unOp (c := .bool false) rfl (ev_mk rfl) (fun _ => rfl)) trivial ?_
                refine dlnils (acc' := [_]) ?_ ?_
                · repeat' (first | exact trivial | exact .inr (ap0 _ _ _ _) | exact .inr (ap2 _ _ _ _) | exact .inr (ap3 _ _ _ _) | exact .inr ⟨by first | (simp; done) | (simp; omega), by first | (simp; done) | (simp; omega)⟩ | exact .inl (by kernel_rfl) | refine ⟨?_, ?_⟩ | fail)
                refine reg_end (Nat.le_refl _) ?_
                refine runs_cond false (ev_mk rfl) (fun h_ => nomatch h_) (fun _ => ?_)
                refine runs_skip ?_
                refine ⟨by exact (if_neg (fun h_ => by have := hJn_.2 h_.1; have := h_.2; omega)).symm, by repeat (first | exact uE | refine uN (by omega) ?_ | assumption | refine ovN (by first | assumption | exact hDn _ (by omega)) ?_ | exact hd _ (by omega) | exact hd60 _ (by omega) | fail), fun k_ hk_ hl_ => ?_⟩
                cases hD_ : D k_ with
                | true => have hk1_ := hDlt k_ hD_; obtain ⟨ee0_, ee1_, _⟩ := hDE k_ hD_; refine ble (Eq.trans ?_ (ovY hD_ rfl).symm); (try dsimp only); repeat (first | exact ovYJ hD_ (by omega) | refine uN (by first | assumption | omega) ?_ | exact (hf60 _ (by omega) (by first | assumption | omega) (by first | assumption | omega)).trans (ovYJ hD_ (by omega)) | exact (hf99 _ (by omega)).trans (ovYJ hD_ (by omega)) | fail)
                | false => refine bl_ov hD_ ?_; simp only [dL, updL, List.map_cons, List.map_nil]; exact ble (by repeat (first | exact rfl | refine uN (by first | assumption | omega) ?_ | refine ovN hD_ ?_ | assumption | fail))
              · skip
                obtain ⟨hbk_, hjm_⟩ := beq_s h6
                refine reg_draw (m := 1) (by kernel_rfl) (by kernel_rfl) rfl rfl (.inl rfl) ?_
                refine dl0 (gn rfl) rfl rfl (step_unOp (c := .bool true) rfl (ev_mk rfl) (fun _ => rfl)) trivial ?_
                refine dlnils (acc' := [_]) ?_ ?_
                · repeat' (first | exact trivial | exact .inr (ap0 _ _ _ _) | exact .inr (ap2 _ _ _ _) | exact .inr (ap3 _ _ _ _) | exact .inr ⟨by first | (simp; done) | (simp; omega), by first | (simp; done) | (simp; omega)⟩ | exact .inl (by kernel_rfl) | refine ⟨?_, ?_⟩ | fail)
                refine reg_end (Nat.le_refl _) ?_
                refine runs_cond true (ev_mk rfl) (fun _ => ?_) (fun h_ => nomatch h_)
                refine runs_ret ?_
                refine ⟨by exact ((if_pos ⟨hbk_, by omega⟩).trans (if_pos hbk_)).symm, by repeat (first | exact uE | refine uN (by omega) ?_ | assumption | refine ovN (by first | assumption | exact hDn _ (by omega)) ?_ | exact hd _ (by omega) | exact hd60 _ (by omega) | fail), fun k_ hk_ hl_ => ?_⟩
                cases hD_ : D k_ with
                | true => have hk1_ := hDlt k_ hD_; obtain ⟨ee0_, ee1_, _⟩ := hDE k_ hD_; refine ble (Eq.trans ?_ (ovY hD_ rfl).symm); (try dsimp only); repeat (first | exact ovYJ hD_ (by omega) | refine uN (by first | assumption | omega) ?_ | exact (hf60 _ (by omega) (by first | assumption | omega) (by first | assumption | omega)).trans (ovYJ hD_ (by omega)) | exact (hf99 _ (by omega)).trans (ovYJ hD_ (by omega)) | fail)
                | false => refine bl_ov hD_ ?_; simp only [dL, updL, List.map_cons, List.map_nil]; exact ble (by repeat (first | exact rfl | refine uN (by first | assumption | omega) ?_ | refine ovN hD_ ?_ | assumption | fail))
            · intro bb60 b60 hb60
              simp only [dL, eM, updL, List.map_cons, List.map_nil] at hb60
              subst hb60
              by_cases hbb_ : brk = true
              · rw [if_pos hbb_]
                have hJm_ : m = m := rfl
                refine ⟨by first | exact .inr rfl | exact .inl rfl, fun k_ hk_ => ?_⟩
                cases hD_ : D k_ with
                | true => obtain ⟨ee0_, ee1_, _⟩ := hDE k_ hD_; refine ble (Eq.trans ?_ (ovY hD_ rfl).symm); repeat (first | exact ovYJ hD_ (by omega) | refine uN (by first | assumption | omega) ?_ | exact (hf99 _ (by omega)).trans (ovYJ hD_ (by omega)) | fail)
                | false => refine bl_ov hD_ ?_; simp only [eM, updL, List.map_cons, List.map_nil]; by_cases e0_ : k_ = k2; (focus subst e0_; refine bl_eq ?_; first | (refine ble ?_; (repeat (first | exact uE | assumption | refine uN (by omega) ?_ | refine ovN (by first | assumption | exact hDn _ (by omega)) ?_ | fail)); done) | (refine' blec ?hb ?hl; (case hb => repeat (first | exact uE | assumption | refine uN (by omega) ?_ | refine ovN (by first | assumption | exact hDn _ (by omega)) ?_ | fail)); (case hl => first | exact VLes.refl _ | ((repeat' (first | exact VLe.refl _ | exact VLe.own_sl _ _ _ | exact VLe.fl_sl _ _ | exact VLe.nil_sl _ | exact VLe.nil_fl _ | exact VLes.refl _ | exact .nil | refine VLe.tup ?_ | refine VLe.agg ?_ | refine .cons ?_ ?_ | (rw [Int.natCast_add]; exact VLe.refl _) | exact vle_int (by omega) | exact vle_bool (by first | rfl | assumption | (simp_all; done) | fail) | fail)); done)))); refine bl_ne e0_ ?_; by_cases e1_ : k_ = kf; (focus subst e1_; refine bl_eq ?_; first | (refine ble ?_; (repeat (first | exact uE | assumption | refine uN (by omega) ?_ | refine ovN (by first | assumption | exact hDn _ (by omega)) ?_ | fail)); done) | (refine' blec ?hb ?hl; (case hb => repeat (first | exact uE | assumption | refine uN (by omega) ?_ | refine ovN (by first | assumption | exact hDn _ (by omega)) ?_ | fail)); (case hl => first | exact VLes.refl _ | ((repeat' (first | exact VLe.refl _ | exact VLe.own_sl _ _ _ | exact VLe.fl_sl _ _ | exact VLe.nil_sl _ | exact VLe.nil_fl _ | exact VLes.refl _ | exact .nil | refine VLe.tup ?_ | refine VLe.agg ?_ | refine .cons ?_ ?_ | (rw [Int.natCast_add]; exact VLe.refl _) | exact vle_int (by omega) | exact vle_bool (by first | rfl | assumption | (simp_all; done) | fail) | fail)); done)))); refine bl_ne e1_ ?_; exact ble (by repeat (first | refine uN (by first | assumption | omega) ?_ | refine ovN hD_ ?_ | exact rfl | fail))
              · rw [if_neg hbb_]
                have hJm_ : m = m := rfl
                refine ⟨by first | exact .inr rfl | exact .inl rfl, fun k_ hk_ => ?_⟩
                cases hD_ : D k_ with
                | true => obtain ⟨ee0_, ee1_, _⟩ := hDE k_ hD_; refine ble (Eq.trans ?_ (ovY hD_ rfl).symm); repeat (first | exact ovYJ hD_ (by omega) | refine uN (by first | assumption | omega) ?_ | exact (hf99 _ (by omega)).trans (ovYJ hD_ (by omega)) | fail)
                | false => refine bl_ov hD_ ?_; simp only [eM, updL, List.map_cons, List.map_nil]; by_cases e0_ : k_ = k2; (focus subst e0_; refine bl_eq ?_; first | (refine ble ?_; (repeat (first | exact uE | assumption | refine uN (by omega) ?_ | refine ovN (by first | assumption | exact hDn _ (by omega)) ?_ | fail)); done) | (refine' blec ?hb ?hl; (case hb => repeat (first | exact uE | assumption | refine uN (by omega) ?_ | refine ovN (by first | assumption | exact hDn _ (by omega)) ?_ | fail)); (case hl => first | exact VLes.refl _ | ((repeat' (first | exact VLe.refl _ | exact VLe.own_sl _ _ _ | exact VLe.fl_sl _ _ | exact VLe.nil_sl _ | exact VLe.nil_fl _ | exact VLes.refl _ | exact .nil | refine VLe.tup ?_ | refine VLe.agg ?_ | refine .cons ?_ ?_ | (rw [Int.natCast_add]; exact VLe.refl _) | exact vle_int (by omega) | exact vle_bool (by first | rfl | assumption | (simp_all; done) | fail) | fail)); done)))); refine bl_ne e0_ ?_; by_cases e1_ : k_ = kf; (focus subst e1_; refine bl_eq ?_; first | (refine ble ?_; (repeat (first | exact uE | assumption | refine uN (by omega) ?_ | refine ovN (by first | assumption | exact hDn _ (by omega)) ?_ | fail)); done) | (refine' blec ?hb ?hl; (case hb => repeat (first | exact uE | assumption | refine uN (by omega) ?_ | refine ovN (by first | assumption | exact hDn _ (by omega)) ?_ | fail)); (case hl => first | exact VLes.refl _ | ((repeat' (first | exact VLe.refl _ | exact VLe.own_sl _ _ _ | exact VLe.fl_sl _ _ | exact VLe.nil_sl _ | exact VLe.nil_fl _ | exact VLes.refl _ | exact .nil | refine VLe.tup ?_ | refine VLe.agg ?_ | refine .cons ?_ ?_ | (rw [Int.natCast_add]; exact VLe.refl _) | exact vle_int (by omega) | exact vle_bool (by first | rfl | assumption | (simp_all; done) | fail) | fail)); done)))); refine bl_ne e1_ ?_; exact ble (by repeat (first | refine uN (by first | assumption | omega) ?_ | refine ovN hD_ ?_ | exact rfl | fail))
          · skip
            obtain ⟨hbk_, hjm_⟩ := beq_s h5
            refine reg_draw (m := 1) (by kernel_rfl) (by kernel_rfl) rfl rfl (.inl rfl) ?_
            refine dl0 (gn rfl) rfl rfl (step_unOp (c := .bool true) rfl (ev_mk rfl) (fun _ => rfl)) trivial ?_
            refine dlnils (acc' := [_]) ?_ ?_
            · repeat' (first | exact trivial | exact .inr (ap0 _ _ _ _) | exact .inr (ap2 _ _ _ _) | exact .inr (ap3 _ _ _ _) | exact .inr ⟨by first | (simp; done) | (simp; omega), by first | (simp; done) | (simp; omega)⟩ | exact .inl (by kernel_rfl) | refine ⟨?_, ?_⟩ | fail)
            refine reg_end (Nat.le_refl _) ?_
            refine runs_cond true (ev_mk rfl) (fun _ => ?_) (fun h_ => nomatch h_)
            refine runs_ret ?_
            refine ⟨by first | exact .inr rfl | exact .inl rfl, fun k_ hk_ => ?_⟩
            cases hD_ : D k_ with
            | true => obtain ⟨ee0_, ee1_, _⟩ := hDE k_ hD_; refine ble (Eq.trans ?_ (ovY hD_ rfl).symm); repeat (first | exact ovYJ hD_ (by omega) | refine uN (by first | assumption | omega) ?_ | exact (hf99 _ (by omega)).trans (ovYJ hD_ (by omega)) | fail)
            | false => refine bl_ov hD_ ?_; simp only [eM, updL, List.map_cons, List.map_nil]; by_cases e0_ : k_ = k2; (focus subst e0_; refine bl_eq ?_; first | (refine ble ?_; (repeat (first | exact uE | assumption | refine uN (by omega) ?_ | refine ovN (by first | assumption | exact hDn _ (by omega)) ?_ | fail)); done) | (refine' blec ?hb ?hl; (case hb => repeat (first | exact uE | assumption | refine uN (by omega) ?_ | refine ovN (by first | assumption | exact hDn _ (by omega)) ?_ | fail)); (case hl => first | exact VLes.refl _ | ((repeat' (first | exact VLe.refl _ | exact VLe.own_sl _ _ _ | exact VLe.fl_sl _ _ | exact VLe.nil_sl _ | exact VLe.nil_fl _ | exact VLes.refl _ | exact .nil | refine VLe.tup ?_ | refine VLe.agg ?_ | refine .cons ?_ ?_ | (rw [Int.natCast_add]; exact VLe.refl _) | exact vle_int (by omega) | exact vle_bool (by first | rfl | assumption | (simp_all; done) | fail) | fail)); done)))); refine bl_ne e0_ ?_; by_cases e1_ : k_ = kf; (focus subst e1_; refine bl_eq ?_; first | (refine ble ?_; (repeat (first | exact uE | assumption | refine uN (by omega) ?_ | refine ovN (by first | assumption | exact hDn _ (by omega)) ?_ | fail)); done) | (refine' blec ?hb ?hl; (case hb => repeat (first | exact uE | assumption | refine uN (by omega) ?_ | refine ovN (by first | assumption | exact hDn _ (by omega)) ?_ | fail)); (case hl => first | exact VLes.refl _ | ((repeat' (first | exact VLe.refl _ | exact VLe.own_sl _ _ _ | exact VLe.fl_sl _ _ | exact VLe.nil_sl _ | exact VLe.nil_fl _ | exact VLes.refl _ | exact .nil | refine VLe.tup ?_ | refine VLe.agg ?_ | refine .cons ?_ ?_ | (rw [Int.natCast_add]; exact VLe.refl _) | exact vle_int (by omega) | exact vle_bool (by first | rfl | assumption | (simp_all; done) | fail) | fail)); done)))); refine bl_ne e1_ ?_; exact ble (by repeat (first | refine uN (by first | assumption | omega) ?_ | refine ovN hD_ ?_ | exact rfl | fail))
        · skip
          refine rl0 (gn rfl) rfl rfl (step_as rfl rfl) trivial ?_
          refine runsL_nil ?_
          refine runs_cond false (ev_mk rfl) (fun h_ => nomatch h_) (fun _ => ?_)
          refine runs_region ?_
          refine rl_eql (gn rfl) rfl rfl rfl rfl rfl (fun h5 => ?_) (fun h5 => ?_)
          · skip
            refine rl0 (gn rfl) rfl rfl (step_as rfl rfl) trivial ?_
            refine runsL_nil ?_
            refine runs_cond true (ev_mk rfl) (fun _ => ?_) (fun h_ => nomatch h_)
            refine runs_seq ?_
            refine runs_seq ?_
            refine runs_reg (by kernel_rfl) ?_
            refine reg_draw (m := 3) (by kernel_rfl) (by kernel_rfl) rfl rfl (.inr (by kernel_rfl)) ?_
            refine' dl0 (gn rfl) rfl rfl (step_load_one rfl (ev_mk rfl) F.one59 ?hv) ⟨?hb, trivial⟩ ?_
            case hb => repeat (first | exact uE | refine uN (by omega) ?_ | assumption | refine ovN (by first | assumption | exact hDn _ (by omega)) ?_ | exact hd _ (by omega) | fail)
            case hv => rfl
            refine dl0 (gn rfl) rfl rfl (step_callc rfl Try.func25 rfl rfl rfl (store_c) (by repeat (first | exact .nil | refine .cons ?_ ?_ | exact VLe.refl _ | exact VLe.own_sl _ _ _ | exact VLe.fl_sl _ _ | exact VLe.nil_sl _ | exact VLe.nil_fl _ | refine VLe.agg ?_))) trivial ?_
            refine dl0 (gn rfl) rfl rfl (step_build (ss := [2, 1]) (zs := [.int .i64 0, .int .u64 0, .int .i64 0]) rfl Try.underlying41 (by kernel_rfl) F.zero41 rfl rfl rfl) trivial ?_
            refine dlnils (acc' := [_, _, _]) ?_ ?_
            · repeat' (first | exact trivial | exact .inr (ap0 _ _ _ _) | exact .inr (ap2 _ _ _ _) | exact .inr (ap3 _ _ _ _) | exact .inr ⟨by first | (simp; done) | (simp; omega), by first | (simp; done) | (simp; omega)⟩ | exact .inl (by kernel_rfl) | refine ⟨?_, ?_⟩ | fail)
            have hlt_ : 0 < m := (OkJ.lt hJ_ h3m (by have := al4_len (o := o) (r := r) (th := th) (by omega); omega))
            refine reg_yield (by kernel_rfl) (by kernel_rfl) rfl (gn rfl) rfl rfl rfl rfl rfl (by repeat (first | exact .nil | refine .cons ?_ ?_ | exact VLe.refl _ | exact vle_int (by omega) | refine VLe.agg ?_)) (hY (0) _ hlt_ (al4_0 (by omega))) hXb (by omega) (fun k_ hD_ => ?_) (fun k_ hk1_ hD_ hk3_ => ?_) ?_
            · have hk1_ := hDlt k_ hD_; obtain ⟨ee0_, ee1_, _⟩ := hDE k_ hD_; exact ⟨by omega, by repeat (first | exact ovYJ hD_ (by omega) | refine uN (by first | assumption | omega) ?_ | exact (hf99 _ (by omega)).trans (ovYJ hD_ (by omega)) | fail)⟩
            · obtain ⟨ee0_, ee1_, _⟩ := inK_no hk3_; repeat (first | refine uN (by first | assumption | omega) ?_ | refine ovN hD_ ?_ | exact hOt k_ hk1_ hD_ hk3_ | fail)
            refine reg_bool (d := 87) rfl (fun h6 => ?_) (fun h6 => ?_)
            · skip
              have hJn_ := OkJ.next h6 hlt_
              refine reg_draw (m := 1) (by kernel_rfl) (by kernel_rfl) rfl rfl (.inl rfl) ?_
              refine dl0 (gn rfl) rfl rfl (step_unOp (c := .bool false) rfl (ev_mk rfl) (fun _ => rfl)) trivial ?_
              refine dlnils (acc' := [_]) ?_ ?_
              · repeat' (first | exact trivial | exact .inr (ap0 _ _ _ _) | exact .inr (ap2 _ _ _ _) | exact .inr (ap3 _ _ _ _) | exact .inr ⟨by first | (simp; done) | (simp; omega), by first | (simp; done) | (simp; omega)⟩ | exact .inl (by kernel_rfl) | refine ⟨?_, ?_⟩ | fail)
              refine reg_end (Nat.le_refl _) ?_
              refine runs_cond false (ev_mk rfl) (fun h_ => nomatch h_) (fun _ => ?_)
              refine runs_skip ?_
              refine runs_seq ?_
              refine runs_region ?_
              refine rl0 (gn rfl) rfl rfl (step_fieldAddr (off := 5) rfl (ev_mk rfl) Try.underlying27 rfl F.sz25 rfl) trivial ?_
              refine' rl0 (gn rfl) rfl rfl (step_load_agg rfl (ev_mk rfl) F.agg25 ?hc ?hl) ⟨?hb, trivial⟩ ?_
              case hb => repeat (first | exact uE | refine uN (by omega) ?_ | assumption | refine ovN (by first | assumption | exact hDn _ (by omega)) ?_ | exact hd _ (by omega) | fail)
              case hc => rfl
              case hl => first | rfl | (simp; done) | (first | (simp; done) | (simp; omega) | omega)
              refine rl1 (gn rfl) rfl rfl (step_callc rfl Try.func29 rfl rfl rfl (tou_c (kk := (n + 1))) (by repeat (first | exact .nil | refine .cons ?_ ?_ | exact VLe.refl _ | exact VLe.own_sl _ _ _ | exact VLe.fl_sl _ _ | exact VLe.nil_sl _ | exact VLe.nil_fl _ | refine VLe.agg ?_))) ⟨by repeat (first | exact uE | refine uN (by omega) ?_ | assumption | refine ovN (by first | assumption | exact hDn _ (by omega)) ?_ | exact hd _ (by omega) | fail), trivial⟩ (by omega) ?_
              refine runsL_nil ?_
              refine runs_block ?_
              have hL_ := al4_len (o := o) (r := r) (th := th) (by omega)
              have hT_ : ((touL o.a o.b o.c o.d).map enT).length = (touL o.a o.b o.c o.d).length := List.length_map _
              have hm1_ : 1 ≤ m := hJn_.1
              refine runs_rangeY (f := 38) (caps := [.ref (n + 1) 0]) (xs := (touL o.a o.b o.c o.d).map enT) (Dl := []) (El := [(n + 1, .cells (rcC o.a o.b o.c o.d), fun m_ b_ => .cells (rcC o.a o.b o.c o.d))]) (D := D) (σ := σ) (cnt := fun i_ => 1 + i_) (kl := n + 2) (m := m - 1) (brk := brk) (ex := if brk = true then .ret else .normal) hO rfl (.inl rfl) Try.func38 rfl rfl (tou_i ho.2.2.1 ho.2.2.2.1 ho.2.2.2.2.1 ho.2.2.2.2.2) trivial (by repeat (first | exact uE | refine uN (by omega) ?_ | assumption | refine ovN (by first | assumption | exact hDn _ (by omega)) ?_ | exact hd _ (by omega) | fail)) (by omega) (by omega) (fun h_ => ⟨by have := hJn_.2 h_; omega, .ret, by rw [if_pos h_]; rfl⟩) (fun h_ => ⟨by have := h3m h_; omega, if_neg (by rw [h_]; exact Bool.false_ne_true)⟩) (fun v_ hv_ => by obtain ⟨_, _, rfl⟩ := List.mem_map.1 hv_; rfl) rfl trivial (fun k_ hD_ => ?_) trivial ⟨⟨by dsimp only; omega, by dsimp only; omega, by dsimp only; repeat (first | exact uE | refine uN (by omega) ?_ | assumption | refine ovN (by first | assumption | exact hDn _ (by omega)) ?_ | exact hd _ (by omega) | fail)⟩, trivial⟩ (fun i_ hi_ k_ hD_ => (hsb _ (by first | omega | (dsimp only; omega)) k_ hD_).mono (by omega)) (fun i60 => trivial) ⟨bdb_cells (by repeat (first | exact trivial | assumption | omega | (refine bdR_map (fun _ => ?_)) | (refine bdL_map (fun _ => ?_)) | refine ⟨?_, ?_⟩ | fail)), trivial⟩ ?_ ?_
              · have hk1_ := hDlt k_ hD_; obtain ⟨ee0_, ee1_, _⟩ := hDE k_ hD_; exact ⟨by omega, by omega, ⟨by first | assumption | (dsimp only; omega), trivial⟩, by (try dsimp only); repeat (first | exact ovYJ hD_ (by omega) | refine uN (by first | assumption | omega) ?_ | exact (hf99 _ (by omega)).trans (ovYJ hD_ (by omega)) | fail)⟩
              · intro i60 v60 hi60 hv60 B60 n60 lr60 bx60 hR60 hl60 hk60 ho60 he60 hn60 hd60 hD60 hL60 hfr60
                have hf60 : ∀ k_, k_ < n → k_ ≠ n + 1 → k_ ≠ n + 2 → bx60 k_ = ov D (σ (1 + i60)) bx k_ := fun k_ a_ e0_ e1_ => ovT (fun hD_ => hD60 k_ hD_) (fun hD_ => (hfr60 k_ (by omega) hD_ ⟨e0_, trivial⟩ e1_).trans (by repeat (first | refine uN (by first | assumption | omega) ?_ | refine ovN hD_ ?_ | exact rfl | fail)))
                have hc60_0 : bx60 k2 = .cells [.sc (.int .i64 o.k), .sc (.int .u64 o.key), .sc (.int .u32 o.x), .sc (.int .u32 o.y), .sc (.string o.v), .sc (.int .u32 o.a), .sc (.int .u32 o.b), .sc (.int .u32 o.c), .sc (.int .u32 o.d), .sc (.int .i64 o.n)] := (hfr60 _ (by omega) (by first | assumption | exact hDn _ (by omega)) ⟨by first | omega | (dsimp only; omega), trivial⟩ (by omega)).trans (by repeat (first | exact uE | refine uN (by omega) ?_ | assumption | refine ovN (by first | assumption | exact hDn _ (by omega)) ?_ | exact hd _ (by omega) | fail))
                have hc60_1 : bx60 kf = .cells [.sc (.func (.func 20) #[] #[])] := (hfr60 _ (by omega) (by first | assumption | exact hDn _ (by omega)) ⟨by first | omega | (dsimp only; omega), trivial⟩ (by omega)).trans (by repeat (first | exact uE | refine uN (by omega) ?_ | assumption | refine ovN (by first | assumption | exact hDn _ (by omega)) ?_ | exact hd _ (by omega) | fail))
                have hc60_2 : bx60 (n + 0) = .cells [.sc (.func (.yield ll) #[] #[])] := (hfr60 _ (by omega) (by first | assumption | exact hDn _ (by omega)) ⟨by first | omega | (dsimp only; omega), trivial⟩ (by omega)).trans (by repeat (first | exact uE | refine uN (by omega) ?_ | assumption | refine ovN (by first | assumption | exact hDn _ (by omega)) ?_ | exact hd _ (by omega) | fail))
                obtain ⟨t60, ht60, rfl⟩ := map_get hv60
                refine runs_keep (l' := [(92, .sc (.int .i64 t60)), (3, .ref (n + 0) 0)]) ?_ ?_
                · (repeat' (first | exact trivial | refine ⟨⟨_, rfl, ?_⟩, ?_⟩ | fail)); all_goals (repeat' (first | exact VLe.refl _ | exact VLe.own_sl _ _ _ | exact VLe.fl_sl _ _ | exact VLe.nil_sl _ | exact VLe.nil_fl _ | exact VLes.refl _ | exact .nil | refine VLe.tup ?_ | refine VLe.agg ?_ | refine .cons ?_ ?_ | (rw [Int.natCast_add]; exact VLe.refl _) | exact vle_int (by omega) | exact vle_bool (by first | rfl | assumption | (simp_all; done) | fail) | fail))
                refine runs_bump 40 ?_
                refine runs_region ?_
                refine rl0 (gn rfl) rfl rfl (step_as rfl rfl) trivial ?_
                refine runsL_nil ?_
                refine ⟨rfl, by repeat (first | exact rfl | refine uN (by omega) ?_ | fail), fun r60 => ?_⟩
                show Runs _ _ _ _ ⟨mk _, _ + _, upd _ _ _⟩ _
                refine runs_block ?_
                refine runs_seq ?_
                refine runs_reg (by kernel_rfl) ?_
                refine reg_draw (m := 4) (by kernel_rfl) (by kernel_rfl) rfl rfl (.inr (by kernel_rfl)) ?_
                refine' dl0 (gn rfl) rfl rfl (step_load_one rfl (ev_mk rfl) F.one59 ?hv) ⟨?hb, trivial⟩ ?_
                case hb => repeat (first | exact uE | refine uN (by omega) ?_ | assumption | refine ovN (by first | assumption | exact hDn _ (by omega)) ?_ | exact hd _ (by omega) | exact hd60 _ (by omega) | fail)
                case hv => rfl
                refine dl0 (gn rfl) rfl rfl (step_mv rfl rfl) trivial ?_
                refine dl0 (gn rfl) rfl rfl (step_callc rfl Try.func27 rfl rfl rfl (ntile_c (t := t60) (tou_bd ho.2.2.1 ho.2.2.2.1 ho.2.2.2.2.1 ho.2.2.2.2.2 ht60)) (by repeat (first | exact .nil | refine .cons ?_ ?_ | exact VLe.refl _ | exact VLe.own_sl _ _ _ | exact VLe.fl_sl _ _ | exact VLe.nil_sl _ | exact VLe.nil_fl _ | refine VLe.agg ?_))) trivial ?_
                refine dl0 (gn rfl) rfl rfl (step_build (ss := [2, 1]) (zs := [.int .i64 0, .int .u64 0, .int .i64 0]) rfl Try.underlying41 (by kernel_rfl) F.zero41 rfl rfl rfl) trivial ?_
                refine dlnils (acc' := [_, _, _, _]) ?_ ?_
                · repeat' (first | exact trivial | exact .inr (ap0 _ _ _ _) | exact .inr (ap2 _ _ _ _) | exact .inr (ap3 _ _ _ _) | exact .inr ⟨by first | (simp; done) | (simp; omega), by first | (simp; done) | (simp; omega)⟩ | exact .inl (by kernel_rfl) | refine ⟨?_, ?_⟩ | fail)
                have hlt_ : (1 + i60) < m := (by omega)
                refine reg_yield (by kernel_rfl) (by kernel_rfl) rfl (gn rfl) rfl rfl rfl rfl rfl (by repeat (first | exact .nil | refine .cons ?_ ?_ | exact VLe.refl _ | exact vle_int (by omega) | refine VLe.agg ?_)) (hY (1 + i60) _ hlt_ (al4_get (by omega) ht60)) (hXb.trans he60) (by omega) (fun k_ hD_ => ?_) (fun k_ hk1_ hD_ hk3_ => ?_) ?_
                · have hk1_ := hDlt k_ hD_; obtain ⟨ee0_, ee1_, _⟩ := hDE k_ hD_; exact ⟨by omega, by repeat (first | exact ovYJ hD_ (by omega) | refine uN (by first | assumption | omega) ?_ | exact (hf60 _ (by omega) (by first | assumption | omega) (by first | assumption | omega)).trans (ovYJ hD_ (by omega)) | exact (hf99 _ (by omega)).trans (ovYJ hD_ (by omega)) | fail)⟩
                · obtain ⟨ee0_, ee1_, _⟩ := inK_no hk3_; repeat (first | refine uN (by first | assumption | omega) ?_ | refine ovN hD_ ?_ | exact (hf60 _ (by omega) (by first | assumption | omega) (by first | assumption | omega)).trans ((ovN hD_ rfl).trans (hOt k_ hk1_ hD_ hk3_)) | exact hOt k_ hk1_ hD_ hk3_ | fail)
                refine reg_bool (d := 97) rfl (fun h7 => ?_) (fun h7 => ?_)
                · skip
                  have hJn_ := OkJ.next h7 hlt_
                  refine reg_draw (m := 1) (by kernel_rfl) (by kernel_rfl) rfl rfl (.inl rfl) ?_
                  refine dl0 (gn rfl) rfl rfl (step_unOp (c := .bool false) rfl (ev_mk rfl) (fun _ => rfl)) trivial ?_
                  refine dlnils (acc' := [_]) ?_ ?_
                  · repeat' (first | exact trivial | exact .inr (ap0 _ _ _ _) | exact .inr (ap2 _ _ _ _) | exact .inr (ap3 _ _ _ _) | exact .inr ⟨by first | (simp; done) | (simp; omega), by first | (simp; done) | (simp; omega)⟩ | exact .inl (by kernel_rfl) | refine ⟨?_, ?_⟩ | fail)
                  refine reg_end (Nat.le_refl _) ?_
                  refine runs_cond false (ev_mk rfl) (fun h_ => nomatch h_) (fun _ => ?_)
                  refine runs_skip ?_
                  refine ⟨by exact (if_neg (fun h_ => by have := hJn_.2 h_.1; have := h_.2; omega)).symm, by repeat (first | exact uE | refine uN (by omega) ?_ | assumption | refine ovN (by first | assumption | exact hDn _ (by omega)) ?_ | exact hd _ (by omega) | exact hd60 _ (by omega) | fail), fun k_ hk_ hl_ => ?_⟩
                  cases hD_ : D k_ with
                  | true => have hk1_ := hDlt k_ hD_; obtain ⟨ee0_, ee1_, _⟩ := hDE k_ hD_; refine ble (Eq.trans ?_ (ovY hD_ rfl).symm); (try dsimp only); repeat (first | exact ovYJ hD_ (by omega) | refine uN (by first | assumption | omega) ?_ | exact (hf60 _ (by omega) (by first | assumption | omega) (by first | assumption | omega)).trans (ovYJ hD_ (by omega)) | exact (hf99 _ (by omega)).trans (ovYJ hD_ (by omega)) | fail)
                  | false => refine bl_ov hD_ ?_; simp only [dL, updL, List.map_cons, List.map_nil]; exact ble (by repeat (first | exact rfl | refine uN (by first | assumption | omega) ?_ | refine ovN hD_ ?_ | assumption | fail))
                · skip
                  obtain ⟨hbk_, hjm_⟩ := beq_s h7
                  refine reg_draw (m := 1) (by kernel_rfl) (by kernel_rfl) rfl rfl (.inl rfl) ?_
                  refine dl0 (gn rfl) rfl rfl (step_unOp (c := .bool true) rfl (ev_mk rfl) (fun _ => rfl)) trivial ?_
                  refine dlnils (acc' := [_]) ?_ ?_
                  · repeat' (first | exact trivial | exact .inr (ap0 _ _ _ _) | exact .inr (ap2 _ _ _ _) | exact .inr (ap3 _ _ _ _) | exact .inr ⟨by first | (simp; done) | (simp; omega), by first | (simp; done) | (simp; omega)⟩ | exact .inl (by kernel_rfl) | refine ⟨?_, ?_⟩ | fail)
                  refine reg_end (Nat.le_refl _) ?_
                  refine runs_cond true (ev_mk rfl) (fun _ => ?_) (fun h_ => nomatch h_)
                  refine runs_ret ?_
                  refine ⟨by exact ((if_pos ⟨hbk_, by omega⟩).trans (if_pos hbk_)).symm, by repeat (first | exact uE | refine uN (by omega) ?_ | assumption | refine ovN (by first | assumption | exact hDn _ (by omega)) ?_ | exact hd _ (by omega) | exact hd60 _ (by omega) | fail), fun k_ hk_ hl_ => ?_⟩
                  cases hD_ : D k_ with
                  | true => have hk1_ := hDlt k_ hD_; obtain ⟨ee0_, ee1_, _⟩ := hDE k_ hD_; refine ble (Eq.trans ?_ (ovY hD_ rfl).symm); (try dsimp only); repeat (first | exact ovYJ hD_ (by omega) | refine uN (by first | assumption | omega) ?_ | exact (hf60 _ (by omega) (by first | assumption | omega) (by first | assumption | omega)).trans (ovYJ hD_ (by omega)) | exact (hf99 _ (by omega)).trans (ovYJ hD_ (by omega)) | fail)
                  | false => refine bl_ov hD_ ?_; simp only [dL, updL, List.map_cons, List.map_nil]; exact ble (by repeat (first | exact rfl | refine uN (by first | assumption | omega) ?_ | refine ovN hD_ ?_ | assumption | fail))
              · intro bb60 b60 hb60
                simp only [dL, eM, updL, List.map_cons, List.map_nil] at hb60
                subst hb60
                by_cases hbb_ : brk = true
                · rw [if_pos hbb_]
                  have hJm_ : m = m := rfl
                  refine ⟨by first | exact .inr rfl | exact .inl rfl, fun k_ hk_ => ?_⟩
                  cases hD_ : D k_ with
                  | true => obtain ⟨ee0_, ee1_, _⟩ := hDE k_ hD_; refine ble (Eq.trans ?_ (ovY hD_ rfl).symm); repeat (first | exact ovYJ hD_ (by omega) | refine uN (by first | assumption | omega) ?_ | exact (hf99 _ (by omega)).trans (ovYJ hD_ (by omega)) | fail)
                  | false => refine bl_ov hD_ ?_; simp only [eM, updL, List.map_cons, List.map_nil]; by_cases e0_ : k_ = k2; (focus subst e0_; refine bl_eq ?_; first | (refine ble ?_; (repeat (first | exact uE | assumption | refine uN (by omega) ?_ | refine ovN (by first | assumption | exact hDn _ (by omega)) ?_ | fail)); done) | (refine' blec ?hb ?hl; (case hb => repeat (first | exact uE | assumption | refine uN (by omega) ?_ | refine ovN (by first | assumption | exact hDn _ (by omega)) ?_ | fail)); (case hl => first | exact VLes.refl _ | ((repeat' (first | exact VLe.refl _ | exact VLe.own_sl _ _ _ | exact VLe.fl_sl _ _ | exact VLe.nil_sl _ | exact VLe.nil_fl _ | exact VLes.refl _ | exact .nil | refine VLe.tup ?_ | refine VLe.agg ?_ | refine .cons ?_ ?_ | (rw [Int.natCast_add]; exact VLe.refl _) | exact vle_int (by omega) | exact vle_bool (by first | rfl | assumption | (simp_all; done) | fail) | fail)); done)))); refine bl_ne e0_ ?_; by_cases e1_ : k_ = kf; (focus subst e1_; refine bl_eq ?_; first | (refine ble ?_; (repeat (first | exact uE | assumption | refine uN (by omega) ?_ | refine ovN (by first | assumption | exact hDn _ (by omega)) ?_ | fail)); done) | (refine' blec ?hb ?hl; (case hb => repeat (first | exact uE | assumption | refine uN (by omega) ?_ | refine ovN (by first | assumption | exact hDn _ (by omega)) ?_ | fail)); (case hl => first | exact VLes.refl _ | ((repeat' (first | exact VLe.refl _ | exact VLe.own_sl _ _ _ | exact VLe.fl_sl _ _ | exact VLe.nil_sl _ | exact VLe.nil_fl _ | exact VLes.refl _ | exact .nil | refine VLe.tup ?_ | refine VLe.agg ?_ | refine .cons ?_ ?_ | (rw [Int.natCast_add]; exact VLe.refl _) | exact vle_int (by omega) | exact vle_bool (by first | rfl | assumption | (simp_all; done) | fail) | fail)); done)))); refine bl_ne e1_ ?_; exact ble (by repeat (first | refine uN (by first | assumption | omega) ?_ | refine ovN hD_ ?_ | exact rfl | fail))
                · rw [if_neg hbb_]
                  have hJm_ : m = m := rfl
                  refine ⟨by first | exact .inr rfl | exact .inl rfl, fun k_ hk_ => ?_⟩
                  cases hD_ : D k_ with
                  | true => obtain ⟨ee0_, ee1_, _⟩ := hDE k_ hD_; refine ble (Eq.trans ?_ (ovY hD_ rfl).symm); repeat (first | exact ovYJ hD_ (by omega) | refine uN (by first | assumption | omega) ?_ | exact (hf99 _ (by omega)).trans (ovYJ hD_ (by omega)) | fail)
                  | false => refine bl_ov hD_ ?_; simp only [eM, updL, List.map_cons, List.map_nil]; by_cases e0_ : k_ = k2; (focus subst e0_; refine bl_eq ?_; first | (refine ble ?_; (repeat (first | exact uE | assumption | refine uN (by omega) ?_ | refine ovN (by first | assumption | exact hDn _ (by omega)) ?_ | fail)); done) | (refine' blec ?hb ?hl; (case hb => repeat (first | exact uE | assumption | refine uN (by omega) ?_ | refine ovN (by first | assumption | exact hDn _ (by omega)) ?_ | fail)); (case hl => first | exact VLes.refl _ | ((repeat' (first | exact VLe.refl _ | exact VLe.own_sl _ _ _ | exact VLe.fl_sl _ _ | exact VLe.nil_sl _ | exact VLe.nil_fl _ | exact VLes.refl _ | exact .nil | refine VLe.tup ?_ | refine VLe.agg ?_ | refine .cons ?_ ?_ | (rw [Int.natCast_add]; exact VLe.refl _) | exact vle_int (by omega) | exact vle_bool (by first | rfl | assumption | (simp_all; done) | fail) | fail)); done)))); refine bl_ne e0_ ?_; by_cases e1_ : k_ = kf; (focus subst e1_; refine bl_eq ?_; first | (refine ble ?_; (repeat (first | exact uE | assumption | refine uN (by omega) ?_ | refine ovN (by first | assumption | exact hDn _ (by omega)) ?_ | fail)); done) | (refine' blec ?hb ?hl; (case hb => repeat (first | exact uE | assumption | refine uN (by omega) ?_ | refine ovN (by first | assumption | exact hDn _ (by omega)) ?_ | fail)); (case hl => first | exact VLes.refl _ | ((repeat' (first | exact VLe.refl _ | exact VLe.own_sl _ _ _ | exact VLe.fl_sl _ _ | exact VLe.nil_sl _ | exact VLe.nil_fl _ | exact VLes.refl _ | exact .nil | refine VLe.tup ?_ | refine VLe.agg ?_ | refine .cons ?_ ?_ | (rw [Int.natCast_add]; exact VLe.refl _) | exact vle_int (by omega) | exact vle_bool (by first | rfl | assumption | (simp_all; done) | fail) | fail)); done)))); refine bl_ne e1_ ?_; exact ble (by repeat (first | refine uN (by first | assumption | omega) ?_ | refine ovN hD_ ?_ | exact rfl | fail))
            · skip
              obtain ⟨hbk_, hjm_⟩ := beq_s h6
              refine reg_draw (m := 1) (by kernel_rfl) (by kernel_rfl) rfl rfl (.inl rfl) ?_
              refine dl0 (gn rfl) rfl rfl (step_unOp (c := .bool true) rfl (ev_mk rfl) (fun _ => rfl)) trivial ?_
              refine dlnils (acc' := [_]) ?_ ?_
              · repeat' (first | exact trivial | exact .inr (ap0 _ _ _ _) | exact .inr (ap2 _ _ _ _) | exact .inr (ap3 _ _ _ _) | exact .inr ⟨by first | (simp; done) | (simp; omega), by first | (simp; done) | (simp; omega)⟩ | exact .inl (by kernel_rfl) | refine ⟨?_, ?_⟩ | fail)
              refine reg_end (Nat.le_refl _) ?_
              refine runs_cond true (ev_mk rfl) (fun _ => ?_) (fun h_ => nomatch h_)
              refine runs_ret ?_
              refine ⟨by first | exact .inr rfl | exact .inl rfl, fun k_ hk_ => ?_⟩
              cases hD_ : D k_ with
              | true => obtain ⟨ee0_, ee1_, _⟩ := hDE k_ hD_; refine ble (Eq.trans ?_ (ovY hD_ rfl).symm); repeat (first | exact ovYJ hD_ (by omega) | refine uN (by first | assumption | omega) ?_ | exact (hf99 _ (by omega)).trans (ovYJ hD_ (by omega)) | fail)
              | false => refine bl_ov hD_ ?_; simp only [eM, updL, List.map_cons, List.map_nil]; by_cases e0_ : k_ = k2; (focus subst e0_; refine bl_eq ?_; first | (refine ble ?_; (repeat (first | exact uE | assumption | refine uN (by omega) ?_ | refine ovN (by first | assumption | exact hDn _ (by omega)) ?_ | fail)); done) | (refine' blec ?hb ?hl; (case hb => repeat (first | exact uE | assumption | refine uN (by omega) ?_ | refine ovN (by first | assumption | exact hDn _ (by omega)) ?_ | fail)); (case hl => first | exact VLes.refl _ | ((repeat' (first | exact VLe.refl _ | exact VLe.own_sl _ _ _ | exact VLe.fl_sl _ _ | exact VLe.nil_sl _ | exact VLe.nil_fl _ | exact VLes.refl _ | exact .nil | refine VLe.tup ?_ | refine VLe.agg ?_ | refine .cons ?_ ?_ | (rw [Int.natCast_add]; exact VLe.refl _) | exact vle_int (by omega) | exact vle_bool (by first | rfl | assumption | (simp_all; done) | fail) | fail)); done)))); refine bl_ne e0_ ?_; by_cases e1_ : k_ = kf; (focus subst e1_; refine bl_eq ?_; first | (refine ble ?_; (repeat (first | exact uE | assumption | refine uN (by omega) ?_ | refine ovN (by first | assumption | exact hDn _ (by omega)) ?_ | fail)); done) | (refine' blec ?hb ?hl; (case hb => repeat (first | exact uE | assumption | refine uN (by omega) ?_ | refine ovN (by first | assumption | exact hDn _ (by omega)) ?_ | fail)); (case hl => first | exact VLes.refl _ | ((repeat' (first | exact VLe.refl _ | exact VLe.own_sl _ _ _ | exact VLe.fl_sl _ _ | exact VLe.nil_sl _ | exact VLe.nil_fl _ | exact VLes.refl _ | exact .nil | refine VLe.tup ?_ | refine VLe.agg ?_ | refine .cons ?_ ?_ | (rw [Int.natCast_add]; exact VLe.refl _) | exact vle_int (by omega) | exact vle_bool (by first | rfl | assumption | (simp_all; done) | fail) | fail)); done)))); refine bl_ne e1_ ?_; exact ble (by repeat (first | refine uN (by first | assumption | omega) ?_ | refine ovN hD_ ?_ | exact rfl | fail))
          · skip
            have hal_ := al5 (r := r) (o := o) (th := th) (by omega) (by omega) (by omega) (by omega) (by omega)
            have hJm_ := OkJ.fin hJ_ h1m (by rw [hal_]; simp)
            refine rl0 (gn rfl) rfl rfl (step_as rfl rfl) trivial ?_
            refine runsL_nil ?_
            refine runs_cond false (ev_mk rfl) (fun h_ => nomatch h_) (fun _ => ?_)
            refine runs_skip ?_
            refine ⟨by first | exact .inr rfl | exact .inl rfl, fun k_ hk_ => ?_⟩
            cases hD_ : D k_ with
            | true => obtain ⟨ee0_, ee1_, _⟩ := hDE k_ hD_; refine ble (Eq.trans ?_ (ovY hD_ rfl).symm); repeat (first | exact ovYJ hD_ (by omega) | refine uN (by first | assumption | omega) ?_ | exact (hf99 _ (by omega)).trans (ovYJ hD_ (by omega)) | fail)
            | false => refine bl_ov hD_ ?_; simp only [eM, updL, List.map_cons, List.map_nil]; by_cases e0_ : k_ = k2; (focus subst e0_; refine bl_eq ?_; first | (refine ble ?_; (repeat (first | exact uE | assumption | refine uN (by omega) ?_ | refine ovN (by first | assumption | exact hDn _ (by omega)) ?_ | fail)); done) | (refine' blec ?hb ?hl; (case hb => repeat (first | exact uE | assumption | refine uN (by omega) ?_ | refine ovN (by first | assumption | exact hDn _ (by omega)) ?_ | fail)); (case hl => first | exact VLes.refl _ | ((repeat' (first | exact VLe.refl _ | exact VLe.own_sl _ _ _ | exact VLe.fl_sl _ _ | exact VLe.nil_sl _ | exact VLe.nil_fl _ | exact VLes.refl _ | exact .nil | refine VLe.tup ?_ | refine VLe.agg ?_ | refine .cons ?_ ?_ | (rw [Int.natCast_add]; exact VLe.refl _) | exact vle_int (by omega) | exact vle_bool (by first | rfl | assumption | (simp_all; done) | fail) | fail)); done)))); refine bl_ne e0_ ?_; by_cases e1_ : k_ = kf; (focus subst e1_; refine bl_eq ?_; first | (refine ble ?_; (repeat (first | exact uE | assumption | refine uN (by omega) ?_ | refine ovN (by first | assumption | exact hDn _ (by omega)) ?_ | fail)); done) | (refine' blec ?hb ?hl; (case hb => repeat (first | exact uE | assumption | refine uN (by omega) ?_ | refine ovN (by first | assumption | exact hDn _ (by omega)) ?_ | fail)); (case hl => first | exact VLes.refl _ | ((repeat' (first | exact VLe.refl _ | exact VLe.own_sl _ _ _ | exact VLe.fl_sl _ _ | exact VLe.nil_sl _ | exact VLe.nil_fl _ | exact VLes.refl _ | exact .nil | refine VLe.tup ?_ | refine VLe.agg ?_ | refine .cons ?_ ?_ | (rw [Int.natCast_add]; exact VLe.refl _) | exact vle_int (by omega) | exact vle_bool (by first | rfl | assumption | (simp_all; done) | fail) | fail)); done)))); refine bl_ne e1_ ?_; exact ble (by repeat (first | refine uN (by first | assumption | omega) ?_ | refine ovN hD_ ?_ | exact rfl | fail))
set_option maxRecDepth 100000 in
set_option maxHeartbeats 4000000 in
theorem nall_20 (o : Op1) {k2 kf : Nat} (h2f : k2 ≠ kf) : Does Try.prog 9 [.agg (opC o), .sc (.func (.func 20) #[] #[])] [(k2, .dead), (kf, .dead)] [(k2, .cells (opC o)), (kf, .cells [.sc (.func (.func 20) #[] #[])])] (.fn 24 [.ref k2 0, .ref kf 0]) := by
  refine does_mkg 40 Try.func9 rfl rfl rfl (fun n B bx hd hpre hup hvs hbx hgx => ?_)
  have hp0 := hpre.1
  have hz0 := hp0
  have hp1 := hpre.2.1
  have hz1 := hp1
  have hu0 := hup.1
  have hu1 := hup.2.1
  refine runs_seq ?_
  refine runs_region ?_
  refine rl1 (gn rfl) rfl rfl (step_box_agg (k := k2) rfl rfl) ⟨by repeat (first | exact uE | refine uN (by omega) ?_ | assumption | exact hd _ (by omega) | fail), trivial⟩ (by omega) ?_
  refine rl1 (gn rfl) rfl rfl (step_box_one (k := kf) rfl rfl rfl rfl) ⟨by repeat (first | exact uE | refine uN (by omega) ?_ | assumption | exact hd _ (by omega) | fail), trivial⟩ (by omega) ?_
  refine rl0 (gn rfl) rfl rfl (step_as rfl rfl) trivial ?_
  refine runsL_nil ?_
  refine runs_seq ?_
  refine runs_region ?_
  refine rl0 (gn rfl) rfl rfl (step_makeFunc rfl rfl) trivial ?_
  refine rl0 (gn rfl) rfl rfl (step_as rfl rfl) trivial ?_
  refine runsL_nil ?_
  refine runs_ret ?_
  refine ⟨by first | exact .inr rfl | exact .inl rfl, fin_mkg (rest rfl res0) ?_ ?_ ?_ ?_ ?_⟩
  · (repeat' (first | exact VLe.refl _ | exact VLe.own_sl _ _ _ | exact VLe.fl_sl _ _ | exact VLe.nil_sl _ | exact VLe.nil_fl _ | exact VLes.refl _ | exact .nil | refine VLe.tup ?_ | refine VLe.agg ?_ | refine .cons ?_ ?_ | (rw [Int.natCast_add]; exact VLe.refl _) | exact vle_int (by omega) | exact vle_bool (by first | rfl | assumption | (simp_all; done) | fail) | fail))
  · repeat (first | exact trivial | assumption | omega | (refine bdR_map (fun _ => ?_)) | (refine bdL_map (fun _ => ?_)) | refine ⟨?_, ?_⟩ | fail)
  · intro k_ hk_; simp only [upds]; by_cases e_ : k_ = kf; (focus subst e_; refine bl_eq ?_; first | (refine' blec ?hb ?hl; (case hb => repeat (first | exact uE | assumption | refine uN (by omega) ?_ | fail)); (case hl => first | exact VLes.refl _ | ((repeat' (first | exact VLe.refl _ | exact VLe.own_sl _ _ _ | exact VLe.fl_sl _ _ | exact VLe.nil_sl _ | exact VLe.nil_fl _ | exact VLes.refl _ | exact .nil | refine VLe.tup ?_ | refine VLe.agg ?_ | refine .cons ?_ ?_ | (rw [Int.natCast_add]; exact VLe.refl _) | exact vle_int (by omega) | exact vle_bool (by first | rfl | assumption | (simp_all; done) | fail) | fail)); done))) | (refine ble ?_; (repeat (first | exact uE | assumption | refine uN (by omega) ?_ | fail)); done) | exact ble (tl_eq (by repeat (first | exact uE | assumption | refine uN (by omega) ?_ | fail)) (by first | rfl | (simp [bytesV, beB_len]; done) | (simp [bytesV, beB_len]; omega) | omega))); refine bl_ne e_ ?_; by_cases e_ : k_ = k2; (focus subst e_; refine bl_eq ?_; first | (refine' blec ?hb ?hl; (case hb => repeat (first | exact uE | assumption | refine uN (by omega) ?_ | fail)); (case hl => first | exact VLes.refl _ | ((repeat' (first | exact VLe.refl _ | exact VLe.own_sl _ _ _ | exact VLe.fl_sl _ _ | exact VLe.nil_sl _ | exact VLe.nil_fl _ | exact VLes.refl _ | exact .nil | refine VLe.tup ?_ | refine VLe.agg ?_ | refine .cons ?_ ?_ | (rw [Int.natCast_add]; exact VLe.refl _) | exact vle_int (by omega) | exact vle_bool (by first | rfl | assumption | (simp_all; done) | fail) | fail)); done))) | (refine ble ?_; (repeat (first | exact uE | assumption | refine uN (by omega) ?_ | fail)); done) | exact ble (tl_eq (by repeat (first | exact uE | assumption | refine uN (by omega) ?_ | fail)) (by first | rfl | (simp [bytesV, beB_len]; done) | (simp [bytesV, beB_len]; omega) | omega))); refine bl_ne e_ ?_; exact ble (by repeat (first | exact rfl | refine uN (by omega) ?_ | assumption | fail))
  · intro p hp cs hcs; simp only [List.mem_cons, List.not_mem_nil, or_false] at hp; (first | (rcases hp with rfl | rfl) | (rcases hp with rfl)) <;> (first | (cases hcs; done) | (cases hcs; repeat (first | exact trivial | assumption | omega | (refine bdR_map (fun _ => ?_)) | (refine bdL_map (fun _ => ?_)) | refine ⟨?_, ?_⟩ | fail)))
  · repeat (first | exact trivial | assumption | omega | (refine bdR_map (fun _ => ?_)) | (refine bdL_map (fun _ => ?_)) | refine ⟨?_, ?_⟩ | fail)
set_option maxRecDepth 100000 in
set_option maxHeartbeats 4000000 in
theorem next_no_20 (o : Op1) (r : Rc1) (th : Bool) (hr20 : r = ⟨0, o.key, 536870912, 0, ByteArray.empty, false⟩) (ht20 : th = decide (o.key = 5))  (ho : OkO o) (hr : OkR r) (hk : 0 ≤ o.key) (hall : ∀ w ∈ allL o r th, cvF (h21F w.k) w.m = true) : Does Try.prog 12 [.agg (opC o), .sc (.func (.func 21) #[] #[]), .sc (.func (.func 20) #[] #[])] [] [] (.tup [.agg [.sc (.int .i64 0), .sc (.int .u64 0), .sc (.int .i64 0)], .sc (.bool false)]) := by
  refine does_mkr 40 Try.func12 rfl rfl rfl (fun n B bx hd hpre hup hvs hbx hgx hO => ?_)
  refine runs_seq ?_
  refine runs_region ?_
  refine rl1 (gn rfl) rfl rfl (step_box_agg (k := n + 0) rfl rfl) ⟨by repeat (first | exact uE | refine uN (by omega) ?_ | assumption | exact hd _ (by omega) | fail), trivial⟩ (by omega) ?_
  refine rl1 (gn rfl) rfl rfl (step_box_one (k := n + 1) rfl rfl rfl rfl) ⟨by repeat (first | exact uE | refine uN (by omega) ?_ | assumption | exact hd _ (by omega) | fail), trivial⟩ (by omega) ?_
  refine rl1 (gn rfl) rfl rfl (step_allocc (k := n + 2) (zs := [.int .i64 0, .int .u64 0, .int .i64 0]) (cs := [.sc (.int .i64 0), .sc (.int .u64 0), .sc (.int .i64 0)]) rfl F.zero41 (by first | rfl | simp) (by first | rfl | decide | simp) (by first | rfl | simp)) ⟨by repeat (first | exact uE | refine uN (by omega) ?_ | assumption | exact hd _ (by omega) | fail), trivial⟩ (by omega) ?_
  refine rl1 (gn rfl) rfl rfl (step_allocc (k := n + 3) (zs := [.bool false]) (cs := [.sc (.bool false)]) rfl F.zero4 (by first | rfl | simp) (by first | rfl | decide | simp) (by first | rfl | simp)) ⟨by repeat (first | exact uE | refine uN (by omega) ?_ | assumption | exact hd _ (by omega) | fail), trivial⟩ (by omega) ?_
  refine runsL_nil ?_
  refine runs_seq ?_
  refine runs_seq ?_
  refine runs_region ?_
  refine' rl0 (gn rfl) rfl rfl (step_load_one rfl (ev_mk rfl) F.one44 ?hv) ⟨?hb, trivial⟩ ?_
  case hb => repeat (first | exact uE | refine uN (by omega) ?_ | assumption | exact hd _ (by omega) | fail)
  case hv => rfl
  refine rl0 (gn rfl) rfl rfl (step_eq_nilf (b := false) rfl (ev_mk rfl) (ev_mk rfl) Try.underlying44 ⟨_, .inl ⟨.inr ⟨_, _, _, rfl⟩, rfl⟩, .inl ⟨rfl, rfl⟩⟩) trivial ?_
  refine rl0 (gn rfl) rfl rfl (step_mv rfl rfl) trivial ?_
  refine rl0 (gy rfl rfl rfl rfl rfl rfl) rfl rfl (step_mv rfl rfl) trivial ?_
  refine rl0 (gy rfl rfl rfl rfl rfl rfl) rfl rfl (step_eq_nilf (b := false) rfl (ev_mk rfl) (ev_mk rfl) Try.underlying32 ⟨_, .inl ⟨.inr ⟨_, _, _, rfl⟩, rfl⟩, .inl ⟨rfl, rfl⟩⟩) trivial ?_
  refine rl0 (gn rfl) rfl rfl (step_pick rfl (ev_mk rfl) (ev_mk rfl)) trivial ?_
  refine runsL_nil ?_
  refine runs_cond false (ev_mk rfl) (fun h_ => nomatch h_) (fun _ => ?_)
  refine runs_skip ?_
  refine runs_seq ?_
  refine runs_seq ?_
  refine runs_region ?_
  refine' rl0 (gn rfl) rfl rfl (step_load_all rfl rfl F.agg27 ?hl) ⟨?hb, trivial⟩ ?_
  case hb => repeat (first | exact uE | refine uN (by omega) ?_ | assumption | exact hd _ (by omega) | fail)
  case hl => first | rfl | (simp; done) | (first | (simp; done) | (simp; omega) | omega)
  refine rl0 (gn rfl) rfl rfl (step_mv rfl rfl) trivial ?_
  refine rl2 (gn rfl) rfl rfl (step_callc rfl Try.func9 rfl rfl rfl (nall_20 o (k2 := (n + 4)) (kf := (n + 5)) (by omega)) (by repeat (first | exact .nil | refine .cons ?_ ?_ | exact VLe.refl _ | exact VLe.own_sl _ _ _ | exact VLe.fl_sl _ _ | exact VLe.nil_sl _ | exact VLe.nil_fl _ | refine VLe.agg ?_))) ⟨by repeat (first | exact uE | refine uN (by omega) ?_ | assumption | exact hd _ (by omega) | fail), by repeat (first | exact uE | refine uN (by omega) ?_ | assumption | exact hd _ (by omega) | fail), trivial⟩ (by omega) (by omega) ?_
  refine runsL_nil ?_
  refine runs_block ?_
  refine runs_rangeL (f := 24) (caps := [.ref (n + 4) 0, .ref (n + 5) 0]) (xs := (allL o r th).map enW) (Dl := []) (El := [(n + 4, .cells (opC o), fun m_ b_ => .cells (opC o)), (n + 5, .cells [.sc (.func (.func 20) #[] #[])], fun m_ b_ => .cells [.sc (.func (.func 20) #[] #[])])]) (kl := n + 6) (m := (allL o r th).length) (brk := false) (ex := .normal) hO rfl (.inl rfl) Try.func24 rfl rfl (all_20 o r th hr20 ht20 (by omega) ho hr) trivial (by repeat (first | exact uE | refine uN (by omega) ?_ | assumption | exact hd _ (by omega) | fail)) (by omega) (by simp) (fun h_ => nomatch h_) (fun _ => ⟨by simp, rfl⟩) (fun v_ hv_ => by obtain ⟨_, _, rfl⟩ := List.mem_map.1 hv_; rfl) rfl trivial trivial ⟨⟨by dsimp only; omega, by dsimp only; omega, by dsimp only; repeat (first | exact uE | refine uN (by omega) ?_ | assumption | exact hd _ (by omega) | fail)⟩, ⟨by dsimp only; omega, by dsimp only; omega, by dsimp only; repeat (first | exact uE | refine uN (by omega) ?_ | assumption | exact hd _ (by omega) | fail)⟩, trivial⟩ (fun i60 => trivial) ⟨bdb_cells (by repeat (first | exact trivial | assumption | omega | (refine bdR_map (fun _ => ?_)) | (refine bdL_map (fun _ => ?_)) | refine ⟨?_, ?_⟩ | fail)), bdb_cells (by repeat (first | exact trivial | assumption | omega | (refine bdR_map (fun _ => ?_)) | (refine bdL_map (fun _ => ?_)) | refine ⟨?_, ?_⟩ | fail)), trivial⟩ ?_ ?_
  · intro i60 v60 hi60 hv60 B60 n60 lr60 bx60 hR60 hl60 hk60 ho60 he60 hn60 hd60 hD60 hfr60
    have hf60 : ∀ k_, k_ < _ → k_ ≠ n + 4 → k_ ≠ n + 5 → k_ ≠ n + 6 → bx60 k_ = _ := fun k_ a_ e0_ e1_ e2_ => hfr60 k_ a_ ⟨e0_, e1_, trivial⟩ e2_
    have hc60_0 : bx60 (n + 0) = .cells [.sc (.int .i64 o.k), .sc (.int .u64 o.key), .sc (.int .u32 o.x), .sc (.int .u32 o.y), .sc (.string o.v), .sc (.int .u32 o.a), .sc (.int .u32 o.b), .sc (.int .u32 o.c), .sc (.int .u32 o.d), .sc (.int .i64 o.n)] := (hf60 _ (by omega) (by omega) (by omega) (by omega)).trans (by repeat (first | exact uE | refine uN (by omega) ?_ | assumption | exact hd _ (by omega) | fail))
    have hc60_1 : bx60 (n + 1) = .cells [.sc (.func (.func 21) #[] #[])] := (hf60 _ (by omega) (by omega) (by omega) (by omega)).trans (by repeat (first | exact uE | refine uN (by omega) ?_ | assumption | exact hd _ (by omega) | fail))
    have hc60_2 : bx60 (n + 2) = .cells [.sc (.int .i64 0), .sc (.int .u64 0), .sc (.int .i64 0)] := (hf60 _ (by omega) (by omega) (by omega) (by omega)).trans (by repeat (first | exact uE | refine uN (by omega) ?_ | assumption | exact hd _ (by omega) | fail))
    have hc60_3 : bx60 (n + 3) = .cells [.sc (.bool false)] := (hf60 _ (by omega) (by omega) (by omega) (by omega)).trans (by repeat (first | exact uE | refine uN (by omega) ?_ | assumption | exact hd _ (by omega) | fail))
    obtain ⟨t60, ht60, rfl⟩ := map_get hv60
    have hok_ := al_ok ho hr hk (List.mem_of_getElem? ht60)
    refine runs_keep (l' := [(19, .agg [.sc (.int .i64 t60.k), .sc (.int .u64 t60.n), .sc (.int .i64 t60.m)]), (4, .ref (n + 1) 0), (6, .ref (n + 2) 0), (7, .ref (n + 3) 0)]) ?_ ?_
    · (repeat' (first | exact trivial | refine ⟨⟨_, rfl, ?_⟩, ?_⟩ | fail)); all_goals (repeat' (first | exact VLe.refl _ | exact VLe.own_sl _ _ _ | exact VLe.fl_sl _ _ | exact VLe.nil_sl _ | exact VLe.nil_fl _ | exact VLes.refl _ | exact .nil | refine VLe.tup ?_ | refine VLe.agg ?_ | refine .cons ?_ ?_ | (rw [Int.natCast_add]; exact VLe.refl _) | exact vle_int (by omega) | exact vle_bool (by first | rfl | assumption | (simp_all; done) | fail) | fail))
    refine runs_bump 40 ?_
    refine runs_region ?_
    refine rl1 (gn rfl) rfl rfl (step_allocc (k := n60 + 0) (zs := [.int .i64 0, .int .u64 0, .int .i64 0]) (cs := [.sc (.int .i64 0), .sc (.int .u64 0), .sc (.int .i64 0)]) rfl F.zero41 (by first | rfl | simp) (by first | rfl | decide | simp) (by first | rfl | simp)) ⟨by repeat (first | exact uE | refine uN (by omega) ?_ | assumption | exact hd _ (by omega) | exact hd60 _ (by omega) | fail), trivial⟩ (by omega) ?_
    refine' rls (gn rfl) rfl (step_storeA rfl rfl rfl rfl F.agg41 ?hm ?hl) ⟨?hb, trivial⟩ ?hk ?_
    case hb => repeat (first | exact uE | refine uN (by omega) ?_ | assumption | exact hd _ (by omega) | exact hd60 _ (by omega) | fail)
    case hm => first | rfl | (simp; done) | (first | (simp; done) | (simp; omega) | omega)
    case hl => first | rfl | (simp; done) | (first | (simp; done) | (simp; omega) | omega)
    case hk => omega
    refine runsL_nil ?_
    refine ⟨rfl, by repeat (first | exact rfl | refine uN (by omega) ?_ | fail), fun r60 => ?_⟩
    show Runs _ _ _ _ ⟨mk _, _ + _, upd _ _ _⟩ _
    refine runs_block ?_
    refine runs_seq ?_
    refine runs_draw (by kernel_rfl) (by kernel_rfl) (by kernel_rfl) ?_
    refine' dl0 (gn rfl) rfl rfl (step_load_one rfl (ev_mk rfl) F.one44 ?hv) ⟨?hb, trivial⟩ ?_
    case hb => repeat (first | exact uE | refine uN (by omega) ?_ | assumption | exact hd _ (by omega) | exact hd60 _ (by omega) | fail)
    case hv => rfl
    refine dl0 (gn rfl) rfl rfl (step_fieldAddr (off := 0) rfl (ev_mk rfl) Try.underlying41 rfl F.sz39 rfl) trivial ?_
    refine' dl0 (gn rfl) rfl rfl (step_load_agg rfl (ev_mk rfl) F.agg39 ?hc ?hl) ⟨?hb, trivial⟩ ?_
    case hb => repeat (first | exact uE | refine uN (by omega) ?_ | assumption | exact hd _ (by omega) | exact hd60 _ (by omega) | fail)
    case hc => rfl
    case hl => first | rfl | (simp; done) | (first | (simp; done) | (simp; omega) | omega)
    refine dl0 (gn rfl) rfl rfl (step_callfn rfl (ev_mk rfl) (.inr ⟨rfl, rfl⟩) Try.func21 rfl rfl rfl (held_21 t60.k t60.n hok_.1) (by repeat (first | exact .nil | refine .cons ?_ ?_ | exact VLe.refl _ | exact VLe.own_sl _ _ _ | exact VLe.fl_sl _ _ | exact VLe.nil_sl _ | exact VLe.nil_fl _ | refine VLe.agg ?_))) trivial ?_
    refine dl0 (gn rfl) rfl rfl (step_fieldAddr (off := 2) rfl (ev_mk rfl) Try.underlying41 rfl F.sz3 rfl) trivial ?_
    refine' dl0 (gn rfl) rfl rfl (step_load_one rfl (ev_mk rfl) F.one3 ?hv) ⟨?hb, trivial⟩ ?_
    case hb => repeat (first | exact uE | refine uN (by omega) ?_ | assumption | exact hd _ (by omega) | exact hd60 _ (by omega) | fail)
    case hv => rfl
    refine dl0 (gn rfl) rfl rfl (step_callc rfl Try.func33 rfl rfl rfl (cov_c (h21_m6 t60.k) hok_.2.2) (by repeat (first | exact .nil | refine .cons ?_ ?_ | exact VLe.refl _ | exact VLe.own_sl _ _ _ | exact VLe.fl_sl _ _ | exact VLe.nil_sl _ | exact VLe.nil_fl _ | refine VLe.agg ?_))) trivial ?_
    refine dl_know (d := 26) (c := true) rfl (hall t60 (List.mem_of_getElem? ht60)) ?_
    refine dl0 (gn rfl) rfl rfl (step_unOp (c := .bool false) rfl (ev_mk rfl) (fun _ => rfl)) trivial ?_
    refine dlnil ?_ ?_
    · repeat' (first | exact trivial | exact .inr (ap0 _ _ _ _) | exact .inr (ap2 _ _ _ _) | exact .inr (ap3 _ _ _ _) | exact .inr ⟨by first | (simp; done) | (simp; omega), by first | (simp; done) | (simp; omega)⟩ | exact .inl (by kernel_rfl) | refine ⟨?_, ?_⟩ | fail)
    refine runs_cond false (ev_mk rfl) (fun h_ => nomatch h_) (fun _ => ?_)
    refine runs_skip ?_
    refine ⟨by exact (if_neg (fun h_ => nomatch h_.1)).symm, by repeat (first | exact uE | refine uN (by omega) ?_ | assumption | exact hd _ (by omega) | exact hd60 _ (by omega) | fail), fun k_ hk_ hl_ => ?_⟩
    simp only [dL, updL, List.map_cons, List.map_nil]; exact ble (by repeat (first | exact rfl | refine uN (by first | assumption | omega) ?_ | assumption | exact hf60 _ (by omega) (by first | assumption | omega) (by first | assumption | omega) (by first | assumption | omega) | fail))
  · intro bb60 b60 hb60
    simp only [dL, eM, updL, List.map_cons, List.map_nil] at hb60
    subst hb60
    refine runs_seq ?_
    refine runs_region ?_
    refine rl0 (gn rfl) rfl rfl (step_build (ss := [2, 1]) (zs := [.int .i64 0, .int .u64 0, .int .i64 0]) rfl Try.underlying41 (by kernel_rfl) F.zero41 rfl rfl rfl) trivial ?_
    refine' rls (gn rfl) rfl (step_storeA rfl rfl rfl rfl F.agg41 ?hm ?hl) ⟨?hb, trivial⟩ ?hk ?_
    case hb => repeat (first | exact uE | refine uN (by omega) ?_ | assumption | exact hd _ (by omega) | fail)
    case hm => first | rfl | (simp; done) | (first | (simp; done) | (simp; omega) | omega)
    case hl => first | rfl | (simp; done) | (first | (simp; done) | (simp; omega) | omega)
    case hk => omega
    refine' rls (gn rfl) rfl (step_store1 rfl rfl rfl rfl F.one4 rfl rfl ?hl ?hc) ⟨?hb, trivial⟩ ?hk ?_
    case hb => repeat (first | exact uE | refine uN (by omega) ?_ | assumption | exact hd _ (by omega) | fail)
    case hl => first | exact Nat.le_of_ble_eq_true rfl | decide | (simp; done) | (simp; omega) | (first | (simp; done) | (simp; omega) | omega)
    case hc => first | (simp only [List.set_cons_succ, List.set_cons_zero]; rfl) | rfl
    case hk => omega
    refine runsL_nil ?_
    refine runs_ret ?_
    refine ⟨by first | exact .inr rfl | exact .inl rfl, fin_mkg (resc rfl (by repeat (first | exact uE | refine uN (by omega) ?_ | assumption | exact hd _ (by omega) | fail)) F.agg41 (by first | rfl | (simp; done) | (first | (simp; done) | (simp; omega) | omega)) (resc1 rfl (by repeat (first | exact uE | refine uN (by omega) ?_ | assumption | exact hd _ (by omega) | fail)) F.one4 rfl res0)) ?_ ?_ ?_ ?_ ?_⟩
    · (repeat' (first | exact VLe.refl _ | exact VLe.own_sl _ _ _ | exact VLe.fl_sl _ _ | exact VLe.nil_sl _ | exact VLe.nil_fl _ | exact VLes.refl _ | exact .nil | refine VLe.tup ?_ | refine VLe.agg ?_ | refine .cons ?_ ?_ | (rw [Int.natCast_add]; exact VLe.refl _) | exact vle_int (by omega) | exact vle_bool (by first | rfl | assumption | (simp_all; done) | fail) | fail))
    · repeat (first | exact trivial | assumption | omega | (refine bdR_map (fun _ => ?_)) | (refine bdL_map (fun _ => ?_)) | refine ⟨?_, ?_⟩ | fail)
    · intro k_ hk_; exact ble (by repeat (first | exact rfl | refine uN (by omega) ?_ | assumption | fail))
    · intro p hp; cases hp
    · repeat (first | exact trivial | assumption | omega | (refine bdR_map (fun _ => ?_)) | (refine bdL_map (fun _ => ?_)) | refine ⟨?_, ?_⟩ | fail)
set_option maxRecDepth 100000 in
set_option maxHeartbeats 4000000 in
theorem next_yes_20 (o : Op1) (r : Rc1) (th : Bool) (hr20 : r = ⟨0, o.key, 536870912, 0, ByteArray.empty, false⟩) (ht20 : th = decide (o.key = 5))  (ho : OkO o) (hr : OkR r) (hk : 0 ≤ o.key) {i : Nat} {w : Wt} (hw : (allL o r th)[i]? = some w) (hlo : ∀ j w', j < i → (allL o r th)[j]? = some w' → cvF (h21F w'.k) w'.m = true) (hno : cvF (h21F w.k) w.m = false) : Does Try.prog 12 [.agg (opC o), .sc (.func (.func 21) #[] #[]), .sc (.func (.func 20) #[] #[])] [] [] (.tup [.agg (wC w), .sc (.bool true)]) := by
  refine does_mkr 40 Try.func12 rfl rfl rfl (fun n B bx hd hpre hup hvs hbx hgx hO => ?_)
  refine runs_seq ?_
  refine runs_region ?_
  refine rl1 (gn rfl) rfl rfl (step_box_agg (k := n + 0) rfl rfl) ⟨by repeat (first | exact uE | refine uN (by omega) ?_ | assumption | exact hd _ (by omega) | fail), trivial⟩ (by omega) ?_
  refine rl1 (gn rfl) rfl rfl (step_box_one (k := n + 1) rfl rfl rfl rfl) ⟨by repeat (first | exact uE | refine uN (by omega) ?_ | assumption | exact hd _ (by omega) | fail), trivial⟩ (by omega) ?_
  refine rl1 (gn rfl) rfl rfl (step_allocc (k := n + 2) (zs := [.int .i64 0, .int .u64 0, .int .i64 0]) (cs := [.sc (.int .i64 0), .sc (.int .u64 0), .sc (.int .i64 0)]) rfl F.zero41 (by first | rfl | simp) (by first | rfl | decide | simp) (by first | rfl | simp)) ⟨by repeat (first | exact uE | refine uN (by omega) ?_ | assumption | exact hd _ (by omega) | fail), trivial⟩ (by omega) ?_
  refine rl1 (gn rfl) rfl rfl (step_allocc (k := n + 3) (zs := [.bool false]) (cs := [.sc (.bool false)]) rfl F.zero4 (by first | rfl | simp) (by first | rfl | decide | simp) (by first | rfl | simp)) ⟨by repeat (first | exact uE | refine uN (by omega) ?_ | assumption | exact hd _ (by omega) | fail), trivial⟩ (by omega) ?_
  refine runsL_nil ?_
  refine runs_seq ?_
  refine runs_seq ?_
  refine runs_region ?_
  refine' rl0 (gn rfl) rfl rfl (step_load_one rfl (ev_mk rfl) F.one44 ?hv) ⟨?hb, trivial⟩ ?_
  case hb => repeat (first | exact uE | refine uN (by omega) ?_ | assumption | exact hd _ (by omega) | fail)
  case hv => rfl
  refine rl0 (gn rfl) rfl rfl (step_eq_nilf (b := false) rfl (ev_mk rfl) (ev_mk rfl) Try.underlying44 ⟨_, .inl ⟨.inr ⟨_, _, _, rfl⟩, rfl⟩, .inl ⟨rfl, rfl⟩⟩) trivial ?_
  refine rl0 (gn rfl) rfl rfl (step_mv rfl rfl) trivial ?_
  refine rl0 (gy rfl rfl rfl rfl rfl rfl) rfl rfl (step_mv rfl rfl) trivial ?_
  refine rl0 (gy rfl rfl rfl rfl rfl rfl) rfl rfl (step_eq_nilf (b := false) rfl (ev_mk rfl) (ev_mk rfl) Try.underlying32 ⟨_, .inl ⟨.inr ⟨_, _, _, rfl⟩, rfl⟩, .inl ⟨rfl, rfl⟩⟩) trivial ?_
  refine rl0 (gn rfl) rfl rfl (step_pick rfl (ev_mk rfl) (ev_mk rfl)) trivial ?_
  refine runsL_nil ?_
  refine runs_cond false (ev_mk rfl) (fun h_ => nomatch h_) (fun _ => ?_)
  refine runs_skip ?_
  refine runs_seq ?_
  refine runs_seq ?_
  refine runs_region ?_
  refine' rl0 (gn rfl) rfl rfl (step_load_all rfl rfl F.agg27 ?hl) ⟨?hb, trivial⟩ ?_
  case hb => repeat (first | exact uE | refine uN (by omega) ?_ | assumption | exact hd _ (by omega) | fail)
  case hl => first | rfl | (simp; done) | (first | (simp; done) | (simp; omega) | omega)
  refine rl0 (gn rfl) rfl rfl (step_mv rfl rfl) trivial ?_
  refine rl2 (gn rfl) rfl rfl (step_callc rfl Try.func9 rfl rfl rfl (nall_20 o (k2 := (n + 4)) (kf := (n + 5)) (by omega)) (by repeat (first | exact .nil | refine .cons ?_ ?_ | exact VLe.refl _ | exact VLe.own_sl _ _ _ | exact VLe.fl_sl _ _ | exact VLe.nil_sl _ | exact VLe.nil_fl _ | refine VLe.agg ?_))) ⟨by repeat (first | exact uE | refine uN (by omega) ?_ | assumption | exact hd _ (by omega) | fail), by repeat (first | exact uE | refine uN (by omega) ?_ | assumption | exact hd _ (by omega) | fail), trivial⟩ (by omega) (by omega) ?_
  refine runsL_nil ?_
  refine runs_block ?_
  refine runs_rangeL (f := 24) (caps := [.ref (n + 4) 0, .ref (n + 5) 0]) (xs := (allL o r th).map enW) (Dl := [(n + 2, fun i60 => .cells (pkW i i60 w)), (n + 3, fun i60 => .cells [.sc (.bool (pkB i i60))])]) (El := [(n + 4, .cells (opC o), fun m_ b_ => .cells (opC o)), (n + 5, .cells [.sc (.func (.func 20) #[] #[])], fun m_ b_ => .cells [.sc (.func (.func 20) #[] #[])])]) (kl := n + 6) (m := i + 1) (brk := true) (ex := .ret) hO rfl (.inl rfl) Try.func24 rfl rfl (all_20 o r th hr20 ht20 (by omega) ho hr) trivial (by repeat (first | exact uE | refine uN (by omega) ?_ | assumption | exact hd _ (by omega) | fail)) (by omega) (by have := (List.getElem?_eq_some_iff.1 hw).1; simp; omega) (fun _ => ⟨by omega, _, rfl⟩) (fun h_ => nomatch h_) (fun v_ hv_ => by obtain ⟨_, _, rfl⟩ := List.mem_map.1 hv_; rfl) rfl ⟨⟨by dsimp only; omega, trivial⟩, ⟨trivial, trivial⟩⟩ ⟨⟨by dsimp only; omega, by dsimp only; omega, ⟨by dsimp only; omega, by dsimp only; omega, trivial⟩, by dsimp only; (first | ((repeat (first | exact uE | assumption | refine uN (by omega) ?_ | fail)); done) | (refine Eq.trans (b := .cells [.sc (.int .i64 0), .sc (.int .u64 0), .sc (.int .i64 0)]) (by repeat (first | exact uE | assumption | refine uN (by omega) ?_ | fail)) ?_; first | rfl | (simp; done)))⟩, ⟨by dsimp only; omega, by dsimp only; omega, ⟨by dsimp only; omega, by dsimp only; omega, trivial⟩, by dsimp only; (first | ((repeat (first | exact uE | assumption | refine uN (by omega) ?_ | fail)); done) | (refine Eq.trans (b := .cells [.sc (.bool false)]) (by repeat (first | exact uE | assumption | refine uN (by omega) ?_ | fail)) ?_; first | rfl | (simp; done)))⟩, trivial⟩ ⟨⟨by dsimp only; omega, by dsimp only; omega, by dsimp only; repeat (first | exact uE | refine uN (by omega) ?_ | assumption | exact hd _ (by omega) | fail)⟩, ⟨by dsimp only; omega, by dsimp only; omega, by dsimp only; repeat (first | exact uE | refine uN (by omega) ?_ | assumption | exact hd _ (by omega) | fail)⟩, trivial⟩ (fun i60 => ⟨bdb_cells (by first | (exact pkW_bd; done) | (repeat (first | exact trivial | assumption | omega | (refine bdR_map (fun _ => ?_)) | (refine bdL_map (fun _ => ?_)) | refine ⟨?_, ?_⟩ | fail))), bdb_cells (by first | (exact pkW_bd; done) | (repeat (first | exact trivial | assumption | omega | (refine bdR_map (fun _ => ?_)) | (refine bdL_map (fun _ => ?_)) | refine ⟨?_, ?_⟩ | fail))), trivial⟩) ⟨bdb_cells (by first | (exact pkW_bd; done) | (repeat (first | exact trivial | assumption | omega | (refine bdR_map (fun _ => ?_)) | (refine bdL_map (fun _ => ?_)) | refine ⟨?_, ?_⟩ | fail))), bdb_cells (by first | (exact pkW_bd; done) | (repeat (first | exact trivial | assumption | omega | (refine bdR_map (fun _ => ?_)) | (refine bdL_map (fun _ => ?_)) | refine ⟨?_, ?_⟩ | fail))), trivial⟩ ?_ ?_
  · intro i60 v60 hi60 hv60 B60 n60 lr60 bx60 hR60 hl60 hk60 ho60 he60 hn60 hd60 hD60 hfr60
    have hf60 : ∀ k_, k_ < _ → k_ ≠ n + 2 → k_ ≠ n + 3 → k_ ≠ n + 4 → k_ ≠ n + 5 → k_ ≠ n + 6 → bx60 k_ = _ := fun k_ a_ e0_ e1_ e2_ e3_ e4_ => hfr60 k_ a_ ⟨e0_, e1_, e2_, e3_, trivial⟩ e4_
    have hb60_0 : bx60 (n + 2) = .cells (pkW i i60 w) := hD60.1
    have hb60_1 : bx60 (n + 3) = .cells [.sc (.bool (pkB i i60))] := hD60.2.1
    have hc60_0 : bx60 (n + 0) = .cells [.sc (.int .i64 o.k), .sc (.int .u64 o.key), .sc (.int .u32 o.x), .sc (.int .u32 o.y), .sc (.string o.v), .sc (.int .u32 o.a), .sc (.int .u32 o.b), .sc (.int .u32 o.c), .sc (.int .u32 o.d), .sc (.int .i64 o.n)] := (hf60 _ (by omega) (by omega) (by omega) (by omega) (by omega) (by omega)).trans (by repeat (first | exact uE | refine uN (by omega) ?_ | assumption | exact hd _ (by omega) | fail))
    have hc60_1 : bx60 (n + 1) = .cells [.sc (.func (.func 21) #[] #[])] := (hf60 _ (by omega) (by omega) (by omega) (by omega) (by omega) (by omega)).trans (by repeat (first | exact uE | refine uN (by omega) ?_ | assumption | exact hd _ (by omega) | fail))
    obtain ⟨t60, ht60, rfl⟩ := map_get hv60
    have hok_ := al_ok ho hr hk (List.mem_of_getElem? ht60)
    refine runs_keep (l' := [(19, .agg [.sc (.int .i64 t60.k), .sc (.int .u64 t60.n), .sc (.int .i64 t60.m)]), (4, .ref (n + 1) 0), (6, .ref (n + 2) 0), (7, .ref (n + 3) 0)]) ?_ ?_
    · (repeat' (first | exact trivial | refine ⟨⟨_, rfl, ?_⟩, ?_⟩ | fail)); all_goals (repeat' (first | exact VLe.refl _ | exact VLe.own_sl _ _ _ | exact VLe.fl_sl _ _ | exact VLe.nil_sl _ | exact VLe.nil_fl _ | exact VLes.refl _ | exact .nil | refine VLe.tup ?_ | refine VLe.agg ?_ | refine .cons ?_ ?_ | (rw [Int.natCast_add]; exact VLe.refl _) | exact vle_int (by omega) | exact vle_bool (by first | rfl | assumption | (simp_all; done) | fail) | fail))
    refine runs_bump 40 ?_
    have hpk0_ := pkW_lo (i := i) (j := i60) (w := w) (by omega)
    have hpb0_ := pkB_lo (i := i) (j := i60) (by omega)
    rw [hpk0_] at hb60_0
    rw [hpb0_] at hb60_1
    refine runs_region ?_
    refine rl1 (gn rfl) rfl rfl (step_allocc (k := n60 + 0) (zs := [.int .i64 0, .int .u64 0, .int .i64 0]) (cs := [.sc (.int .i64 0), .sc (.int .u64 0), .sc (.int .i64 0)]) rfl F.zero41 (by first | rfl | simp) (by first | rfl | decide | simp) (by first | rfl | simp)) ⟨by repeat (first | exact uE | refine uN (by omega) ?_ | assumption | exact hd _ (by omega) | exact hd60 _ (by omega) | fail), trivial⟩ (by omega) ?_
    refine' rls (gn rfl) rfl (step_storeA rfl rfl rfl rfl F.agg41 ?hm ?hl) ⟨?hb, trivial⟩ ?hk ?_
    case hb => repeat (first | exact uE | refine uN (by omega) ?_ | assumption | exact hd _ (by omega) | exact hd60 _ (by omega) | fail)
    case hm => first | rfl | (simp; done) | (first | (simp; done) | (simp; omega) | omega)
    case hl => first | rfl | (simp; done) | (first | (simp; done) | (simp; omega) | omega)
    case hk => omega
    refine runsL_nil ?_
    refine ⟨rfl, by repeat (first | exact rfl | refine uN (by omega) ?_ | fail), fun r60 => ?_⟩
    show Runs _ _ _ _ ⟨mk _, _ + _, upd _ _ _⟩ _
    refine runs_block ?_
    refine runs_seq ?_
    refine runs_draw (by kernel_rfl) (by kernel_rfl) (by kernel_rfl) ?_
    rcases Nat.lt_or_ge i60 i with hcs_ | hcs_
    · skip
      have hcv_ := hlo i60 t60 hcs_ ht60
      refine' dl0 (gn rfl) rfl rfl (step_load_one rfl (ev_mk rfl) F.one44 ?hv) ⟨?hb, trivial⟩ ?_
      case hb => repeat (first | exact uE | refine uN (by omega) ?_ | assumption | exact hd _ (by omega) | exact hd60 _ (by omega) | fail)
      case hv => rfl
      refine dl0 (gn rfl) rfl rfl (step_fieldAddr (off := 0) rfl (ev_mk rfl) Try.underlying41 rfl F.sz39 rfl) trivial ?_
      refine' dl0 (gn rfl) rfl rfl (step_load_agg rfl (ev_mk rfl) F.agg39 ?hc ?hl) ⟨?hb, trivial⟩ ?_
      case hb => repeat (first | exact uE | refine uN (by omega) ?_ | assumption | exact hd _ (by omega) | exact hd60 _ (by omega) | fail)
      case hc => rfl
      case hl => first | rfl | (simp; done) | (first | (simp; done) | (simp; omega) | omega)
      refine dl0 (gn rfl) rfl rfl (step_callfn rfl (ev_mk rfl) (.inr ⟨rfl, rfl⟩) Try.func21 rfl rfl rfl (held_21 t60.k t60.n hok_.1) (by repeat (first | exact .nil | refine .cons ?_ ?_ | exact VLe.refl _ | exact VLe.own_sl _ _ _ | exact VLe.fl_sl _ _ | exact VLe.nil_sl _ | exact VLe.nil_fl _ | refine VLe.agg ?_))) trivial ?_
      refine dl0 (gn rfl) rfl rfl (step_fieldAddr (off := 2) rfl (ev_mk rfl) Try.underlying41 rfl F.sz3 rfl) trivial ?_
      refine' dl0 (gn rfl) rfl rfl (step_load_one rfl (ev_mk rfl) F.one3 ?hv) ⟨?hb, trivial⟩ ?_
      case hb => repeat (first | exact uE | refine uN (by omega) ?_ | assumption | exact hd _ (by omega) | exact hd60 _ (by omega) | fail)
      case hv => rfl
      refine dl0 (gn rfl) rfl rfl (step_callc rfl Try.func33 rfl rfl rfl (cov_c (h21_m6 t60.k) hok_.2.2) (by repeat (first | exact .nil | refine .cons ?_ ?_ | exact VLe.refl _ | exact VLe.own_sl _ _ _ | exact VLe.fl_sl _ _ | exact VLe.nil_sl _ | exact VLe.nil_fl _ | refine VLe.agg ?_))) trivial ?_
      refine dl_know (d := 26) (c := true) rfl (hcv_) ?_
      refine dl0 (gn rfl) rfl rfl (step_unOp (c := .bool false) rfl (ev_mk rfl) (fun _ => rfl)) trivial ?_
      refine dlnil ?_ ?_
      · repeat' (first | exact trivial | exact .inr (ap0 _ _ _ _) | exact .inr (ap2 _ _ _ _) | exact .inr (ap3 _ _ _ _) | exact .inr ⟨by first | (simp; done) | (simp; omega), by first | (simp; done) | (simp; omega)⟩ | exact .inl (by kernel_rfl) | refine ⟨?_, ?_⟩ | fail)
      refine runs_cond false (ev_mk rfl) (fun h_ => nomatch h_) (fun _ => ?_)
      refine runs_skip ?_
      have hpk1_ := pkW_lo (i := i) (j := i60 + 1) (w := w) (by omega)
      have hpb1_ := pkB_lo (i := i) (j := i60 + 1) (by omega)
      refine ⟨by first | exact (if_pos ⟨by assumption, by omega⟩).symm | exact (if_neg (fun h_ => by omega)).symm, by repeat (first | exact uE | refine uN (by omega) ?_ | assumption | exact hd _ (by omega) | exact hd60 _ (by omega) | fail), fun k_ hk_ hl_ => ?_⟩
      simp only [dL, updL, List.map_cons, List.map_nil]; by_cases e0_ : k_ = (n + 2); (focus subst e0_; refine bl_eq ?_; first | (refine' blec ?hb ?hl; (case hb => repeat (first | exact uE | assumption | refine uN (by omega) ?_ | fail)); (case hl => first | exact VLes.refl _ | ((repeat' (first | exact VLe.refl _ | exact VLe.own_sl _ _ _ | exact VLe.fl_sl _ _ | exact VLe.nil_sl _ | exact VLe.nil_fl _ | exact VLes.refl _ | exact .nil | refine VLe.tup ?_ | refine VLe.agg ?_ | refine .cons ?_ ?_ | (rw [Int.natCast_add]; exact VLe.refl _) | exact vle_int (by omega) | exact vle_bool (by first | rfl | assumption | (simp_all; done) | fail) | fail)); done))) | (refine ble ?_; (repeat (first | exact uE | assumption | refine uN (by omega) ?_ | fail)); done) | ((rw [hpk1_]; refine ble ?_; first | ((repeat (first | exact uE | assumption | refine uN (by omega) ?_ | fail)); done) | (rw [← htw_]; (repeat (first | exact uE | assumption | refine uN (by omega) ?_ | fail)); done))) | ((rw [hpb1_]; refine ble ?_; (repeat (first | exact uE | assumption | refine uN (by omega) ?_ | fail)); done))); refine bl_ne e0_ ?_; by_cases e1_ : k_ = (n + 3); (focus subst e1_; refine bl_eq ?_; first | (refine' blec ?hb ?hl; (case hb => repeat (first | exact uE | assumption | refine uN (by omega) ?_ | fail)); (case hl => first | exact VLes.refl _ | ((repeat' (first | exact VLe.refl _ | exact VLe.own_sl _ _ _ | exact VLe.fl_sl _ _ | exact VLe.nil_sl _ | exact VLe.nil_fl _ | exact VLes.refl _ | exact .nil | refine VLe.tup ?_ | refine VLe.agg ?_ | refine .cons ?_ ?_ | (rw [Int.natCast_add]; exact VLe.refl _) | exact vle_int (by omega) | exact vle_bool (by first | rfl | assumption | (simp_all; done) | fail) | fail)); done))) | (refine ble ?_; (repeat (first | exact uE | assumption | refine uN (by omega) ?_ | fail)); done) | ((rw [hpk1_]; refine ble ?_; first | ((repeat (first | exact uE | assumption | refine uN (by omega) ?_ | fail)); done) | (rw [← htw_]; (repeat (first | exact uE | assumption | refine uN (by omega) ?_ | fail)); done))) | ((rw [hpb1_]; refine ble ?_; (repeat (first | exact uE | assumption | refine uN (by omega) ?_ | fail)); done))); refine bl_ne e1_ ?_; exact ble (by repeat (first | exact rfl | refine uN (by first | assumption | omega) ?_ | assumption | exact hf60 _ (by omega) (by first | assumption | omega) (by first | assumption | omega) (by first | assumption | omega) (by first | assumption | omega) (by first | assumption | omega) | fail))
    · skip
      have hei_ : i60 = i := by omega
      have htw_ : t60 = w := by rw [hei_] at ht60; exact Option.some.inj (ht60.symm.trans hw)
      have hcv_ : cvF (h21F t60.k) t60.m = false := by rw [htw_]; exact hno
      refine' dl0 (gn rfl) rfl rfl (step_load_one rfl (ev_mk rfl) F.one44 ?hv) ⟨?hb, trivial⟩ ?_
      case hb => repeat (first | exact uE | refine uN (by omega) ?_ | assumption | exact hd _ (by omega) | exact hd60 _ (by omega) | fail)
      case hv => rfl
      refine dl0 (gn rfl) rfl rfl (step_fieldAddr (off := 0) rfl (ev_mk rfl) Try.underlying41 rfl F.sz39 rfl) trivial ?_
      refine' dl0 (gn rfl) rfl rfl (step_load_agg rfl (ev_mk rfl) F.agg39 ?hc ?hl) ⟨?hb, trivial⟩ ?_
      case hb => repeat (first | exact uE | refine uN (by omega) ?_ | assumption | exact hd _ (by omega) | exact hd60 _ (by omega) | fail)
      case hc => rfl
      case hl => first | rfl | (simp; done) | (first | (simp; done) | (simp; omega) | omega)
      refine dl0 (gn rfl) rfl rfl (step_callfn rfl (ev_mk rfl) (.inr ⟨rfl, rfl⟩) Try.func21 rfl rfl rfl (held_21 t60.k t60.n hok_.1) (by repeat (first | exact .nil | refine .cons ?_ ?_ | exact VLe.refl _ | exact VLe.own_sl _ _ _ | exact VLe.fl_sl _ _ | exact VLe.nil_sl _ | exact VLe.nil_fl _ | refine VLe.agg ?_))) trivial ?_
      refine dl0 (gn rfl) rfl rfl (step_fieldAddr (off := 2) rfl (ev_mk rfl) Try.underlying41 rfl F.sz3 rfl) trivial ?_
      refine' dl0 (gn rfl) rfl rfl (step_load_one rfl (ev_mk rfl) F.one3 ?hv) ⟨?hb, trivial⟩ ?_
      case hb => repeat (first | exact uE | refine uN (by omega) ?_ | assumption | exact hd _ (by omega) | exact hd60 _ (by omega) | fail)
      case hv => rfl
      refine dl0 (gn rfl) rfl rfl (step_callc rfl Try.func33 rfl rfl rfl (cov_c (h21_m6 t60.k) hok_.2.2) (by repeat (first | exact .nil | refine .cons ?_ ?_ | exact VLe.refl _ | exact VLe.own_sl _ _ _ | exact VLe.fl_sl _ _ | exact VLe.nil_sl _ | exact VLe.nil_fl _ | refine VLe.agg ?_))) trivial ?_
      refine dl_know (d := 26) (c := false) rfl (hcv_) ?_
      refine dl0 (gn rfl) rfl rfl (step_unOp (c := .bool true) rfl (ev_mk rfl) (fun _ => rfl)) trivial ?_
      refine dlnil ?_ ?_
      · repeat' (first | exact trivial | exact .inr (ap0 _ _ _ _) | exact .inr (ap2 _ _ _ _) | exact .inr (ap3 _ _ _ _) | exact .inr ⟨by first | (simp; done) | (simp; omega), by first | (simp; done) | (simp; omega)⟩ | exact .inl (by kernel_rfl) | refine ⟨?_, ?_⟩ | fail)
      refine runs_cond true (ev_mk rfl) (fun _ => ?_) (fun h_ => nomatch h_)
      refine runs_seq ?_
      refine runs_region ?_
      refine' rl0 (gn rfl) rfl rfl (step_load_all rfl rfl F.agg41 ?hl) ⟨?hb, trivial⟩ ?_
      case hb => repeat (first | exact uE | refine uN (by omega) ?_ | assumption | exact hd _ (by omega) | exact hd60 _ (by omega) | fail)
      case hl => first | rfl | (simp; done) | (first | (simp; done) | (simp; omega) | omega)
      refine' rls (gn rfl) rfl (step_storeA rfl rfl rfl rfl F.agg41 ?hm ?hl) ⟨?hb, trivial⟩ ?hk ?_
      case hb => repeat (first | exact uE | refine uN (by omega) ?_ | assumption | exact hd _ (by omega) | exact hd60 _ (by omega) | fail)
      case hm => first | rfl | (simp; done) | (first | (simp; done) | (simp; omega) | omega)
      case hl => first | rfl | (simp; done) | (first | (simp; done) | (simp; omega) | omega)
      case hk => omega
      refine' rls (gn rfl) rfl (step_store1 rfl rfl rfl rfl F.one4 rfl rfl ?hl ?hc) ⟨?hb, trivial⟩ ?hk ?_
      case hb => repeat (first | exact uE | refine uN (by omega) ?_ | assumption | exact hd _ (by omega) | exact hd60 _ (by omega) | fail)
      case hl => first | exact Nat.le_of_ble_eq_true rfl | decide | (simp; done) | (simp; omega) | (first | (simp; done) | (simp; omega) | omega)
      case hc => first | (simp only [List.set_cons_succ, List.set_cons_zero]; rfl) | rfl
      case hk => omega
      refine runsL_nil ?_
      refine runs_ret ?_
      have hpk1_ := pkW_hi (i := i) (j := i60 + 1) (w := w) (by omega)
      have hpb1_ := pkB_hi (i := i) (j := i60 + 1) (by omega)
      refine ⟨by first | exact (if_pos ⟨by assumption, by omega⟩).symm | exact (if_neg (fun h_ => by omega)).symm, by repeat (first | exact uE | refine uN (by omega) ?_ | assumption | exact hd _ (by omega) | exact hd60 _ (by omega) | fail), fun k_ hk_ hl_ => ?_⟩
      simp only [dL, updL, List.map_cons, List.map_nil]; by_cases e0_ : k_ = (n + 2); (focus subst e0_; refine bl_eq ?_; first | (refine' blec ?hb ?hl; (case hb => repeat (first | exact uE | assumption | refine uN (by omega) ?_ | fail)); (case hl => first | exact VLes.refl _ | ((repeat' (first | exact VLe.refl _ | exact VLe.own_sl _ _ _ | exact VLe.fl_sl _ _ | exact VLe.nil_sl _ | exact VLe.nil_fl _ | exact VLes.refl _ | exact .nil | refine VLe.tup ?_ | refine VLe.agg ?_ | refine .cons ?_ ?_ | (rw [Int.natCast_add]; exact VLe.refl _) | exact vle_int (by omega) | exact vle_bool (by first | rfl | assumption | (simp_all; done) | fail) | fail)); done))) | (refine ble ?_; (repeat (first | exact uE | assumption | refine uN (by omega) ?_ | fail)); done) | ((rw [hpk1_]; refine ble ?_; first | ((repeat (first | exact uE | assumption | refine uN (by omega) ?_ | fail)); done) | (rw [← htw_]; (repeat (first | exact uE | assumption | refine uN (by omega) ?_ | fail)); done))) | ((rw [hpb1_]; refine ble ?_; (repeat (first | exact uE | assumption | refine uN (by omega) ?_ | fail)); done))); refine bl_ne e0_ ?_; by_cases e1_ : k_ = (n + 3); (focus subst e1_; refine bl_eq ?_; first | (refine' blec ?hb ?hl; (case hb => repeat (first | exact uE | assumption | refine uN (by omega) ?_ | fail)); (case hl => first | exact VLes.refl _ | ((repeat' (first | exact VLe.refl _ | exact VLe.own_sl _ _ _ | exact VLe.fl_sl _ _ | exact VLe.nil_sl _ | exact VLe.nil_fl _ | exact VLes.refl _ | exact .nil | refine VLe.tup ?_ | refine VLe.agg ?_ | refine .cons ?_ ?_ | (rw [Int.natCast_add]; exact VLe.refl _) | exact vle_int (by omega) | exact vle_bool (by first | rfl | assumption | (simp_all; done) | fail) | fail)); done))) | (refine ble ?_; (repeat (first | exact uE | assumption | refine uN (by omega) ?_ | fail)); done) | ((rw [hpk1_]; refine ble ?_; first | ((repeat (first | exact uE | assumption | refine uN (by omega) ?_ | fail)); done) | (rw [← htw_]; (repeat (first | exact uE | assumption | refine uN (by omega) ?_ | fail)); done))) | ((rw [hpb1_]; refine ble ?_; (repeat (first | exact uE | assumption | refine uN (by omega) ?_ | fail)); done))); refine bl_ne e1_ ?_; exact ble (by repeat (first | exact rfl | refine uN (by first | assumption | omega) ?_ | assumption | exact hf60 _ (by omega) (by first | assumption | omega) (by first | assumption | omega) (by first | assumption | omega) (by first | assumption | omega) (by first | assumption | omega) | fail))
  · intro bb60 b60 hb60
    simp only [dL, eM, updL, List.map_cons, List.map_nil] at hb60
    subst hb60
    rw [pkW_hi (i := i) (j := i + 1) (w := w) rfl, pkB_hi (i := i) (j := i + 1) rfl]
    refine ⟨by first | exact .inr rfl | exact .inl rfl, fin_mkg (resc rfl (by repeat (first | exact uE | refine uN (by omega) ?_ | assumption | exact hd _ (by omega) | fail)) F.agg41 (by first | rfl | (simp; done) | (first | (simp; done) | (simp; omega) | omega)) (resc1 rfl (by repeat (first | exact uE | refine uN (by omega) ?_ | assumption | exact hd _ (by omega) | fail)) F.one4 rfl res0)) ?_ ?_ ?_ ?_ ?_⟩
    · (repeat' (first | exact VLe.refl _ | exact VLe.own_sl _ _ _ | exact VLe.fl_sl _ _ | exact VLe.nil_sl _ | exact VLe.nil_fl _ | exact VLes.refl _ | exact .nil | refine VLe.tup ?_ | refine VLe.agg ?_ | refine .cons ?_ ?_ | (rw [Int.natCast_add]; exact VLe.refl _) | exact vle_int (by omega) | exact vle_bool (by first | rfl | assumption | (simp_all; done) | fail) | fail))
    · first | (exact pkW_bd; done) | (repeat (first | exact trivial | assumption | omega | (refine bdR_map (fun _ => ?_)) | (refine bdL_map (fun _ => ?_)) | refine ⟨?_, ?_⟩ | fail))
    · intro k_ hk_; exact ble (by repeat (first | exact rfl | refine uN (by omega) ?_ | assumption | fail))
    · intro p hp; cases hp
    · first | (exact pkW_bd; done) | (repeat (first | exact trivial | assumption | omega | (refine bdR_map (fun _ => ?_)) | (refine bdL_map (fun _ => ?_)) | refine ⟨?_, ?_⟩ | fail))
end Go.Proofs.Ythpkhecialkmmaa

