/- Walks by the logic of values. -/
import Derived.Test.YtmlhekadnplpcaaKgVa
import Derived.Test.YtmlhekadnplpcaaKgVb
import Derived.Test.YtmlhekadnplpcaaKgVc
import Derived.Test.YtmlhekadnplpcaaKgVh
import Derived.Test.YtmlhekadnplpcaaKgVi
import Derived.Test.YtmlhekadnplpcaaKgVk
import Derived.Test.YtmlhekadnplpcaaKgVmT
import Derived.Test.YtmlhekadnplpcaaKgVmP
import Derived.Test.YtmlhekadnplpcaaKgVmV
import Derived.Test.YtmlhekadnplpcaaKgVa
namespace Go.Proofs.Ytmlhekadnplpcaa
open Go.Vm
set_option linter.unusedVariables false
set_option linter.unusedSimpArgs false
theorem shape23 : shapeOf Try.prog 3 23 = some [CK.i .i64, CK.i .i64, CK.i .i64, CK.i .i64] := by kernel_rfl
theorem eqg23 : Try.prog.eqGuardType Try.prog.depth 23 = false := by kernel_rfl
def bxV (a b c d : Int) : List Value := [.int .i64 a, .int .i64 b, .int .i64 c, .int .i64 d]
theorem step_eql23 {o : Oper} {t : Nat → V} {x y : Operand} {a b c d e f p q : Int} {ty2 : TypeId} (ho : o.op = .binOp .eql 23 x y ty2) (hx : ev t x = .agg (bxB a b c d)) (hy : ev t y = .agg (bxB e f p q)) : StepOK Try.prog o t [] [] (.sc (.bool (eqCs (bxV a b c d) (bxV e f p q)))) :=
  step_eq_agg (xs := bxV a b c d) (ys := bxV e f p q) ho hx hy shape23 (by omega) ⟨_, Try.underlying23, rfl⟩ eqg23 rfl rfl (.inl ⟨rfl, rfl⟩)
def wP : Pt := ⟨1, 2, 3, 4⟩
def wG : List Int := padP (pgP 0 [wP] 1)
theorem wP_ok : ∀ p ∈ [wP], okPt p := fun p hp => by
  obtain rfl : p = wP := by simpa using hp
  unfold okPt U32 U64 wP; simp
theorem wG_ok : Byts wG ∧ wG.length = 224 := by
  refine ⟨fun x hx => ?_, by decide +kernel⟩
  have h : (wG.all fun x => decide (0 ≤ x ∧ x < 256)) = true := by decide +kernel
  exact of_decide_eq_true (List.all_eq_true.1 h x hx)
theorem w_put : putL [7] [wP] [(7 : Int)].length = [(7, wG)] := by decide +kernel
theorem w_get : getG (fun _ => wG) (fun w_ => decide (w_ = 7)) 7 7 [] [] = some ([7], [wP]) := by decide +kernel
theorem w_get2 : getG (fun _ => List.replicate 224 0) (fun _ => true) 7 7 [] [] = none := by decide +kernel
theorem halves_w : Does Try.prog 16 [.agg (bxB 0 1 3 2)] [] [] (.tup [.agg (bxB 0 1 1 2), .agg (bxB 1 1 3 2), .sc (.bool true)]) := halves_c 0 1 3 2 (by omega)
theorem join_w : Does Try.prog 13 [.agg (bxB 0 1 1 2), .agg (bxB 1 1 3 2)] [] [] (.tup [.agg (bxB 0 1 3 2), .sc (.bool true)]) := by
  have h := join_c 0 1 1 2 1 1 3 2
  rw [show joF 0 1 1 2 1 1 3 2 = true by decide +kernel] at h
  exact h
theorem add_w1 : Does Try.prog 21 [.agg (rgC 0 1 3 2 [7] []), .agg (ptC wP)] [] [] (.tup [.agg (rgC 0 1 3 2 [7] [wP]), .sc (.int .i64 0)]) := by
  have h := add_c 0 1 3 2 [7] [] (by simp) (by simp) wP (kk := 0)
  rw [show adL [(7 : Int)].length [] wP = [wP] by decide +kernel, show adC [(7 : Int)].length [] wP = 0 by decide +kernel] at h
  exact h
theorem add_w2 : Does Try.prog 21 [.agg (rgC 0 1 3 2 [7] [wP]), .agg (ptC wP)] [] [] (.tup [.agg (rgC 0 1 3 2 [7] [wP]), .sc (.int .i64 8)]) := by
  have h := add_c 0 1 3 2 [7] [wP] (by simp) (by simp) wP (kk := 0)
  rw [show adL [(7 : Int)].length [wP] wP = [wP] by decide +kernel, show adC [(7 : Int)].length [wP] wP = 8 by decide +kernel] at h
  exact h
theorem put_w : Does Try.prog 25 [.agg (rgC 0 1 3 2 [7] [wP])] [] [] (.sl 225 ([((7 : Int), wG)].map imR)) := by
  have h := put_c 0 1 3 2 [7] [wP] (by simp) (by simp) wP_ok
  rw [w_put] at h
  exact h
theorem drop_w : Does Try.prog 19 [.agg (rgC 0 1 3 2 [7] [wP]), .agg (ptC wP)] [] [] (.tup [.agg (rgC 0 1 3 2 [7] []), .sc (.bool true)]) := by
  have h := drop_c 0 1 3 2 [7] [wP] (by simp) (by simp) wP
  rw [show drL [wP] wP = [] by decide +kernel, show decide (wP ∈ [wP]) = true by decide +kernel] at h
  exact h
set_option maxRecDepth 100000 in
set_option maxHeartbeats 4000000 in
theorem at31 (w_ : Int) (kk : Nat) (q : Int × List Int) (hq : q.2.length = 224) : Does Try.prog 31 [.sc (.int .i64 w_), .ref kk 0] [(kk, .cells [.sl 225 ([q].map imR)])] [] (.tup [.agg (q.2.map bV), .sc (.bool (decide (w_ = 7)))]) := by
  refine does_mkg 40 Try.func31 rfl rfl rfl (fun n B bx hd hpre hup hvs hbx hgx => ?_)
  have hp0 := hpre.1
  have hk0 := lt_cells hd hp0
  refine runs_seq ?_
  refine runs_region ?_
  refine rl1 (gn rfl) rfl rfl (step_allocc (k := n + 0) (zs := (List.replicate 224 (.int .u8 0))) (cs := List.replicate 224 (.sc (.int .u8 0))) rfl F.zero62 (by first | rfl | simp) (by first | rfl | decide | simp) (by first | rfl | simp)) ⟨by repeat (first | exact uE | refine uN (by omega) ?_ | assumption | exact hd _ (by omega) | fail), trivial⟩ (by omega) ?_
  refine rl0 (gn rfl) rfl rfl (step_as rfl rfl) trivial ?_
  refine runsL_nil ?_
  refine runs_seq ?_
  refine runs_region ?_
  refine' rl0 (gn rfl) rfl rfl (step_load_one rfl (ev_mk rfl) F.one60 ?hv) ⟨?hb, trivial⟩ ?_
  case hb => repeat (first | exact uE | refine uN (by omega) ?_ | assumption | exact hd _ (by omega) | fail)
  case hv => rfl
  refine' rl0 (gn rfl) rfl rfl (step_index rfl (ev_mk rfl) (.inl rfl) (ev_mk rfl) Try.underlying60 F.sz64 (by first | omega | (simp; done)) ?hr) trivial ?_
  case hr => exact map_at _ _ _ (by first | omega | (simp; done)) (by first | omega | (simp; done))
  refine rl0 (gn rfl) rfl rfl (step_fieldAddr_ro (off := 1) rfl (ev_mk rfl) Try.underlying64 rfl F.sz62 rfl rfl) trivial ?_
  refine rl0 (gn rfl) rfl rfl (step_load_ro_all rfl rfl F.agg62 (by first | rfl | (simp; done) | (first | (simp; done) | (show (q.2.map bV).length = 224; rw [List.length_map]; exact hq)))) trivial ?_
  refine rl0 (gn rfl) rfl rfl (step_mv rfl rfl) trivial ?_
  refine rl_eql (gn rfl) rfl rfl rfl rfl rfl (fun h1 => ?_) (fun h1 => ?_)
  · skip
    refine' rls (gn rfl) rfl (step_storeA rfl rfl rfl rfl F.agg62 ?hm ?hl) ⟨?hb, trivial⟩ ?hk ?_
    case hb => repeat (first | exact uE | refine uN (by omega) ?_ | assumption | exact hd _ (by omega) | fail)
    case hm => first | rfl | (simp; done) | (first | (simp; done) | (show (q.2.map bV).length = 224; rw [List.length_map]; exact hq))
    case hl => first | rfl | (simp; done) | (first | (simp; done) | (show (q.2.map bV).length = 224; rw [List.length_map]; exact hq))
    case hk => omega
    refine rl0 (gn rfl) rfl rfl (step_as rfl rfl) trivial ?_
    refine runsL_nil ?_
    refine runs_ret ?_
    refine ⟨by first | exact .inr rfl | exact .inl rfl, fin_mkg (resc rfl (by repeat (first | exact uE | refine uN (by omega) ?_ | assumption | exact hd _ (by omega) | fail)) F.agg62 (by first | rfl | (simp; done) | (first | (simp; done) | (show (q.2.map bV).length = 224; rw [List.length_map]; exact hq))) (rest rfl res0)) ?_ ?_ ?_ ?_ ?_⟩
    · (repeat' (first | exact VLe.refl _ | exact VLe.own_sl _ _ _ | exact VLe.fl_sl _ _ | exact VLe.nil_sl _ | exact VLe.nil_fl _ | exact VLes.refl _ | exact .nil | refine VLe.tup ?_ | refine VLe.agg ?_ | refine .cons ?_ ?_ | (rw [Int.natCast_add]; exact VLe.refl _) | exact vle_int (by omega) | exact vle_bool (by first | rfl | assumption | (simp_all; done) | fail) | (exact vle_bool (by simp_all)) | fail))
    · repeat (first | exact trivial | assumption | omega | (refine bdR_map (fun _ => ?_)) | (refine bdL_map (fun _ => ?_)) | refine ⟨?_, ?_⟩ | fail)
    · intro k_ hk_; exact ble (by repeat (first | exact rfl | refine uN (by omega) ?_ | assumption | fail))
    · intro p hp; cases hp
    · repeat (first | exact trivial | assumption | omega | (refine bdR_map (fun _ => ?_)) | (refine bdL_map (fun _ => ?_)) | refine ⟨?_, ?_⟩ | fail)
  · skip
    refine' rls (gn rfl) rfl (step_storeA rfl rfl rfl rfl F.agg62 ?hm ?hl) ⟨?hb, trivial⟩ ?hk ?_
    case hb => repeat (first | exact uE | refine uN (by omega) ?_ | assumption | exact hd _ (by omega) | fail)
    case hm => first | rfl | (simp; done) | (first | (simp; done) | (show (q.2.map bV).length = 224; rw [List.length_map]; exact hq))
    case hl => first | rfl | (simp; done) | (first | (simp; done) | (show (q.2.map bV).length = 224; rw [List.length_map]; exact hq))
    case hk => omega
    refine rl0 (gn rfl) rfl rfl (step_as rfl rfl) trivial ?_
    refine runsL_nil ?_
    refine runs_ret ?_
    refine ⟨by first | exact .inr rfl | exact .inl rfl, fin_mkg (resc rfl (by repeat (first | exact uE | refine uN (by omega) ?_ | assumption | exact hd _ (by omega) | fail)) F.agg62 (by first | rfl | (simp; done) | (first | (simp; done) | (show (q.2.map bV).length = 224; rw [List.length_map]; exact hq))) (rest rfl res0)) ?_ ?_ ?_ ?_ ?_⟩
    · (repeat' (first | exact VLe.refl _ | exact VLe.own_sl _ _ _ | exact VLe.fl_sl _ _ | exact VLe.nil_sl _ | exact VLe.nil_fl _ | exact VLes.refl _ | exact .nil | refine VLe.tup ?_ | refine VLe.agg ?_ | refine .cons ?_ ?_ | (rw [Int.natCast_add]; exact VLe.refl _) | exact vle_int (by omega) | exact vle_bool (by first | rfl | assumption | (simp_all; done) | fail) | (exact vle_bool (by simp_all)) | fail))
    · repeat (first | exact trivial | assumption | omega | (refine bdR_map (fun _ => ?_)) | (refine bdL_map (fun _ => ?_)) | refine ⟨?_, ?_⟩ | fail)
    · intro k_ hk_; exact ble (by repeat (first | exact rfl | refine uN (by omega) ?_ | assumption | fail))
    · intro p hp; cases hp
    · repeat (first | exact trivial | assumption | omega | (refine bdR_map (fun _ => ?_)) | (refine bdL_map (fun _ => ?_)) | refine ⟨?_, ?_⟩ | fail)
set_option maxRecDepth 100000 in
set_option maxHeartbeats 4000000 in
theorem at32 (w_ : Int) : Does Try.prog 32 [.sc (.int .i64 w_)] [] [] (.tup [.agg ((List.replicate 224 (0 : Int)).map bV), .sc (.bool true)]) := by
  refine does_mkg 40 Try.func32 rfl rfl rfl (fun n B bx hd hpre hup hvs hbx hgx => ?_)
  refine runs_seq ?_
  refine runs_region ?_
  refine rl1 (gn rfl) rfl rfl (step_allocc (k := n + 0) (zs := (List.replicate 224 (.int .u8 0))) (cs := List.replicate 224 (.sc (.int .u8 0))) rfl F.zero62 (by first | rfl | simp) (by first | rfl | decide | simp) (by first | rfl | simp)) ⟨by repeat (first | exact uE | refine uN (by omega) ?_ | assumption | exact hd _ (by omega) | fail), trivial⟩ (by omega) ?_
  refine rl0 (gn rfl) rfl rfl (step_as rfl rfl) trivial ?_
  refine runsL_nil ?_
  refine runs_seq ?_
  refine runs_region ?_
  refine rl0 (gn rfl) rfl rfl (step_build_zero rfl rfl Try.underlying62 F.sz5 F.zero62 rfl) trivial ?_
  refine' rls (gn rfl) rfl (step_storeA rfl rfl rfl rfl F.agg62 ?hm ?hl) ⟨?hb, trivial⟩ ?hk ?_
  case hb => repeat (first | exact uE | refine uN (by omega) ?_ | assumption | exact hd _ (by omega) | fail)
  case hm => first | rfl | (simp; done) | (first | (simp; done) | (simp; omega) | omega)
  case hl => first | rfl | (simp; done) | (first | (simp; done) | (simp; omega) | omega)
  case hk => omega
  refine rl0 (gn rfl) rfl rfl (step_as rfl rfl) trivial ?_
  refine runsL_nil ?_
  refine runs_ret ?_
  refine ⟨by first | exact .inr rfl | exact .inl rfl, fin_mkg (resc rfl (by repeat (first | exact uE | refine uN (by omega) ?_ | assumption | exact hd _ (by omega) | fail)) F.agg62 (by first | rfl | (simp; done) | (first | (simp; done) | (simp; omega) | omega)) (rest rfl res0)) ?_ ?_ ?_ ?_ ?_⟩
  · (repeat' (first | exact VLe.refl _ | exact VLe.own_sl _ _ _ | exact VLe.fl_sl _ _ | exact VLe.nil_sl _ | exact VLe.nil_fl _ | exact VLes.refl _ | exact .nil | refine VLe.tup ?_ | refine VLe.agg ?_ | refine .cons ?_ ?_ | (rw [Int.natCast_add]; exact VLe.refl _) | exact vle_int (by omega) | exact vle_bool (by first | rfl | assumption | (simp_all; done) | fail) | ((rw [List.map_replicate]; exact VLe.refl _)) | fail))
  · repeat (first | exact trivial | assumption | omega | (refine bdR_map (fun _ => ?_)) | (refine bdL_map (fun _ => ?_)) | refine ⟨?_, ?_⟩ | fail)
  · intro k_ hk_; exact ble (by repeat (first | exact rfl | refine uN (by omega) ?_ | assumption | fail))
  · intro p hp; cases hp
  · repeat (first | exact trivial | assumption | omega | (refine bdR_map (fun _ => ?_)) | (refine bdL_map (fun _ => ?_)) | refine ⟨?_, ?_⟩ | fail)
end Go.Proofs.Ytmlhekadnplpcaa
