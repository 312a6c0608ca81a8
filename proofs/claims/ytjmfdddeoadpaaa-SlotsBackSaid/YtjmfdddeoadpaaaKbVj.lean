/- Walks by the logic of values. -/
import Derived.Test.YtjmfdddeoadpaaaKbVmT
import Derived.Test.YtjmfdddeoadpaaaKbVmP
import Derived.Test.YtjmfdddeoadpaaaKbVmX
import Derived.Test.YtjmfdddeoadpaaaKbVmW
import Derived.Test.YtjmfdddeoadpaaaKbVmV
import Derived.Test.YtjmfdddeoadpaaaKbVa
import Derived.Test.YtjmfdddeoadpaaaKbVb
import Derived.Test.YtjmfdddeoadpaaaKbVc
import Derived.Test.YtjmfdddeoadpaaaKbVd
import Derived.Test.YtjmfdddeoadpaaaKbVe
import Derived.Test.YtjmfdddeoadpaaaKbVf
import Derived.Test.YtjmfdddeoadpaaaKbVg
import Derived.Test.YtjmfdddeoadpaaaKbVh
namespace Go.Proofs.Ytjmfdddeoadpaaa
open Go.Vm
set_option linter.unusedVariables false
set_option linter.unusedSimpArgs false
attribute [local irreducible] pgC
theorem oc_ab (f : Pf) : (ocL f (f 0)).length = ((ab f).filter fun s => s.is).length := by
  unfold ab ocL
  rw [List.filter_map, List.length_map]
  congr 1
  refine List.filter_congr fun i _ => ?_
  show decide (0 < sA f i) = (sl f i).is
  exact sl_is.symm
def bA : List Int := [97, 98]
def bB : List Int := [99, 100, 101]
def bX : List Int := [120, 121, 122]
def bL : List Int := [108, 111, 110, 103, 101, 114]
theorem b_ok : Byts bA ∧ Byts bB ∧ Byts bX ∧ Byts bL := by
  refine ⟨?_, ?_, ?_, ?_⟩
  all_goals
    intro x hx
    simp only [bA, bB, bX, bL, List.mem_cons, List.not_mem_nil, or_false] at hx
    omega
def w1 : Pf := addP newF bA
def w2 : Pf := addP w1 bB
def w3 : Pf := dropP w2 0
def w4 : Pf := addP w3 bX
def w5 : Pf := putP w4 1 bL
theorem w1_ok : Snd w1 ∧ ab w1 = [⟨true, bA⟩] := by
  have h := add_rel new_snd b_ok.1
  rw [new_ab] at h
  exact ⟨h.1, h.2.1.trans (by decide +kernel)⟩
theorem w2_ok : Snd w2 ∧ ab w2 = [⟨true, bA⟩, ⟨true, bB⟩] := by
  have h := add_rel w1_ok.1 b_ok.2.1
  rw [w1_ok.2] at h
  exact ⟨h.1, h.2.1.trans (by decide +kernel)⟩
theorem w3_ok : Snd w3 ∧ ab w3 = [⟨false, []⟩, ⟨true, bB⟩] := by
  have h := drop_rel (i := 0) w2_ok.1
  rw [w2_ok.2] at h
  exact ⟨h.1, h.2.trans (by decide +kernel)⟩
theorem w4_ok : Snd w4 ∧ ab w4 = [⟨true, bX⟩, ⟨true, bB⟩] := by
  have h := add_rel w3_ok.1 b_ok.2.2.1
  rw [w3_ok.2] at h
  exact ⟨h.1, h.2.1.trans (by decide +kernel)⟩
theorem w5_ok : Snd w5 ∧ ab w5 = [⟨true, bX⟩, ⟨true, bL⟩] := by
  have h := put_rel (i := 1) w4_ok.1 b_ok.2.2.2
  rw [w4_ok.2] at h
  exact ⟨h.1, h.2.1.trans (by decide +kernel)⟩
theorem add_w1 : Does Try.prog 17 [.agg (pgC newF), .sl 1 (bytesV bA)] [] [] (.tup [.agg (pgC w1), .sc (.int .i64 0), .sc (.int .i64 0)]) := by
  have h := add_c newF new_snd bA b_ok.1 (by decide)
  have r := add_rel new_snd b_ok.1
  rw [r.2.2.1, r.2.2.2, new_ab, show addRI [] bA = 0 by decide +kernel, show addRC [] bA = 0 by decide +kernel] at h
  exact h
theorem add_w2 : Does Try.prog 17 [.agg (pgC w1), .sl 1 (bytesV bB)] [] [] (.tup [.agg (pgC w2), .sc (.int .i64 1), .sc (.int .i64 0)]) := by
  have h := add_c w1 w1_ok.1 bB b_ok.2.1 (by decide)
  have r := add_rel w1_ok.1 b_ok.2.1
  rw [r.2.2.1, r.2.2.2, w1_ok.2, show addRI [⟨true, bA⟩] bB = 1 by decide +kernel, show addRC [⟨true, bA⟩] bB = 0 by decide +kernel] at h
  exact h
theorem drop_w : Does Try.prog 18 [.agg (pgC w2), .sc (.int .i64 0)] [] [] (.tup [.agg (pgC w3), .sc (.bool true)]) := by
  have h := drop_c w2 w2_ok.1 0
  rw [← has_gt, w2_ok.2, show hasR [⟨true, bA⟩, ⟨true, bB⟩] 0 = true by decide +kernel] at h
  exact h
theorem add_w4 : Does Try.prog 17 [.agg (pgC w3), .sl 1 (bytesV bX)] [] [] (.tup [.agg (pgC w4), .sc (.int .i64 0), .sc (.int .i64 0)]) := by
  have h := add_c w3 w3_ok.1 bX b_ok.2.2.1 (by decide)
  have r := add_rel w3_ok.1 b_ok.2.2.1
  rw [r.2.2.1, r.2.2.2, w3_ok.2, show addRI [⟨false, []⟩, ⟨true, bB⟩] bX = 0 by decide +kernel, show addRC [⟨false, []⟩, ⟨true, bB⟩] bX = 0 by decide +kernel] at h
  exact h
theorem put_w : Does Try.prog 19 [.agg (pgC w4), .sc (.int .i64 1), .sl 1 (bytesV bL)] [] [] (.tup [.agg (pgC w5), .sc (.int .i64 0)]) := by
  have h := put_c w4 w4_ok.1 1 bL b_ok.2.2.2 (by decide)
  have r := put_rel (i := 1) w4_ok.1 b_ok.2.2.2
  rw [r.2.2, w4_ok.2, show putRC [⟨true, bX⟩, ⟨true, bB⟩] 1 bL = 0 by decide +kernel] at h
  exact h
theorem w5_len : w5 0 = 2 := by rw [← ab_len w5, w5_ok.2]; rfl
theorem get_w5 : Does Try.prog 15 [.agg (pgC w5), .sc (.int .i64 1)] [] [] (.tup [.sl 1 (bytesV bL), .sc (.bool true)]) := by
  have h := get_i w5 w5_ok.1 1 (by rw [w5_len]; omega)
  rw [← at_ab (by rw [w5_len]; omega), w5_ok.2] at h
  exact h
theorem get_w4 : Does Try.prog 15 [.agg (pgC w4), .sc (.int .i64 2)] [] [] (.tup [.sl 1 [], .sc (.bool false)]) := by
  have h := get_c w4 w4_ok.1 2
  have q := gt_no (f := w4) (i := 2) (.inl (by rw [← ab_len w4, w4_ok.2]; decide))
  rw [q.1, q.2] at h
  exact h
theorem oc_w5 : (ocL w5 (w5 0)).length = 2 := by rw [oc_ab, w5_ok.2]; rfl
theorem of_w5 : Does Try.prog 11 [.agg (pgC w5)] [] [] (.tup [.agg (pgC w5), .sc (.bool true)]) := by
  have h := of_c w5 w5_ok.1.b
  have q := (snd_iff w5_ok.1.b).2 w5_ok.1
  rw [show ofP w5 = w5 from if_pos q, q] at h
  exact h
theorem len_w5 : Does Try.prog 13 [.agg (pgC w5)] [] [] (.sc (.int .i64 2)) := by
  have h := len_c w5 w5_ok.1.b
  rw [w5_len] at h
  exact h
def w40 : Pf := upN (fun _ => 0) 0 40
theorem w40_b (k : Nat) : w40 k < 256 := by show (if k = 0 then 40 else 0) < 256; split <;> omega
theorem of_w40 : Does Try.prog 11 [.agg (pgC w40)] [] [] (.tup [.agg (pgC newF), .sc (.bool false)]) := by
  have h := of_c w40 w40_b
  have q := snd_f0 (f := w40) (by show ¬ (40 ≤ 32 ∧ _); omega)
  rw [show ofP w40 = newF from if_neg (by rw [← q]; simp), ← q] at h
  exact h
theorem room_w2 : Does Try.prog 21 [.agg (pgC w2)] [] [] (.sc (.int .i64 211)) := by
  have h := room_c w2 w2_ok.1
  rw [w2_ok.2, show roomR [⟨true, bA⟩, ⟨true, bB⟩] = 211 by decide +kernel] at h
  exact h
theorem room_w0 : Does Try.prog 21 [.agg (pgC newF)] [] [] (.sc (.int .i64 220)) := by
  have h := room_c newF new_snd
  rw [new_ab, show roomR [] = 220 by decide +kernel] at h
  exact h
theorem sound_w : Does Try.prog 12 [.agg (pgC (pk w5))] [] [] (.sc (.bool true)) := by
  have q := pack_ w5_ok.1
  have h := sound_c (pk w5) q.1.b
  rw [(snd_iff q.1.b).2 q.1] at h
  exact h
theorem w40_fill : fillV (fun i => some (i * 1, 1)) ((List.replicate 224 (Value.int .u8 0)).map V.sc) [(0, V.sc (.int .u8 40))] = some (pgC w40) := by
  have h2 : ((List.replicate 224 (Value.int .u8 0)).map V.sc).length = 224 := by rw [List.length_map, List.length_replicate]
  have e1 : setSeg ((List.replicate 224 (Value.int .u8 0)).map V.sc) 0 [V.sc (.int .u8 40)] = pgC w40 := by
    rw [setSeg_one (by omega), List.map_replicate]
    have := zer_new
    rw [this]
    exact pg_set (v := 40) rfl
  simp only [fillV, V.cs, V.stor, Nat.zero_mul]
  rw [if_pos ⟨rfl, by omega, by first | rfl | trivial⟩, e1]
theorem str_w : bS bL = ({ data := #[108, 111, 110, 103, 101, 114] } : ByteArray) := by decide +kernel
set_option maxRecDepth 100000 in
set_option maxHeartbeats 4000000 in
theorem works_c  : Does Try.prog 7 [] [] [] (.sc (.bool true)) := by
  refine does_mkr 40 Try.func7 rfl rfl rfl (fun n B bx hd hpre hup hvs hbx hgx hO => ?_)
  have hoc_ := oc_w5
  refine runs_seq ?_
  refine runs_region ?_
  refine rl0 (gn rfl) rfl rfl (step_as rfl rfl) trivial ?_
  refine runsL_nil ?_
  refine runs_seq ?_
  refine runs_region ?_
  refine rl0 (gn rfl) rfl rfl (step_callc rfl Try.func8 rfl rfl rfl (new_c) (by repeat (first | exact .nil | refine .cons ?_ ?_ | exact VLe.refl _ | exact VLe.own_sl _ _ _ | exact VLe.fl_sl _ _ | exact VLe.nil_sl _ | exact vle_int (by omega)))) trivial ?_
  refine rl1 (gn rfl) rfl rfl (step_allocc (k := n + 0) (zs := (List.replicate 224 (.int .u8 0))) (cs := List.replicate 224 (.sc (.int .u8 0))) rfl F.zero27 (by first | rfl | simp) (by first | rfl | decide | simp) (by first | rfl | simp)) ⟨by repeat (first | exact uE | refine uN (by omega) ?_ | assumption | exact hd _ (by omega) | fail), trivial⟩ (by omega) ?_
  refine' rls (gn rfl) rfl (step_storeA rfl rfl rfl rfl F.agg27 ?hm ?hl) ⟨?hb, trivial⟩ ?hk ?_
  case hb => repeat (first | exact uE | refine uN (by omega) ?_ | assumption | exact hd _ (by omega) | fail)
  case hm => first | rfl | (simp; done) | (first | exact pgC_len _ | (simp; done) | (rw [pgC_len]; omega) | omega)
  case hl => first | rfl | (simp; done) | (first | exact pgC_len _ | (simp; done) | (rw [pgC_len]; omega) | omega)
  case hk => omega
  refine runsL_nil ?_
  refine runs_seq ?_
  refine runs_region ?_
  refine' rl0 (gn rfl) rfl rfl (step_load_all rfl rfl F.agg27 ?hl) ⟨?hb, trivial⟩ ?_
  case hb => repeat (first | exact uE | refine uN (by omega) ?_ | assumption | exact hd _ (by omega) | fail)
  case hl => first | rfl | (simp; done) | (first | exact pgC_len _ | (simp; done) | (rw [pgC_len]; omega) | omega)
  refine rl_litb (zs := List.replicate 2 (.int .u8 0)) rfl rfl rfl rfl rfl rfl rfl rfl Try.underlying32 Try.underlying5 F.sz5 F.zero5 (by first | rfl | kernel_rfl) rfl (by decide) rfl rfl ?_
  refine rl0 (gn rfl) rfl rfl (step_callc rfl Try.func17 rfl rfl rfl (add_w1) (by repeat (first | exact .nil | refine .cons ?_ ?_ | exact VLe.refl _ | exact VLe.own_sl _ _ _ | exact VLe.fl_sl _ _ | exact VLe.nil_sl _ | exact vle_int (by omega)))) trivial ?_
  refine rl0 (gn rfl) rfl rfl (step_mv rfl rfl) trivial ?_
  refine rl0 (gn rfl) rfl rfl (step_extract rfl (ev_mk rfl) rfl) trivial ?_
  refine rl0 (gn rfl) rfl rfl (step_extract rfl (ev_mk rfl) rfl) trivial ?_
  refine rl0 (gn rfl) rfl rfl (step_extract rfl (ev_mk rfl) rfl) trivial ?_
  refine' rls (gn rfl) rfl (step_storeA rfl rfl rfl rfl F.agg27 ?hm ?hl) ⟨?hb, trivial⟩ ?hk ?_
  case hb => repeat (first | exact uE | refine uN (by omega) ?_ | assumption | exact hd _ (by omega) | fail)
  case hm => first | rfl | (simp; done) | (first | exact pgC_len _ | (simp; done) | (rw [pgC_len]; omega) | omega)
  case hl => first | rfl | (simp; done) | (first | exact pgC_len _ | (simp; done) | (rw [pgC_len]; omega) | omega)
  case hk => omega
  refine rl0 (gn rfl) rfl rfl (step_as rfl rfl) trivial ?_
  refine rl0 (gn rfl) rfl rfl (step_as rfl rfl) trivial ?_
  refine runsL_nil ?_
  refine runs_seq ?_
  refine runs_region ?_
  refine' rl0 (gn rfl) rfl rfl (step_load_all rfl rfl F.agg27 ?hl) ⟨?hb, trivial⟩ ?_
  case hb => repeat (first | exact uE | refine uN (by omega) ?_ | assumption | exact hd _ (by omega) | fail)
  case hl => first | rfl | (simp; done) | (first | exact pgC_len _ | (simp; done) | (rw [pgC_len]; omega) | omega)
  refine rl_litb (zs := List.replicate 3 (.int .u8 0)) rfl rfl rfl rfl rfl rfl rfl rfl Try.underlying32 Try.underlying5 F.sz5 F.zero5 (by first | rfl | kernel_rfl) rfl (by decide) rfl rfl ?_
  refine rl0 (gn rfl) rfl rfl (step_callc rfl Try.func17 rfl rfl rfl (add_w2) (by repeat (first | exact .nil | refine .cons ?_ ?_ | exact VLe.refl _ | exact VLe.own_sl _ _ _ | exact VLe.fl_sl _ _ | exact VLe.nil_sl _ | exact vle_int (by omega)))) trivial ?_
  refine rl0 (gn rfl) rfl rfl (step_mv rfl rfl) trivial ?_
  refine rl0 (gn rfl) rfl rfl (step_extract rfl (ev_mk rfl) rfl) trivial ?_
  refine rl0 (gn rfl) rfl rfl (step_extract rfl (ev_mk rfl) rfl) trivial ?_
  refine rl0 (gn rfl) rfl rfl (step_extract rfl (ev_mk rfl) rfl) trivial ?_
  refine' rls (gn rfl) rfl (step_storeA rfl rfl rfl rfl F.agg27 ?hm ?hl) ⟨?hb, trivial⟩ ?hk ?_
  case hb => repeat (first | exact uE | refine uN (by omega) ?_ | assumption | exact hd _ (by omega) | fail)
  case hm => first | rfl | (simp; done) | (first | exact pgC_len _ | (simp; done) | (rw [pgC_len]; omega) | omega)
  case hl => first | rfl | (simp; done) | (first | exact pgC_len _ | (simp; done) | (rw [pgC_len]; omega) | omega)
  case hk => omega
  refine rl0 (gn rfl) rfl rfl (step_as rfl rfl) trivial ?_
  refine rl0 (gn rfl) rfl rfl (step_as rfl rfl) trivial ?_
  refine runsL_nil ?_
  refine runs_seq ?_
  refine runs_region ?_
  refine' rl0 (gn rfl) rfl rfl (step_load_all rfl rfl F.agg27 ?hl) ⟨?hb, trivial⟩ ?_
  case hb => repeat (first | exact uE | refine uN (by omega) ?_ | assumption | exact hd _ (by omega) | fail)
  case hl => first | rfl | (simp; done) | (first | exact pgC_len _ | (simp; done) | (rw [pgC_len]; omega) | omega)
  refine rl0 (gn rfl) rfl rfl (step_callc rfl Try.func18 rfl rfl rfl (drop_w) (by repeat (first | exact .nil | refine .cons ?_ ?_ | exact VLe.refl _ | exact VLe.own_sl _ _ _ | exact VLe.fl_sl _ _ | exact VLe.nil_sl _ | exact vle_int (by omega)))) trivial ?_
  refine rl0 (gn rfl) rfl rfl (step_mv rfl rfl) trivial ?_
  refine rl0 (gn rfl) rfl rfl (step_extract rfl (ev_mk rfl) rfl) trivial ?_
  refine rl0 (gn rfl) rfl rfl (step_extract rfl (ev_mk rfl) rfl) trivial ?_
  refine rl1 (gn rfl) rfl rfl (step_allocc (k := n + 1) (zs := (List.replicate 224 (.int .u8 0))) (cs := List.replicate 224 (.sc (.int .u8 0))) rfl F.zero27 (by first | rfl | simp) (by first | rfl | decide | simp) (by first | rfl | simp)) ⟨by repeat (first | exact uE | refine uN (by omega) ?_ | assumption | exact hd _ (by omega) | fail), trivial⟩ (by omega) ?_
  refine' rls (gn rfl) rfl (step_storeA rfl rfl rfl rfl F.agg27 ?hm ?hl) ⟨?hb, trivial⟩ ?hk ?_
  case hb => repeat (first | exact uE | refine uN (by omega) ?_ | assumption | exact hd _ (by omega) | fail)
  case hm => first | rfl | (simp; done) | (first | exact pgC_len _ | (simp; done) | (rw [pgC_len]; omega) | omega)
  case hl => first | rfl | (simp; done) | (first | exact pgC_len _ | (simp; done) | (rw [pgC_len]; omega) | omega)
  case hk => omega
  refine rl0 (gn rfl) rfl rfl (step_as rfl rfl) trivial ?_
  refine runsL_nil ?_
  refine runs_seq ?_
  refine runs_region ?_
  refine' rl0 (gn rfl) rfl rfl (step_load_all rfl rfl F.agg27 ?hl) ⟨?hb, trivial⟩ ?_
  case hb => repeat (first | exact uE | refine uN (by omega) ?_ | assumption | exact hd _ (by omega) | fail)
  case hl => first | rfl | (simp; done) | (first | exact pgC_len _ | (simp; done) | (rw [pgC_len]; omega) | omega)
  refine rl_litb (zs := List.replicate 3 (.int .u8 0)) rfl rfl rfl rfl rfl rfl rfl rfl Try.underlying32 Try.underlying5 F.sz5 F.zero5 (by first | rfl | kernel_rfl) rfl (by decide) rfl rfl ?_
  refine rl0 (gn rfl) rfl rfl (step_callc rfl Try.func17 rfl rfl rfl (add_w4) (by repeat (first | exact .nil | refine .cons ?_ ?_ | exact VLe.refl _ | exact VLe.own_sl _ _ _ | exact VLe.fl_sl _ _ | exact VLe.nil_sl _ | exact vle_int (by omega)))) trivial ?_
  refine rl0 (gn rfl) rfl rfl (step_mv rfl rfl) trivial ?_
  refine rl0 (gn rfl) rfl rfl (step_extract rfl (ev_mk rfl) rfl) trivial ?_
  refine rl0 (gn rfl) rfl rfl (step_extract rfl (ev_mk rfl) rfl) trivial ?_
  refine rl0 (gn rfl) rfl rfl (step_extract rfl (ev_mk rfl) rfl) trivial ?_
  refine' rls (gn rfl) rfl (step_storeA rfl rfl rfl rfl F.agg27 ?hm ?hl) ⟨?hb, trivial⟩ ?hk ?_
  case hb => repeat (first | exact uE | refine uN (by omega) ?_ | assumption | exact hd _ (by omega) | fail)
  case hm => first | rfl | (simp; done) | (first | exact pgC_len _ | (simp; done) | (rw [pgC_len]; omega) | omega)
  case hl => first | rfl | (simp; done) | (first | exact pgC_len _ | (simp; done) | (rw [pgC_len]; omega) | omega)
  case hk => omega
  refine rl0 (gn rfl) rfl rfl (step_as rfl rfl) trivial ?_
  refine rl0 (gn rfl) rfl rfl (step_as rfl rfl) trivial ?_
  refine runsL_nil ?_
  refine runs_seq ?_
  refine runs_region ?_
  refine' rl0 (gn rfl) rfl rfl (step_load_all rfl rfl F.agg27 ?hl) ⟨?hb, trivial⟩ ?_
  case hb => repeat (first | exact uE | refine uN (by omega) ?_ | assumption | exact hd _ (by omega) | fail)
  case hl => first | rfl | (simp; done) | (first | exact pgC_len _ | (simp; done) | (rw [pgC_len]; omega) | omega)
  refine rl_litb (zs := List.replicate 6 (.int .u8 0)) rfl rfl rfl rfl rfl rfl rfl rfl Try.underlying32 Try.underlying5 F.sz5 F.zero5 (by first | rfl | kernel_rfl) rfl (by decide) rfl rfl ?_
  refine rl0 (gn rfl) rfl rfl (step_callc rfl Try.func19 rfl rfl rfl (put_w) (by repeat (first | exact .nil | refine .cons ?_ ?_ | exact VLe.refl _ | exact VLe.own_sl _ _ _ | exact VLe.fl_sl _ _ | exact VLe.nil_sl _ | exact vle_int (by omega)))) trivial ?_
  refine rl0 (gn rfl) rfl rfl (step_mv rfl rfl) trivial ?_
  refine rl0 (gn rfl) rfl rfl (step_extract rfl (ev_mk rfl) rfl) trivial ?_
  refine rl0 (gn rfl) rfl rfl (step_extract rfl (ev_mk rfl) rfl) trivial ?_
  refine rl1 (gn rfl) rfl rfl (step_allocc (k := n + 2) (zs := (List.replicate 224 (.int .u8 0))) (cs := List.replicate 224 (.sc (.int .u8 0))) rfl F.zero27 (by first | rfl | simp) (by first | rfl | decide | simp) (by first | rfl | simp)) ⟨by repeat (first | exact uE | refine uN (by omega) ?_ | assumption | exact hd _ (by omega) | fail), trivial⟩ (by omega) ?_
  refine' rls (gn rfl) rfl (step_storeA rfl rfl rfl rfl F.agg27 ?hm ?hl) ⟨?hb, trivial⟩ ?hk ?_
  case hb => repeat (first | exact uE | refine uN (by omega) ?_ | assumption | exact hd _ (by omega) | fail)
  case hm => first | rfl | (simp; done) | (first | exact pgC_len _ | (simp; done) | (rw [pgC_len]; omega) | omega)
  case hl => first | rfl | (simp; done) | (first | exact pgC_len _ | (simp; done) | (rw [pgC_len]; omega) | omega)
  case hk => omega
  refine rl0 (gn rfl) rfl rfl (step_as rfl rfl) trivial ?_
  refine runsL_nil ?_
  refine runs_seq ?_
  refine runs_region ?_
  refine' rl0 (gn rfl) rfl rfl (step_load_all rfl rfl F.agg27 ?hl) ⟨?hb, trivial⟩ ?_
  case hb => repeat (first | exact uE | refine uN (by omega) ?_ | assumption | exact hd _ (by omega) | fail)
  case hl => first | rfl | (simp; done) | (first | exact pgC_len _ | (simp; done) | (rw [pgC_len]; omega) | omega)
  refine rl0 (gn rfl) rfl rfl (step_callc rfl Try.func15 rfl rfl rfl (get_w5) (by repeat (first | exact .nil | refine .cons ?_ ?_ | exact VLe.refl _ | exact VLe.own_sl _ _ _ | exact VLe.fl_sl _ _ | exact VLe.nil_sl _ | exact vle_int (by omega)))) trivial ?_
  refine rl0 (gn rfl) rfl rfl (step_mv rfl rfl) trivial ?_
  refine rl0 (gn rfl) rfl rfl (step_extract rfl (ev_mk rfl) rfl) trivial ?_
  refine rl0 (gn rfl) rfl rfl (step_extract rfl (ev_mk rfl) rfl) trivial ?_
  refine rl0 (gn rfl) rfl rfl (step_as rfl rfl) trivial ?_
  refine rl0 (gn rfl) rfl rfl (step_as rfl rfl) trivial ?_
  refine runsL_nil ?_
  refine runs_seq ?_
  refine runs_region ?_
  refine' rl0 (gn rfl) rfl rfl (step_load_all rfl rfl F.agg27 ?hl) ⟨?hb, trivial⟩ ?_
  case hb => repeat (first | exact uE | refine uN (by omega) ?_ | assumption | exact hd _ (by omega) | fail)
  case hl => first | rfl | (simp; done) | (first | exact pgC_len _ | (simp; done) | (rw [pgC_len]; omega) | omega)
  refine rl0 (gn rfl) rfl rfl (step_callc rfl Try.func15 rfl rfl rfl (get_w4) (by repeat (first | exact .nil | refine .cons ?_ ?_ | exact VLe.refl _ | exact VLe.own_sl _ _ _ | exact VLe.fl_sl _ _ | exact VLe.nil_sl _ | exact vle_int (by omega)))) trivial ?_
  refine rl0 (gn rfl) rfl rfl (step_mv rfl rfl) trivial ?_
  refine rl0 (gn rfl) rfl rfl (step_extract rfl (ev_mk rfl) rfl) trivial ?_
  refine rl0 (gn rfl) rfl rfl (step_extract rfl (ev_mk rfl) rfl) trivial ?_
  refine rl0 (gn rfl) rfl rfl (step_as rfl rfl) trivial ?_
  refine rl0 (gn rfl) rfl rfl (step_as rfl rfl) trivial ?_
  refine runsL_nil ?_
  refine runs_seq ?_
  refine runs_region ?_
  refine rl1 (gn rfl) rfl rfl (step_allocc (k := n + 3) (zs := [.int .i64 0]) (cs := [.sc (.int .i64 0)]) rfl F.zero3 (by first | rfl | simp) (by first | rfl | decide | simp) (by first | rfl | simp)) ⟨by repeat (first | exact uE | refine uN (by omega) ?_ | assumption | exact hd _ (by omega) | fail), trivial⟩ (by omega) ?_
  refine' rls (gn rfl) rfl (step_store1 rfl rfl rfl rfl F.one3 rfl rfl ?hl ?hc) ⟨?hb, trivial⟩ ?hk ?_
  case hb => repeat (first | exact uE | refine uN (by omega) ?_ | assumption | exact hd _ (by omega) | fail)
  case hl => first | exact Nat.le_of_ble_eq_true rfl | decide | (simp; done) | (simp; omega) | (first | exact pgC_len _ | (simp; done) | (rw [pgC_len]; omega) | omega)
  case hc => first | (simp only [List.set_cons_succ, List.set_cons_zero]; rfl) | rfl
  case hk => omega
  refine runsL_nil ?_
  refine runs_seq ?_
  refine runs_region ?_
  refine' rl0 (gn rfl) rfl rfl (step_load_all rfl rfl F.agg27 ?hl) ⟨?hb, trivial⟩ ?_
  case hb => repeat (first | exact uE | refine uN (by omega) ?_ | assumption | exact hd _ (by omega) | fail)
  case hl => first | rfl | (simp; done) | (first | exact pgC_len _ | (simp; done) | (rw [pgC_len]; omega) | omega)
  refine rl1 (gn rfl) rfl rfl (step_callc rfl Try.func20 rfl rfl rfl (all_c w5 (kk := (n + 4))) (by repeat (first | exact .nil | refine .cons ?_ ?_ | exact VLe.refl _ | exact VLe.own_sl _ _ _ | exact VLe.fl_sl _ _ | exact VLe.nil_sl _ | exact vle_int (by omega)))) ⟨by repeat (first | exact uE | refine uN (by omega) ?_ | assumption | exact hd _ (by omega) | fail), trivial⟩ (by omega) ?_
  refine rl0 (gn rfl) rfl rfl (step_as rfl rfl) trivial ?_
  refine runsL_nil ?_
  refine runs_seq ?_
  refine runs_seq ?_
  refine runs_region ?_
  refine rl0 (gn rfl) rfl rfl (step_mv rfl rfl) trivial ?_
  refine rl0 (gn rfl) rfl rfl (step_eq_nilf (b := false) rfl (ev_mk rfl) (ev_mk rfl) Try.underlying53 ⟨_, .inl ⟨.inl ⟨_, _, rfl⟩, rfl⟩, .inl ⟨rfl, rfl⟩⟩) trivial ?_
  refine runsL_nil ?_
  refine runs_cond false (ev_mk rfl) (fun h_ => nomatch h_) (fun _ => ?_)
  refine runs_skip ?_
  refine runs_seq ?_
  refine runs_seq ?_
  refine runs_region ?_
  refine rl0 (gn rfl) rfl rfl (step_mv rfl rfl) trivial ?_
  refine runsL_nil ?_
  refine runs_block ?_
  refine runs_rangeL (f := 33) (caps := [.ref (n + 4) 0]) (xs := (ocL w5 (w5 0)).map (ocR w5)) (Dl := [(n + 3, fun i60 => .cells [.sc (.int .i64 (i60 : Nat))])]) (El := [(n + 4, .cells (pgC w5), fun m_ b_ => .cells (pgC w5))]) (kl := n + 5) (m := (ocL w5 (w5 0)).length) (brk := false) (ex := .normal) hO rfl (.inl rfl) Try.func33 rfl rfl (all_i w5 w5_ok.1) (by repeat (first | exact uE | refine uN (by omega) ?_ | assumption | exact hd _ (by omega) | fail)) (by omega) ((by rw [List.length_map]; exact Nat.le_refl _)) (fun h_ => nomatch h_) (fun _ => ⟨by rw [List.length_map], rfl⟩) (fun v_ hv_ => by obtain ⟨_, _, rfl⟩ := List.mem_map.1 hv_; rfl) rfl ⟨trivial, trivial⟩ ⟨⟨by dsimp only; omega, by dsimp only; omega, ⟨by dsimp only; omega, trivial⟩, by dsimp only; (first | ((repeat (first | exact uE | assumption | refine uN (by omega) ?_ | fail)); done) | (refine Eq.trans (b := .cells [.sc (.int .i64 0)]) (by repeat (first | exact uE | assumption | refine uN (by omega) ?_ | fail)) ?_; first | rfl | (simp; done)))⟩, trivial⟩ ⟨⟨by dsimp only; omega, by dsimp only; omega, by dsimp only; repeat (first | exact uE | refine uN (by omega) ?_ | assumption | exact hd _ (by omega) | fail)⟩, trivial⟩ (fun i60 => ⟨bdb_cells (by first | ((repeat (first | exact trivial | exact bd_pgA _ _ | exact bd_pg _ _ | assumption | omega | (refine bdR_map (fun _ => ?_)) | refine ⟨?_, ?_⟩ | fail)); done) | (repeat (first | exact trivial | assumption | omega | (refine bdR_map (fun _ => ?_)) | (refine bdL_map (fun _ => ?_)) | refine ⟨?_, ?_⟩ | fail))), trivial⟩) ⟨bdb_cells (by first | ((repeat (first | exact trivial | exact bd_pgA _ _ | exact bd_pg _ _ | assumption | omega | (refine bdR_map (fun _ => ?_)) | refine ⟨?_, ?_⟩ | fail)); done) | (repeat (first | exact trivial | assumption | omega | (refine bdR_map (fun _ => ?_)) | (refine bdL_map (fun _ => ?_)) | refine ⟨?_, ?_⟩ | fail))), trivial⟩ ?_ ?_
  · intro i60 v60 hi60 hv60 B60 n60 lr60 bx60 hR60 hl60 hk60 ho60 he60 hn60 hd60 hD60 hfr60
    have hf60 : ∀ k_, k_ < _ → k_ ≠ n + 3 → k_ ≠ n + 4 → k_ ≠ n + 5 → bx60 k_ = _ := fun k_ a_ e0_ e1_ e2_ => hfr60 k_ a_ ⟨e0_, e1_, trivial⟩ e2_
    have hb60_0 : bx60 (n + 3) = .cells [.sc (.int .i64 (i60 : Nat))] := hD60.1
    have hc60_0 : bx60 (n + 0) = .cells (pgC w2) := (hf60 _ (by omega) (by omega) (by omega) (by omega)).trans (by repeat (first | exact uE | refine uN (by omega) ?_ | assumption | exact hd _ (by omega) | fail))
    have hc60_1 : bx60 (n + 1) = .cells (pgC w4) := (hf60 _ (by omega) (by omega) (by omega) (by omega)).trans (by repeat (first | exact uE | refine uN (by omega) ?_ | assumption | exact hd _ (by omega) | fail))
    have hc60_2 : bx60 (n + 2) = .cells (pgC w5) := (hf60 _ (by omega) (by omega) (by omega) (by omega)).trans (by repeat (first | exact uE | refine uN (by omega) ?_ | assumption | exact hd _ (by omega) | fail))
    obtain ⟨t60, ht60, rfl⟩ := map_get hv60
    refine runs_keep (l' := [(74, .sc (.int .i64 (t60 : Int))), (75, .sl 1 (bytesV (sl w5 t60).b)), (0, .sc (.bool false)), (16, .ref (n + 3) 0)]) ?_ ?_
    · (repeat' (first | exact trivial | refine ⟨⟨_, rfl, ?_⟩, ?_⟩ | fail)); all_goals (repeat' (first | exact VLe.refl _ | exact VLe.own_sl _ _ _ | exact VLe.fl_sl _ _ | exact VLe.nil_sl _ | exact VLe.nil_fl _ | exact VLes.refl _ | exact .nil | refine VLe.tup ?_ | refine VLe.agg ?_ | refine .cons ?_ ?_ | (rw [Int.natCast_add]; exact VLe.refl _) | exact vle_int (by omega) | exact vle_bool (by first | rfl | assumption | (simp_all; done) | fail) | fail))
    refine runs_bump 40 ?_
    refine runs_skip ?_
    refine ⟨rfl, by first | rfl | (repeat (first | exact uE | refine uN (by omega) ?_ | assumption | exact hd _ (by omega) | exact hd60 _ (by omega) | fail)), fun r60 => ?_⟩
    show Runs _ _ _ _ ⟨mk _, _ + _, upd _ _ _⟩ _
    refine runs_block ?_
    refine runs_region ?_
    refine' rl0 (gn rfl) rfl rfl (step_load_one rfl (ev_mk rfl) F.one3 ?hv) ⟨?hb, trivial⟩ ?_
    case hb => repeat (first | exact uE | refine uN (by omega) ?_ | assumption | exact hd _ (by omega) | exact hd60 _ (by omega) | fail)
    case hv => rfl
    refine rl0 (gn rfl) rfl rfl (step_add rfl (ev_mk rfl) (ev_mk rfl) (w64 (by omega))) trivial ?_
    refine' rls (gn rfl) rfl (step_store1 rfl rfl rfl rfl F.one3 rfl rfl ?hl ?hc) ⟨?hb, trivial⟩ ?hk ?_
    case hb => repeat (first | exact uE | refine uN (by omega) ?_ | assumption | exact hd _ (by omega) | exact hd60 _ (by omega) | fail)
    case hl => first | exact Nat.le_of_ble_eq_true rfl | decide | (simp; done) | (simp; omega) | (first | exact pgC_len _ | (simp; done) | (rw [pgC_len]; omega) | omega)
    case hc => first | (simp only [List.set_cons_succ, List.set_cons_zero]; rfl) | rfl
    case hk => omega
    refine runsL_nil ?_
    refine ⟨by exact (if_neg (fun h_ => nomatch h_.1)).symm, by repeat (first | exact uE | refine uN (by omega) ?_ | assumption | exact hd _ (by omega) | exact hd60 _ (by omega) | fail), fun k_ hk_ hl_ => ?_⟩
    simp only [dL, updL, List.map_cons, List.map_nil]; by_cases e0_ : k_ = (n + 3); (focus subst e0_; refine bl_eq ?_; first | (refine' blec ?hb ?hl; (case hb => repeat (first | exact uE | assumption | refine uN (by omega) ?_ | fail)); (case hl => first | exact VLes.refl _ | ((repeat' (first | exact VLe.refl _ | exact VLe.own_sl _ _ _ | exact VLe.fl_sl _ _ | exact VLe.nil_sl _ | exact VLe.nil_fl _ | exact VLes.refl _ | exact .nil | refine VLe.tup ?_ | refine VLe.agg ?_ | refine .cons ?_ ?_ | (rw [Int.natCast_add]; exact VLe.refl _) | exact vle_int (by omega) | exact vle_bool (by first | rfl | assumption | (simp_all; done) | fail) | fail)); done))) | (refine ble ?_; (repeat (first | exact uE | assumption | refine uN (by omega) ?_ | fail)); done)); refine bl_ne e0_ ?_; exact ble (by repeat (first | exact rfl | refine uN (by first | assumption | omega) ?_ | assumption | exact hf60 _ (by omega) (by first | assumption | omega) (by first | assumption | omega) (by first | assumption | omega) | fail))
  · intro bb60 b60 hb60
    simp only [dL, eM, updL, List.map_cons, List.map_nil] at hb60
    subst hb60
    refine runs_seq ?_
    refine runs_region ?_
    refine' rl0 (gn rfl) rfl rfl (step_load_all rfl rfl F.agg27 ?hl) ⟨?hb, trivial⟩ ?_
    case hb => repeat (first | exact uE | refine uN (by omega) ?_ | assumption | exact hd _ (by omega) | fail)
    case hl => first | rfl | (simp; done) | (first | exact pgC_len _ | (simp; done) | (rw [pgC_len]; omega) | omega)
    refine rl0 (gn rfl) rfl rfl (step_callc rfl Try.func14 rfl rfl rfl (bytes_c w5) (by repeat (first | exact .nil | refine .cons ?_ ?_ | exact VLe.refl _ | exact VLe.own_sl _ _ _ | exact VLe.fl_sl _ _ | exact VLe.nil_sl _ | exact vle_int (by omega)))) trivial ?_
    refine rl0 (gn rfl) rfl rfl (step_callc rfl Try.func11 rfl rfl rfl (of_w5) (by repeat (first | exact .nil | refine .cons ?_ ?_ | exact VLe.refl _ | exact VLe.own_sl _ _ _ | exact VLe.fl_sl _ _ | exact VLe.nil_sl _ | exact vle_int (by omega)))) trivial ?_
    refine rl0 (gn rfl) rfl rfl (step_mv rfl rfl) trivial ?_
    refine rl0 (gn rfl) rfl rfl (step_extract rfl (ev_mk rfl) rfl) trivial ?_
    refine rl0 (gn rfl) rfl rfl (step_extract rfl (ev_mk rfl) rfl) trivial ?_
    refine rl1 (gn rfl) rfl rfl (step_allocc (k := n + 6) (zs := (List.replicate 224 (.int .u8 0))) (cs := List.replicate 224 (.sc (.int .u8 0))) rfl F.zero27 (by first | rfl | simp) (by first | rfl | decide | simp) (by first | rfl | simp)) ⟨by repeat (first | exact uE | refine uN (by omega) ?_ | assumption | exact hd _ (by omega) | fail), trivial⟩ (by omega) ?_
    refine' rls (gn rfl) rfl (step_storeA rfl rfl rfl rfl F.agg27 ?hm ?hl) ⟨?hb, trivial⟩ ?hk ?_
    case hb => repeat (first | exact uE | refine uN (by omega) ?_ | assumption | exact hd _ (by omega) | fail)
    case hm => first | rfl | (simp; done) | (first | exact pgC_len _ | (simp; done) | (rw [pgC_len]; omega) | omega)
    case hl => first | rfl | (simp; done) | (first | exact pgC_len _ | (simp; done) | (rw [pgC_len]; omega) | omega)
    case hk => omega
    refine rl0 (gn rfl) rfl rfl (step_as rfl rfl) trivial ?_
    refine runsL_nil ?_
    refine runs_seq ?_
    refine runs_region ?_
    refine rl0 (gn rfl) rfl rfl (step_build_arr (zs := List.replicate 224 (.int .u8 0)) rfl Try.underlying25 F.sz5 F.zero25 rfl (by decide +kernel) w40_fill) trivial ?_
    refine rl0 (gn rfl) rfl rfl (step_callc rfl Try.func11 rfl rfl rfl (of_w40) (by repeat (first | exact .nil | refine .cons ?_ ?_ | exact VLe.refl _ | exact VLe.own_sl _ _ _ | exact VLe.fl_sl _ _ | exact VLe.nil_sl _ | exact vle_int (by omega)))) trivial ?_
    refine rl0 (gn rfl) rfl rfl (step_mv rfl rfl) trivial ?_
    refine rl0 (gn rfl) rfl rfl (step_extract rfl (ev_mk rfl) rfl) trivial ?_
    refine rl0 (gn rfl) rfl rfl (step_extract rfl (ev_mk rfl) rfl) trivial ?_
    refine rl1 (gn rfl) rfl rfl (step_allocc (k := n + 7) (zs := (List.replicate 224 (.int .u8 0))) (cs := List.replicate 224 (.sc (.int .u8 0))) rfl F.zero27 (by first | rfl | simp) (by first | rfl | decide | simp) (by first | rfl | simp)) ⟨by repeat (first | exact uE | refine uN (by omega) ?_ | assumption | exact hd _ (by omega) | fail), trivial⟩ (by omega) ?_
    refine' rls (gn rfl) rfl (step_storeA rfl rfl rfl rfl F.agg27 ?hm ?hl) ⟨?hb, trivial⟩ ?hk ?_
    case hb => repeat (first | exact uE | refine uN (by omega) ?_ | assumption | exact hd _ (by omega) | fail)
    case hm => first | rfl | (simp; done) | (first | exact pgC_len _ | (simp; done) | (rw [pgC_len]; omega) | omega)
    case hl => first | rfl | (simp; done) | (first | exact pgC_len _ | (simp; done) | (rw [pgC_len]; omega) | omega)
    case hk => omega
    refine rl0 (gn rfl) rfl rfl (step_as rfl rfl) trivial ?_
    refine runsL_nil ?_
    refine runs_seq ?_
    refine runs_region ?_
    refine rl0 (gn rfl) rfl rfl (step_mv rfl rfl) trivial ?_
    refine rl_eql (gn rfl) rfl rfl rfl rfl rfl (fun h1 => ?_) (fun h1 => ?_)
    rotate_left
    · exact False.elim (by omega)
    refine rl0 (gn rfl) rfl rfl (step_mv rfl rfl) trivial ?_
    refine rl0 (gy rfl rfl rfl rfl rfl rfl) rfl rfl (step_mv rfl rfl) trivial ?_
    refine rl_eql (gy rfl rfl rfl rfl rfl rfl) rfl rfl rfl rfl rfl (fun h2 => ?_) (fun h2 => ?_)
    rotate_left
    · exact False.elim (by omega)
    refine rl0 (gn rfl) rfl rfl (step_pick rfl (ev_mk rfl) (ev_mk rfl)) trivial ?_
    refine rl0 (gn rfl) rfl rfl (step_mv rfl rfl) trivial ?_
    refine rl0 (gy rfl rfl rfl rfl rfl rfl) rfl rfl (step_mv rfl rfl) trivial ?_
    refine rl_eql (gy rfl rfl rfl rfl rfl rfl) rfl rfl rfl rfl rfl (fun h3 => ?_) (fun h3 => ?_)
    rotate_left
    · exact False.elim (by omega)
    refine rl0 (gn rfl) rfl rfl (step_pick rfl (ev_mk rfl) (ev_mk rfl)) trivial ?_
    refine rl0 (gn rfl) rfl rfl (step_mv rfl rfl) trivial ?_
    refine rl0 (gy rfl rfl rfl rfl rfl rfl) rfl rfl (step_mv rfl rfl) trivial ?_
    refine rl_eql (gy rfl rfl rfl rfl rfl rfl) rfl rfl rfl rfl rfl (fun h4 => ?_) (fun h4 => ?_)
    rotate_left
    · exact False.elim (by omega)
    refine rl0 (gn rfl) rfl rfl (step_pick rfl (ev_mk rfl) (ev_mk rfl)) trivial ?_
    refine rl0 (gn rfl) rfl rfl (step_mv rfl rfl) trivial ?_
    refine rl0 (gy rfl rfl rfl rfl rfl rfl) rfl rfl (step_mv rfl rfl) trivial ?_
    refine rl0 (gn rfl) rfl rfl (step_pick rfl (ev_mk rfl) (ev_mk rfl)) trivial ?_
    refine rl0 (gn rfl) rfl rfl (step_mv rfl rfl) trivial ?_
    refine rl0 (gy rfl rfl rfl rfl rfl rfl) rfl rfl (step_mv rfl rfl) trivial ?_
    refine rl_eql (gy rfl rfl rfl rfl rfl rfl) rfl rfl rfl rfl rfl (fun h5 => ?_) (fun h5 => ?_)
    rotate_left
    · exact False.elim (by omega)
    refine rl0 (gn rfl) rfl rfl (step_pick rfl (ev_mk rfl) (ev_mk rfl)) trivial ?_
    refine rl0 (gn rfl) rfl rfl (step_mv rfl rfl) trivial ?_
    refine rl0 (gy rfl rfl rfl rfl rfl rfl) rfl rfl (step_mv rfl rfl) trivial ?_
    refine rl_eql (gy rfl rfl rfl rfl rfl rfl) rfl rfl rfl rfl rfl (fun h6 => ?_) (fun h6 => ?_)
    rotate_left
    · exact False.elim (by omega)
    refine rl0 (gn rfl) rfl rfl (step_pick rfl (ev_mk rfl) (ev_mk rfl)) trivial ?_
    refine rl0 (gn rfl) rfl rfl (step_mv rfl rfl) trivial ?_
    refine rl0 (gy rfl rfl rfl rfl rfl rfl) rfl rfl (step_mv rfl rfl) trivial ?_
    refine rl_eql (gy rfl rfl rfl rfl rfl rfl) rfl rfl rfl rfl rfl (fun h7 => ?_) (fun h7 => ?_)
    rotate_left
    · exact False.elim (by omega)
    refine rl0 (gn rfl) rfl rfl (step_pick rfl (ev_mk rfl) (ev_mk rfl)) trivial ?_
    refine rl0 (gn rfl) rfl rfl (step_mv rfl rfl) trivial ?_
    refine rl0 (gy rfl rfl rfl rfl rfl rfl) rfl rfl (step_mv rfl rfl) trivial ?_
    refine rl0 (gn rfl) rfl rfl (step_pick rfl (ev_mk rfl) (ev_mk rfl)) trivial ?_
    refine rl0 (gn rfl) rfl rfl (step_mv rfl rfl) trivial ?_
    refine rl0 (gy rfl rfl rfl rfl rfl rfl) rfl rfl (step_mv rfl rfl) trivial ?_
    refine rl0 (gy rfl rfl rfl rfl rfl rfl) rfl rfl (step_b2s (xs := bL) rfl (ev_mk rfl) (gives_sl (.inl rfl)) (b_ok.2.2.2) Try.underlying32 Try.underlying9 Try.underlying5 (sl_shape (.inl rfl) (bytesV_len _))) trivial ?_
    refine rl_eqls (gy rfl rfl rfl rfl rfl rfl) rfl rfl rfl rfl rfl (fun h8 => ?_) (fun h8 => ?_)
    rotate_left
    · exact False.elim (by exact h8 str_w)
    refine rl0 (gn rfl) rfl rfl (step_pick rfl (ev_mk rfl) (ev_mk rfl)) trivial ?_
    refine rl0 (gn rfl) rfl rfl (step_mv rfl rfl) trivial ?_
    refine rl0 (gy rfl rfl rfl rfl rfl rfl) rfl rfl (step_mv rfl rfl) trivial ?_
    refine rl0 (gy rfl rfl rfl rfl rfl rfl) rfl rfl (step_unOp (c := .bool true) rfl (ev_mk rfl) (fun _ => rfl)) trivial ?_
    refine rl0 (gn rfl) rfl rfl (step_pick rfl (ev_mk rfl) (ev_mk rfl)) trivial ?_
    refine rl0 (gn rfl) rfl rfl (step_mv rfl rfl) trivial ?_
    refine' rl0 (gy rfl rfl rfl rfl rfl rfl) rfl rfl (step_load_one rfl (ev_mk rfl) F.one3 ?hv) ⟨?hb, trivial⟩ ?_
    case hb => repeat (first | exact uE | refine uN (by omega) ?_ | assumption | exact hd _ (by omega) | fail)
    case hv => rfl
    refine rl_eql (gy rfl rfl rfl rfl rfl rfl) rfl rfl rfl rfl rfl (fun h9 => ?_) (fun h9 => ?_)
    rotate_left
    · exact False.elim (by (rw [oc_w5] at h9; omega))
    refine rl0 (gn rfl) rfl rfl (step_pick rfl (ev_mk rfl) (ev_mk rfl)) trivial ?_
    refine rl0 (gn rfl) rfl rfl (step_mv rfl rfl) trivial ?_
    refine rl0 (gy rfl rfl rfl rfl rfl rfl) rfl rfl (step_mv rfl rfl) trivial ?_
    refine rl0 (gn rfl) rfl rfl (step_pick rfl (ev_mk rfl) (ev_mk rfl)) trivial ?_
    refine rl0 (gn rfl) rfl rfl (step_mv rfl rfl) trivial ?_
    refine' rl0 (gy rfl rfl rfl rfl rfl rfl) rfl rfl (step_load_all rfl rfl F.agg27 ?hl) ⟨?hb, trivial⟩ ?_
    case hb => repeat (first | exact uE | refine uN (by omega) ?_ | assumption | exact hd _ (by omega) | fail)
    case hl => first | rfl | (simp; done) | (first | exact pgC_len _ | (simp; done) | (rw [pgC_len]; omega) | omega)
    refine rl0 (gy rfl rfl rfl rfl rfl rfl) rfl rfl (step_callc rfl Try.func13 rfl rfl rfl (len_w5) (by repeat (first | exact .nil | refine .cons ?_ ?_ | exact VLe.refl _ | exact VLe.own_sl _ _ _ | exact VLe.fl_sl _ _ | exact VLe.nil_sl _ | exact vle_int (by omega)))) trivial ?_
    refine rl_eql (gy rfl rfl rfl rfl rfl rfl) rfl rfl rfl rfl rfl (fun h10 => ?_) (fun h10 => ?_)
    rotate_left
    · exact False.elim (by omega)
    refine rl0 (gn rfl) rfl rfl (step_pick rfl (ev_mk rfl) (ev_mk rfl)) trivial ?_
    refine rl0 (gn rfl) rfl rfl (step_mv rfl rfl) trivial ?_
    refine rl0 (gy rfl rfl rfl rfl rfl rfl) rfl rfl (step_mv rfl rfl) trivial ?_
    refine rl0 (gy rfl rfl rfl rfl rfl rfl) rfl rfl (step_unOp (c := .bool true) rfl (ev_mk rfl) (fun _ => rfl)) trivial ?_
    refine rl0 (gn rfl) rfl rfl (step_pick rfl (ev_mk rfl) (ev_mk rfl)) trivial ?_
    refine rl0 (gn rfl) rfl rfl (step_mv rfl rfl) trivial ?_
    refine' rl0 (gy rfl rfl rfl rfl rfl rfl) rfl rfl (step_load_all rfl rfl F.agg27 ?hl) ⟨?hb, trivial⟩ ?_
    case hb => repeat (first | exact uE | refine uN (by omega) ?_ | assumption | exact hd _ (by omega) | fail)
    case hl => first | rfl | (simp; done) | (first | exact pgC_len _ | (simp; done) | (rw [pgC_len]; omega) | omega)
    refine rl0 (gy rfl rfl rfl rfl rfl rfl) rfl rfl (step_callc rfl Try.func21 rfl rfl rfl (room_w2) (by repeat (first | exact .nil | refine .cons ?_ ?_ | exact VLe.refl _ | exact VLe.own_sl _ _ _ | exact VLe.fl_sl _ _ | exact VLe.nil_sl _ | exact vle_int (by omega)))) trivial ?_
    refine rl_eql (gy rfl rfl rfl rfl rfl rfl) rfl rfl rfl rfl rfl (fun h11 => ?_) (fun h11 => ?_)
    rotate_left
    · exact False.elim (by omega)
    refine rl0 (gn rfl) rfl rfl (step_pick rfl (ev_mk rfl) (ev_mk rfl)) trivial ?_
    refine rl0 (gn rfl) rfl rfl (step_mv rfl rfl) trivial ?_
    refine' rl0 (gy rfl rfl rfl rfl rfl rfl) rfl rfl (step_load_all rfl rfl F.agg27 ?hl) ⟨?hb, trivial⟩ ?_
    case hb => repeat (first | exact uE | refine uN (by omega) ?_ | assumption | exact hd _ (by omega) | fail)
    case hl => first | rfl | (simp; done) | (first | exact pgC_len _ | (simp; done) | (rw [pgC_len]; omega) | omega)
    refine rl0 (gy rfl rfl rfl rfl rfl rfl) rfl rfl (step_callc rfl Try.func16 rfl rfl rfl (pack_c w5 w5_ok.1) (by repeat (first | exact .nil | refine .cons ?_ ?_ | exact VLe.refl _ | exact VLe.own_sl _ _ _ | exact VLe.fl_sl _ _ | exact VLe.nil_sl _ | exact vle_int (by omega)))) trivial ?_
    refine rl0 (gy rfl rfl rfl rfl rfl rfl) rfl rfl (step_callc rfl Try.func14 rfl rfl rfl (bytes_c (pk w5)) (by repeat (first | exact .nil | refine .cons ?_ ?_ | exact VLe.refl _ | exact VLe.own_sl _ _ _ | exact VLe.fl_sl _ _ | exact VLe.nil_sl _ | exact vle_int (by omega)))) trivial ?_
    refine rl0 (gy rfl rfl rfl rfl rfl rfl) rfl rfl (step_callc rfl Try.func12 rfl rfl rfl (sound_w) (by repeat (first | exact .nil | refine .cons ?_ ?_ | exact VLe.refl _ | exact VLe.own_sl _ _ _ | exact VLe.fl_sl _ _ | exact VLe.nil_sl _ | exact vle_int (by omega)))) trivial ?_
    refine rl0 (gn rfl) rfl rfl (step_pick rfl (ev_mk rfl) (ev_mk rfl)) trivial ?_
    refine rl0 (gn rfl) rfl rfl (step_mv rfl rfl) trivial ?_
    refine rl0 (gy rfl rfl rfl rfl rfl rfl) rfl rfl (step_callc rfl Try.func8 rfl rfl rfl (new_c) (by repeat (first | exact .nil | refine .cons ?_ ?_ | exact VLe.refl _ | exact VLe.own_sl _ _ _ | exact VLe.fl_sl _ _ | exact VLe.nil_sl _ | exact vle_int (by omega)))) trivial ?_
    refine rl0 (gy rfl rfl rfl rfl rfl rfl) rfl rfl (step_callc rfl Try.func21 rfl rfl rfl (room_w0) (by repeat (first | exact .nil | refine .cons ?_ ?_ | exact VLe.refl _ | exact VLe.own_sl _ _ _ | exact VLe.fl_sl _ _ | exact VLe.nil_sl _ | exact vle_int (by omega)))) trivial ?_
    refine rl_eql (gy rfl rfl rfl rfl rfl rfl) rfl rfl rfl rfl rfl (fun h12 => ?_) (fun h12 => ?_)
    rotate_left
    · exact False.elim (by omega)
    refine rl0 (gn rfl) rfl rfl (step_pick rfl (ev_mk rfl) (ev_mk rfl)) trivial ?_
    refine rl0 (gn rfl) rfl rfl (step_as rfl rfl) trivial ?_
    refine runsL_nil ?_
    refine runs_ret ?_
    refine ⟨by first | exact .inr rfl | exact .inl rfl, fin_mkg (rest rfl res0) ?_ ?_ ?_ ?_ ?_⟩
    · (repeat' (first | exact VLe.refl _ | exact VLe.own_sl _ _ _ | exact VLe.fl_sl _ _ | exact VLe.nil_sl _ | exact VLe.nil_fl _ | exact VLes.refl _ | exact .nil | refine VLe.tup ?_ | refine VLe.agg ?_ | refine .cons ?_ ?_ | (rw [Int.natCast_add]; exact VLe.refl _) | exact vle_int (by omega) | exact vle_bool (by first | rfl | assumption | (simp_all; done) | fail) | fail))
    · first | ((repeat (first | exact trivial | exact bd_pgA _ _ | exact bd_pg _ _ | assumption | omega | (refine bdR_map (fun _ => ?_)) | refine ⟨?_, ?_⟩ | fail)); done) | (repeat (first | exact trivial | assumption | omega | (refine bdR_map (fun _ => ?_)) | (refine bdL_map (fun _ => ?_)) | refine ⟨?_, ?_⟩ | fail))
    · intro k_ hk_; exact ble (by repeat (first | exact rfl | refine uN (by omega) ?_ | assumption | fail))
    · intro p hp; cases hp
    · first | ((repeat (first | exact trivial | exact bd_pgA _ _ | exact bd_pg _ _ | assumption | omega | (refine bdR_map (fun _ => ?_)) | refine ⟨?_, ?_⟩ | fail)); done) | (repeat (first | exact trivial | assumption | omega | (refine bdR_map (fun _ => ?_)) | (refine bdL_map (fun _ => ?_)) | refine ⟨?_, ?_⟩ | fail))
end Go.Proofs.Ytjmfdddeoadpaaa
