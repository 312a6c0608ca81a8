/- Walks by the logic of values. -/
import Derived.Test.YtgfmjipdegkemaaKrVa
import Derived.Test.YtgfmjipdegkemaaKrWa
import Derived.Test.YtgfmjipdegkemaaKrWb
import Derived.Test.YtgfmjipdegkemaaKrWc
import Derived.Test.YtgfmjipdegkemaaKrWd
import Derived.Test.YtgfmjipdegkemaaKrWe
import Derived.Test.YtgfmjipdegkemaaKrVmT
import Derived.Test.YtgfmjipdegkemaaKrVmP
namespace Go.Proofs.Ytgfmjipdegkemaa
open Go.Vm
set_option linter.unusedVariables false
set_option linter.unusedSimpArgs false
attribute [local irreducible] Go.Vm.beB Go.Vm.fieldB
theorem bytesV_app (a b : List Int) : bytesV (a ++ b) = bytesV a ++ bytesV b := List.map_append
theorem bytesV_one (x : Int) : bytesV [x] = [[.sc (.int .u8 x)]] := rfl
theorem fB_len {s : ByteArray} {m : Nat} (h : s.size < m) : (fieldB s m).length = m := by unfold fieldB; have := sB_len s; simp [this]; omega
theorem p_at {p : List Int} {i q : Nat} (h : q = i) (hi : i < p.length) : (p.map bV)[q]? = some (bV (at' p (i : Int))) := by subst h; rw [at_nat _ _ hi, List.getElem?_map, List.getElem?_eq_getElem hi]; rfl
def lnz (p : List Int) : Nat → Nat
  | 0 => 0
  | j + 1 => if at' p (j : Int) ≠ 0 then j + 1 else lnz p j
theorem lnz_le (p : List Int) : ∀ j, lnz p j ≤ j
  | 0 => Nat.le_refl _
  | j + 1 => by have := lnz_le p j; unfold lnz; split <;> omega
set_option maxRecDepth 100000 in
set_option maxHeartbeats 4000000 in
theorem rrec_c (r : Rc) (hr : okRc r) (hv : r.val.size < 16) : Does Try.prog 20 [.agg (rcC r)] [] [] (.sl 1 (bytesV (recF r))) := by
  refine does_mkg 40 Try.func20 rfl rfl rfl (fun n B bx hd hpre hup hvs hbx hgx => ?_)
  have u1_ := hr.2.2.1
  have u2_ := hr.2.2.2
  unfold U32 at u1_ u2_
  refine runs_seq ?_
  refine runs_region ?_
  refine rl1 (gn rfl) rfl rfl (step_box_agg (k := n + 0) rfl rfl) ⟨by repeat (first | exact uE | refine uN (by omega) ?_ | assumption | exact hd _ (by omega) | fail), trivial⟩ (by omega) ?_
  refine rl0 (gn rfl) rfl rfl (step_as rfl rfl) trivial ?_
  refine runsL_nil ?_
  refine runs_seq ?_
  refine runs_region ?_
  refine rl0 (gn rfl) rfl rfl (step_fieldAddr (off := 0) rfl (ev_mk rfl) Try.underlying25 rfl F.sz22 rfl) trivial ?_
  refine' rl0 (gn rfl) rfl rfl (step_load_one rfl (ev_mk rfl) F.one22 ?hv) ⟨?hb, trivial⟩ ?_
  case hb => repeat (first | exact uE | refine uN (by omega) ?_ | assumption | exact hd _ (by omega) | fail)
  case hv => rfl
  refine rl1 (gn rfl) rfl rfl (step_callc rfl Try.func24 rfl rfl rfl (rput_o r.id 8 (n + 1) hr.1 (by omega)) (by repeat (first | exact .nil | refine .cons ?_ ?_ | exact VLe.refl _ | exact VLe.own_sl _ _ _ | exact VLe.fl_sl _ _ | exact VLe.nil_sl _ | exact VLe.nil_fl _ | refine VLe.agg ?_))) ⟨by repeat (first | exact uE | refine uN (by omega) ?_ | assumption | exact hd _ (by omega) | fail), trivial⟩ (by omega) ?_
  refine rl0 (gn rfl) rfl rfl (step_as rfl rfl) trivial ?_
  refine runsL_nil ?_
  refine runs_seq ?_
  refine runs_region ?_
  refine rl0 (gn rfl) rfl rfl (step_mv rfl rfl) trivial ?_
  refine rl0 (gn rfl) rfl rfl (step_fieldAddr (off := 1) rfl (ev_mk rfl) Try.underlying25 rfl F.sz22 rfl) trivial ?_
  refine' rl0 (gn rfl) rfl rfl (step_load_one rfl (ev_mk rfl) F.one22 ?hv) ⟨?hb, trivial⟩ ?_
  case hb => repeat (first | exact uE | refine uN (by omega) ?_ | assumption | exact hd _ (by omega) | fail)
  case hv => rfl
  refine rl1 (gn rfl) rfl rfl (step_callc rfl Try.func24 rfl rfl rfl (rput_o r.key 8 (n + 2) hr.2.1 (by omega)) (by repeat (first | exact .nil | refine .cons ?_ ?_ | exact VLe.refl _ | exact VLe.own_sl _ _ _ | exact VLe.fl_sl _ _ | exact VLe.nil_sl _ | exact VLe.nil_fl _ | refine VLe.agg ?_))) ⟨by repeat (first | exact uE | refine uN (by omega) ?_ | assumption | exact hd _ (by omega) | fail), trivial⟩ (by omega) ?_
  refine' rl1 (gn rfl) rfl rfl (step_append_own rfl rfl rfl Try.underlying32 ⟨_, Try.underlying32, fun k_ => by intro h_; cases h_⟩ F.el5 (ev_mk rfl) (ev_mk rfl) (gives_sl (.inr (.inr ⟨_, rfl⟩))) ?hg) ⟨?hb, trivial⟩ (by omega) ?_
  case hb => repeat (first | exact uE | refine uN (by omega) ?_ | assumption | exact hd _ (by omega) | fail)
  case hg => first | (simp [bytesV, beB_len]; done) | (simp [bytesV, beB_len, fB_len hv]; done) | (simp [bytesV, beB_len, fB_len hv]; omega) | omega
  refine rl0 (gn rfl) rfl rfl (step_as rfl rfl) trivial ?_
  refine runsL_nil ?_
  refine runs_seq ?_
  refine runs_region ?_
  refine rl0 (gn rfl) rfl rfl (step_mv rfl rfl) trivial ?_
  refine rl0 (gn rfl) rfl rfl (step_fieldAddr (off := 2) rfl (ev_mk rfl) Try.underlying25 rfl F.sz23 rfl) trivial ?_
  refine' rl0 (gn rfl) rfl rfl (step_load_one rfl (ev_mk rfl) F.one23 ?hv) ⟨?hb, trivial⟩ ?_
  case hb => repeat (first | exact uE | refine uN (by omega) ?_ | assumption | exact hd _ (by omega) | fail)
  case hv => rfl
  refine rl0 (gn rfl) rfl rfl (step_conv_id rfl rfl Try.underlying23 Try.underlying22 (wu64 (by omega))) trivial ?_
  refine rl1 (gn rfl) rfl rfl (step_callc rfl Try.func24 rfl rfl rfl (rput_o r.x 4 (n + 3) (by have h_ := hr.2.2.1; unfold U32 at h_; unfold U64; omega) (by omega)) (by repeat (first | exact .nil | refine .cons ?_ ?_ | exact VLe.refl _ | exact VLe.own_sl _ _ _ | exact VLe.fl_sl _ _ | exact VLe.nil_sl _ | exact VLe.nil_fl _ | refine VLe.agg ?_))) ⟨by repeat (first | exact uE | refine uN (by omega) ?_ | assumption | exact hd _ (by omega) | fail), trivial⟩ (by omega) ?_
  refine' rl1 (gn rfl) rfl rfl (step_append_own rfl rfl rfl Try.underlying32 ⟨_, Try.underlying32, fun k_ => by intro h_; cases h_⟩ F.el5 (ev_mk rfl) (ev_mk rfl) (gives_sl (.inr (.inr ⟨_, rfl⟩))) ?hg) ⟨?hb, trivial⟩ (by omega) ?_
  case hb => repeat (first | exact uE | refine uN (by omega) ?_ | assumption | exact hd _ (by omega) | fail)
  case hg => first | (simp [bytesV, beB_len]; done) | (simp [bytesV, beB_len, fB_len hv]; done) | (simp [bytesV, beB_len, fB_len hv]; omega) | omega
  refine rl0 (gn rfl) rfl rfl (step_as rfl rfl) trivial ?_
  refine runsL_nil ?_
  refine runs_seq ?_
  refine runs_region ?_
  refine rl0 (gn rfl) rfl rfl (step_mv rfl rfl) trivial ?_
  refine rl0 (gn rfl) rfl rfl (step_fieldAddr (off := 3) rfl (ev_mk rfl) Try.underlying25 rfl F.sz23 rfl) trivial ?_
  refine' rl0 (gn rfl) rfl rfl (step_load_one rfl (ev_mk rfl) F.one23 ?hv) ⟨?hb, trivial⟩ ?_
  case hb => repeat (first | exact uE | refine uN (by omega) ?_ | assumption | exact hd _ (by omega) | fail)
  case hv => rfl
  refine rl0 (gn rfl) rfl rfl (step_conv_id rfl rfl Try.underlying23 Try.underlying22 (wu64 (by omega))) trivial ?_
  refine rl1 (gn rfl) rfl rfl (step_callc rfl Try.func24 rfl rfl rfl (rput_o r.y 4 (n + 4) (by have h_ := hr.2.2.2; unfold U32 at h_; unfold U64; omega) (by omega)) (by repeat (first | exact .nil | refine .cons ?_ ?_ | exact VLe.refl _ | exact VLe.own_sl _ _ _ | exact VLe.fl_sl _ _ | exact VLe.nil_sl _ | exact VLe.nil_fl _ | refine VLe.agg ?_))) ⟨by repeat (first | exact uE | refine uN (by omega) ?_ | assumption | exact hd _ (by omega) | fail), trivial⟩ (by omega) ?_
  refine' rl1 (gn rfl) rfl rfl (step_append_own rfl rfl rfl Try.underlying32 ⟨_, Try.underlying32, fun k_ => by intro h_; cases h_⟩ F.el5 (ev_mk rfl) (ev_mk rfl) (gives_sl (.inr (.inr ⟨_, rfl⟩))) ?hg) ⟨?hb, trivial⟩ (by omega) ?_
  case hb => repeat (first | exact uE | refine uN (by omega) ?_ | assumption | exact hd _ (by omega) | fail)
  case hg => first | (simp [bytesV, beB_len]; done) | (simp [bytesV, beB_len, fB_len hv]; done) | (simp [bytesV, beB_len, fB_len hv]; omega) | omega
  refine rl0 (gn rfl) rfl rfl (step_as rfl rfl) trivial ?_
  refine runsL_nil ?_
  refine runs_seq ?_
  refine runs_seq ?_
  refine runs_region ?_
  refine rl0 (gn rfl) rfl rfl (step_fieldAddr (off := 5) rfl (ev_mk rfl) Try.underlying25 rfl F.sz4 rfl) trivial ?_
  refine' rl0 (gn rfl) rfl rfl (step_load_one rfl (ev_mk rfl) F.one4 ?hv) ⟨?hb, trivial⟩ ?_
  case hb => repeat (first | exact uE | refine uN (by omega) ?_ | assumption | exact hd _ (by omega) | fail)
  case hv => rfl
  refine runsL_nil ?_
  refine runs_cond _ (ev_mk rfl) (fun h1 => ?_) (fun h1 => ?_)
  · skip
    refine runs_region ?_
    refine rl0 (gn rfl) rfl rfl (step_mv rfl rfl) trivial ?_
    refine rl0 (gn rfl) rfl rfl (step_lit rfl Try.underlying32 F.sz5 F.zero5 (by first | rfl | simp) (by first | rfl | simp | decide) (by decide) rfl rfl (by first | (simp [V.cs, V.stor, oneV]; done) | (simp [V.cs, V.stor, oneV])) rfl) trivial ?_
    refine' rl1 (gn rfl) rfl rfl (step_append_own rfl rfl rfl Try.underlying32 ⟨_, Try.underlying32, fun k_ => by intro h_; cases h_⟩ F.el5 (ev_mk rfl) (ev_mk rfl) (gives_sl (.inr (.inl rfl))) ?hg) ⟨?hb, trivial⟩ (by omega) ?_
    case hb => repeat (first | exact uE | refine uN (by omega) ?_ | assumption | exact hd _ (by omega) | fail)
    case hg => first | (simp [bytesV, beB_len]; done) | (simp [bytesV, beB_len, fB_len hv]; done) | (simp [bytesV, beB_len, fB_len hv]; omega) | omega
    refine rl0 (gn rfl) rfl rfl (step_as rfl rfl) trivial ?_
    refine runsL_nil ?_
    refine runs_seq ?_
    refine runs_region ?_
    refine rl0 (gn rfl) rfl rfl (step_fieldAddr (off := 4) rfl (ev_mk rfl) Try.underlying25 rfl F.sz9 rfl) trivial ?_
    refine' rl0 (gn rfl) rfl rfl (step_load_one rfl (ev_mk rfl) F.one9 ?hv) ⟨?hb, trivial⟩ ?_
    case hb => repeat (first | exact uE | refine uN (by omega) ?_ | assumption | exact hd _ (by omega) | fail)
    case hv => rfl
    refine rl0 (gn rfl) rfl rfl (step_callc rfl Try.func36 rfl rfl rfl (rtx_c r.val 16 (by omega) (by omega) hv) (by repeat (first | exact .nil | refine .cons ?_ ?_ | exact VLe.refl _ | exact VLe.own_sl _ _ _ | exact VLe.fl_sl _ _ | exact VLe.nil_sl _ | exact VLe.nil_fl _ | refine VLe.agg ?_))) trivial ?_
    refine rl0 (gn rfl) rfl rfl (step_mv rfl rfl) trivial ?_
    refine rl0 (gn rfl) rfl rfl (step_extract rfl (ev_mk rfl) rfl) trivial ?_
    refine rl0 (gn rfl) rfl rfl (step_extract rfl (ev_mk rfl) rfl) trivial ?_
    refine rl0 (gn rfl) rfl rfl (step_as rfl rfl) trivial ?_
    refine rl0 (gn rfl) rfl rfl (step_as rfl rfl) trivial ?_
    refine runsL_nil ?_
    refine runs_seq ?_
    refine runs_region ?_
    refine rl0 (gn rfl) rfl rfl (step_mv rfl rfl) trivial ?_
    refine rl0 (gn rfl) rfl rfl (step_mv rfl rfl) trivial ?_
    refine' rl1 (gn rfl) rfl rfl (step_append_own rfl rfl rfl Try.underlying32 ⟨_, Try.underlying32, fun k_ => by intro h_; cases h_⟩ F.el5 (ev_mk rfl) (ev_mk rfl) (gives_sl (.inl rfl)) ?hg) ⟨?hb, trivial⟩ (by omega) ?_
    case hb => repeat (first | exact uE | refine uN (by omega) ?_ | assumption | exact hd _ (by omega) | fail)
    case hg => first | (simp [bytesV, beB_len]; done) | (simp [bytesV, beB_len, fB_len hv]; done) | (simp [bytesV, beB_len, fB_len hv]; omega) | omega
    refine rl0 (gn rfl) rfl rfl (step_as rfl rfl) trivial ?_
    refine runsL_nil ?_
    refine runs_ret ?_
    first | (have hg_ := recF_t (r := r) (by assumption)) | (have hg_ := recF_f (r := r) (by assumption))
    refine ⟨by first | exact .inr rfl | exact .inl rfl, fin_mkg (rest rfl res0) ?_ ?_ ?_ ?_ ?_⟩
    · (repeat' (first | exact VLe.refl _ | exact VLe.own_sl _ _ _ | exact VLe.fl_sl _ _ | exact VLe.nil_sl _ | exact VLe.nil_fl _ | exact VLes.refl _ | exact .nil | refine VLe.tup ?_ | refine VLe.agg ?_ | refine .cons ?_ ?_ | (rw [Int.natCast_add]; exact VLe.refl _) | exact vle_int (by omega) | exact vle_bool (by first | rfl | assumption | (simp_all; done)) | ((rw [hg_]; simp only [bytesV_app, bytesV_one]; exact VLe.own_sl _ _ _)) | fail))
    · repeat (first | exact trivial | assumption | omega | (refine bdR_map (fun _ => ?_)) | (refine bdL_map (fun _ => ?_)) | refine ⟨?_, ?_⟩ | fail)
    · intro k_ hk_; exact ble (by repeat (first | exact rfl | refine uN (by omega) ?_ | assumption | fail))
    · intro p hp; cases hp
    · repeat (first | exact trivial | assumption | omega | (refine bdR_map (fun _ => ?_)) | (refine bdL_map (fun _ => ?_)) | refine ⟨?_, ?_⟩ | fail)
  · skip
    refine runs_region ?_
    refine rl0 (gn rfl) rfl rfl (step_mv rfl rfl) trivial ?_
    refine rl0 (gn rfl) rfl rfl (step_lit rfl Try.underlying32 F.sz5 F.zero5 (by first | rfl | simp) (by first | rfl | simp | decide) (by decide) rfl rfl (by first | (simp [V.cs, V.stor, oneV]; done) | (simp [V.cs, V.stor, oneV])) rfl) trivial ?_
    refine' rl1 (gn rfl) rfl rfl (step_append_own rfl rfl rfl Try.underlying32 ⟨_, Try.underlying32, fun k_ => by intro h_; cases h_⟩ F.el5 (ev_mk rfl) (ev_mk rfl) (gives_sl (.inr (.inl rfl))) ?hg) ⟨?hb, trivial⟩ (by omega) ?_
    case hb => repeat (first | exact uE | refine uN (by omega) ?_ | assumption | exact hd _ (by omega) | fail)
    case hg => first | (simp [bytesV, beB_len]; done) | (simp [bytesV, beB_len, fB_len hv]; done) | (simp [bytesV, beB_len, fB_len hv]; omega) | omega
    refine rl0 (gn rfl) rfl rfl (step_as rfl rfl) trivial ?_
    refine runsL_nil ?_
    refine runs_seq ?_
    refine runs_region ?_
    refine rl0 (gn rfl) rfl rfl (step_fieldAddr (off := 4) rfl (ev_mk rfl) Try.underlying25 rfl F.sz9 rfl) trivial ?_
    refine' rl0 (gn rfl) rfl rfl (step_load_one rfl (ev_mk rfl) F.one9 ?hv) ⟨?hb, trivial⟩ ?_
    case hb => repeat (first | exact uE | refine uN (by omega) ?_ | assumption | exact hd _ (by omega) | fail)
    case hv => rfl
    refine rl0 (gn rfl) rfl rfl (step_callc rfl Try.func36 rfl rfl rfl (rtx_c r.val 16 (by omega) (by omega) hv) (by repeat (first | exact .nil | refine .cons ?_ ?_ | exact VLe.refl _ | exact VLe.own_sl _ _ _ | exact VLe.fl_sl _ _ | exact VLe.nil_sl _ | exact VLe.nil_fl _ | refine VLe.agg ?_))) trivial ?_
    refine rl0 (gn rfl) rfl rfl (step_mv rfl rfl) trivial ?_
    refine rl0 (gn rfl) rfl rfl (step_extract rfl (ev_mk rfl) rfl) trivial ?_
    refine rl0 (gn rfl) rfl rfl (step_extract rfl (ev_mk rfl) rfl) trivial ?_
    refine rl0 (gn rfl) rfl rfl (step_as rfl rfl) trivial ?_
    refine rl0 (gn rfl) rfl rfl (step_as rfl rfl) trivial ?_
    refine runsL_nil ?_
    refine runs_seq ?_
    refine runs_region ?_
    refine rl0 (gn rfl) rfl rfl (step_mv rfl rfl) trivial ?_
    refine rl0 (gn rfl) rfl rfl (step_mv rfl rfl) trivial ?_
    refine' rl1 (gn rfl) rfl rfl (step_append_own rfl rfl rfl Try.underlying32 ⟨_, Try.underlying32, fun k_ => by intro h_; cases h_⟩ F.el5 (ev_mk rfl) (ev_mk rfl) (gives_sl (.inl rfl)) ?hg) ⟨?hb, trivial⟩ (by omega) ?_
    case hb => repeat (first | exact uE | refine uN (by omega) ?_ | assumption | exact hd _ (by omega) | fail)
    case hg => first | (simp [bytesV, beB_len]; done) | (simp [bytesV, beB_len, fB_len hv]; done) | (simp [bytesV, beB_len, fB_len hv]; omega) | omega
    refine rl0 (gn rfl) rfl rfl (step_as rfl rfl) trivial ?_
    refine runsL_nil ?_
    refine runs_ret ?_
    first | (have hg_ := recF_t (r := r) (by assumption)) | (have hg_ := recF_f (r := r) (by assumption))
    refine ⟨by first | exact .inr rfl | exact .inl rfl, fin_mkg (rest rfl res0) ?_ ?_ ?_ ?_ ?_⟩
    · (repeat' (first | exact VLe.refl _ | exact VLe.own_sl _ _ _ | exact VLe.fl_sl _ _ | exact VLe.nil_sl _ | exact VLe.nil_fl _ | exact VLes.refl _ | exact .nil | refine VLe.tup ?_ | refine VLe.agg ?_ | refine .cons ?_ ?_ | (rw [Int.natCast_add]; exact VLe.refl _) | exact vle_int (by omega) | exact vle_bool (by first | rfl | assumption | (simp_all; done)) | ((rw [hg_]; simp only [bytesV_app, bytesV_one]; exact VLe.own_sl _ _ _)) | fail))
    · repeat (first | exact trivial | assumption | omega | (refine bdR_map (fun _ => ?_)) | (refine bdL_map (fun _ => ?_)) | refine ⟨?_, ?_⟩ | fail)
    · intro k_ hk_; exact ble (by repeat (first | exact rfl | refine uN (by omega) ?_ | assumption | fail))
    · intro p hp; cases hp
    · repeat (first | exact trivial | assumption | omega | (refine bdR_map (fun _ => ?_)) | (refine bdL_map (fun _ => ?_)) | refine ⟨?_, ?_⟩ | fail)
end Go.Proofs.Ytgfmjipdegkemaa
