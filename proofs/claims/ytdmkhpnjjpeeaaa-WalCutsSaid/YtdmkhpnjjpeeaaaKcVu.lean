import Derived.Test.YtdmkhpnjjpeeaaaKcQq
import Derived.Test.YtdmkhpnjjpeeaaaKcVmP
import Derived.Test.YtdmkhpnjjpeeaaaKcVmT
import Derived.Test.YtdmkhpnjjpeeaaaKcWa
import Derived.Test.YtdmkhpnjjpeeaaaKcWc
import Derived.Test.YtdmkhpnjjpeeaaaKcWd
import Derived.Test.YtdmkhpnjjpeeaaaKcWe
import Derived.Test.YtdmkhpnjjpeeaaaKcVd
import Derived.Test.YtdmkhpnjjpeeaaaKcVe
import Derived.Test.YtdmkhpnjjpeeaaaKcVj
import Derived.Test.YtdmkhpnjjpeeaaaKcVk
import Derived.Test.YtdmkhpnjjpeeaaaKcVn
import Derived.Test.YtdmkhpnjjpeeaaaKcWh
import Derived.Test.YtdmkhpnjjpeeaaaKcVmZ
import Derived.Test.YtdmkhpnjjpeeaaaKcVq
import Derived.Test.YtdmkhpnjjpeeaaaKcVr
import Derived.Test.YtdmkhpnjjpeeaaaKcVt
namespace Go.Proofs.Ytdmkhpnjjpeeaaa
open Go.Vm
set_option linter.unusedVariables false
set_option linter.unusedSimpArgs false
open Crc
instance : Inhabited En := ⟨zEn⟩
attribute [local irreducible] Go.Vm.beB
def bE (e : En) : List Int := sealB (bodyB e)
def wE (e : En) : Nat := nS (bE e)
abbrev enAt (e : En) (u : Int) : En := { e with lsn := u }
def okL (e : En) : Prop := okEn e ∧ chkF e = 0
theorem chk_lens {e : En} (h2 : chkF e = 0) : e.pages.length ≤ 24 ∧ e.act.length ≤ 64 := by
  unfold chkF at h2
  split at h2
  · omega
  · split at h2
    · omega
    · split at h2
      · omega
      · omega
theorem okL.len {e : En} (h : okL e) : e.pages.length ≤ 24 ∧ e.act.length ≤ 64 := chk_lens h.2
theorem bE_len {e : En} (h : okL e) : 1 ≤ (bE e).length ∧ (bE e).length ≤ 6100 := by
  have := bodyB_len h.2
  have := h.len
  unfold bE; rw [sealB_len]; omega
theorem bE_byts {e : En} (h : okL e) : Byts (bE e) := sealB_byts (bodyB_byts h.1 h.2)
theorem wE_bd {e : En} (h : okL e) : 1 ≤ wE e ∧ wE e ≤ 113 := by have := bE_len h; unfold wE nS; omega
theorem okEn_at {e : En} {u : Int} (h : okEn e) (hu : U64 u) : okEn (enAt e u) := ⟨hu, h.2⟩
theorem rc_self (r : Rc) : (!eqCs (rcV r) (rcV r)) = false := by rw [eqCs_refl]; rfl
theorem pg_self (p : List Int) : (!eqCs (pgC p) (pgC p)) = false := by
  rw [show eqCs (pgC p) (pgC p) = true from (eqCs_u8 _ _ rfl).2 rfl]; rfl
theorem at_memE {l : List En} {i : Nat} (h : (i : Int) < l.length) : at' l (i : Int) ∈ l := by rw [at_nat _ _ (by omega)]; exact List.getElem_mem _
theorem oatE {l : List En} {i : Nat} (h : (i : Int) < l.length) : l[i]? = some (at' l (i : Int)) := by rw [List.getElem?_eq_getElem (by omega), at_nat _ _ (by omega)]
set_option maxRecDepth 100000 in
set_option maxHeartbeats 4000000 in
theorem sectors_c (b : List Int) (hl : b.length ≤ 1000000) : Does Try.prog 10 [.sc (.int .i64 (b.length : Int))] [] [] (.sc (.int .i64 (nS b : Int))) := by
  refine does_mkg 40 Try.func10 rfl rfl rfl (fun n B bx hd hpre hup hvs hbx hgx => ?_);refine runs_seq ?_;refine runs_region ?_;refine rl0 (gn rfl) rfl rfl (step_as rfl rfl) trivial ?_;refine runsL_nil ?_;refine runs_seq ?_;refine runs_region ?_;refine rl0 (gn rfl) rfl rfl (step_mv rfl rfl) trivial ?_;refine rl0 (gn rfl) rfl rfl (step_maxr (r := (b.length : Int)) rfl (ev_mk rfl) (ev_mk rfl) (by split <;> omega)) trivial ?_;refine rl0 (gn rfl) rfl rfl (step_add rfl (ev_mk rfl) (ev_mk rfl) (w64 (by omega))) trivial ?_;refine rl0 (gn rfl) rfl rfl (step_sub rfl (ev_mk rfl) (ev_mk rfl) (w64 (by omega))) trivial ?_;refine rl0 (gn rfl) rfl rfl (step_quo rfl (ev_mk rfl) (ev_mk rfl) (by omega) (by omega) (w64 (by omega))) trivial ?_;refine rl0 (gn rfl) rfl rfl (step_as rfl rfl) trivial ?_;refine runsL_nil ?_;refine runs_ret ?_;refine ⟨t_17, fin_mkg (rest rfl res0) ?_ ?_ ?_ ?_ ?_⟩
  · (repeat' (first | exact VLe.refl _ | exact VLe.own_sl _ _ _ | exact VLe.fl_sl _ _ | exact VLe.nil_sl _ | exact VLe.nil_fl _ | exact VLes.refl _ | exact .nil | refine VLe.tup ?_ | refine VLe.agg ?_ | refine .cons ?_ ?_ | (rw [Int.natCast_add]; exact VLe.refl _) | exact vle_int (by omega) | exact vle_bool t_159 | (exact vle_int (by unfold nS; omega)) | fail))
  · exact t_1
  · exact t_142
  · exact t_45
  · exact t_1
set_option maxRecDepth 100000 in
set_option maxHeartbeats 4000000 in
theorem width_c (e : En) (h : okL e) : Does Try.prog 40 [.agg (enC e)] [] [] (.sc (.int .i64 (wE e : Int))) := by
  refine does_mkg 40 Try.func40 rfl rfl rfl (fun n B bx hd hpre hup hvs hbx hgx => ?_);have hbl_ := bE_len h;refine runs_seq ?_;refine runs_region ?_;refine rl1 (gn rfl) rfl rfl (step_box_agg (k := n + 0) rfl rfl) ⟨t_0, trivial⟩ (by omega) ?_;refine rl0 (gn rfl) rfl rfl (step_as rfl rfl) trivial ?_;refine runsL_nil ?_;refine runs_seq ?_;refine runs_region ?_;refine' rl0 (gn rfl) rfl rfl (step_load_all rfl rfl F.agg40 ?hl) ⟨?hb, trivial⟩ ?_
  case hb => exact t_0
  case hl => exact t_15
  refine rl0 (gn rfl) rfl rfl (step_callc rfl Try.func13 rfl rfl rfl (rput_ok e h.1 h.2) t_10) trivial ?_;refine rl0 (gn rfl) rfl rfl (step_mv rfl rfl) trivial ?_;refine rl0 (gn rfl) rfl rfl (step_extract rfl (ev_mk rfl) rfl) trivial ?_;refine rl0 (gn rfl) rfl rfl (step_extract rfl (ev_mk rfl) rfl) trivial ?_;refine rl0 (gn rfl) rfl rfl (step_as rfl rfl) trivial ?_;refine rl0 (gn rfl) rfl rfl (step_as rfl rfl) trivial ?_;refine runsL_nil ?_;refine runs_seq ?_;refine runs_region ?_;refine rl0 (gn rfl) rfl rfl (step_mv rfl rfl) trivial ?_;refine rl0 (gn rfl) rfl rfl (step_len (m := (bE e).length) rfl rfl (ev_mk rfl) (.inl ⟨⟨_, Try.underlying22⟩, .inl ⟨_, _, .inl rfl, bytesV_len (bE e)⟩⟩)) trivial ?_;refine rl0 (gn rfl) rfl rfl (step_add rfl (ev_mk rfl) (ev_mk rfl) (w64 (by omega))) trivial ?_;refine rl0 (gn rfl) rfl rfl (step_quo rfl (ev_mk rfl) (ev_mk rfl) (by omega) (by omega) (w64 (by omega))) trivial ?_;refine rl0 (gn rfl) rfl rfl (step_as rfl rfl) trivial ?_;refine runsL_nil ?_;refine runs_ret ?_;refine ⟨t_17, fin_mkg (rest rfl res0) ?_ ?_ ?_ ?_ ?_⟩
  · (repeat' (first | exact VLe.refl _ | exact VLe.own_sl _ _ _ | exact VLe.fl_sl _ _ | exact VLe.nil_sl _ | exact VLe.nil_fl _ | exact VLes.refl _ | exact .nil | refine VLe.tup ?_ | refine VLe.agg ?_ | refine .cons ?_ ?_ | (rw [Int.natCast_add]; exact VLe.refl _) | exact vle_int (by omega) | exact vle_bool t_159 | (exact vle_int (by unfold wE nS; omega)) | fail))
  · exact t_1
  · exact t_142
  · exact t_45
  · exact t_1
set_option maxRecDepth 100000 in
set_option maxHeartbeats 4000000 in
theorem rsame_r (e : En) (he : okEn e) (hL : (e.pages.length : Int) ≤ 9223372036854775807 ∧ (e.act.length : Int) ≤ 9223372036854775807) : Does Try.prog 41 [.agg (enC e), .agg (enC e)] [] [] (.sc (.bool true)) := by
  refine does_mkg 40 Try.func41 rfl rfl rfl (fun n B bx hd hpre hup hvs hbx hgx => ?_);refine runs_seq ?_;refine runs_region ?_;refine rl1 (gn rfl) rfl rfl (step_box_agg (k := n + 0) rfl rfl) ⟨t_0, trivial⟩ (by omega) ?_;refine rl1 (gn rfl) rfl rfl (step_box_agg (k := n + 1) rfl rfl) ⟨t_0, trivial⟩ (by omega) ?_;refine rl0 (gn rfl) rfl rfl (step_as rfl rfl) trivial ?_;refine runsL_nil ?_;refine runs_seq ?_;refine runs_seq ?_;refine runs_region ?_;refine rl0 (gn rfl) rfl rfl (step_fieldAddr (off := 0) rfl (ev_mk rfl) Try.underlying40 rfl F.sz33 rfl) trivial ?_;refine' rl0 (gn rfl) rfl rfl (step_load_one rfl (ev_mk rfl) F.one33 ?hv) ⟨?hb, trivial⟩ ?_
  case hb => exact t_0
  case hv => rfl
  refine rl0 (gn rfl) rfl rfl (step_fieldAddr (off := 0) rfl (ev_mk rfl) Try.underlying40 rfl F.sz33 rfl) trivial ?_;refine' rl0 (gn rfl) rfl rfl (step_load_one rfl (ev_mk rfl) F.one33 ?hv) ⟨?hb, trivial⟩ ?_
  case hb => exact t_0
  case hv => rfl
  refine rl_neq (gn rfl) rfl rfl rfl rfl rfl (fun h1 => ?_) (fun h1 => ?_)
  · exact t_42
  refine rl0 (gn rfl) rfl rfl (step_mv rfl rfl) trivial ?_;refine rl0 (gy rfl rfl rfl rfl rfl rfl) rfl rfl (step_fieldAddr (off := 1) rfl (ev_mk rfl) Try.underlying40 rfl F.sz3 rfl) trivial ?_;refine' rl0 (gy rfl rfl rfl rfl rfl rfl) rfl rfl (step_load_one rfl (ev_mk rfl) F.one3 ?hv) ⟨?hb, trivial⟩ ?_
  case hb => exact t_0
  case hv => rfl
  refine rl0 (gy rfl rfl rfl rfl rfl rfl) rfl rfl (step_fieldAddr (off := 1) rfl (ev_mk rfl) Try.underlying40 rfl F.sz3 rfl) trivial ?_;refine' rl0 (gy rfl rfl rfl rfl rfl rfl) rfl rfl (step_load_one rfl (ev_mk rfl) F.one3 ?hv) ⟨?hb, trivial⟩ ?_
  case hb => exact t_0
  case hv => rfl
  refine rl_neq (gy rfl rfl rfl rfl rfl rfl) rfl rfl rfl rfl rfl (fun h2 => ?_) (fun h2 => ?_)
  · exact t_42
  refine rl0 (gn rfl) rfl rfl (step_pick rfl (ev_mk rfl) (ev_mk rfl)) trivial ?_;refine rl0 (gn rfl) rfl rfl (step_mv rfl rfl) trivial ?_;refine rl0 (gy rfl rfl rfl rfl rfl rfl) rfl rfl (step_fieldAddr (off := 2) rfl (ev_mk rfl) Try.underlying40 rfl F.sz33 rfl) trivial ?_;refine' rl0 (gy rfl rfl rfl rfl rfl rfl) rfl rfl (step_load_one rfl (ev_mk rfl) F.one33 ?hv) ⟨?hb, trivial⟩ ?_
  case hb => exact t_0
  case hv => rfl
  refine rl0 (gy rfl rfl rfl rfl rfl rfl) rfl rfl (step_fieldAddr (off := 2) rfl (ev_mk rfl) Try.underlying40 rfl F.sz33 rfl) trivial ?_;refine' rl0 (gy rfl rfl rfl rfl rfl rfl) rfl rfl (step_load_one rfl (ev_mk rfl) F.one33 ?hv) ⟨?hb, trivial⟩ ?_
  case hb => exact t_0
  case hv => rfl
  refine rl_neq (gy rfl rfl rfl rfl rfl rfl) rfl rfl rfl rfl rfl (fun h3 => ?_) (fun h3 => ?_)
  · exact t_42
  refine rl0 (gn rfl) rfl rfl (step_pick rfl (ev_mk rfl) (ev_mk rfl)) trivial ?_;refine rl0 (gn rfl) rfl rfl (step_mv rfl rfl) trivial ?_;refine rl0 (gy rfl rfl rfl rfl rfl rfl) rfl rfl (step_fieldAddr (off := 3) rfl (ev_mk rfl) Try.underlying40 rfl F.sz33 rfl) trivial ?_;refine' rl0 (gy rfl rfl rfl rfl rfl rfl) rfl rfl (step_load_one rfl (ev_mk rfl) F.one33 ?hv) ⟨?hb, trivial⟩ ?_
  case hb => exact t_0
  case hv => rfl
  refine rl0 (gy rfl rfl rfl rfl rfl rfl) rfl rfl (step_fieldAddr (off := 3) rfl (ev_mk rfl) Try.underlying40 rfl F.sz33 rfl) trivial ?_;refine' rl0 (gy rfl rfl rfl rfl rfl rfl) rfl rfl (step_load_one rfl (ev_mk rfl) F.one33 ?hv) ⟨?hb, trivial⟩ ?_
  case hb => exact t_0
  case hv => rfl
  refine rl_neq (gy rfl rfl rfl rfl rfl rfl) rfl rfl rfl rfl rfl (fun h4 => ?_) (fun h4 => ?_)
  · exact t_42
  refine rl0 (gn rfl) rfl rfl (step_pick rfl (ev_mk rfl) (ev_mk rfl)) trivial ?_;refine rl0 (gn rfl) rfl rfl (step_mv rfl rfl) trivial ?_;refine rl0 (gy rfl rfl rfl rfl rfl rfl) rfl rfl (step_fieldAddr (off := 4) rfl (ev_mk rfl) Try.underlying40 rfl F.sz33 rfl) trivial ?_;refine' rl0 (gy rfl rfl rfl rfl rfl rfl) rfl rfl (step_load_one rfl (ev_mk rfl) F.one33 ?hv) ⟨?hb, trivial⟩ ?_
  case hb => exact t_0
  case hv => rfl
  refine rl0 (gy rfl rfl rfl rfl rfl rfl) rfl rfl (step_fieldAddr (off := 4) rfl (ev_mk rfl) Try.underlying40 rfl F.sz33 rfl) trivial ?_;refine' rl0 (gy rfl rfl rfl rfl rfl rfl) rfl rfl (step_load_one rfl (ev_mk rfl) F.one33 ?hv) ⟨?hb, trivial⟩ ?_
  case hb => exact t_0
  case hv => rfl
  refine rl_neq (gy rfl rfl rfl rfl rfl rfl) rfl rfl rfl rfl rfl (fun h5 => ?_) (fun h5 => ?_)
  · exact t_42
  refine rl0 (gn rfl) rfl rfl (step_pick rfl (ev_mk rfl) (ev_mk rfl)) trivial ?_;refine rl0 (gn rfl) rfl rfl (step_mv rfl rfl) trivial ?_;refine rl0 (gy rfl rfl rfl rfl rfl rfl) rfl rfl (step_fieldAddr (off := 5) rfl (ev_mk rfl) Try.underlying40 rfl F.sz36 rfl) trivial ?_;refine' rl0 (gy rfl rfl rfl rfl rfl rfl) rfl rfl (step_load_agg rfl (ev_mk rfl) F.agg36 ?hc ?hl) ⟨?hb, trivial⟩ ?_
  case hb => exact t_0
  case hc => rfl
  case hl => exact t_61
  refine rl0 (gy rfl rfl rfl rfl rfl rfl) rfl rfl (step_fieldAddr (off := 5) rfl (ev_mk rfl) Try.underlying40 rfl F.sz36 rfl) trivial ?_;refine' rl0 (gy rfl rfl rfl rfl rfl rfl) rfl rfl (step_load_agg rfl (ev_mk rfl) F.agg36 ?hc ?hl) ⟨?hb, trivial⟩ ?_
  case hb => exact t_0
  case hc => rfl
  case hl => exact t_61
  refine rl0 (gy rfl rfl rfl rfl rfl rfl) rfl rfl (step_neq25 rfl (ev_mk rfl) (ev_mk rfl)) trivial ?_;refine rl_know (d := 45) (c := false) rfl (rc_self e.r) ?_;refine rl0 (gn rfl) rfl rfl (step_pick rfl (ev_mk rfl) (ev_mk rfl)) trivial ?_;refine rl0 (gn rfl) rfl rfl (step_mv rfl rfl) trivial ?_;refine rl0 (gy rfl rfl rfl rfl rfl rfl) rfl rfl (step_fieldAddr (off := 11) rfl (ev_mk rfl) Try.underlying40 rfl F.sz37 rfl) trivial ?_;refine' rl0 (gy rfl rfl rfl rfl rfl rfl) rfl rfl (step_load_one rfl (ev_mk rfl) F.one37 ?hv) ⟨?hb, trivial⟩ ?_
  case hb => exact t_0
  case hv => rfl
  refine rl0 (gy rfl rfl rfl rfl rfl rfl) rfl rfl (step_len (m := e.pages.length) rfl rfl (ev_mk rfl) (.inl ⟨⟨_, Try.underlying37⟩, .inl ⟨_, _, .inl rfl, List.length_map _⟩⟩)) trivial ?_;refine rl0 (gy rfl rfl rfl rfl rfl rfl) rfl rfl (step_fieldAddr (off := 11) rfl (ev_mk rfl) Try.underlying40 rfl F.sz37 rfl) trivial ?_;refine' rl0 (gy rfl rfl rfl rfl rfl rfl) rfl rfl (step_load_one rfl (ev_mk rfl) F.one37 ?hv) ⟨?hb, trivial⟩ ?_
  case hb => exact t_0
  case hv => rfl
  refine rl0 (gy rfl rfl rfl rfl rfl rfl) rfl rfl (step_len (m := e.pages.length) rfl rfl (ev_mk rfl) (.inl ⟨⟨_, Try.underlying37⟩, .inl ⟨_, _, .inl rfl, List.length_map _⟩⟩)) trivial ?_;refine rl_neq (gy rfl rfl rfl rfl rfl rfl) rfl rfl rfl rfl rfl (fun h6 => ?_) (fun h6 => ?_)
  · exact t_42
  refine rl0 (gn rfl) rfl rfl (step_pick rfl (ev_mk rfl) (ev_mk rfl)) trivial ?_;refine rl0 (gn rfl) rfl rfl (step_mv rfl rfl) trivial ?_;refine rl0 (gy rfl rfl rfl rfl rfl rfl) rfl rfl (step_fieldAddr (off := 12) rfl (ev_mk rfl) Try.underlying40 rfl F.sz38 rfl) trivial ?_;refine' rl0 (gy rfl rfl rfl rfl rfl rfl) rfl rfl (step_load_one rfl (ev_mk rfl) F.one38 ?hv) ⟨?hb, trivial⟩ ?_
  case hb => exact t_0
  case hv => rfl
  refine rl0 (gy rfl rfl rfl rfl rfl rfl) rfl rfl (step_len (m := e.act.length) rfl rfl (ev_mk rfl) (.inl ⟨⟨_, Try.underlying38⟩, .inl ⟨_, _, .inl rfl, List.length_map _⟩⟩)) trivial ?_;refine rl0 (gy rfl rfl rfl rfl rfl rfl) rfl rfl (step_fieldAddr (off := 12) rfl (ev_mk rfl) Try.underlying40 rfl F.sz38 rfl) trivial ?_;refine' rl0 (gy rfl rfl rfl rfl rfl rfl) rfl rfl (step_load_one rfl (ev_mk rfl) F.one38 ?hv) ⟨?hb, trivial⟩ ?_
  case hb => exact t_0
  case hv => rfl
  refine rl0 (gy rfl rfl rfl rfl rfl rfl) rfl rfl (step_len (m := e.act.length) rfl rfl (ev_mk rfl) (.inl ⟨⟨_, Try.underlying38⟩, .inl ⟨_, _, .inl rfl, List.length_map _⟩⟩)) trivial ?_;refine rl_neq (gy rfl rfl rfl rfl rfl rfl) rfl rfl rfl rfl rfl (fun h7 => ?_) (fun h7 => ?_)
  · exact t_42
  refine rl0 (gn rfl) rfl rfl (step_pick rfl (ev_mk rfl) (ev_mk rfl)) trivial ?_;refine runsL_nil ?_;refine runs_cond false (ev_mk rfl) (fun h_ => nomatch h_) (fun _ => ?_);refine runs_skip ?_;refine runs_seq ?_;refine runs_seq ?_;refine runs_region ?_;refine rl0 (gn rfl) rfl rfl (step_as rfl rfl) trivial ?_;refine runsL_nil ?_;refine runs_block ?_;refine runs_loop (fun (ri_ : Nat) (st_ : Go.Vm.S) => ∃ (j : Nat) (m0 : Nat) (b0 : Nat → Box), (st_ = ⟨mk [(2, .ref (n + 0) 0), (3, .ref (n + 1) 0), (4, .sc (.bool false)), (5, .sc (.int .i64 (j : Int)))], m0, b0⟩) ∧ (ri_ = 1 + (e.pages.length - j)) ∧ (n + 2 ≤ m0) ∧ (∀ k_, k_ < n → b0 k_ = bx k_) ∧ (b0 (n + 0) = .cells [.sc (.int .u64 e.lsn), .sc (.int .i64 e.kind), .sc (.int .u64 e.txn), .sc (.int .u64 e.prev), .sc (.int .u64 e.next), .sc (.int .u64 e.r.id), .sc (.int .u64 e.r.key), .sc (.int .u32 e.r.x), .sc (.int .u32 e.r.y), .sc (.string e.r.val), .sc (.bool e.r.gh), .sl 225 (e.pages.map imR), .sl 1 (e.act.map acR)]) ∧ (b0 (n + 1) = .cells [.sc (.int .u64 e.lsn), .sc (.int .i64 e.kind), .sc (.int .u64 e.txn), .sc (.int .u64 e.prev), .sc (.int .u64 e.next), .sc (.int .u64 e.r.id), .sc (.int .u64 e.r.key), .sc (.int .u32 e.r.x), .sc (.int .u32 e.r.y), .sc (.string e.r.val), .sc (.bool e.r.gh), .sl 225 (e.pages.map imR), .sl 1 (e.act.map acR)]) ∧ (j ≤ e.pages.length)) (1 + (e.pages.length - 0)) ⟨_, sle ?_ (Nat.le_refl _), 0, _, _, rfl, rfl, ?_⟩ ?_
  · exact t_129
  · exact t_150
  · rintro _ _ ⟨j, m0, b0, rfl, rfl, hm0, hf0, hB0_0, hB0_1, hF0_0⟩
    refine runs_know (fun hd0 => ?_);refine runs_bump 20 ?_;simp only at hd0;refine runs_seq ?_;refine runs_seq ?_;refine runs_region ?_;refine rl0 (gn rfl) rfl rfl (step_mv rfl rfl) trivial ?_;refine rl0 (gn rfl) rfl rfl (step_fieldAddr (off := 11) rfl (ev_mk rfl) Try.underlying40 rfl F.sz37 rfl) trivial ?_;refine' rl0 (gn rfl) rfl rfl (step_load_one rfl (ev_mk rfl) F.one37 ?hv) ⟨?hb, trivial⟩ ?_
    case hb => exact t_4
    case hv => rfl
    refine rl0 (gn rfl) rfl rfl (step_len (m := e.pages.length) rfl rfl (ev_mk rfl) (.inl ⟨⟨_, Try.underlying37⟩, .inl ⟨_, _, .inl rfl, List.length_map _⟩⟩)) trivial ?_;refine rl_lss (gn rfl) rfl rfl rfl rfl rfl (fun h8 => ?_) (fun h8 => ?_)
    · skip
      refine runsL_nil ?_;refine runs_cond true (ev_mk rfl) (fun _ => ?_) (fun h_ => nomatch h_);refine runs_skip ?_;refine runs_seq ?_;refine runs_block ?_;refine runs_seq ?_;refine runs_draw (by kernel_rfl) (by kernel_rfl) (by kernel_rfl) ?_;refine dl0 (gn rfl) rfl rfl (step_fieldAddr (off := 11) rfl (ev_mk rfl) Try.underlying40 rfl F.sz37 rfl) trivial ?_;refine' dl0 (gn rfl) rfl rfl (step_load_one rfl (ev_mk rfl) F.one37 ?hv) ⟨?hb, trivial⟩ ?_
      case hb => exact t_4
      case hv => rfl
      refine dl0 (gn rfl) rfl rfl (step_mv rfl rfl) trivial ?_;refine' dl0 (gn rfl) rfl rfl (step_index rfl (ev_mk rfl) (.inl rfl) (ev_mk rfl) Try.underlying37 F.sz86 (by omega) ?hr) trivial ?_
      case hr => exact t_31
      refine dl0 (gn rfl) rfl rfl (step_fieldAddr_ro (off := 0) rfl (ev_mk rfl) Try.underlying86 rfl F.sz3 rfl rfl) trivial ?_;refine dl0 (gn rfl) rfl rfl (step_load_ro (v := .sc (.int .i64 (at' e.pages (j : Int)).n)) rfl (ev_mk rfl) F.one3 rfl) trivial ?_;refine dl0 (gn rfl) rfl rfl (step_fieldAddr (off := 11) rfl (ev_mk rfl) Try.underlying40 rfl F.sz37 rfl) trivial ?_;refine' dl0 (gn rfl) rfl rfl (step_load_one rfl (ev_mk rfl) F.one37 ?hv) ⟨?hb, trivial⟩ ?_
      case hb => exact t_4
      case hv => rfl
      refine dl0 (gn rfl) rfl rfl (step_mv rfl rfl) trivial ?_;refine' dl0 (gn rfl) rfl rfl (step_index rfl (ev_mk rfl) (.inl rfl) (ev_mk rfl) Try.underlying37 F.sz86 (by omega) ?hr) trivial ?_
      case hr => exact t_31
      refine dl0 (gn rfl) rfl rfl (step_fieldAddr_ro (off := 0) rfl (ev_mk rfl) Try.underlying86 rfl F.sz3 rfl rfl) trivial ?_;refine dl0 (gn rfl) rfl rfl (step_load_ro (v := .sc (.int .i64 (at' e.pages (j : Int)).n)) rfl (ev_mk rfl) F.one3 rfl) trivial ?_;refine dl_neq (gn rfl) rfl rfl rfl rfl rfl (fun h9 => ?_) (fun h9 => ?_)
      · exact t_42
      refine dl0 (gn rfl) rfl rfl (step_mv rfl rfl) trivial ?_;refine dl0 (gy rfl rfl rfl rfl rfl rfl) rfl rfl (step_fieldAddr (off := 11) rfl (ev_mk rfl) Try.underlying40 rfl F.sz37 rfl) trivial ?_;refine' dl0 (gy rfl rfl rfl rfl rfl rfl) rfl rfl (step_load_one rfl (ev_mk rfl) F.one37 ?hv) ⟨?hb, trivial⟩ ?_
      case hb => exact t_4
      case hv => rfl
      refine dl0 (gy rfl rfl rfl rfl rfl rfl) rfl rfl (step_mv rfl rfl) trivial ?_;refine' dl0 (gy rfl rfl rfl rfl rfl rfl) rfl rfl (step_index rfl (ev_mk rfl) (.inl rfl) (ev_mk rfl) Try.underlying37 F.sz86 (by omega) ?hr) trivial ?_
      case hr => exact t_31
      refine dl0 (gy rfl rfl rfl rfl rfl rfl) rfl rfl (step_fieldAddr_ro (off := 1) rfl (ev_mk rfl) Try.underlying86 rfl F.sz84 rfl rfl) trivial ?_;refine dl0 (gy rfl rfl rfl rfl rfl rfl) rfl rfl (step_load_ro_all rfl rfl F.agg84 t_61) trivial ?_;refine dl0 (gy rfl rfl rfl rfl rfl rfl) rfl rfl (step_fieldAddr (off := 11) rfl (ev_mk rfl) Try.underlying40 rfl F.sz37 rfl) trivial ?_;refine' dl0 (gy rfl rfl rfl rfl rfl rfl) rfl rfl (step_load_one rfl (ev_mk rfl) F.one37 ?hv) ⟨?hb, trivial⟩ ?_
      case hb => exact t_4
      case hv => rfl
      refine dl0 (gy rfl rfl rfl rfl rfl rfl) rfl rfl (step_mv rfl rfl) trivial ?_;refine' dl0 (gy rfl rfl rfl rfl rfl rfl) rfl rfl (step_index rfl (ev_mk rfl) (.inl rfl) (ev_mk rfl) Try.underlying37 F.sz86 (by omega) ?hr) trivial ?_
      case hr => exact t_31
      refine dl0 (gy rfl rfl rfl rfl rfl rfl) rfl rfl (step_fieldAddr_ro (off := 1) rfl (ev_mk rfl) Try.underlying86 rfl F.sz84 rfl rfl) trivial ?_;refine dl0 (gy rfl rfl rfl rfl rfl rfl) rfl rfl (step_load_ro_all rfl rfl F.agg84 t_61) trivial ?_;refine dl0 (gy rfl rfl rfl rfl rfl rfl) rfl rfl (step_neq49 (a := (at' e.pages (j : Int)).p) (b := (at' e.pages (j : Int)).p) rfl (ev_mk rfl) (ev_mk rfl) (okPg_of he _ (at_mem (xs := e.pages) (i := (j : Int)) (by omega) (by omega))) (okPg_of he _ (at_mem (xs := e.pages) (i := (j : Int)) (by omega) (by omega)))) trivial ?_;refine dl_know (d := 98) (c := false) rfl (pg_self _) ?_;refine dl0 (gn rfl) rfl rfl (step_pick rfl (ev_mk rfl) (ev_mk rfl)) trivial ?_;refine dlnil ?_ ?_
      · exact t_12
      refine runs_cond false (ev_mk rfl) (fun h_ => nomatch h_) (fun _ => ?_);refine runs_skip ?_;refine runs_region ?_;refine rl0 (gn rfl) rfl rfl (step_mv rfl rfl) trivial ?_;refine rl0 (gn rfl) rfl rfl (step_add rfl (ev_mk rfl) (ev_mk rfl) (w64 (by omega))) trivial ?_;refine rl0 (gn rfl) rfl rfl (step_as rfl rfl) trivial ?_;refine runsL_nil ?_;refine ⟨_, _, ?_, sle ?_ (Nat.le_refl _), (j + 1), _, _, rfl, rfl, by omega, (fun k_ hk_ => t_24), t_158, t_158, by omega⟩
      · omega
      · exact t_129
    · skip
      refine runsL_nil ?_;refine runs_cond false (ev_mk rfl) (fun h_ => nomatch h_) (fun _ => ?_);refine runs_exit ?_;refine runs_seq ?_;refine runs_seq ?_;refine runs_region ?_;refine rl0 (gn rfl) rfl rfl (step_as rfl rfl) trivial ?_;refine runsL_nil ?_;refine runs_block ?_;refine runs_loop (fun (ri_ : Nat) (st_ : Go.Vm.S) => ∃ (w : Nat) (m1 : Nat) (b1 : Nat → Box), (st_ = ⟨mk [(2, .ref (n + 0) 0), (3, .ref (n + 1) 0), (4, .sc (.bool false)), (6, .sc (.int .i64 (w : Int)))], m1, b1⟩) ∧ (ri_ = 1 + (e.act.length - w)) ∧ (m0 + 0 ≤ m1) ∧ (∀ k_, k_ < n → b1 k_ = bx k_) ∧ (b1 (n + 0) = .cells [.sc (.int .u64 e.lsn), .sc (.int .i64 e.kind), .sc (.int .u64 e.txn), .sc (.int .u64 e.prev), .sc (.int .u64 e.next), .sc (.int .u64 e.r.id), .sc (.int .u64 e.r.key), .sc (.int .u32 e.r.x), .sc (.int .u32 e.r.y), .sc (.string e.r.val), .sc (.bool e.r.gh), .sl 225 (e.pages.map imR), .sl 1 (e.act.map acR)]) ∧ (b1 (n + 1) = .cells [.sc (.int .u64 e.lsn), .sc (.int .i64 e.kind), .sc (.int .u64 e.txn), .sc (.int .u64 e.prev), .sc (.int .u64 e.next), .sc (.int .u64 e.r.id), .sc (.int .u64 e.r.key), .sc (.int .u32 e.r.x), .sc (.int .u32 e.r.y), .sc (.string e.r.val), .sc (.bool e.r.gh), .sl 225 (e.pages.map imR), .sl 1 (e.act.map acR)]) ∧ (w ≤ e.act.length)) (1 + (e.act.length - 0)) ⟨_, sle ?_ (Nat.le_refl _), 0, _, _, rfl, rfl, ?_⟩ ?_
      · exact t_129
      · exact ⟨by omega, (fun k_ hk_ => t_18), t_158, t_158, by omega⟩
      · rintro _ _ ⟨w, m1, b1, rfl, rfl, hm1, hf1, hB1_0, hB1_1, hF1_0⟩
        refine runs_know (fun hd1 => ?_);refine runs_bump 20 ?_;simp only at hd1;refine runs_seq ?_;refine runs_seq ?_;refine runs_region ?_;refine rl0 (gn rfl) rfl rfl (step_mv rfl rfl) trivial ?_;refine rl0 (gn rfl) rfl rfl (step_fieldAddr (off := 12) rfl (ev_mk rfl) Try.underlying40 rfl F.sz38 rfl) trivial ?_;refine' rl0 (gn rfl) rfl rfl (step_load_one rfl (ev_mk rfl) F.one38 ?hv) ⟨?hb, trivial⟩ ?_
        case hb => exact t_9
        case hv => rfl
        refine rl0 (gn rfl) rfl rfl (step_len (m := e.act.length) rfl rfl (ev_mk rfl) (.inl ⟨⟨_, Try.underlying38⟩, .inl ⟨_, _, .inl rfl, List.length_map _⟩⟩)) trivial ?_;refine rl_lss (gn rfl) rfl rfl rfl rfl rfl (fun h9 => ?_) (fun h9 => ?_)
        · skip
          refine runsL_nil ?_;refine runs_cond true (ev_mk rfl) (fun _ => ?_) (fun h_ => nomatch h_);refine runs_skip ?_;refine runs_seq ?_;refine runs_block ?_;refine runs_seq ?_;refine runs_draw (by kernel_rfl) (by kernel_rfl) (by kernel_rfl) ?_;refine dl0 (gn rfl) rfl rfl (step_fieldAddr (off := 12) rfl (ev_mk rfl) Try.underlying40 rfl F.sz38 rfl) trivial ?_;refine' dl0 (gn rfl) rfl rfl (step_load_one rfl (ev_mk rfl) F.one38 ?hv) ⟨?hb, trivial⟩ ?_
          case hb => exact t_9
          case hv => rfl
          refine dl0 (gn rfl) rfl rfl (step_mv rfl rfl) trivial ?_;refine' dl0 (gn rfl) rfl rfl (step_index rfl (ev_mk rfl) (.inl rfl) (ev_mk rfl) Try.underlying38 F.sz33 (by omega) ?hr) trivial ?_
          case hr => exact t_31
          refine dl0 (gn rfl) rfl rfl (step_load_ro rfl (ev_mk rfl) F.one33 rfl) trivial ?_;refine dl0 (gn rfl) rfl rfl (step_fieldAddr (off := 12) rfl (ev_mk rfl) Try.underlying40 rfl F.sz38 rfl) trivial ?_;refine' dl0 (gn rfl) rfl rfl (step_load_one rfl (ev_mk rfl) F.one38 ?hv) ⟨?hb, trivial⟩ ?_
          case hb => exact t_9
          case hv => rfl
          refine dl0 (gn rfl) rfl rfl (step_mv rfl rfl) trivial ?_;refine' dl0 (gn rfl) rfl rfl (step_index rfl (ev_mk rfl) (.inl rfl) (ev_mk rfl) Try.underlying38 F.sz33 (by omega) ?hr) trivial ?_
          case hr => exact t_31
          refine dl0 (gn rfl) rfl rfl (step_load_ro rfl (ev_mk rfl) F.one33 rfl) trivial ?_;refine dl_neq (gn rfl) rfl rfl rfl rfl rfl (fun h10 => ?_) (fun h10 => ?_)
          · skip
            refine dlnil ?_ ?_
            · exact t_12
            refine runs_cond true (ev_mk rfl) (fun _ => ?_) (fun h_ => nomatch h_);refine runs_seq ?_;refine runs_region ?_;refine rl0 (gn rfl) rfl rfl (step_as rfl rfl) trivial ?_;refine runsL_nil ?_;refine runs_ret ?_;refine ⟨t_17, fin_mkg (rest rfl res0) ?_ ?_ ?_ ?_ ?_⟩
            · exact t_2
            · exact t_1
            · exact t_34
            · exact t_45
            · exact t_1
          · skip
            refine dlnil ?_ ?_
            · exact t_12
            refine runs_cond false (ev_mk rfl) (fun h_ => nomatch h_) (fun _ => ?_);refine runs_skip ?_;refine runs_region ?_;refine rl0 (gn rfl) rfl rfl (step_mv rfl rfl) trivial ?_;refine rl0 (gn rfl) rfl rfl (step_add rfl (ev_mk rfl) (ev_mk rfl) (w64 (by omega))) trivial ?_;refine rl0 (gn rfl) rfl rfl (step_as rfl rfl) trivial ?_;refine runsL_nil ?_;refine ⟨_, _, ?_, sle ?_ (Nat.le_refl _), (w + 1), _, _, rfl, rfl, by omega, (fun k_ hk_ => t_36), t_158, t_158, by omega⟩
            · omega
            · exact t_129
        · skip
          refine runsL_nil ?_;refine runs_cond false (ev_mk rfl) (fun h_ => nomatch h_) (fun _ => ?_);refine runs_exit ?_;refine runs_seq ?_;refine runs_region ?_;refine rl0 (gn rfl) rfl rfl (step_as rfl rfl) trivial ?_;refine runsL_nil ?_;refine runs_ret ?_;refine ⟨t_17, fin_mkg (rest rfl res0) ?_ ?_ ?_ ?_ ?_⟩
          · exact t_2
          · exact t_1
          · exact t_34
          · exact t_45
          · exact t_1
set_option maxRecDepth 100000 in
set_option maxHeartbeats 4000000 in
theorem rsames_r (l : List En) (hl : l.length ≤ 100000) (h : ∀ e ∈ l, okL e) : Does Try.prog 16 [.sl 13 (l.map enC), .sl 13 (l.map enC)] [] [] (.sc (.bool true)) := by
  refine does_mkg 40 Try.func16 rfl rfl rfl (fun n B bx hd hpre hup hvs hbx hgx => ?_);refine runs_seq ?_;refine runs_region ?_;refine rl0 (gn rfl) rfl rfl (step_as rfl rfl) trivial ?_;refine runsL_nil ?_;refine runs_seq ?_;refine runs_seq ?_;refine runs_region ?_;refine rl0 (gn rfl) rfl rfl (step_mv rfl rfl) trivial ?_;refine rl0 (gn rfl) rfl rfl (step_len (m := l.length) rfl rfl (ev_mk rfl) (.inl ⟨⟨_, Try.underlying24⟩, .inl ⟨_, _, .inl rfl, List.length_map _⟩⟩)) trivial ?_;refine rl0 (gn rfl) rfl rfl (step_mv rfl rfl) trivial ?_;refine rl0 (gn rfl) rfl rfl (step_len (m := l.length) rfl rfl (ev_mk rfl) (.inl ⟨⟨_, Try.underlying24⟩, .inl ⟨_, _, .inl rfl, List.length_map _⟩⟩)) trivial ?_;refine rl_neq (gn rfl) rfl rfl rfl rfl rfl (fun h1 => ?_) (fun h1 => ?_)
  · exact t_42
  refine runsL_nil ?_;refine runs_cond false (ev_mk rfl) (fun h_ => nomatch h_) (fun _ => ?_);refine runs_skip ?_;refine runs_seq ?_;refine runs_seq ?_;refine runs_region ?_;refine rl0 (gn rfl) rfl rfl (step_as rfl rfl) trivial ?_;refine runsL_nil ?_;refine runs_block ?_;refine runs_loop (fun (ri_ : Nat) (st_ : Go.Vm.S) => ∃ (i : Nat) (m0 : Nat) (b0 : Nat → Box), (st_ = ⟨mk [(0, .sl 13 (l.map enC)), (1, .sl 13 (l.map enC)), (4, .sc (.bool false)), (5, .sc (.int .i64 (i : Int)))], m0, b0⟩) ∧ (ri_ = 1 + (l.length - i)) ∧ (n + 0 ≤ m0) ∧ (∀ k_, k_ < n → b0 k_ = bx k_) ∧ (i ≤ l.length)) (1 + (l.length - 0)) ⟨_, sle ?_ (Nat.le_refl _), 0, _, _, rfl, rfl, ?_⟩ ?_
  · exact t_129
  · exact t_156
  · rintro _ _ ⟨i, m0, b0, rfl, rfl, hm0, hf0, hF0_0⟩
    refine runs_know (fun hd0 => ?_);refine runs_bump 20 ?_;simp only at hd0;refine runs_seq ?_;refine runs_seq ?_;refine runs_region ?_;refine rl0 (gn rfl) rfl rfl (step_mv rfl rfl) trivial ?_;refine rl0 (gn rfl) rfl rfl (step_mv rfl rfl) trivial ?_;refine rl0 (gn rfl) rfl rfl (step_len (m := l.length) rfl rfl (ev_mk rfl) (.inl ⟨⟨_, Try.underlying24⟩, .inl ⟨_, _, .inl rfl, List.length_map _⟩⟩)) trivial ?_;refine rl_lss (gn rfl) rfl rfl rfl rfl rfl (fun h2 => ?_) (fun h2 => ?_)
    · skip
      have hm_ := h _ (at_memE (l := l) (i := i) (by omega))
      have hml_ := hm_.len
      refine runsL_nil ?_;refine runs_cond true (ev_mk rfl) (fun _ => ?_) (fun h_ => nomatch h_);refine runs_skip ?_;refine runs_seq ?_;refine runs_block ?_;refine runs_seq ?_;refine runs_draw (by kernel_rfl) (by kernel_rfl) (by kernel_rfl) ?_;refine dl0 (gn rfl) rfl rfl (step_mv rfl rfl) trivial ?_;refine dl0 (gn rfl) rfl rfl (step_mv rfl rfl) trivial ?_;refine' dl0 (gn rfl) rfl rfl (step_index rfl (ev_mk rfl) (.inl rfl) (ev_mk rfl) Try.underlying24 F.sz40 (by omega) ?hr) trivial ?_
      case hr => exact t_31
      refine dl0 (gn rfl) rfl rfl (step_load_ro_all rfl rfl F.agg40 t_15) trivial ?_;refine dl0 (gn rfl) rfl rfl (step_mv rfl rfl) trivial ?_;refine dl0 (gn rfl) rfl rfl (step_mv rfl rfl) trivial ?_;refine' dl0 (gn rfl) rfl rfl (step_index rfl (ev_mk rfl) (.inl rfl) (ev_mk rfl) Try.underlying24 F.sz40 (by omega) ?hr) trivial ?_
      case hr => exact t_31
      refine dl0 (gn rfl) rfl rfl (step_load_ro_all rfl rfl F.agg40 t_15) trivial ?_;refine dl0 (gn rfl) rfl rfl (step_callc rfl Try.func41 rfl rfl rfl (rsame_r (at' l (i : Int)) hm_.1 ⟨by omega, by omega⟩) t_10) trivial ?_;refine dl0 (gn rfl) rfl rfl (step_unOp (c := .bool false) rfl (ev_mk rfl) (fun _ => rfl)) trivial ?_;refine dlnil ?_ ?_
      · exact t_12
      refine runs_cond false (ev_mk rfl) (fun h_ => nomatch h_) (fun _ => ?_);refine runs_skip ?_;refine runs_region ?_;refine rl0 (gn rfl) rfl rfl (step_mv rfl rfl) trivial ?_;refine rl0 (gn rfl) rfl rfl (step_add rfl (ev_mk rfl) (ev_mk rfl) (w64 (by omega))) trivial ?_;refine rl0 (gn rfl) rfl rfl (step_as rfl rfl) trivial ?_;refine runsL_nil ?_;refine ⟨_, _, ?_, sle ?_ (Nat.le_refl _), (i + 1), _, _, rfl, rfl, by omega, (fun k_ hk_ => t_24), by omega⟩
      · omega
      · exact t_129
    · skip
      refine runsL_nil ?_;refine runs_cond false (ev_mk rfl) (fun h_ => nomatch h_) (fun _ => ?_);refine runs_exit ?_;refine runs_seq ?_;refine runs_region ?_;refine rl0 (gn rfl) rfl rfl (step_as rfl rfl) trivial ?_;refine runsL_nil ?_;refine runs_ret ?_;refine ⟨t_17, fin_mkg (rest rfl res0) ?_ ?_ ?_ ?_ ?_⟩
      · exact t_2
      · exact t_1
      · exact t_147
      · exact t_45
      · exact t_1
set_option maxRecDepth 100000 in
set_option maxHeartbeats 4000000 in
theorem rapp_no (es : List En) (e : En) (sz us dn : Nat) (he : okEn e) (hb : es.length ≤ 100000 ∧ sz ≤ 1000000 ∧ us ≤ 1000000 ∧ dn ≤ 1000000) (hL : (e.pages.length : Int) ≤ 9223372036854775807 ∧ (e.act.length : Int) ≤ 9223372036854775807) (hc : ¬ chkF e = 0) : Does Try.prog 12 [.agg [.sc (.int .i64 (sz : Int)), .sl 13 (es.map enC), .sc (.int .i64 (us : Int)), .sc (.int .i64 (dn : Int))], .agg (enC e)] [] [] (.tup [.agg [.sc (.int .i64 (sz : Int)), .sl 13 (es.map enC), .sc (.int .i64 (us : Int)), .sc (.int .i64 (dn : Int))], .sc (.int .u64 0), .sc (.int .i64 (chkF e))]) := by
  refine does_mkg 40 Try.func12 rfl rfl rfl (fun n B bx hd hpre hup hvs hbx hgx => ?_);refine runs_seq ?_;refine runs_region ?_;refine rl1 (gn rfl) rfl rfl (step_box_agg (k := n + 0) rfl rfl) ⟨t_0, trivial⟩ (by omega) ?_;refine rl1 (gn rfl) rfl rfl (step_box_agg (k := n + 1) rfl rfl) ⟨t_0, trivial⟩ (by omega) ?_;refine rl1 (gn rfl) rfl rfl (step_allocc (k := n + 2) (zs := [.int .i64 0, .slice none 0 0, .int .i64 0, .int .i64 0]) (cs := [.sc (.int .i64 0), .sc (.slice none 0 0), .sc (.int .i64 0), .sc (.int .i64 0)]) rfl F.zero31 t_33 t_55 t_33) ⟨t_0, trivial⟩ (by omega) ?_;refine rl0 (gn rfl) rfl rfl (step_as rfl rfl) trivial ?_;refine rl0 (gn rfl) rfl rfl (step_as rfl rfl) trivial ?_;refine runsL_nil ?_;refine runs_seq ?_;refine runs_region ?_;refine' rl0 (gn rfl) rfl rfl (step_load_all rfl rfl F.agg40 ?hl) ⟨?hb, trivial⟩ ?_
  case hb => exact t_0
  case hl => exact t_15
  refine rl1 (gn rfl) rfl rfl (step_allocc (k := n + 3) (zs := [.int .u64 0, .int .i64 0, .int .u64 0, .int .u64 0, .int .u64 0, .int .u64 0, .int .u64 0, .int .u32 0, .int .u32 0, .string ByteArray.empty, .bool false, .slice none 0 0, .slice none 0 0]) (cs := [.sc (.int .u64 0), .sc (.int .i64 0), .sc (.int .u64 0), .sc (.int .u64 0), .sc (.int .u64 0), .sc (.int .u64 0), .sc (.int .u64 0), .sc (.int .u32 0), .sc (.int .u32 0), .sc (.string ByteArray.empty), .sc (.bool false), .sc (.slice none 0 0), .sc (.slice none 0 0)]) rfl F.zero40 t_33 t_55 t_33) ⟨t_0, trivial⟩ (by omega) ?_;refine' rls (gn rfl) rfl (step_storeA rfl rfl rfl rfl F.agg40 ?hm ?hl) ⟨?hb, trivial⟩ ?hk ?_
  case hb => exact t_0
  case hm => exact t_15
  case hl => exact t_15
  case hk => omega
  refine runsL_nil ?_;refine runs_seq ?_;refine runs_region ?_;refine rl0 (gn rfl) rfl rfl (step_fieldAddr (off := 2) rfl (ev_mk rfl) Try.underlying31 rfl F.sz3 rfl) trivial ?_;refine' rl0 (gn rfl) rfl rfl (step_load_one rfl (ev_mk rfl) F.one3 ?hv) ⟨?hb, trivial⟩ ?_
  case hb => exact t_0
  case hv => rfl
  refine rl0 (gn rfl) rfl rfl (step_conv_id rfl rfl Try.underlying3 Try.underlying33 (wu64 (by omega))) trivial ?_;refine rl0 (gn rfl) rfl rfl (step_add rfl (ev_mk rfl) (ev_mk rfl) (wu64 (by omega))) trivial ?_;refine rl0 (gn rfl) rfl rfl (step_fieldAddr (off := 0) rfl (ev_mk rfl) Try.underlying40 rfl F.sz33 rfl) trivial ?_;refine' rls (gn rfl) rfl (step_store1 rfl rfl rfl rfl F.one33 rfl rfl ?hl ?hc) ⟨?hb, trivial⟩ ?hk ?_
  case hb => exact t_0
  case hl => exact t_22
  case hc => exact t_28
  case hk => omega
  refine runsL_nil ?_;refine runs_seq ?_;refine runs_region ?_;refine' rl0 (gn rfl) rfl rfl (step_load_all rfl rfl F.agg40 ?hl) ⟨?hb, trivial⟩ ?_
  case hb => exact t_0
  case hl => exact t_15
  refine rl0 (gn rfl) rfl rfl (step_callc rfl Try.func13 rfl rfl rfl (rput_no (enAt e ((us : Int) + 1)) (okEn_at he t_98) hL hc) t_10) trivial ?_;refine rl0 (gn rfl) rfl rfl (step_mv rfl rfl) trivial ?_;refine rl0 (gn rfl) rfl rfl (step_extract rfl (ev_mk rfl) rfl) trivial ?_;refine rl0 (gn rfl) rfl rfl (step_extract rfl (ev_mk rfl) rfl) trivial ?_;refine rl0 (gn rfl) rfl rfl (step_as rfl rfl) trivial ?_;refine rl0 (gn rfl) rfl rfl (step_as rfl rfl) trivial ?_;refine runsL_nil ?_;refine runs_seq ?_;refine runs_seq ?_;refine runs_region ?_;refine rl0 (gn rfl) rfl rfl (step_mv rfl rfl) trivial ?_;refine rl_neq (gn rfl) rfl rfl rfl rfl rfl (fun h1 => ?_) (fun h1 => ?_)
  rotate_left
  · exact False.elim (by exact hc h1)
  refine runsL_nil ?_;refine runs_cond true (ev_mk rfl) (fun _ => ?_) (fun h_ => nomatch h_);refine runs_seq ?_;refine runs_region ?_;refine' rl0 (gn rfl) rfl rfl (step_load_all rfl rfl F.agg31 ?hl) ⟨?hb, trivial⟩ ?_
  case hb => exact t_0
  case hl => exact t_15
  refine rl0 (gn rfl) rfl rfl (step_mv rfl rfl) trivial ?_;refine' rls (gn rfl) rfl (step_storeA rfl rfl rfl rfl F.agg31 ?hm ?hl) ⟨?hb, trivial⟩ ?hk ?_
  case hb => exact t_0
  case hm => exact t_15
  case hl => exact t_15
  case hk => omega
  refine rl0 (gn rfl) rfl rfl (step_as rfl rfl) trivial ?_;refine rl0 (gn rfl) rfl rfl (step_as rfl rfl) trivial ?_;refine runsL_nil ?_;refine runs_ret ?_;refine ⟨t_17, fin_mkg (resc rfl t_0 F.agg31 t_15 (rest rfl (rest rfl res0))) ?_ ?_ ?_ ?_ ?_⟩
  · exact t_2
  · exact t_1
  · exact t_142
  · exact t_45
  · exact t_1
set_option maxRecDepth 100000 in
set_option maxHeartbeats 4000000 in
theorem rapp_full (es : List En) (e : En) (sz us dn : Nat) (he : okEn e) (hb : es.length ≤ 100000 ∧ sz ≤ 1000000 ∧ us ≤ 1000000 ∧ dn ≤ 1000000) (hc : chkF e = 0) (hw : ¬ (us + wE (enAt e ((us : Int) + 1)) ≤ sz)) : Does Try.prog 12 [.agg [.sc (.int .i64 (sz : Int)), .sl 13 (es.map enC), .sc (.int .i64 (us : Int)), .sc (.int .i64 (dn : Int))], .agg (enC e)] [] [] (.tup [.agg [.sc (.int .i64 (sz : Int)), .sl 13 (es.map enC), .sc (.int .i64 (us : Int)), .sc (.int .i64 (dn : Int))], .sc (.int .u64 0), .sc (.int .i64 6)]) := by
  refine does_mkg 40 Try.func12 rfl rfl rfl (fun n B bx hd hpre hup hvs hbx hgx => ?_);have hok_ : okL (enAt e ((us : Int) + 1)) := ⟨(okEn_at he t_98), hc⟩;have hby_ := bE_byts hok_;have hbl_ := bE_len hok_;have hwl_ : (cutB (bE (enAt e ((us : Int) + 1))) 0).length = wE (enAt e ((us : Int) + 1)) := cutB_len _ _;refine runs_seq ?_;refine runs_region ?_;refine rl1 (gn rfl) rfl rfl (step_box_agg (k := n + 0) rfl rfl) ⟨t_0, trivial⟩ (by omega) ?_;refine rl1 (gn rfl) rfl rfl (step_box_agg (k := n + 1) rfl rfl) ⟨t_0, trivial⟩ (by omega) ?_;refine rl1 (gn rfl) rfl rfl (step_allocc (k := n + 2) (zs := [.int .i64 0, .slice none 0 0, .int .i64 0, .int .i64 0]) (cs := [.sc (.int .i64 0), .sc (.slice none 0 0), .sc (.int .i64 0), .sc (.int .i64 0)]) rfl F.zero31 t_33 t_55 t_33) ⟨t_0, trivial⟩ (by omega) ?_;refine rl0 (gn rfl) rfl rfl (step_as rfl rfl) trivial ?_;refine rl0 (gn rfl) rfl rfl (step_as rfl rfl) trivial ?_;refine runsL_nil ?_;refine runs_seq ?_;refine runs_region ?_;refine' rl0 (gn rfl) rfl rfl (step_load_all rfl rfl F.agg40 ?hl) ⟨?hb, trivial⟩ ?_
  case hb => exact t_0
  case hl => exact t_15
  refine rl1 (gn rfl) rfl rfl (step_allocc (k := n + 3) (zs := [.int .u64 0, .int .i64 0, .int .u64 0, .int .u64 0, .int .u64 0, .int .u64 0, .int .u64 0, .int .u32 0, .int .u32 0, .string ByteArray.empty, .bool false, .slice none 0 0, .slice none 0 0]) (cs := [.sc (.int .u64 0), .sc (.int .i64 0), .sc (.int .u64 0), .sc (.int .u64 0), .sc (.int .u64 0), .sc (.int .u64 0), .sc (.int .u64 0), .sc (.int .u32 0), .sc (.int .u32 0), .sc (.string ByteArray.empty), .sc (.bool false), .sc (.slice none 0 0), .sc (.slice none 0 0)]) rfl F.zero40 t_33 t_55 t_33) ⟨t_0, trivial⟩ (by omega) ?_;refine' rls (gn rfl) rfl (step_storeA rfl rfl rfl rfl F.agg40 ?hm ?hl) ⟨?hb, trivial⟩ ?hk ?_
  case hb => exact t_0
  case hm => exact t_15
  case hl => exact t_15
  case hk => omega
  refine runsL_nil ?_;refine runs_seq ?_;refine runs_region ?_;refine rl0 (gn rfl) rfl rfl (step_fieldAddr (off := 2) rfl (ev_mk rfl) Try.underlying31 rfl F.sz3 rfl) trivial ?_;refine' rl0 (gn rfl) rfl rfl (step_load_one rfl (ev_mk rfl) F.one3 ?hv) ⟨?hb, trivial⟩ ?_
  case hb => exact t_0
  case hv => rfl
  refine rl0 (gn rfl) rfl rfl (step_conv_id rfl rfl Try.underlying3 Try.underlying33 (wu64 (by omega))) trivial ?_;refine rl0 (gn rfl) rfl rfl (step_add rfl (ev_mk rfl) (ev_mk rfl) (wu64 (by omega))) trivial ?_;refine rl0 (gn rfl) rfl rfl (step_fieldAddr (off := 0) rfl (ev_mk rfl) Try.underlying40 rfl F.sz33 rfl) trivial ?_;refine' rls (gn rfl) rfl (step_store1 rfl rfl rfl rfl F.one33 rfl rfl ?hl ?hc) ⟨?hb, trivial⟩ ?hk ?_
  case hb => exact t_0
  case hl => exact t_22
  case hc => exact t_28
  case hk => omega
  refine runsL_nil ?_;refine runs_seq ?_;refine runs_region ?_;refine' rl0 (gn rfl) rfl rfl (step_load_all rfl rfl F.agg40 ?hl) ⟨?hb, trivial⟩ ?_
  case hb => exact t_0
  case hl => exact t_15
  refine rl0 (gn rfl) rfl rfl (step_callc rfl Try.func13 rfl rfl rfl (rput_ok (enAt e ((us : Int) + 1)) (okEn_at he t_98) hc) t_10) trivial ?_;refine rl0 (gn rfl) rfl rfl (step_mv rfl rfl) trivial ?_;refine rl0 (gn rfl) rfl rfl (step_extract rfl (ev_mk rfl) rfl) trivial ?_;refine rl0 (gn rfl) rfl rfl (step_extract rfl (ev_mk rfl) rfl) trivial ?_;refine rl0 (gn rfl) rfl rfl (step_as rfl rfl) trivial ?_;refine rl0 (gn rfl) rfl rfl (step_as rfl rfl) trivial ?_;refine runsL_nil ?_;refine runs_seq ?_;refine runs_seq ?_;refine runs_region ?_;refine rl0 (gn rfl) rfl rfl (step_mv rfl rfl) trivial ?_;refine rl_neq (gn rfl) rfl rfl rfl rfl rfl (fun h1 => ?_) (fun h1 => ?_)
  · exact t_42
  refine runsL_nil ?_;refine runs_cond false (ev_mk rfl) (fun h_ => nomatch h_) (fun _ => ?_);refine runs_skip ?_;refine runs_seq ?_;refine runs_region ?_;refine rl0 (gn rfl) rfl rfl (step_mv rfl rfl) trivial ?_;refine rl0 (gn rfl) rfl rfl (step_callc rfl Try.func9 rfl rfl rfl (rcut_c (bE (enAt e ((us : Int) + 1))) 0 hby_ (by omega) (by omega)) t_10) trivial ?_;refine rl0 (gn rfl) rfl rfl (step_len (m := (cutB (bE (enAt e ((us : Int) + 1))) 0).length) rfl rfl (ev_mk rfl) (.inl ⟨⟨_, Try.underlying27⟩, .inl ⟨_, _, .inl rfl, List.length_map _⟩⟩)) trivial ?_;refine rl0 (gn rfl) rfl rfl (step_as rfl rfl) trivial ?_;refine runsL_nil ?_;refine runs_seq ?_;refine runs_seq ?_;refine runs_region ?_;refine rl0 (gn rfl) rfl rfl (step_mv rfl rfl) trivial ?_;refine rl0 (gn rfl) rfl rfl (step_fieldAddr (off := 0) rfl (ev_mk rfl) Try.underlying31 rfl F.sz3 rfl) trivial ?_;refine' rl0 (gn rfl) rfl rfl (step_load_one rfl (ev_mk rfl) F.one3 ?hv) ⟨?hb, trivial⟩ ?_
  case hb => exact t_0
  case hv => rfl
  refine rl0 (gn rfl) rfl rfl (step_fieldAddr (off := 2) rfl (ev_mk rfl) Try.underlying31 rfl F.sz3 rfl) trivial ?_;refine' rl0 (gn rfl) rfl rfl (step_load_one rfl (ev_mk rfl) F.one3 ?hv) ⟨?hb, trivial⟩ ?_
  case hb => exact t_0
  case hv => rfl
  refine rl0 (gn rfl) rfl rfl (step_sub rfl (ev_mk rfl) (ev_mk rfl) (w64 (by omega))) trivial ?_;refine rl_gtr (gn rfl) rfl rfl rfl rfl rfl (fun h2 => ?_) (fun h2 => ?_)
  rotate_left
  · exact t_42
  refine runsL_nil ?_;refine runs_cond true (ev_mk rfl) (fun _ => ?_) (fun h_ => nomatch h_);refine runs_seq ?_;refine runs_region ?_;refine' rl0 (gn rfl) rfl rfl (step_load_all rfl rfl F.agg31 ?hl) ⟨?hb, trivial⟩ ?_
  case hb => exact t_0
  case hl => exact t_15
  refine' rls (gn rfl) rfl (step_storeA rfl rfl rfl rfl F.agg31 ?hm ?hl) ⟨?hb, trivial⟩ ?hk ?_
  case hb => exact t_0
  case hm => exact t_15
  case hl => exact t_15
  case hk => omega
  refine rl0 (gn rfl) rfl rfl (step_as rfl rfl) trivial ?_;refine rl0 (gn rfl) rfl rfl (step_as rfl rfl) trivial ?_;refine runsL_nil ?_;refine runs_ret ?_;refine ⟨t_17, fin_mkg (resc rfl t_0 F.agg31 t_15 (rest rfl (rest rfl res0))) ?_ ?_ ?_ ?_ ?_⟩
  · exact t_2
  · exact t_1
  · exact t_142
  · exact t_45
  · exact t_1
set_option maxRecDepth 100000 in
set_option maxHeartbeats 4000000 in
theorem rapp_ok (es : List En) (e : En) (sz us dn : Nat) (he : okEn e) (hb : es.length ≤ 100000 ∧ sz ≤ 1000000 ∧ us ≤ 1000000 ∧ dn ≤ 1000000) (hc : chkF e = 0) (hw : us + wE (enAt e ((us : Int) + 1)) ≤ sz) : Does Try.prog 12 [.agg [.sc (.int .i64 (sz : Int)), .sl 13 (es.map enC), .sc (.int .i64 (us : Int)), .sc (.int .i64 (dn : Int))], .agg (enC e)] [] [] (.tup [.agg [.sc (.int .i64 (sz : Int)), .sl 13 ((es ++ [(enAt e ((us : Int) + 1))]).map enC), .sc (.int .i64 (us + wE (enAt e ((us : Int) + 1)) : Int)), .sc (.int .i64 (dn : Int))], .sc (.int .u64 ((us : Int) + 1)), .sc (.int .i64 0)]) := by
  refine does_mkg 40 Try.func12 rfl rfl rfl (fun n B bx hd hpre hup hvs hbx hgx => ?_);have hok_ : okL (enAt e ((us : Int) + 1)) := ⟨(okEn_at he t_98), hc⟩;have hby_ := bE_byts hok_;have hbl_ := bE_len hok_;have hwl_ : (cutB (bE (enAt e ((us : Int) + 1))) 0).length = wE (enAt e ((us : Int) + 1)) := cutB_len _ _;refine runs_seq ?_;refine runs_region ?_;refine rl1 (gn rfl) rfl rfl (step_box_agg (k := n + 0) rfl rfl) ⟨t_0, trivial⟩ (by omega) ?_;refine rl1 (gn rfl) rfl rfl (step_box_agg (k := n + 1) rfl rfl) ⟨t_0, trivial⟩ (by omega) ?_;refine rl1 (gn rfl) rfl rfl (step_allocc (k := n + 2) (zs := [.int .i64 0, .slice none 0 0, .int .i64 0, .int .i64 0]) (cs := [.sc (.int .i64 0), .sc (.slice none 0 0), .sc (.int .i64 0), .sc (.int .i64 0)]) rfl F.zero31 t_33 t_55 t_33) ⟨t_0, trivial⟩ (by omega) ?_;refine rl0 (gn rfl) rfl rfl (step_as rfl rfl) trivial ?_;refine rl0 (gn rfl) rfl rfl (step_as rfl rfl) trivial ?_;refine runsL_nil ?_;refine runs_seq ?_;refine runs_region ?_;refine' rl0 (gn rfl) rfl rfl (step_load_all rfl rfl F.agg40 ?hl) ⟨?hb, trivial⟩ ?_
  case hb => exact t_0
  case hl => exact t_15
  refine rl1 (gn rfl) rfl rfl (step_allocc (k := n + 3) (zs := [.int .u64 0, .int .i64 0, .int .u64 0, .int .u64 0, .int .u64 0, .int .u64 0, .int .u64 0, .int .u32 0, .int .u32 0, .string ByteArray.empty, .bool false, .slice none 0 0, .slice none 0 0]) (cs := [.sc (.int .u64 0), .sc (.int .i64 0), .sc (.int .u64 0), .sc (.int .u64 0), .sc (.int .u64 0), .sc (.int .u64 0), .sc (.int .u64 0), .sc (.int .u32 0), .sc (.int .u32 0), .sc (.string ByteArray.empty), .sc (.bool false), .sc (.slice none 0 0), .sc (.slice none 0 0)]) rfl F.zero40 t_33 t_55 t_33) ⟨t_0, trivial⟩ (by omega) ?_;refine' rls (gn rfl) rfl (step_storeA rfl rfl rfl rfl F.agg40 ?hm ?hl) ⟨?hb, trivial⟩ ?hk ?_
  case hb => exact t_0
  case hm => exact t_15
  case hl => exact t_15
  case hk => omega
  refine runsL_nil ?_;refine runs_seq ?_;refine runs_region ?_;refine rl0 (gn rfl) rfl rfl (step_fieldAddr (off := 2) rfl (ev_mk rfl) Try.underlying31 rfl F.sz3 rfl) trivial ?_;refine' rl0 (gn rfl) rfl rfl (step_load_one rfl (ev_mk rfl) F.one3 ?hv) ⟨?hb, trivial⟩ ?_
  case hb => exact t_0
  case hv => rfl
  refine rl0 (gn rfl) rfl rfl (step_conv_id rfl rfl Try.underlying3 Try.underlying33 (wu64 (by omega))) trivial ?_;refine rl0 (gn rfl) rfl rfl (step_add rfl (ev_mk rfl) (ev_mk rfl) (wu64 (by omega))) trivial ?_;refine rl0 (gn rfl) rfl rfl (step_fieldAddr (off := 0) rfl (ev_mk rfl) Try.underlying40 rfl F.sz33 rfl) trivial ?_;refine' rls (gn rfl) rfl (step_store1 rfl rfl rfl rfl F.one33 rfl rfl ?hl ?hc) ⟨?hb, trivial⟩ ?hk ?_
  case hb => exact t_0
  case hl => exact t_22
  case hc => exact t_28
  case hk => omega
  refine runsL_nil ?_;refine runs_seq ?_;refine runs_region ?_;refine' rl0 (gn rfl) rfl rfl (step_load_all rfl rfl F.agg40 ?hl) ⟨?hb, trivial⟩ ?_
  case hb => exact t_0
  case hl => exact t_15
  refine rl0 (gn rfl) rfl rfl (step_callc rfl Try.func13 rfl rfl rfl (rput_ok (enAt e ((us : Int) + 1)) (okEn_at he t_98) hc) t_10) trivial ?_;refine rl0 (gn rfl) rfl rfl (step_mv rfl rfl) trivial ?_;refine rl0 (gn rfl) rfl rfl (step_extract rfl (ev_mk rfl) rfl) trivial ?_;refine rl0 (gn rfl) rfl rfl (step_extract rfl (ev_mk rfl) rfl) trivial ?_;refine rl0 (gn rfl) rfl rfl (step_as rfl rfl) trivial ?_;refine rl0 (gn rfl) rfl rfl (step_as rfl rfl) trivial ?_;refine runsL_nil ?_;refine runs_seq ?_;refine runs_seq ?_;refine runs_region ?_;refine rl0 (gn rfl) rfl rfl (step_mv rfl rfl) trivial ?_;refine rl_neq (gn rfl) rfl rfl rfl rfl rfl (fun h1 => ?_) (fun h1 => ?_)
  · exact t_42
  refine runsL_nil ?_;refine runs_cond false (ev_mk rfl) (fun h_ => nomatch h_) (fun _ => ?_);refine runs_skip ?_;refine runs_seq ?_;refine runs_region ?_;refine rl0 (gn rfl) rfl rfl (step_mv rfl rfl) trivial ?_;refine rl0 (gn rfl) rfl rfl (step_callc rfl Try.func9 rfl rfl rfl (rcut_c (bE (enAt e ((us : Int) + 1))) 0 hby_ (by omega) (by omega)) t_10) trivial ?_;refine rl0 (gn rfl) rfl rfl (step_len (m := (cutB (bE (enAt e ((us : Int) + 1))) 0).length) rfl rfl (ev_mk rfl) (.inl ⟨⟨_, Try.underlying27⟩, .inl ⟨_, _, .inl rfl, List.length_map _⟩⟩)) trivial ?_;refine rl0 (gn rfl) rfl rfl (step_as rfl rfl) trivial ?_;refine runsL_nil ?_;refine runs_seq ?_;refine runs_seq ?_;refine runs_region ?_;refine rl0 (gn rfl) rfl rfl (step_mv rfl rfl) trivial ?_;refine rl0 (gn rfl) rfl rfl (step_fieldAddr (off := 0) rfl (ev_mk rfl) Try.underlying31 rfl F.sz3 rfl) trivial ?_;refine' rl0 (gn rfl) rfl rfl (step_load_one rfl (ev_mk rfl) F.one3 ?hv) ⟨?hb, trivial⟩ ?_
  case hb => exact t_0
  case hv => rfl
  refine rl0 (gn rfl) rfl rfl (step_fieldAddr (off := 2) rfl (ev_mk rfl) Try.underlying31 rfl F.sz3 rfl) trivial ?_;refine' rl0 (gn rfl) rfl rfl (step_load_one rfl (ev_mk rfl) F.one3 ?hv) ⟨?hb, trivial⟩ ?_
  case hb => exact t_0
  case hv => rfl
  refine rl0 (gn rfl) rfl rfl (step_sub rfl (ev_mk rfl) (ev_mk rfl) (w64 (by omega))) trivial ?_;refine rl_gtr (gn rfl) rfl rfl rfl rfl rfl (fun h2 => ?_) (fun h2 => ?_)
  · exact t_42
  refine runsL_nil ?_;refine runs_cond false (ev_mk rfl) (fun h_ => nomatch h_) (fun _ => ?_);refine runs_skip ?_;refine runs_seq ?_;refine runs_region ?_;refine rl0 (gn rfl) rfl rfl (step_fieldAddr (off := 0) rfl (ev_mk rfl) Try.underlying31 rfl F.sz3 rfl) trivial ?_;refine' rl0 (gn rfl) rfl rfl (step_load_one rfl (ev_mk rfl) F.one3 ?hv) ⟨?hb, trivial⟩ ?_
  case hb => exact t_0
  case hv => rfl
  refine rl0 (gn rfl) rfl rfl (step_fieldAddr (off := 2) rfl (ev_mk rfl) Try.underlying31 rfl F.sz3 rfl) trivial ?_;refine' rl0 (gn rfl) rfl rfl (step_load_one rfl (ev_mk rfl) F.one3 ?hv) ⟨?hb, trivial⟩ ?_
  case hb => exact t_0
  case hv => rfl
  refine rl0 (gn rfl) rfl rfl (step_mv rfl rfl) trivial ?_;refine rl0 (gn rfl) rfl rfl (step_add rfl (ev_mk rfl) (ev_mk rfl) (w64 (by omega))) trivial ?_;refine rl0 (gn rfl) rfl rfl (step_fieldAddr (off := 3) rfl (ev_mk rfl) Try.underlying31 rfl F.sz3 rfl) trivial ?_;refine' rl0 (gn rfl) rfl rfl (step_load_one rfl (ev_mk rfl) F.one3 ?hv) ⟨?hb, trivial⟩ ?_
  case hb => exact t_0
  case hv => rfl
  refine rl0 (gn rfl) rfl rfl (step_build (ss := [1, 1, 1, 1]) (zs := [.int .i64 0, .slice none 0 0, .int .i64 0, .int .i64 0]) rfl Try.underlying31 (by kernel_rfl) F.zero31 rfl rfl rfl) trivial ?_;refine rl1 (gn rfl) rfl rfl (step_allocc (k := n + 4) (zs := [.int .i64 0, .slice none 0 0, .int .i64 0, .int .i64 0]) (cs := [.sc (.int .i64 0), .sc (.slice none 0 0), .sc (.int .i64 0), .sc (.int .i64 0)]) rfl F.zero31 t_33 t_55 t_33) ⟨t_0, trivial⟩ (by omega) ?_;refine' rls (gn rfl) rfl (step_storeA rfl rfl rfl rfl F.agg31 ?hm ?hl) ⟨?hb, trivial⟩ ?hk ?_
  case hb => exact t_0
  case hm => exact t_15
  case hl => exact t_15
  case hk => omega
  refine runsL_nil ?_;refine runs_seq ?_;refine runs_growb (k := n + 4) (kn := n + 5) (q := 1) (e := 13) t_0 rfl t_0 (by omega) (by omega) ?_;refine runs_region ?_;refine rl0 (gn rfl) rfl rfl (step_fieldAddr (off := 1) rfl (ev_mk rfl) Try.underlying31 rfl F.sz24 rfl) trivial ?_;refine' rl0 (gn rfl) rfl rfl (step_load_one rfl (ev_mk rfl) F.one24 ?hv) ⟨?hb, trivial⟩ ?_
  case hb => exact t_0
  case hv => rfl
  refine rl0 (gn rfl) rfl rfl (step_fieldAddr (off := 1) rfl (ev_mk rfl) Try.underlying31 rfl F.sz24 rfl) trivial ?_;refine' rl0 (gn rfl) rfl rfl (step_load_one rfl (ev_mk rfl) F.one24 ?hv) ⟨?hb, trivial⟩ ?_
  case hb => exact t_0
  case hv => rfl
  refine' rl1 (gn rfl) rfl rfl (step_append_own rfl rfl rfl Try.underlying24 ⟨_, Try.underlying24, fun k_ => t_49⟩ F.el40 (ev_mk rfl) (ev_mk rfl) (gives_sl (.inl rfl)) ?hg) ⟨?hb, trivial⟩ (by omega) ?_
  case hb => exact t_0
  case hg => (simp; omega)
  refine rl0 (gn rfl) rfl rfl (step_fieldAddr (off := 1) rfl (ev_mk rfl) Try.underlying31 rfl F.sz24 rfl) trivial ?_;refine' rls (gn rfl) rfl (step_store1 rfl rfl rfl rfl F.one24 rfl rfl ?hl ?hc) ⟨?hb, trivial⟩ ?hk ?_
  case hb => exact t_0
  case hl => exact t_22
  case hc => exact t_28
  case hk => omega
  refine runsL_nil ?_;refine runs_seq ?_;refine runs_region ?_;refine rl0 (gn rfl) rfl rfl (step_fieldAddr (off := 1) rfl (ev_mk rfl) Try.underlying31 rfl F.sz24 rfl) trivial ?_;refine' rl0 (gn rfl) rfl rfl (step_load_one rfl (ev_mk rfl) F.one24 ?hv) ⟨?hb, trivial⟩ ?_
  case hb => exact t_0
  case hv => rfl
  refine' rl0 (gn rfl) rfl rfl (step_load_all rfl rfl F.agg40 ?hl) ⟨?hb, trivial⟩ ?_
  case hb => exact t_0
  case hl => exact t_15
  refine rl0 (gn rfl) rfl rfl (step_lit rfl Try.underlying24 F.sz40 F.zero40 t_33 t_139 (by decide) rfl rfl t_21 rfl) trivial ?_;refine' rl1 (gn rfl) rfl rfl (step_append_own rfl rfl rfl Try.underlying24 ⟨_, Try.underlying24, fun k_ => t_49⟩ F.el40 (ev_mk rfl) (ev_mk rfl) (gives_sl (.inr (.inl rfl))) ?hg) ⟨?hb, trivial⟩ (by omega) ?_
  case hb => exact t_0
  case hg => (simp; omega)
  refine rl0 (gn rfl) rfl rfl (step_fieldAddr (off := 1) rfl (ev_mk rfl) Try.underlying31 rfl F.sz24 rfl) trivial ?_;refine' rls (gn rfl) rfl (step_store1 rfl rfl rfl rfl F.one24 rfl rfl ?hl ?hc) ⟨?hb, trivial⟩ ?hk ?_
  case hb => exact t_0
  case hl => exact t_22
  case hc => exact t_28
  case hk => omega
  refine runsL_nil ?_;refine runs_seq ?_;refine runs_draw (by kernel_rfl) (by kernel_rfl) (by kernel_rfl) ?_;refine' dl0 (gn rfl) rfl rfl (step_load_all rfl rfl F.agg31 ?hl) ⟨?hb, trivial⟩ ?_
  case hb => exact t_0
  case hl => exact t_15
  refine dl0 (gn rfl) rfl rfl (step_fieldAddr (off := 0) rfl (ev_mk rfl) Try.underlying40 rfl F.sz33 rfl) trivial ?_;refine' dl0 (gn rfl) rfl rfl (step_load_one rfl (ev_mk rfl) F.one33 ?hv) ⟨?hb, trivial⟩ ?_
  case hb => exact t_0
  case hv => rfl
  refine' dls (gn rfl) rfl (step_storeA rfl rfl rfl rfl F.agg31 ?hm ?hl) ⟨?hb, trivial⟩ ?hk ?_
  case hb => exact t_0
  case hm => exact t_15
  case hl => exact t_15
  case hk => omega
  refine dl0 (gn rfl) rfl rfl (step_as rfl rfl) trivial ?_;refine dl0 (gn rfl) rfl rfl (step_as rfl rfl) trivial ?_;refine dlnil ?_ ?_
  · exact t_12
  refine runs_ret ?_;refine ⟨t_17, fin_mkg (resc rfl t_0 F.agg31 t_15 (rest rfl (rest rfl res0))) ?_ ?_ ?_ ?_ ?_⟩
  · (repeat' (first | exact VLe.refl _ | exact VLe.own_sl _ _ _ | exact VLe.fl_sl _ _ | exact VLe.nil_sl _ | exact VLe.nil_fl _ | exact VLes.refl _ | exact .nil | refine VLe.tup ?_ | refine VLe.agg ?_ | refine .cons ?_ ?_ | (rw [Int.natCast_add]; exact VLe.refl _) | exact vle_int (by omega) | exact vle_bool t_159 | ((rw [List.map_append]; exact VLe.own_sl _ _ _)) | fail))
  · exact t_1
  · exact t_142
  · exact t_45
  · exact t_1
end Go.Proofs.Ytdmkhpnjjpeeaaa
