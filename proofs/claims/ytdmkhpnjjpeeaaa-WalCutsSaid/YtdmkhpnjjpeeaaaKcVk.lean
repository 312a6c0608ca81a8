import Derived.Test.YtdmkhpnjjpeeaaaKcQq
import Derived.Test.YtdmkhpnjjpeeaaaKcVj
import Derived.Test.YtdmkhpnjjpeeaaaKcVmT
import Derived.Test.YtdmkhpnjjpeeaaaKcWe
import Derived.Test.YtdmkhpnjjpeeaaaKcVd
import Derived.Test.YtdmkhpnjjpeeaaaKcVe
import Derived.Test.YtdmkhpnjjpeeaaaKcWa
import Derived.Test.YtdmkhpnjjpeeaaaKcWc
import Derived.Test.YtdmkhpnjjpeeaaaKcWd
import Derived.Test.YtdmkhpnjjpeeaaaKcVmP
namespace Go.Proofs.Ytdmkhpnjjpeeaaa
open Go.Vm
set_option linter.unusedVariables false
set_option linter.unusedSimpArgs false
open Crc
attribute [local irreducible] Go.Vm.beB Go.Vm.fieldB
def pgQ (p : List Int) : Nat → List Int
  | 0 => []
  | k + 1 => pgQ p k ++ [at' p (k : Int)]
theorem pgQ_take (p : List Int) : ∀ k, k ≤ p.length → pgQ p k = p.take k
  | 0, _ => by simp [pgQ]
  | k + 1, h => by
    unfold pgQ
    rw [pgQ_take p k (by omega), List.take_add_one, List.getElem?_eq_getElem (by omega), at_nat _ _ (by omega)]; rfl
theorem pgQ_len (p : List Int) : ∀ k, (pgQ p k).length = k
  | 0 => rfl
  | k + 1 => by unfold pgQ; rw [List.length_append, pgQ_len p k]; rfl
theorem imR_at2 {m : Im} {v : Nat} (h : m.p.length = 224) (hv : v < 224) (q : Nat) (hq : q = v) : ((imR m).drop 1)[q]? = some (bV (at' m.p (v : Int))) := by
  subst hq
  unfold imR
  rw [List.drop_succ_cons, List.drop_zero]
  exact p_at rfl (by omega)
set_option maxRecDepth 100000 in
set_option maxHeartbeats 4000000 in
theorem rput_no (e : En) (he : okEn e) (hL : (e.pages.length : Int) ≤ 9223372036854775807 ∧ (e.act.length : Int) ≤ 9223372036854775807) (hc : ¬ chkF e = 0) : Does Try.prog 13 [.agg (enC e)] [] [] (.tup [.sl 1 (bytesV []), .sc (.int .i64 (chkF e))]) := by
  refine does_mkg 40 Try.func13 rfl rfl rfl (fun n B bx hd hpre hup hvs hbx hgx => ?_);refine runs_seq ?_;refine runs_region ?_;refine rl1 (gn rfl) rfl rfl (step_box_agg (k := n + 0) rfl rfl) ⟨t_0, trivial⟩ (by omega) ?_;refine rl0 (gn rfl) rfl rfl (step_as rfl rfl) trivial ?_;refine rl0 (gn rfl) rfl rfl (step_as rfl rfl) trivial ?_;refine runsL_nil ?_;refine runs_seq ?_;refine runs_seq ?_;refine runs_region ?_;refine' rl0 (gn rfl) rfl rfl (step_load_all rfl rfl F.agg40 ?hl) ⟨?hb, trivial⟩ ?_
  case hb => exact t_0
  case hl => exact t_15
  refine rl0 (gn rfl) rfl rfl (step_callc rfl Try.func34 rfl rfl rfl (rcheck_c e hL (fun m hm => (he.2.2.2.2.2.1 m hm).1)) t_10) trivial ?_;refine rl0 (gn rfl) rfl rfl (step_as rfl rfl) trivial ?_;refine runsL_nil ?_;refine runs_seq ?_;refine runs_region ?_;refine rl0 (gn rfl) rfl rfl (step_mv rfl rfl) trivial ?_;refine rl_neq (gn rfl) rfl rfl rfl rfl rfl (fun h1 => ?_) (fun h1 => ?_)
  rotate_left
  · exact t_42
  refine runsL_nil ?_;refine runs_cond true (ev_mk rfl) (fun _ => ?_) (fun h_ => nomatch h_);refine runs_seq ?_;refine runs_region ?_;refine rl0 (gn rfl) rfl rfl (step_mv rfl rfl) trivial ?_;refine rl0 (gn rfl) rfl rfl (step_as rfl rfl) trivial ?_;refine rl0 (gn rfl) rfl rfl (step_as rfl rfl) trivial ?_;refine runsL_nil ?_;refine runs_ret ?_;refine ⟨t_17, fin_mkg (rest rfl (rest rfl res0)) ?_ ?_ ?_ ?_ ?_⟩
  · exact t_2
  · exact t_1
  · exact t_142
  · exact t_45
  · exact t_1
set_option maxRecDepth 100000 in
set_option maxHeartbeats 4000000 in
theorem rput_ok (e : En) (he : okEn e) (hc : chkF e = 0) : Does Try.prog 13 [.agg (enC e)] [] [] (.tup [.sl 1 (bytesV (sealB (bodyB e))), .sc (.int .i64 0)]) := by
  refine does_mkg 40 Try.func13 rfl rfl rfl (fun n B bx hd hpre hup hvs hbx hgx => ?_);obtain ⟨c1, c2, c3, c4, c5⟩ := chk0 hc;have hL : (e.pages.length : Int) ≤ 9223372036854775807 ∧ (e.act.length : Int) ≤ 9223372036854775807 := by omega
  have lh := hdP_len e
  have l1 := fr1_len (e := e) (by omega)
  have l2 := fr2_len (e := e) (by omega)
  have lp := pgP_len e.pages
  have la := acP_len e.act
  refine runs_seq ?_;refine runs_region ?_;refine rl1 (gn rfl) rfl rfl (step_box_agg (k := n + 0) rfl rfl) ⟨t_0, trivial⟩ (by omega) ?_;refine rl0 (gn rfl) rfl rfl (step_as rfl rfl) trivial ?_;refine rl0 (gn rfl) rfl rfl (step_as rfl rfl) trivial ?_;refine runsL_nil ?_;refine runs_seq ?_;refine runs_seq ?_;refine runs_region ?_;refine' rl0 (gn rfl) rfl rfl (step_load_all rfl rfl F.agg40 ?hl) ⟨?hb, trivial⟩ ?_
  case hb => exact t_0
  case hl => exact t_32
  refine rl0 (gn rfl) rfl rfl (step_callc rfl Try.func34 rfl rfl rfl (rcheck_c e hL (fun m hm => (he.2.2.2.2.2.1 m hm).1)) t_10) trivial ?_;refine rl0 (gn rfl) rfl rfl (step_as rfl rfl) trivial ?_;refine runsL_nil ?_;refine runs_seq ?_;refine runs_region ?_;refine rl0 (gn rfl) rfl rfl (step_mv rfl rfl) trivial ?_;refine rl_neq (gn rfl) rfl rfl rfl rfl rfl (fun h1 => ?_) (fun h1 => ?_)
  · exact t_42
  refine runsL_nil ?_;refine runs_cond false (ev_mk rfl) (fun h_ => nomatch h_) (fun _ => ?_);refine runs_skip ?_;refine runs_seq ?_;refine runs_region ?_;refine rl0 (gn rfl) rfl rfl (step_fieldAddr (off := 1) rfl (ev_mk rfl) Try.underlying40 rfl F.sz3 rfl) trivial ?_;refine' rl0 (gn rfl) rfl rfl (step_load_one rfl (ev_mk rfl) F.one3 ?hv) ⟨?hb, trivial⟩ ?_
  case hb => exact t_0
  case hv => rfl
  refine rl0 (gn rfl) rfl rfl (step_conv_id rfl rfl Try.underlying3 Try.underlying5 (wu8 (by omega))) trivial ?_;refine rl0 (gn rfl) rfl rfl (step_lit rfl Try.underlying22 F.sz5 F.zero5 t_33 t_139 (by decide) rfl rfl t_100 rfl) trivial ?_;refine rl0 (gn rfl) rfl rfl (step_as rfl rfl) trivial ?_;refine runsL_nil ?_;refine runs_seq ?_;refine runs_region ?_;refine rl0 (gn rfl) rfl rfl (step_mv rfl rfl) trivial ?_;refine rl0 (gn rfl) rfl rfl (step_fieldAddr (off := 0) rfl (ev_mk rfl) Try.underlying40 rfl F.sz33 rfl) trivial ?_;refine' rl0 (gn rfl) rfl rfl (step_load_one rfl (ev_mk rfl) F.one33 ?hv) ⟨?hb, trivial⟩ ?_
  case hb => exact t_0
  case hv => rfl
  refine rl1 (gn rfl) rfl rfl (step_callc rfl Try.func33 rfl rfl rfl (rput_o e.lsn 8 (n + 1) he.1 (by omega)) t_10) ⟨t_0, trivial⟩ (by omega) ?_;refine' rl1 (gn rfl) rfl rfl (step_append_new (k := n + 2) rfl rfl rfl Try.underlying22 ⟨_, Try.underlying22, fun k_ => t_49⟩ F.el5 (ev_mk rfl) (.inl rfl) (ev_mk rfl) (gives_sl (.inr (.inr ⟨_, rfl⟩))) ?hg) ⟨?hb, trivial⟩ (by omega) ?_
  case hb => exact t_0
  case hg => exact t_19
  refine rl0 (gn rfl) rfl rfl (step_as rfl rfl) trivial ?_;refine runsL_nil ?_;refine runs_seq ?_;refine runs_region ?_;refine rl0 (gn rfl) rfl rfl (step_mv rfl rfl) trivial ?_;refine rl0 (gn rfl) rfl rfl (step_fieldAddr (off := 2) rfl (ev_mk rfl) Try.underlying40 rfl F.sz33 rfl) trivial ?_;refine' rl0 (gn rfl) rfl rfl (step_load_one rfl (ev_mk rfl) F.one33 ?hv) ⟨?hb, trivial⟩ ?_
  case hb => exact t_0
  case hv => rfl
  refine rl1 (gn rfl) rfl rfl (step_callc rfl Try.func33 rfl rfl rfl (rput_o e.txn 8 (n + 3) he.2.1 (by omega)) t_10) ⟨t_0, trivial⟩ (by omega) ?_;refine' rl1 (gn rfl) rfl rfl (step_append_own rfl rfl rfl Try.underlying22 ⟨_, Try.underlying22, fun k_ => t_49⟩ F.el5 (ev_mk rfl) (ev_mk rfl) (gives_sl (.inr (.inr ⟨_, rfl⟩))) ?hg) ⟨?hb, trivial⟩ (by omega) ?_
  case hb => exact t_0
  case hg => exact t_19
  refine rl0 (gn rfl) rfl rfl (step_as rfl rfl) trivial ?_;refine runsL_nil ?_;refine runs_seq ?_;refine runs_region ?_;refine rl0 (gn rfl) rfl rfl (step_mv rfl rfl) trivial ?_;refine rl0 (gn rfl) rfl rfl (step_fieldAddr (off := 3) rfl (ev_mk rfl) Try.underlying40 rfl F.sz33 rfl) trivial ?_;refine' rl0 (gn rfl) rfl rfl (step_load_one rfl (ev_mk rfl) F.one33 ?hv) ⟨?hb, trivial⟩ ?_
  case hb => exact t_0
  case hv => rfl
  refine rl1 (gn rfl) rfl rfl (step_callc rfl Try.func33 rfl rfl rfl (rput_o e.prev 8 (n + 4) he.2.2.1 (by omega)) t_10) ⟨t_0, trivial⟩ (by omega) ?_;refine' rl1 (gn rfl) rfl rfl (step_append_own rfl rfl rfl Try.underlying22 ⟨_, Try.underlying22, fun k_ => t_49⟩ F.el5 (ev_mk rfl) (ev_mk rfl) (gives_sl (.inr (.inr ⟨_, rfl⟩))) ?hg) ⟨?hb, trivial⟩ (by omega) ?_
  case hb => exact t_0
  case hg => exact t_19
  refine rl0 (gn rfl) rfl rfl (step_as rfl rfl) trivial ?_;refine runsL_nil ?_;refine runs_seq ?_;refine runs_region ?_;refine rl0 (gn rfl) rfl rfl (step_mv rfl rfl) trivial ?_;refine rl0 (gn rfl) rfl rfl (step_fieldAddr (off := 4) rfl (ev_mk rfl) Try.underlying40 rfl F.sz33 rfl) trivial ?_;refine' rl0 (gn rfl) rfl rfl (step_load_one rfl (ev_mk rfl) F.one33 ?hv) ⟨?hb, trivial⟩ ?_
  case hb => exact t_0
  case hv => rfl
  refine rl1 (gn rfl) rfl rfl (step_callc rfl Try.func33 rfl rfl rfl (rput_o e.next 8 (n + 5) he.2.2.2.1 (by omega)) t_10) ⟨t_0, trivial⟩ (by omega) ?_;refine' rl1 (gn rfl) rfl rfl (step_append_own rfl rfl rfl Try.underlying22 ⟨_, Try.underlying22, fun k_ => t_49⟩ F.el5 (ev_mk rfl) (ev_mk rfl) (gives_sl (.inr (.inr ⟨_, rfl⟩))) ?hg) ⟨?hb, trivial⟩ (by omega) ?_
  case hb => exact t_0
  case hg => exact t_19
  refine rl0 (gn rfl) rfl rfl (step_as rfl rfl) trivial ?_;refine runsL_nil ?_;refine runs_seq ?_;refine runs_region ?_;refine rl0 (gn rfl) rfl rfl (step_mv rfl rfl) trivial ?_;refine rl0 (gn rfl) rfl rfl (step_fieldAddr (off := 5) rfl (ev_mk rfl) Try.underlying40 rfl F.sz36 rfl) trivial ?_;refine' rl0 (gn rfl) rfl rfl (step_load_agg rfl (ev_mk rfl) F.agg36 ?hc ?hl) ⟨?hb, trivial⟩ ?_
  case hb => exact t_0
  case hc => rfl
  case hl => exact t_32
  refine rl0 (gn rfl) rfl rfl (step_callc rfl Try.func35 rfl rfl rfl (rrec_c e.r he.2.2.2.2.1 (by omega)) t_10) trivial ?_;refine' rl1 (gn rfl) rfl rfl (step_append_own rfl rfl rfl Try.underlying22 ⟨_, Try.underlying22, fun k_ => t_49⟩ F.el5 (ev_mk rfl) (ev_mk rfl) (gives_sl (.inl rfl)) ?hg) ⟨?hb, trivial⟩ (by omega) ?_
  case hb => exact t_0
  case hg => exact t_19
  refine rl0 (gn rfl) rfl rfl (step_as rfl rfl) trivial ?_;refine runsL_nil ?_;refine runs_seq ?_;refine runs_region ?_;refine rl0 (gn rfl) rfl rfl (step_mv rfl rfl) trivial ?_;refine rl0 (gn rfl) rfl rfl (step_fieldAddr (off := 11) rfl (ev_mk rfl) Try.underlying40 rfl F.sz37 rfl) trivial ?_;refine' rl0 (gn rfl) rfl rfl (step_load_one rfl (ev_mk rfl) F.one37 ?hv) ⟨?hb, trivial⟩ ?_
  case hb => exact t_0
  case hv => rfl
  refine rl0 (gn rfl) rfl rfl (step_len (m := e.pages.length) rfl rfl (ev_mk rfl) (.inl ⟨⟨_, Try.underlying37⟩, .inl ⟨_, _, .inl rfl, List.length_map _⟩⟩)) trivial ?_;refine rl0 (gn rfl) rfl rfl (step_conv_id rfl rfl Try.underlying3 Try.underlying5 (wu8 (by omega))) trivial ?_;refine rl0 (gn rfl) rfl rfl (step_lit rfl Try.underlying22 F.sz5 F.zero5 t_33 t_139 (by decide) rfl rfl t_100 rfl) trivial ?_;refine' rl1 (gn rfl) rfl rfl (step_append_own rfl rfl rfl Try.underlying22 ⟨_, Try.underlying22, fun k_ => t_49⟩ F.el5 (ev_mk rfl) (ev_mk rfl) (gives_sl (.inr (.inl rfl))) ?hg) ⟨?hb, trivial⟩ (by omega) ?_
  case hb => exact t_0
  case hg => exact t_19
  refine rl0 (gn rfl) rfl rfl (step_as rfl rfl) trivial ?_;refine runsL_nil ?_;refine runs_seq ?_;refine runs_seq ?_;refine runs_region ?_;refine rl0 (gn rfl) rfl rfl (step_as rfl rfl) trivial ?_;refine runsL_nil ?_;refine runs_block ?_;have hs0_ : [[V.sc (.int .u8 e.kind)]] ++ (bytesV (beB 8 e.lsn)) ++ (bytesV (beB 8 e.txn)) ++ (bytesV (beB 8 e.prev)) ++ (bytesV (beB 8 e.next)) ++ (bytesV (recF e.r)) ++ [[V.sc (.int .u8 e.pages.length)]] = (bytesV (fr1 e ++ pgP e.pages 0)) := by (simp only [fr1, pgP, hdP, bytesV_app, bytesV_one, List.append_nil, List.append_assoc]; rfl)
  refine runs_loop (fun (ri_ : Nat) (st_ : Go.Vm.S) => ∃ (i : Nat) (m0 : Nat) (b0 : Nat → Box), (st_ = ⟨mk [(1, .ref (n + 0) 0), (2, .sc (.slice none 0 0)), (3, .sc (.int .i64 0)), (5, .own 1 (bytesV (fr1 e ++ pgP e.pages i)) (n + 2)), (6, .sc (.int .i64 i))], m0, b0⟩) ∧ (ri_ = e.pages.length - i) ∧ (n + 6 ≤ m0) ∧ (∀ k_, k_ < n → b0 k_ = bx k_) ∧ (b0 (n + 0) = .cells [.sc (.int .u64 e.lsn), .sc (.int .i64 e.kind), .sc (.int .u64 e.txn), .sc (.int .u64 e.prev), .sc (.int .u64 e.next), .sc (.int .u64 e.r.id), .sc (.int .u64 e.r.key), .sc (.int .u32 e.r.x), .sc (.int .u32 e.r.y), .sc (.string e.r.val), .sc (.bool e.r.gh), .sl 225 (e.pages.map imR), .sl 1 (e.act.map acR)]) ∧ (b0 (n + 1) = .tail (bytesV (beB 8 e.lsn)).length) ∧ (b0 (n + 2) = .tail (bytesV (fr1 e ++ pgP e.pages i)).length) ∧ (b0 (n + 3) = .tail (bytesV (beB 8 e.txn)).length) ∧ (b0 (n + 4) = .tail (bytesV (beB 8 e.prev)).length) ∧ (b0 (n + 5) = .tail (bytesV (beB 8 e.next)).length) ∧ (i ≤ e.pages.length)) (e.pages.length - 0) ⟨_, sle ?_ (Nat.le_refl _), 0, _, _, rfl, rfl, ?_⟩ ?_
  · exact t_11
  · exact ⟨by omega, (fun k_ hk_ => t_14), t_134, t_134, t_134, t_134, t_134, t_134, by omega⟩
  · rintro _ _ ⟨i, m0, b0, rfl, rfl, hm0, hf0, hB0_0, hB0_1, hB0_2, hB0_3, hB0_4, hB0_5, hF0_0⟩
    refine runs_know (fun hd0 => ?_);refine runs_bump 20 ?_;simp only at hd0;refine runs_seq ?_;refine runs_seq ?_;refine runs_region ?_;refine rl0 (gn rfl) rfl rfl (step_mv rfl rfl) trivial ?_;refine rl0 (gn rfl) rfl rfl (step_fieldAddr (off := 11) rfl (ev_mk rfl) Try.underlying40 rfl F.sz37 rfl) trivial ?_;refine' rl0 (gn rfl) rfl rfl (step_load_one rfl (ev_mk rfl) F.one37 ?hv) ⟨?hb, trivial⟩ ?_
    case hb => exact t_4
    case hv => rfl
    refine rl0 (gn rfl) rfl rfl (step_len (m := e.pages.length) rfl rfl (ev_mk rfl) (.inl ⟨⟨_, Try.underlying37⟩, .inl ⟨_, _, .inl rfl, List.length_map _⟩⟩)) trivial ?_;refine rl_lss (gn rfl) rfl rfl rfl rfl rfl (fun h2 => ?_) (fun h2 => ?_)
    · skip
      refine runsL_nil ?_;refine runs_cond true (ev_mk rfl) (fun _ => ?_) (fun h_ => nomatch h_);refine runs_skip ?_;refine runs_seq ?_;refine runs_block ?_;refine runs_seq ?_;refine runs_region ?_;refine rl0 (gn rfl) rfl rfl (step_fieldAddr (off := 11) rfl (ev_mk rfl) Try.underlying40 rfl F.sz37 rfl) trivial ?_;refine' rl0 (gn rfl) rfl rfl (step_load_one rfl (ev_mk rfl) F.one37 ?hv) ⟨?hb, trivial⟩ ?_
      case hb => exact t_4
      case hv => rfl
      refine rl0 (gn rfl) rfl rfl (step_mv rfl rfl) trivial ?_;refine' rl0 (gn rfl) rfl rfl (step_index rfl (ev_mk rfl) (.inl rfl) (ev_mk rfl) Try.underlying37 F.sz86 (by omega) ?hr) trivial ?_
      case hr => exact t_31
      refine rl0 (gn rfl) rfl rfl (step_fieldAddr_ro (off := 1) rfl (ev_mk rfl) Try.underlying86 rfl F.sz84 rfl rfl) trivial ?_;refine rl0 (gn rfl) rfl rfl (step_load_ro_all rfl rfl F.agg84 t_32) trivial ?_;refine rl0 (gn rfl) rfl rfl (step_callc rfl Try.func36 rfl rfl rfl (rlen_c (at' e.pages (i : Int)).p (he.2.2.2.2.2.1 _ (at_mem (xs := e.pages) (i := (i : Int)) (by omega) (by omega))).1) t_10) trivial ?_;refine rl0 (gn rfl) rfl rfl (step_as rfl rfl) trivial ?_;refine runsL_nil ?_;refine runs_seq ?_;refine runs_region ?_;refine rl0 (gn rfl) rfl rfl (step_mv rfl rfl) trivial ?_;refine rl0 (gn rfl) rfl rfl (step_fieldAddr (off := 11) rfl (ev_mk rfl) Try.underlying40 rfl F.sz37 rfl) trivial ?_;refine' rl0 (gn rfl) rfl rfl (step_load_one rfl (ev_mk rfl) F.one37 ?hv) ⟨?hb, trivial⟩ ?_
      case hb => exact t_4
      case hv => rfl
      refine rl0 (gn rfl) rfl rfl (step_mv rfl rfl) trivial ?_;refine' rl0 (gn rfl) rfl rfl (step_index rfl (ev_mk rfl) (.inl rfl) (ev_mk rfl) Try.underlying37 F.sz86 (by omega) ?hr) trivial ?_
      case hr => exact t_31
      refine rl0 (gn rfl) rfl rfl (step_fieldAddr_ro (off := 0) rfl (ev_mk rfl) Try.underlying86 rfl F.sz3 rfl rfl) trivial ?_;refine rl0 (gn rfl) rfl rfl (step_load_ro (v := .sc (.int .i64 (at' e.pages (i : Int)).n)) rfl (ev_mk rfl) F.one3 rfl) trivial ?_;refine rl0 (gn rfl) rfl rfl (step_conv_id rfl rfl Try.underlying3 Try.underlying5 (wu8 (by (have h_ := pgS_all c5 i (by omega); omega)))) trivial ?_;refine rl0 (gn rfl) rfl rfl (step_mv rfl rfl) trivial ?_;refine rl0 (gn rfl) rfl rfl (step_conv_id rfl rfl Try.underlying3 Try.underlying5 (wu8 (by (have h_ := lnz_le (at' e.pages (i : Int)).p 224; omega)))) trivial ?_;refine rl0 (gn rfl) rfl rfl (step_lit rfl Try.underlying22 F.sz5 F.zero5 t_33 t_139 (by decide) rfl rfl t_100 rfl) trivial ?_;refine' rl1 (gn rfl) rfl rfl (step_append_own rfl rfl rfl Try.underlying22 ⟨_, Try.underlying22, fun k_ => t_49⟩ F.el5 (ev_mk rfl) (ev_mk rfl) (gives_sl (.inr (.inl rfl))) ?hg) ⟨?hb, trivial⟩ (by omega) ?_
      case hb => exact t_4
      case hg => exact t_19
      refine rl0 (gn rfl) rfl rfl (step_as rfl rfl) trivial ?_;refine runsL_nil ?_;refine runs_seq ?_;refine runs_region ?_;refine rl0 (gn rfl) rfl rfl (step_as rfl rfl) trivial ?_;refine runsL_nil ?_;refine runs_block ?_;have hs0_ : (bytesV (fr1 e ++ pgP e.pages i) ++ [[V.sc (.int .u8 (at' e.pages (i : Int)).n)], [V.sc (.int .u8 (lnz (at' e.pages (i : Int)).p 224))]]) = ((bytesV (fr1 e ++ pgP e.pages i ++ [(at' e.pages (i : Int)).n, (lnz (at' e.pages (i : Int)).p 224 : Int)] ++ pgQ (at' e.pages (i : Int)).p 0))) := by (simp only [bytesV_app, bytesV_one, pgQ, List.append_nil, List.append_assoc]; rfl)
      refine runs_loop (fun (ri_ : Nat) (st_ : Go.Vm.S) => ∃ (v : Nat) (m1 : Nat) (b1 : Nat → Box), (st_ = ⟨mk [(1, .ref (n + 0) 0), (2, .sc (.slice none 0 0)), (3, .sc (.int .i64 0)), (5, .own 1 (bytesV (fr1 e ++ pgP e.pages i ++ [(at' e.pages (i : Int)).n, (lnz (at' e.pages (i : Int)).p 224 : Int)] ++ pgQ (at' e.pages (i : Int)).p v)) (n + 2)), (6, .sc (.int .i64 i)), (7, .sc (.int .i64 (lnz (at' e.pages (i : Int)).p 224))), (8, .sc (.int .i64 v)), (51, .sc (.int .i64 i)), (52, .ref (n + 0) 11), (53, .sl 225 (e.pages.map imR)), (54, .sc (.int .i64 e.pages.length)), (55, .sc (.bool true)), (58, .ref (n + 0) 11), (59, .sl 225 (e.pages.map imR)), (60, .sc (.int .i64 i)), (61, .ro (V.sc (.int .i64 (at' e.pages i).n) :: (at' e.pages i).p.map bV)), (62, .ro ((V.sc (.int .i64 (at' e.pages i).n) :: (at' e.pages i).p.map bV).drop 1)), (63, .agg ((V.sc (.int .i64 (at' e.pages i).n) :: (at' e.pages i).p.map bV).drop 1)), (64, .sc (.int .i64 (lnz (at' e.pages (i : Int)).p 224))), (65, .own 1 (bytesV (fr1 e ++ pgP e.pages i)) (n + 2)), (66, .ref (n + 0) 11), (67, .sl 225 (e.pages.map imR)), (68, .sc (.int .i64 i)), (69, .ro (V.sc (.int .i64 (at' e.pages i).n) :: (at' e.pages i).p.map bV)), (70, .ro ((V.sc (.int .i64 (at' e.pages i).n) :: (at' e.pages i).p.map bV).drop 0)), (71, .sc (.int .i64 (at' e.pages (i : Int)).n)), (72, .sc (.int .u8 (at' e.pages (i : Int)).n)), (73, .sc (.int .i64 (lnz (at' e.pages (i : Int)).p 224))), (74, .sc (.int .u8 (lnz (at' e.pages (i : Int)).p 224))), (75, .fl 1 [[.sc (.int .u8 (at' e.pages (i : Int)).n)], [.sc (.int .u8 (lnz (at' e.pages (i : Int)).p 224))]]), (76, .own 1 (bytesV (fr1 e ++ pgP e.pages i) ++ [[.sc (.int .u8 (at' e.pages (i : Int)).n)], [.sc (.int .u8 (lnz (at' e.pages (i : Int)).p 224))]]) (n + 2))], m1, b1⟩) ∧ (ri_ = lnz (at' e.pages (i : Int)).p 224 - v) ∧ (m0 + 0 ≤ m1) ∧ (∀ k_, k_ < n → b1 k_ = bx k_) ∧ (b1 (n + 0) = .cells [.sc (.int .u64 e.lsn), .sc (.int .i64 e.kind), .sc (.int .u64 e.txn), .sc (.int .u64 e.prev), .sc (.int .u64 e.next), .sc (.int .u64 e.r.id), .sc (.int .u64 e.r.key), .sc (.int .u32 e.r.x), .sc (.int .u32 e.r.y), .sc (.string e.r.val), .sc (.bool e.r.gh), .sl 225 (e.pages.map imR), .sl 1 (e.act.map acR)]) ∧ (b1 (n + 1) = .tail (bytesV (beB 8 e.lsn)).length) ∧ (b1 (n + 2) = .tail (bytesV (fr1 e ++ pgP e.pages i ++ [(at' e.pages (i : Int)).n, (lnz (at' e.pages (i : Int)).p 224 : Int)] ++ pgQ (at' e.pages (i : Int)).p v)).length) ∧ (b1 (n + 3) = .tail (bytesV (beB 8 e.txn)).length) ∧ (b1 (n + 4) = .tail (bytesV (beB 8 e.prev)).length) ∧ (b1 (n + 5) = .tail (bytesV (beB 8 e.next)).length) ∧ (v ≤ lnz (at' e.pages (i : Int)).p 224)) (lnz (at' e.pages (i : Int)).p 224 - 0) ⟨_, sle ?_ (Nat.le_refl _), 0, _, _, rfl, rfl, ?_⟩ ?_
      · exact t_11
      · exact ⟨by omega, (fun k_ hk_ => t_18), t_134, t_134, t_134, t_134, t_134, t_134, by omega⟩
      · rintro _ _ ⟨v, m1, b1, rfl, rfl, hm1, hf1, hB1_0, hB1_1, hB1_2, hB1_3, hB1_4, hB1_5, hF1_0⟩
        refine runs_know (fun hd1 => ?_);refine runs_bump 20 ?_;simp only at hd1;have hl4 := lnz_le (at' e.pages (i : Int)).p 224;refine runs_seq ?_;refine runs_seq ?_;refine runs_region ?_;refine rl0 (gn rfl) rfl rfl (step_mv rfl rfl) trivial ?_;refine rl0 (gn rfl) rfl rfl (step_mv rfl rfl) trivial ?_;refine rl_lss (gn rfl) rfl rfl rfl rfl rfl (fun h3 => ?_) (fun h3 => ?_)
        · skip
          refine runsL_nil ?_;refine runs_cond true (ev_mk rfl) (fun _ => ?_) (fun h_ => nomatch h_);refine runs_skip ?_;refine runs_seq ?_;refine runs_block ?_;refine runs_region ?_;refine rl0 (gn rfl) rfl rfl (step_mv rfl rfl) trivial ?_;refine rl0 (gn rfl) rfl rfl (step_fieldAddr (off := 11) rfl (ev_mk rfl) Try.underlying40 rfl F.sz37 rfl) trivial ?_;refine' rl0 (gn rfl) rfl rfl (step_load_one rfl (ev_mk rfl) F.one37 ?hv) ⟨?hb, trivial⟩ ?_
          case hb => exact t_9
          case hv => rfl
          refine rl0 (gn rfl) rfl rfl (step_mv rfl rfl) trivial ?_;refine rl0 (gn rfl) rfl rfl (step_mv rfl rfl) trivial ?_;refine' rl0 (gn rfl) rfl rfl (step_index rfl (ev_mk rfl) (.inl rfl) (ev_mk rfl) Try.underlying37 F.sz86 (by omega) ?hr) trivial ?_
          case hr => exact t_31
          refine rl0 (gn rfl) rfl rfl (step_fieldAddr_ro (off := 1) rfl (ev_mk rfl) Try.underlying86 rfl F.sz84 rfl rfl) trivial ?_;refine' rl0 (gn rfl) rfl rfl (step_index_ro rfl (ev_mk rfl) (ev_mk rfl) Try.underlying84 F.sz5 (by omega) (by omega) ?hr) trivial ?_
          case hr => exact imR_at2 (v := v) (he.2.2.2.2.2.1 _ (at_mem (xs := e.pages) (i := (i : Int)) (by omega) (by omega))).1 (by omega) _ (by omega)
          refine rl0 (gn rfl) rfl rfl (step_load_ro rfl (ev_mk rfl) F.one5 rfl) trivial ?_;refine rl0 (gn rfl) rfl rfl (step_lit rfl Try.underlying22 F.sz5 F.zero5 t_33 t_139 (by decide) rfl rfl t_100 rfl) trivial ?_;refine' rl1 (gn rfl) rfl rfl (step_append_own rfl rfl rfl Try.underlying22 ⟨_, Try.underlying22, fun k_ => t_49⟩ F.el5 (ev_mk rfl) (ev_mk rfl) (gives_sl (.inr (.inl rfl))) ?hg) ⟨?hb, trivial⟩ (by omega) ?_
          case hb => exact t_9
          case hg => exact t_19
          refine rl0 (gn rfl) rfl rfl (step_as rfl rfl) trivial ?_;refine runsL_nil ?_;refine runs_region ?_;refine rl0 (gn rfl) rfl rfl (step_mv rfl rfl) trivial ?_;refine rl0 (gn rfl) rfl rfl (step_add rfl (ev_mk rfl) (ev_mk rfl) (w64 (by omega))) trivial ?_;refine rl0 (gn rfl) rfl rfl (step_as rfl rfl) trivial ?_;refine runsL_nil ?_;have hq0_ : (bytesV (fr1 e ++ pgP e.pages i ++ [(at' e.pages (i : Int)).n, (lnz (at' e.pages (i : Int)).p 224 : Int)] ++ pgQ (at' e.pages (i : Int)).p v) ++ [[V.sc (.int .u8 (at' (at' e.pages (i : Int)).p (v : Int)))]]) = ((bytesV (fr1 e ++ pgP e.pages i ++ [(at' e.pages (i : Int)).n, (lnz (at' e.pages (i : Int)).p 224 : Int)] ++ pgQ (at' e.pages (i : Int)).p (v + 1)))) := by (simp only [pgQ, bytesV_app, bytesV_one, List.append_assoc]; first | done | rfl)
          refine ⟨_, _, ?_, sle ?_ (Nat.le_refl _), (v + 1), _, _, rfl, rfl, by omega, (fun k_ hk_ => t_36), t_135, t_135, t_135, t_135, t_135, t_135, by omega⟩
          · omega
          · exact t_3
        · skip
          have hv4 : v = lnz (at' e.pages (i : Int)).p 224 := by omega
          have hl4 := lnz_le (at' e.pages (i : Int)).p 224
          refine runsL_nil ?_;refine runs_cond false (ev_mk rfl) (fun h_ => nomatch h_) (fun _ => ?_);refine runs_exit ?_;refine runs_region ?_;refine rl0 (gn rfl) rfl rfl (step_mv rfl rfl) trivial ?_;refine rl0 (gn rfl) rfl rfl (step_add rfl (ev_mk rfl) (ev_mk rfl) (w64 (by omega))) trivial ?_;refine rl0 (gn rfl) rfl rfl (step_as rfl rfl) trivial ?_;refine runsL_nil ?_;have hq0_ : ((bytesV (fr1 e ++ pgP e.pages i ++ [(at' e.pages (i : Int)).n, (lnz (at' e.pages (i : Int)).p 224 : Int)] ++ pgQ (at' e.pages (i : Int)).p v))) = (bytesV (fr1 e ++ pgP e.pages (i + 1))) := by (rw [hv4, pgQ_take _ _ (by rw [(he.2.2.2.2.2.1 _ (at_mem (xs := e.pages) (i := (i : Int)) (by omega) (by omega))).1]; omega)]; refine congrArg bytesV ?_; simp only [pgP, sqB, List.append_assoc, List.cons_append, List.nil_append, List.singleton_append])
          refine ⟨_, _, ?_, sle ?_ (Nat.le_refl _), (i + 1), _, _, rfl, rfl, by omega, (fun k_ hk_ => t_51), t_135, t_135, t_135, t_135, t_135, t_135, by omega⟩
          · omega
          · exact t_3
    · skip
      have hi4 : i = e.pages.length := by omega
      refine runsL_nil ?_;refine runs_cond false (ev_mk rfl) (fun h_ => nomatch h_) (fun _ => ?_);refine runs_exit ?_;refine runs_seq ?_;refine runs_region ?_;refine rl0 (gn rfl) rfl rfl (step_mv rfl rfl) trivial ?_;refine rl0 (gn rfl) rfl rfl (step_fieldAddr (off := 12) rfl (ev_mk rfl) Try.underlying40 rfl F.sz38 rfl) trivial ?_;refine' rl0 (gn rfl) rfl rfl (step_load_one rfl (ev_mk rfl) F.one38 ?hv) ⟨?hb, trivial⟩ ?_
      case hb => exact t_4
      case hv => rfl
      refine rl0 (gn rfl) rfl rfl (step_len (m := e.act.length) rfl rfl (ev_mk rfl) (.inl ⟨⟨_, Try.underlying38⟩, .inl ⟨_, _, .inl rfl, List.length_map _⟩⟩)) trivial ?_;refine rl0 (gn rfl) rfl rfl (step_conv_id rfl rfl Try.underlying3 Try.underlying5 (wu8 (by omega))) trivial ?_;refine rl0 (gn rfl) rfl rfl (step_lit rfl Try.underlying22 F.sz5 F.zero5 t_33 t_139 (by decide) rfl rfl t_100 rfl) trivial ?_;refine' rl1 (gn rfl) rfl rfl (step_append_own rfl rfl rfl Try.underlying22 ⟨_, Try.underlying22, fun k_ => t_49⟩ F.el5 (ev_mk rfl) (ev_mk rfl) (gives_sl (.inr (.inl rfl))) ?hg) ⟨?hb, trivial⟩ (by omega) ?_
      case hb => exact t_4
      case hg => exact t_19
      refine rl0 (gn rfl) rfl rfl (step_as rfl rfl) trivial ?_;refine runsL_nil ?_;refine runs_seq ?_;refine runs_seq ?_;refine runs_region ?_;refine rl0 (gn rfl) rfl rfl (step_as rfl rfl) trivial ?_;refine runsL_nil ?_;refine runs_block ?_;have hs0_ : bytesV (fr1 e ++ pgP e.pages i) ++ [[V.sc (.int .u8 e.act.length)]] = (bytesV (fr2 e ++ acP e.act 0)) := by (rw [hi4]; unfold fr2 acP; simp only [bytesV_app, bytesV_one, List.append_nil, List.append_assoc])
      refine runs_loop (fun (ri_ : Nat) (st_ : Go.Vm.S) => ∃ (w : Nat) (m2 : Nat) (b2 : Nat → Box), (st_ = ⟨mk [(1, .ref (n + 0) 0), (2, .sc (.slice none 0 0)), (3, .sc (.int .i64 0)), (5, .own 1 (bytesV (fr2 e ++ acP e.act w)) (n + 2)), (9, .sc (.int .i64 w))], m2, b2⟩) ∧ (ri_ = e.act.length - w) ∧ (m0 + 0 ≤ m2) ∧ (∀ k_, k_ < n → b2 k_ = bx k_) ∧ (b2 (n + 0) = .cells [.sc (.int .u64 e.lsn), .sc (.int .i64 e.kind), .sc (.int .u64 e.txn), .sc (.int .u64 e.prev), .sc (.int .u64 e.next), .sc (.int .u64 e.r.id), .sc (.int .u64 e.r.key), .sc (.int .u32 e.r.x), .sc (.int .u32 e.r.y), .sc (.string e.r.val), .sc (.bool e.r.gh), .sl 225 (e.pages.map imR), .sl 1 (e.act.map acR)]) ∧ (b2 (n + 1) = .tail (bytesV (beB 8 e.lsn)).length) ∧ (b2 (n + 2) = .tail (bytesV (fr2 e ++ acP e.act w)).length) ∧ (b2 (n + 3) = .tail (bytesV (beB 8 e.txn)).length) ∧ (b2 (n + 4) = .tail (bytesV (beB 8 e.prev)).length) ∧ (b2 (n + 5) = .tail (bytesV (beB 8 e.next)).length) ∧ (w ≤ e.act.length)) (e.act.length - 0) ⟨_, sle ?_ (Nat.le_refl _), 0, _, _, rfl, rfl, ?_⟩ ?_
      · exact t_11
      · exact ⟨by omega, (fun k_ hk_ => t_18), t_134, t_134, t_134, t_134, t_134, t_134, by omega⟩
      · rintro _ _ ⟨w, m2, b2, rfl, rfl, hm2, hf2, hB2_0, hB2_1, hB2_2, hB2_3, hB2_4, hB2_5, hF2_0⟩
        refine runs_know (fun hd2 => ?_);refine runs_bump 20 ?_;simp only at hd2;refine runs_seq ?_;refine runs_seq ?_;refine runs_region ?_;refine rl0 (gn rfl) rfl rfl (step_mv rfl rfl) trivial ?_;refine rl0 (gn rfl) rfl rfl (step_fieldAddr (off := 12) rfl (ev_mk rfl) Try.underlying40 rfl F.sz38 rfl) trivial ?_;refine' rl0 (gn rfl) rfl rfl (step_load_one rfl (ev_mk rfl) F.one38 ?hv) ⟨?hb, trivial⟩ ?_
        case hb => exact t_84
        case hv => rfl
        refine rl0 (gn rfl) rfl rfl (step_len (m := e.act.length) rfl rfl (ev_mk rfl) (.inl ⟨⟨_, Try.underlying38⟩, .inl ⟨_, _, .inl rfl, List.length_map _⟩⟩)) trivial ?_;refine rl_lss (gn rfl) rfl rfl rfl rfl rfl (fun h3 => ?_) (fun h3 => ?_)
        · skip
          refine runsL_nil ?_;refine runs_cond true (ev_mk rfl) (fun _ => ?_) (fun h_ => nomatch h_);refine runs_skip ?_;refine runs_seq ?_;refine runs_block ?_;refine runs_region ?_;refine rl0 (gn rfl) rfl rfl (step_mv rfl rfl) trivial ?_;refine rl0 (gn rfl) rfl rfl (step_fieldAddr (off := 12) rfl (ev_mk rfl) Try.underlying40 rfl F.sz38 rfl) trivial ?_;refine' rl0 (gn rfl) rfl rfl (step_load_one rfl (ev_mk rfl) F.one38 ?hv) ⟨?hb, trivial⟩ ?_
          case hb => exact t_84
          case hv => rfl
          refine rl0 (gn rfl) rfl rfl (step_mv rfl rfl) trivial ?_;refine' rl0 (gn rfl) rfl rfl (step_index rfl (ev_mk rfl) (.inl rfl) (ev_mk rfl) Try.underlying38 F.sz33 (by omega) ?hr) trivial ?_
          case hr => exact t_31
          refine rl0 (gn rfl) rfl rfl (step_load_ro rfl (ev_mk rfl) F.one33 rfl) trivial ?_;refine rl1 (gn rfl) rfl rfl (step_callc rfl Try.func33 rfl rfl rfl (rput_o (at' e.act (w : Int)) 8 (m2 + 0) (he.2.2.2.2.2.2 _ (at_mem (by omega) (by omega))) (by omega)) t_10) ⟨t_84, trivial⟩ (by omega) ?_;refine' rl1 (gn rfl) rfl rfl (step_append_own rfl rfl rfl Try.underlying22 ⟨_, Try.underlying22, fun k_ => t_49⟩ F.el5 (ev_mk rfl) (ev_mk rfl) (gives_sl (.inr (.inr ⟨_, rfl⟩))) ?hg) ⟨?hb, trivial⟩ (by omega) ?_
          case hb => exact t_84
          case hg => exact t_19
          refine rl0 (gn rfl) rfl rfl (step_as rfl rfl) trivial ?_;refine runsL_nil ?_;refine runs_region ?_;refine rl0 (gn rfl) rfl rfl (step_mv rfl rfl) trivial ?_;refine rl0 (gn rfl) rfl rfl (step_add rfl (ev_mk rfl) (ev_mk rfl) (w64 (by omega))) trivial ?_;refine rl0 (gn rfl) rfl rfl (step_as rfl rfl) trivial ?_;refine runsL_nil ?_;have hq0_ : (bytesV (fr2 e ++ acP e.act w) ++ (bytesV (beB 8 (at' e.act (w : Int))))) = (bytesV (fr2 e ++ acP e.act (w + 1))) := by (simp only [acP, bytesV_app, bytesV_one, List.append_assoc])
          refine ⟨_, _, ?_, sle ?_ (Nat.le_refl _), (w + 1), _, _, rfl, rfl, by omega, (fun k_ hk_ => by repeat (first | exact hf2 k_ hk_ | exact hf0 k_ hk_ | refine uN (by first | assumption | omega) ?_ | fail)), t_135, t_135, t_135, t_135, t_135, t_135, by omega⟩
          · omega
          · exact t_3
        · skip
          have hw4 : w = e.act.length := by omega
          refine runsL_nil ?_;refine runs_cond false (ev_mk rfl) (fun h_ => nomatch h_) (fun _ => ?_);refine runs_exit ?_;refine runs_seq ?_;refine runs_region ?_;refine rl0 (gn rfl) rfl rfl (step_mv rfl rfl) trivial ?_;refine rl0 (gn rfl) rfl rfl (step_callc rfl Try.func37 rfl rfl rfl (rsput_c (fr2 e ++ acP e.act w) (by rw [hw4]; exact bodyB_byts he hc) (by rw [hw4]; have := bodyB_small hc; exact Nat.le_trans this (by omega))) t_10) trivial ?_;refine rl0 (gn rfl) rfl rfl (step_as rfl rfl) trivial ?_;refine rl0 (gn rfl) rfl rfl (step_as rfl rfl) trivial ?_;refine runsL_nil ?_;refine runs_ret ?_;have hb_ : fr2 e ++ acP e.act w = bodyB e := by rw [hw4]; rfl
          refine ⟨t_17, fin_mkg (rest rfl (rest rfl res0)) ?_ ?_ ?_ ?_ ?_⟩
          · exact t_88
          · exact t_1
          · intro k_ hk_; exact ble (by repeat (first | exact rfl | refine uN (by omega) ?_ | assumption | exact hf0 _ (by omega) | exact hf2 _ (by omega) | fail))
          · exact t_45
          · exact t_1
end Go.Proofs.Ytdmkhpnjjpeeaaa
