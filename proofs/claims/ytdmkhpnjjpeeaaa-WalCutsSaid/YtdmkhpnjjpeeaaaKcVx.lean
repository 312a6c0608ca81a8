import Derived.Test.YtdmkhpnjjpeeaaaKcQq
import Derived.Test.YtdmkhpnjjpeeaaaKcVmP
import Derived.Test.YtdmkhpnjjpeeaaaKcVmT
import Derived.Test.YtdmkhpnjjpeeaaaKcWa
import Derived.Test.YtdmkhpnjjpeeaaaKcWc
import Derived.Test.YtdmkhpnjjpeeaaaKcWd
import Derived.Test.YtdmkhpnjjpeeaaaKcWe
import Derived.Test.YtdmkhpnjjpeeaaaKcVd
import Derived.Test.YtdmkhpnjjpeeaaaKcVe
import Derived.Test.YtdmkhpnjjpeeaaaKcVj
import Derived.Test.YtdmkhpnjjpeeaaaKcVk
import Derived.Test.YtdmkhpnjjpeeaaaKcVn
import Derived.Test.YtdmkhpnjjpeeaaaKcWh
import Derived.Test.YtdmkhpnjjpeeaaaKcVmZ
import Derived.Test.YtdmkhpnjjpeeaaaKcVq
import Derived.Test.YtdmkhpnjjpeeaaaKcVr
import Derived.Test.YtdmkhpnjjpeeaaaKcVt
import Derived.Test.YtdmkhpnjjpeeaaaKcVu
import Derived.Test.YtdmkhpnjjpeeaaaKcVw
namespace Go.Proofs.Ytdmkhpnjjpeeaaa
open Go.Vm
set_option linter.unusedVariables false
set_option linter.unusedSimpArgs false
open Crc
attribute [local irreducible] Go.Vm.beB
theorem secsV_app (a b : List (List Int)) : secsV a ++ secsV b = secsV (a ++ b) := (List.map_append ..).symm
theorem enC_app (es : List En) (x : En) : es.map enC ++ [enC x] = (es ++ [x]).map enC := by rw [List.map_append]; rfl
theorem secsV_len (a : List (List Int)) : (secsV a).length = a.length := List.length_map _
set_option maxRecDepth 100000 in
set_option maxHeartbeats 4000000 in
theorem wnew_bad (k1 k2 L : Nat) (a b c d : V) (x y : Int) (hL : L ≤ 100000) (hx : -9223372036854775808 ≤ x ∧ x ≤ 9223372036854775807) (h : x < 0 ∨ y < 1 ∨ x > L ∨ y > L - x) : Does Try.prog 18 [.ref k1 0, .sc (.int .i64 x), .sc (.int .i64 y)] [(k1, .cells [.msl k2 0 L L 64, a, b, c, d])] [] (.tup [.sc (.pointer none), .sc (.int .i64 2)]) := by
  refine does_mkg 40 Try.func18 rfl rfl rfl (fun n B bx hd hpre hup hvs hbx hgx => ?_);have hp0 := hpre.1;have hk0 := lt_cells hd hp0;refine runs_seq ?_;refine runs_region ?_;refine rl0 (gn rfl) rfl rfl (step_as rfl rfl) trivial ?_;refine rl0 (gn rfl) rfl rfl (step_as rfl rfl) trivial ?_;refine runsL_nil ?_;refine runs_seq ?_;refine runs_seq ?_;refine runs_region ?_;refine rl0 (gn rfl) rfl rfl (step_mv rfl rfl) trivial ?_;refine rl0 (gn rfl) rfl rfl (step_eq_nil (b := false) rfl (ev_mk rfl) (ev_mk rfl) Try.underlying53 ⟨_, .inl ⟨.inl ⟨_, _, rfl⟩, rfl⟩, .inl ⟨rfl, rfl⟩⟩) trivial ?_;refine runsL_nil ?_;refine runs_cond false (ev_mk rfl) (fun h_ => nomatch h_) (fun _ => ?_);refine runs_skip ?_;refine runs_seq ?_;refine runs_seq ?_;refine runs_region ?_;refine rl0 (gn rfl) rfl rfl (step_mv rfl rfl) trivial ?_;refine rl_lss (gn rfl) rfl rfl rfl rfl rfl (fun h1 => ?_) (fun h1 => ?_)
  · skip
    refine rl0 (gn rfl) rfl rfl (step_mv rfl rfl) trivial ?_;refine rlk rfl rfl rfl rfl rfl (ngb rfl rfl) rfl rfl ?_;refine rlk rfl rfl rfl rfl rfl (ngb rfl rfl) rfl rfl ?_;refine rl0 (gn rfl) rfl rfl (step_pick rfl (ev_mk rfl) (ev_mk rfl)) trivial ?_;refine rl0 (gn rfl) rfl rfl (step_mv rfl rfl) trivial ?_;refine rlk rfl rfl rfl rfl rfl (ngb rfl rfl) rfl rfl ?_;refine rlk rfl rfl rfl rfl rfl (ngb rfl rfl) rfl rfl ?_;refine rlk rfl rfl rfl rfl rfl (ngb rfl rfl) rfl rfl ?_;refine rlk rfl rfl rfl rfl rfl (ngb rfl rfl) rfl rfl ?_;refine rl0 (gn rfl) rfl rfl (step_pick rfl (ev_mk rfl) (ev_mk rfl)) trivial ?_;refine rl0 (gn rfl) rfl rfl (step_mv rfl rfl) trivial ?_;refine rlk rfl rfl rfl rfl rfl (ngb rfl rfl) rfl rfl ?_;refine rlk rfl rfl rfl rfl rfl (ngb rfl rfl) rfl rfl ?_;refine rlk rfl rfl rfl rfl rfl (ngb rfl rfl) rfl rfl ?_;refine rlk rfl rfl rfl rfl rfl (ngb rfl rfl) rfl rfl ?_;refine rlk rfl rfl rfl rfl rfl (ngb rfl rfl) rfl rfl ?_;refine rlk rfl rfl rfl rfl rfl (ngb rfl rfl) rfl rfl ?_;refine rl0 (gn rfl) rfl rfl (step_pick rfl (ev_mk rfl) (ev_mk rfl)) trivial ?_;refine runsL_nil ?_;refine runs_cond true (ev_mk rfl) (fun _ => ?_) (fun h_ => nomatch h_);refine runs_seq ?_;refine runs_region ?_;refine rl0 (gn rfl) rfl rfl (step_as rfl rfl) trivial ?_;refine rl0 (gn rfl) rfl rfl (step_as rfl rfl) trivial ?_;refine runsL_nil ?_;refine runs_ret ?_;refine ⟨t_17, fin_mkg (rest rfl (rest rfl res0)) ?_ ?_ ?_ ?_ ?_⟩
    · exact t_2
    · exact t_1
    · exact t_142
    · exact t_45
    · exact t_1
  · skip
    refine rl0 (gn rfl) rfl rfl (step_mv rfl rfl) trivial ?_;refine rl0 (gy rfl rfl rfl rfl rfl rfl) rfl rfl (step_mv rfl rfl) trivial ?_;refine rl_lss (gy rfl rfl rfl rfl rfl rfl) rfl rfl rfl rfl rfl (fun h2 => ?_) (fun h2 => ?_)
    · skip
      refine rl0 (gn rfl) rfl rfl (step_pick rfl (ev_mk rfl) (ev_mk rfl)) trivial ?_;refine rl0 (gn rfl) rfl rfl (step_mv rfl rfl) trivial ?_;refine rlk rfl rfl rfl rfl rfl (ngb rfl rfl) rfl rfl ?_;refine rlk rfl rfl rfl rfl rfl (ngb rfl rfl) rfl rfl ?_;refine rlk rfl rfl rfl rfl rfl (ngb rfl rfl) rfl rfl ?_;refine rlk rfl rfl rfl rfl rfl (ngb rfl rfl) rfl rfl ?_;refine rl0 (gn rfl) rfl rfl (step_pick rfl (ev_mk rfl) (ev_mk rfl)) trivial ?_;refine rl0 (gn rfl) rfl rfl (step_mv rfl rfl) trivial ?_;refine rlk rfl rfl rfl rfl rfl (ngb rfl rfl) rfl rfl ?_;refine rlk rfl rfl rfl rfl rfl (ngb rfl rfl) rfl rfl ?_;refine rlk rfl rfl rfl rfl rfl (ngb rfl rfl) rfl rfl ?_;refine rlk rfl rfl rfl rfl rfl (ngb rfl rfl) rfl rfl ?_;refine rlk rfl rfl rfl rfl rfl (ngb rfl rfl) rfl rfl ?_;refine rlk rfl rfl rfl rfl rfl (ngb rfl rfl) rfl rfl ?_;refine rl0 (gn rfl) rfl rfl (step_pick rfl (ev_mk rfl) (ev_mk rfl)) trivial ?_;refine runsL_nil ?_;refine runs_cond true (ev_mk rfl) (fun _ => ?_) (fun h_ => nomatch h_);refine runs_seq ?_;refine runs_region ?_;refine rl0 (gn rfl) rfl rfl (step_as rfl rfl) trivial ?_;refine rl0 (gn rfl) rfl rfl (step_as rfl rfl) trivial ?_;refine runsL_nil ?_;refine runs_ret ?_;refine ⟨t_17, fin_mkg (rest rfl (rest rfl res0)) ?_ ?_ ?_ ?_ ?_⟩
      · exact t_2
      · exact t_1
      · exact t_142
      · exact t_45
      · exact t_1
    · skip
      refine rl0 (gn rfl) rfl rfl (step_pick rfl (ev_mk rfl) (ev_mk rfl)) trivial ?_;refine rl0 (gn rfl) rfl rfl (step_mv rfl rfl) trivial ?_;refine rl0 (gy rfl rfl rfl rfl rfl rfl) rfl rfl (step_mv rfl rfl) trivial ?_;refine rl0 (gy rfl rfl rfl rfl rfl rfl) rfl rfl (step_mv rfl rfl) trivial ?_;refine rl0 (gy rfl rfl rfl rfl rfl rfl) rfl rfl (step_callc rfl Try.func42 rfl rfl rfl (size_c k1 k2 L a b c d) t_10) ⟨t_0, trivial⟩ ?_;refine rl_gtr (gy rfl rfl rfl rfl rfl rfl) rfl rfl rfl rfl rfl (fun h3 => ?_) (fun h3 => ?_)
      · skip
        refine rl0 (gn rfl) rfl rfl (step_pick rfl (ev_mk rfl) (ev_mk rfl)) trivial ?_;refine rl0 (gn rfl) rfl rfl (step_mv rfl rfl) trivial ?_;refine rlk rfl rfl rfl rfl rfl (ngb rfl rfl) rfl rfl ?_;refine rlk rfl rfl rfl rfl rfl (ngb rfl rfl) rfl rfl ?_;refine rlk rfl rfl rfl rfl rfl (ngb rfl rfl) rfl rfl ?_;refine rlk rfl rfl rfl rfl rfl (ngb rfl rfl) rfl rfl ?_;refine rlk rfl rfl rfl rfl rfl (ngb rfl rfl) rfl rfl ?_;refine rlk rfl rfl rfl rfl rfl (ngb rfl rfl) rfl rfl ?_;refine rl0 (gn rfl) rfl rfl (step_pick rfl (ev_mk rfl) (ev_mk rfl)) trivial ?_;refine runsL_nil ?_;refine runs_cond true (ev_mk rfl) (fun _ => ?_) (fun h_ => nomatch h_);refine runs_seq ?_;refine runs_region ?_;refine rl0 (gn rfl) rfl rfl (step_as rfl rfl) trivial ?_;refine rl0 (gn rfl) rfl rfl (step_as rfl rfl) trivial ?_;refine runsL_nil ?_;refine runs_ret ?_;refine ⟨t_17, fin_mkg (rest rfl (rest rfl res0)) ?_ ?_ ?_ ?_ ?_⟩
        · exact t_2
        · exact t_1
        · exact t_142
        · exact t_45
        · exact t_1
      · skip
        refine rl0 (gn rfl) rfl rfl (step_pick rfl (ev_mk rfl) (ev_mk rfl)) trivial ?_;refine rl0 (gn rfl) rfl rfl (step_mv rfl rfl) trivial ?_;refine rl0 (gy rfl rfl rfl rfl rfl rfl) rfl rfl (step_mv rfl rfl) trivial ?_;refine rl0 (gy rfl rfl rfl rfl rfl rfl) rfl rfl (step_mv rfl rfl) trivial ?_;refine rl0 (gy rfl rfl rfl rfl rfl rfl) rfl rfl (step_callc rfl Try.func42 rfl rfl rfl (size_c k1 k2 L a b c d) t_10) ⟨t_0, trivial⟩ ?_;refine rl0 (gy rfl rfl rfl rfl rfl rfl) rfl rfl (step_mv rfl rfl) trivial ?_;refine rl0 (gy rfl rfl rfl rfl rfl rfl) rfl rfl (step_sub rfl (ev_mk rfl) (ev_mk rfl) (w64 (by omega))) trivial ?_;refine rl_gtr (gy rfl rfl rfl rfl rfl rfl) rfl rfl rfl rfl rfl (fun h4 => ?_) (fun h4 => ?_)
        · skip
          refine rl0 (gn rfl) rfl rfl (step_pick rfl (ev_mk rfl) (ev_mk rfl)) trivial ?_;refine runsL_nil ?_;refine runs_cond true (ev_mk rfl) (fun _ => ?_) (fun h_ => nomatch h_);refine runs_seq ?_;refine runs_region ?_;refine rl0 (gn rfl) rfl rfl (step_as rfl rfl) trivial ?_;refine rl0 (gn rfl) rfl rfl (step_as rfl rfl) trivial ?_;refine runsL_nil ?_;refine runs_ret ?_;refine ⟨t_17, fin_mkg (rest rfl (rest rfl res0)) ?_ ?_ ?_ ?_ ?_⟩
          · exact t_2
          · exact t_1
          · exact t_142
          · exact t_45
          · exact t_1
        · skip
          exact False.elim (by omega)
set_option maxRecDepth 100000 in
set_option maxHeartbeats 4000000 in
theorem wnew_ok (k1 k2 L : Nat) (a b c d : V) (x y : Int) (hL : L ≤ 100000) (hx : -9223372036854775808 ≤ x ∧ x ≤ 9223372036854775807) (K : Nat) (h : ¬ (x < 0 ∨ y < 1 ∨ x > L ∨ y > L - x)) : Does Try.prog 18 [.ref k1 0, .sc (.int .i64 x), .sc (.int .i64 y)] [(k1, .cells [.msl k2 0 L L 64, a, b, c, d]), (K, .dead)] [(K, .cells [.ref k1 0, .sc (.int .i64 x), .sc (.int .i64 y), .sc (.int .i64 0), .sc (.slice none 0 0), .sc (.slice none 0 0)])] (.tup [.ref K 0, .sc (.int .i64 0)]) := by
  refine does_mkg 40 Try.func18 rfl rfl rfl (fun n B bx hd hpre hup hvs hbx hgx => ?_);have hp0 := hpre.1;have hk0 := lt_cells hd hp0;have hp1 := hpre.2.1;have hz1 := hp1;have hu0 := hup.1;refine runs_seq ?_;refine runs_region ?_;refine rl0 (gn rfl) rfl rfl (step_as rfl rfl) trivial ?_;refine rl0 (gn rfl) rfl rfl (step_as rfl rfl) trivial ?_;refine runsL_nil ?_;refine runs_seq ?_;refine runs_seq ?_;refine runs_region ?_;refine rl0 (gn rfl) rfl rfl (step_mv rfl rfl) trivial ?_;refine rl0 (gn rfl) rfl rfl (step_eq_nil (b := false) rfl (ev_mk rfl) (ev_mk rfl) Try.underlying53 ⟨_, .inl ⟨.inl ⟨_, _, rfl⟩, rfl⟩, .inl ⟨rfl, rfl⟩⟩) trivial ?_;refine runsL_nil ?_;refine runs_cond false (ev_mk rfl) (fun h_ => nomatch h_) (fun _ => ?_);refine runs_skip ?_;refine runs_seq ?_;refine runs_seq ?_;refine runs_region ?_;refine rl0 (gn rfl) rfl rfl (step_mv rfl rfl) trivial ?_;refine rl_lss (gn rfl) rfl rfl rfl rfl rfl (fun h1 => ?_) (fun h1 => ?_)
  · exact t_42
  refine rl0 (gn rfl) rfl rfl (step_mv rfl rfl) trivial ?_;refine rl0 (gy rfl rfl rfl rfl rfl rfl) rfl rfl (step_mv rfl rfl) trivial ?_;refine rl_lss (gy rfl rfl rfl rfl rfl rfl) rfl rfl rfl rfl rfl (fun h2 => ?_) (fun h2 => ?_)
  · exact t_42
  refine rl0 (gn rfl) rfl rfl (step_pick rfl (ev_mk rfl) (ev_mk rfl)) trivial ?_;refine rl0 (gn rfl) rfl rfl (step_mv rfl rfl) trivial ?_;refine rl0 (gy rfl rfl rfl rfl rfl rfl) rfl rfl (step_mv rfl rfl) trivial ?_;refine rl0 (gy rfl rfl rfl rfl rfl rfl) rfl rfl (step_mv rfl rfl) trivial ?_;refine rl0 (gy rfl rfl rfl rfl rfl rfl) rfl rfl (step_callc rfl Try.func42 rfl rfl rfl (size_c k1 k2 L a b c d) t_10) ⟨t_0, trivial⟩ ?_;refine rl_gtr (gy rfl rfl rfl rfl rfl rfl) rfl rfl rfl rfl rfl (fun h3 => ?_) (fun h3 => ?_)
  · exact t_42
  refine rl0 (gn rfl) rfl rfl (step_pick rfl (ev_mk rfl) (ev_mk rfl)) trivial ?_;refine rl0 (gn rfl) rfl rfl (step_mv rfl rfl) trivial ?_;refine rl0 (gy rfl rfl rfl rfl rfl rfl) rfl rfl (step_mv rfl rfl) trivial ?_;refine rl0 (gy rfl rfl rfl rfl rfl rfl) rfl rfl (step_mv rfl rfl) trivial ?_;refine rl0 (gy rfl rfl rfl rfl rfl rfl) rfl rfl (step_callc rfl Try.func42 rfl rfl rfl (size_c k1 k2 L a b c d) t_10) ⟨t_0, trivial⟩ ?_;refine rl0 (gy rfl rfl rfl rfl rfl rfl) rfl rfl (step_mv rfl rfl) trivial ?_;refine rl0 (gy rfl rfl rfl rfl rfl rfl) rfl rfl (step_sub rfl (ev_mk rfl) (ev_mk rfl) (w64 (by omega))) trivial ?_;refine rl_gtr (gy rfl rfl rfl rfl rfl rfl) rfl rfl rfl rfl rfl (fun h4 => ?_) (fun h4 => ?_)
  · exact t_42
  refine rl0 (gn rfl) rfl rfl (step_pick rfl (ev_mk rfl) (ev_mk rfl)) trivial ?_;refine runsL_nil ?_;refine runs_cond false (ev_mk rfl) (fun h_ => nomatch h_) (fun _ => ?_);refine runs_skip ?_;refine runs_seq ?_;refine runs_region ?_;refine rl0 (gn rfl) rfl rfl (step_mv rfl rfl) trivial ?_;refine rl0 (gn rfl) rfl rfl (step_mv rfl rfl) trivial ?_;refine rl0 (gn rfl) rfl rfl (step_mv rfl rfl) trivial ?_;refine rl0 (gn rfl) rfl rfl (step_build (ss := [1, 1, 1, 1, 1, 1]) (zs := [.pointer none, .int .i64 0, .int .i64 0, .int .i64 0, .slice none 0 0, .slice none 0 0]) rfl Try.underlying96 (by kernel_rfl) F.zero96 rfl rfl rfl) trivial ?_;refine rl1 (gn rfl) rfl rfl (step_box_agg (k := K) rfl rfl) ⟨t_0, trivial⟩ (by omega) ?_;refine rl0 (gn rfl) rfl rfl (step_as rfl rfl) trivial ?_;refine rl0 (gn rfl) rfl rfl (step_as rfl rfl) trivial ?_;refine runsL_nil ?_;refine runs_ret ?_;refine ⟨t_17, fin_mkg (rest rfl (rest rfl res0)) ?_ ?_ ?_ ?_ ?_⟩
  · exact t_2
  · exact t_1
  · exact t_146
  · exact t_132
  · exact t_1
set_option maxRecDepth 100000 in
set_option maxHeartbeats 4000000 in
theorem used_c (kl k1 kt ka : Nat) (base sz dn : Nat) (tl : List (List Int)) (es : List En) (hbd : base ≤ 100000 ∧ sz ≤ 100000 ∧ dn ≤ 100000 ∧ tl.length ≤ 100000 ∧ es.length ≤ 100000) : Does Try.prog 29 [.ref kl 0] [(kl, .cells [.ref k1 0, .sc (.int .i64 (base : Int)), .sc (.int .i64 (sz : Int)), .sc (.int .i64 (dn : Int)), .own 64 (secsV tl) kt, .own 13 (es.map enC) ka])] [] (.sc (.int .i64 ((dn + tl.length : Nat) : Int))) := by
  refine does_mkg 40 Try.func29 rfl rfl rfl (fun n B bx hd hpre hup hvs hbx hgx => ?_);have hp0 := hpre.1;have hk0 := lt_cells hd hp0;refine runs_seq ?_;refine runs_region ?_;refine rl0 (gn rfl) rfl rfl (step_as rfl rfl) trivial ?_;refine runsL_nil ?_;refine runs_seq ?_;refine runs_draw (by kernel_rfl) (by kernel_rfl) (by kernel_rfl) ?_;refine dl0 (gn rfl) rfl rfl (step_mv rfl rfl) trivial ?_;refine dl0 (gn rfl) rfl rfl (step_nilCheck rfl (ev_mk rfl) (.inl ⟨_, _, rfl⟩)) trivial ?_;refine dl0 (gn rfl) rfl rfl (step_fieldAddr (off := 3) rfl (ev_mk rfl) Try.underlying96 rfl F.sz3 rfl) trivial ?_;refine' dl0 (gn rfl) rfl rfl (step_load_one rfl (ev_mk rfl) F.one3 ?hv) ⟨?hb, trivial⟩ ?_
  case hb => exact t_0
  case hv => rfl
  refine dl0 (gn rfl) rfl rfl (step_mv rfl rfl) trivial ?_;refine dl0 (gn rfl) rfl rfl (step_nilCheck rfl (ev_mk rfl) (.inl ⟨_, _, rfl⟩)) trivial ?_;refine dl0 (gn rfl) rfl rfl (step_fieldAddr (off := 4) rfl (ev_mk rfl) Try.underlying96 rfl F.sz27 rfl) trivial ?_;refine' dl0 (gn rfl) rfl rfl (step_load_one rfl (ev_mk rfl) F.one27 ?hv) ⟨?hb, trivial⟩ ?_
  case hb => exact t_0
  case hv => rfl
  refine dl0 (gn rfl) rfl rfl (step_len (m := tl.length) rfl rfl (ev_mk rfl) (.inl ⟨⟨_, Try.underlying27⟩, .inl ⟨_, _, .inr (.inr ⟨_, rfl⟩), List.length_map _⟩⟩)) trivial ?_;refine dl0 (gn rfl) rfl rfl (step_add rfl (ev_mk rfl) (ev_mk rfl) (w64 (by omega))) trivial ?_;refine dl0 (gn rfl) rfl rfl (step_as rfl rfl) trivial ?_;refine dlnil ?_ ?_
  · exact t_12
  refine runs_ret ?_;refine ⟨t_17, fin_mkg (rest rfl res0) ?_ ?_ ?_ ?_ ?_⟩
  · exact t_2
  · exact t_1
  · exact t_142
  · exact t_45
  · exact t_1
set_option maxRecDepth 100000 in
set_option maxHeartbeats 4000000 in
theorem wleft_c (kl k1 kt ka : Nat) (base sz dn : Nat) (tl : List (List Int)) (es : List En) (hbd : base ≤ 100000 ∧ sz ≤ 100000 ∧ dn ≤ 100000 ∧ tl.length ≤ 100000 ∧ es.length ≤ 100000) : Does Try.prog 20 [.ref kl 0] [(kl, .cells [.ref k1 0, .sc (.int .i64 (base : Int)), .sc (.int .i64 (sz : Int)), .sc (.int .i64 (dn : Int)), .own 64 (secsV tl) kt, .own 13 (es.map enC) ka])] [] (.sc (.int .i64 ((sz : Int) - ((dn + tl.length : Nat) : Int)))) := by
  refine does_mkg 40 Try.func20 rfl rfl rfl (fun n B bx hd hpre hup hvs hbx hgx => ?_);have hp0 := hpre.1;have hk0 := lt_cells hd hp0;refine runs_seq ?_;refine runs_region ?_;refine rl0 (gn rfl) rfl rfl (step_as rfl rfl) trivial ?_;refine runsL_nil ?_;refine runs_seq ?_;refine runs_draw (by kernel_rfl) (by kernel_rfl) (by kernel_rfl) ?_;refine dl0 (gn rfl) rfl rfl (step_mv rfl rfl) trivial ?_;refine dl0 (gn rfl) rfl rfl (step_nilCheck rfl (ev_mk rfl) (.inl ⟨_, _, rfl⟩)) trivial ?_;refine dl0 (gn rfl) rfl rfl (step_fieldAddr (off := 2) rfl (ev_mk rfl) Try.underlying96 rfl F.sz3 rfl) trivial ?_;refine' dl0 (gn rfl) rfl rfl (step_load_one rfl (ev_mk rfl) F.one3 ?hv) ⟨?hb, trivial⟩ ?_
  case hb => exact t_0
  case hv => rfl
  refine dl0 (gn rfl) rfl rfl (step_mv rfl rfl) trivial ?_;refine dl0 (gn rfl) rfl rfl (step_callc rfl Try.func29 rfl rfl rfl (used_c kl k1 kt ka base sz dn tl es hbd) t_10) ⟨t_0, trivial⟩ ?_;refine dl0 (gn rfl) rfl rfl (step_sub rfl (ev_mk rfl) (ev_mk rfl) (w64 (by omega))) trivial ?_;refine dl0 (gn rfl) rfl rfl (step_as rfl rfl) trivial ?_;refine dlnil ?_ ?_
  · exact t_12
  refine runs_ret ?_;refine ⟨t_17, fin_mkg (rest rfl res0) ?_ ?_ ?_ ?_ ?_⟩
  · exact t_2
  · exact t_1
  · exact t_142
  · exact t_45
  · exact t_1
set_option maxRecDepth 100000 in
set_option maxHeartbeats 4000000 in
theorem next_c (kl k1 kt ka : Nat) (base sz dn : Nat) (tl : List (List Int)) (es : List En) (hbd : base ≤ 100000 ∧ sz ≤ 100000 ∧ dn ≤ 100000 ∧ tl.length ≤ 100000 ∧ es.length ≤ 100000) : Does Try.prog 30 [.ref kl 0] [(kl, .cells [.ref k1 0, .sc (.int .i64 (base : Int)), .sc (.int .i64 (sz : Int)), .sc (.int .i64 (dn : Int)), .own 64 (secsV tl) kt, .own 13 (es.map enC) ka])] [] (.sc (.int .u64 (((dn + tl.length : Nat) : Int) + 1))) := by
  refine does_mkg 40 Try.func30 rfl rfl rfl (fun n B bx hd hpre hup hvs hbx hgx => ?_);have hp0 := hpre.1;have hk0 := lt_cells hd hp0;refine runs_seq ?_;refine runs_region ?_;refine rl0 (gn rfl) rfl rfl (step_as rfl rfl) trivial ?_;refine runsL_nil ?_;refine runs_seq ?_;refine runs_region ?_;refine rl0 (gn rfl) rfl rfl (step_mv rfl rfl) trivial ?_;refine rl0 (gn rfl) rfl rfl (step_callc rfl Try.func29 rfl rfl rfl (used_c kl k1 kt ka base sz dn tl es hbd) t_10) ⟨t_0, trivial⟩ ?_;refine rl0 (gn rfl) rfl rfl (step_add rfl (ev_mk rfl) (ev_mk rfl) (w64 (by omega))) trivial ?_;refine rl0 (gn rfl) rfl rfl (step_conv_id rfl rfl Try.underlying3 Try.underlying33 (wu64 (by omega))) trivial ?_;refine rl0 (gn rfl) rfl rfl (step_as rfl rfl) trivial ?_;refine runsL_nil ?_;refine runs_ret ?_;refine ⟨t_17, fin_mkg (rest rfl res0) ?_ ?_ ?_ ?_ ?_⟩
  · exact t_2
  · exact t_1
  · exact t_142
  · exact t_45
  · exact t_1
set_option maxRecDepth 100000 in
set_option maxHeartbeats 4000000 in
theorem forced_c (kl k1 kt ka : Nat) (base sz dn : Nat) (tl : List (List Int)) (es : List En) (q : Int) (hbd : base ≤ 100000 ∧ sz ≤ 100000 ∧ dn ≤ 100000 ∧ tl.length ≤ 100000 ∧ es.length ≤ 100000) : Does Try.prog 27 [.ref kl 0, .sc (.int .u64 q)] [(kl, .cells [.ref k1 0, .sc (.int .i64 (base : Int)), .sc (.int .i64 (sz : Int)), .sc (.int .i64 (dn : Int)), .own 64 (secsV tl) kt, .own 13 (es.map enC) ka])] [] (.sc (.bool (decide (q ≤ (dn : Int))))) := by
  refine does_mkg 40 Try.func27 rfl rfl rfl (fun n B bx hd hpre hup hvs hbx hgx => ?_);have hp0 := hpre.1;have hk0 := lt_cells hd hp0;refine runs_seq ?_;refine runs_region ?_;refine rl0 (gn rfl) rfl rfl (step_as rfl rfl) trivial ?_;refine runsL_nil ?_;refine runs_seq ?_;refine runs_region ?_;refine rl0 (gn rfl) rfl rfl (step_mv rfl rfl) trivial ?_;refine rl0 (gn rfl) rfl rfl (step_mv rfl rfl) trivial ?_;refine rl0 (gn rfl) rfl rfl (step_nilCheck rfl (ev_mk rfl) (.inl ⟨_, _, rfl⟩)) trivial ?_;refine rl0 (gn rfl) rfl rfl (step_fieldAddr (off := 3) rfl (ev_mk rfl) Try.underlying96 rfl F.sz3 rfl) trivial ?_;refine' rl0 (gn rfl) rfl rfl (step_load_one rfl (ev_mk rfl) F.one3 ?hv) ⟨?hb, trivial⟩ ?_
  case hb => exact t_0
  case hv => rfl
  refine rl0 (gn rfl) rfl rfl (step_conv_id rfl rfl Try.underlying3 Try.underlying33 (wu64 (by omega))) trivial ?_;refine rl0 (gn rfl) rfl rfl (step_binOp rfl (ev_mk rfl) (ev_mk rfl) run_leq) trivial ?_;refine rl0 (gn rfl) rfl rfl (step_as rfl rfl) trivial ?_;refine runsL_nil ?_;refine runs_ret ?_;refine ⟨t_17, fin_mkg (rest rfl res0) ?_ ?_ ?_ ?_ ?_⟩
  · exact t_2
  · exact t_1
  · exact t_142
  · exact t_45
  · exact t_1
set_option maxRecDepth 100000 in
set_option maxHeartbeats 4000000 in
theorem all_c (kl k1 kt ka : Nat) (base sz dn : Nat) (tl : List (List Int)) (es : List En) (hbd : base ≤ 100000 ∧ sz ≤ 100000 ∧ dn ≤ 100000 ∧ tl.length ≤ 100000 ∧ es.length ≤ 100000) : Does Try.prog 31 [.ref kl 0] [(kl, .cells [.ref k1 0, .sc (.int .i64 (base : Int)), .sc (.int .i64 (sz : Int)), .sc (.int .i64 (dn : Int)), .own 64 (secsV tl) kt, .own 13 (es.map enC) ka])] [] (.sl 13 (es.map enC)) := by
  refine does_mkg 40 Try.func31 rfl rfl rfl (fun n B bx hd hpre hup hvs hbx hgx => ?_);have hp0 := hpre.1;have hk0 := lt_cells hd hp0;refine runs_seq ?_;refine runs_region ?_;refine rl0 (gn rfl) rfl rfl (step_as rfl rfl) trivial ?_;refine runsL_nil ?_;refine runs_seq ?_;refine runs_region ?_;refine rl0 (gn rfl) rfl rfl (step_lit rfl Try.underlying24 F.sz40 F.zero40 t_33 t_139 (by decide) rfl rfl t_21 rfl) trivial ?_;refine rl0 (gn rfl) rfl rfl (step_mv rfl rfl) trivial ?_;refine rl0 (gn rfl) rfl rfl (step_nilCheck rfl (ev_mk rfl) (.inl ⟨_, _, rfl⟩)) trivial ?_;refine rl0 (gn rfl) rfl rfl (step_fieldAddr (off := 5) rfl (ev_mk rfl) Try.underlying96 rfl F.sz24 rfl) trivial ?_;refine' rl0 (gn rfl) rfl rfl (step_load_one rfl (ev_mk rfl) F.one24 ?hv) ⟨?hb, trivial⟩ ?_
  case hb => exact t_0
  case hv => rfl
  refine' rl1 (gn rfl) rfl rfl (step_append_new (k := n + 0) rfl rfl rfl Try.underlying24 ⟨_, Try.underlying24, fun k_ => t_49⟩ F.el40 (ev_mk rfl) (.inl rfl) (ev_mk rfl) (gives_sl (.inr (.inr ⟨_, rfl⟩))) ?hg) ⟨?hb, trivial⟩ (by omega) ?_
  case hb => exact t_0
  case hg => (simp; omega)
  refine rl0 (gn rfl) rfl rfl (step_as rfl rfl) trivial ?_;refine runsL_nil ?_;refine runs_ret ?_;refine ⟨t_17, fin_mkg (rest rfl res0) ?_ ?_ ?_ ?_ ?_⟩
  · exact t_2
  · exact t_1
  · exact t_142
  · exact t_45
  · exact t_1
set_option maxRecDepth 100000 in
set_option maxHeartbeats 4000000 in
theorem find_y (kl k1 kt ka : Nat) (base sz dn : Nat) (tl : List (List Int)) (es : List En) (p : Nat) (q : Int) (hbd : base ≤ 100000 ∧ sz ≤ 100000 ∧ dn ≤ 100000 ∧ tl.length ≤ 100000 ∧ es.length ≤ 100000) (hp : p ≤ es.length) (hpq : ∀ m : Nat, m < es.length → ((at' es (m : Int)).lsn < q ↔ m < p)) (hy : p < es.length) (he : (at' es (p : Int)).lsn = q) : Does Try.prog 28 [.ref kl 0, .sc (.int .u64 q)] [(kl, .cells [.ref k1 0, .sc (.int .i64 (base : Int)), .sc (.int .i64 (sz : Int)), .sc (.int .i64 (dn : Int)), .own 64 (secsV tl) kt, .own 13 (es.map enC) ka])] [] (.tup [.agg (enC (at' es (p : Int))), .sc (.bool true)]) := by
  refine does_mkg 40 Try.func28 rfl rfl rfl (fun n B bx hd hpre hup hvs hbx hgx => ?_);have hp0 := hpre.1;have hk0 := lt_cells hd hp0;refine runs_seq ?_;refine runs_region ?_;refine rl1 (gn rfl) rfl rfl (step_allocc (k := n + 0) (zs := [.int .u64 0, .int .i64 0, .int .u64 0, .int .u64 0, .int .u64 0, .int .u64 0, .int .u64 0, .int .u32 0, .int .u32 0, .string ByteArray.empty, .bool false, .slice none 0 0, .slice none 0 0]) (cs := [.sc (.int .u64 0), .sc (.int .i64 0), .sc (.int .u64 0), .sc (.int .u64 0), .sc (.int .u64 0), .sc (.int .u64 0), .sc (.int .u64 0), .sc (.int .u32 0), .sc (.int .u32 0), .sc (.string ByteArray.empty), .sc (.bool false), .sc (.slice none 0 0), .sc (.slice none 0 0)]) rfl F.zero40 t_33 t_55 t_33) ⟨t_0, trivial⟩ (by omega) ?_;refine rl0 (gn rfl) rfl rfl (step_as rfl rfl) trivial ?_;refine runsL_nil ?_;refine runs_seq ?_;refine runs_draw (by kernel_rfl) (by kernel_rfl) (by kernel_rfl) ?_;refine dl0 (gn rfl) rfl rfl (step_mv rfl rfl) trivial ?_;refine dl0 (gn rfl) rfl rfl (step_nilCheck rfl (ev_mk rfl) (.inl ⟨_, _, rfl⟩)) trivial ?_;refine dl0 (gn rfl) rfl rfl (step_fieldAddr (off := 5) rfl (ev_mk rfl) Try.underlying96 rfl F.sz24 rfl) trivial ?_;refine' dl0 (gn rfl) rfl rfl (step_load_one rfl (ev_mk rfl) F.one24 ?hv) ⟨?hb, trivial⟩ ?_
  case hb => exact t_0
  case hv => rfl
  refine dl0 (gn rfl) rfl rfl (step_len (m := es.length) rfl rfl (ev_mk rfl) (.inl ⟨⟨_, Try.underlying24⟩, .inl ⟨_, _, .inr (.inr ⟨_, rfl⟩), List.length_map _⟩⟩)) trivial ?_;refine dl0 (gn rfl) rfl rfl (step_as rfl rfl) trivial ?_;refine dl0 (gn rfl) rfl rfl (step_as rfl rfl) trivial ?_;refine dlnil ?_ ?_
  · exact t_12
  refine runs_seq ?_;refine runs_block ?_;have hs0_ : 0 = (0 : Int) := t_73;have hs1_ : es.length = (es.length : Int) := t_73;refine runs_loop (fun (ri_ : Nat) (st_ : Go.Vm.S) => ∃ (lo hi : Nat) (m0 : Nat) (b0 : Nat → Box), (st_ = ⟨mk [(0, .ref kl 0), (1, .sc (.int .u64 q)), (4, .ref (n + 0) 0), (5, .sc (.bool false)), (6, .sc (.int .i64 (lo : Int))), (7, .sc (.int .i64 (hi : Int)))], m0, b0⟩) ∧ (ri_ = 1 + (hi - lo)) ∧ (n + 1 ≤ m0) ∧ (∀ k_, k_ < n → b0 k_ = bx k_) ∧ (b0 kl = .cells [.ref k1 0, .sc (.int .i64 (base : Int)), .sc (.int .i64 (sz : Int)), .sc (.int .i64 (dn : Int)), .own 64 (secsV tl) kt, .own 13 (es.map enC) ka]) ∧ (b0 (n + 0) = .cells [.sc (.int .u64 0), .sc (.int .i64 0), .sc (.int .u64 0), .sc (.int .u64 0), .sc (.int .u64 0), .sc (.int .u64 0), .sc (.int .u64 0), .sc (.int .u32 0), .sc (.int .u32 0), .sc (.string ByteArray.empty), .sc (.bool false), .sc (.slice none 0 0), .sc (.slice none 0 0)]) ∧ (lo ≤ p ∧ p ≤ hi ∧ hi ≤ es.length)) (1 + (es.length - 0)) ⟨_, sle ?_ (Nat.le_refl _), 0, es.length, _, _, rfl, rfl, ?_⟩ ?_
  · exact t_25
  · exact ⟨by omega, (fun k_ hk_ => t_14), t_167, t_167, ⟨by omega, by omega, by omega⟩⟩
  · rintro _ _ ⟨lo, hi, m0, b0, rfl, rfl, hm0, hf0, hB0_0, hB0_1, hF0_0⟩
    refine runs_know (fun hd0 => ?_);refine runs_bump 20 ?_;simp only at hd0;refine runs_seq ?_;refine runs_seq ?_;refine runs_region ?_;refine rl0 (gn rfl) rfl rfl (step_mv rfl rfl) trivial ?_;refine rl0 (gn rfl) rfl rfl (step_mv rfl rfl) trivial ?_;refine rl_lss (gn rfl) rfl rfl rfl rfl rfl (fun h1 => ?_) (fun h1 => ?_)
    · skip
      have hmm_ := hpq ((lo + hi) / 2) (by omega)
      refine runsL_nil ?_;refine runs_cond true (ev_mk rfl) (fun _ => ?_) (fun h_ => nomatch h_);refine runs_skip ?_;refine runs_block ?_;refine runs_seq ?_;refine runs_region ?_;refine rl0 (gn rfl) rfl rfl (step_mv rfl rfl) trivial ?_;refine rl0 (gn rfl) rfl rfl (step_mv rfl rfl) trivial ?_;refine rl0 (gn rfl) rfl rfl (step_add rfl (ev_mk rfl) (ev_mk rfl) (w64 (by omega))) trivial ?_;refine rl0 (gn rfl) rfl rfl (step_quo rfl (ev_mk rfl) (ev_mk rfl) (by omega) (by omega) (w64 (by omega))) trivial ?_;refine rl0 (gn rfl) rfl rfl (step_as rfl rfl) trivial ?_;refine runsL_nil ?_;refine runs_seq ?_;have hat_ : at' es (((lo : Int) + (hi : Int)) / 2) = at' es (((lo + hi) / 2 : Nat) : Int) := congrArg (at' es) (by omega);refine runs_region ?_;refine rl0 (gn rfl) rfl rfl (step_mv rfl rfl) trivial ?_;refine rl0 (gn rfl) rfl rfl (step_nilCheck rfl (ev_mk rfl) (.inl ⟨_, _, rfl⟩)) trivial ?_;refine rl0 (gn rfl) rfl rfl (step_fieldAddr (off := 5) rfl (ev_mk rfl) Try.underlying96 rfl F.sz24 rfl) trivial ?_;refine' rl0 (gn rfl) rfl rfl (step_load_one rfl (ev_mk rfl) F.one24 ?hv) ⟨?hb, trivial⟩ ?_
      case hb => exact t_4
      case hv => rfl
      refine rl0 (gn rfl) rfl rfl (step_mv rfl rfl) trivial ?_;refine' rl0 (gn rfl) rfl rfl (step_index rfl (ev_mk rfl) (.inr (.inr ⟨_, rfl⟩)) (ev_mk rfl) Try.underlying24 F.sz40 (by omega) ?hr) trivial ?_
      case hr => exact t_31
      refine rl0 (gn rfl) rfl rfl (step_fieldAddr_ro (off := 0) rfl (ev_mk rfl) Try.underlying40 rfl F.sz33 rfl rfl) trivial ?_;refine rl0 (gn rfl) rfl rfl (step_load_ro rfl (ev_mk rfl) F.one33 rfl) trivial ?_;refine rl0 (gn rfl) rfl rfl (step_mv rfl rfl) trivial ?_;refine rl_lss (gn rfl) rfl rfl rfl rfl rfl (fun h2 => ?_) (fun h2 => ?_)
      · skip
        have hmp_ : (lo + hi) / 2 < p := hmm_.1 (by have q_ := h2; rw [hat_] at q_; exact q_)
        refine runsL_nil ?_;refine runs_cond true (ev_mk rfl) (fun _ => ?_) (fun h_ => nomatch h_);refine runs_region ?_;refine rl0 (gn rfl) rfl rfl (step_mv rfl rfl) trivial ?_;refine rl0 (gn rfl) rfl rfl (step_add rfl (ev_mk rfl) (ev_mk rfl) (w64 (by omega))) trivial ?_;refine rl0 (gn rfl) rfl rfl (step_as rfl rfl) trivial ?_;refine runsL_nil ?_;have hq0_ : ((((lo : Int) + (hi : Int)) / 2) + 1) = (((lo + hi) / 2 + 1) : Int) := t_73;refine ⟨_, _, ?_, sle ?_ (Nat.le_refl _), ((lo + hi) / 2 + 1), hi, _, _, rfl, rfl, by omega, (fun k_ hk_ => t_24), t_130, t_130, ⟨by omega, by omega, by omega⟩⟩
        · omega
        · exact t_3
      · skip
        have hmp_ : ¬ (lo + hi) / 2 < p := fun h_ => absurd (hmm_.2 h_) (by have q_ := h2; rw [hat_] at q_; exact q_)
        refine runsL_nil ?_;refine runs_cond false (ev_mk rfl) (fun h_ => nomatch h_) (fun _ => ?_);refine runs_region ?_;refine rl0 (gn rfl) rfl rfl (step_mv rfl rfl) trivial ?_;refine rl0 (gn rfl) rfl rfl (step_as rfl rfl) trivial ?_;refine runsL_nil ?_;have hq0_ : (((lo : Int) + (hi : Int)) / 2) = (((lo + hi) / 2) : Int) := t_73;refine ⟨_, _, ?_, sle ?_ (Nat.le_refl _), lo, ((lo + hi) / 2), _, _, rfl, rfl, by omega, (fun k_ hk_ => t_24), t_130, t_130, ⟨by omega, by omega, by omega⟩⟩
        · omega
        · exact t_3
    · skip
      refine runsL_nil ?_;refine runs_cond false (ev_mk rfl) (fun h_ => nomatch h_) (fun _ => ?_);refine runs_exit ?_;refine runs_seq ?_;refine runs_seq ?_;have hlp_ : lo = p := by omega
      obtain rfl : lo = p := by omega
      refine runs_region ?_;refine rl0 (gn rfl) rfl rfl (step_mv rfl rfl) trivial ?_;refine rl0 (gn rfl) rfl rfl (step_mv rfl rfl) trivial ?_;refine rl0 (gn rfl) rfl rfl (step_nilCheck rfl (ev_mk rfl) (.inl ⟨_, _, rfl⟩)) trivial ?_;refine rl0 (gn rfl) rfl rfl (step_fieldAddr (off := 5) rfl (ev_mk rfl) Try.underlying96 rfl F.sz24 rfl) trivial ?_;refine' rl0 (gn rfl) rfl rfl (step_load_one rfl (ev_mk rfl) F.one24 ?hv) ⟨?hb, trivial⟩ ?_
      case hb => exact t_4
      case hv => rfl
      refine rl0 (gn rfl) rfl rfl (step_len (m := es.length) rfl rfl (ev_mk rfl) (.inl ⟨⟨_, Try.underlying24⟩, .inl ⟨_, _, .inr (.inr ⟨_, rfl⟩), List.length_map _⟩⟩)) trivial ?_;refine rl_eql (gn rfl) rfl rfl rfl rfl rfl (fun h2 => ?_) (fun h2 => ?_)
      · exact t_42
      refine rl0 (gn rfl) rfl rfl (step_mv rfl rfl) trivial ?_;refine rl0 (gy rfl rfl rfl rfl rfl rfl) rfl rfl (step_mv rfl rfl) trivial ?_;refine rl0 (gy rfl rfl rfl rfl rfl rfl) rfl rfl (step_nilCheck rfl (ev_mk rfl) (.inl ⟨_, _, rfl⟩)) trivial ?_;refine rl0 (gy rfl rfl rfl rfl rfl rfl) rfl rfl (step_fieldAddr (off := 5) rfl (ev_mk rfl) Try.underlying96 rfl F.sz24 rfl) trivial ?_;refine' rl0 (gy rfl rfl rfl rfl rfl rfl) rfl rfl (step_load_one rfl (ev_mk rfl) F.one24 ?hv) ⟨?hb, trivial⟩ ?_
      case hb => exact t_4
      case hv => rfl
      refine rl0 (gy rfl rfl rfl rfl rfl rfl) rfl rfl (step_mv rfl rfl) trivial ?_;refine' rl0 (gy rfl rfl rfl rfl rfl rfl) rfl rfl (step_index rfl (ev_mk rfl) (.inr (.inr ⟨_, rfl⟩)) (ev_mk rfl) Try.underlying24 F.sz40 (by omega) ?hr) trivial ?_
      case hr => exact t_31
      refine rl0 (gy rfl rfl rfl rfl rfl rfl) rfl rfl (step_fieldAddr_ro (off := 0) rfl (ev_mk rfl) Try.underlying40 rfl F.sz33 rfl rfl) trivial ?_;refine rl0 (gy rfl rfl rfl rfl rfl rfl) rfl rfl (step_load_ro rfl (ev_mk rfl) F.one33 rfl) trivial ?_;refine rl0 (gy rfl rfl rfl rfl rfl rfl) rfl rfl (step_mv rfl rfl) trivial ?_;refine rl_neq (gy rfl rfl rfl rfl rfl rfl) rfl rfl rfl rfl rfl (fun h3 => ?_) (fun h3 => ?_)
      · exact t_42
      refine rl0 (gn rfl) rfl rfl (step_pick rfl (ev_mk rfl) (ev_mk rfl)) trivial ?_;refine runsL_nil ?_;refine runs_cond false (ev_mk rfl) (fun h_ => nomatch h_) (fun _ => ?_);refine runs_skip ?_;refine runs_seq ?_;refine runs_region ?_;refine rl0 (gn rfl) rfl rfl (step_mv rfl rfl) trivial ?_;refine rl0 (gn rfl) rfl rfl (step_nilCheck rfl (ev_mk rfl) (.inl ⟨_, _, rfl⟩)) trivial ?_;refine rl0 (gn rfl) rfl rfl (step_fieldAddr (off := 5) rfl (ev_mk rfl) Try.underlying96 rfl F.sz24 rfl) trivial ?_;refine' rl0 (gn rfl) rfl rfl (step_load_one rfl (ev_mk rfl) F.one24 ?hv) ⟨?hb, trivial⟩ ?_
      case hb => exact t_4
      case hv => rfl
      refine rl0 (gn rfl) rfl rfl (step_mv rfl rfl) trivial ?_;refine' rl0 (gn rfl) rfl rfl (step_index rfl (ev_mk rfl) (.inr (.inr ⟨_, rfl⟩)) (ev_mk rfl) Try.underlying24 F.sz40 (by omega) ?hr) trivial ?_
      case hr => exact t_31
      refine rl0 (gn rfl) rfl rfl (step_load_ro_all rfl rfl F.agg40 t_15) trivial ?_;refine' rls (gn rfl) rfl (step_storeA rfl rfl rfl rfl F.agg40 ?hm ?hl) ⟨?hb, trivial⟩ ?hk ?_
      case hb => exact t_4
      case hm => exact t_15
      case hl => exact t_15
      case hk => omega
      refine rl0 (gn rfl) rfl rfl (step_as rfl rfl) trivial ?_;refine runsL_nil ?_;refine runs_ret ?_;refine ⟨t_17, fin_mkg (resc rfl t_4 F.agg40 t_15 (rest rfl res0)) ?_ ?_ ?_ ?_ ?_⟩
      · exact t_2
      · exact t_1
      · exact t_147
      · exact t_45
      · exact t_1
set_option maxRecDepth 100000 in
set_option maxHeartbeats 4000000 in
theorem find_n (kl k1 kt ka : Nat) (base sz dn : Nat) (tl : List (List Int)) (es : List En) (p : Nat) (q : Int) (hbd : base ≤ 100000 ∧ sz ≤ 100000 ∧ dn ≤ 100000 ∧ tl.length ≤ 100000 ∧ es.length ≤ 100000) (hp : p ≤ es.length) (hpq : ∀ m : Nat, m < es.length → ((at' es (m : Int)).lsn < q ↔ m < p)) (he : p < es.length → (at' es (p : Int)).lsn ≠ q) : Does Try.prog 28 [.ref kl 0, .sc (.int .u64 q)] [(kl, .cells [.ref k1 0, .sc (.int .i64 (base : Int)), .sc (.int .i64 (sz : Int)), .sc (.int .i64 (dn : Int)), .own 64 (secsV tl) kt, .own 13 (es.map enC) ka])] [] (.tup [.agg (enC zEn), .sc (.bool false)]) := by
  refine does_mkg 40 Try.func28 rfl rfl rfl (fun n B bx hd hpre hup hvs hbx hgx => ?_);have hp0 := hpre.1;have hk0 := lt_cells hd hp0;refine runs_seq ?_;refine runs_region ?_;refine rl1 (gn rfl) rfl rfl (step_allocc (k := n + 0) (zs := [.int .u64 0, .int .i64 0, .int .u64 0, .int .u64 0, .int .u64 0, .int .u64 0, .int .u64 0, .int .u32 0, .int .u32 0, .string ByteArray.empty, .bool false, .slice none 0 0, .slice none 0 0]) (cs := [.sc (.int .u64 0), .sc (.int .i64 0), .sc (.int .u64 0), .sc (.int .u64 0), .sc (.int .u64 0), .sc (.int .u64 0), .sc (.int .u64 0), .sc (.int .u32 0), .sc (.int .u32 0), .sc (.string ByteArray.empty), .sc (.bool false), .sc (.slice none 0 0), .sc (.slice none 0 0)]) rfl F.zero40 t_33 t_55 t_33) ⟨t_0, trivial⟩ (by omega) ?_;refine rl0 (gn rfl) rfl rfl (step_as rfl rfl) trivial ?_;refine runsL_nil ?_;refine runs_seq ?_;refine runs_draw (by kernel_rfl) (by kernel_rfl) (by kernel_rfl) ?_;refine dl0 (gn rfl) rfl rfl (step_mv rfl rfl) trivial ?_;refine dl0 (gn rfl) rfl rfl (step_nilCheck rfl (ev_mk rfl) (.inl ⟨_, _, rfl⟩)) trivial ?_;refine dl0 (gn rfl) rfl rfl (step_fieldAddr (off := 5) rfl (ev_mk rfl) Try.underlying96 rfl F.sz24 rfl) trivial ?_;refine' dl0 (gn rfl) rfl rfl (step_load_one rfl (ev_mk rfl) F.one24 ?hv) ⟨?hb, trivial⟩ ?_
  case hb => exact t_0
  case hv => rfl
  refine dl0 (gn rfl) rfl rfl (step_len (m := es.length) rfl rfl (ev_mk rfl) (.inl ⟨⟨_, Try.underlying24⟩, .inl ⟨_, _, .inr (.inr ⟨_, rfl⟩), List.length_map _⟩⟩)) trivial ?_;refine dl0 (gn rfl) rfl rfl (step_as rfl rfl) trivial ?_;refine dl0 (gn rfl) rfl rfl (step_as rfl rfl) trivial ?_;refine dlnil ?_ ?_
  · exact t_12
  refine runs_seq ?_;refine runs_block ?_;have hs0_ : 0 = (0 : Int) := t_73;have hs1_ : es.length = (es.length : Int) := t_73;refine runs_loop (fun (ri_ : Nat) (st_ : Go.Vm.S) => ∃ (lo hi : Nat) (m0 : Nat) (b0 : Nat → Box), (st_ = ⟨mk [(0, .ref kl 0), (1, .sc (.int .u64 q)), (4, .ref (n + 0) 0), (5, .sc (.bool false)), (6, .sc (.int .i64 (lo : Int))), (7, .sc (.int .i64 (hi : Int)))], m0, b0⟩) ∧ (ri_ = 1 + (hi - lo)) ∧ (n + 1 ≤ m0) ∧ (∀ k_, k_ < n → b0 k_ = bx k_) ∧ (b0 kl = .cells [.ref k1 0, .sc (.int .i64 (base : Int)), .sc (.int .i64 (sz : Int)), .sc (.int .i64 (dn : Int)), .own 64 (secsV tl) kt, .own 13 (es.map enC) ka]) ∧ (b0 (n + 0) = .cells [.sc (.int .u64 0), .sc (.int .i64 0), .sc (.int .u64 0), .sc (.int .u64 0), .sc (.int .u64 0), .sc (.int .u64 0), .sc (.int .u64 0), .sc (.int .u32 0), .sc (.int .u32 0), .sc (.string ByteArray.empty), .sc (.bool false), .sc (.slice none 0 0), .sc (.slice none 0 0)]) ∧ (lo ≤ p ∧ p ≤ hi ∧ hi ≤ es.length)) (1 + (es.length - 0)) ⟨_, sle ?_ (Nat.le_refl _), 0, es.length, _, _, rfl, rfl, ?_⟩ ?_
  · exact t_25
  · exact ⟨by omega, (fun k_ hk_ => t_14), t_167, t_167, ⟨by omega, by omega, by omega⟩⟩
  · rintro _ _ ⟨lo, hi, m0, b0, rfl, rfl, hm0, hf0, hB0_0, hB0_1, hF0_0⟩
    refine runs_know (fun hd0 => ?_);refine runs_bump 20 ?_;simp only at hd0;refine runs_seq ?_;refine runs_seq ?_;refine runs_region ?_;refine rl0 (gn rfl) rfl rfl (step_mv rfl rfl) trivial ?_;refine rl0 (gn rfl) rfl rfl (step_mv rfl rfl) trivial ?_;refine rl_lss (gn rfl) rfl rfl rfl rfl rfl (fun h1 => ?_) (fun h1 => ?_)
    · skip
      have hmm_ := hpq ((lo + hi) / 2) (by omega)
      refine runsL_nil ?_;refine runs_cond true (ev_mk rfl) (fun _ => ?_) (fun h_ => nomatch h_);refine runs_skip ?_;refine runs_block ?_;refine runs_seq ?_;refine runs_region ?_;refine rl0 (gn rfl) rfl rfl (step_mv rfl rfl) trivial ?_;refine rl0 (gn rfl) rfl rfl (step_mv rfl rfl) trivial ?_;refine rl0 (gn rfl) rfl rfl (step_add rfl (ev_mk rfl) (ev_mk rfl) (w64 (by omega))) trivial ?_;refine rl0 (gn rfl) rfl rfl (step_quo rfl (ev_mk rfl) (ev_mk rfl) (by omega) (by omega) (w64 (by omega))) trivial ?_;refine rl0 (gn rfl) rfl rfl (step_as rfl rfl) trivial ?_;refine runsL_nil ?_;refine runs_seq ?_;have hat_ : at' es (((lo : Int) + (hi : Int)) / 2) = at' es (((lo + hi) / 2 : Nat) : Int) := congrArg (at' es) (by omega);refine runs_region ?_;refine rl0 (gn rfl) rfl rfl (step_mv rfl rfl) trivial ?_;refine rl0 (gn rfl) rfl rfl (step_nilCheck rfl (ev_mk rfl) (.inl ⟨_, _, rfl⟩)) trivial ?_;refine rl0 (gn rfl) rfl rfl (step_fieldAddr (off := 5) rfl (ev_mk rfl) Try.underlying96 rfl F.sz24 rfl) trivial ?_;refine' rl0 (gn rfl) rfl rfl (step_load_one rfl (ev_mk rfl) F.one24 ?hv) ⟨?hb, trivial⟩ ?_
      case hb => exact t_4
      case hv => rfl
      refine rl0 (gn rfl) rfl rfl (step_mv rfl rfl) trivial ?_;refine' rl0 (gn rfl) rfl rfl (step_index rfl (ev_mk rfl) (.inr (.inr ⟨_, rfl⟩)) (ev_mk rfl) Try.underlying24 F.sz40 (by omega) ?hr) trivial ?_
      case hr => exact t_31
      refine rl0 (gn rfl) rfl rfl (step_fieldAddr_ro (off := 0) rfl (ev_mk rfl) Try.underlying40 rfl F.sz33 rfl rfl) trivial ?_;refine rl0 (gn rfl) rfl rfl (step_load_ro rfl (ev_mk rfl) F.one33 rfl) trivial ?_;refine rl0 (gn rfl) rfl rfl (step_mv rfl rfl) trivial ?_;refine rl_lss (gn rfl) rfl rfl rfl rfl rfl (fun h2 => ?_) (fun h2 => ?_)
      · skip
        have hmp_ : (lo + hi) / 2 < p := hmm_.1 (by have q_ := h2; rw [hat_] at q_; exact q_)
        refine runsL_nil ?_;refine runs_cond true (ev_mk rfl) (fun _ => ?_) (fun h_ => nomatch h_);refine runs_region ?_;refine rl0 (gn rfl) rfl rfl (step_mv rfl rfl) trivial ?_;refine rl0 (gn rfl) rfl rfl (step_add rfl (ev_mk rfl) (ev_mk rfl) (w64 (by omega))) trivial ?_;refine rl0 (gn rfl) rfl rfl (step_as rfl rfl) trivial ?_;refine runsL_nil ?_;have hq0_ : ((((lo : Int) + (hi : Int)) / 2) + 1) = (((lo + hi) / 2 + 1) : Int) := t_73;refine ⟨_, _, ?_, sle ?_ (Nat.le_refl _), ((lo + hi) / 2 + 1), hi, _, _, rfl, rfl, by omega, (fun k_ hk_ => t_24), t_130, t_130, ⟨by omega, by omega, by omega⟩⟩
        · omega
        · exact t_3
      · skip
        have hmp_ : ¬ (lo + hi) / 2 < p := fun h_ => absurd (hmm_.2 h_) (by have q_ := h2; rw [hat_] at q_; exact q_)
        refine runsL_nil ?_;refine runs_cond false (ev_mk rfl) (fun h_ => nomatch h_) (fun _ => ?_);refine runs_region ?_;refine rl0 (gn rfl) rfl rfl (step_mv rfl rfl) trivial ?_;refine rl0 (gn rfl) rfl rfl (step_as rfl rfl) trivial ?_;refine runsL_nil ?_;have hq0_ : (((lo : Int) + (hi : Int)) / 2) = (((lo + hi) / 2) : Int) := t_73;refine ⟨_, _, ?_, sle ?_ (Nat.le_refl _), lo, ((lo + hi) / 2), _, _, rfl, rfl, by omega, (fun k_ hk_ => t_24), t_130, t_130, ⟨by omega, by omega, by omega⟩⟩
        · omega
        · exact t_3
    · skip
      refine runsL_nil ?_;refine runs_cond false (ev_mk rfl) (fun h_ => nomatch h_) (fun _ => ?_);refine runs_exit ?_;refine runs_seq ?_;refine runs_seq ?_;have hlp_ : lo = p := by omega
      obtain rfl : lo = p := by omega
      refine runs_region ?_;refine rl0 (gn rfl) rfl rfl (step_mv rfl rfl) trivial ?_;refine rl0 (gn rfl) rfl rfl (step_mv rfl rfl) trivial ?_;refine rl0 (gn rfl) rfl rfl (step_nilCheck rfl (ev_mk rfl) (.inl ⟨_, _, rfl⟩)) trivial ?_;refine rl0 (gn rfl) rfl rfl (step_fieldAddr (off := 5) rfl (ev_mk rfl) Try.underlying96 rfl F.sz24 rfl) trivial ?_;refine' rl0 (gn rfl) rfl rfl (step_load_one rfl (ev_mk rfl) F.one24 ?hv) ⟨?hb, trivial⟩ ?_
      case hb => exact t_4
      case hv => rfl
      refine rl0 (gn rfl) rfl rfl (step_len (m := es.length) rfl rfl (ev_mk rfl) (.inl ⟨⟨_, Try.underlying24⟩, .inl ⟨_, _, .inr (.inr ⟨_, rfl⟩), List.length_map _⟩⟩)) trivial ?_;refine rl_eql (gn rfl) rfl rfl rfl rfl rfl (fun h2 => ?_) (fun h2 => ?_)
      · skip
        refine rl0 (gn rfl) rfl rfl (step_mv rfl rfl) trivial ?_;refine rlk rfl rfl rfl rfl rfl (ngb rfl rfl) rfl rfl ?_;refine rlk rfl rfl rfl rfl rfl (ngb rfl rfl) rfl rfl ?_;refine rlk rfl rfl rfl rfl rfl (ngb rfl rfl) rfl rfl ?_;refine rlk rfl rfl rfl rfl rfl (ngb rfl rfl) rfl rfl ?_;refine rlk rfl rfl rfl rfl rfl (ngb rfl rfl) rfl rfl ?_;refine rlk rfl rfl rfl rfl rfl (ngb rfl rfl) rfl rfl ?_;refine rlk rfl rfl rfl rfl rfl (ngb rfl rfl) rfl rfl ?_;refine rlk rfl rfl rfl rfl rfl (ngb rfl rfl) rfl rfl ?_;refine rlk rfl rfl rfl rfl rfl (ngb rfl rfl) rfl rfl ?_;refine rlk rfl rfl rfl rfl rfl (ngb rfl rfl) rfl rfl ?_;refine rl0 (gn rfl) rfl rfl (step_pick rfl (ev_mk rfl) (ev_mk rfl)) trivial ?_;refine runsL_nil ?_;refine runs_cond true (ev_mk rfl) (fun _ => ?_) (fun h_ => nomatch h_);refine runs_seq ?_;refine runs_region ?_;refine rl0 (gn rfl) rfl rfl (step_build (ss := [1, 1, 1, 1, 1, 6, 1, 1]) (zs := [.int .u64 0, .int .i64 0, .int .u64 0, .int .u64 0, .int .u64 0, .int .u64 0, .int .u64 0, .int .u32 0, .int .u32 0, .string ByteArray.empty, .bool false, .slice none 0 0, .slice none 0 0]) rfl Try.underlying40 (by kernel_rfl) F.zero40 rfl rfl rfl) trivial ?_;refine' rls (gn rfl) rfl (step_storeA rfl rfl rfl rfl F.agg40 ?hm ?hl) ⟨?hb, trivial⟩ ?hk ?_
        case hb => exact t_4
        case hm => exact t_15
        case hl => exact t_15
        case hk => omega
        refine rl0 (gn rfl) rfl rfl (step_as rfl rfl) trivial ?_;refine runsL_nil ?_;refine runs_ret ?_;refine ⟨t_17, fin_mkg (resc rfl t_4 F.agg40 t_15 (rest rfl res0)) ?_ ?_ ?_ ?_ ?_⟩
        · exact t_2
        · exact t_1
        · exact t_147
        · exact t_45
        · exact t_1
      · skip
        refine rl0 (gn rfl) rfl rfl (step_mv rfl rfl) trivial ?_;refine rl0 (gy rfl rfl rfl rfl rfl rfl) rfl rfl (step_mv rfl rfl) trivial ?_;refine rl0 (gy rfl rfl rfl rfl rfl rfl) rfl rfl (step_nilCheck rfl (ev_mk rfl) (.inl ⟨_, _, rfl⟩)) trivial ?_;refine rl0 (gy rfl rfl rfl rfl rfl rfl) rfl rfl (step_fieldAddr (off := 5) rfl (ev_mk rfl) Try.underlying96 rfl F.sz24 rfl) trivial ?_;refine' rl0 (gy rfl rfl rfl rfl rfl rfl) rfl rfl (step_load_one rfl (ev_mk rfl) F.one24 ?hv) ⟨?hb, trivial⟩ ?_
        case hb => exact t_4
        case hv => rfl
        refine rl0 (gy rfl rfl rfl rfl rfl rfl) rfl rfl (step_mv rfl rfl) trivial ?_;refine' rl0 (gy rfl rfl rfl rfl rfl rfl) rfl rfl (step_index rfl (ev_mk rfl) (.inr (.inr ⟨_, rfl⟩)) (ev_mk rfl) Try.underlying24 F.sz40 (by omega) ?hr) trivial ?_
        case hr => exact t_31
        refine rl0 (gy rfl rfl rfl rfl rfl rfl) rfl rfl (step_fieldAddr_ro (off := 0) rfl (ev_mk rfl) Try.underlying40 rfl F.sz33 rfl rfl) trivial ?_;refine rl0 (gy rfl rfl rfl rfl rfl rfl) rfl rfl (step_load_ro rfl (ev_mk rfl) F.one33 rfl) trivial ?_;refine rl0 (gy rfl rfl rfl rfl rfl rfl) rfl rfl (step_mv rfl rfl) trivial ?_;refine rl_neq (gy rfl rfl rfl rfl rfl rfl) rfl rfl rfl rfl rfl (fun h3 => ?_) (fun h3 => ?_)
        · skip
          refine rl0 (gn rfl) rfl rfl (step_pick rfl (ev_mk rfl) (ev_mk rfl)) trivial ?_;refine runsL_nil ?_;refine runs_cond true (ev_mk rfl) (fun _ => ?_) (fun h_ => nomatch h_);refine runs_seq ?_;refine runs_region ?_;refine rl0 (gn rfl) rfl rfl (step_build (ss := [1, 1, 1, 1, 1, 6, 1, 1]) (zs := [.int .u64 0, .int .i64 0, .int .u64 0, .int .u64 0, .int .u64 0, .int .u64 0, .int .u64 0, .int .u32 0, .int .u32 0, .string ByteArray.empty, .bool false, .slice none 0 0, .slice none 0 0]) rfl Try.underlying40 (by kernel_rfl) F.zero40 rfl rfl rfl) trivial ?_;refine' rls (gn rfl) rfl (step_storeA rfl rfl rfl rfl F.agg40 ?hm ?hl) ⟨?hb, trivial⟩ ?hk ?_
          case hb => exact t_4
          case hm => exact t_15
          case hl => exact t_15
          case hk => omega
          refine rl0 (gn rfl) rfl rfl (step_as rfl rfl) trivial ?_;refine runsL_nil ?_;refine runs_ret ?_;refine ⟨t_17, fin_mkg (resc rfl t_4 F.agg40 t_15 (rest rfl res0)) ?_ ?_ ?_ ?_ ?_⟩
          · exact t_2
          · exact t_1
          · exact t_147
          · exact t_45
          · exact t_1
        · skip
          exact False.elim (by exact he (by omega) (by omega))
set_option maxRecDepth 100000 in
set_option maxHeartbeats 4000000 in
theorem app_ok (kl k1 kt ka : Nat) (base sz dn : Nat) (tl : List (List Int)) (es : List En) (e : En) (he : okEn e) (hbd : base ≤ 100000 ∧ sz ≤ 100000 ∧ dn ≤ 100000 ∧ tl.length ≤ 100000 ∧ es.length ≤ 100000) (hne : kl ≠ kt ∧ kl ≠ ka ∧ kt ≠ ka) (hc : chkF e = 0) (hw : dn + tl.length + wE (enAt e (((dn + tl.length : Nat) : Int) + 1)) ≤ sz) : Does Try.prog 22 [.ref kl 0, .agg (enC e)] [(kl, .cells [.ref k1 0, .sc (.int .i64 (base : Int)), .sc (.int .i64 (sz : Int)), .sc (.int .i64 (dn : Int)), .own 64 (secsV tl) kt, .own 13 (es.map enC) ka]), (kt, .tail (secsV tl).length), (ka, .tail (es.map enC).length)] [(kl, .cells [.ref k1 0, .sc (.int .i64 (base : Int)), .sc (.int .i64 (sz : Int)), .sc (.int .i64 (dn : Int)), .own 64 (secsV (tl ++ cutB (bE (enAt e (((dn + tl.length : Nat) : Int) + 1))) (dn + tl.length))) kt, .own 13 ((es ++ [(enAt e (((dn + tl.length : Nat) : Int) + 1))]).map enC) ka]), (kt, .tail (secsV (tl ++ cutB (bE (enAt e (((dn + tl.length : Nat) : Int) + 1))) (dn + tl.length))).length), (ka, .tail ((es ++ [(enAt e (((dn + tl.length : Nat) : Int) + 1))]).map enC).length)] (.tup [.sc (.int .u64 (((dn + tl.length : Nat) : Int) + 1)), .sc (.int .i64 0)]) := by
  refine does_mkg 40 Try.func22 rfl rfl rfl (fun n B bx hd hpre hup hvs hbx hgx => ?_);have hp0 := hpre.1;have hk0 := lt_cells hd hp0;have hp1 := hpre.2.1;have hk1 := lt_tail hd hp1;have hp2 := hpre.2.2.1;have hk2 := lt_tail hd hp2;have hu0 := hup.1;have hu1 := hup.2.1;have hu2 := hup.2.2.1;have hok_ : okL (enAt e (((dn + tl.length : Nat) : Int) + 1)) := ⟨(okEn_at he t_98), hc⟩;have hby_ := bE_byts hok_;have hbl_ := bE_len hok_;have hwd_ := wE_bd hok_;have hwl_ : (cutB (bE (enAt e (((dn + tl.length : Nat) : Int) + 1))) (dn + tl.length)).length = wE (enAt e (((dn + tl.length : Nat) : Int) + 1)) := cutB_len _ _;refine runs_seq ?_;refine runs_region ?_;refine rl1 (gn rfl) rfl rfl (step_box_agg (k := n + 0) rfl rfl) ⟨t_0, trivial⟩ (by omega) ?_;refine rl0 (gn rfl) rfl rfl (step_as rfl rfl) trivial ?_;refine rl0 (gn rfl) rfl rfl (step_as rfl rfl) trivial ?_;refine runsL_nil ?_;refine runs_seq ?_;refine runs_region ?_;refine rl0 (gn rfl) rfl rfl (step_mv rfl rfl) trivial ?_;refine rl0 (gn rfl) rfl rfl (step_callc rfl Try.func30 rfl rfl rfl (next_c kl k1 kt ka base sz dn tl es hbd) t_10) ⟨t_0, trivial⟩ ?_;refine rl0 (gn rfl) rfl rfl (step_fieldAddr (off := 0) rfl (ev_mk rfl) Try.underlying40 rfl F.sz33 rfl) trivial ?_;refine' rls (gn rfl) rfl (step_store1 rfl rfl rfl rfl F.one33 rfl rfl ?hl ?hc) ⟨?hb, trivial⟩ ?hk ?_
  case hb => exact t_0
  case hl => exact t_22
  case hc => exact t_28
  case hk => omega
  refine runsL_nil ?_;refine runs_seq ?_;refine runs_region ?_;refine' rl0 (gn rfl) rfl rfl (step_load_all rfl rfl F.agg40 ?hl) ⟨?hb, trivial⟩ ?_
  case hb => exact t_0
  case hl => exact t_15
  refine rl0 (gn rfl) rfl rfl (step_callc rfl Try.func45 rfl rfl rfl (put_ok (enAt e (((dn + tl.length : Nat) : Int) + 1)) (okEn_at he t_98) hc) t_10) trivial ?_;refine rl0 (gn rfl) rfl rfl (step_mv rfl rfl) trivial ?_;refine rl0 (gn rfl) rfl rfl (step_extract rfl (ev_mk rfl) rfl) trivial ?_;refine rl0 (gn rfl) rfl rfl (step_extract rfl (ev_mk rfl) rfl) trivial ?_;refine rl0 (gn rfl) rfl rfl (step_as rfl rfl) trivial ?_;refine rl0 (gn rfl) rfl rfl (step_as rfl rfl) trivial ?_;refine runsL_nil ?_;refine runs_seq ?_;refine runs_seq ?_;refine runs_region ?_;refine rl0 (gn rfl) rfl rfl (step_mv rfl rfl) trivial ?_;refine rl_neq (gn rfl) rfl rfl rfl rfl rfl (fun h1 => ?_) (fun h1 => ?_)
  · exact t_42
  refine runsL_nil ?_;refine runs_cond false (ev_mk rfl) (fun h_ => nomatch h_) (fun _ => ?_);refine runs_skip ?_;refine runs_seq ?_;refine runs_region ?_;refine rl0 (gn rfl) rfl rfl (step_mv rfl rfl) trivial ?_;refine rl0 (gn rfl) rfl rfl (step_mv rfl rfl) trivial ?_;refine rl0 (gn rfl) rfl rfl (step_callc rfl Try.func29 rfl rfl rfl (used_c kl k1 kt ka base sz dn tl es hbd) t_10) ⟨t_0, trivial⟩ ?_;refine rl0 (gn rfl) rfl rfl (step_callc rfl Try.func8 rfl rfl rfl (cut_c (bE (enAt e (((dn + tl.length : Nat) : Int) + 1))) (dn + tl.length) hby_ (by omega) (by omega)) t_10) trivial ?_;refine rl0 (gn rfl) rfl rfl (step_as rfl rfl) trivial ?_;refine runsL_nil ?_;refine runs_seq ?_;refine runs_seq ?_;refine runs_region ?_;refine rl0 (gn rfl) rfl rfl (step_mv rfl rfl) trivial ?_;refine rl0 (gn rfl) rfl rfl (step_len (m := (cutB (bE (enAt e (((dn + tl.length : Nat) : Int) + 1))) (dn + tl.length)).length) rfl rfl (ev_mk rfl) (.inl ⟨⟨_, Try.underlying27⟩, .inl ⟨_, _, .inl rfl, List.length_map _⟩⟩)) trivial ?_;refine rl0 (gn rfl) rfl rfl (step_mv rfl rfl) trivial ?_;refine rl0 (gn rfl) rfl rfl (step_callc rfl Try.func20 rfl rfl rfl (wleft_c kl k1 kt ka base sz dn tl es hbd) t_10) ⟨t_0, trivial⟩ ?_;refine rl_gtr (gn rfl) rfl rfl rfl rfl rfl (fun h2 => ?_) (fun h2 => ?_)
  · exact t_42
  refine runsL_nil ?_;refine runs_cond false (ev_mk rfl) (fun h_ => nomatch h_) (fun _ => ?_);refine runs_skip ?_;refine runs_seq ?_;refine runs_region ?_;refine rl0 (gn rfl) rfl rfl (step_mv rfl rfl) trivial ?_;refine rl0 (gn rfl) rfl rfl (step_mv rfl rfl) trivial ?_;refine rl0 (gn rfl) rfl rfl (step_nilCheck rfl (ev_mk rfl) (.inl ⟨_, _, rfl⟩)) trivial ?_;refine rl0 (gn rfl) rfl rfl (step_fieldAddr (off := 4) rfl (ev_mk rfl) Try.underlying96 rfl F.sz27 rfl) trivial ?_;refine' rl0 (gn rfl) rfl rfl (step_load_one rfl (ev_mk rfl) F.one27 ?hv) ⟨?hb, trivial⟩ ?_
  case hb => exact t_0
  case hv => rfl
  refine rl0 (gn rfl) rfl rfl (step_mv rfl rfl) trivial ?_;refine' rl1 (gn rfl) rfl rfl (step_append_own rfl rfl rfl Try.underlying27 ⟨_, Try.underlying27, fun k_ => t_49⟩ F.el47 (ev_mk rfl) (ev_mk rfl) (gives_sl (.inl rfl)) ?hg) ⟨?hb, trivial⟩ (by omega) ?_
  case hb => exact t_0
  case hg => (rw [secsV_len, secsV_len]; omega)
  skip
  refine rl0 (gn rfl) rfl rfl (step_nilCheck rfl (ev_mk rfl) (.inl ⟨_, _, rfl⟩)) trivial ?_;refine rl0 (gn rfl) rfl rfl (step_fieldAddr (off := 4) rfl (ev_mk rfl) Try.underlying96 rfl F.sz27 rfl) trivial ?_;refine' rls (gn rfl) rfl (step_store1 rfl rfl rfl rfl F.one27 rfl rfl ?hl ?hc) ⟨?hb, trivial⟩ ?hk ?_
  case hb => exact t_0
  case hl => exact t_22
  case hc => exact t_28
  case hk => omega
  refine runsL_nil ?_;refine runs_seq ?_;refine runs_draw (by kernel_rfl) (by kernel_rfl) (by kernel_rfl) ?_;refine dl0 (gn rfl) rfl rfl (step_mv rfl rfl) trivial ?_;refine dl0 (gn rfl) rfl rfl (step_mv rfl rfl) trivial ?_;refine dl0 (gn rfl) rfl rfl (step_nilCheck rfl (ev_mk rfl) (.inl ⟨_, _, rfl⟩)) trivial ?_;refine dl0 (gn rfl) rfl rfl (step_fieldAddr (off := 5) rfl (ev_mk rfl) Try.underlying96 rfl F.sz24 rfl) trivial ?_;refine' dl0 (gn rfl) rfl rfl (step_load_one rfl (ev_mk rfl) F.one24 ?hv) ⟨?hb, trivial⟩ ?_
  case hb => exact t_0
  case hv => rfl
  refine' dl0 (gn rfl) rfl rfl (step_load_all rfl rfl F.agg40 ?hl) ⟨?hb, trivial⟩ ?_
  case hb => exact t_0
  case hl => exact t_15
  refine dl0 (gn rfl) rfl rfl (step_lit rfl Try.underlying24 F.sz40 F.zero40 t_33 t_139 (by decide) rfl rfl t_21 rfl) trivial ?_;refine' dl1 (gn rfl) rfl rfl (step_append_own rfl rfl rfl Try.underlying24 ⟨_, Try.underlying24, fun k_ => t_49⟩ F.el40 (ev_mk rfl) (ev_mk rfl) (gives_sl (.inr (.inl rfl))) ?hg) ⟨?hb, trivial⟩ (by omega) ?_
  case hb => exact t_0
  case hg => (simp; omega)
  refine dl0 (gn rfl) rfl rfl (step_nilCheck rfl (ev_mk rfl) (.inl ⟨_, _, rfl⟩)) trivial ?_;refine dl0 (gn rfl) rfl rfl (step_fieldAddr (off := 5) rfl (ev_mk rfl) Try.underlying96 rfl F.sz24 rfl) trivial ?_;refine' dls (gn rfl) rfl (step_store1 rfl rfl rfl rfl F.one24 rfl rfl ?hl ?hc) ⟨?hb, trivial⟩ ?hk ?_
  case hb => exact t_0
  case hl => exact t_22
  case hc => exact t_28
  case hk => omega
  refine dlnil ?_ ?_
  · exact t_12
  refine runs_seq ?_;refine runs_region ?_;refine rl0 (gn rfl) rfl rfl (step_fieldAddr (off := 0) rfl (ev_mk rfl) Try.underlying40 rfl F.sz33 rfl) trivial ?_;refine' rl0 (gn rfl) rfl rfl (step_load_one rfl (ev_mk rfl) F.one33 ?hv) ⟨?hb, trivial⟩ ?_
  case hb => exact t_0
  case hv => rfl
  refine rl0 (gn rfl) rfl rfl (step_as rfl rfl) trivial ?_;refine rl0 (gn rfl) rfl rfl (step_as rfl rfl) trivial ?_;refine runsL_nil ?_;refine runs_ret ?_;refine ⟨t_17, fin_mkg (rest rfl (rest rfl res0)) ?_ ?_ ?_ ?_ ?_⟩
  · exact t_2
  · exact t_140
  · intro k_ hk_; simp only [upds]; by_cases e_ : k_ = ka; (focus subst e_; refine bl_eq ?_; first | (refine' blec ?hb ?hl; (case hb => repeat (first | exact uE | assumption | refine uN (by omega) ?_ | fail)); (case hl => first | exact VLes.refl _ | ((repeat' (first | exact VLe.refl _ | exact VLe.own_sl _ _ _ | exact VLe.fl_sl _ _ | exact VLe.nil_sl _ | exact VLe.nil_fl _ | exact VLes.refl _ | exact .nil | refine VLe.tup ?_ | refine VLe.agg ?_ | refine .cons ?_ ?_ | (rw [Int.natCast_add]; exact VLe.refl _) | exact vle_int (by omega) | exact vle_bool t_159 | fail)); done))) | (refine ble ?_; (repeat (first | exact uE | assumption | refine uN (by omega) ?_ | fail)); done) | exact ble (tl_eq t_5 t_6) | ((rw [← secsV_app, ← enC_app]; refine ble ?_; (repeat (first | exact uE | assumption | refine uN (by omega) ?_ | fail)); done)) | ((rw [← secsV_app]; refine ble ?_; (repeat (first | exact uE | assumption | refine uN (by omega) ?_ | fail)); done)) | ((rw [← enC_app]; refine ble ?_; (repeat (first | exact uE | assumption | refine uN (by omega) ?_ | fail)); done))); refine bl_ne e_ ?_; by_cases e_ : k_ = kt; (focus subst e_; refine bl_eq ?_; first | (refine' blec ?hb ?hl; (case hb => repeat (first | exact uE | assumption | refine uN (by omega) ?_ | fail)); (case hl => first | exact VLes.refl _ | ((repeat' (first | exact VLe.refl _ | exact VLe.own_sl _ _ _ | exact VLe.fl_sl _ _ | exact VLe.nil_sl _ | exact VLe.nil_fl _ | exact VLes.refl _ | exact .nil | refine VLe.tup ?_ | refine VLe.agg ?_ | refine .cons ?_ ?_ | (rw [Int.natCast_add]; exact VLe.refl _) | exact vle_int (by omega) | exact vle_bool t_159 | fail)); done))) | (refine ble ?_; (repeat (first | exact uE | assumption | refine uN (by omega) ?_ | fail)); done) | exact ble (tl_eq t_5 t_6) | ((rw [← secsV_app, ← enC_app]; refine ble ?_; (repeat (first | exact uE | assumption | refine uN (by omega) ?_ | fail)); done)) | ((rw [← secsV_app]; refine ble ?_; (repeat (first | exact uE | assumption | refine uN (by omega) ?_ | fail)); done)) | ((rw [← enC_app]; refine ble ?_; (repeat (first | exact uE | assumption | refine uN (by omega) ?_ | fail)); done))); refine bl_ne e_ ?_; by_cases e_ : k_ = kl; (focus subst e_; refine bl_eq ?_; first | (refine' blec ?hb ?hl; (case hb => repeat (first | exact uE | assumption | refine uN (by omega) ?_ | fail)); (case hl => first | exact VLes.refl _ | ((repeat' (first | exact VLe.refl _ | exact VLe.own_sl _ _ _ | exact VLe.fl_sl _ _ | exact VLe.nil_sl _ | exact VLe.nil_fl _ | exact VLes.refl _ | exact .nil | refine VLe.tup ?_ | refine VLe.agg ?_ | refine .cons ?_ ?_ | (rw [Int.natCast_add]; exact VLe.refl _) | exact vle_int (by omega) | exact vle_bool t_159 | fail)); done))) | (refine ble ?_; (repeat (first | exact uE | assumption | refine uN (by omega) ?_ | fail)); done) | exact ble (tl_eq t_5 t_6) | ((rw [← secsV_app, ← enC_app]; refine ble ?_; (repeat (first | exact uE | assumption | refine uN (by omega) ?_ | fail)); done)) | ((rw [← secsV_app]; refine ble ?_; (repeat (first | exact uE | assumption | refine uN (by omega) ?_ | fail)); done)) | ((rw [← enC_app]; refine ble ?_; (repeat (first | exact uE | assumption | refine uN (by omega) ?_ | fail)); done))); refine bl_ne e_ ?_; exact ble t_14
  · exact t_161
  · exact t_140
set_option maxRecDepth 100000 in
set_option maxHeartbeats 4000000 in
theorem force_ok (kl k1 kt ka : Nat) (base sz dn : Nat) (tl : List (List Int)) (es : List En) (k2 : Nat) (S : List (List Int)) (w f : Int) (kp : List Bool) (hbd : base ≤ 100000 ∧ sz ≤ 100000 ∧ dn ≤ 100000 ∧ tl.length ≤ 100000 ∧ es.length ≤ 100000) (hkk : k1 ≠ k2) (hkl : kl ≠ k1 ∧ kl ≠ k2) (hS : ∀ r ∈ S, r.length = 64) (ht : ∀ r ∈ tl, r.length = 64) (hSL : S.length ≤ 100000) (hin : base + dn + tl.length ≤ S.length) (hpos : 1 ≤ tl.length) (hf : f ≠ 0) (hw : 0 ≤ w ∧ w ≤ 1000000) (hff : -1 ≤ f ∧ f ≤ 9223372036854775807) : Does Try.prog 23 [.ref kl 0] [(kl, .cells [.ref k1 0, .sc (.int .i64 (base : Int)), .sc (.int .i64 (sz : Int)), .sc (.int .i64 (dn : Int)), .own 64 (secsV tl) kt, .own 13 (es.map enC) ka]), (k1, .cells [.msl k2 0 S.length S.length 64, .sc (.int .i64 w), .sc (.int .i64 f), .sl 1 (boolsV kp), .sc (.bool false)]), (k2, .cells (S.flatten.map bV))] [(kl, .cells [.ref k1 0, .sc (.int .i64 (base : Int)), .sc (.int .i64 (sz : Int)), .sc (.int .i64 ((dn + tl.length : Nat) : Int)), .sc (.slice none 0 0), .own 13 (es.map enC) ka]), (k2, .cells ((mixS S ((base : Int) + (dn : Int)) tl f kp).flatten.map bV)), (k1, .cells [.msl k2 0 S.length S.length 64, .sc (.int .i64 (w + 1)), .sc (.int .i64 (if f > 0 then f - 1 else f)), .sl 1 (boolsV kp), .sc (.bool false)])] (.sc (.int .i64 0)) := by
  refine does_mkg 40 Try.func23 rfl rfl rfl (fun n B bx hd hpre hup hvs hbx hgx => ?_);have hp0 := hpre.1;have hk0 := lt_cells hd hp0;have hp1 := hpre.2.1;have hk1 := lt_cells hd hp1;have hp2 := hpre.2.2.1;have hk2 := lt_cells hd hp2;have hu0 := hup.1;have hu1 := hup.2.1;have hu2 := hup.2.2.1;refine runs_seq ?_;refine runs_region ?_;refine rl0 (gn rfl) rfl rfl (step_as rfl rfl) trivial ?_;refine runsL_nil ?_;refine runs_seq ?_;refine runs_seq ?_;refine runs_region ?_;refine rl0 (gn rfl) rfl rfl (step_mv rfl rfl) trivial ?_;refine rl0 (gn rfl) rfl rfl (step_nilCheck rfl (ev_mk rfl) (.inl ⟨_, _, rfl⟩)) trivial ?_;refine rl0 (gn rfl) rfl rfl (step_fieldAddr (off := 4) rfl (ev_mk rfl) Try.underlying96 rfl F.sz27 rfl) trivial ?_;refine' rl0 (gn rfl) rfl rfl (step_load_one rfl (ev_mk rfl) F.one27 ?hv) ⟨?hb, trivial⟩ ?_
  case hb => exact t_0
  case hv => rfl
  refine rl0 (gn rfl) rfl rfl (step_len (m := tl.length) rfl rfl (ev_mk rfl) (.inl ⟨⟨_, Try.underlying27⟩, .inl ⟨_, _, .inr (.inr ⟨_, rfl⟩), List.length_map _⟩⟩)) trivial ?_;refine rl_eql (gn rfl) rfl rfl rfl rfl rfl (fun h1 => ?_) (fun h1 => ?_)
  · exact t_42
  refine runsL_nil ?_;refine runs_cond false (ev_mk rfl) (fun h_ => nomatch h_) (fun _ => ?_);refine runs_skip ?_;refine runs_seq ?_;refine runs_seq ?_;refine runs_draw (by kernel_rfl) (by kernel_rfl) (by kernel_rfl) ?_;refine dl0 (gn rfl) rfl rfl (step_mv rfl rfl) trivial ?_;refine dl0 (gn rfl) rfl rfl (step_nilCheck rfl (ev_mk rfl) (.inl ⟨_, _, rfl⟩)) trivial ?_;refine dl0 (gn rfl) rfl rfl (step_fieldAddr (off := 0) rfl (ev_mk rfl) Try.underlying96 rfl F.sz53 rfl) trivial ?_;refine' dl0 (gn rfl) rfl rfl (step_load_one rfl (ev_mk rfl) F.one53 ?hv) ⟨?hb, trivial⟩ ?_
  case hb => exact t_0
  case hv => rfl
  refine dl0 (gn rfl) rfl rfl (step_mv rfl rfl) trivial ?_;refine dl0 (gn rfl) rfl rfl (step_nilCheck rfl (ev_mk rfl) (.inl ⟨_, _, rfl⟩)) trivial ?_;refine dl0 (gn rfl) rfl rfl (step_fieldAddr (off := 1) rfl (ev_mk rfl) Try.underlying96 rfl F.sz3 rfl) trivial ?_;refine' dl0 (gn rfl) rfl rfl (step_load_one rfl (ev_mk rfl) F.one3 ?hv) ⟨?hb, trivial⟩ ?_
  case hb => exact t_0
  case hv => rfl
  refine dl0 (gn rfl) rfl rfl (step_mv rfl rfl) trivial ?_;refine dl0 (gn rfl) rfl rfl (step_nilCheck rfl (ev_mk rfl) (.inl ⟨_, _, rfl⟩)) trivial ?_;refine dl0 (gn rfl) rfl rfl (step_fieldAddr (off := 3) rfl (ev_mk rfl) Try.underlying96 rfl F.sz3 rfl) trivial ?_;refine' dl0 (gn rfl) rfl rfl (step_load_one rfl (ev_mk rfl) F.one3 ?hv) ⟨?hb, trivial⟩ ?_
  case hb => exact t_0
  case hv => rfl
  refine dl0 (gn rfl) rfl rfl (step_add rfl (ev_mk rfl) (ev_mk rfl) (w64 (by omega))) trivial ?_;refine dl0 (gn rfl) rfl rfl (step_mv rfl rfl) trivial ?_;refine dl0 (gn rfl) rfl rfl (step_nilCheck rfl (ev_mk rfl) (.inl ⟨_, _, rfl⟩)) trivial ?_;refine dl0 (gn rfl) rfl rfl (step_fieldAddr (off := 4) rfl (ev_mk rfl) Try.underlying96 rfl F.sz27 rfl) trivial ?_;refine' dl0 (gn rfl) rfl rfl (step_load_one rfl (ev_mk rfl) F.one27 ?hv) ⟨?hb, trivial⟩ ?_
  case hb => exact t_0
  case hv => rfl
  refine dl2 (gn rfl) rfl rfl (step_callc rfl Try.func44 rfl rfl rfl (write_ok k1 k2 S w f kp false hkk hS tl ht ((base : Int) + (dn : Int)) (by omega) hSL (by omega) (decide_eq_true (by omega)) rfl hf (by omega) hff) t_10) ⟨t_0, t_0, trivial⟩ (by omega) (by omega) ?_;refine dl0 (gn rfl) rfl rfl (step_as rfl rfl) trivial ?_;refine dlnil ?_ ?_
  · exact t_12
  refine runs_seq ?_;refine runs_region ?_;refine rl0 (gn rfl) rfl rfl (step_mv rfl rfl) trivial ?_;refine rl_neq (gn rfl) rfl rfl rfl rfl rfl (fun h2 => ?_) (fun h2 => ?_)
  · exact t_42
  refine runsL_nil ?_;refine runs_cond false (ev_mk rfl) (fun h_ => nomatch h_) (fun _ => ?_);refine runs_skip ?_;refine runs_seq ?_;refine runs_draw (by kernel_rfl) (by kernel_rfl) (by kernel_rfl) ?_;refine dl0 (gn rfl) rfl rfl (step_mv rfl rfl) trivial ?_;refine dl0 (gn rfl) rfl rfl (step_nilCheck rfl (ev_mk rfl) (.inl ⟨_, _, rfl⟩)) trivial ?_;refine dl0 (gn rfl) rfl rfl (step_fieldAddr (off := 3) rfl (ev_mk rfl) Try.underlying96 rfl F.sz3 rfl) trivial ?_;refine' dl0 (gn rfl) rfl rfl (step_load_one rfl (ev_mk rfl) F.one3 ?hv) ⟨?hb, trivial⟩ ?_
  case hb => exact t_0
  case hv => rfl
  refine dl0 (gn rfl) rfl rfl (step_mv rfl rfl) trivial ?_;refine dl0 (gn rfl) rfl rfl (step_nilCheck rfl (ev_mk rfl) (.inl ⟨_, _, rfl⟩)) trivial ?_;refine dl0 (gn rfl) rfl rfl (step_fieldAddr (off := 4) rfl (ev_mk rfl) Try.underlying96 rfl F.sz27 rfl) trivial ?_;refine' dl0 (gn rfl) rfl rfl (step_load_one rfl (ev_mk rfl) F.one27 ?hv) ⟨?hb, trivial⟩ ?_
  case hb => exact t_0
  case hv => rfl
  refine dl0 (gn rfl) rfl rfl (step_len (m := tl.length) rfl rfl (ev_mk rfl) (.inl ⟨⟨_, Try.underlying27⟩, .inl ⟨_, _, .inr (.inr ⟨_, rfl⟩), List.length_map _⟩⟩)) trivial ?_;refine dl0 (gn rfl) rfl rfl (step_add rfl (ev_mk rfl) (ev_mk rfl) (w64 (by omega))) trivial ?_;refine dl0 (gn rfl) rfl rfl (step_nilCheck rfl (ev_mk rfl) (.inl ⟨_, _, rfl⟩)) trivial ?_;refine dl0 (gn rfl) rfl rfl (step_fieldAddr (off := 3) rfl (ev_mk rfl) Try.underlying96 rfl F.sz3 rfl) trivial ?_;refine' dls (gn rfl) rfl (step_store1 rfl rfl rfl rfl F.one3 rfl rfl ?hl ?hc) ⟨?hb, trivial⟩ ?hk ?_
  case hb => exact t_0
  case hl => exact t_22
  case hc => exact t_28
  case hk => omega
  refine dlnil ?_ ?_
  · exact t_12
  refine runs_seq ?_;refine runs_region ?_;refine rl0 (gn rfl) rfl rfl (step_mv rfl rfl) trivial ?_;refine rl0 (gn rfl) rfl rfl (step_nilCheck rfl (ev_mk rfl) (.inl ⟨_, _, rfl⟩)) trivial ?_;refine rl0 (gn rfl) rfl rfl (step_fieldAddr (off := 4) rfl (ev_mk rfl) Try.underlying96 rfl F.sz27 rfl) trivial ?_;refine' rls (gn rfl) rfl (step_store1 rfl rfl rfl rfl F.one27 rfl rfl ?hl ?hc) ⟨?hb, trivial⟩ ?hk ?_
  case hb => exact t_0
  case hl => exact t_22
  case hc => exact t_28
  case hk => omega
  refine runsL_nil ?_;refine runs_seq ?_;refine runs_region ?_;refine rl0 (gn rfl) rfl rfl (step_as rfl rfl) trivial ?_;refine runsL_nil ?_;refine runs_ret ?_;refine ⟨t_17, fin_mkg (rest rfl res0) ?_ ?_ ?_ ?_ ?_⟩
  · (repeat' (first | exact VLe.refl _ | exact VLe.own_sl _ _ _ | exact VLe.fl_sl _ _ | exact VLe.nil_sl _ | exact VLe.nil_fl _ | exact VLes.refl _ | exact .nil | refine VLe.tup ?_ | refine VLe.agg ?_ | refine .cons ?_ ?_ | (rw [Int.natCast_add]; exact VLe.refl _) | exact vle_int (by omega) | exact vle_bool t_159 | (exact vle_int (by omega)) | fail))
  · exact t_140
  · intro k_ hk_; simp only [upds]; by_cases e_ : k_ = k1; (focus subst e_; refine bl_eq ?_; first | (refine' blec ?hb ?hl; (case hb => repeat (first | exact uE | assumption | refine uN (by omega) ?_ | fail)); (case hl => first | exact VLes.refl _ | ((repeat' (first | exact VLe.refl _ | exact VLe.own_sl _ _ _ | exact VLe.fl_sl _ _ | exact VLe.nil_sl _ | exact VLe.nil_fl _ | exact VLes.refl _ | exact .nil | refine VLe.tup ?_ | refine VLe.agg ?_ | refine .cons ?_ ?_ | (rw [Int.natCast_add]; exact VLe.refl _) | exact vle_int (by omega) | exact vle_bool t_159 | (exact vle_int (by omega)) | fail)); done))) | (refine ble ?_; (repeat (first | exact uE | assumption | refine uN (by omega) ?_ | fail)); done) | exact ble (tl_eq t_5 t_6)); refine bl_ne e_ ?_; by_cases e_ : k_ = k2; (focus subst e_; refine bl_eq ?_; first | (refine' blec ?hb ?hl; (case hb => repeat (first | exact uE | assumption | refine uN (by omega) ?_ | fail)); (case hl => first | exact VLes.refl _ | ((repeat' (first | exact VLe.refl _ | exact VLe.own_sl _ _ _ | exact VLe.fl_sl _ _ | exact VLe.nil_sl _ | exact VLe.nil_fl _ | exact VLes.refl _ | exact .nil | refine VLe.tup ?_ | refine VLe.agg ?_ | refine .cons ?_ ?_ | (rw [Int.natCast_add]; exact VLe.refl _) | exact vle_int (by omega) | exact vle_bool t_159 | (exact vle_int (by omega)) | fail)); done))) | (refine ble ?_; (repeat (first | exact uE | assumption | refine uN (by omega) ?_ | fail)); done) | exact ble (tl_eq t_5 t_6)); refine bl_ne e_ ?_; by_cases e_ : k_ = kl; (focus subst e_; refine bl_eq ?_; first | (refine' blec ?hb ?hl; (case hb => repeat (first | exact uE | assumption | refine uN (by omega) ?_ | fail)); (case hl => first | exact VLes.refl _ | ((repeat' (first | exact VLe.refl _ | exact VLe.own_sl _ _ _ | exact VLe.fl_sl _ _ | exact VLe.nil_sl _ | exact VLe.nil_fl _ | exact VLes.refl _ | exact .nil | refine VLe.tup ?_ | refine VLe.agg ?_ | refine .cons ?_ ?_ | (rw [Int.natCast_add]; exact VLe.refl _) | exact vle_int (by omega) | exact vle_bool t_159 | (exact vle_int (by omega)) | fail)); done))) | (refine ble ?_; (repeat (first | exact uE | assumption | refine uN (by omega) ?_ | fail)); done) | exact ble (tl_eq t_5 t_6)); refine bl_ne e_ ?_; exact ble t_14
  · exact t_161
  · exact t_140
end Go.Proofs.Ytdmkhpnjjpeeaaa
