import Derived.Test.YtdmkhpnjjpeeaaaKcQq
import Derived.Test.YtdmkhpnjjpeeaaaKcVd
import Derived.Test.YtdmkhpnjjpeeaaaKcWa
import Derived.Test.YtdmkhpnjjpeeaaaKcWc
import Derived.Test.YtdmkhpnjjpeeaaaKcWd
import Derived.Test.YtdmkhpnjjpeeaaaKcWe
import Derived.Test.YtdmkhpnjjpeeaaaKcVmT
import Derived.Test.YtdmkhpnjjpeeaaaKcVmP
import Derived.Test.YtdmkhpnjjpeeaaaKcVe
import Derived.Test.YtdmkhpnjjpeeaaaKcVj
namespace Go.Proofs.Ytdmkhpnjjpeeaaa
open Go.Vm
set_option linter.unusedVariables false
set_option linter.unusedSimpArgs false
def g1 (s : List Int × Bool) := rS s 1
def g2 (s : List Int × Bool) := rS (g1 s) 1
def gK (s : List Int × Bool) : Int := rN (g1 s) 1
def g3 (s : List Int × Bool) := rS (g2 s) (gK s)
def gB (s : List Int × Bool) : List Int := rdT (g2 s).1 (g2 s).2 (gK s)
def gP (s : List Int × Bool) : List Int := gB s ++ List.replicate (224 - (gB s).length) 0
def gE (s : List Int × Bool) : Prop := (gB s).length > 224 ∨ ((gB s).length > 0 ∧ at' (gB s) (((gB s).length : Int) - 1) = 0)
instance (s : List Int × Bool) : Decidable (gE s) := by unfold gE; infer_instance
def pgI (s : List Int × Bool) : Im := ⟨rN s 1, if gE s then List.replicate 224 0 else gP s⟩
def pgOK (s : List Int × Bool) : Bool := !decide (gE s) && !(g3 s).2
theorem pg_E {s : List Int × Bool} (h : gE s) : pgI s = ⟨rN s 1, List.replicate 224 0⟩ ∧ pgOK s = false := by unfold pgI pgOK; rw [if_pos h, decide_eq_true h]; exact ⟨rfl, rfl⟩
theorem pg_N {s : List Int × Bool} (h : ¬ gE s) : pgI s = ⟨rN s 1, gP s⟩ ∧ pgOK s = !(g3 s).2 := by unfold pgI pgOK; rw [if_neg h, decide_eq_false h]; exact ⟨rfl, by simp⟩
theorem gP_set {b : List Int} (h : b.length ≤ 224) (n : Int) : setSeg (V.sc (.int .i64 n) :: List.replicate 224 (V.sc (.int .u8 0))) 1 ((bytesV b).take b.length).flatten = imR ⟨n, b ++ List.replicate (224 - b.length) 0⟩ := by
  rw [List.take_of_length_le (by rw [bytesV_len]; omega), bytesV_flat]; unfold setSeg imR
  generalize 224 = m at h ⊢
  rw [List.length_map, List.map_append, List.map_replicate]
  simp [bV, Nat.add_comm 1]
theorem imR_z (n : Int) : V.sc (.int .i64 n) :: List.replicate 224 (V.sc (.int .u8 0)) = imR ⟨n, List.replicate 224 0⟩ := by unfold imR; rw [List.map_replicate]; rfl
theorem take_g (k : Nat) (s : List Int × Bool) (hk : 0 ≤ gK s ∧ gK s < 256) : Does Try.prog 66 [.ref k 0, .sc (.int .i64 (gK s))] [(k, .cells (rdB (g2 s).1 (g2 s).2))] [(k, .cells (rdB (g3 s).1 (g3 s).2))] (.sl 1 (bytesV (gB s))) := take_c k (g2 s).1 (g2 s).2 (gK s) t_98
theorem num_g1 (k : Nat) (s : List Int × Bool) (hs : okS s) : Does Try.prog 55 [.ref k 0, .sc (.int .i64 1)] [(k, .cells (rdB s.1 s.2))] [(k, .cells (rdB (rS s 1).1 (rS s 1).2))] (.sc (.int .u64 (rN s 1))) := num_c k s.1 s.2 1 t_98 hs.1 hs.2
theorem num_g8 (k : Nat) (s : List Int × Bool) (hs : okS s) : Does Try.prog 55 [.ref k 0, .sc (.int .i64 8)] [(k, .cells (rdB s.1 s.2))] [(k, .cells (rdB (rS s 8).1 (rS s 8).2))] (.sc (.int .u64 (rN s 8))) := num_c k s.1 s.2 8 t_98 hs.1 hs.2
theorem num_gK (k : Nat) (s : List Int × Bool) (hs : okS (g1 s)) : Does Try.prog 55 [.ref k 0, .sc (.int .i64 1)] [(k, .cells (rdB (g1 s).1 (g1 s).2))] [(k, .cells (rdB (g2 s).1 (g2 s).2))] (.sc (.int .u64 (gK s))) := num_g1 k (g1 s) hs
set_option maxRecDepth 100000 in
set_option maxHeartbeats 4000000 in
theorem page_c (k : Nat) (xs : List Int) (bad : Bool) (hb : Byts xs) (hl : xs.length ≤ 1000000000) : Does Try.prog 57 [.ref k 0] [(k, .cells (rdB xs bad))] [(k, .cells (rdB (g3 (xs, bad)).1 (g3 (xs, bad)).2))] (.tup [.agg (imR (pgI (xs, bad))), .sc (.bool (pgOK (xs, bad)))]) := by
  refine does_mkg 40 Try.func57 rfl rfl rfl (fun n B bx hd hpre hup hvs hbx hgx => ?_);have hp0 := hpre.1;have hk0 := lt_cells hd hp0;have hu0 := hup.1;have o0 : okS (xs, bad) := ⟨hb, hl⟩;have o1 : okS (g1 (xs, bad)) := okS_rS o0 1;have o2 : okS (g2 (xs, bad)) := okS_rS o1 1;have v0 := rN_lt1 o0;have v1 := rN_lt1 o1;have vK : 0 ≤ gK (xs, bad) ∧ gK (xs, bad) < 256 := v1;refine runs_seq ?_;refine runs_region ?_;refine rl1 (gn rfl) rfl rfl (step_allocc (k := n + 0) (zs := ((.int .i64 0) :: List.replicate 224 (.int .u8 0))) (cs := V.sc (.int .i64 0) :: List.replicate 224 (V.sc (.int .u8 0))) rfl F.zero86 t_33 t_55 t_33) ⟨t_0, trivial⟩ (by omega) ?_;refine rl0 (gn rfl) rfl rfl (step_as rfl rfl) trivial ?_;refine runsL_nil ?_;refine runs_seq ?_;refine runs_region ?_;refine rl0 (gn rfl) rfl rfl (step_mv rfl rfl) trivial ?_;refine rl1 (gn rfl) rfl rfl (step_callc rfl Try.func55 rfl rfl rfl (num_g1 k (xs, bad) o0) t_10) ⟨t_0, trivial⟩ (by omega) ?_;refine rl0 (gn rfl) rfl rfl (step_conv_id rfl rfl Try.underlying33 Try.underlying3 (w64 (by exact ⟨Int.le_trans (by decide) v0.1, Int.le_of_lt (Int.lt_trans v0.2 (by decide))⟩))) trivial ?_;refine rl0 (gn rfl) rfl rfl (step_build (ss := [1, 224]) (zs := ((.int .i64 0) :: List.replicate 224 (.int .u8 0))) (cs := (V.sc (.int .i64 (rN (xs, bad) 1)) :: List.replicate 224 (V.sc (.int .u8 0)))) rfl Try.underlying86 (by kernel_rfl) F.zero86 rfl rfl rfl) trivial ?_;refine rl1 (gn rfl) rfl rfl (step_allocc (k := n + 1) (zs := ((.int .i64 0) :: List.replicate 224 (.int .u8 0))) (cs := V.sc (.int .i64 0) :: List.replicate 224 (V.sc (.int .u8 0))) rfl F.zero86 t_33 t_55 t_33) ⟨t_0, trivial⟩ (by omega) ?_;refine' rls (gn rfl) rfl (step_storeA rfl rfl rfl rfl F.agg86 ?hm ?hl) ⟨?hb, trivial⟩ ?hk ?_
  case hb => exact t_0
  case hm => exact t_39
  case hl => exact t_39
  case hk => omega
  refine runsL_nil ?_;refine runs_seq ?_;refine runs_region ?_;refine rl0 (gn rfl) rfl rfl (step_mv rfl rfl) trivial ?_;refine rl0 (gn rfl) rfl rfl (step_mv rfl rfl) trivial ?_;refine rl1 (gn rfl) rfl rfl (step_callc rfl Try.func55 rfl rfl rfl (num_gK k (xs, bad) o1) t_10) ⟨t_0, trivial⟩ (by omega) ?_;refine rl0 (gn rfl) rfl rfl (step_conv_id rfl rfl Try.underlying33 Try.underlying3 (w64 (by exact ⟨Int.le_trans (by decide) vK.1, Int.le_of_lt (Int.lt_trans vK.2 (by decide))⟩))) trivial ?_;refine rl1 (gn rfl) rfl rfl (step_callc rfl Try.func66 rfl rfl rfl (take_g k (xs, bad) vK) t_10) ⟨t_0, trivial⟩ (by omega) ?_;refine rl0 (gn rfl) rfl rfl (step_as rfl rfl) trivial ?_;refine runsL_nil ?_;refine runs_seq ?_;refine runs_seq ?_;refine runs_region ?_;refine rl0 (gn rfl) rfl rfl (step_mv rfl rfl) trivial ?_;refine rl0 (gn rfl) rfl rfl (step_len (m := (gB (xs, bad)).length) rfl rfl (ev_mk rfl) (.inl ⟨⟨_, Try.underlying22⟩, .inl ⟨_, _, .inl rfl, List.length_map _⟩⟩)) trivial ?_;refine rl_gtr (gn rfl) rfl rfl rfl rfl rfl (fun h1 => ?_) (fun h1 => ?_)
  · skip
    refine rl0 (gn rfl) rfl rfl (step_mv rfl rfl) trivial ?_;refine rlk rfl rfl rfl rfl rfl (ngb rfl rfl) rfl rfl ?_;refine rlk rfl rfl rfl rfl rfl (ngb rfl rfl) rfl rfl ?_;refine rlk rfl rfl rfl rfl rfl (ngb rfl rfl) rfl rfl ?_;refine rlk rfl rfl rfl rfl rfl (ngb rfl rfl) rfl rfl ?_;refine rlk rfl rfl rfl rfl rfl (ngu rfl) rfl rfl ?_;refine rlk rfl rfl rfl rfl rfl (ngu rfl) rfl rfl ?_;refine rlk rfl rfl rfl rfl rfl (ngu rfl) rfl rfl ?_;refine rlk rfl rfl rfl rfl rfl (ngu rfl) rfl rfl ?_;refine rlk rfl rfl rfl rfl rfl (ngu rfl) rfl rfl ?_;refine rlk rfl rfl rfl rfl rfl (ngu rfl) rfl rfl ?_;refine rlk rfl rfl rfl rfl rfl (ngu rfl) rfl rfl ?_;refine rlk rfl rfl rfl rfl rfl (ngb rfl rfl) rfl rfl ?_;refine rl0 (gn rfl) rfl rfl (step_pick rfl (ev_mk rfl) (ev_mk rfl)) trivial ?_;refine runsL_nil ?_;refine runs_cond true (ev_mk rfl) (fun _ => ?_) (fun h_ => nomatch h_);refine runs_seq ?_;refine runs_region ?_;refine' rl0 (gn rfl) rfl rfl (step_load_all rfl rfl F.agg86 ?hl) ⟨?hb, trivial⟩ ?_
    case hb => exact t_0
    case hl => exact t_39
    refine' rls (gn rfl) rfl (step_storeA rfl rfl rfl rfl F.agg86 ?hm ?hl) ⟨?hb, trivial⟩ ?hk ?_
    case hb => exact t_0
    case hm => exact t_39
    case hl => exact t_39
    case hk => omega
    refine rl0 (gn rfl) rfl rfl (step_as rfl rfl) trivial ?_;refine runsL_nil ?_;refine runs_ret ?_
    first | (have hg_ := pg_E (s := (xs, bad)) (by unfold gE; omega)) | (have hg_ := pg_N (s := (xs, bad)) (by unfold gE; omega))
    rw [hg_.1, hg_.2]
    refine ⟨t_17, fin_mkg (resc rfl t_0 F.agg86 t_39 (rest rfl res0)) ?_ ?_ ?_ ?_ ?_⟩
    · exact t_47
    · exact t_1
    · exact t_137
    · exact t_132
    · exact t_1
  · skip
    refine rl0 (gn rfl) rfl rfl (step_mv rfl rfl) trivial ?_;refine rl0 (gy rfl rfl rfl rfl rfl rfl) rfl rfl (step_mv rfl rfl) trivial ?_;refine rl0 (gy rfl rfl rfl rfl rfl rfl) rfl rfl (step_len (m := (gB (xs, bad)).length) rfl rfl (ev_mk rfl) (.inl ⟨⟨_, Try.underlying22⟩, .inl ⟨_, _, .inl rfl, List.length_map _⟩⟩)) trivial ?_;refine rl_gtr (gy rfl rfl rfl rfl rfl rfl) rfl rfl rfl rfl rfl (fun h2 => ?_) (fun h2 => ?_)
    · skip
      refine rl0 (gy rfl rfl rfl rfl rfl rfl) rfl rfl (step_mv rfl rfl) trivial ?_;refine rl0 (gy rfl rfl rfl rfl rfl rfl) rfl rfl (step_mv rfl rfl) trivial ?_;refine rl0 (gy rfl rfl rfl rfl rfl rfl) rfl rfl (step_mv rfl rfl) trivial ?_;refine rl0 (gy rfl rfl rfl rfl rfl rfl) rfl rfl (step_len (m := (gB (xs, bad)).length) rfl rfl (ev_mk rfl) (.inl ⟨⟨_, Try.underlying22⟩, .inl ⟨_, _, .inl rfl, List.length_map _⟩⟩)) trivial ?_;refine rl0 (gy rfl rfl rfl rfl rfl rfl) rfl rfl (step_sub rfl (ev_mk rfl) (ev_mk rfl) (w64 (by omega))) trivial ?_;refine' rl0 (gy rfl rfl rfl rfl rfl rfl) rfl rfl (step_index rfl (ev_mk rfl) (.inl rfl) (ev_mk rfl) Try.underlying22 F.sz5 (by omega) ?hr) trivial ?_
      case hr => exact t_31
      refine rl0 (gy rfl rfl rfl rfl rfl rfl) rfl rfl (step_load_ro rfl (ev_mk rfl) F.one5 rfl) trivial ?_;refine rl_eql (gy rfl rfl rfl rfl rfl rfl) rfl rfl rfl rfl rfl (fun h3 => ?_) (fun h3 => ?_)
      · skip
        replace h3 : at' (gB (xs, bad)) (((gB (xs, bad)).length : Int) - 1) = 0 := h3
        refine rl0 (gy rfl rfl rfl rfl rfl rfl) rfl rfl (step_pick rfl (ev_mk rfl) (ev_mk rfl)) trivial ?_;refine rl0 (gn rfl) rfl rfl (step_pick rfl (ev_mk rfl) (ev_mk rfl)) trivial ?_;refine runsL_nil ?_;refine runs_cond true (ev_mk rfl) (fun _ => ?_) (fun h_ => nomatch h_);refine runs_seq ?_;refine runs_region ?_;refine' rl0 (gn rfl) rfl rfl (step_load_all rfl rfl F.agg86 ?hl) ⟨?hb, trivial⟩ ?_
        case hb => exact t_0
        case hl => exact t_39
        refine' rls (gn rfl) rfl (step_storeA rfl rfl rfl rfl F.agg86 ?hm ?hl) ⟨?hb, trivial⟩ ?hk ?_
        case hb => exact t_0
        case hm => exact t_39
        case hl => exact t_39
        case hk => omega
        refine rl0 (gn rfl) rfl rfl (step_as rfl rfl) trivial ?_;refine runsL_nil ?_;refine runs_ret ?_
        first | (have hg_ := pg_E (s := (xs, bad)) (by unfold gE; omega)) | (have hg_ := pg_N (s := (xs, bad)) (by unfold gE; omega))
        rw [hg_.1, hg_.2]
        refine ⟨t_17, fin_mkg (resc rfl t_0 F.agg86 t_39 (rest rfl res0)) ?_ ?_ ?_ ?_ ?_⟩
        · exact t_47
        · exact t_1
        · exact t_137
        · exact t_132
        · exact t_1
      · skip
        replace h3 : ¬ at' (gB (xs, bad)) (((gB (xs, bad)).length : Int) - 1) = 0 := h3
        refine rl0 (gy rfl rfl rfl rfl rfl rfl) rfl rfl (step_pick rfl (ev_mk rfl) (ev_mk rfl)) trivial ?_;refine rl0 (gn rfl) rfl rfl (step_pick rfl (ev_mk rfl) (ev_mk rfl)) trivial ?_;refine runsL_nil ?_;refine runs_cond false (ev_mk rfl) (fun h_ => nomatch h_) (fun _ => ?_);refine runs_skip ?_;refine runs_seq ?_;refine runs_region ?_;refine rl0 (gn rfl) rfl rfl (step_fieldAddr (off := 1) rfl (ev_mk rfl) Try.underlying86 rfl F.sz84 rfl) trivial ?_;refine rl0 (gn rfl) rfl rfl (step_sl_arr (a := 0) (h := 224) (m := 224) (q' := 1) (n' := 224) (c' := 224) rfl (ev_mk rfl) Try.underlying84 F.sz5 bndLo_none bndHi_none bndHi_none (fun h_ => t_106) (by omega) (by omega) (by omega) t_59 t_73 t_73) trivial ?_;refine rl0 (gn rfl) rfl rfl (step_mv rfl rfl) trivial ?_;refine' rl1 (gn rfl) rfl rfl (step_copy (m := (gB (xs, bad)).length) (cs' := imR ⟨rN (xs, bad) 1, gP (xs, bad)⟩) rfl rfl Try.underlying22 F.sz5 (ev_mk rfl) (ev_mk rfl) (gives_sl (.inl rfl)) ?hmn ?hl ?hcs) ⟨?hb, trivial⟩ (by omega) ?_
        case hb => exact t_0
        case hmn => rw [bytesV_len]; exact Nat.min_eq_left (by omega)
        case hl => first | (simp; done) | (simp; omega)
        case hcs => exact gP_set (by omega) _
        refine runsL_nil ?_;refine runs_seq ?_;refine runs_draw (by kernel_rfl) (by kernel_rfl) (by kernel_rfl) ?_;refine' dl0 (gn rfl) rfl rfl (step_load_all rfl rfl F.agg86 ?hl) ⟨?hb, trivial⟩ ?_
        case hb => exact t_0
        case hl => exact t_39
        refine dl0 (gn rfl) rfl rfl (step_mv rfl rfl) trivial ?_;refine dl0 (gn rfl) rfl rfl (step_callc rfl Try.func58 rfl rfl rfl (right_c k (g3 (xs, bad)).1 (g3 (xs, bad)).2) t_10) ⟨t_0, trivial⟩ ?_;refine' dls (gn rfl) rfl (step_storeA rfl rfl rfl rfl F.agg86 ?hm ?hl) ⟨?hb, trivial⟩ ?hk ?_
        case hb => exact t_0
        case hm => exact t_39
        case hl => exact t_39
        case hk => omega
        refine dl0 (gn rfl) rfl rfl (step_as rfl rfl) trivial ?_;refine dlnil ?_ ?_
        · exact t_12
        refine runs_ret ?_
        first | (have hg_ := pg_E (s := (xs, bad)) (by unfold gE; omega)) | (have hg_ := pg_N (s := (xs, bad)) (by unfold gE; omega))
        rw [hg_.1, hg_.2]
        refine ⟨t_17, fin_mkg (resc rfl t_0 F.agg86 t_39 (rest rfl res0)) ?_ ?_ ?_ ?_ ?_⟩
        · exact t_47
        · exact t_1
        · exact t_137
        · exact t_132
        · exact t_1
    · skip
      refine rl0 (gy rfl rfl rfl rfl rfl rfl) rfl rfl (step_mv rfl rfl) trivial ?_;refine rlk rfl rfl rfl rfl rfl (ngb rfl rfl) rfl rfl ?_;refine rlk rfl rfl rfl rfl rfl (ngb rfl rfl) rfl rfl ?_;refine rlk rfl rfl rfl rfl rfl (ngb rfl rfl) rfl rfl ?_;refine rlk rfl rfl rfl rfl rfl (ngb rfl rfl) rfl rfl ?_;refine rlk rfl rfl rfl rfl rfl (ngb rfl rfl) rfl rfl ?_;refine rlk rfl rfl rfl rfl rfl (ngb rfl rfl) rfl rfl ?_;refine rlk rfl rfl rfl rfl rfl (ngb rfl rfl) rfl rfl ?_;refine rl0 (gy rfl rfl rfl rfl rfl rfl) rfl rfl (step_pick rfl (ev_mk rfl) (ev_mk rfl)) trivial ?_;refine rl0 (gn rfl) rfl rfl (step_pick rfl (ev_mk rfl) (ev_mk rfl)) trivial ?_;refine runsL_nil ?_;refine runs_cond false (ev_mk rfl) (fun h_ => nomatch h_) (fun _ => ?_);refine runs_skip ?_;refine runs_seq ?_;refine runs_region ?_;refine rl0 (gn rfl) rfl rfl (step_fieldAddr (off := 1) rfl (ev_mk rfl) Try.underlying86 rfl F.sz84 rfl) trivial ?_;refine rl0 (gn rfl) rfl rfl (step_sl_arr (a := 0) (h := 224) (m := 224) (q' := 1) (n' := 224) (c' := 224) rfl (ev_mk rfl) Try.underlying84 F.sz5 bndLo_none bndHi_none bndHi_none (fun h_ => t_106) (by omega) (by omega) (by omega) t_59 t_73 t_73) trivial ?_;refine rl0 (gn rfl) rfl rfl (step_mv rfl rfl) trivial ?_;refine' rl1 (gn rfl) rfl rfl (step_copy (m := (gB (xs, bad)).length) (cs' := imR ⟨rN (xs, bad) 1, gP (xs, bad)⟩) rfl rfl Try.underlying22 F.sz5 (ev_mk rfl) (ev_mk rfl) (gives_sl (.inl rfl)) ?hmn ?hl ?hcs) ⟨?hb, trivial⟩ (by omega) ?_
      case hb => exact t_0
      case hmn => rw [bytesV_len]; exact Nat.min_eq_left (by omega)
      case hl => first | (simp; done) | (simp; omega)
      case hcs => exact gP_set (by omega) _
      refine runsL_nil ?_;refine runs_seq ?_;refine runs_draw (by kernel_rfl) (by kernel_rfl) (by kernel_rfl) ?_;refine' dl0 (gn rfl) rfl rfl (step_load_all rfl rfl F.agg86 ?hl) ⟨?hb, trivial⟩ ?_
      case hb => exact t_0
      case hl => exact t_39
      refine dl0 (gn rfl) rfl rfl (step_mv rfl rfl) trivial ?_;refine dl0 (gn rfl) rfl rfl (step_callc rfl Try.func58 rfl rfl rfl (right_c k (g3 (xs, bad)).1 (g3 (xs, bad)).2) t_10) ⟨t_0, trivial⟩ ?_;refine' dls (gn rfl) rfl (step_storeA rfl rfl rfl rfl F.agg86 ?hm ?hl) ⟨?hb, trivial⟩ ?hk ?_
      case hb => exact t_0
      case hm => exact t_39
      case hl => exact t_39
      case hk => omega
      refine dl0 (gn rfl) rfl rfl (step_as rfl rfl) trivial ?_;refine dlnil ?_ ?_
      · exact t_12
      refine runs_ret ?_
      first | (have hg_ := pg_E (s := (xs, bad)) (by unfold gE; omega)) | (have hg_ := pg_N (s := (xs, bad)) (by unfold gE; omega))
      rw [hg_.1, hg_.2]
      refine ⟨t_17, fin_mkg (resc rfl t_0 F.agg86 t_39 (rest rfl res0)) ?_ ?_ ?_ ?_ ?_⟩
      · exact t_47
      · exact t_1
      · exact t_137
      · exact t_132
      · exact t_1
end Go.Proofs.Ytdmkhpnjjpeeaaa
namespace Go.Proofs.Ytdmkhpnjjpeeaaa
open Go.Vm
set_option linter.unusedVariables false
set_option linter.unusedSimpArgs false
open Crc
attribute [local irreducible] Go.Vm.beB Go.Vm.fieldB
def e1 (s : List Int × Bool) := rS s 1
def e2 (s : List Int × Bool) := rS (e1 s) 8
def e3 (s : List Int × Bool) := rS (e2 s) 8
def e4 (s : List Int × Bool) := rS (e3 s) 8
def e5 (s : List Int × Bool) := rS (e4 s) 8
def e6 (s : List Int × Bool) := q6 (e5 s)
def e7 (s : List Int × Bool) := rS (e6 s) 1
def eK (s : List Int × Bool) : Int := rN (e6 s) 1
def pS (s : List Int × Bool) : Nat → List Int × Bool
  | 0 => e7 s
  | j + 1 => g3 (pS s j)
def pL (s : List Int × Bool) : Nat → List Im
  | 0 => []
  | j + 1 => pL s j ++ [pgI (pS s j)]
def e8 (s : List Int × Bool) := pS s (eK s).toNat
def eM (s : List Int × Bool) : Int := rN (e8 s) 1
def aS (s : List Int × Bool) : Nat → List Int × Bool
  | 0 => rS (e8 s) 1
  | j + 1 => rS (aS s j) 8
def aL (s : List Int × Bool) : Nat → List Int
  | 0 => []
  | j + 1 => aL s j ++ [rN (aS s j) 8]
def e9 (s : List Int × Bool) := aS s (eM s).toNat
def gEn (s : List Int × Bool) : En := ⟨rN (e1 s) 8, rN s 1, rN (e2 s) 8, rN (e3 s) 8, rN (e4 s) 8, rrV (e5 s), pL s (eK s).toNat, aL s (eM s).toNat⟩
structure GOK (s : List Int × Bool) : Prop where
  r : rrOK (e5 s) = true
  p : ∀ i : Nat, i < (eK s).toNat → pgOK (pS s i) = true
  e : (e9 s).2 = false
  l : (e9 s).1.length = 0
  c : chkF (gEn s) = 0
theorem okS_q6 {s : List Int × Bool} (h : okS s) : okS (q6 s) := ⟨rdX_bytes (okS_rS (okS_rS (okS_rS (okS_rS (okS_rS h 8) 8) 4) 4) 1).1 _ _, Nat.le_trans (rdX_len _ _ _) (okS_rS (okS_rS (okS_rS (okS_rS (okS_rS h 8) 8) 4) 4) 1).2⟩
theorem okS_g3 {s : List Int × Bool} (h : okS s) : okS (g3 s) := okS_rS (okS_rS (okS_rS h 1) 1) _
theorem ok_e5 {s : List Int × Bool} (h : okS s) : okS (e5 s) := okS_rS (okS_rS (okS_rS (okS_rS (okS_rS h 1) 8) 8) 8) 8
theorem ok_pS {s : List Int × Bool} (h : okS s) : ∀ j, okS (pS s j)
  | 0 => okS_rS (okS_q6 (ok_e5 h)) 1
  | j + 1 => okS_g3 (ok_pS h j)
theorem ok_aS {s : List Int × Bool} (h : okS s) : ∀ j, okS (aS s j)
  | 0 => okS_rS (ok_pS h _) 1
  | j + 1 => okS_rS (ok_aS h j) 8
theorem pL_len (s : List Int × Bool) : ∀ j, (pL s j).length = j
  | 0 => rfl
  | j + 1 => by unfold pL; rw [List.length_append, pL_len s j]; rfl
theorem aL_len (s : List Int × Bool) : ∀ j, (aL s j).length = j
  | 0 => rfl
  | j + 1 => by unfold aL; rw [List.length_append, aL_len s j]; rfl
theorem pgI_len (s : List Int × Bool) : (pgI s).p.length = 224 := by
  by_cases h : gE s
  · rw [(pg_E h).1]; exact List.length_replicate
  · rw [(pg_N h).1]; unfold gE at h; show (gB s ++ List.replicate (224 - (gB s).length) 0).length = 224; rw [List.length_append, List.length_replicate]; omega
theorem pL_pg (s : List Int × Bool) : ∀ j, ∀ m ∈ pL s j, m.p.length = 224
  | 0, m, h => by cases h
  | j + 1, m, h => by
    unfold pL at h
    rcases List.mem_append.1 h with h | h
    · exact pL_pg s j m h
    · rw [List.mem_singleton.1 h]; exact pgI_len _
theorem rN_1 {s : List Int × Bool} (h : okS s) : 0 ≤ rN s 1 ∧ rN s 1 < 256 := rN_lt1 h
theorem bd_en (n : Nat) (e : En) : bdL n (enC e) := by
  have hp : ∀ l : List Im, bdR n (l.map imR) := fun l => bdR_map (fun m => ⟨trivial, bdL_map (fun _ => trivial)⟩)
  have ha : ∀ l : List Int, bdR n (l.map acR) := fun l => bdR_map (fun _ => ⟨trivial, trivial⟩)
  exact ⟨trivial, trivial, trivial, trivial, trivial, trivial, trivial, trivial, trivial, trivial, trivial, hp _, ha _, trivial⟩
def zEn : En := ⟨0, 0, 0, 0, 0, zRc, [], []⟩
set_option maxRecDepth 100000 in
set_option maxHeartbeats 4000000 in
theorem d28_0 (a b : Nat) : DoesD Try.prog 53 [.ref a 0, .ref b 0] [(a, .cells [.sc (.int .i64 0)])] [] := by
  refine doesD_mk 40 Try.func53 rfl rfl rfl rfl (fun n B bx hd hpre hup hvs hbx hgx => ?_);have hp0 := hpre.1;have hk0 := lt_cells hd hp0;refine runs_seq ?_;refine runs_region ?_;refine' rl0 (gn rfl) rfl rfl (step_load_one rfl (ev_mk rfl) F.one41 ?hv) ⟨?hb, trivial⟩ ?_
  case hb => exact t_0
  case hv => rfl
  refine rl_neq (gn rfl) rfl rfl rfl rfl rfl (fun h1 => ?_) (fun h1 => ?_)
  · exact t_42
  refine runsL_nil ?_;refine runs_cond false (ev_mk rfl) (fun h_ => nomatch h_) (fun _ => ?_);refine runs_skip ?_;refine ⟨t_17, fin_mkg res0 ?_ ?_ ?_ ?_ ?_⟩
  · exact t_2
  · exact t_1
  · exact t_142
  · exact t_45
  · exact t_1
theorem num_e (k : Nat) (s t : List Int × Bool) (hs : okS s) (m : Nat) (hm : m = 1 ∨ m = 8) (ht : t = rS s m) (v : Int) (hv : v = rN s m) : Does Try.prog 55 [.ref k 0, .sc (.int .i64 m)] [(k, .cells (rdB s.1 s.2))] [(k, .cells (rdB t.1 t.2))] (.sc (.int .u64 v)) := by
  subst ht hv
  rcases hm with rfl | rfl
  · exact num_g1 k s hs
  · exact num_g8 k s hs
theorem rr_e (k : Nat) (s t : List Int × Bool) (hs : okS s) (h : rrOK s = true) (ht : t = q6 s) : Does Try.prog 56 [.ref k 0] [(k, .cells (rdB s.1 s.2))] [(k, .cells (rdB t.1 t.2))] (.tup [.agg (rcC (rrV s)), .sc (.bool true)]) := by
  subst ht; exact rr_ok k s.1 s.2 hs.1 hs.2 h
theorem page_e (k : Nat) (s t : List Int × Bool) (hs : okS s) (ht : t = g3 s) : Does Try.prog 57 [.ref k 0] [(k, .cells (rdB s.1 s.2))] [(k, .cells (rdB t.1 t.2))] (.tup [.agg (imR (pgI s)), .sc (.bool (pgOK s))]) := by
  subst ht; exact page_c k s.1 s.2 hs.1 hs.2
set_option maxRecDepth 100000 in
set_option maxHeartbeats 4000000 in
theorem get_ok (b : List Int) (hb : Byts b) (hl : b.length ≤ 1000000) (hs : sealOK b = true) (hG : GOK (sealG b, false)) : Does Try.prog 39 [.sl 1 (bytesV b)] [] [] (.tup [.agg (enC (gEn (sealG b, false))), .sc (.int .i64 0)]) := by
  refine does_defer 40 Try.func39 rfl rfl rfl (fun n X0 hd hpre hup hvs => ?_);have s0 : okS (sealG b, false) := ⟨sealG_byts hb, Nat.le_trans (sealG_len b) (by omega)⟩;have s1 : okS (e1 (sealG b, false)) := okS_rS s0 1;have s2 : okS (e2 (sealG b, false)) := okS_rS s1 8;have s3 : okS (e3 (sealG b, false)) := okS_rS s2 8;have s4 : okS (e4 (sealG b, false)) := okS_rS s3 8;have s5 : okS (e5 (sealG b, false)) := okS_rS s4 8;have s6 : okS (e6 (sealG b, false)) := okS_q6 s5;have sp := ok_pS s0;have sa := ok_aS s0;have v0 := rN_1 s0;have vK : 0 ≤ eK (sealG b, false) ∧ eK (sealG b, false) < 256 := rN_1 s6;have vM : 0 ≤ eM (sealG b, false) ∧ eM (sealG b, false) < 256 := rN_1 (sp _);refine runs_seq ?_;refine runs_region ?_;refine rl1 (gn rfl) rfl rfl (step_allocc (k := n + 0) (zs := [.int .u64 0, .int .i64 0, .int .u64 0, .int .u64 0, .int .u64 0, .int .u64 0, .int .u64 0, .int .u32 0, .int .u32 0, .string ByteArray.empty, .bool false, .slice none 0 0, .slice none 0 0]) (cs := [.sc (.int .u64 0), .sc (.int .i64 0), .sc (.int .u64 0), .sc (.int .u64 0), .sc (.int .u64 0), .sc (.int .u64 0), .sc (.int .u64 0), .sc (.int .u32 0), .sc (.int .u32 0), .sc (.string ByteArray.empty), .sc (.bool false), .sc (.slice none 0 0), .sc (.slice none 0 0)]) rfl F.zero40 t_33 t_55 t_33) ⟨t_0, trivial⟩ (by omega) ?_;refine rl1 (gn rfl) rfl rfl (step_allocc (k := n + 1) (zs := [.int .i64 0]) (cs := [.sc (.int .i64 0)]) rfl F.zero41 t_33 t_55 t_33) ⟨t_0, trivial⟩ (by omega) ?_;refine runsL_nil ?_;refine runs_seq ?_;refine runs_region ?_;refine rl0 (gn rfl) rfl rfl (step_mv rfl rfl) trivial ?_;refine rl0 (gn rfl) rfl rfl (step_callc rfl Try.func52 rfl rfl rfl (sget_c b hb (by omega)) t_10) trivial ?_;refine rl0 (gn rfl) rfl rfl (step_mv rfl rfl) trivial ?_;refine rl0 (gn rfl) rfl rfl (step_extract rfl (ev_mk rfl) rfl) trivial ?_;refine rl0 (gn rfl) rfl rfl (step_extract rfl (ev_mk rfl) rfl) trivial ?_;refine rl0 (gn rfl) rfl rfl (step_as rfl rfl) trivial ?_;refine rl0 (gn rfl) rfl rfl (step_as rfl rfl) trivial ?_;refine runsL_nil ?_;refine runs_seq ?_;refine runs_seq ?_;refine runs_region ?_;refine rl0 (gn rfl) rfl rfl (step_mv rfl rfl) trivial ?_;refine rl0 (gn rfl) rfl rfl (step_unOp rfl (ev_mk rfl) (fun _ => rfl)) trivial ?_;refine rl_know (d := 14) (c := false) rfl (by rw [hs]; rfl) ?_;refine runsL_nil ?_;refine runs_cond false (ev_mk rfl) (fun h_ => nomatch h_) (fun _ => ?_);refine runs_skip ?_;refine runs_seq ?_;refine runs_region ?_;refine' rls (gn rfl) rfl (step_store1 rfl rfl rfl rfl F.one41 rfl rfl ?hl ?hc) ⟨?hb, trivial⟩ ?hk ?_
  case hb => exact t_0
  case hl => exact t_48
  case hc => exact t_28
  case hk => omega
  refine runsL_nil ?_;refine runs_defer rfl rfl rfl rfl rfl rfl rfl rfl Try.func53 rfl rfl (fun B' => ?_);refine runs_seq ?_;refine runs_region ?_;refine rl0 (gn rfl) rfl rfl (step_mv rfl rfl) trivial ?_;refine rl1 (gn rfl) rfl rfl (step_callc rfl Try.func54 rfl rfl rfl (read_c (sealG b) (n + 2) (by have := sealG_len b; omega)) t_10) ⟨t_0, trivial⟩ (by omega) ?_;refine rl0 (gn rfl) rfl rfl (step_as rfl rfl) trivial ?_;refine runsL_nil ?_;refine runs_seq ?_;refine runs_region ?_;refine rl0 (gn rfl) rfl rfl (step_mv rfl rfl) trivial ?_;refine rl1 (gn rfl) rfl rfl (step_callc rfl Try.func55 rfl rfl rfl (num_e (n + 2) (sealG b, false) (e1 (sealG b, false)) s0 1 (by omega) rfl (rN (sealG b, false) 1) rfl) t_10) ⟨t_0, trivial⟩ (by omega) ?_;refine rl0 (gn rfl) rfl rfl (step_conv_id rfl rfl Try.underlying33 Try.underlying3 (w64 (by exact ⟨Int.le_trans (by decide) v0.1, Int.le_of_lt (Int.lt_trans v0.2 (by decide))⟩))) trivial ?_;refine rl0 (gn rfl) rfl rfl (step_fieldAddr (off := 1) rfl (ev_mk rfl) Try.underlying40 rfl F.sz3 rfl) trivial ?_;refine' rls (gn rfl) rfl (step_store1 rfl rfl rfl rfl F.one3 rfl rfl ?hl ?hc) ⟨?hb, trivial⟩ ?hk ?_
  case hb => exact t_0
  case hl => exact t_48
  case hc => exact t_28
  case hk => omega
  refine runsL_nil ?_;refine runs_seq ?_;refine runs_region ?_;refine rl0 (gn rfl) rfl rfl (step_mv rfl rfl) trivial ?_;refine rl1 (gn rfl) rfl rfl (step_callc rfl Try.func55 rfl rfl rfl (num_e (n + 2) (e1 (sealG b, false)) (e2 (sealG b, false)) s1 8 (by omega) rfl (rN (e1 (sealG b, false)) 8) rfl) t_10) ⟨t_0, trivial⟩ (by omega) ?_;refine rl0 (gn rfl) rfl rfl (step_mv rfl rfl) trivial ?_;refine rl1 (gn rfl) rfl rfl (step_callc rfl Try.func55 rfl rfl rfl (num_e (n + 2) (e2 (sealG b, false)) (e3 (sealG b, false)) s2 8 (by omega) rfl (rN (e2 (sealG b, false)) 8) rfl) t_10) ⟨t_0, trivial⟩ (by omega) ?_;refine rl0 (gn rfl) rfl rfl (step_mv rfl rfl) trivial ?_;refine rl1 (gn rfl) rfl rfl (step_callc rfl Try.func55 rfl rfl rfl (num_e (n + 2) (e3 (sealG b, false)) (e4 (sealG b, false)) s3 8 (by omega) rfl (rN (e3 (sealG b, false)) 8) rfl) t_10) ⟨t_0, trivial⟩ (by omega) ?_;refine rl0 (gn rfl) rfl rfl (step_mv rfl rfl) trivial ?_;refine rl1 (gn rfl) rfl rfl (step_callc rfl Try.func55 rfl rfl rfl (num_e (n + 2) (e4 (sealG b, false)) (e5 (sealG b, false)) s4 8 (by omega) rfl (rN (e4 (sealG b, false)) 8) rfl) t_10) ⟨t_0, trivial⟩ (by omega) ?_;refine rl0 (gn rfl) rfl rfl (step_fieldAddr (off := 0) rfl (ev_mk rfl) Try.underlying40 rfl F.sz33 rfl) trivial ?_;refine' rls (gn rfl) rfl (step_store1 rfl rfl rfl rfl F.one33 rfl rfl ?hl ?hc) ⟨?hb, trivial⟩ ?hk ?_
  case hb => exact t_0
  case hl => exact t_48
  case hc => exact t_28
  case hk => omega
  refine rl0 (gn rfl) rfl rfl (step_fieldAddr (off := 2) rfl (ev_mk rfl) Try.underlying40 rfl F.sz33 rfl) trivial ?_;refine' rls (gn rfl) rfl (step_store1 rfl rfl rfl rfl F.one33 rfl rfl ?hl ?hc) ⟨?hb, trivial⟩ ?hk ?_
  case hb => exact t_0
  case hl => exact t_48
  case hc => exact t_28
  case hk => omega
  refine rl0 (gn rfl) rfl rfl (step_fieldAddr (off := 3) rfl (ev_mk rfl) Try.underlying40 rfl F.sz33 rfl) trivial ?_;refine' rls (gn rfl) rfl (step_store1 rfl rfl rfl rfl F.one33 rfl rfl ?hl ?hc) ⟨?hb, trivial⟩ ?hk ?_
  case hb => exact t_0
  case hl => exact t_48
  case hc => exact t_28
  case hk => omega
  refine rl0 (gn rfl) rfl rfl (step_fieldAddr (off := 4) rfl (ev_mk rfl) Try.underlying40 rfl F.sz33 rfl) trivial ?_;refine' rls (gn rfl) rfl (step_store1 rfl rfl rfl rfl F.one33 rfl rfl ?hl ?hc) ⟨?hb, trivial⟩ ?hk ?_
  case hb => exact t_0
  case hl => exact t_48
  case hc => exact t_28
  case hk => omega
  refine runsL_nil ?_;refine runs_seq ?_;refine runs_seq ?_;refine runs_region ?_;refine rl0 (gn rfl) rfl rfl (step_mv rfl rfl) trivial ?_;refine rl1 (gn rfl) rfl rfl (step_callc rfl Try.func56 rfl rfl rfl (rr_e (n + 2) (e5 (sealG b, false)) (e6 (sealG b, false)) s5 hG.r rfl) t_10) ⟨t_0, trivial⟩ (by omega) ?_;refine rl0 (gn rfl) rfl rfl (step_mv rfl rfl) trivial ?_;refine rl0 (gn rfl) rfl rfl (step_extract rfl (ev_mk rfl) rfl) trivial ?_;refine rl0 (gn rfl) rfl rfl (step_extract rfl (ev_mk rfl) rfl) trivial ?_;refine rl0 (gn rfl) rfl rfl (step_fieldAddr (off := 5) rfl (ev_mk rfl) Try.underlying40 rfl F.sz36 rfl) trivial ?_;refine' rls (gn rfl) rfl (step_storeS rfl rfl rfl rfl F.agg36 ?hm ?hl ?hc) ⟨?hb, trivial⟩ ?hk ?_
  case hb => exact t_0
  case hm => exact t_66
  case hl => exact t_48
  case hc => rfl
  case hk => omega
  refine rl0 (gn rfl) rfl rfl (step_as rfl rfl) trivial ?_;refine runsL_nil ?_;refine runs_seq ?_;refine runs_region ?_;refine rl0 (gn rfl) rfl rfl (step_mv rfl rfl) trivial ?_;refine rl0 (gn rfl) rfl rfl (step_unOp (c := .bool false) rfl (ev_mk rfl) (fun _ => rfl)) trivial ?_;refine runsL_nil ?_;refine runs_cond false (ev_mk rfl) (fun h_ => nomatch h_) (fun _ => ?_);refine runs_skip ?_;refine runs_seq ?_;refine runs_seq ?_;refine runs_region ?_;refine rl0 (gn rfl) rfl rfl (step_mv rfl rfl) trivial ?_;refine rl1 (gn rfl) rfl rfl (step_callc rfl Try.func55 rfl rfl rfl (num_e (n + 2) (e6 (sealG b, false)) (e7 (sealG b, false)) s6 1 (by omega) rfl (eK (sealG b, false)) rfl) t_10) ⟨t_0, trivial⟩ (by omega) ?_;refine rl0 (gn rfl) rfl rfl (step_conv_id rfl rfl Try.underlying33 Try.underlying3 (w64 (by exact ⟨Int.le_trans (by decide) vK.1, Int.le_of_lt (Int.lt_trans vK.2 (by decide))⟩))) trivial ?_;refine rl0 (gn rfl) rfl rfl (step_mv rfl rfl) trivial ?_;refine runsL_nil ?_;refine runs_block ?_;refine runs_growb (k := n + 0) (kn := n + 3) (q := 11) (e := 225) t_0 rfl t_0 (by omega) (by omega) ?_;refine runs_growb (k := n + 0) (kn := n + 4) (q := 12) (e := 1) t_0 rfl t_0 (by omega) (by omega) ?_;refine runs_loop (fun (ri_ : Nat) (st_ : Go.Vm.S) => ∃ (j : Nat) (m0 : Nat) (b0 : Nat → Box), (st_ = ⟨mk [(2, .ref (n + 0) 0), (3, .ref (n + 1) 0), (5, .ref (n + 2) 0), (46, .sc (.int .i64 (eK (sealG b, false)))), (47, .sc (.int .i64 j))], m0, b0⟩) ∧ (ri_ = (eK (sealG b, false)).toNat - j) ∧ (n + 5 ≤ m0) ∧ (∀ k_, k_ < n → b0 k_ = X0.bx k_) ∧ (b0 (n + 0) = .cells [.sc (.int .u64 (rN (e1 (sealG b, false)) 8)), .sc (.int .i64 (rN (sealG b, false) 1)), .sc (.int .u64 (rN (e2 (sealG b, false)) 8)), .sc (.int .u64 (rN (e3 (sealG b, false)) 8)), .sc (.int .u64 (rN (e4 (sealG b, false)) 8)), .sc (.int .u64 (rrV (e5 (sealG b, false))).id), .sc (.int .u64 (rrV (e5 (sealG b, false))).key), .sc (.int .u32 (rrV (e5 (sealG b, false))).x), .sc (.int .u32 (rrV (e5 (sealG b, false))).y), .sc (.string (rrV (e5 (sealG b, false))).val), .sc (.bool (rrV (e5 (sealG b, false))).gh), .own 225 ((pL (sealG b, false) j).map imR) (n + 3), .own 1 [] (n + 4)]) ∧ (b0 (n + 1) = .cells [.sc (.int .i64 0)]) ∧ (b0 (n + 2) = .cells [.sl 1 (bytesV (pS (sealG b, false) j).1), .sc (.bool (pS (sealG b, false) j).2)]) ∧ (b0 (n + 3) = .tail ((pL (sealG b, false) j).map imR).length) ∧ (b0 (n + 4) = .tail 0) ∧ ((j : Int) ≤ eK (sealG b, false))) ((eK (sealG b, false)).toNat - 0) ⟨_, sle ?_ (Nat.le_refl _), 0, _, _, rfl, rfl, ?_⟩ ?_
  · exact t_129
  · exact ⟨by omega, (fun k_ hk_ => t_14), t_160, t_160, t_160, t_160, t_160, by omega⟩
  · rintro _ _ ⟨j, m0, b0, rfl, rfl, hm0, hf0, hB0_0, hB0_1, hB0_2, hB0_3, hB0_4, hF0_0⟩
    refine runs_know (fun hd0 => ?_);refine runs_bump 20 ?_;simp only at hd0;refine runs_seq ?_;refine runs_region ?_;refine rl_lss (gn rfl) rfl rfl rfl rfl rfl (fun h1 => ?_) (fun h1 => ?_)
    · skip
      refine runsL_nil ?_;refine runs_seq ?_;refine runs_cond true (ev_mk rfl) (fun _ => ?_) (fun h_ => nomatch h_);refine runs_skip ?_;refine runs_seq ?_;refine runs_block ?_;refine runs_seq ?_;refine runs_region ?_;refine rl0 (gn rfl) rfl rfl (step_mv rfl rfl) trivial ?_;refine rl1 (gn rfl) rfl rfl (step_callc rfl Try.func57 rfl rfl rfl (page_e (n + 2) (pS (sealG b, false) j) (pS (sealG b, false) (j + 1)) (sp j) rfl) t_10) ⟨t_4, trivial⟩ (by omega) ?_;refine rl0 (gn rfl) rfl rfl (step_mv rfl rfl) trivial ?_;refine rl0 (gn rfl) rfl rfl (step_extract rfl (ev_mk rfl) rfl) trivial ?_;refine rl0 (gn rfl) rfl rfl (step_extract rfl (ev_mk rfl) rfl) trivial ?_;refine rl1 (gn rfl) rfl rfl (step_allocc (k := m0 + 0) (zs := ((.int .i64 0) :: List.replicate 224 (.int .u8 0))) (cs := V.sc (.int .i64 0) :: List.replicate 224 (V.sc (.int .u8 0))) rfl F.zero86 t_33 t_55 t_33) ⟨t_4, trivial⟩ (by omega) ?_;refine' rls (gn rfl) rfl (step_storeA rfl rfl rfl rfl F.agg86 ?hm ?hl) ⟨?hb, trivial⟩ ?hk ?_
      case hb => exact t_4
      case hm => exact t_66
      case hl => exact t_66
      case hk => omega
      refine rl0 (gn rfl) rfl rfl (step_as rfl rfl) trivial ?_;refine runsL_nil ?_;refine runs_seq ?_;refine runs_seq ?_;refine runs_region ?_;refine rl0 (gn rfl) rfl rfl (step_mv rfl rfl) trivial ?_;refine rl0 (gn rfl) rfl rfl (step_unOp rfl (ev_mk rfl) (fun _ => rfl)) trivial ?_;refine rl_know (d := 55) (c := false) rfl (by rw [hG.p j (by omega)]; rfl) ?_;refine runsL_nil ?_;refine runs_cond false (ev_mk rfl) (fun h_ => nomatch h_) (fun _ => ?_);refine runs_skip ?_;refine runs_region ?_;refine rl0 (gn rfl) rfl rfl (step_fieldAddr (off := 11) rfl (ev_mk rfl) Try.underlying40 rfl F.sz37 rfl) trivial ?_;refine' rl0 (gn rfl) rfl rfl (step_load_one rfl (ev_mk rfl) F.one37 ?hv) ⟨?hb, trivial⟩ ?_
      case hb => exact t_4
      case hv => rfl
      refine' rl0 (gn rfl) rfl rfl (step_load_all rfl rfl F.agg86 ?hl) ⟨?hb, trivial⟩ ?_
      case hb => exact t_4
      case hl => exact t_66
      refine rl0 (gn rfl) rfl rfl (step_lit rfl Try.underlying37 F.sz86 F.zero86 t_33 t_139 (by decide) rfl rfl (by first | (simp [V.cs, V.stor, oneV]; done) | (simp [V.cs, V.stor, oneV, imR, pgI_len, bV])) rfl) trivial ?_;refine' rl1 (gn rfl) rfl rfl (step_append_own rfl rfl rfl Try.underlying37 ⟨_, Try.underlying37, fun k_ => t_49⟩ F.el86 (ev_mk rfl) (ev_mk rfl) (gives_sl (.inr (.inl rfl))) ?hg) ⟨?hb, trivial⟩ (by omega) ?_
      case hb => exact t_4
      case hg => first | (simp [pL_len, aL_len]; done) | (simp [pL_len, aL_len]; omega)
      refine rl0 (gn rfl) rfl rfl (step_fieldAddr (off := 11) rfl (ev_mk rfl) Try.underlying40 rfl F.sz37 rfl) trivial ?_;refine' rls (gn rfl) rfl (step_store1 rfl rfl rfl rfl F.one37 rfl rfl ?hl ?hc) ⟨?hb, trivial⟩ ?hk ?_
      case hb => exact t_4
      case hl => exact t_48
      case hc => exact t_28
      case hk => omega
      refine runsL_nil ?_;refine runs_region ?_;refine rl0 (gn rfl) rfl rfl (step_add rfl (ev_mk rfl) (ev_mk rfl) (w64 (by omega))) trivial ?_;refine rl0 (gn rfl) rfl rfl (step_mv rfl rfl) trivial ?_;refine runsL_nil ?_;have hq0_ : ((pL (sealG b, false) j).map imR) ++ [(V.sc (.int .i64 (pgI (pS (sealG b, false) j)).n) :: (pgI (pS (sealG b, false) j)).p.map bV)] = ((pL (sealG b, false) (j + 1)).map imR) := by (simp [pL] <;> rfl)
      refine ⟨_, _, ?_, sle ?_ (Nat.le_refl _), (j + 1), _, _, rfl, rfl, by omega, (fun k_ hk_ => t_24), t_138, t_138, t_138, t_138, t_138, by omega⟩
      · omega
      · exact t_3
    · skip
      obtain rfl : j = (eK (sealG b, false)).toNat := by omega
      refine runsL_nil ?_;refine runs_seq ?_;refine runs_cond false (ev_mk rfl) (fun h_ => nomatch h_) (fun _ => ?_);refine runs_exit ?_;refine runs_seq ?_;refine runs_seq ?_;refine runs_region ?_;refine rl0 (gn rfl) rfl rfl (step_mv rfl rfl) trivial ?_;refine rl1 (gn rfl) rfl rfl (step_callc rfl Try.func55 rfl rfl rfl (num_e (n + 2) (e8 (sealG b, false)) (aS (sealG b, false) 0) (sp _) 1 (by omega) rfl (eM (sealG b, false)) rfl) t_10) ⟨t_4, trivial⟩ (by omega) ?_;refine rl0 (gn rfl) rfl rfl (step_conv_id rfl rfl Try.underlying33 Try.underlying3 (w64 (by exact ⟨Int.le_trans (by decide) vM.1, Int.le_of_lt (Int.lt_trans vM.2 (by decide))⟩))) trivial ?_;refine rl0 (gn rfl) rfl rfl (step_mv rfl rfl) trivial ?_;refine runsL_nil ?_;refine runs_block ?_;refine runs_loop (fun (ri_ : Nat) (st_ : Go.Vm.S) => ∃ (w : Nat) (m1 : Nat) (b1 : Nat → Box), (st_ = ⟨mk [(2, .ref (n + 0) 0), (3, .ref (n + 1) 0), (5, .ref (n + 2) 0), (66, .sc (.int .i64 (eM (sealG b, false)))), (67, .sc (.int .i64 w))], m1, b1⟩) ∧ (ri_ = (eM (sealG b, false)).toNat - w) ∧ (m0 + 0 ≤ m1) ∧ (∀ k_, k_ < n → b1 k_ = X0.bx k_) ∧ (b1 (n + 0) = .cells [.sc (.int .u64 (rN (e1 (sealG b, false)) 8)), .sc (.int .i64 (rN (sealG b, false) 1)), .sc (.int .u64 (rN (e2 (sealG b, false)) 8)), .sc (.int .u64 (rN (e3 (sealG b, false)) 8)), .sc (.int .u64 (rN (e4 (sealG b, false)) 8)), .sc (.int .u64 (rrV (e5 (sealG b, false))).id), .sc (.int .u64 (rrV (e5 (sealG b, false))).key), .sc (.int .u32 (rrV (e5 (sealG b, false))).x), .sc (.int .u32 (rrV (e5 (sealG b, false))).y), .sc (.string (rrV (e5 (sealG b, false))).val), .sc (.bool (rrV (e5 (sealG b, false))).gh), .own 225 ((pL (sealG b, false) (eK (sealG b, false)).toNat).map imR) (n + 3), .own 1 ((aL (sealG b, false) w).map acR) (n + 4)]) ∧ (b1 (n + 1) = .cells [.sc (.int .i64 0)]) ∧ (b1 (n + 2) = .cells [.sl 1 (bytesV (aS (sealG b, false) w).1), .sc (.bool (aS (sealG b, false) w).2)]) ∧ (b1 (n + 3) = .tail ((pL (sealG b, false) (eK (sealG b, false)).toNat).map imR).length) ∧ (b1 (n + 4) = .tail ((aL (sealG b, false) w).map acR).length) ∧ ((w : Int) ≤ eM (sealG b, false))) ((eM (sealG b, false)).toNat - 0) ⟨_, sle ?_ (Nat.le_refl _), 0, _, _, rfl, rfl, ?_⟩ ?_
      · exact t_129
      · exact ⟨by omega, (fun k_ hk_ => t_18), t_160, t_160, t_160, t_160, t_160, by omega⟩
      · rintro _ _ ⟨w, m1, b1, rfl, rfl, hm1, hf1, hB1_0, hB1_1, hB1_2, hB1_3, hB1_4, hF1_0⟩
        refine runs_know (fun hd1 => ?_);refine runs_bump 20 ?_;simp only at hd1;refine runs_seq ?_;refine runs_region ?_;refine rl_lss (gn rfl) rfl rfl rfl rfl rfl (fun h2 => ?_) (fun h2 => ?_)
        · skip
          refine runsL_nil ?_;refine runs_seq ?_;refine runs_cond true (ev_mk rfl) (fun _ => ?_) (fun h_ => nomatch h_);refine runs_skip ?_;refine runs_seq ?_;refine runs_block ?_;refine runs_draw (by kernel_rfl) (by kernel_rfl) (by kernel_rfl) ?_;refine dl0 (gn rfl) rfl rfl (step_fieldAddr (off := 12) rfl (ev_mk rfl) Try.underlying40 rfl F.sz38 rfl) trivial ?_;refine' dl0 (gn rfl) rfl rfl (step_load_one rfl (ev_mk rfl) F.one38 ?hv) ⟨?hb, trivial⟩ ?_
          case hb => exact t_9
          case hv => rfl
          refine dl0 (gn rfl) rfl rfl (step_mv rfl rfl) trivial ?_;refine dl1 (gn rfl) rfl rfl (step_callc rfl Try.func55 rfl rfl rfl (num_e (n + 2) (aS (sealG b, false) w) (aS (sealG b, false) (w + 1)) (sa w) 8 (by omega) rfl (rN (aS (sealG b, false) w) 8) rfl) t_10) ⟨t_9, trivial⟩ (by omega) ?_;refine dl0 (gn rfl) rfl rfl (step_lit rfl Try.underlying38 F.sz33 F.zero33 t_33 t_139 (by decide) rfl rfl (by first | (simp [V.cs, V.stor, oneV]; done) | (simp [V.cs, V.stor, oneV, imR, pgI_len, bV])) rfl) trivial ?_;refine' dl1 (gn rfl) rfl rfl (step_append_own rfl rfl rfl Try.underlying38 ⟨_, Try.underlying38, fun k_ => t_49⟩ F.el33 (ev_mk rfl) (ev_mk rfl) (gives_sl (.inr (.inl rfl))) ?hg) ⟨?hb, trivial⟩ (by omega) ?_
          case hb => exact t_9
          case hg => first | (simp [pL_len, aL_len]; done) | (simp [pL_len, aL_len]; omega)
          refine dl0 (gn rfl) rfl rfl (step_fieldAddr (off := 12) rfl (ev_mk rfl) Try.underlying40 rfl F.sz38 rfl) trivial ?_;refine' dls (gn rfl) rfl (step_store1 rfl rfl rfl rfl F.one38 rfl rfl ?hl ?hc) ⟨?hb, trivial⟩ ?hk ?_
          case hb => exact t_9
          case hl => exact t_48
          case hc => exact t_28
          case hk => omega
          refine dlnil ?_ ?_
          · exact t_12
          refine runs_region ?_;refine rl0 (gn rfl) rfl rfl (step_add rfl (ev_mk rfl) (ev_mk rfl) (w64 (by omega))) trivial ?_;refine rl0 (gn rfl) rfl rfl (step_mv rfl rfl) trivial ?_;refine runsL_nil ?_;have hq0_ : ((aL (sealG b, false) w).map acR) ++ [[V.sc (.int .u64 (rN (aS (sealG b, false) w) 8))]] = ((aL (sealG b, false) (w + 1)).map acR) := by (simp [aL] <;> rfl)
          refine ⟨_, _, ?_, sle ?_ (Nat.le_refl _), (w + 1), _, _, rfl, rfl, by omega, (fun k_ hk_ => t_36), t_138, t_138, t_138, t_138, t_138, by omega⟩
          · omega
          · exact t_3
        · skip
          obtain rfl : w = (eM (sealG b, false)).toNat := by omega
          refine runsL_nil ?_;refine runs_seq ?_;refine runs_cond false (ev_mk rfl) (fun h_ => nomatch h_) (fun _ => ?_);refine runs_exit ?_;refine runs_seq ?_;refine runs_seq ?_;refine runs_region ?_;refine rl0 (gn rfl) rfl rfl (step_mv rfl rfl) trivial ?_;refine rl0 (gn rfl) rfl rfl (step_callc rfl Try.func58 rfl rfl rfl (right_c (n + 2) (e9 (sealG b, false)).1 (e9 (sealG b, false)).2) t_10) ⟨t_9, trivial⟩ ?_;refine rl0 (gn rfl) rfl rfl (step_unOp rfl (ev_mk rfl) (fun _ => rfl)) trivial ?_;refine rl_know (d := 79) (c := false) rfl (by rw [hG.e]; rfl) ?_;refine rl0 (gn rfl) rfl rfl (step_mv rfl rfl) trivial ?_;refine rl0 (gy rfl rfl rfl rfl rfl rfl) rfl rfl (step_mv rfl rfl) trivial ?_;refine rl0 (gy rfl rfl rfl rfl rfl rfl) rfl rfl (step_callc rfl Try.func59 rfl rfl rfl (left_c (n + 2) (e9 (sealG b, false)).1 (e9 (sealG b, false)).2) t_10) ⟨t_9, trivial⟩ ?_;refine rl_gtr (gy rfl rfl rfl rfl rfl rfl) rfl rfl rfl rfl rfl (fun h3 => ?_) (fun h3 => ?_)
          · exact False.elim (by (have h_ := hG.l; omega))
          refine rl0 (gn rfl) rfl rfl (step_pick rfl (ev_mk rfl) (ev_mk rfl)) trivial ?_;refine rl0 (gn rfl) rfl rfl (step_mv rfl rfl) trivial ?_;refine' rl0 (gy rfl rfl rfl rfl rfl rfl) rfl rfl (step_load_all rfl rfl F.agg40 ?hl) ⟨?hb, trivial⟩ ?_
          case hb => exact t_9
          case hl => exact t_66
          refine rl0 (gy rfl rfl rfl rfl rfl rfl) rfl rfl (step_callc rfl Try.func60 rfl rfl rfl (check_c (gEn (sealG b, false)) (by rw [show (gEn (sealG b, false)).pages = pL (sealG b, false) (eK (sealG b, false)).toNat from rfl, show (gEn (sealG b, false)).act = aL (sealG b, false) (eM (sealG b, false)).toNat from rfl, pL_len, aL_len]; omega) (pL_pg _ _)) t_10) trivial ?_;refine rl_neq (gy rfl rfl rfl rfl rfl rfl) rfl rfl rfl rfl rfl (fun h4 => ?_) (fun h4 => ?_)
          · exact False.elim (by (have h_ := hG.c; omega))
          refine rl0 (gn rfl) rfl rfl (step_pick rfl (ev_mk rfl) (ev_mk rfl)) trivial ?_;refine runsL_nil ?_;refine runs_cond false (ev_mk rfl) (fun h_ => nomatch h_) (fun _ => ?_);refine runs_skip ?_;refine runs_seq ?_;refine runs_region ?_;refine' rl0 (gn rfl) rfl rfl (step_load_all rfl rfl F.agg40 ?hl) ⟨?hb, trivial⟩ ?_
          case hb => exact t_9
          case hl => exact t_66
          refine' rls (gn rfl) rfl (step_storeA rfl rfl rfl rfl F.agg40 ?hm ?hl) ⟨?hb, trivial⟩ ?hk ?_
          case hb => exact t_9
          case hm => exact t_66
          case hl => exact t_66
          case hk => omega
          refine' rls (gn rfl) rfl (step_store1 rfl rfl rfl rfl F.one41 rfl rfl ?hl ?hc) ⟨?hb, trivial⟩ ?hk ?_
          case hb => exact t_9
          case hl => exact t_48
          case hc => exact t_28
          case hk => omega
          refine runsL_nil ?_;refine runs_ret ?_;refine ⟨rfl, _, _, d28_0 (n + 1) (n + 0), (by intro p_ hp_; simp only [List.mem_cons, List.not_mem_nil, or_false] at hp_; (first | (cases hp_; done) | (rcases hp_ with rfl | rfl) | rcases hp_ with rfl) <;> (repeat (first | exact uE | refine uN (by omega) ?_ | assumption | exact hd _ (by omega) | exact hd0 _ (by omega) | exact hd1 _ (by omega) | fail))), (by intro p_ hp_; first | (cases hp_; done) | (simp only [List.mem_cons, List.not_mem_nil, or_false] at hp_; (first | (rcases hp_ with rfl | rfl) | rcases hp_ with rfl) <;> (simp only; omega))), ?_⟩;simp only [upds];refine fin_mkg (resc rfl t_9 F.agg40 t_66 (resc1 rfl t_9 F.one41 rfl res0)) ?_ ?_ ?_ ?_ ?_
          · exact t_2
          · exact t_152
          · exact t_34
          · exact t_45
          · exact t_152
end Go.Proofs.Ytdmkhpnjjpeeaaa
namespace Go.Proofs.Ytdmkhpnjjpeeaaa
open Go.Vm
set_option linter.unusedVariables false
set_option linter.unusedSimpArgs false
open Crc
theorem rS_yes {xs : List Int} {m : Nat} (h : m ≤ xs.length) : rS (xs, false) m = (xs.drop m, false) ∧ rdT xs false m = xs.take m := by
  have h1 : rdOK xs false m = true := by unfold rdOK; simp; omega
  refine ⟨?_, ?_⟩
  · unfold rS rdX rdE; simp only []; rw [if_pos h1, h1]; rfl
  · unfold rdT; rw [if_pos h1]; rfl
theorem num_r {v : Int} {m : Nat} (hm : m ≤ 8) (h0 : 0 ≤ v) (h1 : v < 256 ^ m) (r : List Int) : rN (beB m v ++ r, false) m = v ∧ rS (beB m v ++ r, false) m = (r, false) := by
  have hl : (beB m v).length = m := beB_len m v
  obtain ⟨h3, h4⟩ := rS_yes (xs := beB m v ++ r) (m := m) t_119
  refine ⟨?_, ?_⟩
  · unfold rN; simp only []
    rw [h4, List.take_left' hl, low8_id (by omega)]
    exact beN_beB m v h0 h1
  · rw [h3, List.drop_left' hl]
theorem be1 {v : Int} (h : 0 ≤ v ∧ v < 256) : beB 1 v = [v] := by rw [beB_cons]; simp only [beB, Int.pow_zero, Int.ediv_one]; rw [Int.emod_eq_of_lt h.1 h.2]
theorem one_r {v : Int} (h : 0 ≤ v ∧ v < 256) (r : List Int) : rN (v :: r, false) 1 = v ∧ rS (v :: r, false) 1 = (r, false) := by
  have := num_r (v := v) (m := 1) (by omega) h.1 h.2 r
  rw [be1 h] at this; exact this
theorem eight_r {v : Int} (h : U64 v) (r : List Int) : rN (beB 8 v ++ r, false) 8 = v ∧ rS (beB 8 v ++ r, false) 8 = (r, false) := num_r (m := 8) (by omega) h.1 h.2 r
theorem four_r {v : Int} (h : U32 v) (r : List Int) : rN (beB 4 v ++ r, false) 4 = v ∧ rS (beB 4 v ++ r, false) 4 = (r, false) := num_r (m := 4) (by omega) h.1 h.2 r
theorem txt_r {v : ByteArray} (hv : v.size < 16) (r : List Int) : txOK (fieldB v 16 ++ r) false 16 = true ∧ txS (fieldB v 16 ++ r) false 16 = v ∧ rdX (fieldB v 16 ++ r) false 16 = r := by
  have hl : (fieldB v 16).length = 16 := fieldB_len hv
  obtain ⟨h3, h4⟩ := rS_yes (xs := fieldB v 16 ++ r) (m := 16) t_119
  have h4' : rdT (fieldB v 16 ++ r) false 16 = fieldB v 16 := by rw [show (16 : Int) = ((16 : Nat) : Int) from rfl, h4, List.take_left' hl]
  have e0 : at' (fieldB v 16) 0 = v.size := rfl
  have e1 : txN (fieldB v 16) = v.size + 1 := by unfold txN; rw [e0]; omega
  have hR : rdOK (fieldB v 16 ++ r) false 16 = true := by unfold rdOK; simp only [Bool.not_false, Bool.true_and, decide_eq_true_eq, List.length_append]; omega
  have hd : (fieldB v 16).drop (v.size + 1) = List.replicate (16 - 1 - v.size) 0 := by
    unfold fieldB
    rw [List.append_assoc, List.singleton_append, List.drop_succ_cons]
    exact List.drop_left' (sB_len v)
  have ht : ((fieldB v 16).take (v.size + 1)).drop 1 = sB v := by
    unfold fieldB
    rw [List.append_assoc, List.singleton_append, List.take_succ_cons, List.drop_succ_cons, List.drop_zero]
    exact List.take_left' (sB_len v)
  have hOK : txOK (fieldB v 16 ++ r) false 16 = true := by
    unfold txOK
    rw [hR, h4', e1, hd, e0, hl]
    simp; omega
  refine ⟨hOK, ?_, ?_⟩
  · unfold txS; rw [if_pos hOK, h4', e1, ht]; exact bS_sB v
  · have := congrArg Prod.fst h3; rw [List.drop_left' hl] at this; exact this
attribute [local irreducible] Go.Vm.beB Go.Vm.fieldB
theorem rec_r {r : Rc} (hr : okRc r) (hv : r.val.size < 16) (t : List Int) : rrOK (recF r ++ t, false) = true ∧ rrV (recF r ++ t, false) = r ∧ q6 (recF r ++ t, false) = (t, false) := by
  obtain ⟨id, key, x, y, val, gh⟩ := r
  obtain ⟨u1, u2, u3, u4⟩ := hr
  have e0 : recF ⟨id, key, x, y, val, gh⟩ ++ t = beB 8 id ++ (beB 8 key ++ (beB 4 x ++ (beB 4 y ++ ((if gh = true then (1 : Int) else 0) :: (fieldB val 16 ++ t))))) := by
    unfold recF recB; simp only [List.append_assoc, List.singleton_append, List.cons_append, List.nil_append]
  rw [e0]
  obtain ⟨n1, s1⟩ := eight_r u1 (beB 8 key ++ (beB 4 x ++ (beB 4 y ++ ((if gh = true then (1 : Int) else 0) :: (fieldB val 16 ++ t)))))
  obtain ⟨n2, s2⟩ := eight_r u2 (beB 4 x ++ (beB 4 y ++ ((if gh = true then (1 : Int) else 0) :: (fieldB val 16 ++ t))))
  obtain ⟨n3, s3⟩ := four_r u3 (beB 4 y ++ ((if gh = true then (1 : Int) else 0) :: (fieldB val 16 ++ t)))
  obtain ⟨n4, s4⟩ := four_r u4 ((if gh = true then (1 : Int) else 0) :: (fieldB val 16 ++ t))
  obtain ⟨n5, s5⟩ := one_r (v := if gh = true then (1 : Int) else 0) (by cases gh <;> simp) (fieldB val 16 ++ t)
  obtain ⟨x1, x2, x3⟩ := txt_r hv t
  have hq1 := s1
  change Go.Proofs.Ytdmkhpnjjpeeaaa.q1 _ = _ at hq1
  have hq2 := s2
  rw [← hq1] at hq2
  change Go.Proofs.Ytdmkhpnjjpeeaaa.q2 _ = _ at hq2
  have hq3 := s3
  rw [← hq2] at hq3
  change Go.Proofs.Ytdmkhpnjjpeeaaa.q3 _ = _ at hq3
  have hq4 := s4
  rw [← hq3] at hq4
  change Go.Proofs.Ytdmkhpnjjpeeaaa.q4 _ = _ at hq4
  have hq5 := s5
  rw [← hq4] at hq5
  change Go.Proofs.Ytdmkhpnjjpeeaaa.q5 _ = _ at hq5
  refine ⟨?_, ?_, ?_⟩
  · unfold rrOK; rw [hq4, hq5, n5, x1]; cases gh <;> rfl
  · unfold rrV
    rw [hq1, hq2, hq3, hq4, hq5, n1, n2, n3, n4, n5, x2]
    have hg : ((if gh = true then (1 : Int) else 0) == 1) = gh := by cases gh <;> rfl
    rw [hg]
  · unfold q6; rw [hq5, x1, x3]; rfl
end Go.Proofs.Ytdmkhpnjjpeeaaa
