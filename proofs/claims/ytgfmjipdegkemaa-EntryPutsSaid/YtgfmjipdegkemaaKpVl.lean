/- Walks by the logic of values. -/
import Derived.Test.YtgfmjipdegkemaaKpVa
import Derived.Test.YtgfmjipdegkemaaKpVc
import Derived.Test.YtgfmjipdegkemaaKpVd
import Derived.Test.YtgfmjipdegkemaaKpWa
import Derived.Test.YtgfmjipdegkemaaKpWb
import Derived.Test.YtgfmjipdegkemaaKpWc
import Derived.Test.YtgfmjipdegkemaaKpWd
import Derived.Test.YtgfmjipdegkemaaKpWe
import Derived.Test.YtgfmjipdegkemaaKpVmT
import Derived.Test.YtgfmjipdegkemaaKpVmP
namespace Go.Proofs.Ytgfmjipdegkemaa
open Go.Vm
set_option linter.unusedVariables false
set_option linter.unusedSimpArgs false
def g1 (s : List Int × Bool) := rS s 1
def g2 (s : List Int × Bool) := rS (g1 s) 1
def gK (s : List Int × Bool) : Int := rN (g1 s) 1
def g3 (s : List Int × Bool) := rS (g2 s) (gK s)
def gB (s : List Int × Bool) : List Int := rdT (g2 s).1 (g2 s).2 (gK s)
def gP (s : List Int × Bool) : List Int := gB s ++ List.replicate (224 - (gB s).length) 0
def gE (s : List Int × Bool) : Prop := (gB s).length > 224 ∨ ((gB s).length > 0 ∧ at' (gB s) (((gB s).length : Int) - 1) = 0)
instance (s : List Int × Bool) : Decidable (gE s) := by unfold gE; infer_instance
def pgI (s : List Int × Bool) : Im := ⟨rN s 1, if gE s then List.replicate 224 0 else gP s⟩
def pgOK (s : List Int × Bool) : Bool := !decide (gE s) && !(g3 s).2
theorem pg_E {s : List Int × Bool} (h : gE s) : pgI s = ⟨rN s 1, List.replicate 224 0⟩ ∧ pgOK s = false := by unfold pgI pgOK; rw [if_pos h, decide_eq_true h]; exact ⟨rfl, rfl⟩
theorem pg_N {s : List Int × Bool} (h : ¬ gE s) : pgI s = ⟨rN s 1, gP s⟩ ∧ pgOK s = !(g3 s).2 := by unfold pgI pgOK; rw [if_neg h, decide_eq_false h]; exact ⟨rfl, by simp⟩
theorem gP_set {b : List Int} (h : b.length ≤ 224) (n : Int) : setSeg (V.sc (.int .i64 n) :: List.replicate 224 (V.sc (.int .u8 0))) 1 ((bytesV b).take b.length).flatten = imR ⟨n, b ++ List.replicate (224 - b.length) 0⟩ := by
  rw [List.take_of_length_le (by rw [bytesV_len]; omega), bytesV_flat]; unfold setSeg imR
  generalize 224 = m at h ⊢
  rw [List.length_map, List.map_append, List.map_replicate]
  simp [bV, Nat.add_comm 1]
theorem imR_z (n : Int) : V.sc (.int .i64 n) :: List.replicate 224 (V.sc (.int .u8 0)) = imR ⟨n, List.replicate 224 0⟩ := by unfold imR; rw [List.map_replicate]; rfl
theorem take_g (k : Nat) (s : List Int × Bool) (hk : 0 ≤ gK s ∧ gK s < 256) : Does Try.prog 40 [.ref k 0, .sc (.int .i64 (gK s))] [(k, .cells (rdB (g2 s).1 (g2 s).2))] [(k, .cells (rdB (g3 s).1 (g3 s).2))] (.sl 1 (bytesV (gB s))) := take_c k (g2 s).1 (g2 s).2 (gK s) (by constructor <;> omega)
theorem num_g1 (k : Nat) (s : List Int × Bool) (hs : okS s) : Does Try.prog 29 [.ref k 0, .sc (.int .i64 1)] [(k, .cells (rdB s.1 s.2))] [(k, .cells (rdB (rS s 1).1 (rS s 1).2))] (.sc (.int .u64 (rN s 1))) := num_c k s.1 s.2 1 (by constructor <;> omega) hs.1 hs.2
theorem num_g8 (k : Nat) (s : List Int × Bool) (hs : okS s) : Does Try.prog 29 [.ref k 0, .sc (.int .i64 8)] [(k, .cells (rdB s.1 s.2))] [(k, .cells (rdB (rS s 8).1 (rS s 8).2))] (.sc (.int .u64 (rN s 8))) := num_c k s.1 s.2 8 (by constructor <;> omega) hs.1 hs.2
theorem num_gK (k : Nat) (s : List Int × Bool) (hs : okS (g1 s)) : Does Try.prog 29 [.ref k 0, .sc (.int .i64 1)] [(k, .cells (rdB (g1 s).1 (g1 s).2))] [(k, .cells (rdB (g2 s).1 (g2 s).2))] (.sc (.int .u64 (gK s))) := num_g1 k (g1 s) hs
set_option maxRecDepth 100000 in
set_option maxHeartbeats 4000000 in
theorem page_c (k : Nat) (xs : List Int) (bad : Bool) (hb : Byts xs) (hl : xs.length ≤ 1000000000) : Does Try.prog 30 [.ref k 0] [(k, .cells (rdB xs bad))] [(k, .cells (rdB (g3 (xs, bad)).1 (g3 (xs, bad)).2))] (.tup [.agg (imR (pgI (xs, bad))), .sc (.bool (pgOK (xs, bad)))]) := by
  refine does_mkg 40 Try.func30 rfl rfl rfl (fun n B bx hd hpre hup hvs hbx hgx => ?_)
  have hp0 := hpre.1
  have hk0 := lt_cells hd hp0
  have hu0 := hup.1
  have o0 : okS (xs, bad) := ⟨hb, hl⟩
  have o1 : okS (g1 (xs, bad)) := okS_rS o0 1
  have o2 : okS (g2 (xs, bad)) := okS_rS o1 1
  have v0 := rN_lt1 o0
  have v1 := rN_lt1 o1
  have vK : 0 ≤ gK (xs, bad) ∧ gK (xs, bad) < 256 := v1
  refine runs_seq ?_
  refine runs_region ?_
  refine rl1 (gn rfl) rfl rfl (step_allocc (k := n + 0) (zs := ((.int .i64 0) :: List.replicate 224 (.int .u8 0))) (cs := V.sc (.int .i64 0) :: List.replicate 224 (V.sc (.int .u8 0))) rfl F.zero51 (by first | rfl | simp) (by first | rfl | decide | simp) (by first | rfl | simp)) ⟨by repeat (first | exact uE | refine uN (by omega) ?_ | assumption | exact hd _ (by omega) | fail), trivial⟩ (by omega) ?_
  refine rl0 (gn rfl) rfl rfl (step_as rfl rfl) trivial ?_
  refine runsL_nil ?_
  refine runs_seq ?_
  refine runs_region ?_
  refine rl0 (gn rfl) rfl rfl (step_mv rfl rfl) trivial ?_
  refine rl1 (gn rfl) rfl rfl (step_callc rfl Try.func29 rfl rfl rfl (num_g1 k (xs, bad) o0) (by repeat (first | exact .nil | refine .cons ?_ ?_ | exact VLe.refl _ | exact VLe.own_sl _ _ _ | exact VLe.fl_sl _ _ | exact VLe.nil_sl _ | exact VLe.nil_fl _ | refine VLe.agg ?_))) ⟨by repeat (first | exact uE | refine uN (by omega) ?_ | assumption | exact hd _ (by omega) | fail), trivial⟩ (by omega) ?_
  refine rl0 (gn rfl) rfl rfl (step_conv_id rfl rfl Try.underlying22 Try.underlying3 (w64 (by exact ⟨Int.le_trans (by decide) v0.1, Int.le_of_lt (Int.lt_trans v0.2 (by decide))⟩))) trivial ?_
  refine rl0 (gn rfl) rfl rfl (step_build (ss := [1, 224]) (zs := ((.int .i64 0) :: List.replicate 224 (.int .u8 0))) (cs := (V.sc (.int .i64 (rN (xs, bad) 1)) :: List.replicate 224 (V.sc (.int .u8 0)))) rfl Try.underlying51 (by kernel_rfl) F.zero51 rfl rfl rfl) trivial ?_
  refine rl1 (gn rfl) rfl rfl (step_allocc (k := n + 1) (zs := ((.int .i64 0) :: List.replicate 224 (.int .u8 0))) (cs := V.sc (.int .i64 0) :: List.replicate 224 (V.sc (.int .u8 0))) rfl F.zero51 (by first | rfl | simp) (by first | rfl | decide | simp) (by first | rfl | simp)) ⟨by repeat (first | exact uE | refine uN (by omega) ?_ | assumption | exact hd _ (by omega) | fail), trivial⟩ (by omega) ?_
  refine' rls (gn rfl) rfl (step_storeA rfl rfl rfl rfl F.agg51 ?hm ?hl) ⟨?hb, trivial⟩ ?hk ?_
  case hb => repeat (first | exact uE | refine uN (by omega) ?_ | assumption | exact hd _ (by omega) | fail)
  case hm => first | rfl | (simp; done) | (first | (simp; done) | (simp [imR, gP]; omega) | (simp [imR, gP]; done))
  case hl => first | rfl | (simp; done) | (first | (simp; done) | (simp [imR, gP]; omega) | (simp [imR, gP]; done))
  case hk => omega
  refine runsL_nil ?_
  refine runs_seq ?_
  refine runs_region ?_
  refine rl0 (gn rfl) rfl rfl (step_mv rfl rfl) trivial ?_
  refine rl0 (gn rfl) rfl rfl (step_mv rfl rfl) trivial ?_
  refine rl1 (gn rfl) rfl rfl (step_callc rfl Try.func29 rfl rfl rfl (num_gK k (xs, bad) o1) (by repeat (first | exact .nil | refine .cons ?_ ?_ | exact VLe.refl _ | exact VLe.own_sl _ _ _ | exact VLe.fl_sl _ _ | exact VLe.nil_sl _ | exact VLe.nil_fl _ | refine VLe.agg ?_))) ⟨by repeat (first | exact uE | refine uN (by omega) ?_ | assumption | exact hd _ (by omega) | fail), trivial⟩ (by omega) ?_
  refine rl0 (gn rfl) rfl rfl (step_conv_id rfl rfl Try.underlying22 Try.underlying3 (w64 (by exact ⟨Int.le_trans (by decide) vK.1, Int.le_of_lt (Int.lt_trans vK.2 (by decide))⟩))) trivial ?_
  refine rl1 (gn rfl) rfl rfl (step_callc rfl Try.func40 rfl rfl rfl (take_g k (xs, bad) vK) (by repeat (first | exact .nil | refine .cons ?_ ?_ | exact VLe.refl _ | exact VLe.own_sl _ _ _ | exact VLe.fl_sl _ _ | exact VLe.nil_sl _ | exact VLe.nil_fl _ | refine VLe.agg ?_))) ⟨by repeat (first | exact uE | refine uN (by omega) ?_ | assumption | exact hd _ (by omega) | fail), trivial⟩ (by omega) ?_
  refine rl0 (gn rfl) rfl rfl (step_as rfl rfl) trivial ?_
  refine runsL_nil ?_
  refine runs_seq ?_
  refine runs_seq ?_
  refine runs_region ?_
  refine rl0 (gn rfl) rfl rfl (step_mv rfl rfl) trivial ?_
  refine rl0 (gn rfl) rfl rfl (step_len (m := (gB (xs, bad)).length) rfl rfl (ev_mk rfl) (.inl ⟨⟨_, Try.underlying32⟩, .inl ⟨_, _, .inl rfl, List.length_map _⟩⟩)) trivial ?_
  refine rl_gtr (gn rfl) rfl rfl rfl rfl rfl (fun h1 => ?_) (fun h1 => ?_)
  · skip
    refine rl0 (gn rfl) rfl rfl (step_mv rfl rfl) trivial ?_
    refine rlk rfl rfl rfl rfl rfl (ngb rfl rfl) rfl rfl ?_
    refine rlk rfl rfl rfl rfl rfl (ngb rfl rfl) rfl rfl ?_
    refine rlk rfl rfl rfl rfl rfl (ngb rfl rfl) rfl rfl ?_
    refine rlk rfl rfl rfl rfl rfl (ngb rfl rfl) rfl rfl ?_
    refine rlk rfl rfl rfl rfl rfl (ngu rfl) rfl rfl ?_
    refine rlk rfl rfl rfl rfl rfl (ngu rfl) rfl rfl ?_
    refine rlk rfl rfl rfl rfl rfl (ngu rfl) rfl rfl ?_
    refine rlk rfl rfl rfl rfl rfl (ngu rfl) rfl rfl ?_
    refine rlk rfl rfl rfl rfl rfl (ngu rfl) rfl rfl ?_
    refine rlk rfl rfl rfl rfl rfl (ngu rfl) rfl rfl ?_
    refine rlk rfl rfl rfl rfl rfl (ngu rfl) rfl rfl ?_
    refine rlk rfl rfl rfl rfl rfl (ngb rfl rfl) rfl rfl ?_
    refine rl0 (gn rfl) rfl rfl (step_pick rfl (ev_mk rfl) (ev_mk rfl)) trivial ?_
    refine runsL_nil ?_
    refine runs_cond true (ev_mk rfl) (fun _ => ?_) (fun h_ => nomatch h_)
    refine runs_seq ?_
    refine runs_region ?_
    refine' rl0 (gn rfl) rfl rfl (step_load_all rfl rfl F.agg51 ?hl) ⟨?hb, trivial⟩ ?_
    case hb => repeat (first | exact uE | refine uN (by omega) ?_ | assumption | exact hd _ (by omega) | fail)
    case hl => first | rfl | (simp; done) | (first | (simp; done) | (simp [imR, gP]; omega) | (simp [imR, gP]; done))
    refine' rls (gn rfl) rfl (step_storeA rfl rfl rfl rfl F.agg51 ?hm ?hl) ⟨?hb, trivial⟩ ?hk ?_
    case hb => repeat (first | exact uE | refine uN (by omega) ?_ | assumption | exact hd _ (by omega) | fail)
    case hm => first | rfl | (simp; done) | (first | (simp; done) | (simp [imR, gP]; omega) | (simp [imR, gP]; done))
    case hl => first | rfl | (simp; done) | (first | (simp; done) | (simp [imR, gP]; omega) | (simp [imR, gP]; done))
    case hk => omega
    refine rl0 (gn rfl) rfl rfl (step_as rfl rfl) trivial ?_
    refine runsL_nil ?_
    refine runs_ret ?_
    first | (have hg_ := pg_E (s := (xs, bad)) (by unfold gE; omega)) | (have hg_ := pg_N (s := (xs, bad)) (by unfold gE; omega))
    rw [hg_.1, hg_.2]
    refine ⟨by first | exact .inr rfl | exact .inl rfl, fin_mkg (resc rfl (by repeat (first | exact uE | refine uN (by omega) ?_ | assumption | exact hd _ (by omega) | fail)) F.agg51 (by first | rfl | (simp; done) | (first | (simp; done) | (simp [imR, gP]; omega) | (simp [imR, gP]; done))) (rest rfl res0)) ?_ ?_ ?_ ?_ ?_⟩
    · (repeat' (first | exact VLe.refl _ | exact VLe.own_sl _ _ _ | exact VLe.fl_sl _ _ | exact VLe.nil_sl _ | exact VLe.nil_fl _ | exact VLes.refl _ | exact .nil | refine VLe.tup ?_ | refine VLe.agg ?_ | refine .cons ?_ ?_ | (rw [Int.natCast_add]; exact VLe.refl _) | exact vle_int (by omega) | exact vle_bool (by first | rfl | assumption | (simp_all; done)) | ((rw [← imR_z]; exact VLe.refl _)) | fail))
    · repeat (first | exact trivial | assumption | omega | (refine bdR_map (fun _ => ?_)) | (refine bdL_map (fun _ => ?_)) | refine ⟨?_, ?_⟩ | fail)
    · intro k_ hk_; simp only [upds]; by_cases e_ : k_ = k; (focus subst e_; refine bl_eq ?_; first | (refine' blec ?hb ?hl; (case hb => repeat (first | exact uE | assumption | refine uN (by omega) ?_ | fail)); (case hl => first | exact VLes.refl _ | ((repeat' (first | exact VLe.refl _ | exact VLe.own_sl _ _ _ | exact VLe.fl_sl _ _ | exact VLe.nil_sl _ | exact VLe.nil_fl _ | exact VLes.refl _ | exact .nil | refine VLe.tup ?_ | refine VLe.agg ?_ | refine .cons ?_ ?_ | (rw [Int.natCast_add]; exact VLe.refl _) | exact vle_int (by omega) | exact vle_bool (by first | rfl | assumption | (simp_all; done)) | ((rw [← imR_z]; exact VLe.refl _)) | fail)); done))) | (refine ble ?_; (repeat (first | exact uE | assumption | refine uN (by omega) ?_ | fail)); done) | exact ble (tl_eq (by repeat (first | exact uE | assumption | refine uN (by omega) ?_ | fail)) (by first | rfl | (simp [bytesV, beB_len]; done) | (simp [bytesV, beB_len]; omega) | omega))); refine bl_ne e_ ?_; exact ble (by repeat (first | exact rfl | refine uN (by omega) ?_ | assumption | fail))
    · intro p hp cs hcs; simp only [List.mem_cons, List.not_mem_nil, or_false] at hp; (first | (rcases hp with rfl)) <;> (first | (cases hcs; done) | (cases hcs; repeat (first | exact trivial | assumption | omega | (refine bdR_map (fun _ => ?_)) | (refine bdL_map (fun _ => ?_)) | refine ⟨?_, ?_⟩ | fail)))
    · repeat (first | exact trivial | assumption | omega | (refine bdR_map (fun _ => ?_)) | (refine bdL_map (fun _ => ?_)) | refine ⟨?_, ?_⟩ | fail)
  · skip
    refine rl0 (gn rfl) rfl rfl (step_mv rfl rfl) trivial ?_
    refine rl0 (gy rfl rfl rfl rfl rfl rfl) rfl rfl (step_mv rfl rfl) trivial ?_
    refine rl0 (gy rfl rfl rfl rfl rfl rfl) rfl rfl (step_len (m := (gB (xs, bad)).length) rfl rfl (ev_mk rfl) (.inl ⟨⟨_, Try.underlying32⟩, .inl ⟨_, _, .inl rfl, List.length_map _⟩⟩)) trivial ?_
    refine rl_gtr (gy rfl rfl rfl rfl rfl rfl) rfl rfl rfl rfl rfl (fun h2 => ?_) (fun h2 => ?_)
    · skip
      refine rl0 (gy rfl rfl rfl rfl rfl rfl) rfl rfl (step_mv rfl rfl) trivial ?_
      refine rl0 (gy rfl rfl rfl rfl rfl rfl) rfl rfl (step_mv rfl rfl) trivial ?_
      refine rl0 (gy rfl rfl rfl rfl rfl rfl) rfl rfl (step_mv rfl rfl) trivial ?_
      refine rl0 (gy rfl rfl rfl rfl rfl rfl) rfl rfl (step_len (m := (gB (xs, bad)).length) rfl rfl (ev_mk rfl) (.inl ⟨⟨_, Try.underlying32⟩, .inl ⟨_, _, .inl rfl, List.length_map _⟩⟩)) trivial ?_
      refine rl0 (gy rfl rfl rfl rfl rfl rfl) rfl rfl (step_sub rfl (ev_mk rfl) (ev_mk rfl) (w64 (by omega))) trivial ?_
      refine' rl0 (gy rfl rfl rfl rfl rfl rfl) rfl rfl (step_index rfl (ev_mk rfl) (.inl rfl) (ev_mk rfl) Try.underlying32 F.sz5 (by omega) ?hr) trivial ?_
      case hr => exact map_at _ _ _ (by omega) (by omega)
      refine rl0 (gy rfl rfl rfl rfl rfl rfl) rfl rfl (step_load_ro rfl (ev_mk rfl) F.one5 rfl) trivial ?_
      refine rl_eql (gy rfl rfl rfl rfl rfl rfl) rfl rfl rfl rfl rfl (fun h3 => ?_) (fun h3 => ?_)
      · skip
        replace h3 : at' (gB (xs, bad)) (((gB (xs, bad)).length : Int) - 1) = 0 := h3
        refine rl0 (gy rfl rfl rfl rfl rfl rfl) rfl rfl (step_pick rfl (ev_mk rfl) (ev_mk rfl)) trivial ?_
        refine rl0 (gn rfl) rfl rfl (step_pick rfl (ev_mk rfl) (ev_mk rfl)) trivial ?_
        refine runsL_nil ?_
        refine runs_cond true (ev_mk rfl) (fun _ => ?_) (fun h_ => nomatch h_)
        refine runs_seq ?_
        refine runs_region ?_
        refine' rl0 (gn rfl) rfl rfl (step_load_all rfl rfl F.agg51 ?hl) ⟨?hb, trivial⟩ ?_
        case hb => repeat (first | exact uE | refine uN (by omega) ?_ | assumption | exact hd _ (by omega) | fail)
        case hl => first | rfl | (simp; done) | (first | (simp; done) | (simp [imR, gP]; omega) | (simp [imR, gP]; done))
        refine' rls (gn rfl) rfl (step_storeA rfl rfl rfl rfl F.agg51 ?hm ?hl) ⟨?hb, trivial⟩ ?hk ?_
        case hb => repeat (first | exact uE | refine uN (by omega) ?_ | assumption | exact hd _ (by omega) | fail)
        case hm => first | rfl | (simp; done) | (first | (simp; done) | (simp [imR, gP]; omega) | (simp [imR, gP]; done))
        case hl => first | rfl | (simp; done) | (first | (simp; done) | (simp [imR, gP]; omega) | (simp [imR, gP]; done))
        case hk => omega
        refine rl0 (gn rfl) rfl rfl (step_as rfl rfl) trivial ?_
        refine runsL_nil ?_
        refine runs_ret ?_
        first | (have hg_ := pg_E (s := (xs, bad)) (by unfold gE; omega)) | (have hg_ := pg_N (s := (xs, bad)) (by unfold gE; omega))
        rw [hg_.1, hg_.2]
        refine ⟨by first | exact .inr rfl | exact .inl rfl, fin_mkg (resc rfl (by repeat (first | exact uE | refine uN (by omega) ?_ | assumption | exact hd _ (by omega) | fail)) F.agg51 (by first | rfl | (simp; done) | (first | (simp; done) | (simp [imR, gP]; omega) | (simp [imR, gP]; done))) (rest rfl res0)) ?_ ?_ ?_ ?_ ?_⟩
        · (repeat' (first | exact VLe.refl _ | exact VLe.own_sl _ _ _ | exact VLe.fl_sl _ _ | exact VLe.nil_sl _ | exact VLe.nil_fl _ | exact VLes.refl _ | exact .nil | refine VLe.tup ?_ | refine VLe.agg ?_ | refine .cons ?_ ?_ | (rw [Int.natCast_add]; exact VLe.refl _) | exact vle_int (by omega) | exact vle_bool (by first | rfl | assumption | (simp_all; done)) | ((rw [← imR_z]; exact VLe.refl _)) | fail))
        · repeat (first | exact trivial | assumption | omega | (refine bdR_map (fun _ => ?_)) | (refine bdL_map (fun _ => ?_)) | refine ⟨?_, ?_⟩ | fail)
        · intro k_ hk_; simp only [upds]; by_cases e_ : k_ = k; (focus subst e_; refine bl_eq ?_; first | (refine' blec ?hb ?hl; (case hb => repeat (first | exact uE | assumption | refine uN (by omega) ?_ | fail)); (case hl => first | exact VLes.refl _ | ((repeat' (first | exact VLe.refl _ | exact VLe.own_sl _ _ _ | exact VLe.fl_sl _ _ | exact VLe.nil_sl _ | exact VLe.nil_fl _ | exact VLes.refl _ | exact .nil | refine VLe.tup ?_ | refine VLe.agg ?_ | refine .cons ?_ ?_ | (rw [Int.natCast_add]; exact VLe.refl _) | exact vle_int (by omega) | exact vle_bool (by first | rfl | assumption | (simp_all; done)) | ((rw [← imR_z]; exact VLe.refl _)) | fail)); done))) | (refine ble ?_; (repeat (first | exact uE | assumption | refine uN (by omega) ?_ | fail)); done) | exact ble (tl_eq (by repeat (first | exact uE | assumption | refine uN (by omega) ?_ | fail)) (by first | rfl | (simp [bytesV, beB_len]; done) | (simp [bytesV, beB_len]; omega) | omega))); refine bl_ne e_ ?_; exact ble (by repeat (first | exact rfl | refine uN (by omega) ?_ | assumption | fail))
        · intro p hp cs hcs; simp only [List.mem_cons, List.not_mem_nil, or_false] at hp; (first | (rcases hp with rfl)) <;> (first | (cases hcs; done) | (cases hcs; repeat (first | exact trivial | assumption | omega | (refine bdR_map (fun _ => ?_)) | (refine bdL_map (fun _ => ?_)) | refine ⟨?_, ?_⟩ | fail)))
        · repeat (first | exact trivial | assumption | omega | (refine bdR_map (fun _ => ?_)) | (refine bdL_map (fun _ => ?_)) | refine ⟨?_, ?_⟩ | fail)
      · skip
        replace h3 : ¬ at' (gB (xs, bad)) (((gB (xs, bad)).length : Int) - 1) = 0 := h3
        refine rl0 (gy rfl rfl rfl rfl rfl rfl) rfl rfl (step_pick rfl (ev_mk rfl) (ev_mk rfl)) trivial ?_
        refine rl0 (gn rfl) rfl rfl (step_pick rfl (ev_mk rfl) (ev_mk rfl)) trivial ?_
        refine runsL_nil ?_
        refine runs_cond false (ev_mk rfl) (fun h_ => nomatch h_) (fun _ => ?_)
        refine runs_skip ?_
        refine runs_seq ?_
        refine runs_region ?_
        refine rl0 (gn rfl) rfl rfl (step_fieldAddr (off := 1) rfl (ev_mk rfl) Try.underlying51 rfl F.sz49 rfl) trivial ?_
        refine rl0 (gn rfl) rfl rfl (step_sl_arr (a := 0) (h := 224) (m := 224) (q' := 1) (n' := 224) (c' := 224) rfl (ev_mk rfl) Try.underlying49 F.sz5 bndLo_none bndHi_none bndHi_none (fun h_ => by first | rfl | nomatch h_) (by omega) (by omega) (by omega) (by first | exact .inl ⟨by omega, by omega⟩ | exact .inr ⟨by omega, by omega⟩) (by first | rfl | omega) (by first | rfl | omega)) trivial ?_
        refine rl0 (gn rfl) rfl rfl (step_mv rfl rfl) trivial ?_
        refine' rl1 (gn rfl) rfl rfl (step_copy (m := (gB (xs, bad)).length) (cs' := imR ⟨rN (xs, bad) 1, gP (xs, bad)⟩) rfl rfl Try.underlying32 F.sz5 (ev_mk rfl) (ev_mk rfl) (gives_sl (.inl rfl)) ?hmn ?hl ?hcs) ⟨?hb, trivial⟩ (by omega) ?_
        case hb => repeat (first | exact uE | refine uN (by omega) ?_ | assumption | exact hd _ (by omega) | fail)
        case hmn => rw [bytesV_len]; exact Nat.min_eq_left (by omega)
        case hl => first | (simp; done) | (simp; omega)
        case hcs => exact gP_set (by omega) _
        refine runsL_nil ?_
        refine runs_seq ?_
        refine runs_draw (by kernel_rfl) (by kernel_rfl) (by kernel_rfl) ?_
        refine' dl0 (gn rfl) rfl rfl (step_load_all rfl rfl F.agg51 ?hl) ⟨?hb, trivial⟩ ?_
        case hb => repeat (first | exact uE | refine uN (by omega) ?_ | assumption | exact hd _ (by omega) | fail)
        case hl => first | rfl | (simp; done) | (first | (simp; done) | (simp [imR, gP]; omega) | (simp [imR, gP]; done))
        refine dl0 (gn rfl) rfl rfl (step_mv rfl rfl) trivial ?_
        refine dl0 (gn rfl) rfl rfl (step_callc rfl Try.func31 rfl rfl rfl (right_c k (g3 (xs, bad)).1 (g3 (xs, bad)).2) (by repeat (first | exact .nil | refine .cons ?_ ?_ | exact VLe.refl _ | exact VLe.own_sl _ _ _ | exact VLe.fl_sl _ _ | exact VLe.nil_sl _ | exact VLe.nil_fl _ | refine VLe.agg ?_))) ⟨by repeat (first | exact uE | refine uN (by omega) ?_ | assumption | exact hd _ (by omega) | fail), trivial⟩ ?_
        refine' dls (gn rfl) rfl (step_storeA rfl rfl rfl rfl F.agg51 ?hm ?hl) ⟨?hb, trivial⟩ ?hk ?_
        case hb => repeat (first | exact uE | refine uN (by omega) ?_ | assumption | exact hd _ (by omega) | fail)
        case hm => first | rfl | (simp; done) | (first | (simp; done) | (simp [imR, gP]; omega) | (simp [imR, gP]; done))
        case hl => first | rfl | (simp; done) | (first | (simp; done) | (simp [imR, gP]; omega) | (simp [imR, gP]; done))
        case hk => omega
        refine dl0 (gn rfl) rfl rfl (step_as rfl rfl) trivial ?_
        refine dlnil ?_ ?_
        · repeat' (first | exact trivial | exact .inr (ap0 _ _ _ _) | exact .inr (ap2 _ _ _ _) | exact .inr (ap3 _ _ _ _) | exact .inr ⟨by first | (simp; done) | (simp; omega), by first | (simp; done) | (simp; omega)⟩ | exact .inl (by kernel_rfl) | refine ⟨?_, ?_⟩ | fail)
        refine runs_ret ?_
        first | (have hg_ := pg_E (s := (xs, bad)) (by unfold gE; omega)) | (have hg_ := pg_N (s := (xs, bad)) (by unfold gE; omega))
        rw [hg_.1, hg_.2]
        refine ⟨by first | exact .inr rfl | exact .inl rfl, fin_mkg (resc rfl (by repeat (first | exact uE | refine uN (by omega) ?_ | assumption | exact hd _ (by omega) | fail)) F.agg51 (by first | rfl | (simp; done) | (first | (simp; done) | (simp [imR, gP]; omega) | (simp [imR, gP]; done))) (rest rfl res0)) ?_ ?_ ?_ ?_ ?_⟩
        · (repeat' (first | exact VLe.refl _ | exact VLe.own_sl _ _ _ | exact VLe.fl_sl _ _ | exact VLe.nil_sl _ | exact VLe.nil_fl _ | exact VLes.refl _ | exact .nil | refine VLe.tup ?_ | refine VLe.agg ?_ | refine .cons ?_ ?_ | (rw [Int.natCast_add]; exact VLe.refl _) | exact vle_int (by omega) | exact vle_bool (by first | rfl | assumption | (simp_all; done)) | ((rw [← imR_z]; exact VLe.refl _)) | fail))
        · repeat (first | exact trivial | assumption | omega | (refine bdR_map (fun _ => ?_)) | (refine bdL_map (fun _ => ?_)) | refine ⟨?_, ?_⟩ | fail)
        · intro k_ hk_; simp only [upds]; by_cases e_ : k_ = k; (focus subst e_; refine bl_eq ?_; first | (refine' blec ?hb ?hl; (case hb => repeat (first | exact uE | assumption | refine uN (by omega) ?_ | fail)); (case hl => first | exact VLes.refl _ | ((repeat' (first | exact VLe.refl _ | exact VLe.own_sl _ _ _ | exact VLe.fl_sl _ _ | exact VLe.nil_sl _ | exact VLe.nil_fl _ | exact VLes.refl _ | exact .nil | refine VLe.tup ?_ | refine VLe.agg ?_ | refine .cons ?_ ?_ | (rw [Int.natCast_add]; exact VLe.refl _) | exact vle_int (by omega) | exact vle_bool (by first | rfl | assumption | (simp_all; done)) | ((rw [← imR_z]; exact VLe.refl _)) | fail)); done))) | (refine ble ?_; (repeat (first | exact uE | assumption | refine uN (by omega) ?_ | fail)); done) | exact ble (tl_eq (by repeat (first | exact uE | assumption | refine uN (by omega) ?_ | fail)) (by first | rfl | (simp [bytesV, beB_len]; done) | (simp [bytesV, beB_len]; omega) | omega))); refine bl_ne e_ ?_; exact ble (by repeat (first | exact rfl | refine uN (by omega) ?_ | assumption | fail))
        · intro p hp cs hcs; simp only [List.mem_cons, List.not_mem_nil, or_false] at hp; (first | (rcases hp with rfl)) <;> (first | (cases hcs; done) | (cases hcs; repeat (first | exact trivial | assumption | omega | (refine bdR_map (fun _ => ?_)) | (refine bdL_map (fun _ => ?_)) | refine ⟨?_, ?_⟩ | fail)))
        · repeat (first | exact trivial | assumption | omega | (refine bdR_map (fun _ => ?_)) | (refine bdL_map (fun _ => ?_)) | refine ⟨?_, ?_⟩ | fail)
    · skip
      refine rl0 (gy rfl rfl rfl rfl rfl rfl) rfl rfl (step_mv rfl rfl) trivial ?_
      refine rlk rfl rfl rfl rfl rfl (ngb rfl rfl) rfl rfl ?_
      refine rlk rfl rfl rfl rfl rfl (ngb rfl rfl) rfl rfl ?_
      refine rlk rfl rfl rfl rfl rfl (ngb rfl rfl) rfl rfl ?_
      refine rlk rfl rfl rfl rfl rfl (ngb rfl rfl) rfl rfl ?_
      refine rlk rfl rfl rfl rfl rfl (ngb rfl rfl) rfl rfl ?_
      refine rlk rfl rfl rfl rfl rfl (ngb rfl rfl) rfl rfl ?_
      refine rlk rfl rfl rfl rfl rfl (ngb rfl rfl) rfl rfl ?_
      refine rl0 (gy rfl rfl rfl rfl rfl rfl) rfl rfl (step_pick rfl (ev_mk rfl) (ev_mk rfl)) trivial ?_
      refine rl0 (gn rfl) rfl rfl (step_pick rfl (ev_mk rfl) (ev_mk rfl)) trivial ?_
      refine runsL_nil ?_
      refine runs_cond false (ev_mk rfl) (fun h_ => nomatch h_) (fun _ => ?_)
      refine runs_skip ?_
      refine runs_seq ?_
      refine runs_region ?_
      refine rl0 (gn rfl) rfl rfl (step_fieldAddr (off := 1) rfl (ev_mk rfl) Try.underlying51 rfl F.sz49 rfl) trivial ?_
      refine rl0 (gn rfl) rfl rfl (step_sl_arr (a := 0) (h := 224) (m := 224) (q' := 1) (n' := 224) (c' := 224) rfl (ev_mk rfl) Try.underlying49 F.sz5 bndLo_none bndHi_none bndHi_none (fun h_ => by first | rfl | nomatch h_) (by omega) (by omega) (by omega) (by first | exact .inl ⟨by omega, by omega⟩ | exact .inr ⟨by omega, by omega⟩) (by first | rfl | omega) (by first | rfl | omega)) trivial ?_
      refine rl0 (gn rfl) rfl rfl (step_mv rfl rfl) trivial ?_
      refine' rl1 (gn rfl) rfl rfl (step_copy (m := (gB (xs, bad)).length) (cs' := imR ⟨rN (xs, bad) 1, gP (xs, bad)⟩) rfl rfl Try.underlying32 F.sz5 (ev_mk rfl) (ev_mk rfl) (gives_sl (.inl rfl)) ?hmn ?hl ?hcs) ⟨?hb, trivial⟩ (by omega) ?_
      case hb => repeat (first | exact uE | refine uN (by omega) ?_ | assumption | exact hd _ (by omega) | fail)
      case hmn => rw [bytesV_len]; exact Nat.min_eq_left (by omega)
      case hl => first | (simp; done) | (simp; omega)
      case hcs => exact gP_set (by omega) _
      refine runsL_nil ?_
      refine runs_seq ?_
      refine runs_draw (by kernel_rfl) (by kernel_rfl) (by kernel_rfl) ?_
      refine' dl0 (gn rfl) rfl rfl (step_load_all rfl rfl F.agg51 ?hl) ⟨?hb, trivial⟩ ?_
      case hb => repeat (first | exact uE | refine uN (by omega) ?_ | assumption | exact hd _ (by omega) | fail)
      case hl => first | rfl | (simp; done) | (first | (simp; done) | (simp [imR, gP]; omega) | (simp [imR, gP]; done))
      refine dl0 (gn rfl) rfl rfl (step_mv rfl rfl) trivial ?_
      refine dl0 (gn rfl) rfl rfl (step_callc rfl Try.func31 rfl rfl rfl (right_c k (g3 (xs, bad)).1 (g3 (xs, bad)).2) (by repeat (first | exact .nil | refine .cons ?_ ?_ | exact VLe.refl _ | exact VLe.own_sl _ _ _ | exact VLe.fl_sl _ _ | exact VLe.nil_sl _ | exact VLe.nil_fl _ | refine VLe.agg ?_))) ⟨by repeat (first | exact uE | refine uN (by omega) ?_ | assumption | exact hd _ (by omega) | fail), trivial⟩ ?_
      refine' dls (gn rfl) rfl (step_storeA rfl rfl rfl rfl F.agg51 ?hm ?hl) ⟨?hb, trivial⟩ ?hk ?_
      case hb => repeat (first | exact uE | refine uN (by omega) ?_ | assumption | exact hd _ (by omega) | fail)
      case hm => first | rfl | (simp; done) | (first | (simp; done) | (simp [imR, gP]; omega) | (simp [imR, gP]; done))
      case hl => first | rfl | (simp; done) | (first | (simp; done) | (simp [imR, gP]; omega) | (simp [imR, gP]; done))
      case hk => omega
      refine dl0 (gn rfl) rfl rfl (step_as rfl rfl) trivial ?_
      refine dlnil ?_ ?_
      · repeat' (first | exact trivial | exact .inr (ap0 _ _ _ _) | exact .inr (ap2 _ _ _ _) | exact .inr (ap3 _ _ _ _) | exact .inr ⟨by first | (simp; done) | (simp; omega), by first | (simp; done) | (simp; omega)⟩ | exact .inl (by kernel_rfl) | refine ⟨?_, ?_⟩ | fail)
      refine runs_ret ?_
      first | (have hg_ := pg_E (s := (xs, bad)) (by unfold gE; omega)) | (have hg_ := pg_N (s := (xs, bad)) (by unfold gE; omega))
      rw [hg_.1, hg_.2]
      refine ⟨by first | exact .inr rfl | exact .inl rfl, fin_mkg (resc rfl (by repeat (first | exact uE | refine uN (by omega) ?_ | assumption | exact hd _ (by omega) | fail)) F.agg51 (by first | rfl | (simp; done) | (first | (simp; done) | (simp [imR, gP]; omega) | (simp [imR, gP]; done))) (rest rfl res0)) ?_ ?_ ?_ ?_ ?_⟩
      · (repeat' (first | exact VLe.refl _ | exact VLe.own_sl _ _ _ | exact VLe.fl_sl _ _ | exact VLe.nil_sl _ | exact VLe.nil_fl _ | exact VLes.refl _ | exact .nil | refine VLe.tup ?_ | refine VLe.agg ?_ | refine .cons ?_ ?_ | (rw [Int.natCast_add]; exact VLe.refl _) | exact vle_int (by omega) | exact vle_bool (by first | rfl | assumption | (simp_all; done)) | ((rw [← imR_z]; exact VLe.refl _)) | fail))
      · repeat (first | exact trivial | assumption | omega | (refine bdR_map (fun _ => ?_)) | (refine bdL_map (fun _ => ?_)) | refine ⟨?_, ?_⟩ | fail)
      · intro k_ hk_; simp only [upds]; by_cases e_ : k_ = k; (focus subst e_; refine bl_eq ?_; first | (refine' blec ?hb ?hl; (case hb => repeat (first | exact uE | assumption | refine uN (by omega) ?_ | fail)); (case hl => first | exact VLes.refl _ | ((repeat' (first | exact VLe.refl _ | exact VLe.own_sl _ _ _ | exact VLe.fl_sl _ _ | exact VLe.nil_sl _ | exact VLe.nil_fl _ | exact VLes.refl _ | exact .nil | refine VLe.tup ?_ | refine VLe.agg ?_ | refine .cons ?_ ?_ | (rw [Int.natCast_add]; exact VLe.refl _) | exact vle_int (by omega) | exact vle_bool (by first | rfl | assumption | (simp_all; done)) | ((rw [← imR_z]; exact VLe.refl _)) | fail)); done))) | (refine ble ?_; (repeat (first | exact uE | assumption | refine uN (by omega) ?_ | fail)); done) | exact ble (tl_eq (by repeat (first | exact uE | assumption | refine uN (by omega) ?_ | fail)) (by first | rfl | (simp [bytesV, beB_len]; done) | (simp [bytesV, beB_len]; omega) | omega))); refine bl_ne e_ ?_; exact ble (by repeat (first | exact rfl | refine uN (by omega) ?_ | assumption | fail))
      · intro p hp cs hcs; simp only [List.mem_cons, List.not_mem_nil, or_false] at hp; (first | (rcases hp with rfl)) <;> (first | (cases hcs; done) | (cases hcs; repeat (first | exact trivial | assumption | omega | (refine bdR_map (fun _ => ?_)) | (refine bdL_map (fun _ => ?_)) | refine ⟨?_, ?_⟩ | fail)))
      · repeat (first | exact trivial | assumption | omega | (refine bdR_map (fun _ => ?_)) | (refine bdL_map (fun _ => ?_)) | refine ⟨?_, ?_⟩ | fail)
end Go.Proofs.Ytgfmjipdegkemaa
