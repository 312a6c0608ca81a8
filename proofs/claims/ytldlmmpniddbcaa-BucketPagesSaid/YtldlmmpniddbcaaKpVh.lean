/- Walks by the logic of values. -/
import Derived.Test.YtldlmmpniddbcaaKpVmT
import Derived.Test.YtldlmmpniddbcaaKpVmP
import Derived.Test.YtldlmmpniddbcaaKpVa
import Derived.Test.YtldlmmpniddbcaaKpVc
import Derived.Test.YtldlmmpniddbcaaKpVo
import Derived.Test.YtldlmmpniddbcaaKpVf
namespace Go.Proofs.Ytldlmmpniddbcaa
open Go.Vm
set_option linter.unusedVariables false
set_option linter.unusedSimpArgs false
attribute [local irreducible] Go.Vm.beB Go.Vm.fieldB
set_option maxRecDepth 100000 in
set_option maxHeartbeats 4000000 in
theorem get_y1 (fst : Int) (pF : Int → List Int) (oF : Int → Bool) (hpF : ∀ w_, Byts (pF w_) ∧ (pF w_).length = 224) (kk : Nat) (X_ : List V) (hat : ∀ w_ : Int, Does Try.prog 19 [.sc (.int .i64 w_), .ref kk 0] [(kk, .cells X_)] [] (.tup [.agg ((pF w_).map bV), .sc (.bool (oF w_))])) (D : Int) (G : List Int) (P : List Rc) (hG : getG pF oF 9 fst 0 [] [] = some (D, G, P)) : Does Try.prog 18 [.sc (.int .i64 fst), .fn 19 [.ref kk 0]] [(kk, .cells X_)] [] (.tup [.agg (bkC D G P), .sc (.bool true)]) := by
  refine does_mkg 40 Try.func18 rfl rfl rfl (fun n B bx hd hpre hup hvs hbx hgx => ?_)
  have hp0 := hpre.1
  have hk0 := lt_cells hd hp0
  refine runs_seq ?_
  refine runs_region ?_
  refine rl1 (gn rfl) rfl rfl (step_allocc (k := n + 0) (zs := [.int .i64 0, .slice none 0 0, .slice none 0 0]) (cs := [.sc (.int .i64 0), .sc (.slice none 0 0), .sc (.slice none 0 0)]) rfl F.zero29 (by first | rfl | simp) (by first | rfl | decide | simp) (by first | rfl | simp)) ⟨by repeat (first | exact uE | refine uN (by omega) ?_ | assumption | exact hd _ (by omega) | fail), trivial⟩ (by omega) ?_
  refine rl0 (gn rfl) rfl rfl (step_as rfl rfl) trivial ?_
  refine runsL_nil ?_
  refine runs_seq ?_
  refine runs_region ?_
  refine rl1 (gn rfl) rfl rfl (step_allocc (k := n + 1) (zs := [.int .i64 0, .slice none 0 0, .slice none 0 0]) (cs := [.sc (.int .i64 0), .sc (.slice none 0 0), .sc (.slice none 0 0)]) rfl F.zero29 (by first | rfl | simp) (by first | rfl | decide | simp) (by first | rfl | simp)) ⟨by repeat (first | exact uE | refine uN (by omega) ?_ | assumption | exact hd _ (by omega) | fail), trivial⟩ (by omega) ?_
  refine runsL_nil ?_
  refine runs_seq ?_
  refine runs_region ?_
  refine rl0 (gn rfl) rfl rfl (step_mv rfl rfl) trivial ?_
  refine rl0 (gn rfl) rfl rfl (step_as rfl rfl) trivial ?_
  refine runsL_nil ?_
  refine runs_block ?_
  refine runs_growb (k := n + 1) (kn := n + 2) (q := 1) (e := 1) (by repeat (first | exact uE | refine uN (by omega) ?_ | assumption | exact hd _ (by omega) | fail)) rfl (by repeat (first | exact uE | refine uN (by omega) ?_ | assumption | exact hd _ (by omega) | fail)) (by omega) (by omega) ?_
  refine runs_growb (k := n + 1) (kn := n + 3) (q := 2) (e := 6) (by repeat (first | exact uE | refine uN (by omega) ?_ | assumption | exact hd _ (by omega) | fail)) rfl (by repeat (first | exact uE | refine uN (by omega) ?_ | assumption | exact hd _ (by omega) | fail)) (by omega) (by omega) ?_
  have hs0_ : [] = ([].map iR) := by rfl
  have hs1_ : [] = ([].map rcC) := by rfl
  refine runs_loop (fun (ri_ : Nat) (st_ : Go.Vm.S) => ∃ (m_ d_ : Int) (gs : List Int) (ps : List Rc) (m0 : Nat) (b0 : Nat → Box), (st_ = ⟨mk [(1, .fn 19 [.ref kk 0]), (4, .ref (n + 0) 0), (5, .sc (.bool false)), (6, .ref (n + 1) 0), (7, .sc (.int .i64 m_))], m0, b0⟩) ∧ (ri_ = 9 - gs.length) ∧ (n + 4 ≤ m0) ∧ (∀ k_, k_ < n → b0 k_ = bx k_) ∧ (b0 kk = .cells X_) ∧ (b0 (n + 0) = .cells [.sc (.int .i64 0), .sc (.slice none 0 0), .sc (.slice none 0 0)]) ∧ (b0 (n + 1) = .cells [.sc (.int .i64 d_), .own 1 (gs.map iR) (n + 2), .own 6 (ps.map rcC) (n + 3)]) ∧ (b0 (n + 2) = .tail (gs.map iR).length) ∧ (b0 (n + 3) = .tail (ps.map rcC).length) ∧ (gs.length ≤ 8) ∧ (ps.length ≤ 5 * gs.length) ∧ (getG pF oF (9 - gs.length) m_ d_ gs ps = getG pF oF 9 fst 0 [] [])) (9 - [].length) ⟨_, sle ?_ (Nat.le_refl _), fst, 0, [], [], _, _, rfl, rfl, ?_⟩ ?_
  · (repeat' (first | exact trivial | refine ⟨⟨_, rfl, ?_⟩, ?_⟩ | fail)); all_goals (repeat' (first | exact VLe.refl _ | exact VLe.own_sl _ _ _ | exact VLe.fl_sl _ _ | exact VLe.nil_sl _ | exact VLe.nil_fl _ | exact VLes.refl _ | exact .nil | refine VLe.tup ?_ | refine VLe.agg ?_ | refine .cons ?_ ?_ | (rw [Int.natCast_add]; exact VLe.refl _) | exact vle_int (by omega) | exact vle_bool (by first | rfl | assumption | (simp_all; done) | fail) | (rw [← hs0_]; exact VLe.refl _) | (rw [hs0_]; exact VLe.refl _) | (rw [← hs1_]; exact VLe.refl _) | (rw [hs1_]; exact VLe.refl _) | fail))
  · exact ⟨by omega, (fun k_ hk_ => by repeat (first | exact rfl | refine uN (by omega) ?_ | assumption | fail)), by first | ((repeat (first | exact uE | assumption | refine uN (by omega) ?_ | fail)); done) | exact tl_eq (by repeat (first | exact uE | assumption | refine uN (by omega) ?_ | fail)) (by first | rfl | (simp; done) | (simp; omega)) | (rw [← hs0_]; (repeat (first | exact uE | assumption | refine uN (by omega) ?_ | fail)); done) | (rw [← hs1_]; (repeat (first | exact uE | assumption | refine uN (by omega) ?_ | fail)); done) | (rw [← hs0_, ← hs1_]; (repeat (first | exact uE | assumption | refine uN (by omega) ?_ | fail)); done), by first | ((repeat (first | exact uE | assumption | refine uN (by omega) ?_ | fail)); done) | exact tl_eq (by repeat (first | exact uE | assumption | refine uN (by omega) ?_ | fail)) (by first | rfl | (simp; done) | (simp; omega)) | (rw [← hs0_]; (repeat (first | exact uE | assumption | refine uN (by omega) ?_ | fail)); done) | (rw [← hs1_]; (repeat (first | exact uE | assumption | refine uN (by omega) ?_ | fail)); done) | (rw [← hs0_, ← hs1_]; (repeat (first | exact uE | assumption | refine uN (by omega) ?_ | fail)); done), by first | ((repeat (first | exact uE | assumption | refine uN (by omega) ?_ | fail)); done) | exact tl_eq (by repeat (first | exact uE | assumption | refine uN (by omega) ?_ | fail)) (by first | rfl | (simp; done) | (simp; omega)) | (rw [← hs0_]; (repeat (first | exact uE | assumption | refine uN (by omega) ?_ | fail)); done) | (rw [← hs1_]; (repeat (first | exact uE | assumption | refine uN (by omega) ?_ | fail)); done) | (rw [← hs0_, ← hs1_]; (repeat (first | exact uE | assumption | refine uN (by omega) ?_ | fail)); done), by first | ((repeat (first | exact uE | assumption | refine uN (by omega) ?_ | fail)); done) | exact tl_eq (by repeat (first | exact uE | assumption | refine uN (by omega) ?_ | fail)) (by first | rfl | (simp; done) | (simp; omega)) | (rw [← hs0_]; (repeat (first | exact uE | assumption | refine uN (by omega) ?_ | fail)); done) | (rw [← hs1_]; (repeat (first | exact uE | assumption | refine uN (by omega) ?_ | fail)); done) | (rw [← hs0_, ← hs1_]; (repeat (first | exact uE | assumption | refine uN (by omega) ?_ | fail)); done), by first | ((repeat (first | exact uE | assumption | refine uN (by omega) ?_ | fail)); done) | exact tl_eq (by repeat (first | exact uE | assumption | refine uN (by omega) ?_ | fail)) (by first | rfl | (simp; done) | (simp; omega)) | (rw [← hs0_]; (repeat (first | exact uE | assumption | refine uN (by omega) ?_ | fail)); done) | (rw [← hs1_]; (repeat (first | exact uE | assumption | refine uN (by omega) ?_ | fail)); done) | (rw [← hs0_, ← hs1_]; (repeat (first | exact uE | assumption | refine uN (by omega) ?_ | fail)); done), by simp, by simp, rfl⟩
  · rintro _ _ ⟨m_, d_, gs, ps, m0, b0, rfl, rfl, hm0, hf0, hB0_0, hB0_1, hB0_2, hB0_3, hB0_4, hF0_0, hF0_1, hF0_2⟩
    refine runs_know (fun hd0 => ?_)
    refine runs_bump 20 ?_
    simp only at hd0
    refine runs_block ?_
    refine runs_seq ?_
    refine runs_region ?_
    refine rl0 (gn rfl) rfl rfl (step_mv rfl rfl) trivial ?_
    refine rl0 (gn rfl) rfl rfl (step_mv rfl rfl) trivial ?_
    refine rl0 (gn rfl) rfl rfl (step_callfn rfl (ev_mk rfl) (.inl rfl) Try.func19 rfl rfl rfl (hat m_) (by repeat (first | exact .nil | refine .cons ?_ ?_ | exact VLe.refl _ | exact VLe.own_sl _ _ _ | exact VLe.fl_sl _ _ | exact VLe.nil_sl _ | exact VLe.nil_fl _ | refine VLe.agg ?_))) ⟨by repeat (first | exact uE | refine uN (by omega) ?_ | assumption | exact hd _ (by omega) | exact hd0 _ (by omega) | fail), trivial⟩ ?_
    refine rl0 (gn rfl) rfl rfl (step_mv rfl rfl) trivial ?_
    refine rl0 (gn rfl) rfl rfl (step_extract rfl (ev_mk rfl) rfl) trivial ?_
    refine rl0 (gn rfl) rfl rfl (step_extract rfl (ev_mk rfl) rfl) trivial ?_
    refine rl1 (gn rfl) rfl rfl (step_allocc (k := m0 + 0) (zs := (List.replicate 224 (.int .u8 0))) (cs := List.replicate 224 (.sc (.int .u8 0))) rfl F.zero39 (by first | rfl | simp) (by first | rfl | decide | simp) (by first | rfl | simp)) ⟨by repeat (first | exact uE | refine uN (by omega) ?_ | assumption | exact hd _ (by omega) | exact hd0 _ (by omega) | fail), trivial⟩ (by omega) ?_
    refine' rls (gn rfl) rfl (step_storeA rfl rfl rfl rfl F.agg39 ?hm ?hl) ⟨?hb, trivial⟩ ?hk ?_
    case hb => repeat (first | exact uE | refine uN (by omega) ?_ | assumption | exact hd _ (by omega) | exact hd0 _ (by omega) | fail)
    case hm => first | rfl | (simp; done) | (first | (simp; done) | (rw [List.length_map, (hpF m_).2]; done))
    case hl => first | rfl | (simp; done) | (first | (simp; done) | (rw [List.length_map, (hpF m_).2]; done))
    case hk => omega
    refine rl0 (gn rfl) rfl rfl (step_as rfl rfl) trivial ?_
    refine runsL_nil ?_
    refine runs_seq ?_
    refine runs_seq ?_
    refine runs_region ?_
    refine rl0 (gn rfl) rfl rfl (step_mv rfl rfl) trivial ?_
    refine rl0 (gn rfl) rfl rfl (step_unOp rfl (ev_mk rfl) (fun _ => rfl)) trivial ?_
    refine rl0 (gn rfl) rfl rfl (step_mv rfl rfl) trivial ?_
    refine rl_bool (d := 22) rfl (fun h1 => ?_) (fun h1 => ?_)
    · skip
      refine rlk rfl rfl rfl rfl rfl (ngb rfl rfl) rfl rfl ?_
      refine rlk rfl rfl rfl rfl rfl (ngb rfl rfl) rfl rfl ?_
      refine rlk rfl rfl rfl rfl rfl (ngb rfl rfl) rfl rfl ?_
      refine rlk rfl rfl rfl rfl rfl (ngb rfl rfl) rfl rfl ?_
      refine rl0 (gn rfl) rfl rfl (step_pick rfl (ev_mk rfl) (ev_mk rfl)) trivial ?_
      refine runsL_nil ?_
      refine runs_cond true (ev_mk rfl) (fun _ => ?_) (fun h_ => nomatch h_)
      refine runs_seq ?_
      first | (exact False.elim (by have h_ := hF0_2; rw [show 9 - gs.length = (8 - gs.length) + 1 by omega, gg_a (by have q_ : (!oF m_) = true := (by assumption); simpa using q_), hG] at h_; cases h_)) | (exact False.elim (by have h_ := hF0_2; rw [show 9 - gs.length = (8 - gs.length) + 1 by omega, gg_b (by omega), hG] at h_; cases h_))
    · skip
      refine rl0 (gy rfl rfl rfl rfl rfl rfl) rfl rfl (step_fieldAddr (off := 1) rfl (ev_mk rfl) Try.underlying29 rfl F.sz26 rfl) trivial ?_
      refine' rl0 (gy rfl rfl rfl rfl rfl rfl) rfl rfl (step_load_one rfl (ev_mk rfl) F.one26 ?hv) ⟨?hb, trivial⟩ ?_
      case hb => repeat (first | exact uE | refine uN (by omega) ?_ | assumption | exact hd _ (by omega) | exact hd0 _ (by omega) | fail)
      case hv => rfl
      refine rl0 (gy rfl rfl rfl rfl rfl rfl) rfl rfl (step_len (m := gs.length) rfl rfl (ev_mk rfl) (.inl ⟨⟨_, Try.underlying26⟩, .inl ⟨_, _, .inr (.inr ⟨_, rfl⟩), List.length_map _⟩⟩)) trivial ?_
      refine rl_eql (gy rfl rfl rfl rfl rfl rfl) rfl rfl rfl rfl rfl (fun h2 => ?_) (fun h2 => ?_)
      · skip
        refine rl0 (gn rfl) rfl rfl (step_pick rfl (ev_mk rfl) (ev_mk rfl)) trivial ?_
        refine runsL_nil ?_
        refine runs_cond true (ev_mk rfl) (fun _ => ?_) (fun h_ => nomatch h_)
        refine runs_seq ?_
        first | (exact False.elim (by have h_ := hF0_2; rw [show 9 - gs.length = (8 - gs.length) + 1 by omega, gg_a (by have q_ : (!oF m_) = true := (by assumption); simpa using q_), hG] at h_; cases h_)) | (exact False.elim (by have h_ := hF0_2; rw [show 9 - gs.length = (8 - gs.length) + 1 by omega, gg_b (by omega), hG] at h_; cases h_))
      · skip
        refine rl0 (gn rfl) rfl rfl (step_pick rfl (ev_mk rfl) (ev_mk rfl)) trivial ?_
        refine runsL_nil ?_
        refine runs_cond false (ev_mk rfl) (fun h_ => nomatch h_) (fun _ => ?_)
        refine runs_skip ?_
        refine runs_seq ?_
        refine runs_region ?_
        refine' rl0 (gn rfl) rfl rfl (step_load_all rfl rfl F.agg39 ?hl) ⟨?hb, trivial⟩ ?_
        case hb => repeat (first | exact uE | refine uN (by omega) ?_ | assumption | exact hd _ (by omega) | exact hd0 _ (by omega) | fail)
        case hl => first | rfl | (simp; done) | (first | (simp; done) | (rw [List.length_map, (hpF m_).2]; done))
        refine rl0 (gn rfl) rfl rfl (step_callc rfl Try.func35 rfl rfl rfl (rread_c (pF m_) (hpF m_).1 (hpF m_).2) (by repeat (first | exact .nil | refine .cons ?_ ?_ | exact VLe.refl _ | exact VLe.own_sl _ _ _ | exact VLe.fl_sl _ _ | exact VLe.nil_sl _ | exact VLe.nil_fl _ | refine VLe.agg ?_))) trivial ?_
        refine rl0 (gn rfl) rfl rfl (step_mv rfl rfl) trivial ?_
        refine rl0 (gn rfl) rfl rfl (step_extract rfl (ev_mk rfl) rfl) trivial ?_
        refine rl0 (gn rfl) rfl rfl (step_extract rfl (ev_mk rfl) rfl) trivial ?_
        refine rl0 (gn rfl) rfl rfl (step_extract rfl (ev_mk rfl) rfl) trivial ?_
        refine rl0 (gn rfl) rfl rfl (step_extract rfl (ev_mk rfl) rfl) trivial ?_
        refine rl0 (gn rfl) rfl rfl (step_as rfl rfl) trivial ?_
        refine rl0 (gn rfl) rfl rfl (step_as rfl rfl) trivial ?_
        refine rl0 (gn rfl) rfl rfl (step_as rfl rfl) trivial ?_
        refine rl0 (gn rfl) rfl rfl (step_as rfl rfl) trivial ?_
        refine runsL_nil ?_
        refine runs_seq ?_
        refine runs_seq ?_
        refine runs_region ?_
        have hrl_ := rRc_len (hpF m_).1 (hpF m_).2
        refine rl0 (gn rfl) rfl rfl (step_mv rfl rfl) trivial ?_
        refine rl0 (gn rfl) rfl rfl (step_unOp rfl (ev_mk rfl) (fun _ => rfl)) trivial ?_
        refine rl0 (gn rfl) rfl rfl (step_mv rfl rfl) trivial ?_
        refine rl_bool (d := 38) rfl (fun h3 => ?_) (fun h3 => ?_)
        · skip
          refine rlk rfl rfl rfl rfl rfl (ngb rfl rfl) rfl rfl ?_
          refine rlk rfl rfl rfl rfl rfl (ngb rfl rfl) rfl rfl ?_
          refine rlk rfl rfl rfl rfl rfl (ngb rfl rfl) rfl rfl ?_
          refine rlk rfl rfl rfl rfl rfl (ngb rfl rfl) rfl rfl ?_
          refine rlk rfl rfl rfl rfl rfl (ngb rfl rfl) rfl rfl ?_
          refine rlk rfl rfl rfl rfl rfl (ngu rfl) rfl rfl ?_
          refine rlk rfl rfl rfl rfl rfl (ngu rfl) rfl rfl ?_
          refine rlk rfl rfl rfl rfl rfl (ngu rfl) rfl rfl ?_
          refine rlk rfl rfl rfl rfl rfl (ngu rfl) rfl rfl ?_
          refine rlk rfl rfl rfl rfl rfl (ngu rfl) rfl rfl ?_
          refine rlk rfl rfl rfl rfl rfl (ngu rfl) rfl rfl ?_
          refine rlk rfl rfl rfl rfl rfl (ngu rfl) rfl rfl ?_
          refine rlk rfl rfl rfl rfl rfl (ngu rfl) rfl rfl ?_
          refine rlk rfl rfl rfl rfl rfl (ngu rfl) rfl rfl ?_
          refine rlk rfl rfl rfl rfl rfl (ngu rfl) rfl rfl ?_
          refine rlk rfl rfl rfl rfl rfl (ngu rfl) rfl rfl ?_
          refine rlk rfl rfl rfl rfl rfl (ngu rfl) rfl rfl ?_
          refine rlk rfl rfl rfl rfl rfl (ngu rfl) rfl rfl ?_
          refine rlk rfl rfl rfl rfl rfl (ngu rfl) rfl rfl ?_
          refine rlk rfl rfl rfl rfl rfl (ngu rfl) rfl rfl ?_
          refine rlk rfl rfl rfl rfl rfl (ngu rfl) rfl rfl ?_
          refine rlk rfl rfl rfl rfl rfl (ngu rfl) rfl rfl ?_
          refine rlk rfl rfl rfl rfl rfl (ngu rfl) rfl rfl ?_
          refine rlk rfl rfl rfl rfl rfl (ngu rfl) rfl rfl ?_
          refine rlk rfl rfl rfl rfl rfl (ngb rfl rfl) rfl rfl ?_
          refine rl0 (gn rfl) rfl rfl (step_pick rfl (ev_mk rfl) (ev_mk rfl)) trivial ?_
          refine runsL_nil ?_
          refine runs_cond true (ev_mk rfl) (fun _ => ?_) (fun h_ => nomatch h_)
          refine runs_seq ?_
          first | (exact False.elim (by have h_ := hF0_2; rw [show 9 - gs.length = (8 - gs.length) + 1 by omega, gg_d (by omega), hG] at h_; cases h_)) | (exact False.elim (by have h_ := hF0_2; rw [show 9 - gs.length = (8 - gs.length) + 1 by omega, gg_c (by have q_ : (!rOk (pF m_)) = true := (by assumption); simpa using q_), hG] at h_; cases h_))
        · skip
          refine rl0 (gy rfl rfl rfl rfl rfl rfl) rfl rfl (step_fieldAddr (off := 1) rfl (ev_mk rfl) Try.underlying29 rfl F.sz26 rfl) trivial ?_
          refine' rl0 (gy rfl rfl rfl rfl rfl rfl) rfl rfl (step_load_one rfl (ev_mk rfl) F.one26 ?hv) ⟨?hb, trivial⟩ ?_
          case hb => repeat (first | exact uE | refine uN (by omega) ?_ | assumption | exact hd _ (by omega) | exact hd0 _ (by omega) | fail)
          case hv => rfl
          refine rl0 (gy rfl rfl rfl rfl rfl rfl) rfl rfl (step_len (m := gs.length) rfl rfl (ev_mk rfl) (.inl ⟨⟨_, Try.underlying26⟩, .inl ⟨_, _, .inr (.inr ⟨_, rfl⟩), List.length_map _⟩⟩)) trivial ?_
          refine rl_gtr (gy rfl rfl rfl rfl rfl rfl) rfl rfl rfl rfl rfl (fun h4 => ?_) (fun h4 => ?_)
          · skip
            refine rl0 (gy rfl rfl rfl rfl rfl rfl) rfl rfl (step_mv rfl rfl) trivial ?_
            refine rl0 (gy rfl rfl rfl rfl rfl rfl) rfl rfl (step_mv rfl rfl) trivial ?_
            refine rl0 (gy rfl rfl rfl rfl rfl rfl) rfl rfl (step_fieldAddr (off := 0) rfl (ev_mk rfl) Try.underlying29 rfl F.sz3 rfl) trivial ?_
            refine' rl0 (gy rfl rfl rfl rfl rfl rfl) rfl rfl (step_load_one rfl (ev_mk rfl) F.one3 ?hv) ⟨?hb, trivial⟩ ?_
            case hb => repeat (first | exact uE | refine uN (by omega) ?_ | assumption | exact hd _ (by omega) | exact hd0 _ (by omega) | fail)
            case hv => rfl
            refine rl_neq (gy rfl rfl rfl rfl rfl rfl) rfl rfl rfl rfl rfl (fun h5 => ?_) (fun h5 => ?_)
            · skip
              refine rl0 (gy rfl rfl rfl rfl rfl rfl) rfl rfl (step_mv rfl rfl) trivial ?_
              refine rlk rfl rfl rfl rfl rfl (ngb rfl rfl) rfl rfl ?_
              refine rlk rfl rfl rfl rfl rfl (ngb rfl rfl) rfl rfl ?_
              refine rlk rfl rfl rfl rfl rfl (ngb rfl rfl) rfl rfl ?_
              refine rlk rfl rfl rfl rfl rfl (ngb rfl rfl) rfl rfl ?_
              refine rlk rfl rfl rfl rfl rfl (ngb rfl rfl) rfl rfl ?_
              refine rlk rfl rfl rfl rfl rfl (ngb rfl rfl) rfl rfl ?_
              refine rlk rfl rfl rfl rfl rfl (ngb rfl rfl) rfl rfl ?_
              refine rlk rfl rfl rfl rfl rfl (ngb rfl rfl) rfl rfl ?_
              refine rlk rfl rfl rfl rfl rfl (ngb rfl rfl) rfl rfl ?_
              refine rlk rfl rfl rfl rfl rfl (ngu rfl) rfl rfl ?_
              refine rlk rfl rfl rfl rfl rfl (ngu rfl) rfl rfl ?_
              refine rlk rfl rfl rfl rfl rfl (ngu rfl) rfl rfl ?_
              refine rlk rfl rfl rfl rfl rfl (ngb rfl rfl) rfl rfl ?_
              refine rl0 (gy rfl rfl rfl rfl rfl rfl) rfl rfl (step_pick rfl (ev_mk rfl) (ev_mk rfl)) trivial ?_
              refine rl0 (gy rfl rfl rfl rfl rfl rfl) rfl rfl (step_pick rfl (ev_mk rfl) (ev_mk rfl)) trivial ?_
              refine rl0 (gn rfl) rfl rfl (step_pick rfl (ev_mk rfl) (ev_mk rfl)) trivial ?_
              refine runsL_nil ?_
              refine runs_cond true (ev_mk rfl) (fun _ => ?_) (fun h_ => nomatch h_)
              refine runs_seq ?_
              first | (exact False.elim (by have h_ := hF0_2; rw [show 9 - gs.length = (8 - gs.length) + 1 by omega, gg_d (by omega), hG] at h_; cases h_)) | (exact False.elim (by have h_ := hF0_2; rw [show 9 - gs.length = (8 - gs.length) + 1 by omega, gg_c (by have q_ : (!rOk (pF m_)) = true := (by assumption); simpa using q_), hG] at h_; cases h_))
            · skip
              refine rl0 (gy rfl rfl rfl rfl rfl rfl) rfl rfl (step_mv rfl rfl) trivial ?_
              refine rl0 (gy rfl rfl rfl rfl rfl rfl) rfl rfl (step_fieldAddr (off := 2) rfl (ev_mk rfl) Try.underlying29 rfl F.sz27 rfl) trivial ?_
              refine' rl0 (gy rfl rfl rfl rfl rfl rfl) rfl rfl (step_load_one rfl (ev_mk rfl) F.one27 ?hv) ⟨?hb, trivial⟩ ?_
              case hb => repeat (first | exact uE | refine uN (by omega) ?_ | assumption | exact hd _ (by omega) | exact hd0 _ (by omega) | fail)
              case hv => rfl
              refine rl0 (gy rfl rfl rfl rfl rfl rfl) rfl rfl (step_len (m := ps.length) rfl rfl (ev_mk rfl) (.inl ⟨⟨_, Try.underlying27⟩, .inl ⟨_, _, .inr (.inr ⟨_, rfl⟩), List.length_map _⟩⟩)) trivial ?_
              refine rl0 (gy rfl rfl rfl rfl rfl rfl) rfl rfl (step_fieldAddr (off := 1) rfl (ev_mk rfl) Try.underlying29 rfl F.sz26 rfl) trivial ?_
              refine' rl0 (gy rfl rfl rfl rfl rfl rfl) rfl rfl (step_load_one rfl (ev_mk rfl) F.one26 ?hv) ⟨?hb, trivial⟩ ?_
              case hb => repeat (first | exact uE | refine uN (by omega) ?_ | assumption | exact hd _ (by omega) | exact hd0 _ (by omega) | fail)
              case hv => rfl
              refine rl0 (gy rfl rfl rfl rfl rfl rfl) rfl rfl (step_len (m := gs.length) rfl rfl (ev_mk rfl) (.inl ⟨⟨_, Try.underlying26⟩, .inl ⟨_, _, .inr (.inr ⟨_, rfl⟩), List.length_map _⟩⟩)) trivial ?_
              refine rl0 (gy rfl rfl rfl rfl rfl rfl) rfl rfl (step_mul rfl (ev_mk rfl) (ev_mk rfl) (w64 (by omega))) trivial ?_
              refine rl_lss (gy rfl rfl rfl rfl rfl rfl) rfl rfl rfl rfl rfl (fun h6 => ?_) (fun h6 => ?_)
              · skip
                refine rl0 (gy rfl rfl rfl rfl rfl rfl) rfl rfl (step_mv rfl rfl) trivial ?_
                refine rl0 (gy rfl rfl rfl rfl rfl rfl) rfl rfl (step_mv rfl rfl) trivial ?_
                refine rl0 (gy rfl rfl rfl rfl rfl rfl) rfl rfl (step_len (m := (rRc (pF m_)).length) rfl rfl (ev_mk rfl) (.inl ⟨⟨_, Try.underlying27⟩, .inl ⟨_, _, .inl rfl, List.length_map _⟩⟩)) trivial ?_
                refine rl_gtr (gy rfl rfl rfl rfl rfl rfl) rfl rfl rfl rfl rfl (fun h7 => ?_) (fun h7 => ?_)
                · skip
                  refine rl0 (gy rfl rfl rfl rfl rfl rfl) rfl rfl (step_pick rfl (ev_mk rfl) (ev_mk rfl)) trivial ?_
                  refine rl0 (gy rfl rfl rfl rfl rfl rfl) rfl rfl (step_pick rfl (ev_mk rfl) (ev_mk rfl)) trivial ?_
                  refine rl0 (gy rfl rfl rfl rfl rfl rfl) rfl rfl (step_pick rfl (ev_mk rfl) (ev_mk rfl)) trivial ?_
                  refine rl0 (gn rfl) rfl rfl (step_pick rfl (ev_mk rfl) (ev_mk rfl)) trivial ?_
                  refine runsL_nil ?_
                  refine runs_cond true (ev_mk rfl) (fun _ => ?_) (fun h_ => nomatch h_)
                  refine runs_seq ?_
                  first | (exact False.elim (by have h_ := hF0_2; rw [show 9 - gs.length = (8 - gs.length) + 1 by omega, gg_d (by omega), hG] at h_; cases h_)) | (exact False.elim (by have h_ := hF0_2; rw [show 9 - gs.length = (8 - gs.length) + 1 by omega, gg_c (by have q_ : (!rOk (pF m_)) = true := (by assumption); simpa using q_), hG] at h_; cases h_))
                · skip
                  refine rl0 (gy rfl rfl rfl rfl rfl rfl) rfl rfl (step_pick rfl (ev_mk rfl) (ev_mk rfl)) trivial ?_
                  refine rl0 (gy rfl rfl rfl rfl rfl rfl) rfl rfl (step_pick rfl (ev_mk rfl) (ev_mk rfl)) trivial ?_
                  refine rl0 (gy rfl rfl rfl rfl rfl rfl) rfl rfl (step_pick rfl (ev_mk rfl) (ev_mk rfl)) trivial ?_
                  refine rl0 (gn rfl) rfl rfl (step_pick rfl (ev_mk rfl) (ev_mk rfl)) trivial ?_
                  refine runsL_nil ?_
                  refine runs_cond false (ev_mk rfl) (fun h_ => nomatch h_) (fun _ => ?_)
                  refine runs_skip ?_
                  refine runs_seq ?_
                  refine runs_region ?_
                  refine rl0 (gn rfl) rfl rfl (step_mv rfl rfl) trivial ?_
                  refine rl0 (gn rfl) rfl rfl (step_fieldAddr (off := 0) rfl (ev_mk rfl) Try.underlying29 rfl F.sz3 rfl) trivial ?_
                  refine' rls (gn rfl) rfl (step_store1 rfl rfl rfl rfl F.one3 rfl rfl ?hl ?hc) ⟨?hb, trivial⟩ ?hk ?_
                  case hb => repeat (first | exact uE | refine uN (by omega) ?_ | assumption | exact hd _ (by omega) | exact hd0 _ (by omega) | fail)
                  case hl => first | exact Nat.le_of_ble_eq_true rfl | decide | (simp; done) | (simp; omega) | (first | (simp; done) | (rw [List.length_map, (hpF m_).2]; done))
                  case hc => first | (simp only [List.set_cons_succ, List.set_cons_zero]; rfl) | rfl
                  case hk => omega
                  refine runsL_nil ?_
                  refine runs_seq ?_
                  refine runs_region ?_
                  refine rl0 (gn rfl) rfl rfl (step_fieldAddr (off := 1) rfl (ev_mk rfl) Try.underlying29 rfl F.sz26 rfl) trivial ?_
                  refine' rl0 (gn rfl) rfl rfl (step_load_one rfl (ev_mk rfl) F.one26 ?hv) ⟨?hb, trivial⟩ ?_
                  case hb => repeat (first | exact uE | refine uN (by omega) ?_ | assumption | exact hd _ (by omega) | exact hd0 _ (by omega) | fail)
                  case hv => rfl
                  refine rl0 (gn rfl) rfl rfl (step_mv rfl rfl) trivial ?_
                  refine rl0 (gn rfl) rfl rfl (step_lit rfl Try.underlying26 F.sz3 F.zero3 (by first | rfl | simp) (by first | rfl | simp | decide) (by decide) rfl rfl (by first | (simp [V.cs, V.stor, oneV]; done) | (simp [V.cs, V.stor, oneV])) rfl) trivial ?_
                  refine' rl1 (gn rfl) rfl rfl (step_append_own rfl rfl rfl Try.underlying26 ⟨_, Try.underlying26, fun k_ => by intro h_; cases h_⟩ F.el3 (ev_mk rfl) (ev_mk rfl) (gives_sl (.inr (.inl rfl))) ?hg) ⟨?hb, trivial⟩ (by omega) ?_
                  case hb => repeat (first | exact uE | refine uN (by omega) ?_ | assumption | exact hd _ (by omega) | exact hd0 _ (by omega) | fail)
                  case hg => first | (simp; omega) | (simp; done) | omega
                  refine rl0 (gn rfl) rfl rfl (step_fieldAddr (off := 1) rfl (ev_mk rfl) Try.underlying29 rfl F.sz26 rfl) trivial ?_
                  refine' rls (gn rfl) rfl (step_store1 rfl rfl rfl rfl F.one26 rfl rfl ?hl ?hc) ⟨?hb, trivial⟩ ?hk ?_
                  case hb => repeat (first | exact uE | refine uN (by omega) ?_ | assumption | exact hd _ (by omega) | exact hd0 _ (by omega) | fail)
                  case hl => first | exact Nat.le_of_ble_eq_true rfl | decide | (simp; done) | (simp; omega) | (first | (simp; done) | (rw [List.length_map, (hpF m_).2]; done))
                  case hc => first | (simp only [List.set_cons_succ, List.set_cons_zero]; rfl) | rfl
                  case hk => omega
                  refine runsL_nil ?_
                  refine runs_seq ?_
                  refine runs_region ?_
                  refine rl0 (gn rfl) rfl rfl (step_fieldAddr (off := 2) rfl (ev_mk rfl) Try.underlying29 rfl F.sz27 rfl) trivial ?_
                  refine' rl0 (gn rfl) rfl rfl (step_load_one rfl (ev_mk rfl) F.one27 ?hv) ⟨?hb, trivial⟩ ?_
                  case hb => repeat (first | exact uE | refine uN (by omega) ?_ | assumption | exact hd _ (by omega) | exact hd0 _ (by omega) | fail)
                  case hv => rfl
                  refine rl0 (gn rfl) rfl rfl (step_mv rfl rfl) trivial ?_
                  refine' rl1 (gn rfl) rfl rfl (step_append_own rfl rfl rfl Try.underlying27 ⟨_, Try.underlying27, fun k_ => by intro h_; cases h_⟩ F.el52 (ev_mk rfl) (ev_mk rfl) (gives_sl (.inl rfl)) ?hg) ⟨?hb, trivial⟩ (by omega) ?_
                  case hb => repeat (first | exact uE | refine uN (by omega) ?_ | assumption | exact hd _ (by omega) | exact hd0 _ (by omega) | fail)
                  case hg => first | (simp; omega) | (simp; done) | omega
                  refine rl0 (gn rfl) rfl rfl (step_fieldAddr (off := 2) rfl (ev_mk rfl) Try.underlying29 rfl F.sz27 rfl) trivial ?_
                  refine' rls (gn rfl) rfl (step_store1 rfl rfl rfl rfl F.one27 rfl rfl ?hl ?hc) ⟨?hb, trivial⟩ ?hk ?_
                  case hb => repeat (first | exact uE | refine uN (by omega) ?_ | assumption | exact hd _ (by omega) | exact hd0 _ (by omega) | fail)
                  case hl => first | exact Nat.le_of_ble_eq_true rfl | decide | (simp; done) | (simp; omega) | (first | (simp; done) | (rw [List.length_map, (hpF m_).2]; done))
                  case hc => first | (simp only [List.set_cons_succ, List.set_cons_zero]; rfl) | rfl
                  case hk => omega
                  refine runsL_nil ?_
                  refine runs_seq ?_
                  refine runs_region ?_
                  refine rl0 (gn rfl) rfl rfl (step_mv rfl rfl) trivial ?_
                  refine rl0 (gn rfl) rfl rfl (step_as rfl rfl) trivial ?_
                  refine runsL_nil ?_
                  refine runs_seq ?_
                  refine runs_region ?_
                  refine rl0 (gn rfl) rfl rfl (step_mv rfl rfl) trivial ?_
                  refine rl_eql (gn rfl) rfl rfl rfl rfl rfl (fun h8 => ?_) (fun h8 => ?_)
                  · skip
                    have hge_ := gg_e (k := 8 - gs.length) (pF := pF) (oF := oF) (m := m_) (d := d_) (gs := gs) (ps := ps) (by have q_ : (!oF m_) = false := (by assumption); simpa using q_) (by omega) (by have q_ : (!rOk (pF m_)) = false := (by assumption); simpa using q_) (by omega) (by assumption)
                    rw [← show 9 - gs.length = (8 - gs.length) + 1 by omega, hF0_2, hG] at hge_
                    obtain ⟨rfl, rfl, rfl⟩ : D = rDp (pF m_) ∧ G = gs ++ [m_] ∧ P = ps ++ rRc (pF m_) := by simpa using hge_
                    refine runsL_nil ?_
                    refine runs_cond true (ev_mk rfl) (fun _ => ?_) (fun h_ => nomatch h_)
                    refine runs_seq ?_
                    refine runs_region ?_
                    refine' rl0 (gn rfl) rfl rfl (step_load_all rfl rfl F.agg29 ?hl) ⟨?hb, trivial⟩ ?_
                    case hb => repeat (first | exact uE | refine uN (by omega) ?_ | assumption | exact hd _ (by omega) | exact hd0 _ (by omega) | fail)
                    case hl => first | rfl | (simp; done) | (first | (simp; done) | (rw [List.length_map, (hpF m_).2]; done))
                    refine' rls (gn rfl) rfl (step_storeA rfl rfl rfl rfl F.agg29 ?hm ?hl) ⟨?hb, trivial⟩ ?hk ?_
                    case hb => repeat (first | exact uE | refine uN (by omega) ?_ | assumption | exact hd _ (by omega) | exact hd0 _ (by omega) | fail)
                    case hm => first | rfl | (simp; done) | (first | (simp; done) | (rw [List.length_map, (hpF m_).2]; done))
                    case hl => first | rfl | (simp; done) | (first | (simp; done) | (rw [List.length_map, (hpF m_).2]; done))
                    case hk => omega
                    refine rl0 (gn rfl) rfl rfl (step_as rfl rfl) trivial ?_
                    refine runsL_nil ?_
                    refine runs_ret ?_
                    refine ⟨by first | exact .inr rfl | exact .inl rfl, fin_mkg (resc rfl (by repeat (first | exact uE | refine uN (by omega) ?_ | assumption | exact hd _ (by omega) | exact hd0 _ (by omega) | fail)) F.agg29 (by first | rfl | (simp; done) | (first | (simp; done) | (rw [List.length_map, (hpF m_).2]; done))) (rest rfl res0)) ?_ ?_ ?_ ?_ ?_⟩
                    · (repeat' (first | exact VLe.refl _ | exact VLe.own_sl _ _ _ | exact VLe.fl_sl _ _ | exact VLe.nil_sl _ | exact VLe.nil_fl _ | exact VLes.refl _ | exact .nil | refine VLe.tup ?_ | refine VLe.agg ?_ | refine .cons ?_ ?_ | (rw [Int.natCast_add]; exact VLe.refl _) | exact vle_int (by omega) | exact vle_bool (by first | rfl | assumption | (simp_all; done) | fail) | ((rw [List.map_append]; exact VLe.own_sl _ _ _)) | fail))
                    · repeat (first | exact trivial | assumption | omega | (refine bdR_map (fun _ => ?_)) | (refine bdL_map (fun _ => ?_)) | refine ⟨?_, ?_⟩ | fail)
                    · intro k_ hk_; exact ble (by repeat (first | exact rfl | refine uN (by omega) ?_ | assumption | exact hf0 _ (by omega) | fail))
                    · intro p hp; cases hp
                    · repeat (first | exact trivial | assumption | omega | (refine bdR_map (fun _ => ?_)) | (refine bdL_map (fun _ => ?_)) | refine ⟨?_, ?_⟩ | fail)
                  · skip
                    have hgf_ := gg_f (k := 8 - gs.length) (pF := pF) (oF := oF) (m := m_) (d := d_) (gs := gs) (ps := ps) (by have q_ : (!oF m_) = false := (by assumption); simpa using q_) (by omega) (by have q_ : (!rOk (pF m_)) = false := (by assumption); simpa using q_) (by omega) (by assumption)
                    refine runsL_nil ?_
                    refine runs_cond false (ev_mk rfl) (fun h_ => nomatch h_) (fun _ => ?_)
                    refine runs_skip ?_
                    have hq0_ : (gs.map iR) ++ [[V.sc (.int .i64 m_)]] = ((gs ++ [m_]).map iR) := by simp
                    have hq1_ : (ps.map rcC) ++ ((rRc (pF m_)).map rcC) = ((ps ++ rRc (pF m_)).map rcC) := by simp
                    have hq2_ : ((gs.map iR) ++ [[V.sc (.int .i64 m_)]]).length = ((gs ++ [m_]).map iR).length := by simp
                    have hq3_ : ((ps.map rcC) ++ ((rRc (pF m_)).map rcC)).length = ((ps ++ rRc (pF m_)).map rcC).length := by simp
                    refine ⟨_, _, ?_, sle ?_ (Nat.le_refl _), (rNx (pF m_)), (rDp (pF m_)), (gs ++ [m_]), (ps ++ rRc (pF m_)), _, _, rfl, rfl, by omega, (fun k_ hk_ => by repeat (first | exact hf0 k_ hk_ | refine uN (by first | assumption | omega) ?_ | fail)), by first | ((repeat (first | exact uE | assumption | refine uN (by omega) ?_ | fail)); done) | exact tl_eq (by repeat (first | exact uE | assumption | refine uN (by omega) ?_ | fail)) (by first | rfl | (simp; done) | (simp; omega)) | (rw [← hq0_]; (repeat (first | exact uE | assumption | refine uN (by omega) ?_ | fail)); done) | (rw [← hq1_]; (repeat (first | exact uE | assumption | refine uN (by omega) ?_ | fail)); done) | (rw [← hq2_]; (repeat (first | exact uE | assumption | refine uN (by omega) ?_ | fail)); done) | (rw [← hq3_]; (repeat (first | exact uE | assumption | refine uN (by omega) ?_ | fail)); done) | (rw [← hq0_, ← hq1_, ← hq2_, ← hq3_]; (repeat (first | exact uE | assumption | refine uN (by omega) ?_ | fail)); done), by first | ((repeat (first | exact uE | assumption | refine uN (by omega) ?_ | fail)); done) | exact tl_eq (by repeat (first | exact uE | assumption | refine uN (by omega) ?_ | fail)) (by first | rfl | (simp; done) | (simp; omega)) | (rw [← hq0_]; (repeat (first | exact uE | assumption | refine uN (by omega) ?_ | fail)); done) | (rw [← hq1_]; (repeat (first | exact uE | assumption | refine uN (by omega) ?_ | fail)); done) | (rw [← hq2_]; (repeat (first | exact uE | assumption | refine uN (by omega) ?_ | fail)); done) | (rw [← hq3_]; (repeat (first | exact uE | assumption | refine uN (by omega) ?_ | fail)); done) | (rw [← hq0_, ← hq1_, ← hq2_, ← hq3_]; (repeat (first | exact uE | assumption | refine uN (by omega) ?_ | fail)); done), by (rw [List.map_append, List.map_append]; repeat (first | exact uE | assumption | refine uN (by omega) ?_ | fail)), by first | ((repeat (first | exact uE | assumption | refine uN (by omega) ?_ | fail)); done) | exact tl_eq (by repeat (first | exact uE | assumption | refine uN (by omega) ?_ | fail)) (by first | rfl | (simp; done) | (simp; omega)) | (rw [← hq0_]; (repeat (first | exact uE | assumption | refine uN (by omega) ?_ | fail)); done) | (rw [← hq1_]; (repeat (first | exact uE | assumption | refine uN (by omega) ?_ | fail)); done) | (rw [← hq2_]; (repeat (first | exact uE | assumption | refine uN (by omega) ?_ | fail)); done) | (rw [← hq3_]; (repeat (first | exact uE | assumption | refine uN (by omega) ?_ | fail)); done) | (rw [← hq0_, ← hq1_, ← hq2_, ← hq3_]; (repeat (first | exact uE | assumption | refine uN (by omega) ?_ | fail)); done), by first | ((repeat (first | exact uE | assumption | refine uN (by omega) ?_ | fail)); done) | exact tl_eq (by repeat (first | exact uE | assumption | refine uN (by omega) ?_ | fail)) (by first | rfl | (simp; done) | (simp; omega)) | (rw [← hq0_]; (repeat (first | exact uE | assumption | refine uN (by omega) ?_ | fail)); done) | (rw [← hq1_]; (repeat (first | exact uE | assumption | refine uN (by omega) ?_ | fail)); done) | (rw [← hq2_]; (repeat (first | exact uE | assumption | refine uN (by omega) ?_ | fail)); done) | (rw [← hq3_]; (repeat (first | exact uE | assumption | refine uN (by omega) ?_ | fail)); done) | (rw [← hq0_, ← hq1_, ← hq2_, ← hq3_]; (repeat (first | exact uE | assumption | refine uN (by omega) ?_ | fail)); done), by rw [List.length_append]; first | (simp; done) | (simp; omega), by rw [List.length_append, List.length_append]; first | (simp; done) | (simp; omega), by (rw [← hF0_2, show 9 - gs.length = (8 - gs.length) + 1 by omega, hgf_, List.length_append]; congr 1; first | (simp; done) | (simp; omega) | omega)⟩
                    · (rw [List.length_append]; simp; omega)
                    · (repeat' (first | exact trivial | refine ⟨⟨_, rfl, ?_⟩, ?_⟩ | fail)); all_goals (repeat' (first | exact VLe.refl _ | exact VLe.own_sl _ _ _ | exact VLe.fl_sl _ _ | exact VLe.nil_sl _ | exact VLe.nil_fl _ | exact VLes.refl _ | exact .nil | refine VLe.tup ?_ | refine VLe.agg ?_ | refine .cons ?_ ?_ | (rw [Int.natCast_add]; exact VLe.refl _) | exact vle_int (by omega) | exact vle_bool (by first | rfl | assumption | (simp_all; done) | fail) | (rw [← hq0_]; exact VLe.refl _) | (rw [hq0_]; exact VLe.refl _) | (rw [← hq1_]; exact VLe.refl _) | (rw [hq1_]; exact VLe.refl _) | (rw [← hq2_]; exact VLe.refl _) | (rw [hq2_]; exact VLe.refl _) | (rw [← hq3_]; exact VLe.refl _) | (rw [hq3_]; exact VLe.refl _) | fail))
              · skip
                refine rl0 (gy rfl rfl rfl rfl rfl rfl) rfl rfl (step_mv rfl rfl) trivial ?_
                refine rlk rfl rfl rfl rfl rfl (ngb rfl rfl) rfl rfl ?_
                refine rlk rfl rfl rfl rfl rfl (ngb rfl rfl) rfl rfl ?_
                refine rlk rfl rfl rfl rfl rfl (ngb rfl rfl) rfl rfl ?_
                refine rl0 (gy rfl rfl rfl rfl rfl rfl) rfl rfl (step_pick rfl (ev_mk rfl) (ev_mk rfl)) trivial ?_
                refine rl0 (gy rfl rfl rfl rfl rfl rfl) rfl rfl (step_pick rfl (ev_mk rfl) (ev_mk rfl)) trivial ?_
                refine rl0 (gy rfl rfl rfl rfl rfl rfl) rfl rfl (step_pick rfl (ev_mk rfl) (ev_mk rfl)) trivial ?_
                refine rl0 (gn rfl) rfl rfl (step_pick rfl (ev_mk rfl) (ev_mk rfl)) trivial ?_
                refine runsL_nil ?_
                refine runs_cond false (ev_mk rfl) (fun h_ => nomatch h_) (fun _ => ?_)
                refine runs_skip ?_
                refine runs_seq ?_
                refine runs_region ?_
                refine rl0 (gn rfl) rfl rfl (step_mv rfl rfl) trivial ?_
                refine rl0 (gn rfl) rfl rfl (step_fieldAddr (off := 0) rfl (ev_mk rfl) Try.underlying29 rfl F.sz3 rfl) trivial ?_
                refine' rls (gn rfl) rfl (step_store1 rfl rfl rfl rfl F.one3 rfl rfl ?hl ?hc) ⟨?hb, trivial⟩ ?hk ?_
                case hb => repeat (first | exact uE | refine uN (by omega) ?_ | assumption | exact hd _ (by omega) | exact hd0 _ (by omega) | fail)
                case hl => first | exact Nat.le_of_ble_eq_true rfl | decide | (simp; done) | (simp; omega) | (first | (simp; done) | (rw [List.length_map, (hpF m_).2]; done))
                case hc => first | (simp only [List.set_cons_succ, List.set_cons_zero]; rfl) | rfl
                case hk => omega
                refine runsL_nil ?_
                refine runs_seq ?_
                refine runs_region ?_
                refine rl0 (gn rfl) rfl rfl (step_fieldAddr (off := 1) rfl (ev_mk rfl) Try.underlying29 rfl F.sz26 rfl) trivial ?_
                refine' rl0 (gn rfl) rfl rfl (step_load_one rfl (ev_mk rfl) F.one26 ?hv) ⟨?hb, trivial⟩ ?_
                case hb => repeat (first | exact uE | refine uN (by omega) ?_ | assumption | exact hd _ (by omega) | exact hd0 _ (by omega) | fail)
                case hv => rfl
                refine rl0 (gn rfl) rfl rfl (step_mv rfl rfl) trivial ?_
                refine rl0 (gn rfl) rfl rfl (step_lit rfl Try.underlying26 F.sz3 F.zero3 (by first | rfl | simp) (by first | rfl | simp | decide) (by decide) rfl rfl (by first | (simp [V.cs, V.stor, oneV]; done) | (simp [V.cs, V.stor, oneV])) rfl) trivial ?_
                refine' rl1 (gn rfl) rfl rfl (step_append_own rfl rfl rfl Try.underlying26 ⟨_, Try.underlying26, fun k_ => by intro h_; cases h_⟩ F.el3 (ev_mk rfl) (ev_mk rfl) (gives_sl (.inr (.inl rfl))) ?hg) ⟨?hb, trivial⟩ (by omega) ?_
                case hb => repeat (first | exact uE | refine uN (by omega) ?_ | assumption | exact hd _ (by omega) | exact hd0 _ (by omega) | fail)
                case hg => first | (simp; omega) | (simp; done) | omega
                refine rl0 (gn rfl) rfl rfl (step_fieldAddr (off := 1) rfl (ev_mk rfl) Try.underlying29 rfl F.sz26 rfl) trivial ?_
                refine' rls (gn rfl) rfl (step_store1 rfl rfl rfl rfl F.one26 rfl rfl ?hl ?hc) ⟨?hb, trivial⟩ ?hk ?_
                case hb => repeat (first | exact uE | refine uN (by omega) ?_ | assumption | exact hd _ (by omega) | exact hd0 _ (by omega) | fail)
                case hl => first | exact Nat.le_of_ble_eq_true rfl | decide | (simp; done) | (simp; omega) | (first | (simp; done) | (rw [List.length_map, (hpF m_).2]; done))
                case hc => first | (simp only [List.set_cons_succ, List.set_cons_zero]; rfl) | rfl
                case hk => omega
                refine runsL_nil ?_
                refine runs_seq ?_
                refine runs_region ?_
                refine rl0 (gn rfl) rfl rfl (step_fieldAddr (off := 2) rfl (ev_mk rfl) Try.underlying29 rfl F.sz27 rfl) trivial ?_
                refine' rl0 (gn rfl) rfl rfl (step_load_one rfl (ev_mk rfl) F.one27 ?hv) ⟨?hb, trivial⟩ ?_
                case hb => repeat (first | exact uE | refine uN (by omega) ?_ | assumption | exact hd _ (by omega) | exact hd0 _ (by omega) | fail)
                case hv => rfl
                refine rl0 (gn rfl) rfl rfl (step_mv rfl rfl) trivial ?_
                refine' rl1 (gn rfl) rfl rfl (step_append_own rfl rfl rfl Try.underlying27 ⟨_, Try.underlying27, fun k_ => by intro h_; cases h_⟩ F.el52 (ev_mk rfl) (ev_mk rfl) (gives_sl (.inl rfl)) ?hg) ⟨?hb, trivial⟩ (by omega) ?_
                case hb => repeat (first | exact uE | refine uN (by omega) ?_ | assumption | exact hd _ (by omega) | exact hd0 _ (by omega) | fail)
                case hg => first | (simp; omega) | (simp; done) | omega
                refine rl0 (gn rfl) rfl rfl (step_fieldAddr (off := 2) rfl (ev_mk rfl) Try.underlying29 rfl F.sz27 rfl) trivial ?_
                refine' rls (gn rfl) rfl (step_store1 rfl rfl rfl rfl F.one27 rfl rfl ?hl ?hc) ⟨?hb, trivial⟩ ?hk ?_
                case hb => repeat (first | exact uE | refine uN (by omega) ?_ | assumption | exact hd _ (by omega) | exact hd0 _ (by omega) | fail)
                case hl => first | exact Nat.le_of_ble_eq_true rfl | decide | (simp; done) | (simp; omega) | (first | (simp; done) | (rw [List.length_map, (hpF m_).2]; done))
                case hc => first | (simp only [List.set_cons_succ, List.set_cons_zero]; rfl) | rfl
                case hk => omega
                refine runsL_nil ?_
                refine runs_seq ?_
                refine runs_region ?_
                refine rl0 (gn rfl) rfl rfl (step_mv rfl rfl) trivial ?_
                refine rl0 (gn rfl) rfl rfl (step_as rfl rfl) trivial ?_
                refine runsL_nil ?_
                refine runs_seq ?_
                refine runs_region ?_
                refine rl0 (gn rfl) rfl rfl (step_mv rfl rfl) trivial ?_
                refine rl_eql (gn rfl) rfl rfl rfl rfl rfl (fun h7 => ?_) (fun h7 => ?_)
                · skip
                  have hge_ := gg_e (k := 8 - gs.length) (pF := pF) (oF := oF) (m := m_) (d := d_) (gs := gs) (ps := ps) (by have q_ : (!oF m_) = false := (by assumption); simpa using q_) (by omega) (by have q_ : (!rOk (pF m_)) = false := (by assumption); simpa using q_) (by omega) (by assumption)
                  rw [← show 9 - gs.length = (8 - gs.length) + 1 by omega, hF0_2, hG] at hge_
                  obtain ⟨rfl, rfl, rfl⟩ : D = rDp (pF m_) ∧ G = gs ++ [m_] ∧ P = ps ++ rRc (pF m_) := by simpa using hge_
                  refine runsL_nil ?_
                  refine runs_cond true (ev_mk rfl) (fun _ => ?_) (fun h_ => nomatch h_)
                  refine runs_seq ?_
                  refine runs_region ?_
                  refine' rl0 (gn rfl) rfl rfl (step_load_all rfl rfl F.agg29 ?hl) ⟨?hb, trivial⟩ ?_
                  case hb => repeat (first | exact uE | refine uN (by omega) ?_ | assumption | exact hd _ (by omega) | exact hd0 _ (by omega) | fail)
                  case hl => first | rfl | (simp; done) | (first | (simp; done) | (rw [List.length_map, (hpF m_).2]; done))
                  refine' rls (gn rfl) rfl (step_storeA rfl rfl rfl rfl F.agg29 ?hm ?hl) ⟨?hb, trivial⟩ ?hk ?_
                  case hb => repeat (first | exact uE | refine uN (by omega) ?_ | assumption | exact hd _ (by omega) | exact hd0 _ (by omega) | fail)
                  case hm => first | rfl | (simp; done) | (first | (simp; done) | (rw [List.length_map, (hpF m_).2]; done))
                  case hl => first | rfl | (simp; done) | (first | (simp; done) | (rw [List.length_map, (hpF m_).2]; done))
                  case hk => omega
                  refine rl0 (gn rfl) rfl rfl (step_as rfl rfl) trivial ?_
                  refine runsL_nil ?_
                  refine runs_ret ?_
                  refine ⟨by first | exact .inr rfl | exact .inl rfl, fin_mkg (resc rfl (by repeat (first | exact uE | refine uN (by omega) ?_ | assumption | exact hd _ (by omega) | exact hd0 _ (by omega) | fail)) F.agg29 (by first | rfl | (simp; done) | (first | (simp; done) | (rw [List.length_map, (hpF m_).2]; done))) (rest rfl res0)) ?_ ?_ ?_ ?_ ?_⟩
                  · (repeat' (first | exact VLe.refl _ | exact VLe.own_sl _ _ _ | exact VLe.fl_sl _ _ | exact VLe.nil_sl _ | exact VLe.nil_fl _ | exact VLes.refl _ | exact .nil | refine VLe.tup ?_ | refine VLe.agg ?_ | refine .cons ?_ ?_ | (rw [Int.natCast_add]; exact VLe.refl _) | exact vle_int (by omega) | exact vle_bool (by first | rfl | assumption | (simp_all; done) | fail) | ((rw [List.map_append]; exact VLe.own_sl _ _ _)) | fail))
                  · repeat (first | exact trivial | assumption | omega | (refine bdR_map (fun _ => ?_)) | (refine bdL_map (fun _ => ?_)) | refine ⟨?_, ?_⟩ | fail)
                  · intro k_ hk_; exact ble (by repeat (first | exact rfl | refine uN (by omega) ?_ | assumption | exact hf0 _ (by omega) | fail))
                  · intro p hp; cases hp
                  · repeat (first | exact trivial | assumption | omega | (refine bdR_map (fun _ => ?_)) | (refine bdL_map (fun _ => ?_)) | refine ⟨?_, ?_⟩ | fail)
                · skip
                  have hgf_ := gg_f (k := 8 - gs.length) (pF := pF) (oF := oF) (m := m_) (d := d_) (gs := gs) (ps := ps) (by have q_ : (!oF m_) = false := (by assumption); simpa using q_) (by omega) (by have q_ : (!rOk (pF m_)) = false := (by assumption); simpa using q_) (by omega) (by assumption)
                  refine runsL_nil ?_
                  refine runs_cond false (ev_mk rfl) (fun h_ => nomatch h_) (fun _ => ?_)
                  refine runs_skip ?_
                  have hq0_ : (gs.map iR) ++ [[V.sc (.int .i64 m_)]] = ((gs ++ [m_]).map iR) := by simp
                  have hq1_ : (ps.map rcC) ++ ((rRc (pF m_)).map rcC) = ((ps ++ rRc (pF m_)).map rcC) := by simp
                  have hq2_ : ((gs.map iR) ++ [[V.sc (.int .i64 m_)]]).length = ((gs ++ [m_]).map iR).length := by simp
                  have hq3_ : ((ps.map rcC) ++ ((rRc (pF m_)).map rcC)).length = ((ps ++ rRc (pF m_)).map rcC).length := by simp
                  refine ⟨_, _, ?_, sle ?_ (Nat.le_refl _), (rNx (pF m_)), (rDp (pF m_)), (gs ++ [m_]), (ps ++ rRc (pF m_)), _, _, rfl, rfl, by omega, (fun k_ hk_ => by repeat (first | exact hf0 k_ hk_ | refine uN (by first | assumption | omega) ?_ | fail)), by first | ((repeat (first | exact uE | assumption | refine uN (by omega) ?_ | fail)); done) | exact tl_eq (by repeat (first | exact uE | assumption | refine uN (by omega) ?_ | fail)) (by first | rfl | (simp; done) | (simp; omega)) | (rw [← hq0_]; (repeat (first | exact uE | assumption | refine uN (by omega) ?_ | fail)); done) | (rw [← hq1_]; (repeat (first | exact uE | assumption | refine uN (by omega) ?_ | fail)); done) | (rw [← hq2_]; (repeat (first | exact uE | assumption | refine uN (by omega) ?_ | fail)); done) | (rw [← hq3_]; (repeat (first | exact uE | assumption | refine uN (by omega) ?_ | fail)); done) | (rw [← hq0_, ← hq1_, ← hq2_, ← hq3_]; (repeat (first | exact uE | assumption | refine uN (by omega) ?_ | fail)); done), by first | ((repeat (first | exact uE | assumption | refine uN (by omega) ?_ | fail)); done) | exact tl_eq (by repeat (first | exact uE | assumption | refine uN (by omega) ?_ | fail)) (by first | rfl | (simp; done) | (simp; omega)) | (rw [← hq0_]; (repeat (first | exact uE | assumption | refine uN (by omega) ?_ | fail)); done) | (rw [← hq1_]; (repeat (first | exact uE | assumption | refine uN (by omega) ?_ | fail)); done) | (rw [← hq2_]; (repeat (first | exact uE | assumption | refine uN (by omega) ?_ | fail)); done) | (rw [← hq3_]; (repeat (first | exact uE | assumption | refine uN (by omega) ?_ | fail)); done) | (rw [← hq0_, ← hq1_, ← hq2_, ← hq3_]; (repeat (first | exact uE | assumption | refine uN (by omega) ?_ | fail)); done), by (rw [List.map_append, List.map_append]; repeat (first | exact uE | assumption | refine uN (by omega) ?_ | fail)), by first | ((repeat (first | exact uE | assumption | refine uN (by omega) ?_ | fail)); done) | exact tl_eq (by repeat (first | exact uE | assumption | refine uN (by omega) ?_ | fail)) (by first | rfl | (simp; done) | (simp; omega)) | (rw [← hq0_]; (repeat (first | exact uE | assumption | refine uN (by omega) ?_ | fail)); done) | (rw [← hq1_]; (repeat (first | exact uE | assumption | refine uN (by omega) ?_ | fail)); done) | (rw [← hq2_]; (repeat (first | exact uE | assumption | refine uN (by omega) ?_ | fail)); done) | (rw [← hq3_]; (repeat (first | exact uE | assumption | refine uN (by omega) ?_ | fail)); done) | (rw [← hq0_, ← hq1_, ← hq2_, ← hq3_]; (repeat (first | exact uE | assumption | refine uN (by omega) ?_ | fail)); done), by first | ((repeat (first | exact uE | assumption | refine uN (by omega) ?_ | fail)); done) | exact tl_eq (by repeat (first | exact uE | assumption | refine uN (by omega) ?_ | fail)) (by first | rfl | (simp; done) | (simp; omega)) | (rw [← hq0_]; (repeat (first | exact uE | assumption | refine uN (by omega) ?_ | fail)); done) | (rw [← hq1_]; (repeat (first | exact uE | assumption | refine uN (by omega) ?_ | fail)); done) | (rw [← hq2_]; (repeat (first | exact uE | assumption | refine uN (by omega) ?_ | fail)); done) | (rw [← hq3_]; (repeat (first | exact uE | assumption | refine uN (by omega) ?_ | fail)); done) | (rw [← hq0_, ← hq1_, ← hq2_, ← hq3_]; (repeat (first | exact uE | assumption | refine uN (by omega) ?_ | fail)); done), by rw [List.length_append]; first | (simp; done) | (simp; omega), by rw [List.length_append, List.length_append]; first | (simp; done) | (simp; omega), by (rw [← hF0_2, show 9 - gs.length = (8 - gs.length) + 1 by omega, hgf_, List.length_append]; congr 1; first | (simp; done) | (simp; omega) | omega)⟩
                  · (rw [List.length_append]; simp; omega)
                  · (repeat' (first | exact trivial | refine ⟨⟨_, rfl, ?_⟩, ?_⟩ | fail)); all_goals (repeat' (first | exact VLe.refl _ | exact VLe.own_sl _ _ _ | exact VLe.fl_sl _ _ | exact VLe.nil_sl _ | exact VLe.nil_fl _ | exact VLes.refl _ | exact .nil | refine VLe.tup ?_ | refine VLe.agg ?_ | refine .cons ?_ ?_ | (rw [Int.natCast_add]; exact VLe.refl _) | exact vle_int (by omega) | exact vle_bool (by first | rfl | assumption | (simp_all; done) | fail) | (rw [← hq0_]; exact VLe.refl _) | (rw [hq0_]; exact VLe.refl _) | (rw [← hq1_]; exact VLe.refl _) | (rw [hq1_]; exact VLe.refl _) | (rw [← hq2_]; exact VLe.refl _) | (rw [hq2_]; exact VLe.refl _) | (rw [← hq3_]; exact VLe.refl _) | (rw [hq3_]; exact VLe.refl _) | fail))
          · skip
            refine rl0 (gy rfl rfl rfl rfl rfl rfl) rfl rfl (step_mv rfl rfl) trivial ?_
            refine rlk rfl rfl rfl rfl rfl (ngb rfl rfl) rfl rfl ?_
            refine rlk rfl rfl rfl rfl rfl (ngb rfl rfl) rfl rfl ?_
            refine rlk rfl rfl rfl rfl rfl (ngb rfl rfl) rfl rfl ?_
            refine rlk rfl rfl rfl rfl rfl (ngb rfl rfl) rfl rfl ?_
            refine rlk rfl rfl rfl rfl rfl (ngb rfl rfl) rfl rfl ?_
            refine rlk rfl rfl rfl rfl rfl (ngu rfl) rfl rfl ?_
            refine rlk rfl rfl rfl rfl rfl (ngu rfl) rfl rfl ?_
            refine rlk rfl rfl rfl rfl rfl (ngu rfl) rfl rfl ?_
            refine rlk rfl rfl rfl rfl rfl (ngu rfl) rfl rfl ?_
            refine rlk rfl rfl rfl rfl rfl (ngu rfl) rfl rfl ?_
            refine rlk rfl rfl rfl rfl rfl (ngu rfl) rfl rfl ?_
            refine rlk rfl rfl rfl rfl rfl (ngu rfl) rfl rfl ?_
            refine rlk rfl rfl rfl rfl rfl (ngu rfl) rfl rfl ?_
            refine rlk rfl rfl rfl rfl rfl (ngu rfl) rfl rfl ?_
            refine rlk rfl rfl rfl rfl rfl (ngu rfl) rfl rfl ?_
            refine rlk rfl rfl rfl rfl rfl (ngu rfl) rfl rfl ?_
            refine rlk rfl rfl rfl rfl rfl (ngu rfl) rfl rfl ?_
            refine rlk rfl rfl rfl rfl rfl (ngu rfl) rfl rfl ?_
            refine rlk rfl rfl rfl rfl rfl (ngb rfl rfl) rfl rfl ?_
            refine rl0 (gy rfl rfl rfl rfl rfl rfl) rfl rfl (step_pick rfl (ev_mk rfl) (ev_mk rfl)) trivial ?_
            refine rl0 (gn rfl) rfl rfl (step_pick rfl (ev_mk rfl) (ev_mk rfl)) trivial ?_
            refine runsL_nil ?_
            refine runs_cond false (ev_mk rfl) (fun h_ => nomatch h_) (fun _ => ?_)
            refine runs_skip ?_
            refine runs_seq ?_
            refine runs_region ?_
            refine rl0 (gn rfl) rfl rfl (step_mv rfl rfl) trivial ?_
            refine rl0 (gn rfl) rfl rfl (step_fieldAddr (off := 0) rfl (ev_mk rfl) Try.underlying29 rfl F.sz3 rfl) trivial ?_
            refine' rls (gn rfl) rfl (step_store1 rfl rfl rfl rfl F.one3 rfl rfl ?hl ?hc) ⟨?hb, trivial⟩ ?hk ?_
            case hb => repeat (first | exact uE | refine uN (by omega) ?_ | assumption | exact hd _ (by omega) | exact hd0 _ (by omega) | fail)
            case hl => first | exact Nat.le_of_ble_eq_true rfl | decide | (simp; done) | (simp; omega) | (first | (simp; done) | (rw [List.length_map, (hpF m_).2]; done))
            case hc => first | (simp only [List.set_cons_succ, List.set_cons_zero]; rfl) | rfl
            case hk => omega
            refine runsL_nil ?_
            refine runs_seq ?_
            refine runs_region ?_
            refine rl0 (gn rfl) rfl rfl (step_fieldAddr (off := 1) rfl (ev_mk rfl) Try.underlying29 rfl F.sz26 rfl) trivial ?_
            refine' rl0 (gn rfl) rfl rfl (step_load_one rfl (ev_mk rfl) F.one26 ?hv) ⟨?hb, trivial⟩ ?_
            case hb => repeat (first | exact uE | refine uN (by omega) ?_ | assumption | exact hd _ (by omega) | exact hd0 _ (by omega) | fail)
            case hv => rfl
            refine rl0 (gn rfl) rfl rfl (step_mv rfl rfl) trivial ?_
            refine rl0 (gn rfl) rfl rfl (step_lit rfl Try.underlying26 F.sz3 F.zero3 (by first | rfl | simp) (by first | rfl | simp | decide) (by decide) rfl rfl (by first | (simp [V.cs, V.stor, oneV]; done) | (simp [V.cs, V.stor, oneV])) rfl) trivial ?_
            refine' rl1 (gn rfl) rfl rfl (step_append_own rfl rfl rfl Try.underlying26 ⟨_, Try.underlying26, fun k_ => by intro h_; cases h_⟩ F.el3 (ev_mk rfl) (ev_mk rfl) (gives_sl (.inr (.inl rfl))) ?hg) ⟨?hb, trivial⟩ (by omega) ?_
            case hb => repeat (first | exact uE | refine uN (by omega) ?_ | assumption | exact hd _ (by omega) | exact hd0 _ (by omega) | fail)
            case hg => first | (simp; omega) | (simp; done) | omega
            refine rl0 (gn rfl) rfl rfl (step_fieldAddr (off := 1) rfl (ev_mk rfl) Try.underlying29 rfl F.sz26 rfl) trivial ?_
            refine' rls (gn rfl) rfl (step_store1 rfl rfl rfl rfl F.one26 rfl rfl ?hl ?hc) ⟨?hb, trivial⟩ ?hk ?_
            case hb => repeat (first | exact uE | refine uN (by omega) ?_ | assumption | exact hd _ (by omega) | exact hd0 _ (by omega) | fail)
            case hl => first | exact Nat.le_of_ble_eq_true rfl | decide | (simp; done) | (simp; omega) | (first | (simp; done) | (rw [List.length_map, (hpF m_).2]; done))
            case hc => first | (simp only [List.set_cons_succ, List.set_cons_zero]; rfl) | rfl
            case hk => omega
            refine runsL_nil ?_
            refine runs_seq ?_
            refine runs_region ?_
            refine rl0 (gn rfl) rfl rfl (step_fieldAddr (off := 2) rfl (ev_mk rfl) Try.underlying29 rfl F.sz27 rfl) trivial ?_
            refine' rl0 (gn rfl) rfl rfl (step_load_one rfl (ev_mk rfl) F.one27 ?hv) ⟨?hb, trivial⟩ ?_
            case hb => repeat (first | exact uE | refine uN (by omega) ?_ | assumption | exact hd _ (by omega) | exact hd0 _ (by omega) | fail)
            case hv => rfl
            refine rl0 (gn rfl) rfl rfl (step_mv rfl rfl) trivial ?_
            refine' rl1 (gn rfl) rfl rfl (step_append_own rfl rfl rfl Try.underlying27 ⟨_, Try.underlying27, fun k_ => by intro h_; cases h_⟩ F.el52 (ev_mk rfl) (ev_mk rfl) (gives_sl (.inl rfl)) ?hg) ⟨?hb, trivial⟩ (by omega) ?_
            case hb => repeat (first | exact uE | refine uN (by omega) ?_ | assumption | exact hd _ (by omega) | exact hd0 _ (by omega) | fail)
            case hg => first | (simp; omega) | (simp; done) | omega
            refine rl0 (gn rfl) rfl rfl (step_fieldAddr (off := 2) rfl (ev_mk rfl) Try.underlying29 rfl F.sz27 rfl) trivial ?_
            refine' rls (gn rfl) rfl (step_store1 rfl rfl rfl rfl F.one27 rfl rfl ?hl ?hc) ⟨?hb, trivial⟩ ?hk ?_
            case hb => repeat (first | exact uE | refine uN (by omega) ?_ | assumption | exact hd _ (by omega) | exact hd0 _ (by omega) | fail)
            case hl => first | exact Nat.le_of_ble_eq_true rfl | decide | (simp; done) | (simp; omega) | (first | (simp; done) | (rw [List.length_map, (hpF m_).2]; done))
            case hc => first | (simp only [List.set_cons_succ, List.set_cons_zero]; rfl) | rfl
            case hk => omega
            refine runsL_nil ?_
            refine runs_seq ?_
            refine runs_region ?_
            refine rl0 (gn rfl) rfl rfl (step_mv rfl rfl) trivial ?_
            refine rl0 (gn rfl) rfl rfl (step_as rfl rfl) trivial ?_
            refine runsL_nil ?_
            refine runs_seq ?_
            refine runs_region ?_
            refine rl0 (gn rfl) rfl rfl (step_mv rfl rfl) trivial ?_
            refine rl_eql (gn rfl) rfl rfl rfl rfl rfl (fun h5 => ?_) (fun h5 => ?_)
            · skip
              have hge_ := gg_e (k := 8 - gs.length) (pF := pF) (oF := oF) (m := m_) (d := d_) (gs := gs) (ps := ps) (by have q_ : (!oF m_) = false := (by assumption); simpa using q_) (by omega) (by have q_ : (!rOk (pF m_)) = false := (by assumption); simpa using q_) (by omega) (by assumption)
              rw [← show 9 - gs.length = (8 - gs.length) + 1 by omega, hF0_2, hG] at hge_
              obtain ⟨rfl, rfl, rfl⟩ : D = rDp (pF m_) ∧ G = gs ++ [m_] ∧ P = ps ++ rRc (pF m_) := by simpa using hge_
              refine runsL_nil ?_
              refine runs_cond true (ev_mk rfl) (fun _ => ?_) (fun h_ => nomatch h_)
              refine runs_seq ?_
              refine runs_region ?_
              refine' rl0 (gn rfl) rfl rfl (step_load_all rfl rfl F.agg29 ?hl) ⟨?hb, trivial⟩ ?_
              case hb => repeat (first | exact uE | refine uN (by omega) ?_ | assumption | exact hd _ (by omega) | exact hd0 _ (by omega) | fail)
              case hl => first | rfl | (simp; done) | (first | (simp; done) | (rw [List.length_map, (hpF m_).2]; done))
              refine' rls (gn rfl) rfl (step_storeA rfl rfl rfl rfl F.agg29 ?hm ?hl) ⟨?hb, trivial⟩ ?hk ?_
              case hb => repeat (first | exact uE | refine uN (by omega) ?_ | assumption | exact hd _ (by omega) | exact hd0 _ (by omega) | fail)
              case hm => first | rfl | (simp; done) | (first | (simp; done) | (rw [List.length_map, (hpF m_).2]; done))
              case hl => first | rfl | (simp; done) | (first | (simp; done) | (rw [List.length_map, (hpF m_).2]; done))
              case hk => omega
              refine rl0 (gn rfl) rfl rfl (step_as rfl rfl) trivial ?_
              refine runsL_nil ?_
              refine runs_ret ?_
              refine ⟨by first | exact .inr rfl | exact .inl rfl, fin_mkg (resc rfl (by repeat (first | exact uE | refine uN (by omega) ?_ | assumption | exact hd _ (by omega) | exact hd0 _ (by omega) | fail)) F.agg29 (by first | rfl | (simp; done) | (first | (simp; done) | (rw [List.length_map, (hpF m_).2]; done))) (rest rfl res0)) ?_ ?_ ?_ ?_ ?_⟩
              · (repeat' (first | exact VLe.refl _ | exact VLe.own_sl _ _ _ | exact VLe.fl_sl _ _ | exact VLe.nil_sl _ | exact VLe.nil_fl _ | exact VLes.refl _ | exact .nil | refine VLe.tup ?_ | refine VLe.agg ?_ | refine .cons ?_ ?_ | (rw [Int.natCast_add]; exact VLe.refl _) | exact vle_int (by omega) | exact vle_bool (by first | rfl | assumption | (simp_all; done) | fail) | ((rw [List.map_append]; exact VLe.own_sl _ _ _)) | fail))
              · repeat (first | exact trivial | assumption | omega | (refine bdR_map (fun _ => ?_)) | (refine bdL_map (fun _ => ?_)) | refine ⟨?_, ?_⟩ | fail)
              · intro k_ hk_; exact ble (by repeat (first | exact rfl | refine uN (by omega) ?_ | assumption | exact hf0 _ (by omega) | fail))
              · intro p hp; cases hp
              · repeat (first | exact trivial | assumption | omega | (refine bdR_map (fun _ => ?_)) | (refine bdL_map (fun _ => ?_)) | refine ⟨?_, ?_⟩ | fail)
            · skip
              have hgf_ := gg_f (k := 8 - gs.length) (pF := pF) (oF := oF) (m := m_) (d := d_) (gs := gs) (ps := ps) (by have q_ : (!oF m_) = false := (by assumption); simpa using q_) (by omega) (by have q_ : (!rOk (pF m_)) = false := (by assumption); simpa using q_) (by omega) (by assumption)
              refine runsL_nil ?_
              refine runs_cond false (ev_mk rfl) (fun h_ => nomatch h_) (fun _ => ?_)
              refine runs_skip ?_
              have hq0_ : (gs.map iR) ++ [[V.sc (.int .i64 m_)]] = ((gs ++ [m_]).map iR) := by simp
              have hq1_ : (ps.map rcC) ++ ((rRc (pF m_)).map rcC) = ((ps ++ rRc (pF m_)).map rcC) := by simp
              have hq2_ : ((gs.map iR) ++ [[V.sc (.int .i64 m_)]]).length = ((gs ++ [m_]).map iR).length := by simp
              have hq3_ : ((ps.map rcC) ++ ((rRc (pF m_)).map rcC)).length = ((ps ++ rRc (pF m_)).map rcC).length := by simp
              refine ⟨_, _, ?_, sle ?_ (Nat.le_refl _), (rNx (pF m_)), (rDp (pF m_)), (gs ++ [m_]), (ps ++ rRc (pF m_)), _, _, rfl, rfl, by omega, (fun k_ hk_ => by repeat (first | exact hf0 k_ hk_ | refine uN (by first | assumption | omega) ?_ | fail)), by first | ((repeat (first | exact uE | assumption | refine uN (by omega) ?_ | fail)); done) | exact tl_eq (by repeat (first | exact uE | assumption | refine uN (by omega) ?_ | fail)) (by first | rfl | (simp; done) | (simp; omega)) | (rw [← hq0_]; (repeat (first | exact uE | assumption | refine uN (by omega) ?_ | fail)); done) | (rw [← hq1_]; (repeat (first | exact uE | assumption | refine uN (by omega) ?_ | fail)); done) | (rw [← hq2_]; (repeat (first | exact uE | assumption | refine uN (by omega) ?_ | fail)); done) | (rw [← hq3_]; (repeat (first | exact uE | assumption | refine uN (by omega) ?_ | fail)); done) | (rw [← hq0_, ← hq1_, ← hq2_, ← hq3_]; (repeat (first | exact uE | assumption | refine uN (by omega) ?_ | fail)); done), by first | ((repeat (first | exact uE | assumption | refine uN (by omega) ?_ | fail)); done) | exact tl_eq (by repeat (first | exact uE | assumption | refine uN (by omega) ?_ | fail)) (by first | rfl | (simp; done) | (simp; omega)) | (rw [← hq0_]; (repeat (first | exact uE | assumption | refine uN (by omega) ?_ | fail)); done) | (rw [← hq1_]; (repeat (first | exact uE | assumption | refine uN (by omega) ?_ | fail)); done) | (rw [← hq2_]; (repeat (first | exact uE | assumption | refine uN (by omega) ?_ | fail)); done) | (rw [← hq3_]; (repeat (first | exact uE | assumption | refine uN (by omega) ?_ | fail)); done) | (rw [← hq0_, ← hq1_, ← hq2_, ← hq3_]; (repeat (first | exact uE | assumption | refine uN (by omega) ?_ | fail)); done), by (rw [List.map_append, List.map_append]; repeat (first | exact uE | assumption | refine uN (by omega) ?_ | fail)), by first | ((repeat (first | exact uE | assumption | refine uN (by omega) ?_ | fail)); done) | exact tl_eq (by repeat (first | exact uE | assumption | refine uN (by omega) ?_ | fail)) (by first | rfl | (simp; done) | (simp; omega)) | (rw [← hq0_]; (repeat (first | exact uE | assumption | refine uN (by omega) ?_ | fail)); done) | (rw [← hq1_]; (repeat (first | exact uE | assumption | refine uN (by omega) ?_ | fail)); done) | (rw [← hq2_]; (repeat (first | exact uE | assumption | refine uN (by omega) ?_ | fail)); done) | (rw [← hq3_]; (repeat (first | exact uE | assumption | refine uN (by omega) ?_ | fail)); done) | (rw [← hq0_, ← hq1_, ← hq2_, ← hq3_]; (repeat (first | exact uE | assumption | refine uN (by omega) ?_ | fail)); done), by first | ((repeat (first | exact uE | assumption | refine uN (by omega) ?_ | fail)); done) | exact tl_eq (by repeat (first | exact uE | assumption | refine uN (by omega) ?_ | fail)) (by first | rfl | (simp; done) | (simp; omega)) | (rw [← hq0_]; (repeat (first | exact uE | assumption | refine uN (by omega) ?_ | fail)); done) | (rw [← hq1_]; (repeat (first | exact uE | assumption | refine uN (by omega) ?_ | fail)); done) | (rw [← hq2_]; (repeat (first | exact uE | assumption | refine uN (by omega) ?_ | fail)); done) | (rw [← hq3_]; (repeat (first | exact uE | assumption | refine uN (by omega) ?_ | fail)); done) | (rw [← hq0_, ← hq1_, ← hq2_, ← hq3_]; (repeat (first | exact uE | assumption | refine uN (by omega) ?_ | fail)); done), by rw [List.length_append]; first | (simp; done) | (simp; omega), by rw [List.length_append, List.length_append]; first | (simp; done) | (simp; omega), by (rw [← hF0_2, show 9 - gs.length = (8 - gs.length) + 1 by omega, hgf_, List.length_append]; congr 1; first | (simp; done) | (simp; omega) | omega)⟩
              · (rw [List.length_append]; simp; omega)
              · (repeat' (first | exact trivial | refine ⟨⟨_, rfl, ?_⟩, ?_⟩ | fail)); all_goals (repeat' (first | exact VLe.refl _ | exact VLe.own_sl _ _ _ | exact VLe.fl_sl _ _ | exact VLe.nil_sl _ | exact VLe.nil_fl _ | exact VLes.refl _ | exact .nil | refine VLe.tup ?_ | refine VLe.agg ?_ | refine .cons ?_ ?_ | (rw [Int.natCast_add]; exact VLe.refl _) | exact vle_int (by omega) | exact vle_bool (by first | rfl | assumption | (simp_all; done) | fail) | (rw [← hq0_]; exact VLe.refl _) | (rw [hq0_]; exact VLe.refl _) | (rw [← hq1_]; exact VLe.refl _) | (rw [hq1_]; exact VLe.refl _) | (rw [← hq2_]; exact VLe.refl _) | (rw [hq2_]; exact VLe.refl _) | (rw [← hq3_]; exact VLe.refl _) | (rw [hq3_]; exact VLe.refl _) | fail))
end Go.Proofs.Ytldlmmpniddbcaa
