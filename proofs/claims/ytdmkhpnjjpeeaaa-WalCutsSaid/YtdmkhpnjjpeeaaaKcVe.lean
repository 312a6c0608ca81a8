import Derived.Test.YtdmkhpnjjpeeaaaKcQq
import Derived.Test.YtdmkhpnjjpeeaaaKcVd
import Derived.Test.YtdmkhpnjjpeeaaaKcWa
import Derived.Test.YtdmkhpnjjpeeaaaKcWc
import Derived.Test.YtdmkhpnjjpeeaaaKcWd
import Derived.Test.YtdmkhpnjjpeeaaaKcWe
import Derived.Test.YtdmkhpnjjpeeaaaKcVmT
import Derived.Test.YtdmkhpnjjpeeaaaKcVmP
namespace Go.Proofs.Ytdmkhpnjjpeeaaa
open Go.Vm
set_option linter.unusedVariables false
set_option linter.unusedSimpArgs false
def pgS (l : List Im) : Nat → Bool
  | 0 => true
  | j + 1 => pgS l j && decide (0 ≤ (at' l (j : Int)).n ∧ (at' l (j : Int)).n ≤ 255 ∧ (j = 0 ∨ (at' l ((j : Int) - 1)).n < (at' l (j : Int)).n))
theorem pgS_mono {l : List Im} {j : Nat} (h : pgS l j = false) : ∀ n, j ≤ n → pgS l n = false
  | 0, hn => by rw [show (0 : Nat) = j by omega]; exact h
  | n + 1, hn => by
    by_cases he : j = n + 1
    · rw [← he]; exact h
    · unfold pgS; rw [pgS_mono h n (by omega)]; rfl
theorem pgS_bad {l : List Im} {j : Nat} (hj : j < l.length) (h : ¬ (0 ≤ (at' l (j : Int)).n ∧ (at' l (j : Int)).n ≤ 255 ∧ (j = 0 ∨ (at' l ((j : Int) - 1)).n < (at' l (j : Int)).n))) : pgS l l.length = false :=
  pgS_mono (j := j + 1) (by unfold pgS; rw [decide_eq_false h]; simp) _ hj
theorem pgS_up {l : List Im} {j : Nat} (h0 : pgS l j = true) (h : 0 ≤ (at' l (j : Int)).n ∧ (at' l (j : Int)).n ≤ 255 ∧ (j = 0 ∨ (at' l ((j : Int) - 1)).n < (at' l (j : Int)).n)) : pgS l (j + 1) = true := by unfold pgS; rw [h0, decide_eq_true h]; rfl
def chkF (e : En) : Int := if e.kind < 1 ∨ e.kind > 10 then 1 else if e.r.val.size > 15 then 9 else if e.pages.length > 24 ∨ e.act.length > 64 then 13 else if pgS e.pages e.pages.length = true then 0 else 2
def okPg (e : En) : Prop := ∀ m ∈ e.pages, m.p.length = 224
theorem imR_len {m : Im} (h : m.p.length = 224) : (imR m).length = 225 := by unfold imR; simp [h]
set_option maxRecDepth 100000 in
set_option maxHeartbeats 4000000 in
theorem check_c (e : En) (hL : (e.pages.length : Int) ≤ 9223372036854775807 ∧ (e.act.length : Int) ≤ 9223372036854775807) (hpg : okPg e) : Does Try.prog 60 [.agg (enC e)] [] [] (.sc (.int .i64 (chkF e))) := by
  refine does_mkg 40 Try.func60 rfl rfl rfl (fun n B bx hd hpre hup hvs hbx hgx => ?_);refine runs_seq ?_;refine runs_region ?_;refine rl1 (gn rfl) rfl rfl (step_box_agg (k := n + 0) rfl rfl) ⟨t_0, trivial⟩ (by omega) ?_;refine rl0 (gn rfl) rfl rfl (step_as rfl rfl) trivial ?_;refine runsL_nil ?_;refine runs_seq ?_;refine runs_block ?_;refine runs_seq ?_;refine runs_region ?_;refine rl0 (gn rfl) rfl rfl (step_fieldAddr (off := 1) rfl (ev_mk rfl) Try.underlying40 rfl F.sz3 rfl) trivial ?_;refine' rl0 (gn rfl) rfl rfl (step_load_one rfl (ev_mk rfl) F.one3 ?hv) ⟨?hb, trivial⟩ ?_
  case hb => exact t_0
  case hv => rfl
  refine rl_lss (gn rfl) rfl rfl rfl rfl rfl (fun h1 => ?_) (fun h1 => ?_)
  · skip
    refine rl0 (gn rfl) rfl rfl (step_mv rfl rfl) trivial ?_;refine rlk rfl rfl rfl rfl rfl (ngb rfl rfl) rfl rfl ?_;refine rlk rfl rfl rfl rfl rfl (ngb rfl rfl) rfl rfl ?_;refine rlk rfl rfl rfl rfl rfl (ngb rfl rfl) rfl rfl ?_;refine rl0 (gn rfl) rfl rfl (step_pick rfl (ev_mk rfl) (ev_mk rfl)) trivial ?_;refine rl0 (gn rfl) rfl rfl (step_as rfl rfl) trivial ?_;refine runsL_nil ?_;refine runs_cond true (ev_mk rfl) (fun _ => ?_) (fun h_ => nomatch h_);refine runs_seq ?_;refine runs_region ?_;refine rl0 (gn rfl) rfl rfl (step_as rfl rfl) trivial ?_;refine runsL_nil ?_;refine runs_ret ?_;refine ⟨t_17, fin_mkg (rest rfl res0) ?_ ?_ ?_ ?_ ?_⟩
    · exact t_7
    · exact t_1
    · exact t_142
    · exact t_45
    · exact t_1
  · skip
    refine rl0 (gn rfl) rfl rfl (step_mv rfl rfl) trivial ?_;refine rl0 (gy rfl rfl rfl rfl rfl rfl) rfl rfl (step_fieldAddr (off := 1) rfl (ev_mk rfl) Try.underlying40 rfl F.sz3 rfl) trivial ?_;refine' rl0 (gy rfl rfl rfl rfl rfl rfl) rfl rfl (step_load_one rfl (ev_mk rfl) F.one3 ?hv) ⟨?hb, trivial⟩ ?_
    case hb => exact t_0
    case hv => rfl
    refine rl_gtr (gy rfl rfl rfl rfl rfl rfl) rfl rfl rfl rfl rfl (fun h2 => ?_) (fun h2 => ?_)
    · skip
      refine rl0 (gn rfl) rfl rfl (step_pick rfl (ev_mk rfl) (ev_mk rfl)) trivial ?_;refine rl0 (gn rfl) rfl rfl (step_as rfl rfl) trivial ?_;refine runsL_nil ?_;refine runs_cond true (ev_mk rfl) (fun _ => ?_) (fun h_ => nomatch h_);refine runs_seq ?_;refine runs_region ?_;refine rl0 (gn rfl) rfl rfl (step_as rfl rfl) trivial ?_;refine runsL_nil ?_;refine runs_ret ?_;refine ⟨t_17, fin_mkg (rest rfl res0) ?_ ?_ ?_ ?_ ?_⟩
      · exact t_7
      · exact t_1
      · exact t_142
      · exact t_45
      · exact t_1
    · skip
      refine rl0 (gn rfl) rfl rfl (step_pick rfl (ev_mk rfl) (ev_mk rfl)) trivial ?_;refine rl0 (gn rfl) rfl rfl (step_as rfl rfl) trivial ?_;refine runsL_nil ?_;refine runs_cond false (ev_mk rfl) (fun h_ => nomatch h_) (fun _ => ?_);refine runs_seq ?_;refine runs_region ?_;refine rl0 (gn rfl) rfl rfl (step_fieldAddr (off := 5) rfl (ev_mk rfl) Try.underlying40 rfl F.sz36 rfl) trivial ?_;refine rl0 (gn rfl) rfl rfl (step_fieldAddr (off := 4) rfl (ev_mk rfl) Try.underlying36 rfl F.sz9 rfl) trivial ?_;refine' rl0 (gn rfl) rfl rfl (step_load_one rfl (ev_mk rfl) F.one9 ?hv) ⟨?hb, trivial⟩ ?_
      case hb => exact t_0
      case hv => rfl
      refine rl0 (gn rfl) rfl rfl (step_len rfl rfl (ev_mk rfl) (.inr (.inl ⟨Try.underlying9, _, rfl, rfl⟩))) trivial ?_;refine rl_gtr (gn rfl) rfl rfl rfl rfl rfl (fun h3 => ?_) (fun h3 => ?_)
      · skip
        refine rl0 (gn rfl) rfl rfl (step_as rfl rfl) trivial ?_;refine runsL_nil ?_;refine runs_cond true (ev_mk rfl) (fun _ => ?_) (fun h_ => nomatch h_);refine runs_seq ?_;refine runs_region ?_;refine rl0 (gn rfl) rfl rfl (step_as rfl rfl) trivial ?_;refine runsL_nil ?_;refine runs_ret ?_;refine ⟨t_17, fin_mkg (rest rfl res0) ?_ ?_ ?_ ?_ ?_⟩
        · exact t_7
        · exact t_1
        · exact t_142
        · exact t_45
        · exact t_1
      · skip
        refine rl0 (gn rfl) rfl rfl (step_as rfl rfl) trivial ?_;refine runsL_nil ?_;refine runs_cond false (ev_mk rfl) (fun h_ => nomatch h_) (fun _ => ?_);refine runs_seq ?_;refine runs_region ?_;refine rl0 (gn rfl) rfl rfl (step_fieldAddr (off := 11) rfl (ev_mk rfl) Try.underlying40 rfl F.sz37 rfl) trivial ?_;refine' rl0 (gn rfl) rfl rfl (step_load_one rfl (ev_mk rfl) F.one37 ?hv) ⟨?hb, trivial⟩ ?_
        case hb => exact t_0
        case hv => rfl
        refine rl0 (gn rfl) rfl rfl (step_len (m := e.pages.length) rfl rfl (ev_mk rfl) (.inl ⟨⟨_, Try.underlying37⟩, .inl ⟨_, _, .inl rfl, List.length_map _⟩⟩)) trivial ?_;refine rl_gtr (gn rfl) rfl rfl rfl rfl rfl (fun h4 => ?_) (fun h4 => ?_)
        · skip
          refine rl0 (gn rfl) rfl rfl (step_mv rfl rfl) trivial ?_;refine rlk rfl rfl rfl rfl rfl (ngb rfl rfl) rfl rfl ?_;refine rlk rfl rfl rfl rfl rfl (ngb rfl rfl) rfl rfl ?_;refine rlk rfl rfl rfl rfl rfl (ngb rfl rfl) rfl rfl ?_;refine rlk rfl rfl rfl rfl rfl (ngb rfl rfl) rfl rfl ?_;refine rl0 (gn rfl) rfl rfl (step_pick rfl (ev_mk rfl) (ev_mk rfl)) trivial ?_;refine rl0 (gn rfl) rfl rfl (step_as rfl rfl) trivial ?_;refine runsL_nil ?_;refine runs_cond true (ev_mk rfl) (fun _ => ?_) (fun h_ => nomatch h_);refine runs_seq ?_;refine runs_region ?_;refine rl0 (gn rfl) rfl rfl (step_as rfl rfl) trivial ?_;refine runsL_nil ?_;refine runs_ret ?_;refine ⟨t_17, fin_mkg (rest rfl res0) ?_ ?_ ?_ ?_ ?_⟩
          · exact t_7
          · exact t_1
          · exact t_142
          · exact t_45
          · exact t_1
        · skip
          refine rl0 (gn rfl) rfl rfl (step_mv rfl rfl) trivial ?_;refine rl0 (gy rfl rfl rfl rfl rfl rfl) rfl rfl (step_fieldAddr (off := 12) rfl (ev_mk rfl) Try.underlying40 rfl F.sz38 rfl) trivial ?_;refine' rl0 (gy rfl rfl rfl rfl rfl rfl) rfl rfl (step_load_one rfl (ev_mk rfl) F.one38 ?hv) ⟨?hb, trivial⟩ ?_
          case hb => exact t_0
          case hv => rfl
          refine rl0 (gy rfl rfl rfl rfl rfl rfl) rfl rfl (step_len (m := e.act.length) rfl rfl (ev_mk rfl) (.inl ⟨⟨_, Try.underlying38⟩, .inl ⟨_, _, .inl rfl, List.length_map _⟩⟩)) trivial ?_;refine rl_gtr (gy rfl rfl rfl rfl rfl rfl) rfl rfl rfl rfl rfl (fun h5 => ?_) (fun h5 => ?_)
          · skip
            refine rl0 (gn rfl) rfl rfl (step_pick rfl (ev_mk rfl) (ev_mk rfl)) trivial ?_;refine rl0 (gn rfl) rfl rfl (step_as rfl rfl) trivial ?_;refine runsL_nil ?_;refine runs_cond true (ev_mk rfl) (fun _ => ?_) (fun h_ => nomatch h_);refine runs_seq ?_;refine runs_region ?_;refine rl0 (gn rfl) rfl rfl (step_as rfl rfl) trivial ?_;refine runsL_nil ?_;refine runs_ret ?_;refine ⟨t_17, fin_mkg (rest rfl res0) ?_ ?_ ?_ ?_ ?_⟩
            · exact t_7
            · exact t_1
            · exact t_142
            · exact t_45
            · exact t_1
          · skip
            refine rl0 (gn rfl) rfl rfl (step_pick rfl (ev_mk rfl) (ev_mk rfl)) trivial ?_;refine rl0 (gn rfl) rfl rfl (step_as rfl rfl) trivial ?_;refine runsL_nil ?_;refine runs_cond false (ev_mk rfl) (fun h_ => nomatch h_) (fun _ => ?_);refine runs_skip ?_;refine runs_seq ?_;refine runs_seq ?_;refine runs_region ?_;refine rl0 (gn rfl) rfl rfl (step_fieldAddr (off := 11) rfl (ev_mk rfl) Try.underlying40 rfl F.sz37 rfl) trivial ?_;refine' rl0 (gn rfl) rfl rfl (step_load_one rfl (ev_mk rfl) F.one37 ?hv) ⟨?hb, trivial⟩ ?_
            case hb => exact t_0
            case hv => rfl
            refine rl0 (gn rfl) rfl rfl (step_len (m := e.pages.length) rfl rfl (ev_mk rfl) (.inl ⟨⟨_, Try.underlying37⟩, .inl ⟨_, _, .inl rfl, List.length_map _⟩⟩)) trivial ?_;refine rl0 (gn rfl) rfl rfl (step_mv rfl rfl) trivial ?_;refine runsL_nil ?_;refine runs_block ?_;refine runs_loop (fun (ri_ : Nat) (st_ : Go.Vm.S) => ∃ (j : Nat) (m0 : Nat) (b0 : Nat → Box), (st_ = ⟨mk [(1, .ref (n + 0) 0), (2, .sc (.int .i64 0)), (32, .sl 225 (e.pages.map imR)), (33, .sc (.int .i64 e.pages.length)), (34, .sc (.int .i64 j))], m0, b0⟩) ∧ (ri_ = e.pages.length - j) ∧ (n + 1 ≤ m0) ∧ (∀ k_, k_ < n → b0 k_ = bx k_) ∧ (b0 (n + 0) = .cells [.sc (.int .u64 e.lsn), .sc (.int .i64 e.kind), .sc (.int .u64 e.txn), .sc (.int .u64 e.prev), .sc (.int .u64 e.next), .sc (.int .u64 e.r.id), .sc (.int .u64 e.r.key), .sc (.int .u32 e.r.x), .sc (.int .u32 e.r.y), .sc (.string e.r.val), .sc (.bool e.r.gh), .sl 225 (e.pages.map imR), .sl 1 (e.act.map acR)]) ∧ (j ≤ e.pages.length) ∧ (pgS e.pages j = true)) (e.pages.length - 0) ⟨_, sle ?_ (Nat.le_refl _), 0, _, _, rfl, rfl, ?_⟩ ?_
            · exact t_129
            · exact t_155
            · rintro _ _ ⟨j, m0, b0, rfl, rfl, hm0, hf0, hB0_0, hF0_0, hF0_1⟩
              refine runs_know (fun hd0 => ?_);refine runs_bump 20 ?_;simp only at hd0;refine runs_seq ?_;refine runs_region ?_;refine rl_lss (gn rfl) rfl rfl rfl rfl rfl (fun h6 => ?_) (fun h6 => ?_)
              · skip
                refine runsL_nil ?_;refine runs_seq ?_;refine runs_cond true (ev_mk rfl) (fun _ => ?_) (fun h_ => nomatch h_);refine runs_skip ?_;refine runs_seq ?_;refine runs_block ?_;refine runs_seq ?_;refine runs_region ?_;refine rl0 (gn rfl) rfl rfl (step_mv rfl rfl) trivial ?_;refine' rl0 (gn rfl) rfl rfl (step_index rfl (ev_mk rfl) (.inl rfl) (ev_mk rfl) Try.underlying37 F.sz86 (by omega) ?hr) trivial ?_
                case hr => exact t_31
                refine rl0 (gn rfl) rfl rfl (step_load_ro_all rfl rfl F.agg86 t_105) trivial ?_;refine rl1 (gn rfl) rfl rfl (step_allocc (k := m0 + 0) (zs := ((.int .i64 0) :: List.replicate 224 (.int .u8 0))) (cs := V.sc (.int .i64 0) :: List.replicate 224 (V.sc (.int .u8 0))) rfl F.zero86 t_33 t_55 t_33) ⟨t_4, trivial⟩ (by omega) ?_;refine rl0 (gn rfl) rfl rfl (step_as rfl rfl) trivial ?_;refine' rls (gn rfl) rfl (step_storeA rfl rfl rfl rfl F.agg86 ?hm ?hl) ⟨?hb, trivial⟩ ?hk ?_
                case hb => exact t_4
                case hm => exact t_105
                case hl => exact t_105
                case hk => omega
                refine runsL_nil ?_;refine runs_seq ?_;refine runs_draw (by kernel_rfl) (by kernel_rfl) (by kernel_rfl) ?_;refine dl0 (gn rfl) rfl rfl (step_fieldAddr (off := 0) rfl (ev_mk rfl) Try.underlying86 rfl F.sz3 rfl) trivial ?_;refine' dl0 (gn rfl) rfl rfl (step_load_one (v := .sc (.int .i64 (at' e.pages (j : Int)).n)) rfl (ev_mk rfl) F.one3 ?hv) ⟨?hb, trivial⟩ ?_
                case hb => exact t_4
                case hv => rfl
                refine dl_lss (gn rfl) rfl rfl rfl rfl rfl (fun h7 => ?_) (fun h7 => ?_)
                · skip
                  refine dl0 (gn rfl) rfl rfl (step_mv rfl rfl) trivial ?_;refine dlk rfl rfl rfl rfl rfl (ngb rfl rfl) rfl rfl ?_;refine dlk rfl rfl rfl rfl rfl (ngb rfl rfl) rfl rfl ?_;refine dlk rfl rfl rfl rfl rfl (ngb rfl rfl) rfl rfl ?_;refine dl0 (gn rfl) rfl rfl (step_pick rfl (ev_mk rfl) (ev_mk rfl)) trivial ?_;refine dl0 (gn rfl) rfl rfl (step_mv rfl rfl) trivial ?_;refine dlk rfl rfl rfl rfl rfl (ngb rfl rfl) rfl rfl ?_;refine dlk rfl rfl rfl rfl rfl (ngb rfl rfl) rfl rfl ?_;refine dlk rfl rfl rfl rfl rfl (ngb rfl rfl) rfl rfl ?_;refine dlk rfl rfl rfl rfl rfl (ngu rfl) rfl rfl ?_;refine dlk rfl rfl rfl rfl rfl (ngu rfl) rfl rfl ?_;refine dlk rfl rfl rfl rfl rfl (ngu rfl) rfl rfl ?_;refine dlk rfl rfl rfl rfl rfl (ngu rfl) rfl rfl ?_;refine dlk rfl rfl rfl rfl rfl (ngu rfl) rfl rfl ?_;refine dlk rfl rfl rfl rfl rfl (ngu rfl) rfl rfl ?_;refine dlk rfl rfl rfl rfl rfl (ngu rfl) rfl rfl ?_;refine dlk rfl rfl rfl rfl rfl (ngu rfl) rfl rfl ?_;refine dlk rfl rfl rfl rfl rfl (ngu rfl) rfl rfl ?_;refine dlk rfl rfl rfl rfl rfl (ngu rfl) rfl rfl ?_;refine dlk rfl rfl rfl rfl rfl (ngb rfl rfl) rfl rfl ?_;refine dl0 (gn rfl) rfl rfl (step_pick rfl (ev_mk rfl) (ev_mk rfl)) trivial ?_;refine dlnil ?_ ?_
                  · exact t_12
                  refine runs_cond true (ev_mk rfl) (fun _ => ?_) (fun h_ => nomatch h_);refine runs_seq ?_;refine runs_region ?_;refine rl0 (gn rfl) rfl rfl (step_as rfl rfl) trivial ?_;refine runsL_nil ?_;refine runs_ret ?_;refine ⟨t_17, fin_mkg (rest rfl res0) ?_ ?_ ?_ ?_ ?_⟩
                  · exact t_7
                  · exact t_1
                  · exact t_147
                  · exact t_45
                  · exact t_1
                · skip
                  refine dl0 (gn rfl) rfl rfl (step_mv rfl rfl) trivial ?_;refine dl0 (gy rfl rfl rfl rfl rfl rfl) rfl rfl (step_fieldAddr (off := 0) rfl (ev_mk rfl) Try.underlying86 rfl F.sz3 rfl) trivial ?_;refine' dl0 (gy rfl rfl rfl rfl rfl rfl) rfl rfl (step_load_one (v := .sc (.int .i64 (at' e.pages (j : Int)).n)) rfl (ev_mk rfl) F.one3 ?hv) ⟨?hb, trivial⟩ ?_
                  case hb => exact t_4
                  case hv => rfl
                  refine dl_gtr (gy rfl rfl rfl rfl rfl rfl) rfl rfl rfl rfl rfl (fun h8 => ?_) (fun h8 => ?_)
                  · skip
                    refine dl0 (gn rfl) rfl rfl (step_pick rfl (ev_mk rfl) (ev_mk rfl)) trivial ?_;refine dl0 (gn rfl) rfl rfl (step_mv rfl rfl) trivial ?_;refine dlk rfl rfl rfl rfl rfl (ngb rfl rfl) rfl rfl ?_;refine dlk rfl rfl rfl rfl rfl (ngb rfl rfl) rfl rfl ?_;refine dlk rfl rfl rfl rfl rfl (ngb rfl rfl) rfl rfl ?_;refine dlk rfl rfl rfl rfl rfl (ngu rfl) rfl rfl ?_;refine dlk rfl rfl rfl rfl rfl (ngu rfl) rfl rfl ?_;refine dlk rfl rfl rfl rfl rfl (ngu rfl) rfl rfl ?_;refine dlk rfl rfl rfl rfl rfl (ngu rfl) rfl rfl ?_;refine dlk rfl rfl rfl rfl rfl (ngu rfl) rfl rfl ?_;refine dlk rfl rfl rfl rfl rfl (ngu rfl) rfl rfl ?_;refine dlk rfl rfl rfl rfl rfl (ngu rfl) rfl rfl ?_;refine dlk rfl rfl rfl rfl rfl (ngu rfl) rfl rfl ?_;refine dlk rfl rfl rfl rfl rfl (ngu rfl) rfl rfl ?_;refine dlk rfl rfl rfl rfl rfl (ngu rfl) rfl rfl ?_;refine dlk rfl rfl rfl rfl rfl (ngb rfl rfl) rfl rfl ?_;refine dl0 (gn rfl) rfl rfl (step_pick rfl (ev_mk rfl) (ev_mk rfl)) trivial ?_;refine dlnil ?_ ?_
                    · exact t_12
                    refine runs_cond true (ev_mk rfl) (fun _ => ?_) (fun h_ => nomatch h_);refine runs_seq ?_;refine runs_region ?_;refine rl0 (gn rfl) rfl rfl (step_as rfl rfl) trivial ?_;refine runsL_nil ?_;refine runs_ret ?_;refine ⟨t_17, fin_mkg (rest rfl res0) ?_ ?_ ?_ ?_ ?_⟩
                    · exact t_7
                    · exact t_1
                    · exact t_147
                    · exact t_45
                    · exact t_1
                  · skip
                    refine dl0 (gn rfl) rfl rfl (step_pick rfl (ev_mk rfl) (ev_mk rfl)) trivial ?_;refine dl0 (gn rfl) rfl rfl (step_mv rfl rfl) trivial ?_;refine dl0 (gy rfl rfl rfl rfl rfl rfl) rfl rfl (step_mv rfl rfl) trivial ?_;refine dl_gtr (gy rfl rfl rfl rfl rfl rfl) rfl rfl rfl rfl rfl (fun h9 => ?_) (fun h9 => ?_)
                    · skip
                      refine dl0 (gy rfl rfl rfl rfl rfl rfl) rfl rfl (step_mv rfl rfl) trivial ?_;refine dl0 (gy rfl rfl rfl rfl rfl rfl) rfl rfl (step_fieldAddr (off := 0) rfl (ev_mk rfl) Try.underlying86 rfl F.sz3 rfl) trivial ?_;refine' dl0 (gy rfl rfl rfl rfl rfl rfl) rfl rfl (step_load_one (v := .sc (.int .i64 (at' e.pages (j : Int)).n)) rfl (ev_mk rfl) F.one3 ?hv) ⟨?hb, trivial⟩ ?_
                      case hb => exact t_4
                      case hv => rfl
                      refine dl0 (gy rfl rfl rfl rfl rfl rfl) rfl rfl (step_fieldAddr (off := 11) rfl (ev_mk rfl) Try.underlying40 rfl F.sz37 rfl) trivial ?_;refine' dl0 (gy rfl rfl rfl rfl rfl rfl) rfl rfl (step_load_one rfl (ev_mk rfl) F.one37 ?hv) ⟨?hb, trivial⟩ ?_
                      case hb => exact t_4
                      case hv => rfl
                      refine dl0 (gy rfl rfl rfl rfl rfl rfl) rfl rfl (step_mv rfl rfl) trivial ?_;refine dl0 (gy rfl rfl rfl rfl rfl rfl) rfl rfl (step_sub rfl (ev_mk rfl) (ev_mk rfl) (w64 (by omega))) trivial ?_;refine' dl0 (gy rfl rfl rfl rfl rfl rfl) rfl rfl (step_index rfl (ev_mk rfl) (.inl rfl) (ev_mk rfl) Try.underlying37 F.sz86 (by omega) ?hr) trivial ?_
                      case hr => exact t_31
                      refine dl0 (gy rfl rfl rfl rfl rfl rfl) rfl rfl (step_fieldAddr_ro (off := 0) rfl (ev_mk rfl) Try.underlying86 rfl F.sz3 rfl rfl) trivial ?_;refine dl0 (gy rfl rfl rfl rfl rfl rfl) rfl rfl (step_load_ro (v := .sc (.int .i64 (at' e.pages ((j : Int) - 1)).n)) rfl (ev_mk rfl) F.one3 rfl) trivial ?_;refine dl_leq (gy rfl rfl rfl rfl rfl rfl) rfl rfl rfl rfl rfl (fun h10 => ?_) (fun h10 => ?_)
                      · skip
                        refine dl0 (gy rfl rfl rfl rfl rfl rfl) rfl rfl (step_pick rfl (ev_mk rfl) (ev_mk rfl)) trivial ?_;refine dl0 (gn rfl) rfl rfl (step_pick rfl (ev_mk rfl) (ev_mk rfl)) trivial ?_;refine dlnil ?_ ?_
                        · exact t_12
                        refine runs_cond true (ev_mk rfl) (fun _ => ?_) (fun h_ => nomatch h_);refine runs_seq ?_;refine runs_region ?_;refine rl0 (gn rfl) rfl rfl (step_as rfl rfl) trivial ?_;refine runsL_nil ?_;refine runs_ret ?_;refine ⟨t_17, fin_mkg (rest rfl res0) ?_ ?_ ?_ ?_ ?_⟩
                        · exact t_7
                        · exact t_1
                        · exact t_147
                        · exact t_45
                        · exact t_1
                      · skip
                        refine dl0 (gy rfl rfl rfl rfl rfl rfl) rfl rfl (step_pick rfl (ev_mk rfl) (ev_mk rfl)) trivial ?_;refine dl0 (gn rfl) rfl rfl (step_pick rfl (ev_mk rfl) (ev_mk rfl)) trivial ?_;refine dlnil ?_ ?_
                        · exact t_12
                        refine runs_cond false (ev_mk rfl) (fun h_ => nomatch h_) (fun _ => ?_);refine runs_skip ?_;refine runs_region ?_;refine rl0 (gn rfl) rfl rfl (step_add rfl (ev_mk rfl) (ev_mk rfl) (w64 (by omega))) trivial ?_;refine rl0 (gn rfl) rfl rfl (step_mv rfl rfl) trivial ?_;refine runsL_nil ?_;refine ⟨_, _, ?_, sle ?_ (Nat.le_refl _), (j + 1), _, _, rfl, rfl, by omega, (fun k_ hk_ => t_24), t_158, by omega, pgS_up hF0_1 (by omega)⟩
                        · omega
                        · exact t_129
                    · skip
                      refine dl0 (gy rfl rfl rfl rfl rfl rfl) rfl rfl (step_mv rfl rfl) trivial ?_;refine dlk rfl rfl rfl rfl rfl (ngb rfl rfl) rfl rfl ?_;refine dlk rfl rfl rfl rfl rfl (ngb rfl rfl) rfl rfl ?_;refine dlk rfl rfl rfl rfl rfl (ngb rfl rfl) rfl rfl ?_;refine dlk rfl rfl rfl rfl rfl (ngb rfl rfl) rfl rfl ?_;refine dlk rfl rfl rfl rfl rfl (ngb rfl rfl) rfl rfl ?_;refine dlk rfl rfl rfl rfl rfl (ngb rfl rfl) rfl rfl ?_;refine dlk rfl rfl rfl rfl rfl (ngb rfl rfl) rfl rfl ?_;refine dlk rfl rfl rfl rfl rfl (ngb rfl rfl) rfl rfl ?_;refine dlk rfl rfl rfl rfl rfl (ngb rfl rfl) rfl rfl ?_;refine dlk rfl rfl rfl rfl rfl (ngb rfl rfl) rfl rfl ?_;refine dl0 (gy rfl rfl rfl rfl rfl rfl) rfl rfl (step_pick rfl (ev_mk rfl) (ev_mk rfl)) trivial ?_;refine dl0 (gn rfl) rfl rfl (step_pick rfl (ev_mk rfl) (ev_mk rfl)) trivial ?_;refine dlnil ?_ ?_
                      · exact t_12
                      refine runs_cond false (ev_mk rfl) (fun h_ => nomatch h_) (fun _ => ?_);refine runs_skip ?_;refine runs_region ?_;refine rl0 (gn rfl) rfl rfl (step_add rfl (ev_mk rfl) (ev_mk rfl) (w64 (by omega))) trivial ?_;refine rl0 (gn rfl) rfl rfl (step_mv rfl rfl) trivial ?_;refine runsL_nil ?_;refine ⟨_, _, ?_, sle ?_ (Nat.le_refl _), (j + 1), _, _, rfl, rfl, by omega, (fun k_ hk_ => t_24), t_158, by omega, pgS_up hF0_1 (by omega)⟩
                      · omega
                      · exact t_129
              · skip
                refine runsL_nil ?_;refine runs_seq ?_;refine runs_cond false (ev_mk rfl) (fun h_ => nomatch h_) (fun _ => ?_);refine runs_exit ?_;refine runs_seq ?_;refine runs_region ?_;refine rl0 (gn rfl) rfl rfl (step_as rfl rfl) trivial ?_;refine runsL_nil ?_;refine runs_ret ?_;refine ⟨t_17, fin_mkg (rest rfl res0) ?_ ?_ ?_ ?_ ?_⟩
                · exact t_7
                · exact t_1
                · exact t_147
                · exact t_45
                · exact t_1
def lastN (l : List Im) (j : Nat) : Int := if j = 0 then -1 else (at' l ((j : Int) - 1)).n
theorem lastN_or (l : List Im) (j : Nat) : (j = 0 ∧ lastN l j = -1) ∨ (j ≠ 0 ∧ lastN l j = (at' l ((j : Int) - 1)).n) := by
  unfold lastN; by_cases h : j = 0
  · exact .inl ⟨h, if_pos h⟩
  · exact .inr ⟨h, if_neg h⟩
theorem lastN_up (l : List Im) (j : Nat) : (at' l (j : Int)).n = lastN l (j + 1) := by
  unfold lastN; rw [if_neg (by omega), show ((j + 1 : Nat) : Int) - 1 = (j : Int) by omega]
theorem pgS_pos {l : List Im} : ∀ j : Nat, pgS l j = true → j ≠ 0 → 0 ≤ (at' l ((j : Int) - 1)).n
  | 0, _, h => absurd rfl h
  | j + 1, h, _ => by
    unfold pgS at h
    rw [Bool.and_eq_true, decide_eq_true_eq] at h
    rw [show ((j + 1 : Nat) : Int) - 1 = (j : Int) by omega]; exact h.2.1
set_option maxRecDepth 100000 in
set_option maxHeartbeats 4000000 in
theorem rcheck_c (e : En) (hL : (e.pages.length : Int) ≤ 9223372036854775807 ∧ (e.act.length : Int) ≤ 9223372036854775807) (hpg : okPg e) : Does Try.prog 34 [.agg (enC e)] [] [] (.sc (.int .i64 (chkF e))) := by
  refine does_mkg 40 Try.func34 rfl rfl rfl (fun n B bx hd hpre hup hvs hbx hgx => ?_);refine runs_seq ?_;refine runs_region ?_;refine rl1 (gn rfl) rfl rfl (step_box_agg (k := n + 0) rfl rfl) ⟨t_0, trivial⟩ (by omega) ?_;refine rl0 (gn rfl) rfl rfl (step_as rfl rfl) trivial ?_;refine runsL_nil ?_;refine runs_seq ?_;refine runs_seq ?_;refine runs_region ?_;refine rl0 (gn rfl) rfl rfl (step_fieldAddr (off := 1) rfl (ev_mk rfl) Try.underlying40 rfl F.sz3 rfl) trivial ?_;refine' rl0 (gn rfl) rfl rfl (step_load_one rfl (ev_mk rfl) F.one3 ?hv) ⟨?hb, trivial⟩ ?_
  case hb => exact t_0
  case hv => rfl
  refine rl_lss (gn rfl) rfl rfl rfl rfl rfl (fun h1 => ?_) (fun h1 => ?_)
  · skip
    refine rl0 (gn rfl) rfl rfl (step_mv rfl rfl) trivial ?_;refine rlk rfl rfl rfl rfl rfl (ngb rfl rfl) rfl rfl ?_;refine rlk rfl rfl rfl rfl rfl (ngb rfl rfl) rfl rfl ?_;refine rlk rfl rfl rfl rfl rfl (ngb rfl rfl) rfl rfl ?_;refine rl0 (gn rfl) rfl rfl (step_pick rfl (ev_mk rfl) (ev_mk rfl)) trivial ?_;refine runsL_nil ?_;refine runs_cond true (ev_mk rfl) (fun _ => ?_) (fun h_ => nomatch h_);refine runs_seq ?_;refine runs_region ?_;refine rl0 (gn rfl) rfl rfl (step_as rfl rfl) trivial ?_;refine runsL_nil ?_;refine runs_ret ?_;refine ⟨t_17, fin_mkg (rest rfl res0) ?_ ?_ ?_ ?_ ?_⟩
    · exact t_7
    · exact t_1
    · exact t_142
    · exact t_45
    · exact t_1
  · skip
    refine rl0 (gn rfl) rfl rfl (step_mv rfl rfl) trivial ?_;refine rl0 (gy rfl rfl rfl rfl rfl rfl) rfl rfl (step_fieldAddr (off := 1) rfl (ev_mk rfl) Try.underlying40 rfl F.sz3 rfl) trivial ?_;refine' rl0 (gy rfl rfl rfl rfl rfl rfl) rfl rfl (step_load_one rfl (ev_mk rfl) F.one3 ?hv) ⟨?hb, trivial⟩ ?_
    case hb => exact t_0
    case hv => rfl
    refine rl_gtr (gy rfl rfl rfl rfl rfl rfl) rfl rfl rfl rfl rfl (fun h2 => ?_) (fun h2 => ?_)
    · skip
      refine rl0 (gn rfl) rfl rfl (step_pick rfl (ev_mk rfl) (ev_mk rfl)) trivial ?_;refine runsL_nil ?_;refine runs_cond true (ev_mk rfl) (fun _ => ?_) (fun h_ => nomatch h_);refine runs_seq ?_;refine runs_region ?_;refine rl0 (gn rfl) rfl rfl (step_as rfl rfl) trivial ?_;refine runsL_nil ?_;refine runs_ret ?_;refine ⟨t_17, fin_mkg (rest rfl res0) ?_ ?_ ?_ ?_ ?_⟩
      · exact t_7
      · exact t_1
      · exact t_142
      · exact t_45
      · exact t_1
    · skip
      refine rl0 (gn rfl) rfl rfl (step_pick rfl (ev_mk rfl) (ev_mk rfl)) trivial ?_;refine runsL_nil ?_;refine runs_cond false (ev_mk rfl) (fun h_ => nomatch h_) (fun _ => ?_);refine runs_skip ?_;refine runs_seq ?_;refine runs_seq ?_;refine runs_region ?_;refine rl0 (gn rfl) rfl rfl (step_fieldAddr (off := 5) rfl (ev_mk rfl) Try.underlying40 rfl F.sz36 rfl) trivial ?_;refine rl0 (gn rfl) rfl rfl (step_fieldAddr (off := 4) rfl (ev_mk rfl) Try.underlying36 rfl F.sz9 rfl) trivial ?_;refine' rl0 (gn rfl) rfl rfl (step_load_one rfl (ev_mk rfl) F.one9 ?hv) ⟨?hb, trivial⟩ ?_
      case hb => exact t_0
      case hv => rfl
      refine rl0 (gn rfl) rfl rfl (step_len rfl rfl (ev_mk rfl) (.inr (.inl ⟨Try.underlying9, _, rfl, rfl⟩))) trivial ?_;refine rl_gtr (gn rfl) rfl rfl rfl rfl rfl (fun h3 => ?_) (fun h3 => ?_)
      · skip
        refine runsL_nil ?_;refine runs_cond true (ev_mk rfl) (fun _ => ?_) (fun h_ => nomatch h_);refine runs_seq ?_;refine runs_region ?_;refine rl0 (gn rfl) rfl rfl (step_as rfl rfl) trivial ?_;refine runsL_nil ?_;refine runs_ret ?_;refine ⟨t_17, fin_mkg (rest rfl res0) ?_ ?_ ?_ ?_ ?_⟩
        · exact t_7
        · exact t_1
        · exact t_142
        · exact t_45
        · exact t_1
      · skip
        refine runsL_nil ?_;refine runs_cond false (ev_mk rfl) (fun h_ => nomatch h_) (fun _ => ?_);refine runs_skip ?_;refine runs_seq ?_;refine runs_seq ?_;refine runs_region ?_;refine rl0 (gn rfl) rfl rfl (step_fieldAddr (off := 11) rfl (ev_mk rfl) Try.underlying40 rfl F.sz37 rfl) trivial ?_;refine' rl0 (gn rfl) rfl rfl (step_load_one rfl (ev_mk rfl) F.one37 ?hv) ⟨?hb, trivial⟩ ?_
        case hb => exact t_0
        case hv => rfl
        refine rl0 (gn rfl) rfl rfl (step_len (m := e.pages.length) rfl rfl (ev_mk rfl) (.inl ⟨⟨_, Try.underlying37⟩, .inl ⟨_, _, .inl rfl, List.length_map _⟩⟩)) trivial ?_;refine rl_gtr (gn rfl) rfl rfl rfl rfl rfl (fun h4 => ?_) (fun h4 => ?_)
        · skip
          refine rl0 (gn rfl) rfl rfl (step_mv rfl rfl) trivial ?_;refine rlk rfl rfl rfl rfl rfl (ngb rfl rfl) rfl rfl ?_;refine rlk rfl rfl rfl rfl rfl (ngb rfl rfl) rfl rfl ?_;refine rlk rfl rfl rfl rfl rfl (ngb rfl rfl) rfl rfl ?_;refine rlk rfl rfl rfl rfl rfl (ngb rfl rfl) rfl rfl ?_;refine rl0 (gn rfl) rfl rfl (step_pick rfl (ev_mk rfl) (ev_mk rfl)) trivial ?_;refine runsL_nil ?_;refine runs_cond true (ev_mk rfl) (fun _ => ?_) (fun h_ => nomatch h_);refine runs_seq ?_;refine runs_region ?_;refine rl0 (gn rfl) rfl rfl (step_as rfl rfl) trivial ?_;refine runsL_nil ?_;refine runs_ret ?_;refine ⟨t_17, fin_mkg (rest rfl res0) ?_ ?_ ?_ ?_ ?_⟩
          · exact t_7
          · exact t_1
          · exact t_142
          · exact t_45
          · exact t_1
        · skip
          refine rl0 (gn rfl) rfl rfl (step_mv rfl rfl) trivial ?_;refine rl0 (gy rfl rfl rfl rfl rfl rfl) rfl rfl (step_fieldAddr (off := 12) rfl (ev_mk rfl) Try.underlying40 rfl F.sz38 rfl) trivial ?_;refine' rl0 (gy rfl rfl rfl rfl rfl rfl) rfl rfl (step_load_one rfl (ev_mk rfl) F.one38 ?hv) ⟨?hb, trivial⟩ ?_
          case hb => exact t_0
          case hv => rfl
          refine rl0 (gy rfl rfl rfl rfl rfl rfl) rfl rfl (step_len (m := e.act.length) rfl rfl (ev_mk rfl) (.inl ⟨⟨_, Try.underlying38⟩, .inl ⟨_, _, .inl rfl, List.length_map _⟩⟩)) trivial ?_;refine rl_gtr (gy rfl rfl rfl rfl rfl rfl) rfl rfl rfl rfl rfl (fun h5 => ?_) (fun h5 => ?_)
          · skip
            refine rl0 (gn rfl) rfl rfl (step_pick rfl (ev_mk rfl) (ev_mk rfl)) trivial ?_;refine runsL_nil ?_;refine runs_cond true (ev_mk rfl) (fun _ => ?_) (fun h_ => nomatch h_);refine runs_seq ?_;refine runs_region ?_;refine rl0 (gn rfl) rfl rfl (step_as rfl rfl) trivial ?_;refine runsL_nil ?_;refine runs_ret ?_;refine ⟨t_17, fin_mkg (rest rfl res0) ?_ ?_ ?_ ?_ ?_⟩
            · exact t_7
            · exact t_1
            · exact t_142
            · exact t_45
            · exact t_1
          · skip
            refine rl0 (gn rfl) rfl rfl (step_pick rfl (ev_mk rfl) (ev_mk rfl)) trivial ?_;refine runsL_nil ?_;refine runs_cond false (ev_mk rfl) (fun h_ => nomatch h_) (fun _ => ?_);refine runs_skip ?_;refine runs_seq ?_;refine runs_region ?_;refine rl0 (gn rfl) rfl rfl (step_as rfl rfl) trivial ?_;refine runsL_nil ?_;refine runs_seq ?_;refine runs_seq ?_;refine runs_region ?_;refine rl0 (gn rfl) rfl rfl (step_as rfl rfl) trivial ?_;refine runsL_nil ?_;refine runs_block ?_;have hs0_ : -1 = lastN e.pages 0 := by rfl
            refine runs_loop (fun (ri_ : Nat) (st_ : Go.Vm.S) => ∃ (j : Nat) (m0 : Nat) (b0 : Nat → Box), (st_ = ⟨mk [(1, .ref (n + 0) 0), (2, .sc (.int .i64 0)), (3, .sc (.int .i64 (lastN e.pages j))), (4, .sc (.int .i64 j))], m0, b0⟩) ∧ (ri_ = e.pages.length - j) ∧ (n + 1 ≤ m0) ∧ (∀ k_, k_ < n → b0 k_ = bx k_) ∧ (b0 (n + 0) = .cells [.sc (.int .u64 e.lsn), .sc (.int .i64 e.kind), .sc (.int .u64 e.txn), .sc (.int .u64 e.prev), .sc (.int .u64 e.next), .sc (.int .u64 e.r.id), .sc (.int .u64 e.r.key), .sc (.int .u32 e.r.x), .sc (.int .u32 e.r.y), .sc (.string e.r.val), .sc (.bool e.r.gh), .sl 225 (e.pages.map imR), .sl 1 (e.act.map acR)]) ∧ (j ≤ e.pages.length) ∧ (pgS e.pages j = true)) (e.pages.length - 0) ⟨_, sle ?_ (Nat.le_refl _), 0, _, _, rfl, rfl, ?_⟩ ?_
            · exact t_11
            · exact ⟨by omega, (fun k_ hk_ => t_14), t_131, by omega, rfl⟩
            · rintro _ _ ⟨j, m0, b0, rfl, rfl, hm0, hf0, hB0_0, hF0_0, hF0_1⟩
              refine runs_know (fun hd0 => ?_);refine runs_bump 20 ?_;simp only at hd0;have hls := lastN_or e.pages j;have hps := pgS_pos j hF0_1;refine runs_seq ?_;refine runs_seq ?_;refine runs_region ?_;refine rl0 (gn rfl) rfl rfl (step_mv rfl rfl) trivial ?_;refine rl0 (gn rfl) rfl rfl (step_fieldAddr (off := 11) rfl (ev_mk rfl) Try.underlying40 rfl F.sz37 rfl) trivial ?_;refine' rl0 (gn rfl) rfl rfl (step_load_one rfl (ev_mk rfl) F.one37 ?hv) ⟨?hb, trivial⟩ ?_
              case hb => exact t_4
              case hv => rfl
              refine rl0 (gn rfl) rfl rfl (step_len (m := e.pages.length) rfl rfl (ev_mk rfl) (.inl ⟨⟨_, Try.underlying37⟩, .inl ⟨_, _, .inl rfl, List.length_map _⟩⟩)) trivial ?_;refine rl_lss (gn rfl) rfl rfl rfl rfl rfl (fun h6 => ?_) (fun h6 => ?_)
              · skip
                refine runsL_nil ?_;refine runs_cond true (ev_mk rfl) (fun _ => ?_) (fun h_ => nomatch h_);refine runs_skip ?_;refine runs_seq ?_;refine runs_block ?_;refine runs_seq ?_;refine runs_seq ?_;refine runs_region ?_;refine rl0 (gn rfl) rfl rfl (step_fieldAddr (off := 11) rfl (ev_mk rfl) Try.underlying40 rfl F.sz37 rfl) trivial ?_;refine' rl0 (gn rfl) rfl rfl (step_load_one rfl (ev_mk rfl) F.one37 ?hv) ⟨?hb, trivial⟩ ?_
                case hb => exact t_4
                case hv => rfl
                refine rl0 (gn rfl) rfl rfl (step_mv rfl rfl) trivial ?_;refine' rl0 (gn rfl) rfl rfl (step_index rfl (ev_mk rfl) (.inl rfl) (ev_mk rfl) Try.underlying37 F.sz86 (by omega) ?hr) trivial ?_
                case hr => exact t_31
                refine rl0 (gn rfl) rfl rfl (step_fieldAddr_ro (off := 0) rfl (ev_mk rfl) Try.underlying86 rfl F.sz3 rfl rfl) trivial ?_;refine rl0 (gn rfl) rfl rfl (step_load_ro (v := .sc (.int .i64 (at' e.pages (j : Int)).n)) rfl (ev_mk rfl) F.one3 rfl) trivial ?_;refine rl0 (gn rfl) rfl rfl (step_mv rfl rfl) trivial ?_;refine rl_leq (gn rfl) rfl rfl rfl rfl rfl (fun h7 => ?_) (fun h7 => ?_)
                · skip
                  refine rl0 (gn rfl) rfl rfl (step_mv rfl rfl) trivial ?_;refine rlk rfl rfl rfl rfl rfl (ngb rfl rfl) rfl rfl ?_;refine rlk rfl rfl rfl rfl rfl (ngb rfl rfl) rfl rfl ?_;refine rlk rfl rfl rfl rfl rfl (ngb rfl rfl) rfl rfl ?_;refine rlk rfl rfl rfl rfl rfl (ngb rfl rfl) rfl rfl ?_;refine rlk rfl rfl rfl rfl rfl (ngb rfl rfl) rfl rfl ?_;refine rlk rfl rfl rfl rfl rfl (ngb rfl rfl) rfl rfl ?_;refine rlk rfl rfl rfl rfl rfl (ngb rfl rfl) rfl rfl ?_;refine rl0 (gn rfl) rfl rfl (step_pick rfl (ev_mk rfl) (ev_mk rfl)) trivial ?_;refine runsL_nil ?_;refine runs_cond true (ev_mk rfl) (fun _ => ?_) (fun h_ => nomatch h_);refine runs_seq ?_;refine runs_region ?_;refine rl0 (gn rfl) rfl rfl (step_as rfl rfl) trivial ?_;refine runsL_nil ?_;refine runs_ret ?_;refine ⟨t_17, fin_mkg (rest rfl res0) ?_ ?_ ?_ ?_ ?_⟩
                  · exact t_7
                  · exact t_1
                  · exact t_147
                  · exact t_45
                  · exact t_1
                · skip
                  refine rl0 (gn rfl) rfl rfl (step_mv rfl rfl) trivial ?_;refine rl0 (gy rfl rfl rfl rfl rfl rfl) rfl rfl (step_fieldAddr (off := 11) rfl (ev_mk rfl) Try.underlying40 rfl F.sz37 rfl) trivial ?_;refine' rl0 (gy rfl rfl rfl rfl rfl rfl) rfl rfl (step_load_one rfl (ev_mk rfl) F.one37 ?hv) ⟨?hb, trivial⟩ ?_
                  case hb => exact t_4
                  case hv => rfl
                  refine rl0 (gy rfl rfl rfl rfl rfl rfl) rfl rfl (step_mv rfl rfl) trivial ?_;refine' rl0 (gy rfl rfl rfl rfl rfl rfl) rfl rfl (step_index rfl (ev_mk rfl) (.inl rfl) (ev_mk rfl) Try.underlying37 F.sz86 (by omega) ?hr) trivial ?_
                  case hr => exact t_31
                  refine rl0 (gy rfl rfl rfl rfl rfl rfl) rfl rfl (step_fieldAddr_ro (off := 0) rfl (ev_mk rfl) Try.underlying86 rfl F.sz3 rfl rfl) trivial ?_;refine rl0 (gy rfl rfl rfl rfl rfl rfl) rfl rfl (step_load_ro (v := .sc (.int .i64 (at' e.pages (j : Int)).n)) rfl (ev_mk rfl) F.one3 rfl) trivial ?_;refine rl_gtr (gy rfl rfl rfl rfl rfl rfl) rfl rfl rfl rfl rfl (fun h8 => ?_) (fun h8 => ?_)
                  · skip
                    refine rl0 (gn rfl) rfl rfl (step_pick rfl (ev_mk rfl) (ev_mk rfl)) trivial ?_;refine runsL_nil ?_;refine runs_cond true (ev_mk rfl) (fun _ => ?_) (fun h_ => nomatch h_);refine runs_seq ?_;refine runs_region ?_;refine rl0 (gn rfl) rfl rfl (step_as rfl rfl) trivial ?_;refine runsL_nil ?_;refine runs_ret ?_;refine ⟨t_17, fin_mkg (rest rfl res0) ?_ ?_ ?_ ?_ ?_⟩
                    · exact t_7
                    · exact t_1
                    · exact t_147
                    · exact t_45
                    · exact t_1
                  · skip
                    refine rl0 (gn rfl) rfl rfl (step_pick rfl (ev_mk rfl) (ev_mk rfl)) trivial ?_;refine runsL_nil ?_;refine runs_cond false (ev_mk rfl) (fun h_ => nomatch h_) (fun _ => ?_);refine runs_skip ?_;refine runs_region ?_;refine rl0 (gn rfl) rfl rfl (step_fieldAddr (off := 11) rfl (ev_mk rfl) Try.underlying40 rfl F.sz37 rfl) trivial ?_;refine' rl0 (gn rfl) rfl rfl (step_load_one rfl (ev_mk rfl) F.one37 ?hv) ⟨?hb, trivial⟩ ?_
                    case hb => exact t_4
                    case hv => rfl
                    refine rl0 (gn rfl) rfl rfl (step_mv rfl rfl) trivial ?_;refine' rl0 (gn rfl) rfl rfl (step_index rfl (ev_mk rfl) (.inl rfl) (ev_mk rfl) Try.underlying37 F.sz86 (by omega) ?hr) trivial ?_
                    case hr => exact t_31
                    refine rl0 (gn rfl) rfl rfl (step_fieldAddr_ro (off := 0) rfl (ev_mk rfl) Try.underlying86 rfl F.sz3 rfl rfl) trivial ?_;refine rl0 (gn rfl) rfl rfl (step_load_ro (v := .sc (.int .i64 (at' e.pages (j : Int)).n)) rfl (ev_mk rfl) F.one3 rfl) trivial ?_;refine rl0 (gn rfl) rfl rfl (step_as rfl rfl) trivial ?_;refine runsL_nil ?_;refine runs_region ?_;refine rl0 (gn rfl) rfl rfl (step_mv rfl rfl) trivial ?_;refine rl0 (gn rfl) rfl rfl (step_add rfl (ev_mk rfl) (ev_mk rfl) (w64 (by omega))) trivial ?_;refine rl0 (gn rfl) rfl rfl (step_as rfl rfl) trivial ?_;refine runsL_nil ?_;have hq0_ : ((at' e.pages (j : Int)).n) = lastN e.pages (j + 1) := by exact lastN_up _ _
                    refine ⟨_, _, ?_, sle ?_ (Nat.le_refl _), (j + 1), _, _, rfl, rfl, by omega, (fun k_ hk_ => t_24), t_130, by omega, pgS_up hF0_1 (by omega)⟩
                    · omega
                    · exact t_3
              · skip
                refine runsL_nil ?_;refine runs_cond false (ev_mk rfl) (fun h_ => nomatch h_) (fun _ => ?_);refine runs_exit ?_;refine runs_seq ?_;refine runs_region ?_;refine rl0 (gn rfl) rfl rfl (step_as rfl rfl) trivial ?_;refine runsL_nil ?_;refine runs_ret ?_;refine ⟨t_17, fin_mkg (rest rfl res0) ?_ ?_ ?_ ?_ ?_⟩
                · exact t_7
                · exact t_1
                · exact t_147
                · exact t_45
                · exact t_1
end Go.Proofs.Ytdmkhpnjjpeeaaa
