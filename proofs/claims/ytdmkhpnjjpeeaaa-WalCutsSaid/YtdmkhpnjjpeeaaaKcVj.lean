import Derived.Test.YtdmkhpnjjpeeaaaKcQq
import Derived.Test.YtdmkhpnjjpeeaaaKcVmT
import Derived.Test.YtdmkhpnjjpeeaaaKcWe
import Derived.Test.YtdmkhpnjjpeeaaaKcVd
import Derived.Test.YtdmkhpnjjpeeaaaKcVe
import Derived.Test.YtdmkhpnjjpeeaaaKcWa
import Derived.Test.YtdmkhpnjjpeeaaaKcWc
import Derived.Test.YtdmkhpnjjpeeaaaKcWd
import Derived.Test.YtdmkhpnjjpeeaaaKcVmP
namespace Go.Proofs.Ytdmkhpnjjpeeaaa
open Go.Vm
set_option linter.unusedVariables false
set_option linter.unusedSimpArgs false
open Crc
attribute [local irreducible] Go.Vm.beB Go.Vm.fieldB
def f4 (e : En) : List Int := [e.lsn, e.txn, e.prev, e.next]
def hdP (e : En) : Nat → List Int
  | 0 => [e.kind]
  | j + 1 => hdP e j ++ beB 8 (at' (f4 e) (j : Int))
def pgP (l : List Im) : Nat → List Int
  | 0 => []
  | j + 1 => pgP l j ++ ((at' l (j : Int)).n :: sqB (at' l (j : Int)).p)
def acP (l : List Int) : Nat → List Int
  | 0 => []
  | j + 1 => acP l j ++ beB 8 (at' l (j : Int))
def fr1 (e : En) : List Int := hdP e 4 ++ recF e.r ++ [(e.pages.length : Int)]
def fr2 (e : En) : List Int := fr1 e ++ pgP e.pages e.pages.length ++ [(e.act.length : Int)]
def bodyB (e : En) : List Int := fr2 e ++ acP e.act e.act.length
def okEn (e : En) : Prop := U64 e.lsn ∧ U64 e.txn ∧ U64 e.prev ∧ U64 e.next ∧ okRc e.r ∧ (∀ m ∈ e.pages, m.p.length = 224 ∧ Byts m.p) ∧ ∀ a ∈ e.act, U64 a
theorem imR_pg {m : Im} (h : m.p.length = 224) : List.take 224 (List.drop (0 + 1) (imR m)) = m.p.map bV := by
  unfold imR
  rw [List.drop_succ_cons, List.drop_zero]
  exact List.take_of_length_le (by rw [List.length_map]; omega)
theorem f4_at {e : En} {j : Nat} (h : j < 4) : [V.sc (.int .u64 e.lsn), .sc (.int .u64 e.txn), .sc (.int .u64 e.prev), .sc (.int .u64 e.next)][j]? = some (.sc (.int .u64 (at' (f4 e) (j : Int)))) := by
  match j, h with
  | 0, _ => rfl
  | 1, _ => rfl
  | 2, _ => rfl
  | 3, _ => rfl
theorem f4_ok {e : En} (h : okEn e) {j : Nat} (hj : j < 4) : U64 (at' (f4 e) (j : Int)) := by
  match j, hj with
  | 0, _ => exact h.1
  | 1, _ => exact h.2.1
  | 2, _ => exact h.2.2.1
  | 3, _ => exact h.2.2.2.1
theorem hdP_len (e : En) : ∀ j, (hdP e j).length = 1 + 8 * j
  | 0 => rfl
  | j + 1 => by unfold hdP; rw [List.length_append, hdP_len e j, beB_len]; omega
theorem sqB_len (p : List Int) : (sqB p).length ≤ 225 := by unfold sqB; have := lnz_le p 224; rw [List.length_cons, List.length_take]; omega
theorem pgP_len (l : List Im) : ∀ j, (pgP l j).length ≤ 226 * j
  | 0 => by simp [pgP]
  | j + 1 => by unfold pgP; have := pgP_len l j; have := sqB_len (at' l (j : Int)).p; rw [List.length_append, List.length_cons]; omega
theorem acP_len (l : List Int) : ∀ j, (acP l j).length = 8 * j
  | 0 => rfl
  | j + 1 => by unfold acP; rw [List.length_append, acP_len l j, beB_len]; omega
theorem recF_len {r : Rc} (h : r.val.size < 16) : (recF r).length = 41 := by unfold recF recB; simp only [List.length_append, beB_len, fieldB_len h, List.length_cons, List.length_nil]
theorem fr1_len {e : En} (h : e.r.val.size < 16) : (fr1 e).length = 75 := by unfold fr1; rw [List.length_append, List.length_append, hdP_len, recF_len h]; rfl
theorem fr2_len {e : En} (h : e.r.val.size < 16) : (fr2 e).length ≤ 76 + 226 * e.pages.length := by unfold fr2; have := pgP_len e.pages e.pages.length; rw [List.length_append, List.length_append, fr1_len h, List.length_cons, List.length_nil]; omega
theorem pgS_all {l : List Im} : ∀ {j : Nat}, pgS l j = true → ∀ i : Nat, i < j → 0 ≤ (at' l (i : Int)).n ∧ (at' l (i : Int)).n ≤ 255
  | 0, _, i, hi => by omega
  | j + 1, h, i, hi => by
    unfold pgS at h
    rw [Bool.and_eq_true, decide_eq_true_eq] at h
    rcases Nat.lt_succ_iff_lt_or_eq.mp hi with h_ | rfl
    · exact pgS_all h.1 i h_
    · exact ⟨h.2.1, h.2.2.1⟩
theorem chk0 {e : En} (h : chkF e = 0) : (1 ≤ e.kind ∧ e.kind ≤ 10) ∧ e.r.val.size ≤ 15 ∧ e.pages.length ≤ 24 ∧ e.act.length ≤ 64 ∧ pgS e.pages e.pages.length = true := by
  unfold chkF at h
  split at h
  · omega
  · split at h
    · omega
    · split at h
      · omega
      · split at h
        · rename_i h1 h2 h3 h4; exact ⟨by omega, by omega, by omega, by omega, h4⟩
        · omega
theorem hdP_byts {e : En} (h : 1 ≤ e.kind ∧ e.kind ≤ 10) : ∀ j, Byts (hdP e j)
  | 0 => bytes_one ⟨by omega, by omega⟩
  | j + 1 => bytes_app (hdP_byts h j) (beB_bytes _ _)
theorem recF_byts {r : Rc} (h : r.val.size < 16) : Byts (recF r) := by
  unfold recF recB
  exact bytes_app (bytes_app (bytes_app (bytes_app (bytes_app (beB_bytes _ _) (beB_bytes _ _)) (beB_bytes _ _)) (beB_bytes _ _)) (bytes_one (by split <;> omega))) (fieldB_byts (by omega))
theorem sqB_byts {p : List Int} (h : Byts p) : Byts (sqB p) := by
  have := lnz_le p 224
  unfold sqB
  exact bytes_app (bytes_one ⟨by omega, by omega⟩) (bytes_take h _)
theorem pgP_byts {l : List Im} (hp : ∀ m ∈ l, m.p.length = 224 ∧ Byts m.p) (hs : pgS l l.length = true) : ∀ j, j ≤ l.length → Byts (pgP l j)
  | 0, _ => bytes_nil
  | j + 1, hj => by
    have h1 := pgS_all hs j (by omega)
    exact bytes_app (pgP_byts hp hs j (by omega)) (bytes_app (bytes_one ⟨h1.1, by omega⟩) (sqB_byts (hp _ (at_mem (by omega) (by omega))).2))
theorem acP_byts (l : List Int) : ∀ j, Byts (acP l j)
  | 0 => bytes_nil
  | j + 1 => bytes_app (acP_byts l j) (beB_bytes _ _)
theorem fr2_byts {e : En} (h : okEn e) (hc : chkF e = 0) : Byts (fr2 e) := by
  obtain ⟨c1, c2, c3, c4, c5⟩ := chk0 hc
  exact bytes_app (bytes_app (bytes_app (bytes_app (hdP_byts c1 4) (recF_byts (by omega))) (bytes_one ⟨by omega, by omega⟩)) (pgP_byts h.2.2.2.2.2.1 c5 _ (Nat.le_refl _))) (bytes_one ⟨by omega, by omega⟩)
theorem bodyB_byts {e : En} (h : okEn e) (hc : chkF e = 0) : Byts (bodyB e) := bytes_app (fr2_byts h hc) (acP_byts _ _)
theorem bodyB_len {e : En} (hc : chkF e = 0) : (bodyB e).length ≤ 76 + 226 * e.pages.length + 8 * e.act.length := by
  obtain ⟨c1, c2, c3, c4, c5⟩ := chk0 hc
  have := fr2_len (e := e) (by omega)
  unfold bodyB; rw [List.length_append, acP_len]; omega
theorem bodyB_small {e : En} (hc : chkF e = 0) : (bodyB e).length ≤ 1000000 := by
  obtain ⟨c1, c2, c3, c4, c5⟩ := chk0 hc
  have := bodyB_len hc; omega
set_option maxRecDepth 100000 in
set_option maxHeartbeats 4000000 in
theorem put_ok (e : En) (he : okEn e) (hc : chkF e = 0) : Does Try.prog 45 [.agg (enC e)] [] [] (.tup [.sl 1 (bytesV (sealB (bodyB e))), .sc (.int .i64 0)]) := by
  refine does_mkg 40 Try.func45 rfl rfl rfl (fun n B bx hd hpre hup hvs hbx hgx => ?_);obtain ⟨c1, c2, c3, c4, c5⟩ := chk0 hc;have hL : (e.pages.length : Int) ≤ 9223372036854775807 ∧ (e.act.length : Int) ≤ 9223372036854775807 := by omega
  have lh := hdP_len e
  have l1 := fr1_len (e := e) (by omega)
  have l2 := fr2_len (e := e) (by omega)
  have lp := pgP_len e.pages
  have la := acP_len e.act
  refine runs_seq ?_;refine runs_region ?_;refine rl1 (gn rfl) rfl rfl (step_box_agg (k := n + 0) rfl rfl) ⟨t_0, trivial⟩ (by omega) ?_;refine rl0 (gn rfl) rfl rfl (step_as rfl rfl) trivial ?_;refine rl0 (gn rfl) rfl rfl (step_as rfl rfl) trivial ?_;refine runsL_nil ?_;refine runs_seq ?_;refine runs_seq ?_;refine runs_region ?_;refine' rl0 (gn rfl) rfl rfl (step_load_all rfl rfl F.agg40 ?hl) ⟨?hb, trivial⟩ ?_
  case hb => exact t_0
  case hl => exact t_32
  refine rl0 (gn rfl) rfl rfl (step_callc rfl Try.func60 rfl rfl rfl (check_c e hL (fun m hm => (he.2.2.2.2.2.1 m hm).1)) t_29) trivial ?_;refine rl0 (gn rfl) rfl rfl (step_as rfl rfl) trivial ?_;refine runsL_nil ?_;refine runs_seq ?_;refine runs_region ?_;refine rl0 (gn rfl) rfl rfl (step_mv rfl rfl) trivial ?_;refine rl_neq (gn rfl) rfl rfl rfl rfl rfl (fun h1 => ?_) (fun h1 => ?_)
  · exact t_42
  refine runsL_nil ?_;refine runs_cond false (ev_mk rfl) (fun h_ => nomatch h_) (fun _ => ?_);refine runs_skip ?_;refine runs_seq ?_;refine runs_region ?_;refine rl0 (gn rfl) rfl rfl (step_fieldAddr (off := 1) rfl (ev_mk rfl) Try.underlying40 rfl F.sz3 rfl) trivial ?_;refine' rl0 (gn rfl) rfl rfl (step_load_one rfl (ev_mk rfl) F.one3 ?hv) ⟨?hb, trivial⟩ ?_
  case hb => exact t_0
  case hv => rfl
  refine rl0 (gn rfl) rfl rfl (step_conv_id rfl rfl Try.underlying3 Try.underlying5 (wu8 (by omega))) trivial ?_;refine rl0 (gn rfl) rfl rfl (step_lit rfl Try.underlying22 F.sz5 F.zero5 t_33 t_139 (by decide) rfl rfl t_21 rfl) trivial ?_;refine rl0 (gn rfl) rfl rfl (step_as rfl rfl) trivial ?_;refine runsL_nil ?_;refine runs_seq ?_;refine runs_seq ?_;refine runs_region ?_;refine rl0 (gn rfl) rfl rfl (step_fieldAddr (off := 0) rfl (ev_mk rfl) Try.underlying40 rfl F.sz33 rfl) trivial ?_;refine' rl0 (gn rfl) rfl rfl (step_load_one rfl (ev_mk rfl) F.one33 ?hv) ⟨?hb, trivial⟩ ?_
  case hb => exact t_0
  case hv => rfl
  refine rl0 (gn rfl) rfl rfl (step_fieldAddr (off := 2) rfl (ev_mk rfl) Try.underlying40 rfl F.sz33 rfl) trivial ?_;refine' rl0 (gn rfl) rfl rfl (step_load_one rfl (ev_mk rfl) F.one33 ?hv) ⟨?hb, trivial⟩ ?_
  case hb => exact t_0
  case hv => rfl
  refine rl0 (gn rfl) rfl rfl (step_fieldAddr (off := 3) rfl (ev_mk rfl) Try.underlying40 rfl F.sz33 rfl) trivial ?_;refine' rl0 (gn rfl) rfl rfl (step_load_one rfl (ev_mk rfl) F.one33 ?hv) ⟨?hb, trivial⟩ ?_
  case hb => exact t_0
  case hv => rfl
  refine rl0 (gn rfl) rfl rfl (step_fieldAddr (off := 4) rfl (ev_mk rfl) Try.underlying40 rfl F.sz33 rfl) trivial ?_;refine' rl0 (gn rfl) rfl rfl (step_load_one rfl (ev_mk rfl) F.one33 ?hv) ⟨?hb, trivial⟩ ?_
  case hb => exact t_0
  case hv => rfl
  refine rl0 (gn rfl) rfl rfl (step_build_arr (zs := [.int .u64 0, .int .u64 0, .int .u64 0, .int .u64 0]) rfl Try.underlying116 F.sz33 F.zero116 rfl rfl rfl) trivial ?_;refine rl0 (gn rfl) rfl rfl (step_mv rfl rfl) trivial ?_;refine runsL_nil ?_;refine runs_block ?_;refine runs_grow (l' := []) (d := 5) (k := n + 1) (e := 1) (xs := [[.sc (.int .u8 e.kind)]]) rfl (.inl rfl) t_0 (by omega) ?_;have hs0_ : [[V.sc (.int .u8 e.kind)]] = (bytesV (hdP e 0)) := by rfl
  refine runs_loop (fun (ri_ : Nat) (st_ : Go.Vm.S) => ∃ (j : Nat) (kb : Nat) (m0 : Nat) (b0 : Nat → Box), (st_ = ⟨mk [(1, .ref (n + 0) 0), (2, .sc (.slice none 0 0)), (3, .sc (.int .i64 0)), (5, .own 1 (bytesV (hdP e j)) kb), (29, .agg [.sc (.int .u64 e.lsn), .sc (.int .u64 e.txn), .sc (.int .u64 e.prev), .sc (.int .u64 e.next)]), (30, .sc (.int .i64 j))], m0, b0⟩) ∧ (ri_ = 4 - j) ∧ (n + 2 ≤ m0) ∧ (∀ k_, k_ < n → b0 k_ = bx k_) ∧ (b0 (n + 0) = .cells [.sc (.int .u64 e.lsn), .sc (.int .i64 e.kind), .sc (.int .u64 e.txn), .sc (.int .u64 e.prev), .sc (.int .u64 e.next), .sc (.int .u64 e.r.id), .sc (.int .u64 e.r.key), .sc (.int .u32 e.r.x), .sc (.int .u32 e.r.y), .sc (.string e.r.val), .sc (.bool e.r.gh), .sl 225 (e.pages.map imR), .sl 1 (e.act.map acR)]) ∧ (b0 kb = .tail (bytesV (hdP e j)).length) ∧ (j ≤ 4) ∧ (n + 1 ≤ kb) ∧ (kb < m0)) (4 - 0) ⟨_, sle ?_ (Nat.le_refl _), 0, (n + 1), _, _, rfl, rfl, ?_⟩ ?_
  · exact t_11
  · exact ⟨by omega, (fun k_ hk_ => t_14), t_134, t_134, by omega, by omega, by omega⟩
  · rintro _ _ ⟨j, kb, m0, b0, rfl, rfl, hm0, hf0, hB0_0, hB0_1, hF0_0, hF0_1, hF0_2⟩
    refine runs_know (fun hd0 => ?_);refine runs_bump 20 ?_;simp only at hd0;refine runs_seq ?_;refine runs_region ?_;refine rl_lss (gn rfl) rfl rfl rfl rfl rfl (fun h2 => ?_) (fun h2 => ?_)
    · skip
      refine runsL_nil ?_;refine runs_seq ?_;refine runs_cond true (ev_mk rfl) (fun _ => ?_) (fun h_ => nomatch h_);refine runs_skip ?_;refine runs_seq ?_;refine runs_block ?_;refine runs_seq ?_;refine runs_region ?_;refine' rl0 (gn rfl) rfl rfl (step_index_agg (v := .sc (.int .u64 (at' (f4 e) (j : Int)))) rfl (ev_mk rfl) (ev_mk rfl) Try.underlying116 F.one33 (by omega) (by omega) ?hv) trivial ?_
      case hv => exact f4_at (by omega)
      refine rl0 (gn rfl) rfl rfl (step_as rfl rfl) trivial ?_;refine runsL_nil ?_;refine runs_region ?_;refine rl0 (gn rfl) rfl rfl (step_mv rfl rfl) trivial ?_;refine rl0 (gn rfl) rfl rfl (step_mv rfl rfl) trivial ?_;refine rl1 (gn rfl) rfl rfl (step_callc rfl Try.func32 rfl rfl rfl (wput_o (hdP e j) (at' (f4 e) (j : Int)) (f4_ok he (by omega)) 8 (by omega) (by rw [lh]; omega) (m0 + 0)) t_29) ⟨t_4, trivial⟩ (by omega) ?_;refine rl0 (gn rfl) rfl rfl (step_as rfl rfl) trivial ?_;refine runsL_nil ?_;refine runs_region ?_;refine rl0 (gn rfl) rfl rfl (step_add rfl (ev_mk rfl) (ev_mk rfl) (w64 (by omega))) trivial ?_;refine rl0 (gn rfl) rfl rfl (step_mv rfl rfl) trivial ?_;refine runsL_nil ?_;have hq0_ : ((bytesV ((hdP e j) ++ beB 8 (at' (f4 e) (j : Int))))) = (bytesV (hdP e (j + 1))) := by rfl
      refine ⟨_, _, ?_, sle ?_ (Nat.le_refl _), (j + 1), (m0 + 0), _, _, rfl, rfl, by omega, (fun k_ hk_ => t_24), t_135, t_135, by omega, by omega, by omega⟩
      · omega
      · exact t_3
    · skip
      have hj4 : j = 4 := by omega
      refine runsL_nil ?_;refine runs_seq ?_;refine runs_cond false (ev_mk rfl) (fun h_ => nomatch h_) (fun _ => ?_);refine runs_exit ?_;refine runs_seq ?_;refine runs_region ?_;refine rl0 (gn rfl) rfl rfl (step_mv rfl rfl) trivial ?_;refine rl0 (gn rfl) rfl rfl (step_fieldAddr (off := 5) rfl (ev_mk rfl) Try.underlying40 rfl F.sz36 rfl) trivial ?_;refine' rl0 (gn rfl) rfl rfl (step_load_agg rfl (ev_mk rfl) F.agg36 ?hc ?hl) ⟨?hb, trivial⟩ ?_
      case hb => exact t_4
      case hc => rfl
      case hl => exact t_32
      refine rl0 (gn rfl) rfl rfl (step_callc rfl Try.func62 rfl rfl rfl (rec_c e.r he.2.2.2.2.1 (by omega)) t_29) trivial ?_;refine' rl1 (gn rfl) rfl rfl (step_append_own rfl rfl rfl Try.underlying22 ⟨_, Try.underlying22, fun k_ => t_49⟩ F.el5 (ev_mk rfl) (ev_mk rfl) (gives_sl (.inl rfl)) ?hg) ⟨?hb, trivial⟩ (by omega) ?_
      case hb => exact t_4
      case hg => exact t_26
      refine rl0 (gn rfl) rfl rfl (step_as rfl rfl) trivial ?_;refine runsL_nil ?_;refine runs_seq ?_;refine runs_region ?_;refine rl0 (gn rfl) rfl rfl (step_mv rfl rfl) trivial ?_;refine rl0 (gn rfl) rfl rfl (step_fieldAddr (off := 11) rfl (ev_mk rfl) Try.underlying40 rfl F.sz37 rfl) trivial ?_;refine' rl0 (gn rfl) rfl rfl (step_load_one rfl (ev_mk rfl) F.one37 ?hv) ⟨?hb, trivial⟩ ?_
      case hb => exact t_4
      case hv => rfl
      refine rl0 (gn rfl) rfl rfl (step_len (m := e.pages.length) rfl rfl (ev_mk rfl) (.inl ⟨⟨_, Try.underlying37⟩, .inl ⟨_, _, .inl rfl, List.length_map _⟩⟩)) trivial ?_;refine rl0 (gn rfl) rfl rfl (step_conv_id rfl rfl Try.underlying3 Try.underlying5 (wu8 (by omega))) trivial ?_;refine rl0 (gn rfl) rfl rfl (step_lit rfl Try.underlying22 F.sz5 F.zero5 t_33 t_139 (by decide) rfl rfl t_21 rfl) trivial ?_;refine' rl1 (gn rfl) rfl rfl (step_append_own rfl rfl rfl Try.underlying22 ⟨_, Try.underlying22, fun k_ => t_49⟩ F.el5 (ev_mk rfl) (ev_mk rfl) (gives_sl (.inr (.inl rfl))) ?hg) ⟨?hb, trivial⟩ (by omega) ?_
      case hb => exact t_4
      case hg => exact t_26
      refine rl0 (gn rfl) rfl rfl (step_as rfl rfl) trivial ?_;refine runsL_nil ?_;refine runs_seq ?_;refine runs_seq ?_;refine runs_region ?_;refine rl0 (gn rfl) rfl rfl (step_fieldAddr (off := 11) rfl (ev_mk rfl) Try.underlying40 rfl F.sz37 rfl) trivial ?_;refine' rl0 (gn rfl) rfl rfl (step_load_one rfl (ev_mk rfl) F.one37 ?hv) ⟨?hb, trivial⟩ ?_
      case hb => exact t_4
      case hv => rfl
      refine rl0 (gn rfl) rfl rfl (step_len (m := e.pages.length) rfl rfl (ev_mk rfl) (.inl ⟨⟨_, Try.underlying37⟩, .inl ⟨_, _, .inl rfl, List.length_map _⟩⟩)) trivial ?_;refine rl0 (gn rfl) rfl rfl (step_mv rfl rfl) trivial ?_;refine runsL_nil ?_;refine runs_block ?_;have hs0_ : (bytesV (hdP e j)) ++ (bytesV (recF e.r)) ++ [[V.sc (.int .u8 e.pages.length)]] = (bytesV (fr1 e ++ pgP e.pages 0)) := by (rw [hj4]; unfold fr1 pgP; simp only [bytesV_app, bytesV_one, List.append_nil, List.append_assoc])
      refine runs_loop (fun (ri_ : Nat) (st_ : Go.Vm.S) => ∃ (i : Nat) (m1 : Nat) (b1 : Nat → Box), (st_ = ⟨mk [(1, .ref (n + 0) 0), (2, .sc (.slice none 0 0)), (3, .sc (.int .i64 0)), (5, .own 1 (bytesV (fr1 e ++ pgP e.pages i)) kb), (50, .sl 225 (e.pages.map imR)), (51, .sc (.int .i64 e.pages.length)), (52, .sc (.int .i64 i))], m1, b1⟩) ∧ (ri_ = e.pages.length - i) ∧ (m0 + 0 ≤ m1) ∧ (∀ k_, k_ < n → k_ ≠ kb → b1 k_ = bx k_) ∧ (b1 (n + 0) = .cells [.sc (.int .u64 e.lsn), .sc (.int .i64 e.kind), .sc (.int .u64 e.txn), .sc (.int .u64 e.prev), .sc (.int .u64 e.next), .sc (.int .u64 e.r.id), .sc (.int .u64 e.r.key), .sc (.int .u32 e.r.x), .sc (.int .u32 e.r.y), .sc (.string e.r.val), .sc (.bool e.r.gh), .sl 225 (e.pages.map imR), .sl 1 (e.act.map acR)]) ∧ (b1 kb = .tail (bytesV (fr1 e ++ pgP e.pages i)).length) ∧ (i ≤ e.pages.length)) (e.pages.length - 0) ⟨_, sle ?_ (Nat.le_refl _), 0, _, _, rfl, rfl, ?_⟩ ?_
      · exact t_11
      · exact ⟨by omega, (fun k_ hk_ e0_ => t_18), t_134, t_134, by omega⟩
      · rintro _ _ ⟨i, m1, b1, rfl, rfl, hm1, hf1, hB1_0, hB1_1, hF1_0⟩
        refine runs_know (fun hd1 => ?_);refine runs_bump 20 ?_;simp only at hd1;refine runs_seq ?_;refine runs_region ?_;refine rl_lss (gn rfl) rfl rfl rfl rfl rfl (fun h3 => ?_) (fun h3 => ?_)
        · skip
          refine runsL_nil ?_;refine runs_seq ?_;refine runs_cond true (ev_mk rfl) (fun _ => ?_) (fun h_ => nomatch h_);refine runs_skip ?_;refine runs_seq ?_;refine runs_block ?_;refine runs_seq ?_;refine runs_region ?_;refine' rl0 (gn rfl) rfl rfl (step_index rfl (ev_mk rfl) (.inl rfl) (ev_mk rfl) Try.underlying37 F.sz86 (by omega) ?hr) trivial ?_
          case hr => exact t_31
          refine rl0 (gn rfl) rfl rfl (step_load_ro_all rfl rfl F.agg86 t_32) trivial ?_;refine rl1 (gn rfl) rfl rfl (step_allocc (k := m1 + 0) (zs := ((.int .i64 0) :: List.replicate 224 (.int .u8 0))) (cs := V.sc (.int .i64 0) :: List.replicate 224 (V.sc (.int .u8 0))) rfl F.zero86 t_33 t_55 t_33) ⟨t_9, trivial⟩ (by omega) ?_;refine' rls (gn rfl) rfl (step_storeA rfl rfl rfl rfl F.agg86 ?hm ?hl) ⟨?hb, trivial⟩ ?hk ?_
          case hb => exact t_9
          case hm => exact t_32
          case hl => exact t_32
          case hk => omega
          refine runsL_nil ?_;refine runs_draw (by kernel_rfl) (by kernel_rfl) (by kernel_rfl) ?_;refine dl0 (gn rfl) rfl rfl (step_mv rfl rfl) trivial ?_;refine dl0 (gn rfl) rfl rfl (step_fieldAddr (off := 0) rfl (ev_mk rfl) Try.underlying86 rfl F.sz3 rfl) trivial ?_;refine' dl0 (gn rfl) rfl rfl (step_load_one (v := .sc (.int .i64 (at' e.pages (i : Int)).n)) rfl (ev_mk rfl) F.one3 ?hv) ⟨?hb, trivial⟩ ?_
          case hb => exact t_9
          case hv => rfl
          refine dl0 (gn rfl) rfl rfl (step_conv_id rfl rfl Try.underlying3 Try.underlying5 (wu8 (by (have h_ := pgS_all c5 i (by omega); omega)))) trivial ?_;refine dl0 (gn rfl) rfl rfl (step_lit rfl Try.underlying22 F.sz5 F.zero5 t_33 t_139 (by decide) rfl rfl t_21 rfl) trivial ?_;refine' dl1 (gn rfl) rfl rfl (step_append_own rfl rfl rfl Try.underlying22 ⟨_, Try.underlying22, fun k_ => t_49⟩ F.el5 (ev_mk rfl) (ev_mk rfl) (gives_sl (.inr (.inl rfl))) ?hg) ⟨?hb, trivial⟩ (by omega) ?_
          case hb => exact t_9
          case hg => exact t_26
          refine dl0 (gn rfl) rfl rfl (step_fieldAddr (off := 1) rfl (ev_mk rfl) Try.underlying86 rfl F.sz84 rfl) trivial ?_;refine' dl0 (gn rfl) rfl rfl (step_load_agg rfl (ev_mk rfl) F.agg84 ?hc ?hl) ⟨?hb, trivial⟩ ?_
          case hb => exact t_9
          case hc => exact imR_pg (he.2.2.2.2.2.1 _ (at_mem (xs := e.pages) (i := (i : Int)) (by omega) (by omega))).1
          case hl => exact t_32
          refine dl0 (gn rfl) rfl rfl (step_callc rfl Try.func63 rfl rfl rfl (sq_c (at' e.pages (i : Int)).p (he.2.2.2.2.2.1 _ (at_mem (by omega) (by omega))).1) t_29) trivial ?_;refine' dl1 (gn rfl) rfl rfl (step_append_own rfl rfl rfl Try.underlying22 ⟨_, Try.underlying22, fun k_ => t_49⟩ F.el5 (ev_mk rfl) (ev_mk rfl) (gives_sl (.inl rfl)) ?hg) ⟨?hb, trivial⟩ (by omega) ?_
          case hb => exact t_9
          case hg => exact t_26
          refine dl0 (gn rfl) rfl rfl (step_as rfl rfl) trivial ?_;refine dlnil ?_ ?_
          · exact t_12
          refine runs_region ?_;refine rl0 (gn rfl) rfl rfl (step_add rfl (ev_mk rfl) (ev_mk rfl) (w64 (by omega))) trivial ?_;refine rl0 (gn rfl) rfl rfl (step_mv rfl rfl) trivial ?_;refine runsL_nil ?_;have hq0_ : (bytesV (fr1 e ++ pgP e.pages i) ++ [[V.sc (.int .u8 (at' e.pages (i : Int)).n)]] ++ (bytesV (sqB (at' e.pages (i : Int)).p))) = (bytesV (fr1 e ++ pgP e.pages (i + 1))) := by (simp only [pgP, bytesV_app, bytesV_one, List.append_assoc, List.singleton_append]; rfl)
          refine ⟨_, _, ?_, sle ?_ (Nat.le_refl _), (i + 1), _, _, rfl, rfl, by omega, (fun k_ hk_ e0_ => by repeat (first | exact hf1 k_ hk_ e0_ | exact hf0 k_ hk_ | exact hf0 k_ hk_ e0_ | refine uN (by first | assumption | omega) ?_ | fail)), t_135, t_135, by omega⟩
          · omega
          · exact t_3
        · skip
          have hi4 : i = e.pages.length := by omega
          refine runsL_nil ?_;refine runs_seq ?_;refine runs_cond false (ev_mk rfl) (fun h_ => nomatch h_) (fun _ => ?_);refine runs_exit ?_;refine runs_seq ?_;refine runs_region ?_;refine rl0 (gn rfl) rfl rfl (step_mv rfl rfl) trivial ?_;refine rl0 (gn rfl) rfl rfl (step_fieldAddr (off := 12) rfl (ev_mk rfl) Try.underlying40 rfl F.sz38 rfl) trivial ?_;refine' rl0 (gn rfl) rfl rfl (step_load_one rfl (ev_mk rfl) F.one38 ?hv) ⟨?hb, trivial⟩ ?_
          case hb => exact t_9
          case hv => rfl
          refine rl0 (gn rfl) rfl rfl (step_len (m := e.act.length) rfl rfl (ev_mk rfl) (.inl ⟨⟨_, Try.underlying38⟩, .inl ⟨_, _, .inl rfl, List.length_map _⟩⟩)) trivial ?_;refine rl0 (gn rfl) rfl rfl (step_conv_id rfl rfl Try.underlying3 Try.underlying5 (wu8 (by omega))) trivial ?_;refine rl0 (gn rfl) rfl rfl (step_lit rfl Try.underlying22 F.sz5 F.zero5 t_33 t_139 (by decide) rfl rfl t_21 rfl) trivial ?_;refine' rl1 (gn rfl) rfl rfl (step_append_own rfl rfl rfl Try.underlying22 ⟨_, Try.underlying22, fun k_ => t_49⟩ F.el5 (ev_mk rfl) (ev_mk rfl) (gives_sl (.inr (.inl rfl))) ?hg) ⟨?hb, trivial⟩ (by omega) ?_
          case hb => exact t_9
          case hg => exact t_26
          refine rl0 (gn rfl) rfl rfl (step_as rfl rfl) trivial ?_;refine runsL_nil ?_;refine runs_seq ?_;refine runs_seq ?_;refine runs_region ?_;refine rl0 (gn rfl) rfl rfl (step_fieldAddr (off := 12) rfl (ev_mk rfl) Try.underlying40 rfl F.sz38 rfl) trivial ?_;refine' rl0 (gn rfl) rfl rfl (step_load_one rfl (ev_mk rfl) F.one38 ?hv) ⟨?hb, trivial⟩ ?_
          case hb => exact t_9
          case hv => rfl
          refine rl0 (gn rfl) rfl rfl (step_len (m := e.act.length) rfl rfl (ev_mk rfl) (.inl ⟨⟨_, Try.underlying38⟩, .inl ⟨_, _, .inl rfl, List.length_map _⟩⟩)) trivial ?_;refine rl0 (gn rfl) rfl rfl (step_mv rfl rfl) trivial ?_;refine runsL_nil ?_;refine runs_block ?_;have hs0_ : bytesV (fr1 e ++ pgP e.pages i) ++ [[V.sc (.int .u8 e.act.length)]] = (bytesV (fr2 e ++ acP e.act 0)) := by (rw [hi4]; unfold fr2 acP; simp only [bytesV_app, bytesV_one, List.append_nil, List.append_assoc])
          refine runs_loop (fun (ri_ : Nat) (st_ : Go.Vm.S) => ∃ (w : Nat) (kc : Nat) (m2 : Nat) (b2 : Nat → Box), (st_ = ⟨mk [(2, .sc (.slice none 0 0)), (3, .sc (.int .i64 0)), (5, .own 1 (bytesV (fr2 e ++ acP e.act w)) kc), (75, .sl 1 (e.act.map acR)), (76, .sc (.int .i64 e.act.length)), (77, .sc (.int .i64 w))], m2, b2⟩) ∧ (ri_ = e.act.length - w) ∧ (m1 + 0 ≤ m2) ∧ (∀ k_, k_ < n → b2 k_ = bx k_) ∧ (b2 (n + 0) = .cells [.sc (.int .u64 e.lsn), .sc (.int .i64 e.kind), .sc (.int .u64 e.txn), .sc (.int .u64 e.prev), .sc (.int .u64 e.next), .sc (.int .u64 e.r.id), .sc (.int .u64 e.r.key), .sc (.int .u32 e.r.x), .sc (.int .u32 e.r.y), .sc (.string e.r.val), .sc (.bool e.r.gh), .sl 225 (e.pages.map imR), .sl 1 (e.act.map acR)]) ∧ (b2 kc = .tail (bytesV (fr2 e ++ acP e.act w)).length) ∧ (w ≤ e.act.length) ∧ (n ≤ kc) ∧ (kc < m2)) (e.act.length - 0) ⟨_, sle ?_ (Nat.le_refl _), 0, kb, _, _, rfl, rfl, ?_⟩ ?_
          · exact t_11
          · exact ⟨by omega, (fun k_ hk_ => by repeat (first | exact rfl | refine uN (by omega) ?_ | assumption | exact hf0 _ (by omega) | exact hf1 _ (by omega) (by first | assumption | omega) | fail)), t_134, t_134, by omega, by omega, by omega⟩
          · rintro _ _ ⟨w, kc, m2, b2, rfl, rfl, hm2, hf2, hB2_0, hB2_1, hF2_0, hF2_1, hF2_2⟩
            refine runs_know (fun hd2 => ?_);refine runs_bump 20 ?_;simp only at hd2;refine runs_seq ?_;refine runs_region ?_;refine rl_lss (gn rfl) rfl rfl rfl rfl rfl (fun h4 => ?_) (fun h4 => ?_)
            · skip
              refine runsL_nil ?_;refine runs_seq ?_;refine runs_cond true (ev_mk rfl) (fun _ => ?_) (fun h_ => nomatch h_);refine runs_skip ?_;refine runs_seq ?_;refine runs_block ?_;refine runs_seq ?_;refine runs_region ?_;refine' rl0 (gn rfl) rfl rfl (step_index rfl (ev_mk rfl) (.inl rfl) (ev_mk rfl) Try.underlying38 F.sz33 (by omega) ?hr) trivial ?_
              case hr => exact t_31
              refine rl0 (gn rfl) rfl rfl (step_load_ro rfl (ev_mk rfl) F.one33 rfl) trivial ?_;refine rl0 (gn rfl) rfl rfl (step_as rfl rfl) trivial ?_;refine runsL_nil ?_;refine runs_region ?_;refine rl0 (gn rfl) rfl rfl (step_mv rfl rfl) trivial ?_;refine rl0 (gn rfl) rfl rfl (step_mv rfl rfl) trivial ?_;refine rl1 (gn rfl) rfl rfl (step_callc rfl Try.func32 rfl rfl rfl (wput_o (fr2 e ++ acP e.act w) (at' e.act (w : Int)) (he.2.2.2.2.2.2 _ (at_mem (by omega) (by omega))) 8 (by omega) (by rw [List.length_append, la]; omega) (m2 + 0)) t_29) ⟨by repeat (first | exact uE | refine uN (by omega) ?_ | assumption | exact hd _ (by omega) | exact hd0 _ (by omega) | exact hd1 _ (by omega) | exact hd2 _ (by omega) | fail), trivial⟩ (by omega) ?_;refine rl0 (gn rfl) rfl rfl (step_as rfl rfl) trivial ?_;refine runsL_nil ?_;refine runs_region ?_;refine rl0 (gn rfl) rfl rfl (step_add rfl (ev_mk rfl) (ev_mk rfl) (w64 (by omega))) trivial ?_;refine rl0 (gn rfl) rfl rfl (step_mv rfl rfl) trivial ?_;refine runsL_nil ?_;have hq0_ : ((bytesV ((fr2 e ++ acP e.act w) ++ beB 8 (at' e.act (w : Int))))) = (bytesV (fr2 e ++ acP e.act (w + 1))) := by (rw [List.append_assoc]; rfl)
              refine ⟨_, _, ?_, sle ?_ (Nat.le_refl _), (w + 1), (m2 + 0), _, _, rfl, rfl, by omega, (fun k_ hk_ => by repeat (first | exact hf2 k_ hk_ | exact hf0 k_ hk_ | exact hf1 k_ hk_ | refine uN (by first | assumption | omega) ?_ | fail)), t_135, t_135, by omega, by omega, by omega⟩
              · omega
              · exact t_3
            · skip
              have hw4 : w = e.act.length := by omega
              refine runsL_nil ?_;refine runs_seq ?_;refine runs_cond false (ev_mk rfl) (fun h_ => nomatch h_) (fun _ => ?_);refine runs_exit ?_;refine runs_seq ?_;refine runs_region ?_;refine rl0 (gn rfl) rfl rfl (step_mv rfl rfl) trivial ?_;refine rl0 (gn rfl) rfl rfl (step_callc rfl Try.func64 rfl rfl rfl (sput_c (fr2 e ++ acP e.act w) (by rw [hw4]; exact bodyB_byts he hc) (by rw [hw4]; have := bodyB_small hc; exact Nat.le_trans this (by omega))) t_29) trivial ?_;refine rl0 (gn rfl) rfl rfl (step_as rfl rfl) trivial ?_;refine rl0 (gn rfl) rfl rfl (step_as rfl rfl) trivial ?_;refine runsL_nil ?_;refine runs_ret ?_;have hb_ : fr2 e ++ acP e.act w = bodyB e := by rw [hw4]; rfl
              refine ⟨t_17, fin_mkg (rest rfl (rest rfl res0)) ?_ ?_ ?_ ?_ ?_⟩
              · exact t_88
              · exact t_1
              · intro k_ hk_; exact ble (by repeat (first | exact rfl | refine uN (by omega) ?_ | assumption | exact hf0 _ (by omega) | exact hf1 _ (by omega) (by first | assumption | omega) | exact hf2 _ (by omega) | fail))
              · exact t_45
              · exact t_1
end Go.Proofs.Ytdmkhpnjjpeeaaa
