/- Walks, told over from another seat's. -/
import Derived.Test.YtdmkhpnjjpeeaaaKnVmT
import Derived.Test.YtdmkhpnjjpeeaaaKnWe
import Derived.Test.YtdmkhpnjjpeeaaaKnVe
import Derived.Test.YtdmkhpnjjpeeaaaKnWa
import Derived.Test.YtdmkhpnjjpeeaaaKnWd
namespace Go.Proofs.Ytdmkhpnjjpeeaaa
open Go.Vm
set_option linter.unusedVariables false
set_option linter.unusedSimpArgs false
open Crc
attribute [local irreducible] Go.Vm.beB Go.Vm.fieldB
def f4 (e : En) : List Int := [e.lsn, e.txn, e.prev, e.next]
def hdP (e : En) : Nat → List Int
  | 0 => [e.kind]
  | j + 1 => hdP e j ++ beB 8 (at' (f4 e) (j : Int))
def pgP (l : List Im) : Nat → List Int
  | 0 => []
  | j + 1 => pgP l j ++ ((at' l (j : Int)).n :: sqB (at' l (j : Int)).p)
def acP (l : List Int) : Nat → List Int
  | 0 => []
  | j + 1 => acP l j ++ beB 8 (at' l (j : Int))
def fr1 (e : En) : List Int := hdP e 4 ++ recF e.r ++ [(e.pages.length : Int)]
def fr2 (e : En) : List Int := fr1 e ++ pgP e.pages e.pages.length ++ [(e.act.length : Int)]
def bodyB (e : En) : List Int := fr2 e ++ acP e.act e.act.length
def okEn (e : En) : Prop := U64 e.lsn ∧ U64 e.txn ∧ U64 e.prev ∧ U64 e.next ∧ okRc e.r ∧ (∀ m ∈ e.pages, m.p.length = 224 ∧ Byts m.p) ∧ ∀ a ∈ e.act, U64 a
theorem imR_pg {m : Im} (h : m.p.length = 224) : List.take 224 (List.drop (0 + 1) (imR m)) = m.p.map bV := by
  unfold imR
  rw [List.drop_succ_cons, List.drop_zero]
  exact List.take_of_length_le (by rw [List.length_map]; omega)
theorem f4_at {e : En} {j : Nat} (h : j < 4) : [V.sc (.int .u64 e.lsn), .sc (.int .u64 e.txn), .sc (.int .u64 e.prev), .sc (.int .u64 e.next)][j]? = some (.sc (.int .u64 (at' (f4 e) (j : Int)))) := by
  match j, h with
  | 0, _ => rfl
  | 1, _ => rfl
  | 2, _ => rfl
  | 3, _ => rfl
theorem f4_ok {e : En} (h : okEn e) {j : Nat} (hj : j < 4) : U64 (at' (f4 e) (j : Int)) := by
  match j, hj with
  | 0, _ => exact h.1
  | 1, _ => exact h.2.1
  | 2, _ => exact h.2.2.1
  | 3, _ => exact h.2.2.2.1
theorem hdP_len (e : En) : ∀ j, (hdP e j).length = 1 + 8 * j
  | 0 => rfl
  | j + 1 => by unfold hdP; rw [List.length_append, hdP_len e j, beB_len]; omega
theorem sqB_len (p : List Int) : (sqB p).length ≤ 225 := by unfold sqB; have := lnz_le p 224; rw [List.length_cons, List.length_take]; omega
theorem pgP_len (l : List Im) : ∀ j, (pgP l j).length ≤ 226 * j
  | 0 => by simp [pgP]
  | j + 1 => by unfold pgP; have := pgP_len l j; have := sqB_len (at' l (j : Int)).p; rw [List.length_append, List.length_cons]; omega
theorem acP_len (l : List Int) : ∀ j, (acP l j).length = 8 * j
  | 0 => rfl
  | j + 1 => by unfold acP; rw [List.length_append, acP_len l j, beB_len]; omega
theorem recF_len {r : Rc} (h : r.val.size < 16) : (recF r).length = 41 := by unfold recF recB; simp only [List.length_append, beB_len, fieldB_len h, List.length_cons, List.length_nil]
theorem fr1_len {e : En} (h : e.r.val.size < 16) : (fr1 e).length = 75 := by unfold fr1; rw [List.length_append, List.length_append, hdP_len, recF_len h]; rfl
theorem fr2_len {e : En} (h : e.r.val.size < 16) : (fr2 e).length ≤ 76 + 226 * e.pages.length := by unfold fr2; have := pgP_len e.pages e.pages.length; rw [List.length_append, List.length_append, fr1_len h, List.length_cons, List.length_nil]; omega
theorem pgS_all {l : List Im} : ∀ {j : Nat}, pgS l j = true → ∀ i : Nat, i < j → 0 ≤ (at' l (i : Int)).n ∧ (at' l (i : Int)).n ≤ 255
  | 0, _, i, hi => by omega
  | j + 1, h, i, hi => by
    unfold pgS at h
    rw [Bool.and_eq_true, decide_eq_true_eq] at h
    rcases Nat.lt_succ_iff_lt_or_eq.mp hi with h_ | rfl
    · exact pgS_all h.1 i h_
    · exact ⟨h.2.1, h.2.2.1⟩
theorem chk0 {e : En} (h : chkF e = 0) : (1 ≤ e.kind ∧ e.kind ≤ 10) ∧ e.r.val.size ≤ 15 ∧ e.pages.length ≤ 24 ∧ e.act.length ≤ 64 ∧ pgS e.pages e.pages.length = true := by
  unfold chkF at h
  split at h
  · omega
  · split at h
    · omega
    · split at h
      · omega
      · split at h
        · rename_i h1 h2 h3 h4; exact ⟨by omega, by omega, by omega, by omega, h4⟩
        · omega
theorem hdP_byts {e : En} (h : 1 ≤ e.kind ∧ e.kind ≤ 10) : ∀ j, Byts (hdP e j)
  | 0 => bytes_one ⟨by omega, by omega⟩
  | j + 1 => bytes_app (hdP_byts h j) (beB_bytes _ _)
theorem recF_byts {r : Rc} (h : r.val.size < 16) : Byts (recF r) := by
  unfold recF recB
  exact bytes_app (bytes_app (bytes_app (bytes_app (bytes_app (beB_bytes _ _) (beB_bytes _ _)) (beB_bytes _ _)) (beB_bytes _ _)) (bytes_one (by split <;> omega))) (fieldB_byts (by omega))
theorem sqB_byts {p : List Int} (h : Byts p) : Byts (sqB p) := by
  have := lnz_le p 224
  unfold sqB
  exact bytes_app (bytes_one ⟨by omega, by omega⟩) (bytes_take h _)
theorem pgP_byts {l : List Im} (hp : ∀ m ∈ l, m.p.length = 224 ∧ Byts m.p) (hs : pgS l l.length = true) : ∀ j, j ≤ l.length → Byts (pgP l j)
  | 0, _ => bytes_nil
  | j + 1, hj => by
    have h1 := pgS_all hs j (by omega)
    exact bytes_app (pgP_byts hp hs j (by omega)) (bytes_app (bytes_one ⟨h1.1, by omega⟩) (sqB_byts (hp _ (at_mem (by omega) (by omega))).2))
theorem acP_byts (l : List Int) : ∀ j, Byts (acP l j)
  | 0 => bytes_nil
  | j + 1 => bytes_app (acP_byts l j) (beB_bytes _ _)
theorem fr2_byts {e : En} (h : okEn e) (hc : chkF e = 0) : Byts (fr2 e) := by
  obtain ⟨c1, c2, c3, c4, c5⟩ := chk0 hc
  exact bytes_app (bytes_app (bytes_app (bytes_app (hdP_byts c1 4) (recF_byts (by omega))) (bytes_one ⟨by omega, by omega⟩)) (pgP_byts h.2.2.2.2.2.1 c5 _ (Nat.le_refl _))) (bytes_one ⟨by omega, by omega⟩)
theorem bodyB_byts {e : En} (h : okEn e) (hc : chkF e = 0) : Byts (bodyB e) := bytes_app (fr2_byts h hc) (acP_byts _ _)
theorem bodyB_len {e : En} (hc : chkF e = 0) : (bodyB e).length ≤ 76 + 226 * e.pages.length + 8 * e.act.length := by
  obtain ⟨c1, c2, c3, c4, c5⟩ := chk0 hc
  have := fr2_len (e := e) (by omega)
  unfold bodyB; rw [List.length_append, acP_len]; omega
theorem bodyB_small {e : En} (hc : chkF e = 0) : (bodyB e).length ≤ 1000000 := by
  obtain ⟨c1, c2, c3, c4, c5⟩ := chk0 hc
  have := bodyB_len hc; omega
set_option maxRecDepth 100000 in
set_option maxHeartbeats 4000000 in
theorem put_ok (e : En) (he : okEn e) (hc : chkF e = 0) : Does Try.prog 45 [.agg (enC e)] [] [] (.tup [.sl 1 (bytesV (sealB (bodyB e))), .sc (.int .i64 0)]) := by
  refine does_mkg 40 Try.func45 rfl rfl rfl (fun n B bx hd hpre hup hvs hbx hgx => ?_)
  obtain ⟨c1, c2, c3, c4, c5⟩ := chk0 hc
  have hL : (e.pages.length : Int) ≤ 9223372036854775807 ∧ (e.act.length : Int) ≤ 9223372036854775807 := by omega
  have lh := hdP_len e
  have l1 := fr1_len (e := e) (by omega)
  have l2 := fr2_len (e := e) (by omega)
  have lp := pgP_len e.pages
  have la := acP_len e.act
  refine runs_seq ?_
  refine runs_region ?_
  refine rl1 (gn rfl) rfl rfl (step_box_agg (k := n + 0) rfl rfl) ⟨by repeat (first | exact uE | refine uN (by omega) ?_ | assumption | exact hd _ (by omega) | fail), trivial⟩ (by omega) ?_
  refine rl0 (gn rfl) rfl rfl (step_as rfl rfl) trivial ?_
  refine rl0 (gn rfl) rfl rfl (step_as rfl rfl) trivial ?_
  refine runsL_nil ?_
  refine runs_seq ?_
  refine runs_seq ?_
  refine runs_region ?_
  refine' rl0 (gn rfl) rfl rfl (step_load_all rfl rfl F.agg40 ?hl) ⟨?hb, trivial⟩ ?_
  case hb => repeat (first | exact uE | refine uN (by omega) ?_ | assumption | exact hd _ (by omega) | fail)
  case hl => first | rfl | (simp; done) | (first | rfl | exact imR_len (he.2.2.2.2.2.1 _ (at_mem (xs := e.pages) (i := (i : Int)) (by omega) (by omega))).1 | (simp [imR, (he.2.2.2.2.2.1 _ (at_mem (xs := e.pages) (i := (i : Int)) (by omega) (by omega))).1]; done))
  refine rl0 (gn rfl) rfl rfl (step_callc rfl Try.func60 rfl rfl rfl (check_c e hL (fun m hm => (he.2.2.2.2.2.1 m hm).1)) (by repeat (first | exact .nil | refine .cons ?_ ?_ | exact VLe.refl _ | exact VLe.own_sl _ _ _ | exact VLe.fl_sl _ _ | exact VLe.nil_sl _ | (rw [bytesV_snoc]; exact VLe.own_sl _ _ _) | refine VLe.agg ?_))) trivial ?_
  refine rl0 (gn rfl) rfl rfl (step_as rfl rfl) trivial ?_
  refine runsL_nil ?_
  refine runs_seq ?_
  refine runs_region ?_
  refine rl0 (gn rfl) rfl rfl (step_mv rfl rfl) trivial ?_
  refine rl_neq (gn rfl) rfl rfl rfl rfl rfl (fun h1 => ?_) (fun h1 => ?_)
  · exact False.elim (by omega)
  refine runsL_nil ?_
  refine runs_cond false (ev_mk rfl) (fun h_ => nomatch h_) (fun _ => ?_)
  refine runs_skip ?_
  refine runs_seq ?_
  refine runs_region ?_
  refine rl0 (gn rfl) rfl rfl (step_fieldAddr (off := 1) rfl (ev_mk rfl) Try.underlying40 rfl F.sz3 rfl) trivial ?_
  refine' rl0 (gn rfl) rfl rfl (step_load_one rfl (ev_mk rfl) F.one3 ?hv) ⟨?hb, trivial⟩ ?_
  case hb => repeat (first | exact uE | refine uN (by omega) ?_ | assumption | exact hd _ (by omega) | fail)
  case hv => rfl
  refine rl0 (gn rfl) rfl rfl (step_conv_id rfl rfl Try.underlying3 Try.underlying5 (wu8 (by omega))) trivial ?_
  refine rl0 (gn rfl) rfl rfl (step_lit rfl Try.underlying22 F.sz5 F.zero5 (by first | rfl | simp) (by first | rfl | simp | decide) (by decide) rfl rfl (by first | (simp [V.cs, V.stor, oneV]; done) | (simp [V.cs, V.stor, oneV])) rfl) trivial ?_
  refine rl0 (gn rfl) rfl rfl (step_as rfl rfl) trivial ?_
  refine runsL_nil ?_
  refine runs_seq ?_
  refine runs_seq ?_
  refine runs_region ?_
  refine rl0 (gn rfl) rfl rfl (step_fieldAddr (off := 0) rfl (ev_mk rfl) Try.underlying40 rfl F.sz33 rfl) trivial ?_
  refine' rl0 (gn rfl) rfl rfl (step_load_one rfl (ev_mk rfl) F.one33 ?hv) ⟨?hb, trivial⟩ ?_
  case hb => repeat (first | exact uE | refine uN (by omega) ?_ | assumption | exact hd _ (by omega) | fail)
  case hv => rfl
  refine rl0 (gn rfl) rfl rfl (step_fieldAddr (off := 2) rfl (ev_mk rfl) Try.underlying40 rfl F.sz33 rfl) trivial ?_
  refine' rl0 (gn rfl) rfl rfl (step_load_one rfl (ev_mk rfl) F.one33 ?hv) ⟨?hb, trivial⟩ ?_
  case hb => repeat (first | exact uE | refine uN (by omega) ?_ | assumption | exact hd _ (by omega) | fail)
  case hv => rfl
  refine rl0 (gn rfl) rfl rfl (step_fieldAddr (off := 3) rfl (ev_mk rfl) Try.underlying40 rfl F.sz33 rfl) trivial ?_
  refine' rl0 (gn rfl) rfl rfl (step_load_one rfl (ev_mk rfl) F.one33 ?hv) ⟨?hb, trivial⟩ ?_
  case hb => repeat (first | exact uE | refine uN (by omega) ?_ | assumption | exact hd _ (by omega) | fail)
  case hv => rfl
  refine rl0 (gn rfl) rfl rfl (step_fieldAddr (off := 4) rfl (ev_mk rfl) Try.underlying40 rfl F.sz33 rfl) trivial ?_
  refine' rl0 (gn rfl) rfl rfl (step_load_one rfl (ev_mk rfl) F.one33 ?hv) ⟨?hb, trivial⟩ ?_
  case hb => repeat (first | exact uE | refine uN (by omega) ?_ | assumption | exact hd _ (by omega) | fail)
  case hv => rfl
  refine rl0 (gn rfl) rfl rfl (step_build_arr (zs := [.int .u64 0, .int .u64 0, .int .u64 0, .int .u64 0]) rfl Try.underlying116 F.sz33 F.zero116 rfl rfl rfl) trivial ?_
  refine rl0 (gn rfl) rfl rfl (step_mv rfl rfl) trivial ?_
  refine runsL_nil ?_
  refine runs_block ?_
  refine runs_grow (l' := []) (d := 5) (k := n + 1) (e := 1) (xs := [[.sc (.int .u8 e.kind)]]) rfl (.inl rfl) (by repeat (first | exact uE | refine uN (by omega) ?_ | assumption | exact hd _ (by omega) | fail)) (by omega) ?_
  have hs0_ : [[V.sc (.int .u8 e.kind)]] = (bytesV (hdP e 0)) := by rfl
  refine runs_loop (fun (ri_ : Nat) (st_ : Go.Vm.S) => ∃ (j : Nat) (kb : Nat) (m0 : Nat) (b0 : Nat → Box), (st_ = ⟨mk [(1, .ref (n + 0) 0), (2, .sc (.slice none 0 0)), (3, .sc (.int .i64 0)), (5, .own 1 (bytesV (hdP e j)) kb), (29, .agg [.sc (.int .u64 e.lsn), .sc (.int .u64 e.txn), .sc (.int .u64 e.prev), .sc (.int .u64 e.next)]), (30, .sc (.int .i64 j))], m0, b0⟩) ∧ (ri_ = 4 - j) ∧ (n + 2 ≤ m0) ∧ (∀ k_, k_ < n → b0 k_ = bx k_) ∧ (b0 (n + 0) = .cells [.sc (.int .u64 e.lsn), .sc (.int .i64 e.kind), .sc (.int .u64 e.txn), .sc (.int .u64 e.prev), .sc (.int .u64 e.next), .sc (.int .u64 e.r.id), .sc (.int .u64 e.r.key), .sc (.int .u32 e.r.x), .sc (.int .u32 e.r.y), .sc (.string e.r.val), .sc (.bool e.r.gh), .sl 225 (e.pages.map imR), .sl 1 (e.act.map acR)]) ∧ (b0 kb = .tail (bytesV (hdP e j)).length) ∧ (j ≤ 4) ∧ (n + 1 ≤ kb) ∧ (kb < m0)) (4 - 0) ⟨_, sle ?_ (Nat.le_refl _), 0, (n + 1), _, _, rfl, rfl, ?_⟩ ?_
  · (repeat' (first | exact trivial | refine ⟨⟨_, rfl, ?_⟩, ?_⟩ | fail)); all_goals (repeat' (first | exact VLe.refl _ | exact VLe.own_sl _ _ _ | exact VLe.fl_sl _ _ | exact VLe.nil_sl _ | exact VLe.nil_fl _ | exact VLes.refl _ | exact .nil | refine VLe.tup ?_ | refine VLe.agg ?_ | refine .cons ?_ ?_ | (rw [Int.natCast_add]; exact VLe.refl _) | exact vle_int (by omega) | exact vle_bool (by first | rfl | assumption | (simp_all; done) | fail) | (rw [← hs0_]; exact VLe.refl _) | (rw [hs0_]; exact VLe.refl _) | fail))
  · exact ⟨by omega, (fun k_ hk_ => by repeat (first | exact rfl | refine uN (by omega) ?_ | assumption | fail)), by first | ((repeat (first | exact uE | assumption | refine uN (by omega) ?_ | fail)); done) | exact tl_eq (by repeat (first | exact uE | assumption | refine uN (by omega) ?_ | fail)) (by first | rfl | exact congrArg List.length hs0_ | exact congrArg List.length hq0_ | (simp [bytesV, beB_len]; omega)) | (rw [← hs0_]; (repeat (first | exact uE | assumption | refine uN (by omega) ?_ | fail)); done), by first | ((repeat (first | exact uE | assumption | refine uN (by omega) ?_ | fail)); done) | exact tl_eq (by repeat (first | exact uE | assumption | refine uN (by omega) ?_ | fail)) (by first | rfl | exact congrArg List.length hs0_ | exact congrArg List.length hq0_ | (simp [bytesV, beB_len]; omega)) | (rw [← hs0_]; (repeat (first | exact uE | assumption | refine uN (by omega) ?_ | fail)); done), by omega, by omega, by omega⟩
  · rintro _ _ ⟨j, kb, m0, b0, rfl, rfl, hm0, hf0, hB0_0, hB0_1, hF0_0, hF0_1, hF0_2⟩
    refine runs_know (fun hd0 => ?_)
    refine runs_bump 20 ?_
    simp only at hd0
    refine runs_seq ?_
    refine runs_region ?_
    refine rl_lss (gn rfl) rfl rfl rfl rfl rfl (fun h2 => ?_) (fun h2 => ?_)
    · skip
      refine runsL_nil ?_
      refine runs_seq ?_
      refine runs_cond true (ev_mk rfl) (fun _ => ?_) (fun h_ => nomatch h_)
      refine runs_skip ?_
      refine runs_seq ?_
      refine runs_block ?_
      refine runs_seq ?_
      refine runs_region ?_
      refine' rl0 (gn rfl) rfl rfl (step_index_agg (v := .sc (.int .u64 (at' (f4 e) (j : Int)))) rfl (ev_mk rfl) (ev_mk rfl) Try.underlying116 F.one33 (by omega) (by omega) ?hv) trivial ?_
      case hv => exact f4_at (by omega)
      refine rl0 (gn rfl) rfl rfl (step_as rfl rfl) trivial ?_
      refine runsL_nil ?_
      refine runs_region ?_
      refine rl0 (gn rfl) rfl rfl (step_mv rfl rfl) trivial ?_
      refine rl0 (gn rfl) rfl rfl (step_mv rfl rfl) trivial ?_
      refine rl1 (gn rfl) rfl rfl (step_callc rfl Try.func32 rfl rfl rfl (wput_o (hdP e j) (at' (f4 e) (j : Int)) (f4_ok he (by omega)) 8 (by omega) (by rw [lh]; omega) (m0 + 0)) (by repeat (first | exact .nil | refine .cons ?_ ?_ | exact VLe.refl _ | exact VLe.own_sl _ _ _ | exact VLe.fl_sl _ _ | exact VLe.nil_sl _ | (rw [bytesV_snoc]; exact VLe.own_sl _ _ _) | refine VLe.agg ?_))) ⟨by repeat (first | exact uE | refine uN (by omega) ?_ | assumption | exact hd _ (by omega) | exact hd0 _ (by omega) | fail), trivial⟩ (by omega) ?_
      refine rl0 (gn rfl) rfl rfl (step_as rfl rfl) trivial ?_
      refine runsL_nil ?_
      refine runs_region ?_
      refine rl0 (gn rfl) rfl rfl (step_add rfl (ev_mk rfl) (ev_mk rfl) (w64 (by omega))) trivial ?_
      refine rl0 (gn rfl) rfl rfl (step_mv rfl rfl) trivial ?_
      refine runsL_nil ?_
      have hq0_ : ((bytesV ((hdP e j) ++ beB 8 (at' (f4 e) (j : Int))))) = (bytesV (hdP e (j + 1))) := by rfl
      refine ⟨_, _, ?_, sle ?_ (Nat.le_refl _), (j + 1), (m0 + 0), _, _, rfl, rfl, by omega, (fun k_ hk_ => by repeat (first | exact hf0 k_ hk_ | refine uN (by first | assumption | omega) ?_ | fail)), by first | ((repeat (first | exact uE | assumption | refine uN (by omega) ?_ | fail)); done) | exact tl_eq (by repeat (first | exact uE | assumption | refine uN (by omega) ?_ | fail)) (by first | rfl | exact congrArg List.length hs0_ | exact congrArg List.length hq0_ | (simp [bytesV, beB_len]; omega)) | (rw [← hq0_]; (repeat (first | exact uE | assumption | refine uN (by omega) ?_ | fail)); done), by first | ((repeat (first | exact uE | assumption | refine uN (by omega) ?_ | fail)); done) | exact tl_eq (by repeat (first | exact uE | assumption | refine uN (by omega) ?_ | fail)) (by first | rfl | exact congrArg List.length hs0_ | exact congrArg List.length hq0_ | (simp [bytesV, beB_len]; omega)) | (rw [← hq0_]; (repeat (first | exact uE | assumption | refine uN (by omega) ?_ | fail)); done), by omega, by omega, by omega⟩
      · omega
      · (repeat' (first | exact trivial | refine ⟨⟨_, rfl, ?_⟩, ?_⟩ | fail)); all_goals (repeat' (first | exact VLe.refl _ | exact VLe.own_sl _ _ _ | exact VLe.fl_sl _ _ | exact VLe.nil_sl _ | exact VLe.nil_fl _ | exact VLes.refl _ | exact .nil | refine VLe.tup ?_ | refine VLe.agg ?_ | refine .cons ?_ ?_ | (rw [Int.natCast_add]; exact VLe.refl _) | exact vle_int (by omega) | exact vle_bool (by first | rfl | assumption | (simp_all; done) | fail) | (rw [← hq0_]; exact VLe.refl _) | (rw [hq0_]; exact VLe.refl _) | fail))
    · skip
      have hj4 : j = 4 := by omega
      refine runsL_nil ?_
      refine runs_seq ?_
      refine runs_cond false (ev_mk rfl) (fun h_ => nomatch h_) (fun _ => ?_)
      refine runs_exit ?_
      refine runs_seq ?_
      refine runs_region ?_
      refine rl0 (gn rfl) rfl rfl (step_mv rfl rfl) trivial ?_
      refine rl0 (gn rfl) rfl rfl (step_fieldAddr (off := 5) rfl (ev_mk rfl) Try.underlying40 rfl F.sz36 rfl) trivial ?_
      refine' rl0 (gn rfl) rfl rfl (step_load_agg rfl (ev_mk rfl) F.agg36 ?hc ?hl) ⟨?hb, trivial⟩ ?_
      case hb => repeat (first | exact uE | refine uN (by omega) ?_ | assumption | exact hd _ (by omega) | exact hd0 _ (by omega) | fail)
      case hc => rfl
      case hl => first | rfl | (simp; done) | (first | rfl | exact imR_len (he.2.2.2.2.2.1 _ (at_mem (xs := e.pages) (i := (i : Int)) (by omega) (by omega))).1 | (simp [imR, (he.2.2.2.2.2.1 _ (at_mem (xs := e.pages) (i := (i : Int)) (by omega) (by omega))).1]; done))
      refine rl0 (gn rfl) rfl rfl (step_callc rfl Try.func62 rfl rfl rfl (rec_c e.r he.2.2.2.2.1 (by omega)) (by repeat (first | exact .nil | refine .cons ?_ ?_ | exact VLe.refl _ | exact VLe.own_sl _ _ _ | exact VLe.fl_sl _ _ | exact VLe.nil_sl _ | (rw [bytesV_snoc]; exact VLe.own_sl _ _ _) | refine VLe.agg ?_))) trivial ?_
      refine' rl1 (gn rfl) rfl rfl (step_append_own rfl rfl rfl Try.underlying22 ⟨_, Try.underlying22, fun k_ => by intro h_; cases h_⟩ F.el5 (ev_mk rfl) (ev_mk rfl) (gives_sl (.inl rfl)) ?hg) ⟨?hb, trivial⟩ (by omega) ?_
      case hb => repeat (first | exact uE | refine uN (by omega) ?_ | assumption | exact hd _ (by omega) | exact hd0 _ (by omega) | fail)
      case hg => first | (simp only [List.length_append, bytesV_len, hdP_len, recF_len (show e.r.val.size < 16 by omega), List.length_map, List.length_cons, List.length_nil]; omega) | (have q1_ := pgP_len e.pages i; have q2_ := sqB_len (at' e.pages (i : Int)).p; simp only [List.length_append, bytesV_len, hdP_len, recF_len (show e.r.val.size < 16 by omega), List.length_map, List.length_cons, List.length_nil]; omega) | (have q1_ := pgP_len e.pages i; simp only [List.length_append, bytesV_len, hdP_len, recF_len (show e.r.val.size < 16 by omega), List.length_map, List.length_cons, List.length_nil]; omega)
      refine rl0 (gn rfl) rfl rfl (step_as rfl rfl) trivial ?_
      refine runsL_nil ?_
      refine runs_seq ?_
      refine runs_region ?_
      refine rl0 (gn rfl) rfl rfl (step_mv rfl rfl) trivial ?_
      refine rl0 (gn rfl) rfl rfl (step_fieldAddr (off := 11) rfl (ev_mk rfl) Try.underlying40 rfl F.sz37 rfl) trivial ?_
      refine' rl0 (gn rfl) rfl rfl (step_load_one rfl (ev_mk rfl) F.one37 ?hv) ⟨?hb, trivial⟩ ?_
      case hb => repeat (first | exact uE | refine uN (by omega) ?_ | assumption | exact hd _ (by omega) | exact hd0 _ (by omega) | fail)
      case hv => rfl
      refine rl0 (gn rfl) rfl rfl (step_len (m := e.pages.length) rfl rfl (ev_mk rfl) (.inl ⟨⟨_, Try.underlying37⟩, .inl ⟨_, _, .inl rfl, List.length_map _⟩⟩)) trivial ?_
      refine rl0 (gn rfl) rfl rfl (step_conv_id rfl rfl Try.underlying3 Try.underlying5 (wu8 (by omega))) trivial ?_
      refine rl0 (gn rfl) rfl rfl (step_lit rfl Try.underlying22 F.sz5 F.zero5 (by first | rfl | simp) (by first | rfl | simp | decide) (by decide) rfl rfl (by first | (simp [V.cs, V.stor, oneV]; done) | (simp [V.cs, V.stor, oneV])) rfl) trivial ?_
      refine' rl1 (gn rfl) rfl rfl (step_append_own rfl rfl rfl Try.underlying22 ⟨_, Try.underlying22, fun k_ => by intro h_; cases h_⟩ F.el5 (ev_mk rfl) (ev_mk rfl) (gives_sl (.inr (.inl rfl))) ?hg) ⟨?hb, trivial⟩ (by omega) ?_
      case hb => repeat (first | exact uE | refine uN (by omega) ?_ | assumption | exact hd _ (by omega) | exact hd0 _ (by omega) | fail)
      case hg => first | (simp only [List.length_append, bytesV_len, hdP_len, recF_len (show e.r.val.size < 16 by omega), List.length_map, List.length_cons, List.length_nil]; omega) | (have q1_ := pgP_len e.pages i; have q2_ := sqB_len (at' e.pages (i : Int)).p; simp only [List.length_append, bytesV_len, hdP_len, recF_len (show e.r.val.size < 16 by omega), List.length_map, List.length_cons, List.length_nil]; omega) | (have q1_ := pgP_len e.pages i; simp only [List.length_append, bytesV_len, hdP_len, recF_len (show e.r.val.size < 16 by omega), List.length_map, List.length_cons, List.length_nil]; omega)
      refine rl0 (gn rfl) rfl rfl (step_as rfl rfl) trivial ?_
      refine runsL_nil ?_
      refine runs_seq ?_
      refine runs_seq ?_
      refine runs_region ?_
      refine rl0 (gn rfl) rfl rfl (step_fieldAddr (off := 11) rfl (ev_mk rfl) Try.underlying40 rfl F.sz37 rfl) trivial ?_
      refine' rl0 (gn rfl) rfl rfl (step_load_one rfl (ev_mk rfl) F.one37 ?hv) ⟨?hb, trivial⟩ ?_
      case hb => repeat (first | exact uE | refine uN (by omega) ?_ | assumption | exact hd _ (by omega) | exact hd0 _ (by omega) | fail)
      case hv => rfl
      refine rl0 (gn rfl) rfl rfl (step_len (m := e.pages.length) rfl rfl (ev_mk rfl) (.inl ⟨⟨_, Try.underlying37⟩, .inl ⟨_, _, .inl rfl, List.length_map _⟩⟩)) trivial ?_
      refine rl0 (gn rfl) rfl rfl (step_mv rfl rfl) trivial ?_
      refine runsL_nil ?_
      refine runs_block ?_
      have hs0_ : (bytesV (hdP e j)) ++ (bytesV (recF e.r)) ++ [[V.sc (.int .u8 e.pages.length)]] = (bytesV (fr1 e ++ pgP e.pages 0)) := by (rw [hj4]; unfold fr1 pgP; simp only [bytesV_app, bytesV_one, List.append_nil, List.append_assoc])
      refine runs_loop (fun (ri_ : Nat) (st_ : Go.Vm.S) => ∃ (i : Nat) (m1 : Nat) (b1 : Nat → Box), (st_ = ⟨mk [(1, .ref (n + 0) 0), (2, .sc (.slice none 0 0)), (3, .sc (.int .i64 0)), (5, .own 1 (bytesV (fr1 e ++ pgP e.pages i)) kb), (50, .sl 225 (e.pages.map imR)), (51, .sc (.int .i64 e.pages.length)), (52, .sc (.int .i64 i))], m1, b1⟩) ∧ (ri_ = e.pages.length - i) ∧ (m0 + 0 ≤ m1) ∧ (∀ k_, k_ < n → k_ ≠ kb → b1 k_ = bx k_) ∧ (b1 (n + 0) = .cells [.sc (.int .u64 e.lsn), .sc (.int .i64 e.kind), .sc (.int .u64 e.txn), .sc (.int .u64 e.prev), .sc (.int .u64 e.next), .sc (.int .u64 e.r.id), .sc (.int .u64 e.r.key), .sc (.int .u32 e.r.x), .sc (.int .u32 e.r.y), .sc (.string e.r.val), .sc (.bool e.r.gh), .sl 225 (e.pages.map imR), .sl 1 (e.act.map acR)]) ∧ (b1 kb = .tail (bytesV (fr1 e ++ pgP e.pages i)).length) ∧ (i ≤ e.pages.length)) (e.pages.length - 0) ⟨_, sle ?_ (Nat.le_refl _), 0, _, _, rfl, rfl, ?_⟩ ?_
      · (repeat' (first | exact trivial | refine ⟨⟨_, rfl, ?_⟩, ?_⟩ | fail)); all_goals (repeat' (first | exact VLe.refl _ | exact VLe.own_sl _ _ _ | exact VLe.fl_sl _ _ | exact VLe.nil_sl _ | exact VLe.nil_fl _ | exact VLes.refl _ | exact .nil | refine VLe.tup ?_ | refine VLe.agg ?_ | refine .cons ?_ ?_ | (rw [Int.natCast_add]; exact VLe.refl _) | exact vle_int (by omega) | exact vle_bool (by first | rfl | assumption | (simp_all; done) | fail) | (rw [← hs0_]; exact VLe.refl _) | (rw [hs0_]; exact VLe.refl _) | fail))
      · exact ⟨by omega, (fun k_ hk_ e0_ => by repeat (first | exact rfl | refine uN (by omega) ?_ | assumption | exact hf0 _ (by omega) | fail)), by first | ((repeat (first | exact uE | assumption | refine uN (by omega) ?_ | fail)); done) | exact tl_eq (by repeat (first | exact uE | assumption | refine uN (by omega) ?_ | fail)) (by first | rfl | exact congrArg List.length hs0_ | exact congrArg List.length hq0_ | (simp [bytesV, beB_len]; omega)) | (rw [← hs0_]; (repeat (first | exact uE | assumption | refine uN (by omega) ?_ | fail)); done), by first | ((repeat (first | exact uE | assumption | refine uN (by omega) ?_ | fail)); done) | exact tl_eq (by repeat (first | exact uE | assumption | refine uN (by omega) ?_ | fail)) (by first | rfl | exact congrArg List.length hs0_ | exact congrArg List.length hq0_ | (simp [bytesV, beB_len]; omega)) | (rw [← hs0_]; (repeat (first | exact uE | assumption | refine uN (by omega) ?_ | fail)); done), by omega⟩
      · rintro _ _ ⟨i, m1, b1, rfl, rfl, hm1, hf1, hB1_0, hB1_1, hF1_0⟩
        refine runs_know (fun hd1 => ?_)
        refine runs_bump 20 ?_
        simp only at hd1
        refine runs_seq ?_
        refine runs_region ?_
        refine rl_lss (gn rfl) rfl rfl rfl rfl rfl (fun h3 => ?_) (fun h3 => ?_)
        · skip
          refine runsL_nil ?_
          refine runs_seq ?_
          refine runs_cond true (ev_mk rfl) (fun _ => ?_) (fun h_ => nomatch h_)
          refine runs_skip ?_
          refine runs_seq ?_
          refine runs_block ?_
          refine runs_seq ?_
          refine runs_region ?_
          refine' rl0 (gn rfl) rfl rfl (step_index rfl (ev_mk rfl) (.inl rfl) (ev_mk rfl) Try.underlying37 F.sz86 (by omega) ?hr) trivial ?_
          case hr => exact map_at _ _ _ (by omega) (by omega)
          refine rl0 (gn rfl) rfl rfl (step_load_ro_all rfl rfl F.agg86 (by first | rfl | (simp; done) | (first | rfl | exact imR_len (he.2.2.2.2.2.1 _ (at_mem (xs := e.pages) (i := (i : Int)) (by omega) (by omega))).1 | (simp [imR, (he.2.2.2.2.2.1 _ (at_mem (xs := e.pages) (i := (i : Int)) (by omega) (by omega))).1]; done)))) trivial ?_
          refine rl1 (gn rfl) rfl rfl (step_allocc (k := m1 + 0) (zs := ((.int .i64 0) :: List.replicate 224 (.int .u8 0))) (cs := V.sc (.int .i64 0) :: List.replicate 224 (V.sc (.int .u8 0))) rfl F.zero86 (by first | rfl | simp) (by first | rfl | decide | simp) (by first | rfl | simp)) ⟨by repeat (first | exact uE | refine uN (by omega) ?_ | assumption | exact hd _ (by omega) | exact hd0 _ (by omega) | exact hd1 _ (by omega) | fail), trivial⟩ (by omega) ?_
          refine' rls (gn rfl) rfl (step_storeA rfl rfl rfl rfl F.agg86 ?hm ?hl) ⟨?hb, trivial⟩ ?hk ?_
          case hb => repeat (first | exact uE | refine uN (by omega) ?_ | assumption | exact hd _ (by omega) | exact hd0 _ (by omega) | exact hd1 _ (by omega) | fail)
          case hm => first | rfl | (simp; done) | (first | rfl | exact imR_len (he.2.2.2.2.2.1 _ (at_mem (xs := e.pages) (i := (i : Int)) (by omega) (by omega))).1 | (simp [imR, (he.2.2.2.2.2.1 _ (at_mem (xs := e.pages) (i := (i : Int)) (by omega) (by omega))).1]; done))
          case hl => first | rfl | (simp; done) | (first | rfl | exact imR_len (he.2.2.2.2.2.1 _ (at_mem (xs := e.pages) (i := (i : Int)) (by omega) (by omega))).1 | (simp [imR, (he.2.2.2.2.2.1 _ (at_mem (xs := e.pages) (i := (i : Int)) (by omega) (by omega))).1]; done))
          case hk => omega
          refine runsL_nil ?_
          refine runs_draw (by kernel_rfl) (by kernel_rfl) (by kernel_rfl) ?_
          refine dl0 (gn rfl) rfl rfl (step_mv rfl rfl) trivial ?_
          refine dl0 (gn rfl) rfl rfl (step_fieldAddr (off := 0) rfl (ev_mk rfl) Try.underlying86 rfl F.sz3 rfl) trivial ?_
          refine' dl0 (gn rfl) rfl rfl (step_load_one (v := .sc (.int .i64 (at' e.pages (i : Int)).n)) rfl (ev_mk rfl) F.one3 ?hv) ⟨?hb, trivial⟩ ?_
          case hb => repeat (first | exact uE | refine uN (by omega) ?_ | assumption | exact hd _ (by omega) | exact hd0 _ (by omega) | exact hd1 _ (by omega) | fail)
          case hv => rfl
          refine dl0 (gn rfl) rfl rfl (step_conv_id rfl rfl Try.underlying3 Try.underlying5 (wu8 (by (have h_ := pgS_all c5 i (by omega); omega)))) trivial ?_
          refine dl0 (gn rfl) rfl rfl (step_lit rfl Try.underlying22 F.sz5 F.zero5 (by first | rfl | simp) (by first | rfl | simp | decide) (by decide) rfl rfl (by first | (simp [V.cs, V.stor, oneV]; done) | (simp [V.cs, V.stor, oneV])) rfl) trivial ?_
          refine' dl1 (gn rfl) rfl rfl (step_append_own rfl rfl rfl Try.underlying22 ⟨_, Try.underlying22, fun k_ => by intro h_; cases h_⟩ F.el5 (ev_mk rfl) (ev_mk rfl) (gives_sl (.inr (.inl rfl))) ?hg) ⟨?hb, trivial⟩ (by omega) ?_
          case hb => repeat (first | exact uE | refine uN (by omega) ?_ | assumption | exact hd _ (by omega) | exact hd0 _ (by omega) | exact hd1 _ (by omega) | fail)
          case hg => first | (simp only [List.length_append, bytesV_len, hdP_len, recF_len (show e.r.val.size < 16 by omega), List.length_map, List.length_cons, List.length_nil]; omega) | (have q1_ := pgP_len e.pages i; have q2_ := sqB_len (at' e.pages (i : Int)).p; simp only [List.length_append, bytesV_len, hdP_len, recF_len (show e.r.val.size < 16 by omega), List.length_map, List.length_cons, List.length_nil]; omega) | (have q1_ := pgP_len e.pages i; simp only [List.length_append, bytesV_len, hdP_len, recF_len (show e.r.val.size < 16 by omega), List.length_map, List.length_cons, List.length_nil]; omega)
          refine dl0 (gn rfl) rfl rfl (step_fieldAddr (off := 1) rfl (ev_mk rfl) Try.underlying86 rfl F.sz84 rfl) trivial ?_
          refine' dl0 (gn rfl) rfl rfl (step_load_agg rfl (ev_mk rfl) F.agg84 ?hc ?hl) ⟨?hb, trivial⟩ ?_
          case hb => repeat (first | exact uE | refine uN (by omega) ?_ | assumption | exact hd _ (by omega) | exact hd0 _ (by omega) | exact hd1 _ (by omega) | fail)
          case hc => exact imR_pg (he.2.2.2.2.2.1 _ (at_mem (xs := e.pages) (i := (i : Int)) (by omega) (by omega))).1
          case hl => first | rfl | (simp; done) | (first | rfl | exact imR_len (he.2.2.2.2.2.1 _ (at_mem (xs := e.pages) (i := (i : Int)) (by omega) (by omega))).1 | (simp [imR, (he.2.2.2.2.2.1 _ (at_mem (xs := e.pages) (i := (i : Int)) (by omega) (by omega))).1]; done))
          refine dl0 (gn rfl) rfl rfl (step_callc rfl Try.func63 rfl rfl rfl (sq_c (at' e.pages (i : Int)).p (he.2.2.2.2.2.1 _ (at_mem (by omega) (by omega))).1) (by repeat (first | exact .nil | refine .cons ?_ ?_ | exact VLe.refl _ | exact VLe.own_sl _ _ _ | exact VLe.fl_sl _ _ | exact VLe.nil_sl _ | (rw [bytesV_snoc]; exact VLe.own_sl _ _ _) | refine VLe.agg ?_))) trivial ?_
          refine' dl1 (gn rfl) rfl rfl (step_append_own rfl rfl rfl Try.underlying22 ⟨_, Try.underlying22, fun k_ => by intro h_; cases h_⟩ F.el5 (ev_mk rfl) (ev_mk rfl) (gives_sl (.inl rfl)) ?hg) ⟨?hb, trivial⟩ (by omega) ?_
          case hb => repeat (first | exact uE | refine uN (by omega) ?_ | assumption | exact hd _ (by omega) | exact hd0 _ (by omega) | exact hd1 _ (by omega) | fail)
          case hg => first | (simp only [List.length_append, bytesV_len, hdP_len, recF_len (show e.r.val.size < 16 by omega), List.length_map, List.length_cons, List.length_nil]; omega) | (have q1_ := pgP_len e.pages i; have q2_ := sqB_len (at' e.pages (i : Int)).p; simp only [List.length_append, bytesV_len, hdP_len, recF_len (show e.r.val.size < 16 by omega), List.length_map, List.length_cons, List.length_nil]; omega) | (have q1_ := pgP_len e.pages i; simp only [List.length_append, bytesV_len, hdP_len, recF_len (show e.r.val.size < 16 by omega), List.length_map, List.length_cons, List.length_nil]; omega)
          refine dl0 (gn rfl) rfl rfl (step_as rfl rfl) trivial ?_
          refine dlnil ?_ ?_
          · repeat' (first | exact trivial | exact .inr (ap0 _ _ _ _) | exact .inr (ap2 _ _ _ _) | exact .inr (ap3 _ _ _ _) | exact .inr ⟨by first | (simp; done) | (simp; omega), by first | (simp; done) | (simp; omega)⟩ | exact .inl (by kernel_rfl) | refine ⟨?_, ?_⟩ | fail)
          refine runs_region ?_
          refine rl0 (gn rfl) rfl rfl (step_add rfl (ev_mk rfl) (ev_mk rfl) (w64 (by omega))) trivial ?_
          refine rl0 (gn rfl) rfl rfl (step_mv rfl rfl) trivial ?_
          refine runsL_nil ?_
          have hq0_ : (bytesV (fr1 e ++ pgP e.pages i) ++ [[V.sc (.int .u8 (at' e.pages (i : Int)).n)]] ++ (bytesV (sqB (at' e.pages (i : Int)).p))) = (bytesV (fr1 e ++ pgP e.pages (i + 1))) := by (simp only [pgP, bytesV_app, bytesV_one, List.append_assoc, List.singleton_append]; rfl)
          refine ⟨_, _, ?_, sle ?_ (Nat.le_refl _), (i + 1), _, _, rfl, rfl, by omega, (fun k_ hk_ e0_ => by repeat (first | exact hf1 k_ hk_ e0_ | exact hf0 k_ hk_ | exact hf0 k_ hk_ e0_ | refine uN (by first | assumption | omega) ?_ | fail)), by first | ((repeat (first | exact uE | assumption | refine uN (by omega) ?_ | fail)); done) | exact tl_eq (by repeat (first | exact uE | assumption | refine uN (by omega) ?_ | fail)) (by first | rfl | exact congrArg List.length hs0_ | exact congrArg List.length hq0_ | (simp [bytesV, beB_len]; omega)) | (rw [← hq0_]; (repeat (first | exact uE | assumption | refine uN (by omega) ?_ | fail)); done), by first | ((repeat (first | exact uE | assumption | refine uN (by omega) ?_ | fail)); done) | exact tl_eq (by repeat (first | exact uE | assumption | refine uN (by omega) ?_ | fail)) (by first | rfl | exact congrArg List.length hs0_ | exact congrArg List.length hq0_ | (simp [bytesV, beB_len]; omega)) | (rw [← hq0_]; (repeat (first | exact uE | assumption | refine uN (by omega) ?_ | fail)); done), by omega⟩
          · omega
          · (repeat' (first | exact trivial | refine ⟨⟨_, rfl, ?_⟩, ?_⟩ | fail)); all_goals (repeat' (first | exact VLe.refl _ | exact VLe.own_sl _ _ _ | exact VLe.fl_sl _ _ | exact VLe.nil_sl _ | exact VLe.nil_fl _ | exact VLes.refl _ | exact .nil | refine VLe.tup ?_ | refine VLe.agg ?_ | refine .cons ?_ ?_ | (rw [Int.natCast_add]; exact VLe.refl _) | exact vle_int (by omega) | exact vle_bool (by first | rfl | assumption | (simp_all; done) | fail) | (rw [← hq0_]; exact VLe.refl _) | (rw [hq0_]; exact VLe.refl _) | fail))
        · skip
          have hi4 : i = e.pages.length := by omega
          refine runsL_nil ?_
          refine runs_seq ?_
          refine runs_cond false (ev_mk rfl) (fun h_ => nomatch h_) (fun _ => ?_)
          refine runs_exit ?_
          refine runs_seq ?_
          refine runs_region ?_
          refine rl0 (gn rfl) rfl rfl (step_mv rfl rfl) trivial ?_
          refine rl0 (gn rfl) rfl rfl (step_fieldAddr (off := 12) rfl (ev_mk rfl) Try.underlying40 rfl F.sz38 rfl) trivial ?_
          refine' rl0 (gn rfl) rfl rfl (step_load_one rfl (ev_mk rfl) F.one38 ?hv) ⟨?hb, trivial⟩ ?_
          case hb => repeat (first | exact uE | refine uN (by omega) ?_ | assumption | exact hd _ (by omega) | exact hd0 _ (by omega) | exact hd1 _ (by omega) | fail)
          case hv => rfl
          refine rl0 (gn rfl) rfl rfl (step_len (m := e.act.length) rfl rfl (ev_mk rfl) (.inl ⟨⟨_, Try.underlying38⟩, .inl ⟨_, _, .inl rfl, List.length_map _⟩⟩)) trivial ?_
          refine rl0 (gn rfl) rfl rfl (step_conv_id rfl rfl Try.underlying3 Try.underlying5 (wu8 (by omega))) trivial ?_
          refine rl0 (gn rfl) rfl rfl (step_lit rfl Try.underlying22 F.sz5 F.zero5 (by first | rfl | simp) (by first | rfl | simp | decide) (by decide) rfl rfl (by first | (simp [V.cs, V.stor, oneV]; done) | (simp [V.cs, V.stor, oneV])) rfl) trivial ?_
          refine' rl1 (gn rfl) rfl rfl (step_append_own rfl rfl rfl Try.underlying22 ⟨_, Try.underlying22, fun k_ => by intro h_; cases h_⟩ F.el5 (ev_mk rfl) (ev_mk rfl) (gives_sl (.inr (.inl rfl))) ?hg) ⟨?hb, trivial⟩ (by omega) ?_
          case hb => repeat (first | exact uE | refine uN (by omega) ?_ | assumption | exact hd _ (by omega) | exact hd0 _ (by omega) | exact hd1 _ (by omega) | fail)
          case hg => first | (simp only [List.length_append, bytesV_len, hdP_len, recF_len (show e.r.val.size < 16 by omega), List.length_map, List.length_cons, List.length_nil]; omega) | (have q1_ := pgP_len e.pages i; have q2_ := sqB_len (at' e.pages (i : Int)).p; simp only [List.length_append, bytesV_len, hdP_len, recF_len (show e.r.val.size < 16 by omega), List.length_map, List.length_cons, List.length_nil]; omega) | (have q1_ := pgP_len e.pages i; simp only [List.length_append, bytesV_len, hdP_len, recF_len (show e.r.val.size < 16 by omega), List.length_map, List.length_cons, List.length_nil]; omega)
          refine rl0 (gn rfl) rfl rfl (step_as rfl rfl) trivial ?_
          refine runsL_nil ?_
          refine runs_seq ?_
          refine runs_seq ?_
          refine runs_region ?_
          refine rl0 (gn rfl) rfl rfl (step_fieldAddr (off := 12) rfl (ev_mk rfl) Try.underlying40 rfl F.sz38 rfl) trivial ?_
          refine' rl0 (gn rfl) rfl rfl (step_load_one rfl (ev_mk rfl) F.one38 ?hv) ⟨?hb, trivial⟩ ?_
          case hb => repeat (first | exact uE | refine uN (by omega) ?_ | assumption | exact hd _ (by omega) | exact hd0 _ (by omega) | exact hd1 _ (by omega) | fail)
          case hv => rfl
          refine rl0 (gn rfl) rfl rfl (step_len (m := e.act.length) rfl rfl (ev_mk rfl) (.inl ⟨⟨_, Try.underlying38⟩, .inl ⟨_, _, .inl rfl, List.length_map _⟩⟩)) trivial ?_
          refine rl0 (gn rfl) rfl rfl (step_mv rfl rfl) trivial ?_
          refine runsL_nil ?_
          refine runs_block ?_
          have hs0_ : bytesV (fr1 e ++ pgP e.pages i) ++ [[V.sc (.int .u8 e.act.length)]] = (bytesV (fr2 e ++ acP e.act 0)) := by (rw [hi4]; unfold fr2 acP; simp only [bytesV_app, bytesV_one, List.append_nil, List.append_assoc])
          refine runs_loop (fun (ri_ : Nat) (st_ : Go.Vm.S) => ∃ (w : Nat) (kc : Nat) (m2 : Nat) (b2 : Nat → Box), (st_ = ⟨mk [(2, .sc (.slice none 0 0)), (3, .sc (.int .i64 0)), (5, .own 1 (bytesV (fr2 e ++ acP e.act w)) kc), (75, .sl 1 (e.act.map acR)), (76, .sc (.int .i64 e.act.length)), (77, .sc (.int .i64 w))], m2, b2⟩) ∧ (ri_ = e.act.length - w) ∧ (m1 + 0 ≤ m2) ∧ (∀ k_, k_ < n → b2 k_ = bx k_) ∧ (b2 (n + 0) = .cells [.sc (.int .u64 e.lsn), .sc (.int .i64 e.kind), .sc (.int .u64 e.txn), .sc (.int .u64 e.prev), .sc (.int .u64 e.next), .sc (.int .u64 e.r.id), .sc (.int .u64 e.r.key), .sc (.int .u32 e.r.x), .sc (.int .u32 e.r.y), .sc (.string e.r.val), .sc (.bool e.r.gh), .sl 225 (e.pages.map imR), .sl 1 (e.act.map acR)]) ∧ (b2 kc = .tail (bytesV (fr2 e ++ acP e.act w)).length) ∧ (w ≤ e.act.length) ∧ (n ≤ kc) ∧ (kc < m2)) (e.act.length - 0) ⟨_, sle ?_ (Nat.le_refl _), 0, kb, _, _, rfl, rfl, ?_⟩ ?_
          · (repeat' (first | exact trivial | refine ⟨⟨_, rfl, ?_⟩, ?_⟩ | fail)); all_goals (repeat' (first | exact VLe.refl _ | exact VLe.own_sl _ _ _ | exact VLe.fl_sl _ _ | exact VLe.nil_sl _ | exact VLe.nil_fl _ | exact VLes.refl _ | exact .nil | refine VLe.tup ?_ | refine VLe.agg ?_ | refine .cons ?_ ?_ | (rw [Int.natCast_add]; exact VLe.refl _) | exact vle_int (by omega) | exact vle_bool (by first | rfl | assumption | (simp_all; done) | fail) | (rw [← hs0_]; exact VLe.refl _) | (rw [hs0_]; exact VLe.refl _) | fail))
          · exact ⟨by omega, (fun k_ hk_ => by repeat (first | exact rfl | refine uN (by omega) ?_ | assumption | exact hf0 _ (by omega) | exact hf1 _ (by omega) (by first | assumption | omega) | fail)), by first | ((repeat (first | exact uE | assumption | refine uN (by omega) ?_ | fail)); done) | exact tl_eq (by repeat (first | exact uE | assumption | refine uN (by omega) ?_ | fail)) (by first | rfl | exact congrArg List.length hs0_ | exact congrArg List.length hq0_ | (simp [bytesV, beB_len]; omega)) | (rw [← hs0_]; (repeat (first | exact uE | assumption | refine uN (by omega) ?_ | fail)); done), by first | ((repeat (first | exact uE | assumption | refine uN (by omega) ?_ | fail)); done) | exact tl_eq (by repeat (first | exact uE | assumption | refine uN (by omega) ?_ | fail)) (by first | rfl | exact congrArg List.length hs0_ | exact congrArg List.length hq0_ | (simp [bytesV, beB_len]; omega)) | (rw [← hs0_]; (repeat (first | exact uE | assumption | refine uN (by omega) ?_ | fail)); done), by omega, by omega, by omega⟩
          · rintro _ _ ⟨w, kc, m2, b2, rfl, rfl, hm2, hf2, hB2_0, hB2_1, hF2_0, hF2_1, hF2_2⟩
            refine runs_know (fun hd2 => ?_)
            refine runs_bump 20 ?_
            simp only at hd2
            refine runs_seq ?_
            refine runs_region ?_
            refine rl_lss (gn rfl) rfl rfl rfl rfl rfl (fun h4 => ?_) (fun h4 => ?_)
            · skip
              refine runsL_nil ?_
              refine runs_seq ?_
              refine runs_cond true (ev_mk rfl) (fun _ => ?_) (fun h_ => nomatch h_)
              refine runs_skip ?_
              refine runs_seq ?_
              refine runs_block ?_
              refine runs_seq ?_
              refine runs_region ?_
              refine' rl0 (gn rfl) rfl rfl (step_index rfl (ev_mk rfl) (.inl rfl) (ev_mk rfl) Try.underlying38 F.sz33 (by omega) ?hr) trivial ?_
              case hr => exact map_at _ _ _ (by omega) (by omega)
              refine rl0 (gn rfl) rfl rfl (step_load_ro rfl (ev_mk rfl) F.one33 rfl) trivial ?_
              refine rl0 (gn rfl) rfl rfl (step_as rfl rfl) trivial ?_
              refine runsL_nil ?_
              refine runs_region ?_
              refine rl0 (gn rfl) rfl rfl (step_mv rfl rfl) trivial ?_
              refine rl0 (gn rfl) rfl rfl (step_mv rfl rfl) trivial ?_
              refine rl1 (gn rfl) rfl rfl (step_callc rfl Try.func32 rfl rfl rfl (wput_o (fr2 e ++ acP e.act w) (at' e.act (w : Int)) (he.2.2.2.2.2.2 _ (at_mem (by omega) (by omega))) 8 (by omega) (by rw [List.length_append, la]; omega) (m2 + 0)) (by repeat (first | exact .nil | refine .cons ?_ ?_ | exact VLe.refl _ | exact VLe.own_sl _ _ _ | exact VLe.fl_sl _ _ | exact VLe.nil_sl _ | (rw [bytesV_snoc]; exact VLe.own_sl _ _ _) | refine VLe.agg ?_))) ⟨by repeat (first | exact uE | refine uN (by omega) ?_ | assumption | exact hd _ (by omega) | exact hd0 _ (by omega) | exact hd1 _ (by omega) | exact hd2 _ (by omega) | fail), trivial⟩ (by omega) ?_
              refine rl0 (gn rfl) rfl rfl (step_as rfl rfl) trivial ?_
              refine runsL_nil ?_
              refine runs_region ?_
              refine rl0 (gn rfl) rfl rfl (step_add rfl (ev_mk rfl) (ev_mk rfl) (w64 (by omega))) trivial ?_
              refine rl0 (gn rfl) rfl rfl (step_mv rfl rfl) trivial ?_
              refine runsL_nil ?_
              have hq0_ : ((bytesV ((fr2 e ++ acP e.act w) ++ beB 8 (at' e.act (w : Int))))) = (bytesV (fr2 e ++ acP e.act (w + 1))) := by (rw [List.append_assoc]; rfl)
              refine ⟨_, _, ?_, sle ?_ (Nat.le_refl _), (w + 1), (m2 + 0), _, _, rfl, rfl, by omega, (fun k_ hk_ => by repeat (first | exact hf2 k_ hk_ | exact hf0 k_ hk_ | exact hf1 k_ hk_ | refine uN (by first | assumption | omega) ?_ | fail)), by first | ((repeat (first | exact uE | assumption | refine uN (by omega) ?_ | fail)); done) | exact tl_eq (by repeat (first | exact uE | assumption | refine uN (by omega) ?_ | fail)) (by first | rfl | exact congrArg List.length hs0_ | exact congrArg List.length hq0_ | (simp [bytesV, beB_len]; omega)) | (rw [← hq0_]; (repeat (first | exact uE | assumption | refine uN (by omega) ?_ | fail)); done), by first | ((repeat (first | exact uE | assumption | refine uN (by omega) ?_ | fail)); done) | exact tl_eq (by repeat (first | exact uE | assumption | refine uN (by omega) ?_ | fail)) (by first | rfl | exact congrArg List.length hs0_ | exact congrArg List.length hq0_ | (simp [bytesV, beB_len]; omega)) | (rw [← hq0_]; (repeat (first | exact uE | assumption | refine uN (by omega) ?_ | fail)); done), by omega, by omega, by omega⟩
              · omega
              · (repeat' (first | exact trivial | refine ⟨⟨_, rfl, ?_⟩, ?_⟩ | fail)); all_goals (repeat' (first | exact VLe.refl _ | exact VLe.own_sl _ _ _ | exact VLe.fl_sl _ _ | exact VLe.nil_sl _ | exact VLe.nil_fl _ | exact VLes.refl _ | exact .nil | refine VLe.tup ?_ | refine VLe.agg ?_ | refine .cons ?_ ?_ | (rw [Int.natCast_add]; exact VLe.refl _) | exact vle_int (by omega) | exact vle_bool (by first | rfl | assumption | (simp_all; done) | fail) | (rw [← hq0_]; exact VLe.refl _) | (rw [hq0_]; exact VLe.refl _) | fail))
            · skip
              have hw4 : w = e.act.length := by omega
              refine runsL_nil ?_
              refine runs_seq ?_
              refine runs_cond false (ev_mk rfl) (fun h_ => nomatch h_) (fun _ => ?_)
              refine runs_exit ?_
              refine runs_seq ?_
              refine runs_region ?_
              refine rl0 (gn rfl) rfl rfl (step_mv rfl rfl) trivial ?_
              refine rl0 (gn rfl) rfl rfl (step_callc rfl Try.func64 rfl rfl rfl (sput_c (fr2 e ++ acP e.act w) (by rw [hw4]; exact bodyB_byts he hc) (by rw [hw4]; have := bodyB_small hc; exact Nat.le_trans this (by omega))) (by repeat (first | exact .nil | refine .cons ?_ ?_ | exact VLe.refl _ | exact VLe.own_sl _ _ _ | exact VLe.fl_sl _ _ | exact VLe.nil_sl _ | (rw [bytesV_snoc]; exact VLe.own_sl _ _ _) | refine VLe.agg ?_))) trivial ?_
              refine rl0 (gn rfl) rfl rfl (step_as rfl rfl) trivial ?_
              refine rl0 (gn rfl) rfl rfl (step_as rfl rfl) trivial ?_
              refine runsL_nil ?_
              refine runs_ret ?_
              have hb_ : fr2 e ++ acP e.act w = bodyB e := by rw [hw4]; rfl
              refine ⟨by first | exact .inr rfl | exact .inl rfl, fin_mkg (rest rfl (rest rfl res0)) ?_ ?_ ?_ ?_ ?_⟩
              · (repeat' (first | exact VLe.refl _ | exact VLe.own_sl _ _ _ | exact VLe.fl_sl _ _ | exact VLe.nil_sl _ | exact VLe.nil_fl _ | exact VLes.refl _ | exact .nil | refine VLe.tup ?_ | refine VLe.agg ?_ | refine .cons ?_ ?_ | (rw [Int.natCast_add]; exact VLe.refl _) | exact vle_int (by omega) | exact vle_bool (by first | rfl | assumption | (simp_all; done) | fail) | ((rw [← hb_]; exact VLe.refl _)) | fail))
              · repeat (first | exact trivial | assumption | omega | (refine bdR_map (fun _ => ?_)) | (refine bdL_map (fun _ => ?_)) | refine ⟨?_, ?_⟩ | fail)
              · intro k_ hk_; exact ble (by repeat (first | exact rfl | refine uN (by omega) ?_ | assumption | exact hf0 _ (by omega) | exact hf1 _ (by omega) (by first | assumption | omega) | exact hf2 _ (by omega) | fail))
              · intro p hp; cases hp
              · repeat (first | exact trivial | assumption | omega | (refine bdR_map (fun _ => ?_)) | (refine bdL_map (fun _ => ?_)) | refine ⟨?_, ?_⟩ | fail)

end Go.Proofs.Ytdmkhpnjjpeeaaa

/- Walks, told over from another seat's. -/
namespace Go.Proofs.Ytdmkhpnjjpeeaaa
open Go.Vm
set_option linter.unusedVariables false
set_option linter.unusedSimpArgs false
open Crc
attribute [local irreducible] Go.Vm.beB Go.Vm.fieldB
end Go.Proofs.Ytdmkhpnjjpeeaaa

/- Walks, told over from another seat's. -/
namespace Go.Proofs.Ytdmkhpnjjpeeaaa
open Go.Vm
set_option linter.unusedVariables false
set_option linter.unusedSimpArgs false
def g1 (s : List Int × Bool) := rS s 1
def g2 (s : List Int × Bool) := rS (g1 s) 1
def gK (s : List Int × Bool) : Int := rN (g1 s) 1
def g3 (s : List Int × Bool) := rS (g2 s) (gK s)
def gB (s : List Int × Bool) : List Int := rdT (g2 s).1 (g2 s).2 (gK s)
def gP (s : List Int × Bool) : List Int := gB s ++ List.replicate (224 - (gB s).length) 0
def gE (s : List Int × Bool) : Prop := (gB s).length > 224 ∨ ((gB s).length > 0 ∧ at' (gB s) (((gB s).length : Int) - 1) = 0)
instance (s : List Int × Bool) : Decidable (gE s) := by unfold gE; infer_instance
def pgI (s : List Int × Bool) : Im := ⟨rN s 1, if gE s then List.replicate 224 0 else gP s⟩
def pgOK (s : List Int × Bool) : Bool := !decide (gE s) && !(g3 s).2
theorem pg_E {s : List Int × Bool} (h : gE s) : pgI s = ⟨rN s 1, List.replicate 224 0⟩ ∧ pgOK s = false := by unfold pgI pgOK; rw [if_pos h, decide_eq_true h]; exact ⟨rfl, rfl⟩
theorem pg_N {s : List Int × Bool} (h : ¬ gE s) : pgI s = ⟨rN s 1, gP s⟩ ∧ pgOK s = !(g3 s).2 := by unfold pgI pgOK; rw [if_neg h, decide_eq_false h]; exact ⟨rfl, by simp⟩
theorem gP_set {b : List Int} (h : b.length ≤ 224) (n : Int) : setSeg (V.sc (.int .i64 n) :: List.replicate 224 (V.sc (.int .u8 0))) 1 ((bytesV b).take b.length).flatten = imR ⟨n, b ++ List.replicate (224 - b.length) 0⟩ := by
  rw [List.take_of_length_le (by rw [bytesV_len]; omega), bytesV_flat]; unfold setSeg imR
  generalize 224 = m at h ⊢
  rw [List.length_map, List.map_append, List.map_replicate]
  simp [bV, Nat.add_comm 1]
theorem imR_z (n : Int) : V.sc (.int .i64 n) :: List.replicate 224 (V.sc (.int .u8 0)) = imR ⟨n, List.replicate 224 0⟩ := by unfold imR; rw [List.map_replicate]; rfl
theorem take_g (k : Nat) (s : List Int × Bool) (hk : 0 ≤ gK s ∧ gK s < 256) : Does Try.prog 66 [.ref k 0, .sc (.int .i64 (gK s))] [(k, .cells (rdB (g2 s).1 (g2 s).2))] [(k, .cells (rdB (g3 s).1 (g3 s).2))] (.sl 1 (bytesV (gB s))) := take_c k (g2 s).1 (g2 s).2 (gK s) (by constructor <;> omega)
theorem num_g1 (k : Nat) (s : List Int × Bool) (hs : okS s) : Does Try.prog 55 [.ref k 0, .sc (.int .i64 1)] [(k, .cells (rdB s.1 s.2))] [(k, .cells (rdB (rS s 1).1 (rS s 1).2))] (.sc (.int .u64 (rN s 1))) := num_c k s.1 s.2 1 (by constructor <;> omega) hs.1 hs.2
theorem num_g8 (k : Nat) (s : List Int × Bool) (hs : okS s) : Does Try.prog 55 [.ref k 0, .sc (.int .i64 8)] [(k, .cells (rdB s.1 s.2))] [(k, .cells (rdB (rS s 8).1 (rS s 8).2))] (.sc (.int .u64 (rN s 8))) := num_c k s.1 s.2 8 (by constructor <;> omega) hs.1 hs.2
theorem num_gK (k : Nat) (s : List Int × Bool) (hs : okS (g1 s)) : Does Try.prog 55 [.ref k 0, .sc (.int .i64 1)] [(k, .cells (rdB (g1 s).1 (g1 s).2))] [(k, .cells (rdB (g2 s).1 (g2 s).2))] (.sc (.int .u64 (gK s))) := num_g1 k (g1 s) hs
set_option maxRecDepth 100000 in
set_option maxHeartbeats 4000000 in
theorem page_c (k : Nat) (xs : List Int) (bad : Bool) (hb : Byts xs) (hl : xs.length ≤ 1000000000) : Does Try.prog 57 [.ref k 0] [(k, .cells (rdB xs bad))] [(k, .cells (rdB (g3 (xs, bad)).1 (g3 (xs, bad)).2))] (.tup [.agg (imR (pgI (xs, bad))), .sc (.bool (pgOK (xs, bad)))]) := by
  refine does_mkg 40 Try.func57 rfl rfl rfl (fun n B bx hd hpre hup hvs hbx hgx => ?_)
  have hp0 := hpre.1
  have hk0 := lt_cells hd hp0
  have hu0 := hup.1
  have o0 : okS (xs, bad) := ⟨hb, hl⟩
  have o1 : okS (g1 (xs, bad)) := okS_rS o0 1
  have o2 : okS (g2 (xs, bad)) := okS_rS o1 1
  have v0 := rN_lt1 o0
  have v1 := rN_lt1 o1
  have vK : 0 ≤ gK (xs, bad) ∧ gK (xs, bad) < 256 := v1
  refine runs_seq ?_
  refine runs_region ?_
  refine rl1 (gn rfl) rfl rfl (step_allocc (k := n + 0) (zs := ((.int .i64 0) :: List.replicate 224 (.int .u8 0))) (cs := V.sc (.int .i64 0) :: List.replicate 224 (V.sc (.int .u8 0))) rfl F.zero86 (by first | rfl | simp) (by first | rfl | decide | simp) (by first | rfl | simp)) ⟨by repeat (first | exact uE | refine uN (by omega) ?_ | assumption | exact hd _ (by omega) | fail), trivial⟩ (by omega) ?_
  refine rl0 (gn rfl) rfl rfl (step_as rfl rfl) trivial ?_
  refine runsL_nil ?_
  refine runs_seq ?_
  refine runs_region ?_
  refine rl0 (gn rfl) rfl rfl (step_mv rfl rfl) trivial ?_
  refine rl1 (gn rfl) rfl rfl (step_callc rfl Try.func55 rfl rfl rfl (num_g1 k (xs, bad) o0) (by repeat (first | exact .nil | refine .cons ?_ ?_ | exact VLe.refl _ | exact VLe.own_sl _ _ _ | exact VLe.fl_sl _ _ | exact VLe.nil_sl _ | exact VLe.nil_fl _ | refine VLe.agg ?_))) ⟨by repeat (first | exact uE | refine uN (by omega) ?_ | assumption | exact hd _ (by omega) | fail), trivial⟩ (by omega) ?_
  refine rl0 (gn rfl) rfl rfl (step_conv_id rfl rfl Try.underlying33 Try.underlying3 (w64 (by exact ⟨Int.le_trans (by decide) v0.1, Int.le_of_lt (Int.lt_trans v0.2 (by decide))⟩))) trivial ?_
  refine rl0 (gn rfl) rfl rfl (step_build (ss := [1, 224]) (zs := ((.int .i64 0) :: List.replicate 224 (.int .u8 0))) (cs := (V.sc (.int .i64 (rN (xs, bad) 1)) :: List.replicate 224 (V.sc (.int .u8 0)))) rfl Try.underlying86 (by kernel_rfl) F.zero86 rfl rfl rfl) trivial ?_
  refine rl1 (gn rfl) rfl rfl (step_allocc (k := n + 1) (zs := ((.int .i64 0) :: List.replicate 224 (.int .u8 0))) (cs := V.sc (.int .i64 0) :: List.replicate 224 (V.sc (.int .u8 0))) rfl F.zero86 (by first | rfl | simp) (by first | rfl | decide | simp) (by first | rfl | simp)) ⟨by repeat (first | exact uE | refine uN (by omega) ?_ | assumption | exact hd _ (by omega) | fail), trivial⟩ (by omega) ?_
  refine' rls (gn rfl) rfl (step_storeA rfl rfl rfl rfl F.agg86 ?hm ?hl) ⟨?hb, trivial⟩ ?hk ?_
  case hb => repeat (first | exact uE | refine uN (by omega) ?_ | assumption | exact hd _ (by omega) | fail)
  case hm => first | rfl | (simp; done) | (first | (simp; done) | (simp [imR, gP]; omega) | (simp [imR, gP]; done))
  case hl => first | rfl | (simp; done) | (first | (simp; done) | (simp [imR, gP]; omega) | (simp [imR, gP]; done))
  case hk => omega
  refine runsL_nil ?_
  refine runs_seq ?_
  refine runs_region ?_
  refine rl0 (gn rfl) rfl rfl (step_mv rfl rfl) trivial ?_
  refine rl0 (gn rfl) rfl rfl (step_mv rfl rfl) trivial ?_
  refine rl1 (gn rfl) rfl rfl (step_callc rfl Try.func55 rfl rfl rfl (num_gK k (xs, bad) o1) (by repeat (first | exact .nil | refine .cons ?_ ?_ | exact VLe.refl _ | exact VLe.own_sl _ _ _ | exact VLe.fl_sl _ _ | exact VLe.nil_sl _ | exact VLe.nil_fl _ | refine VLe.agg ?_))) ⟨by repeat (first | exact uE | refine uN (by omega) ?_ | assumption | exact hd _ (by omega) | fail), trivial⟩ (by omega) ?_
  refine rl0 (gn rfl) rfl rfl (step_conv_id rfl rfl Try.underlying33 Try.underlying3 (w64 (by exact ⟨Int.le_trans (by decide) vK.1, Int.le_of_lt (Int.lt_trans vK.2 (by decide))⟩))) trivial ?_
  refine rl1 (gn rfl) rfl rfl (step_callc rfl Try.func66 rfl rfl rfl (take_g k (xs, bad) vK) (by repeat (first | exact .nil | refine .cons ?_ ?_ | exact VLe.refl _ | exact VLe.own_sl _ _ _ | exact VLe.fl_sl _ _ | exact VLe.nil_sl _ | exact VLe.nil_fl _ | refine VLe.agg ?_))) ⟨by repeat (first | exact uE | refine uN (by omega) ?_ | assumption | exact hd _ (by omega) | fail), trivial⟩ (by omega) ?_
  refine rl0 (gn rfl) rfl rfl (step_as rfl rfl) trivial ?_
  refine runsL_nil ?_
  refine runs_seq ?_
  refine runs_seq ?_
  refine runs_region ?_
  refine rl0 (gn rfl) rfl rfl (step_mv rfl rfl) trivial ?_
  refine rl0 (gn rfl) rfl rfl (step_len (m := (gB (xs, bad)).length) rfl rfl (ev_mk rfl) (.inl ⟨⟨_, Try.underlying22⟩, .inl ⟨_, _, .inl rfl, List.length_map _⟩⟩)) trivial ?_
  refine rl_gtr (gn rfl) rfl rfl rfl rfl rfl (fun h1 => ?_) (fun h1 => ?_)
  · skip
    refine rl0 (gn rfl) rfl rfl (step_mv rfl rfl) trivial ?_
    refine rlk rfl rfl rfl rfl rfl (ngb rfl rfl) rfl rfl ?_
    refine rlk rfl rfl rfl rfl rfl (ngb rfl rfl) rfl rfl ?_
    refine rlk rfl rfl rfl rfl rfl (ngb rfl rfl) rfl rfl ?_
    refine rlk rfl rfl rfl rfl rfl (ngb rfl rfl) rfl rfl ?_
    refine rlk rfl rfl rfl rfl rfl (ngu rfl) rfl rfl ?_
    refine rlk rfl rfl rfl rfl rfl (ngu rfl) rfl rfl ?_
    refine rlk rfl rfl rfl rfl rfl (ngu rfl) rfl rfl ?_
    refine rlk rfl rfl rfl rfl rfl (ngu rfl) rfl rfl ?_
    refine rlk rfl rfl rfl rfl rfl (ngu rfl) rfl rfl ?_
    refine rlk rfl rfl rfl rfl rfl (ngu rfl) rfl rfl ?_
    refine rlk rfl rfl rfl rfl rfl (ngu rfl) rfl rfl ?_
    refine rlk rfl rfl rfl rfl rfl (ngb rfl rfl) rfl rfl ?_
    refine rl0 (gn rfl) rfl rfl (step_pick rfl (ev_mk rfl) (ev_mk rfl)) trivial ?_
    refine runsL_nil ?_
    refine runs_cond true (ev_mk rfl) (fun _ => ?_) (fun h_ => nomatch h_)
    refine runs_seq ?_
    refine runs_region ?_
    refine' rl0 (gn rfl) rfl rfl (step_load_all rfl rfl F.agg86 ?hl) ⟨?hb, trivial⟩ ?_
    case hb => repeat (first | exact uE | refine uN (by omega) ?_ | assumption | exact hd _ (by omega) | fail)
    case hl => first | rfl | (simp; done) | (first | (simp; done) | (simp [imR, gP]; omega) | (simp [imR, gP]; done))
    refine' rls (gn rfl) rfl (step_storeA rfl rfl rfl rfl F.agg86 ?hm ?hl) ⟨?hb, trivial⟩ ?hk ?_
    case hb => repeat (first | exact uE | refine uN (by omega) ?_ | assumption | exact hd _ (by omega) | fail)
    case hm => first | rfl | (simp; done) | (first | (simp; done) | (simp [imR, gP]; omega) | (simp [imR, gP]; done))
    case hl => first | rfl | (simp; done) | (first | (simp; done) | (simp [imR, gP]; omega) | (simp [imR, gP]; done))
    case hk => omega
    refine rl0 (gn rfl) rfl rfl (step_as rfl rfl) trivial ?_
    refine runsL_nil ?_
    refine runs_ret ?_
    first | (have hg_ := pg_E (s := (xs, bad)) (by unfold gE; omega)) | (have hg_ := pg_N (s := (xs, bad)) (by unfold gE; omega))
    rw [hg_.1, hg_.2]
    refine ⟨by first | exact .inr rfl | exact .inl rfl, fin_mkg (resc rfl (by repeat (first | exact uE | refine uN (by omega) ?_ | assumption | exact hd _ (by omega) | fail)) F.agg86 (by first | rfl | (simp; done) | (first | (simp; done) | (simp [imR, gP]; omega) | (simp [imR, gP]; done))) (rest rfl res0)) ?_ ?_ ?_ ?_ ?_⟩
    · (repeat' (first | exact VLe.refl _ | exact VLe.own_sl _ _ _ | exact VLe.fl_sl _ _ | exact VLe.nil_sl _ | exact VLe.nil_fl _ | exact VLes.refl _ | exact .nil | refine VLe.tup ?_ | refine VLe.agg ?_ | refine .cons ?_ ?_ | (rw [Int.natCast_add]; exact VLe.refl _) | exact vle_int (by omega) | exact vle_bool (by first | rfl | assumption | (simp_all; done) | fail) | ((rw [← imR_z]; exact VLe.refl _)) | fail))
    · repeat (first | exact trivial | assumption | omega | (refine bdR_map (fun _ => ?_)) | (refine bdL_map (fun _ => ?_)) | refine ⟨?_, ?_⟩ | fail)
    · intro k_ hk_; simp only [upds]; by_cases e_ : k_ = k; (focus subst e_; refine bl_eq ?_; first | (refine' blec ?hb ?hl; (case hb => repeat (first | exact uE | assumption | refine uN (by omega) ?_ | fail)); (case hl => first | exact VLes.refl _ | ((repeat' (first | exact VLe.refl _ | exact VLe.own_sl _ _ _ | exact VLe.fl_sl _ _ | exact VLe.nil_sl _ | exact VLe.nil_fl _ | exact VLes.refl _ | exact .nil | refine VLe.tup ?_ | refine VLe.agg ?_ | refine .cons ?_ ?_ | (rw [Int.natCast_add]; exact VLe.refl _) | exact vle_int (by omega) | exact vle_bool (by first | rfl | assumption | (simp_all; done) | fail) | ((rw [← imR_z]; exact VLe.refl _)) | fail)); done))) | (refine ble ?_; (repeat (first | exact uE | assumption | refine uN (by omega) ?_ | fail)); done) | exact ble (tl_eq (by repeat (first | exact uE | assumption | refine uN (by omega) ?_ | fail)) (by first | rfl | (simp [bytesV, beB_len]; done) | (simp [bytesV, beB_len]; omega) | omega))); refine bl_ne e_ ?_; exact ble (by repeat (first | exact rfl | refine uN (by omega) ?_ | assumption | fail))
    · intro p hp cs hcs; simp only [List.mem_cons, List.not_mem_nil, or_false] at hp; (first | (rcases hp with rfl)) <;> (first | (cases hcs; done) | (cases hcs; repeat (first | exact trivial | assumption | omega | (refine bdR_map (fun _ => ?_)) | (refine bdL_map (fun _ => ?_)) | refine ⟨?_, ?_⟩ | fail)))
    · repeat (first | exact trivial | assumption | omega | (refine bdR_map (fun _ => ?_)) | (refine bdL_map (fun _ => ?_)) | refine ⟨?_, ?_⟩ | fail)
  · skip
    refine rl0 (gn rfl) rfl rfl (step_mv rfl rfl) trivial ?_
    refine rl0 (gy rfl rfl rfl rfl rfl rfl) rfl rfl (step_mv rfl rfl) trivial ?_
    refine rl0 (gy rfl rfl rfl rfl rfl rfl) rfl rfl (step_len (m := (gB (xs, bad)).length) rfl rfl (ev_mk rfl) (.inl ⟨⟨_, Try.underlying22⟩, .inl ⟨_, _, .inl rfl, List.length_map _⟩⟩)) trivial ?_
    refine rl_gtr (gy rfl rfl rfl rfl rfl rfl) rfl rfl rfl rfl rfl (fun h2 => ?_) (fun h2 => ?_)
    · skip
      refine rl0 (gy rfl rfl rfl rfl rfl rfl) rfl rfl (step_mv rfl rfl) trivial ?_
      refine rl0 (gy rfl rfl rfl rfl rfl rfl) rfl rfl (step_mv rfl rfl) trivial ?_
      refine rl0 (gy rfl rfl rfl rfl rfl rfl) rfl rfl (step_mv rfl rfl) trivial ?_
      refine rl0 (gy rfl rfl rfl rfl rfl rfl) rfl rfl (step_len (m := (gB (xs, bad)).length) rfl rfl (ev_mk rfl) (.inl ⟨⟨_, Try.underlying22⟩, .inl ⟨_, _, .inl rfl, List.length_map _⟩⟩)) trivial ?_
      refine rl0 (gy rfl rfl rfl rfl rfl rfl) rfl rfl (step_sub rfl (ev_mk rfl) (ev_mk rfl) (w64 (by omega))) trivial ?_
      refine' rl0 (gy rfl rfl rfl rfl rfl rfl) rfl rfl (step_index rfl (ev_mk rfl) (.inl rfl) (ev_mk rfl) Try.underlying22 F.sz5 (by omega) ?hr) trivial ?_
      case hr => exact map_at _ _ _ (by omega) (by omega)
      refine rl0 (gy rfl rfl rfl rfl rfl rfl) rfl rfl (step_load_ro rfl (ev_mk rfl) F.one5 rfl) trivial ?_
      refine rl_eql (gy rfl rfl rfl rfl rfl rfl) rfl rfl rfl rfl rfl (fun h3 => ?_) (fun h3 => ?_)
      · skip
        replace h3 : at' (gB (xs, bad)) (((gB (xs, bad)).length : Int) - 1) = 0 := h3
        refine rl0 (gy rfl rfl rfl rfl rfl rfl) rfl rfl (step_pick rfl (ev_mk rfl) (ev_mk rfl)) trivial ?_
        refine rl0 (gn rfl) rfl rfl (step_pick rfl (ev_mk rfl) (ev_mk rfl)) trivial ?_
        refine runsL_nil ?_
        refine runs_cond true (ev_mk rfl) (fun _ => ?_) (fun h_ => nomatch h_)
        refine runs_seq ?_
        refine runs_region ?_
        refine' rl0 (gn rfl) rfl rfl (step_load_all rfl rfl F.agg86 ?hl) ⟨?hb, trivial⟩ ?_
        case hb => repeat (first | exact uE | refine uN (by omega) ?_ | assumption | exact hd _ (by omega) | fail)
        case hl => first | rfl | (simp; done) | (first | (simp; done) | (simp [imR, gP]; omega) | (simp [imR, gP]; done))
        refine' rls (gn rfl) rfl (step_storeA rfl rfl rfl rfl F.agg86 ?hm ?hl) ⟨?hb, trivial⟩ ?hk ?_
        case hb => repeat (first | exact uE | refine uN (by omega) ?_ | assumption | exact hd _ (by omega) | fail)
        case hm => first | rfl | (simp; done) | (first | (simp; done) | (simp [imR, gP]; omega) | (simp [imR, gP]; done))
        case hl => first | rfl | (simp; done) | (first | (simp; done) | (simp [imR, gP]; omega) | (simp [imR, gP]; done))
        case hk => omega
        refine rl0 (gn rfl) rfl rfl (step_as rfl rfl) trivial ?_
        refine runsL_nil ?_
        refine runs_ret ?_
        first | (have hg_ := pg_E (s := (xs, bad)) (by unfold gE; omega)) | (have hg_ := pg_N (s := (xs, bad)) (by unfold gE; omega))
        rw [hg_.1, hg_.2]
        refine ⟨by first | exact .inr rfl | exact .inl rfl, fin_mkg (resc rfl (by repeat (first | exact uE | refine uN (by omega) ?_ | assumption | exact hd _ (by omega) | fail)) F.agg86 (by first | rfl | (simp; done) | (first | (simp; done) | (simp [imR, gP]; omega) | (simp [imR, gP]; done))) (rest rfl res0)) ?_ ?_ ?_ ?_ ?_⟩
        · (repeat' (first | exact VLe.refl _ | exact VLe.own_sl _ _ _ | exact VLe.fl_sl _ _ | exact VLe.nil_sl _ | exact VLe.nil_fl _ | exact VLes.refl _ | exact .nil | refine VLe.tup ?_ | refine VLe.agg ?_ | refine .cons ?_ ?_ | (rw [Int.natCast_add]; exact VLe.refl _) | exact vle_int (by omega) | exact vle_bool (by first | rfl | assumption | (simp_all; done) | fail) | ((rw [← imR_z]; exact VLe.refl _)) | fail))
        · repeat (first | exact trivial | assumption | omega | (refine bdR_map (fun _ => ?_)) | (refine bdL_map (fun _ => ?_)) | refine ⟨?_, ?_⟩ | fail)
        · intro k_ hk_; simp only [upds]; by_cases e_ : k_ = k; (focus subst e_; refine bl_eq ?_; first | (refine' blec ?hb ?hl; (case hb => repeat (first | exact uE | assumption | refine uN (by omega) ?_ | fail)); (case hl => first | exact VLes.refl _ | ((repeat' (first | exact VLe.refl _ | exact VLe.own_sl _ _ _ | exact VLe.fl_sl _ _ | exact VLe.nil_sl _ | exact VLe.nil_fl _ | exact VLes.refl _ | exact .nil | refine VLe.tup ?_ | refine VLe.agg ?_ | refine .cons ?_ ?_ | (rw [Int.natCast_add]; exact VLe.refl _) | exact vle_int (by omega) | exact vle_bool (by first | rfl | assumption | (simp_all; done) | fail) | ((rw [← imR_z]; exact VLe.refl _)) | fail)); done))) | (refine ble ?_; (repeat (first | exact uE | assumption | refine uN (by omega) ?_ | fail)); done) | exact ble (tl_eq (by repeat (first | exact uE | assumption | refine uN (by omega) ?_ | fail)) (by first | rfl | (simp [bytesV, beB_len]; done) | (simp [bytesV, beB_len]; omega) | omega))); refine bl_ne e_ ?_; exact ble (by repeat (first | exact rfl | refine uN (by omega) ?_ | assumption | fail))
        · intro p hp cs hcs; simp only [List.mem_cons, List.not_mem_nil, or_false] at hp; (first | (rcases hp with rfl)) <;> (first | (cases hcs; done) | (cases hcs; repeat (first | exact trivial | assumption | omega | (refine bdR_map (fun _ => ?_)) | (refine bdL_map (fun _ => ?_)) | refine ⟨?_, ?_⟩ | fail)))
        · repeat (first | exact trivial | assumption | omega | (refine bdR_map (fun _ => ?_)) | (refine bdL_map (fun _ => ?_)) | refine ⟨?_, ?_⟩ | fail)
      · skip
        replace h3 : ¬ at' (gB (xs, bad)) (((gB (xs, bad)).length : Int) - 1) = 0 := h3
        refine rl0 (gy rfl rfl rfl rfl rfl rfl) rfl rfl (step_pick rfl (ev_mk rfl) (ev_mk rfl)) trivial ?_
        refine rl0 (gn rfl) rfl rfl (step_pick rfl (ev_mk rfl) (ev_mk rfl)) trivial ?_
        refine runsL_nil ?_
        refine runs_cond false (ev_mk rfl) (fun h_ => nomatch h_) (fun _ => ?_)
        refine runs_skip ?_
        refine runs_seq ?_
        refine runs_region ?_
        refine rl0 (gn rfl) rfl rfl (step_fieldAddr (off := 1) rfl (ev_mk rfl) Try.underlying86 rfl F.sz84 rfl) trivial ?_
        refine rl0 (gn rfl) rfl rfl (step_sl_arr (a := 0) (h := 224) (m := 224) (q' := 1) (n' := 224) (c' := 224) rfl (ev_mk rfl) Try.underlying84 F.sz5 bndLo_none bndHi_none bndHi_none (fun h_ => by first | rfl | nomatch h_) (by omega) (by omega) (by omega) (by first | exact .inl ⟨by omega, by omega⟩ | exact .inr ⟨by omega, by omega⟩) (by first | rfl | omega) (by first | rfl | omega)) trivial ?_
        refine rl0 (gn rfl) rfl rfl (step_mv rfl rfl) trivial ?_
        refine' rl1 (gn rfl) rfl rfl (step_copy (m := (gB (xs, bad)).length) (cs' := imR ⟨rN (xs, bad) 1, gP (xs, bad)⟩) rfl rfl Try.underlying22 F.sz5 (ev_mk rfl) (ev_mk rfl) (gives_sl (.inl rfl)) ?hmn ?hl ?hcs) ⟨?hb, trivial⟩ (by omega) ?_
        case hb => repeat (first | exact uE | refine uN (by omega) ?_ | assumption | exact hd _ (by omega) | fail)
        case hmn => rw [bytesV_len]; exact Nat.min_eq_left (by omega)
        case hl => first | (simp; done) | (simp; omega)
        case hcs => exact gP_set (by omega) _
        refine runsL_nil ?_
        refine runs_seq ?_
        refine runs_draw (by kernel_rfl) (by kernel_rfl) (by kernel_rfl) ?_
        refine' dl0 (gn rfl) rfl rfl (step_load_all rfl rfl F.agg86 ?hl) ⟨?hb, trivial⟩ ?_
        case hb => repeat (first | exact uE | refine uN (by omega) ?_ | assumption | exact hd _ (by omega) | fail)
        case hl => first | rfl | (simp; done) | (first | (simp; done) | (simp [imR, gP]; omega) | (simp [imR, gP]; done))
        refine dl0 (gn rfl) rfl rfl (step_mv rfl rfl) trivial ?_
        refine dl0 (gn rfl) rfl rfl (step_callc rfl Try.func58 rfl rfl rfl (right_c k (g3 (xs, bad)).1 (g3 (xs, bad)).2) (by repeat (first | exact .nil | refine .cons ?_ ?_ | exact VLe.refl _ | exact VLe.own_sl _ _ _ | exact VLe.fl_sl _ _ | exact VLe.nil_sl _ | exact VLe.nil_fl _ | refine VLe.agg ?_))) ⟨by repeat (first | exact uE | refine uN (by omega) ?_ | assumption | exact hd _ (by omega) | fail), trivial⟩ ?_
        refine' dls (gn rfl) rfl (step_storeA rfl rfl rfl rfl F.agg86 ?hm ?hl) ⟨?hb, trivial⟩ ?hk ?_
        case hb => repeat (first | exact uE | refine uN (by omega) ?_ | assumption | exact hd _ (by omega) | fail)
        case hm => first | rfl | (simp; done) | (first | (simp; done) | (simp [imR, gP]; omega) | (simp [imR, gP]; done))
        case hl => first | rfl | (simp; done) | (first | (simp; done) | (simp [imR, gP]; omega) | (simp [imR, gP]; done))
        case hk => omega
        refine dl0 (gn rfl) rfl rfl (step_as rfl rfl) trivial ?_
        refine dlnil ?_ ?_
        · repeat' (first | exact trivial | exact .inr (ap0 _ _ _ _) | exact .inr (ap2 _ _ _ _) | exact .inr (ap3 _ _ _ _) | exact .inr ⟨by first | (simp; done) | (simp; omega), by first | (simp; done) | (simp; omega)⟩ | exact .inl (by kernel_rfl) | refine ⟨?_, ?_⟩ | fail)
        refine runs_ret ?_
        first | (have hg_ := pg_E (s := (xs, bad)) (by unfold gE; omega)) | (have hg_ := pg_N (s := (xs, bad)) (by unfold gE; omega))
        rw [hg_.1, hg_.2]
        refine ⟨by first | exact .inr rfl | exact .inl rfl, fin_mkg (resc rfl (by repeat (first | exact uE | refine uN (by omega) ?_ | assumption | exact hd _ (by omega) | fail)) F.agg86 (by first | rfl | (simp; done) | (first | (simp; done) | (simp [imR, gP]; omega) | (simp [imR, gP]; done))) (rest rfl res0)) ?_ ?_ ?_ ?_ ?_⟩
        · (repeat' (first | exact VLe.refl _ | exact VLe.own_sl _ _ _ | exact VLe.fl_sl _ _ | exact VLe.nil_sl _ | exact VLe.nil_fl _ | exact VLes.refl _ | exact .nil | refine VLe.tup ?_ | refine VLe.agg ?_ | refine .cons ?_ ?_ | (rw [Int.natCast_add]; exact VLe.refl _) | exact vle_int (by omega) | exact vle_bool (by first | rfl | assumption | (simp_all; done) | fail) | ((rw [← imR_z]; exact VLe.refl _)) | fail))
        · repeat (first | exact trivial | assumption | omega | (refine bdR_map (fun _ => ?_)) | (refine bdL_map (fun _ => ?_)) | refine ⟨?_, ?_⟩ | fail)
        · intro k_ hk_; simp only [upds]; by_cases e_ : k_ = k; (focus subst e_; refine bl_eq ?_; first | (refine' blec ?hb ?hl; (case hb => repeat (first | exact uE | assumption | refine uN (by omega) ?_ | fail)); (case hl => first | exact VLes.refl _ | ((repeat' (first | exact VLe.refl _ | exact VLe.own_sl _ _ _ | exact VLe.fl_sl _ _ | exact VLe.nil_sl _ | exact VLe.nil_fl _ | exact VLes.refl _ | exact .nil | refine VLe.tup ?_ | refine VLe.agg ?_ | refine .cons ?_ ?_ | (rw [Int.natCast_add]; exact VLe.refl _) | exact vle_int (by omega) | exact vle_bool (by first | rfl | assumption | (simp_all; done) | fail) | ((rw [← imR_z]; exact VLe.refl _)) | fail)); done))) | (refine ble ?_; (repeat (first | exact uE | assumption | refine uN (by omega) ?_ | fail)); done) | exact ble (tl_eq (by repeat (first | exact uE | assumption | refine uN (by omega) ?_ | fail)) (by first | rfl | (simp [bytesV, beB_len]; done) | (simp [bytesV, beB_len]; omega) | omega))); refine bl_ne e_ ?_; exact ble (by repeat (first | exact rfl | refine uN (by omega) ?_ | assumption | fail))
        · intro p hp cs hcs; simp only [List.mem_cons, List.not_mem_nil, or_false] at hp; (first | (rcases hp with rfl)) <;> (first | (cases hcs; done) | (cases hcs; repeat (first | exact trivial | assumption | omega | (refine bdR_map (fun _ => ?_)) | (refine bdL_map (fun _ => ?_)) | refine ⟨?_, ?_⟩ | fail)))
        · repeat (first | exact trivial | assumption | omega | (refine bdR_map (fun _ => ?_)) | (refine bdL_map (fun _ => ?_)) | refine ⟨?_, ?_⟩ | fail)
    · skip
      refine rl0 (gy rfl rfl rfl rfl rfl rfl) rfl rfl (step_mv rfl rfl) trivial ?_
      refine rlk rfl rfl rfl rfl rfl (ngb rfl rfl) rfl rfl ?_
      refine rlk rfl rfl rfl rfl rfl (ngb rfl rfl) rfl rfl ?_
      refine rlk rfl rfl rfl rfl rfl (ngb rfl rfl) rfl rfl ?_
      refine rlk rfl rfl rfl rfl rfl (ngb rfl rfl) rfl rfl ?_
      refine rlk rfl rfl rfl rfl rfl (ngb rfl rfl) rfl rfl ?_
      refine rlk rfl rfl rfl rfl rfl (ngb rfl rfl) rfl rfl ?_
      refine rlk rfl rfl rfl rfl rfl (ngb rfl rfl) rfl rfl ?_
      refine rl0 (gy rfl rfl rfl rfl rfl rfl) rfl rfl (step_pick rfl (ev_mk rfl) (ev_mk rfl)) trivial ?_
      refine rl0 (gn rfl) rfl rfl (step_pick rfl (ev_mk rfl) (ev_mk rfl)) trivial ?_
      refine runsL_nil ?_
      refine runs_cond false (ev_mk rfl) (fun h_ => nomatch h_) (fun _ => ?_)
      refine runs_skip ?_
      refine runs_seq ?_
      refine runs_region ?_
      refine rl0 (gn rfl) rfl rfl (step_fieldAddr (off := 1) rfl (ev_mk rfl) Try.underlying86 rfl F.sz84 rfl) trivial ?_
      refine rl0 (gn rfl) rfl rfl (step_sl_arr (a := 0) (h := 224) (m := 224) (q' := 1) (n' := 224) (c' := 224) rfl (ev_mk rfl) Try.underlying84 F.sz5 bndLo_none bndHi_none bndHi_none (fun h_ => by first | rfl | nomatch h_) (by omega) (by omega) (by omega) (by first | exact .inl ⟨by omega, by omega⟩ | exact .inr ⟨by omega, by omega⟩) (by first | rfl | omega) (by first | rfl | omega)) trivial ?_
      refine rl0 (gn rfl) rfl rfl (step_mv rfl rfl) trivial ?_
      refine' rl1 (gn rfl) rfl rfl (step_copy (m := (gB (xs, bad)).length) (cs' := imR ⟨rN (xs, bad) 1, gP (xs, bad)⟩) rfl rfl Try.underlying22 F.sz5 (ev_mk rfl) (ev_mk rfl) (gives_sl (.inl rfl)) ?hmn ?hl ?hcs) ⟨?hb, trivial⟩ (by omega) ?_
      case hb => repeat (first | exact uE | refine uN (by omega) ?_ | assumption | exact hd _ (by omega) | fail)
      case hmn => rw [bytesV_len]; exact Nat.min_eq_left (by omega)
      case hl => first | (simp; done) | (simp; omega)
      case hcs => exact gP_set (by omega) _
      refine runsL_nil ?_
      refine runs_seq ?_
      refine runs_draw (by kernel_rfl) (by kernel_rfl) (by kernel_rfl) ?_
      refine' dl0 (gn rfl) rfl rfl (step_load_all rfl rfl F.agg86 ?hl) ⟨?hb, trivial⟩ ?_
      case hb => repeat (first | exact uE | refine uN (by omega) ?_ | assumption | exact hd _ (by omega) | fail)
      case hl => first | rfl | (simp; done) | (first | (simp; done) | (simp [imR, gP]; omega) | (simp [imR, gP]; done))
      refine dl0 (gn rfl) rfl rfl (step_mv rfl rfl) trivial ?_
      refine dl0 (gn rfl) rfl rfl (step_callc rfl Try.func58 rfl rfl rfl (right_c k (g3 (xs, bad)).1 (g3 (xs, bad)).2) (by repeat (first | exact .nil | refine .cons ?_ ?_ | exact VLe.refl _ | exact VLe.own_sl _ _ _ | exact VLe.fl_sl _ _ | exact VLe.nil_sl _ | exact VLe.nil_fl _ | refine VLe.agg ?_))) ⟨by repeat (first | exact uE | refine uN (by omega) ?_ | assumption | exact hd _ (by omega) | fail), trivial⟩ ?_
      refine' dls (gn rfl) rfl (step_storeA rfl rfl rfl rfl F.agg86 ?hm ?hl) ⟨?hb, trivial⟩ ?hk ?_
      case hb => repeat (first | exact uE | refine uN (by omega) ?_ | assumption | exact hd _ (by omega) | fail)
      case hm => first | rfl | (simp; done) | (first | (simp; done) | (simp [imR, gP]; omega) | (simp [imR, gP]; done))
      case hl => first | rfl | (simp; done) | (first | (simp; done) | (simp [imR, gP]; omega) | (simp [imR, gP]; done))
      case hk => omega
      refine dl0 (gn rfl) rfl rfl (step_as rfl rfl) trivial ?_
      refine dlnil ?_ ?_
      · repeat' (first | exact trivial | exact .inr (ap0 _ _ _ _) | exact .inr (ap2 _ _ _ _) | exact .inr (ap3 _ _ _ _) | exact .inr ⟨by first | (simp; done) | (simp; omega), by first | (simp; done) | (simp; omega)⟩ | exact .inl (by kernel_rfl) | refine ⟨?_, ?_⟩ | fail)
      refine runs_ret ?_
      first | (have hg_ := pg_E (s := (xs, bad)) (by unfold gE; omega)) | (have hg_ := pg_N (s := (xs, bad)) (by unfold gE; omega))
      rw [hg_.1, hg_.2]
      refine ⟨by first | exact .inr rfl | exact .inl rfl, fin_mkg (resc rfl (by repeat (first | exact uE | refine uN (by omega) ?_ | assumption | exact hd _ (by omega) | fail)) F.agg86 (by first | rfl | (simp; done) | (first | (simp; done) | (simp [imR, gP]; omega) | (simp [imR, gP]; done))) (rest rfl res0)) ?_ ?_ ?_ ?_ ?_⟩
      · (repeat' (first | exact VLe.refl _ | exact VLe.own_sl _ _ _ | exact VLe.fl_sl _ _ | exact VLe.nil_sl _ | exact VLe.nil_fl _ | exact VLes.refl _ | exact .nil | refine VLe.tup ?_ | refine VLe.agg ?_ | refine .cons ?_ ?_ | (rw [Int.natCast_add]; exact VLe.refl _) | exact vle_int (by omega) | exact vle_bool (by first | rfl | assumption | (simp_all; done) | fail) | ((rw [← imR_z]; exact VLe.refl _)) | fail))
      · repeat (first | exact trivial | assumption | omega | (refine bdR_map (fun _ => ?_)) | (refine bdL_map (fun _ => ?_)) | refine ⟨?_, ?_⟩ | fail)
      · intro k_ hk_; simp only [upds]; by_cases e_ : k_ = k; (focus subst e_; refine bl_eq ?_; first | (refine' blec ?hb ?hl; (case hb => repeat (first | exact uE | assumption | refine uN (by omega) ?_ | fail)); (case hl => first | exact VLes.refl _ | ((repeat' (first | exact VLe.refl _ | exact VLe.own_sl _ _ _ | exact VLe.fl_sl _ _ | exact VLe.nil_sl _ | exact VLe.nil_fl _ | exact VLes.refl _ | exact .nil | refine VLe.tup ?_ | refine VLe.agg ?_ | refine .cons ?_ ?_ | (rw [Int.natCast_add]; exact VLe.refl _) | exact vle_int (by omega) | exact vle_bool (by first | rfl | assumption | (simp_all; done) | fail) | ((rw [← imR_z]; exact VLe.refl _)) | fail)); done))) | (refine ble ?_; (repeat (first | exact uE | assumption | refine uN (by omega) ?_ | fail)); done) | exact ble (tl_eq (by repeat (first | exact uE | assumption | refine uN (by omega) ?_ | fail)) (by first | rfl | (simp [bytesV, beB_len]; done) | (simp [bytesV, beB_len]; omega) | omega))); refine bl_ne e_ ?_; exact ble (by repeat (first | exact rfl | refine uN (by omega) ?_ | assumption | fail))
      · intro p hp cs hcs; simp only [List.mem_cons, List.not_mem_nil, or_false] at hp; (first | (rcases hp with rfl)) <;> (first | (cases hcs; done) | (cases hcs; repeat (first | exact trivial | assumption | omega | (refine bdR_map (fun _ => ?_)) | (refine bdL_map (fun _ => ?_)) | refine ⟨?_, ?_⟩ | fail)))
      · repeat (first | exact trivial | assumption | omega | (refine bdR_map (fun _ => ?_)) | (refine bdL_map (fun _ => ?_)) | refine ⟨?_, ?_⟩ | fail)

end Go.Proofs.Ytdmkhpnjjpeeaaa

