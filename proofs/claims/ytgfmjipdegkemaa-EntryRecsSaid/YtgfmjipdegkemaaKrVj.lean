/- Walks by the logic of values. -/
import Derived.Test.YtgfmjipdegkemaaKrVmQ
import Derived.Test.YtgfmjipdegkemaaKrWe
import Derived.Test.YtgfmjipdegkemaaKrVa
import Derived.Test.YtgfmjipdegkemaaKrVb
import Derived.Test.YtgfmjipdegkemaaKrVc
import Derived.Test.YtgfmjipdegkemaaKrVe
import Derived.Test.YtgfmjipdegkemaaKrWa
import Derived.Test.YtgfmjipdegkemaaKrWb
import Derived.Test.YtgfmjipdegkemaaKrWc
import Derived.Test.YtgfmjipdegkemaaKrWd
import Derived.Test.YtgfmjipdegkemaaKrWe
import Derived.Test.YtgfmjipdegkemaaKrVmT
import Derived.Test.YtgfmjipdegkemaaKrVmP
namespace Go.Proofs.Ytgfmjipdegkemaa
open Go.Vm
set_option linter.unusedVariables false
set_option linter.unusedSimpArgs false
open Crc
attribute [local irreducible] Go.Vm.beB Go.Vm.fieldB
def f4 (e : En) : List Int := [e.lsn, e.txn, e.prev, e.next]
def hdP (e : En) : Nat → List Int
  | 0 => [e.kind]
  | j + 1 => hdP e j ++ beB 8 (at' (f4 e) (j : Int))
def pgP (l : List Im) : Nat → List Int
  | 0 => []
  | j + 1 => pgP l j ++ ((at' l (j : Int)).n :: sqB (at' l (j : Int)).p)
def acP (l : List Int) : Nat → List Int
  | 0 => []
  | j + 1 => acP l j ++ beB 8 (at' l (j : Int))
def fr1 (e : En) : List Int := hdP e 4 ++ recF e.r ++ [(e.pages.length : Int)]
def fr2 (e : En) : List Int := fr1 e ++ pgP e.pages e.pages.length ++ [(e.act.length : Int)]
def bodyB (e : En) : List Int := fr2 e ++ acP e.act e.act.length
def okEn (e : En) : Prop := U64 e.lsn ∧ U64 e.txn ∧ U64 e.prev ∧ U64 e.next ∧ okRc e.r ∧ (∀ m ∈ e.pages, m.p.length = 224 ∧ Byts m.p) ∧ ∀ a ∈ e.act, U64 a
theorem imR_pg {m : Im} (h : m.p.length = 224) : List.take 224 (List.drop (0 + 1) (imR m)) = m.p.map bV := by
  unfold imR
  rw [List.drop_succ_cons, List.drop_zero]
  exact List.take_of_length_le (by rw [List.length_map]; omega)
theorem f4_at {e : En} {j : Nat} (h : j < 4) : [V.sc (.int .u64 e.lsn), .sc (.int .u64 e.txn), .sc (.int .u64 e.prev), .sc (.int .u64 e.next)][j]? = some (.sc (.int .u64 (at' (f4 e) (j : Int)))) := by
  match j, h with
  | 0, _ => rfl
  | 1, _ => rfl
  | 2, _ => rfl
  | 3, _ => rfl
theorem f4_ok {e : En} (h : okEn e) {j : Nat} (hj : j < 4) : U64 (at' (f4 e) (j : Int)) := by
  match j, hj with
  | 0, _ => exact h.1
  | 1, _ => exact h.2.1
  | 2, _ => exact h.2.2.1
  | 3, _ => exact h.2.2.2.1
theorem hdP_len (e : En) : ∀ j, (hdP e j).length = 1 + 8 * j
  | 0 => rfl
  | j + 1 => by unfold hdP; rw [List.length_append, hdP_len e j, beB_len]; omega
theorem sqB_len (p : List Int) : (sqB p).length ≤ 225 := by unfold sqB; have := lnz_le p 224; rw [List.length_cons, List.length_take]; omega
theorem pgP_len (l : List Im) : ∀ j, (pgP l j).length ≤ 226 * j
  | 0 => by simp [pgP]
  | j + 1 => by unfold pgP; have := pgP_len l j; have := sqB_len (at' l (j : Int)).p; rw [List.length_append, List.length_cons]; omega
theorem acP_len (l : List Int) : ∀ j, (acP l j).length = 8 * j
  | 0 => rfl
  | j + 1 => by unfold acP; rw [List.length_append, acP_len l j, beB_len]; omega
theorem recF_len {r : Rc} (h : r.val.size < 16) : (recF r).length = 41 := by unfold recF recB; simp only [List.length_append, beB_len, fieldB_len h, List.length_cons, List.length_nil]
theorem fr1_len {e : En} (h : e.r.val.size < 16) : (fr1 e).length = 75 := by unfold fr1; rw [List.length_append, List.length_append, hdP_len, recF_len h]; rfl
theorem fr2_len {e : En} (h : e.r.val.size < 16) : (fr2 e).length ≤ 76 + 226 * e.pages.length := by unfold fr2; have := pgP_len e.pages e.pages.length; rw [List.length_append, List.length_append, fr1_len h, List.length_cons, List.length_nil]; omega
theorem pgS_all {l : List Im} : ∀ {j : Nat}, pgS l j = true → ∀ i : Nat, i < j → 0 ≤ (at' l (i : Int)).n ∧ (at' l (i : Int)).n ≤ 255
  | 0, _, i, hi => by omega
  | j + 1, h, i, hi => by
    unfold pgS at h
    rw [Bool.and_eq_true, decide_eq_true_eq] at h
    rcases Nat.lt_succ_iff_lt_or_eq.mp hi with h_ | rfl
    · exact pgS_all h.1 i h_
    · exact ⟨h.2.1, h.2.2.1⟩
theorem chk0 {e : En} (h : chkF e = 0) : (1 ≤ e.kind ∧ e.kind ≤ 10) ∧ e.r.val.size ≤ 15 ∧ e.pages.length ≤ 24 ∧ e.act.length ≤ 64 ∧ pgS e.pages e.pages.length = true := by
  unfold chkF at h
  split at h
  · omega
  · split at h
    · omega
    · split at h
      · omega
      · split at h
        · rename_i h1 h2 h3 h4; exact ⟨by omega, by omega, by omega, by omega, h4⟩
        · omega
theorem hdP_byts {e : En} (h : 1 ≤ e.kind ∧ e.kind ≤ 10) : ∀ j, Byts (hdP e j)
  | 0 => bytes_one ⟨by omega, by omega⟩
  | j + 1 => bytes_app (hdP_byts h j) (beB_bytes _ _)
theorem recF_byts {r : Rc} (h : r.val.size < 16) : Byts (recF r) := by
  unfold recF recB
  exact bytes_app (bytes_app (bytes_app (bytes_app (bytes_app (beB_bytes _ _) (beB_bytes _ _)) (beB_bytes _ _)) (beB_bytes _ _)) (bytes_one (by split <;> omega))) (fieldB_byts (by omega))
theorem sqB_byts {p : List Int} (h : Byts p) : Byts (sqB p) := by
  have := lnz_le p 224
  unfold sqB
  exact bytes_app (bytes_one ⟨by omega, by omega⟩) (bytes_take h _)
theorem pgP_byts {l : List Im} (hp : ∀ m ∈ l, m.p.length = 224 ∧ Byts m.p) (hs : pgS l l.length = true) : ∀ j, j ≤ l.length → Byts (pgP l j)
  | 0, _ => bytes_nil
  | j + 1, hj => by
    have h1 := pgS_all hs j (by omega)
    exact bytes_app (pgP_byts hp hs j (by omega)) (bytes_app (bytes_one ⟨h1.1, by omega⟩) (sqB_byts (hp _ (at_mem (by omega) (by omega))).2))
theorem acP_byts (l : List Int) : ∀ j, Byts (acP l j)
  | 0 => bytes_nil
  | j + 1 => bytes_app (acP_byts l j) (beB_bytes _ _)
theorem fr2_byts {e : En} (h : okEn e) (hc : chkF e = 0) : Byts (fr2 e) := by
  obtain ⟨c1, c2, c3, c4, c5⟩ := chk0 hc
  exact bytes_app (bytes_app (bytes_app (bytes_app (hdP_byts c1 4) (recF_byts (by omega))) (bytes_one ⟨by omega, by omega⟩)) (pgP_byts h.2.2.2.2.2.1 c5 _ (Nat.le_refl _))) (bytes_one ⟨by omega, by omega⟩)
theorem bodyB_byts {e : En} (h : okEn e) (hc : chkF e = 0) : Byts (bodyB e) := bytes_app (fr2_byts h hc) (acP_byts _ _)
theorem bodyB_len {e : En} (hc : chkF e = 0) : (bodyB e).length ≤ 76 + 226 * e.pages.length + 8 * e.act.length := by
  obtain ⟨c1, c2, c3, c4, c5⟩ := chk0 hc
  have := fr2_len (e := e) (by omega)
  unfold bodyB; rw [List.length_append, acP_len]; omega
theorem bodyB_small {e : En} (hc : chkF e = 0) : (bodyB e).length ≤ 1000000 := by
  obtain ⟨c1, c2, c3, c4, c5⟩ := chk0 hc
  have := bodyB_len hc; omega
set_option maxRecDepth 100000 in
set_option maxHeartbeats 4000000 in
theorem put_no (e : En) (he : okEn e) (hL : (e.pages.length : Int) ≤ 9223372036854775807 ∧ (e.act.length : Int) ≤ 9223372036854775807) (hc : ¬ chkF e = 0) : Does Try.prog 8 [.agg (enC e)] [] [] (.tup [.sl 1 (bytesV []), .sc (.int .i64 (chkF e))]) := by
  refine does_mkg 40 Try.func8 rfl rfl rfl (fun n B bx hd hpre hup hvs hbx hgx => ?_)
  refine runs_seq ?_
  refine runs_region ?_
  refine rl1 (gn rfl) rfl rfl (step_box_agg (k := n + 0) rfl rfl) ⟨by repeat (first | exact uE | refine uN (by omega) ?_ | assumption | exact hd _ (by omega) | fail), trivial⟩ (by omega) ?_
  refine rl0 (gn rfl) rfl rfl (step_as rfl rfl) trivial ?_
  refine rl0 (gn rfl) rfl rfl (step_as rfl rfl) trivial ?_
  refine runsL_nil ?_
  refine runs_seq ?_
  refine runs_seq ?_
  refine runs_region ?_
  refine' rl0 (gn rfl) rfl rfl (step_load_all rfl rfl F.agg29 ?hl) ⟨?hb, trivial⟩ ?_
  case hb => repeat (first | exact uE | refine uN (by omega) ?_ | assumption | exact hd _ (by omega) | fail)
  case hl => first | rfl | (simp; done) | (first | (simp; done) | (simp; omega) | omega)
  refine rl0 (gn rfl) rfl rfl (step_callc rfl Try.func11 rfl rfl rfl (check_c e hL (fun m hm => (he.2.2.2.2.2.1 m hm).1)) (by repeat (first | exact .nil | refine .cons ?_ ?_ | exact VLe.refl _ | exact VLe.own_sl _ _ _ | exact VLe.fl_sl _ _ | exact VLe.nil_sl _ | exact VLe.nil_fl _ | refine VLe.agg ?_))) trivial ?_
  refine rl0 (gn rfl) rfl rfl (step_as rfl rfl) trivial ?_
  refine runsL_nil ?_
  refine runs_seq ?_
  refine runs_region ?_
  refine rl0 (gn rfl) rfl rfl (step_mv rfl rfl) trivial ?_
  refine rl_neq (gn rfl) rfl rfl rfl rfl rfl (fun h1 => ?_) (fun h1 => ?_)
  rotate_left
  · exact False.elim (by omega)
  refine runsL_nil ?_
  refine runs_cond true (ev_mk rfl) (fun _ => ?_) (fun h_ => nomatch h_)
  refine runs_seq ?_
  refine runs_region ?_
  refine rl0 (gn rfl) rfl rfl (step_mv rfl rfl) trivial ?_
  refine rl0 (gn rfl) rfl rfl (step_as rfl rfl) trivial ?_
  refine rl0 (gn rfl) rfl rfl (step_as rfl rfl) trivial ?_
  refine runsL_nil ?_
  refine runs_ret ?_
  refine ⟨by first | exact .inr rfl | exact .inl rfl, fin_mkg (rest rfl (rest rfl res0)) ?_ ?_ ?_ ?_ ?_⟩
  · (repeat' (first | exact VLe.refl _ | exact VLe.own_sl _ _ _ | exact VLe.fl_sl _ _ | exact VLe.nil_sl _ | exact VLe.nil_fl _ | exact VLes.refl _ | exact .nil | refine VLe.tup ?_ | refine VLe.agg ?_ | refine .cons ?_ ?_ | (rw [Int.natCast_add]; exact VLe.refl _) | exact vle_int (by omega) | exact vle_bool (by first | rfl | assumption | (simp_all; done)) | fail))
  · repeat (first | exact trivial | assumption | omega | (refine bdR_map (fun _ => ?_)) | (refine bdL_map (fun _ => ?_)) | refine ⟨?_, ?_⟩ | fail)
  · intro k_ hk_; exact ble (by repeat (first | exact rfl | refine uN (by omega) ?_ | assumption | fail))
  · intro p hp; cases hp
  · repeat (first | exact trivial | assumption | omega | (refine bdR_map (fun _ => ?_)) | (refine bdL_map (fun _ => ?_)) | refine ⟨?_, ?_⟩ | fail)
end Go.Proofs.Ytgfmjipdegkemaa
