/- Walks by the logic of values. -/
import Derived.Test.YtldlmmpniddbcaaKpVmT
import Derived.Test.YtldlmmpniddbcaaKpVmP
import Derived.Test.YtldlmmpniddbcaaKpVa
import Derived.Test.YtldlmmpniddbcaaKpVc
import Derived.Test.YtldlmmpniddbcaaKpVd
import Derived.Test.YtldlmmpniddbcaaKpVe
import Derived.Test.YtldlmmpniddbcaaKpVf
import Derived.Test.YtldlmmpniddbcaaKpVg
import Derived.Test.YtldlmmpniddbcaaKpVh
import Derived.Test.YtldlmmpniddbcaaKpVk
import Derived.Test.YtldlmmpniddbcaaKpVm
import Derived.Test.YtldlmmpniddbcaaKpVo
import Derived.Test.YtldlmmpniddbcaaKpVq
namespace Go.Proofs.Ytldlmmpniddbcaa
open Go.Vm
set_option linter.unusedVariables false
set_option linter.unusedSimpArgs false
attribute [local irreducible] Go.Vm.beB Go.Vm.fieldB
def lkQ (Q : List Im) (w : Int) : Option Im := Q.find? fun q => decide (q.1 = w)
def lkP (Q : List Im) (w : Int) : List Int := match lkQ Q w with | some q => q.2 | none => List.replicate 224 0
def lkO (Q : List Im) (w : Int) : Bool := (lkQ Q w).isSome
theorem lk_no {Q : List Im} {w : Int} (h : ∀ q ∈ Q, q.1 ≠ w) : lkQ Q w = none := by
  unfold lkQ; rw [List.find?_eq_none]; intro q hq; simpa using h q hq
theorem imat {Q : List Im} {i : Nat} (h : (i : Int) < Q.length) : Q[i]? = some (at' Q (i : Int)) := by
  rw [List.getElem?_eq_getElem (by omega), at_nat _ _ (by omega)]
theorem lk_yes {Q : List Im} {w : Int} {i : Nat} (h : ∀ q ∈ Q.take i, q.1 ≠ w) (hi : (i : Int) < Q.length) (e : (at' Q (i : Int)).1 = w) : lkQ Q w = some (at' Q (i : Int)) := by
  have h2 : Q = Q.take i ++ at' Q (i : Int) :: Q.drop (i + 1) := by
    conv => lhs; rw [← List.take_append_drop i Q]
    rw [List.drop_eq_getElem_cons (by omega), at_nat _ _ (by omega)]
  unfold lkQ
  rw [h2, List.find?_append, List.find?_eq_none.2 (fun q hq => by simpa using h q hq)]
  simp only [Option.none_or, List.find?_cons]
  rw [← h2, e, decide_eq_true rfl]
theorem lk_s {Q : List Im} {w : Int} {i : Nat} (h : ∀ q ∈ Q.take i, q.1 ≠ w) (hi : (i : Int) < Q.length) (e : ¬ (at' Q (i : Int)).1 = w) : ∀ q ∈ Q.take (i + 1), q.1 ≠ w := by
  rw [List.take_add_one, imat hi]
  intro q hq
  simp only [Option.toList, List.mem_append, List.mem_singleton] at hq
  rcases hq with hq | rfl
  · exact h q hq
  · exact e
theorem lkP_len {Q : List Im} (hQ : ∀ q ∈ Q, q.2.length = 224) (w : Int) : (lkP Q w).length = 224 := by
  unfold lkP
  split
  · rename_i q h; exact hQ q (List.mem_of_find?_eq_some h)
  · rw [List.length_replicate]
theorem lkP_byts {Q : List Im} (hQ : ∀ q ∈ Q, Byts q.2) (w : Int) : Byts (lkP Q w) := by
  unfold lkP
  split
  · rename_i q h; exact hQ q (List.mem_of_find?_eq_some h)
  · intro x hx; rw [List.eq_of_mem_replicate hx]; omega

theorem smG_at {n i : Nat} (h : i < n) : at' (smG n) (i : Int) = 10 + 3 * (i : Int) := by
  rw [at_nat _ _ (by rw [smG_len]; exact h)]
  simp [smG]
theorem smG_take {n i : Nat} (h : i ≤ n) : (smG n).take i = smG i := by
  unfold smG; rw [← List.map_take, List.take_range, Nat.min_eq_left h]
theorem smG_t {n i : Nat} (h : i < n) : (smG n).take i ++ [10 + 3 * (i : Int)] = (smG n).take (i + 1) := by
  rw [smG_take (by omega), smG_take (by omega)]; unfold smG; rw [List.range_succ]; simp
theorem nx_ok {d : Int} {n : Nat} {l : List Rc} (hd : 0 ≤ d ∧ d ≤ 6) (hn : 1 ≤ n ∧ n ≤ 4) (hl : l.length ≤ 5 * n) (hok : ∀ p ∈ l, okR p) (i : Nat) : 0 ≤ nxA (smG n) i ∧ nxA (smG n) i < 256 := by
  unfold nxA
  split
  · rename_i h; rw [smG_len] at h; rw [smG_at h]; omega
  · omega
theorem im_byts {d : Int} {n : Nat} {l : List Rc} (hd : 0 ≤ d ∧ d ≤ 6) (hn : 1 ≤ n ∧ n ≤ 4) (hl : l.length ≤ 5 * n) (hok : ∀ p ∈ l, okR p) (i : Nat) : Byts (imA d (smG n) l i).2 ∧ (imA d (smG n) l i).2.length = 224 :=
  page_byts (by omega) (nx_ok hd hn hl hok i) (by have := ptsA_len l i; omega) (ptsA_ok hok i)
theorem putL_byts {d : Int} {n : Nat} {l : List Rc} (hd : 0 ≤ d ∧ d ≤ 6) (hn : 1 ≤ n ∧ n ≤ 4) (hl : l.length ≤ 5 * n) (hok : ∀ p ∈ l, okR p) (m : Nat) : ∀ q ∈ putL d (smG n) l m, Byts q.2 ∧ q.2.length = 224 := by
  intro q hq
  obtain ⟨i, _, rfl⟩ := List.mem_map.1 hq
  exact im_byts hd hn hl hok i
theorem lk_put {d : Int} {n : Nat} {l : List Rc} (hd : 0 ≤ d ∧ d ≤ 6) (hn : 1 ≤ n ∧ n ≤ 4) (hl : l.length ≤ 5 * n) (hok : ∀ p ∈ l, okR p) {i : Nat} (hi : i < n) : lkQ (putL d (smG n) l n) (10 + 3 * (i : Int)) = some (imA d (smG n) l i) := by
  have hlen := putL_len d (smG n) l n
  have e : at' (putL d (smG n) l n) (i : Int) = imA d (smG n) l i := by
    rw [at_nat _ _ (by omega)]; simp [putL]
  rw [← e]
  refine lk_yes ?_ (by omega) (by rw [e]; exact smG_at hi)
  intro q hq
  unfold putL at hq
  rw [← List.map_take, List.take_range] at hq
  obtain ⟨j, hj, rfl⟩ := List.mem_map.1 hq
  have hj' := List.mem_range.1 hj
  show at' (smG n) (j : Int) ≠ _
  rw [smG_at (by omega)]
  omega
theorem pages_step {d : Int} {n : Nat} {l : List Rc} (hd : 0 ≤ d ∧ d ≤ 6) (hn : 1 ≤ n ∧ n ≤ 4) (hl : l.length ≤ 5 * n) (hok : ∀ p ∈ l, okR p) {i : Nat} (hi : i < n) : lkO (putL d (smG n) l n) (10 + 3 * (i : Int)) = true ∧ rOk (lkP (putL d (smG n) l n) (10 + 3 * (i : Int))) = true ∧ rDp (lkP (putL d (smG n) l n) (10 + 3 * (i : Int))) = d ∧ rNx (lkP (putL d (smG n) l n) (10 + 3 * (i : Int))) = nxA (smG n) i ∧ rRc (lkP (putL d (smG n) l n) (10 + 3 * (i : Int))) = ptsA l i := by
  have h1 := lk_put hd hn hl hok hi
  have h2 := page_back hd (nx_ok hd hn hl hok i) (show (ptsA l i).length ≤ 5 by have := ptsA_len l i; omega) (ptsA_ok hok i)
  unfold lkO lkP
  rw [h1]
  exact ⟨rfl, h2⟩
theorem pages_back {d : Int} {n : Nat} {l : List Rc} (hd : 0 ≤ d ∧ d ≤ 6) (hn : 1 ≤ n ∧ n ≤ 4) (hl : l.length ≤ 5 * n) (hok : ∀ p ∈ l, okR p) : ∀ (c i : Nat) (d0 : Int), i + c + 1 = n → (i = 0 ∨ d0 = d) → getG (lkP (putL d (smG n) l n)) (lkO (putL d (smG n) l n)) (9 - i) (10 + 3 * (i : Int)) d0 ((smG n).take i) (l.take (5 * i)) = some (d, smG n, l) := by
  intro c
  induction c with
  | zero =>
    intro i d0 hi h0
    obtain ⟨s1, s2, s0, s3, s4⟩ := pages_step hd hn hl hok (i := i) (by omega)
    have hpl := ptsA_len l i
    rw [show 9 - i = (8 - i) + 1 by omega, gg_e s1 (by rw [List.length_take, smG_len]; omega) s2 ?_ (by rw [s3]; unfold nxA; rw [if_neg (by rw [smG_len]; omega)]), s4, s0]
    · rw [smG_t (by omega), List.take_of_length_le (by rw [smG_len]; omega)]
      unfold ptsA
      rw [← List.take_add, List.take_of_length_le (by omega)]
    · rw [s4, s0, List.length_take, List.length_take, smG_len]; omega
  | succ c ih =>
    intro i d0 hi h0
    obtain ⟨s1, s2, s0, s3, s4⟩ := pages_step hd hn hl hok (i := i) (by omega)
    have hpl := ptsA_len l i
    have hnx : nxA (smG n) i = 10 + 3 * ((i + 1 : Nat) : Int) := by unfold nxA; rw [if_pos (by rw [smG_len]; omega), smG_at (by omega)]
    rw [show 9 - i = (8 - i) + 1 by omega, gg_f s1 (by rw [List.length_take, smG_len]; omega) s2 ?_ (by rw [s3, hnx]; omega), s3, s4, hnx, s0]
    · have h := ih (i + 1) d (by omega) (.inr rfl)
      rw [show 9 - (i + 1) = 8 - i by omega] at h
      rw [smG_t (by omega)]
      unfold ptsA
      rw [← List.take_add]
      exact h
    · rw [s4, s0, List.length_take, List.length_take, smG_len]; omega
theorem pages_all {d : Int} {n : Nat} {l : List Rc} (hd : 0 ≤ d ∧ d ≤ 6) (hn : 1 ≤ n ∧ n ≤ 4) (hl : l.length ≤ 5 * n) (hok : ∀ p ∈ l, okR p) : getG (lkP (putL d (smG n) l n)) (lkO (putL d (smG n) l n)) 9 10 0 [] [] = some (d, smG n, l) := by
  have h := pages_back hd hn hl hok (n - 1) 0 0 (by omega) (.inl rfl)
  simpa using h
def QQ (d : Int) (n : Nat) (l : List Rc) : List Im := putL d (smG n) l n
theorem QQ_len (d : Int) (n : Nat) (l : List Rc) : (QQ d n l).length = n := putL_len _ _ _ _
theorem put_q {d : Int} {np : Nat} {l : List Rc} (hd : 0 ≤ d ∧ d ≤ 6) (hn : 1 ≤ np ∧ np ≤ 4) (hl : l.length ≤ 5 * np) (hok : ∀ p ∈ l, okR p) : Does Try.prog 16 [.agg (bkC d (smG np) l)] [] [] (.sl 225 ((QQ d np l).map imR)) := by
  have h := put_c d (smG np) l (by rw [smG_len]; omega) (by omega) hok
  rw [smG_len] at h
  exact h
theorem QQ_at {d : Int} {np : Nat} {l : List Rc} {u : Nat} (hu : (u : Int) < np) : at' (QQ d np l) (u : Int) = imA d (smG np) l u := by
  have := QQ_len d np l
  rw [at_nat _ _ (by omega)]; simp [QQ, putL]
theorem QQ_1 {d : Int} {np : Nat} {l : List Rc} {u : Nat} (hu : (u : Int) < np) : ((imR (at' (QQ d np l) (u : Int))).drop 0)[0]? = some (V.sc (.int .i64 (at' (smG np) (u : Int)))) := by
  rw [QQ_at hu]; rfl
theorem QQ_2 {d : Int} {np : Nat} {l : List Rc} {u : Nat} (hu : (u : Int) < np) {nx : Int} (hx : nxA (smG np) u = nx) : (imR (at' (QQ d np l) (u : Int))).drop 1 = (padP (pgP d nx (ptsA l u) (ptsA l u).length)).map bV := by
  rw [QQ_at hu, ← hx]; rfl
theorem cut_c (l : List Rc) (u : Nat) : ((l.map rcC).take (min (5 * u + 5) l.length)).drop (min (5 * u) l.length) = (ptsA l u).map rcC := by
  rw [← List.map_take, ← List.map_drop]
  congr 1
  unfold ptsA
  rw [List.drop_take]
  rcases Nat.lt_or_ge l.length (5 * u) with h | h
  · rw [List.drop_eq_nil_of_le (by omega : l.length ≤ min (5 * u) l.length), List.drop_eq_nil_of_le (by omega : l.length ≤ 5 * u)]; simp
  · rw [show min (5 * u) l.length = 5 * u by omega, List.take_eq_take_iff, List.length_drop]; omega
set_option maxRecDepth 100000 in
set_option maxHeartbeats 4000000 in
theorem at19 (w_ : Int) (kk : Nat) (Q : List Im) (hQ : ∀ q ∈ Q, q.2.length = 224) (hQl : Q.length ≤ 1000) : Does Try.prog 19 [.sc (.int .i64 w_), .ref kk 0] [(kk, .cells [.sl 225 (Q.map imR)])] [] (.tup [.agg ((lkP Q w_).map bV), .sc (.bool (lkO Q w_))]) := by
  refine does_mkg 40 Try.func19 rfl rfl rfl (fun n B bx hd hpre hup hvs hbx hgx => ?_)
  have hp0 := hpre.1
  have hk0 := lt_cells hd hp0
  refine runs_seq ?_
  refine runs_region ?_
  refine rl1 (gn rfl) rfl rfl (step_allocc (k := n + 0) (zs := (List.replicate 224 (.int .u8 0))) (cs := List.replicate 224 (.sc (.int .u8 0))) rfl F.zero39 (by first | rfl | simp) (by first | rfl | decide | simp) (by first | rfl | simp)) ⟨by repeat (first | exact uE | refine uN (by omega) ?_ | assumption | exact hd _ (by omega) | fail), trivial⟩ (by omega) ?_
  refine rl0 (gn rfl) rfl rfl (step_as rfl rfl) trivial ?_
  refine runsL_nil ?_
  refine runs_seq ?_
  refine runs_seq ?_
  refine runs_region ?_
  refine rl0 (gn rfl) rfl rfl (step_as rfl rfl) trivial ?_
  refine runsL_nil ?_
  refine runs_block ?_
  refine runs_loop (fun (ri_ : Nat) (st_ : Go.Vm.S) => ∃ (i : Nat) (m0 : Nat) (b0 : Nat → Box), (st_ = ⟨mk [(0, .sc (.int .i64 w_)), (1, .ref kk 0), (3, .ref (n + 0) 0), (4, .sc (.bool false)), (5, .sc (.int .i64 (i : Int)))], m0, b0⟩) ∧ (ri_ = 1 + (Q.length - i)) ∧ (n + 1 ≤ m0) ∧ (∀ k_, k_ < n → b0 k_ = bx k_) ∧ (b0 kk = .cells [.sl 225 (Q.map imR)]) ∧ (b0 (n + 0) = .cells (List.replicate 224 (.sc (.int .u8 0)))) ∧ (i ≤ Q.length) ∧ (∀ q ∈ Q.take i, q.1 ≠ w_)) (1 + (Q.length - 0)) ⟨_, sle ?_ (Nat.le_refl _), 0, _, _, rfl, rfl, ?_⟩ ?_
  · (repeat' (first | exact trivial | refine ⟨⟨_, rfl, ?_⟩, ?_⟩ | fail)); all_goals (repeat' (first | exact VLe.refl _ | exact VLe.own_sl _ _ _ | exact VLe.fl_sl _ _ | exact VLe.nil_sl _ | exact VLe.nil_fl _ | exact VLes.refl _ | exact .nil | refine VLe.tup ?_ | refine VLe.agg ?_ | refine .cons ?_ ?_ | (rw [Int.natCast_add]; exact VLe.refl _) | exact vle_int (by omega) | exact vle_bool (by first | rfl | assumption | (simp_all; done) | fail) | fail))
  · exact ⟨by omega, (fun k_ hk_ => by repeat (first | exact rfl | refine uN (by omega) ?_ | assumption | fail)), by first | ((repeat (first | exact uE | assumption | refine uN (by omega) ?_ | fail)); done) | exact tl_eq (by repeat (first | exact uE | assumption | refine uN (by omega) ?_ | fail)) (by first | rfl | (simp [bytesV, beB_len]; done) | (simp [bytesV, beB_len]; omega) | omega), by first | ((repeat (first | exact uE | assumption | refine uN (by omega) ?_ | fail)); done) | exact tl_eq (by repeat (first | exact uE | assumption | refine uN (by omega) ?_ | fail)) (by first | rfl | (simp [bytesV, beB_len]; done) | (simp [bytesV, beB_len]; omega) | omega), by omega, by simp⟩
  · rintro _ _ ⟨i, m0, b0, rfl, rfl, hm0, hf0, hB0_0, hB0_1, hF0_0, hF0_1⟩
    refine runs_know (fun hd0 => ?_)
    refine runs_bump 20 ?_
    simp only at hd0
    refine runs_seq ?_
    refine runs_seq ?_
    refine runs_region ?_
    refine rl0 (gn rfl) rfl rfl (step_mv rfl rfl) trivial ?_
    refine' rl0 (gn rfl) rfl rfl (step_load_one rfl (ev_mk rfl) F.one37 ?hv) ⟨?hb, trivial⟩ ?_
    case hb => repeat (first | exact uE | refine uN (by omega) ?_ | assumption | exact hd _ (by omega) | exact hd0 _ (by omega) | fail)
    case hv => rfl
    refine rl0 (gn rfl) rfl rfl (step_len (m := Q.length) rfl rfl (ev_mk rfl) (.inl ⟨⟨_, Try.underlying37⟩, .inl ⟨_, _, .inl rfl, List.length_map _⟩⟩)) trivial ?_
    refine rl_lss (gn rfl) rfl rfl rfl rfl rfl (fun h1 => ?_) (fun h1 => ?_)
    · skip
      refine runsL_nil ?_
      refine runs_cond true (ev_mk rfl) (fun _ => ?_) (fun h_ => nomatch h_)
      refine runs_skip ?_
      refine runs_seq ?_
      refine runs_block ?_
      refine runs_seq ?_
      refine runs_region ?_
      refine' rl0 (gn rfl) rfl rfl (step_load_one rfl (ev_mk rfl) F.one37 ?hv) ⟨?hb, trivial⟩ ?_
      case hb => repeat (first | exact uE | refine uN (by omega) ?_ | assumption | exact hd _ (by omega) | exact hd0 _ (by omega) | fail)
      case hv => rfl
      refine rl0 (gn rfl) rfl rfl (step_mv rfl rfl) trivial ?_
      refine' rl0 (gn rfl) rfl rfl (step_index rfl (ev_mk rfl) (.inl rfl) (ev_mk rfl) Try.underlying37 F.sz41 (by omega) ?hr) trivial ?_
      case hr => exact map_at _ _ _ (by omega) (by omega)
      refine rl0 (gn rfl) rfl rfl (step_fieldAddr_ro (off := 0) rfl (ev_mk rfl) Try.underlying41 rfl F.sz3 rfl rfl) trivial ?_
      refine rl0 (gn rfl) rfl rfl (step_load_ro (v := .sc (.int .i64 (at' Q (i : Int)).1)) rfl (ev_mk rfl) F.one3 rfl) trivial ?_
      refine rl0 (gn rfl) rfl rfl (step_mv rfl rfl) trivial ?_
      refine rl_eql (gn rfl) rfl rfl rfl rfl rfl (fun h2 => ?_) (fun h2 => ?_)
      · skip
        have hly_ := lk_yes hF0_1 (by omega) (by assumption)
        have hlp_ : lkP Q w_ = (at' Q (i : Int)).2 := by unfold lkP; rw [hly_]
        have hlo_ : true = lkO Q w_ := by unfold lkO; rw [hly_]; rfl
        have hql_ := hQ _ (List.mem_of_getElem? (imat (show (i : Int) < Q.length by omega)))
        refine runsL_nil ?_
        refine runs_cond true (ev_mk rfl) (fun _ => ?_) (fun h_ => nomatch h_)
        refine runs_seq ?_
        refine runs_region ?_
        refine' rl0 (gn rfl) rfl rfl (step_load_one rfl (ev_mk rfl) F.one37 ?hv) ⟨?hb, trivial⟩ ?_
        case hb => repeat (first | exact uE | refine uN (by omega) ?_ | assumption | exact hd _ (by omega) | exact hd0 _ (by omega) | fail)
        case hv => rfl
        refine rl0 (gn rfl) rfl rfl (step_mv rfl rfl) trivial ?_
        refine' rl0 (gn rfl) rfl rfl (step_index rfl (ev_mk rfl) (.inl rfl) (ev_mk rfl) Try.underlying37 F.sz41 (by omega) ?hr) trivial ?_
        case hr => exact map_at _ _ _ (by omega) (by omega)
        refine rl0 (gn rfl) rfl rfl (step_fieldAddr_ro (off := 1) rfl (ev_mk rfl) Try.underlying41 rfl F.sz39 rfl rfl) trivial ?_
        refine rl0 (gn rfl) rfl rfl (step_load_ro_all rfl rfl F.agg39 (by first | rfl | (simp; done) | (first | (simp; done) | (show ((at' Q (i : Int)).2.map bV).length = 224; rw [List.length_map]; exact hql_)))) trivial ?_
        refine' rls (gn rfl) rfl (step_storeA rfl rfl rfl rfl F.agg39 ?hm ?hl) ⟨?hb, trivial⟩ ?hk ?_
        case hb => repeat (first | exact uE | refine uN (by omega) ?_ | assumption | exact hd _ (by omega) | exact hd0 _ (by omega) | fail)
        case hm => first | rfl | (simp; done) | (first | (simp; done) | (show ((at' Q (i : Int)).2.map bV).length = 224; rw [List.length_map]; exact hql_))
        case hl => first | rfl | (simp; done) | (first | (simp; done) | (show ((at' Q (i : Int)).2.map bV).length = 224; rw [List.length_map]; exact hql_))
        case hk => omega
        refine rl0 (gn rfl) rfl rfl (step_as rfl rfl) trivial ?_
        refine runsL_nil ?_
        refine runs_ret ?_
        refine ⟨by first | exact .inr rfl | exact .inl rfl, fin_mkg (resc rfl (by repeat (first | exact uE | refine uN (by omega) ?_ | assumption | exact hd _ (by omega) | exact hd0 _ (by omega) | fail)) F.agg39 (by first | rfl | (simp; done) | (first | (simp; done) | (show ((at' Q (i : Int)).2.map bV).length = 224; rw [List.length_map]; exact hql_))) (rest rfl res0)) ?_ ?_ ?_ ?_ ?_⟩
        · (repeat' (first | exact VLe.refl _ | exact VLe.own_sl _ _ _ | exact VLe.fl_sl _ _ | exact VLe.nil_sl _ | exact VLe.nil_fl _ | exact VLes.refl _ | exact .nil | refine VLe.tup ?_ | refine VLe.agg ?_ | refine .cons ?_ ?_ | (rw [Int.natCast_add]; exact VLe.refl _) | exact vle_int (by omega) | exact vle_bool (by first | rfl | assumption | (simp_all; done) | fail) | ((rw [hlp_]; exact VLes.refl _)) | ((rw [hlp_, List.map_replicate]; exact VLes.refl _)) | (exact vle_bool (by assumption)) | fail))
        · repeat (first | exact trivial | assumption | omega | (refine bdR_map (fun _ => ?_)) | (refine bdL_map (fun _ => ?_)) | refine ⟨?_, ?_⟩ | fail)
        · intro k_ hk_; exact ble (by repeat (first | exact rfl | refine uN (by omega) ?_ | assumption | exact hf0 _ (by omega) | fail))
        · intro p hp; cases hp
        · repeat (first | exact trivial | assumption | omega | (refine bdR_map (fun _ => ?_)) | (refine bdL_map (fun _ => ?_)) | refine ⟨?_, ?_⟩ | fail)
      · skip
        have hno_ := lk_s hF0_1 (by omega) (by assumption)
        refine runsL_nil ?_
        refine runs_cond false (ev_mk rfl) (fun h_ => nomatch h_) (fun _ => ?_)
        refine runs_skip ?_
        refine runs_region ?_
        refine rl0 (gn rfl) rfl rfl (step_mv rfl rfl) trivial ?_
        refine rl0 (gn rfl) rfl rfl (step_add rfl (ev_mk rfl) (ev_mk rfl) (w64 (by omega))) trivial ?_
        refine rl0 (gn rfl) rfl rfl (step_as rfl rfl) trivial ?_
        refine runsL_nil ?_
        refine ⟨_, _, ?_, sle ?_ (Nat.le_refl _), (i + 1), _, _, rfl, rfl, by omega, (fun k_ hk_ => by repeat (first | exact hf0 k_ hk_ | refine uN (by first | assumption | omega) ?_ | fail)), by first | ((repeat (first | exact uE | assumption | refine uN (by omega) ?_ | fail)); done) | exact tl_eq (by repeat (first | exact uE | assumption | refine uN (by omega) ?_ | fail)) (by first | rfl | (simp [bytesV, beB_len]; done) | (simp [bytesV, beB_len]; omega) | omega), by first | ((repeat (first | exact uE | assumption | refine uN (by omega) ?_ | fail)); done) | exact tl_eq (by repeat (first | exact uE | assumption | refine uN (by omega) ?_ | fail)) (by first | rfl | (simp [bytesV, beB_len]; done) | (simp [bytesV, beB_len]; omega) | omega), by omega, hno_⟩
        · omega
        · (repeat' (first | exact trivial | refine ⟨⟨_, rfl, ?_⟩, ?_⟩ | fail)); all_goals (repeat' (first | exact VLe.refl _ | exact VLe.own_sl _ _ _ | exact VLe.fl_sl _ _ | exact VLe.nil_sl _ | exact VLe.nil_fl _ | exact VLes.refl _ | exact .nil | refine VLe.tup ?_ | refine VLe.agg ?_ | refine .cons ?_ ?_ | (rw [Int.natCast_add]; exact VLe.refl _) | exact vle_int (by omega) | exact vle_bool (by first | rfl | assumption | (simp_all; done) | fail) | fail))
    · skip
      obtain rfl : i = Q.length := by omega
      have hly_ := lk_no (Q := Q) (w := w_) (by simpa using hF0_1)
      have hlp_ : lkP Q w_ = List.replicate 224 0 := by unfold lkP; rw [hly_]
      have hlo_ : false = lkO Q w_ := by unfold lkO; rw [hly_]; rfl
      refine runsL_nil ?_
      refine runs_cond false (ev_mk rfl) (fun h_ => nomatch h_) (fun _ => ?_)
      refine runs_exit ?_
      refine runs_seq ?_
      refine runs_region ?_
      refine rl0 (gn rfl) rfl rfl (step_build_zero rfl rfl Try.underlying39 F.sz5 F.zero39 rfl) trivial ?_
      refine' rls (gn rfl) rfl (step_storeA rfl rfl rfl rfl F.agg39 ?hm ?hl) ⟨?hb, trivial⟩ ?hk ?_
      case hb => repeat (first | exact uE | refine uN (by omega) ?_ | assumption | exact hd _ (by omega) | exact hd0 _ (by omega) | fail)
      case hm => first | rfl | (simp; done) | (first | (simp; done) | (show ((at' Q (i : Int)).2.map bV).length = 224; rw [List.length_map]; exact hql_))
      case hl => first | rfl | (simp; done) | (first | (simp; done) | (show ((at' Q (i : Int)).2.map bV).length = 224; rw [List.length_map]; exact hql_))
      case hk => omega
      refine rl0 (gn rfl) rfl rfl (step_as rfl rfl) trivial ?_
      refine runsL_nil ?_
      refine runs_ret ?_
      refine ⟨by first | exact .inr rfl | exact .inl rfl, fin_mkg (resc rfl (by repeat (first | exact uE | refine uN (by omega) ?_ | assumption | exact hd _ (by omega) | exact hd0 _ (by omega) | fail)) F.agg39 (by first | rfl | (simp; done) | (first | (simp; done) | (show ((at' Q (i : Int)).2.map bV).length = 224; rw [List.length_map]; exact hql_))) (rest rfl res0)) ?_ ?_ ?_ ?_ ?_⟩
      · (repeat' (first | exact VLe.refl _ | exact VLe.own_sl _ _ _ | exact VLe.fl_sl _ _ | exact VLe.nil_sl _ | exact VLe.nil_fl _ | exact VLes.refl _ | exact .nil | refine VLe.tup ?_ | refine VLe.agg ?_ | refine .cons ?_ ?_ | (rw [Int.natCast_add]; exact VLe.refl _) | exact vle_int (by omega) | exact vle_bool (by first | rfl | assumption | (simp_all; done) | fail) | ((rw [hlp_]; exact VLes.refl _)) | ((rw [hlp_, List.map_replicate]; exact VLes.refl _)) | (exact vle_bool (by assumption)) | fail))
      · repeat (first | exact trivial | assumption | omega | (refine bdR_map (fun _ => ?_)) | (refine bdL_map (fun _ => ?_)) | refine ⟨?_, ?_⟩ | fail)
      · intro k_ hk_; exact ble (by repeat (first | exact rfl | refine uN (by omega) ?_ | assumption | exact hf0 _ (by omega) | fail))
      · intro p hp; cases hp
      · repeat (first | exact trivial | assumption | omega | (refine bdR_map (fun _ => ?_)) | (refine bdL_map (fun _ => ?_)) | refine ⟨?_, ?_⟩ | fail)
set_option maxRecDepth 100000 in
set_option maxHeartbeats 4000000 in
theorem pages_l (w0 w : Int) (np : Nat) (hwb0 : 0 ≤ w0 ∧ w0 < 256) (hwb : 0 ≤ w ∧ w < 256) (hnp : (np : Int) = 1 + w % 4) (l : List Op) (hll : (l.length : Int) ≤ 9223372036854775807) (hok : ∀ o ∈ l, okRc o.r) (hw : Does Try.prog 8 [] [] [] (.sc (.bool true))) (hl : ligF l = false) : Does Try.prog 4 [.sc (.int .u8 w0), .sc (.int .u8 w), .sl 7 (l.map opC)] [] [] (.sc (.bool true)) := by
  refine does_mkg 40 Try.func4 rfl rfl rfl (fun n B bx hd hpre hup hvs hbx hgx => ?_)
  refine runs_seq ?_
  refine runs_region ?_
  refine rl0 (gn rfl) rfl rfl (step_as rfl rfl) trivial ?_
  refine runsL_nil ?_
  refine runs_seq ?_
  refine runs_seq ?_
  refine runs_region ?_
  refine rl0 (gn rfl) rfl rfl (step_mv rfl rfl) trivial ?_
  refine rl0 (gn rfl) rfl rfl (step_callc rfl Try.func7 rfl rfl rfl (light_c l hll) (by repeat (first | exact .nil | refine .cons ?_ ?_ | exact VLe.refl _ | exact VLe.own_sl _ _ _ | exact VLe.fl_sl _ _ | exact VLe.nil_sl _ | exact VLe.nil_fl _ | refine VLe.agg ?_))) trivial ?_
  refine rl_know (d := 19) (c := false) rfl (hl) ?_
  refine rl0 (gn rfl) rfl rfl (step_unOp (c := .bool true) rfl (ev_mk rfl) (fun _ => rfl)) trivial ?_
  refine runsL_nil ?_
  refine runs_cond true (ev_mk rfl) (fun _ => ?_) (fun h_ => nomatch h_)
  refine runs_seq ?_
  refine runs_region ?_
  refine rl0 (gn rfl) rfl rfl (step_callc rfl Try.func8 rfl rfl rfl (hw) (by repeat (first | exact .nil | refine .cons ?_ ?_ | exact VLe.refl _ | exact VLe.own_sl _ _ _ | exact VLe.fl_sl _ _ | exact VLe.nil_sl _ | exact VLe.nil_fl _ | refine VLe.agg ?_))) trivial ?_
  refine rl0 (gn rfl) rfl rfl (step_as rfl rfl) trivial ?_
  refine runsL_nil ?_
  refine runs_ret ?_
  refine ⟨by first | exact .inr rfl | exact .inl rfl, fin_mkg (rest rfl res0) ?_ ?_ ?_ ?_ ?_⟩
  · (repeat' (first | exact VLe.refl _ | exact VLe.own_sl _ _ _ | exact VLe.fl_sl _ _ | exact VLe.nil_sl _ | exact VLe.nil_fl _ | exact VLes.refl _ | exact .nil | refine VLe.tup ?_ | refine VLe.agg ?_ | refine .cons ?_ ?_ | (rw [Int.natCast_add]; exact VLe.refl _) | exact vle_int (by omega) | exact vle_bool (by first | rfl | assumption | (simp_all; done) | fail) | fail))
  · repeat (first | exact trivial | assumption | omega | (refine bdR_map (fun _ => ?_)) | (refine bdL_map (fun _ => ?_)) | refine ⟨?_, ?_⟩ | fail)
  · intro k_ hk_; exact ble (by repeat (first | exact rfl | refine uN (by omega) ?_ | assumption | fail))
  · intro p hp; cases hp
  · repeat (first | exact trivial | assumption | omega | (refine bdR_map (fun _ => ?_)) | (refine bdL_map (fun _ => ?_)) | refine ⟨?_, ?_⟩ | fail)
set_option maxRecDepth 100000 in
set_option maxHeartbeats 4000000 in
theorem pages_c (w0 w : Int) (np : Nat) (hwb0 : 0 ≤ w0 ∧ w0 < 256) (hwb : 0 ≤ w ∧ w < 256) (hnp : (np : Int) = 1 + w % 4) (l : List Op) (hll : (l.length : Int) ≤ 9223372036854775807) (hok : ∀ o ∈ l, okRc o.r) (hw : Does Try.prog 8 [] [] [] (.sc (.bool true))) (hl : ligF l = true) : Does Try.prog 4 [.sc (.int .u8 w0), .sc (.int .u8 w), .sl 7 (l.map opC)] [] [] (.sc (.bool true)) := by
  refine does_mkg 40 Try.func4 rfl rfl rfl (fun n B bx hd hpre hup hvs hbx hgx => ?_)
  have hl60 := lig_len hl
  have hml : (mdF (smG np).length l).length ≤ l.length := md_len (smG np).length l l.length (by omega)
  have hgl := smG_len np
  have hd6 : 0 ≤ (w0 % 7) ∧ (w0 % 7) ≤ 6 := by omega
  have hn4 : 1 ≤ np ∧ np ≤ 4 := by omega
  have hm5 : (mdF (smG np).length l).length ≤ 5 * np := by have h_ := (inv_md (smG np).length l l.length (by omega)).len; rw [smG_len] at h_ ⊢; exact h_
  have hmo : ∀ r ∈ (mdF (smG np).length l), okR r := ok_md hok
  have hQn := QQ_len (w0 % 7) np (mdF (smG np).length l)
  have hQo : ∀ q ∈ (QQ (w0 % 7) np (mdF (smG np).length l)), Byts q.2 ∧ q.2.length = 224 := putL_byts hd6 hn4 hm5 hmo np
  refine runs_seq ?_
  refine runs_region ?_
  refine rl0 (gn rfl) rfl rfl (step_as rfl rfl) trivial ?_
  refine runsL_nil ?_
  refine runs_seq ?_
  refine runs_seq ?_
  refine runs_region ?_
  refine rl0 (gn rfl) rfl rfl (step_mv rfl rfl) trivial ?_
  refine rl0 (gn rfl) rfl rfl (step_callc rfl Try.func7 rfl rfl rfl (light_c l hll) (by repeat (first | exact .nil | refine .cons ?_ ?_ | exact VLe.refl _ | exact VLe.own_sl _ _ _ | exact VLe.fl_sl _ _ | exact VLe.nil_sl _ | exact VLe.nil_fl _ | refine VLe.agg ?_))) trivial ?_
  refine rl_know (d := 19) (c := true) rfl (hl) ?_
  refine rl0 (gn rfl) rfl rfl (step_unOp (c := .bool false) rfl (ev_mk rfl) (fun _ => rfl)) trivial ?_
  refine runsL_nil ?_
  refine runs_cond false (ev_mk rfl) (fun h_ => nomatch h_) (fun _ => ?_)
  refine runs_skip ?_
  refine runs_seq ?_
  refine runs_region ?_
  refine rl0 (gn rfl) rfl rfl (step_mv rfl rfl) trivial ?_
  refine rl0 (gn rfl) rfl rfl (step_conv_id rfl rfl Try.underlying5 Try.underlying3 (w64 (by omega))) trivial ?_
  refine rl0 (gn rfl) rfl rfl (step_rem rfl (ev_mk rfl) (ev_mk rfl) (by omega) (by omega)) trivial ?_
  refine rl0 (gn rfl) rfl rfl (step_as rfl rfl) trivial ?_
  refine runsL_nil ?_
  refine runs_seq ?_
  refine runs_region ?_
  refine rl0 (gn rfl) rfl rfl (step_mv rfl rfl) trivial ?_
  refine rl0 (gn rfl) rfl rfl (step_mv rfl rfl) trivial ?_
  refine rl0 (gn rfl) rfl rfl (step_callc rfl Try.func10 rfl rfl rfl (small_c w np hwb hnp) (by repeat (first | exact .nil | refine .cons ?_ ?_ | exact VLe.refl _ | exact VLe.own_sl _ _ _ | exact VLe.fl_sl _ _ | exact VLe.nil_sl _ | exact VLe.nil_fl _ | refine VLe.agg ?_))) trivial ?_
  refine rl0 (gn rfl) rfl rfl (step_build (ss := [1, 1, 1]) (zs := [.int .i64 0, .slice none 0 0, .slice none 0 0]) rfl Try.underlying29 (by kernel_rfl) F.zero29 rfl rfl rfl) trivial ?_
  refine rl0 (gn rfl) rfl rfl (step_mv rfl rfl) trivial ?_
  refine rl0 (gn rfl) rfl rfl (step_callc rfl Try.func9 rfl rfl rfl (made_c (w0 % 7) (smG np) (by omega) l hl60) (by repeat (first | exact .nil | refine .cons ?_ ?_ | exact VLe.refl _ | exact VLe.own_sl _ _ _ | exact VLe.fl_sl _ _ | exact VLe.nil_sl _ | exact VLe.nil_fl _ | refine VLe.agg ?_))) trivial ?_
  refine rl0 (gn rfl) rfl rfl (step_mv rfl rfl) trivial ?_
  refine rl0 (gn rfl) rfl rfl (step_extract rfl (ev_mk rfl) rfl) trivial ?_
  refine rl0 (gn rfl) rfl rfl (step_extract rfl (ev_mk rfl) rfl) trivial ?_
  refine rl0 (gn rfl) rfl rfl (step_extract rfl (ev_mk rfl) rfl) trivial ?_
  refine rl1 (gn rfl) rfl rfl (step_allocc (k := n + 0) (zs := [.int .i64 0, .slice none 0 0, .slice none 0 0]) (cs := [.sc (.int .i64 0), .sc (.slice none 0 0), .sc (.slice none 0 0)]) rfl F.zero29 (by first | rfl | simp) (by first | rfl | decide | simp) (by first | rfl | simp)) ⟨by repeat (first | exact uE | refine uN (by omega) ?_ | assumption | exact hd _ (by omega) | fail), trivial⟩ (by omega) ?_
  refine' rls (gn rfl) rfl (step_storeA rfl rfl rfl rfl F.agg29 ?hm ?hl) ⟨?hb, trivial⟩ ?hk ?_
  case hb => repeat (first | exact uE | refine uN (by omega) ?_ | assumption | exact hd _ (by omega) | fail)
  case hm => first | rfl | (simp; done) | (first | (simp; done) | (show ((at' (QQ (w0 % 7) np (mdF (smG np).length l)) (u : Int)).2.map bV).length = 224; rw [List.length_map]; exact hqu_))
  case hl => first | rfl | (simp; done) | (first | (simp; done) | (show ((at' (QQ (w0 % 7) np (mdF (smG np).length l)) (u : Int)).2.map bV).length = 224; rw [List.length_map]; exact hqu_))
  case hk => omega
  refine rl0 (gn rfl) rfl rfl (step_as rfl rfl) trivial ?_
  refine rl0 (gn rfl) rfl rfl (step_as rfl rfl) trivial ?_
  refine runsL_nil ?_
  refine runs_seq ?_
  refine runs_seq ?_
  refine runs_region ?_
  refine rl0 (gn rfl) rfl rfl (step_mv rfl rfl) trivial ?_
  refine rl0 (gn rfl) rfl rfl (step_unOp (c := .bool false) rfl (ev_mk rfl) (fun _ => rfl)) trivial ?_
  refine runsL_nil ?_
  refine runs_cond false (ev_mk rfl) (fun h_ => nomatch h_) (fun _ => ?_)
  refine runs_skip ?_
  refine runs_seq ?_
  refine runs_region ?_
  refine' rl0 (gn rfl) rfl rfl (step_load_all rfl rfl F.agg29 ?hl) ⟨?hb, trivial⟩ ?_
  case hb => repeat (first | exact uE | refine uN (by omega) ?_ | assumption | exact hd _ (by omega) | fail)
  case hl => first | rfl | (simp; done) | (first | (simp; done) | (show ((at' (QQ (w0 % 7) np (mdF (smG np).length l)) (u : Int)).2.map bV).length = 224; rw [List.length_map]; exact hqu_))
  refine rl0 (gn rfl) rfl rfl (step_callc rfl Try.func16 rfl rfl rfl (put_q (d := (w0 % 7)) (np := np) (l := (mdF (smG np).length l)) hd6 hn4 hm5 hmo) (by repeat (first | exact .nil | refine .cons ?_ ?_ | exact VLe.refl _ | exact VLe.own_sl _ _ _ | exact VLe.fl_sl _ _ | exact VLe.nil_sl _ | exact VLe.nil_fl _ | refine VLe.agg ?_))) trivial ?_
  refine rl1 (gn rfl) rfl rfl (step_allocc (k := n + 1) (zs := [.slice none 0 0]) (cs := [.sc (.slice none 0 0)]) rfl F.zero37 (by first | rfl | simp) (by first | rfl | decide | simp) (by first | rfl | simp)) ⟨by repeat (first | exact uE | refine uN (by omega) ?_ | assumption | exact hd _ (by omega) | fail), trivial⟩ (by omega) ?_
  refine' rls (gn rfl) rfl (step_store1 rfl rfl rfl rfl F.one37 rfl rfl ?hl ?hc) ⟨?hb, trivial⟩ ?hk ?_
  case hb => repeat (first | exact uE | refine uN (by omega) ?_ | assumption | exact hd _ (by omega) | fail)
  case hl => first | exact Nat.le_of_ble_eq_true rfl | decide | (simp; done) | (simp; omega) | (first | (simp; done) | (show ((at' (QQ (w0 % 7) np (mdF (smG np).length l)) (u : Int)).2.map bV).length = 224; rw [List.length_map]; exact hqu_))
  case hc => first | (simp only [List.set_cons_succ, List.set_cons_zero]; rfl) | rfl
  case hk => omega
  refine runsL_nil ?_
  refine runs_seq ?_
  refine runs_seq ?_
  refine runs_region ?_
  refine' rl0 (gn rfl) rfl rfl (step_load_one rfl (ev_mk rfl) F.one37 ?hv) ⟨?hb, trivial⟩ ?_
  case hb => repeat (first | exact uE | refine uN (by omega) ?_ | assumption | exact hd _ (by omega) | fail)
  case hv => rfl
  refine rl0 (gn rfl) rfl rfl (step_len (m := np) rfl rfl (ev_mk rfl) (.inl ⟨⟨_, Try.underlying37⟩, .inl ⟨_, _, .inl rfl, by rw [List.length_map, QQ_len]⟩⟩)) trivial ?_
  refine rl0 (gn rfl) rfl rfl (step_fieldAddr (off := 1) rfl (ev_mk rfl) Try.underlying29 rfl F.sz26 rfl) trivial ?_
  refine' rl0 (gn rfl) rfl rfl (step_load_one rfl (ev_mk rfl) F.one26 ?hv) ⟨?hb, trivial⟩ ?_
  case hb => repeat (first | exact uE | refine uN (by omega) ?_ | assumption | exact hd _ (by omega) | fail)
  case hv => rfl
  refine rl0 (gn rfl) rfl rfl (step_len (m := np) rfl rfl (ev_mk rfl) (.inl ⟨⟨_, Try.underlying26⟩, .inl ⟨_, _, .inl rfl, by rw [List.length_map, smG_len]⟩⟩)) trivial ?_
  refine rl_neq (gn rfl) rfl rfl rfl rfl rfl (fun h1 => ?_) (fun h1 => ?_)
  · exact False.elim (by exact h1 rfl)
  refine runsL_nil ?_
  refine runs_cond false (ev_mk rfl) (fun h_ => nomatch h_) (fun _ => ?_)
  refine runs_skip ?_
  refine runs_seq ?_
  refine runs_seq ?_
  refine runs_region ?_
  refine rl0 (gn rfl) rfl rfl (step_as rfl rfl) trivial ?_
  refine runsL_nil ?_
  refine runs_block ?_
  refine runs_loop (fun (ri_ : Nat) (st_ : Go.Vm.S) => ∃ (u : Nat) (m0 : Nat) (b0 : Nat → Box), (st_ = ⟨mk [(6, .sc (.bool false)), (7, .sc (.int .i64 (w0 % 7))), (8, .ref (n + 0) 0), (9, .sl 6 ((mdF (smG np).length l).map rcC)), (11, .ref (n + 1) 0), (12, .sc (.int .i64 (u : Int)))], m0, b0⟩) ∧ (ri_ = 1 + (np - u)) ∧ (n + 2 ≤ m0) ∧ (∀ k_, k_ < n → b0 k_ = bx k_) ∧ (b0 (n + 0) = .cells [.sc (.int .i64 (w0 % 7)), .sl 1 ((smG np).map iR), .sl 6 ((mdF (smG np).length l).map rcC)]) ∧ (b0 (n + 1) = .cells [.sl 225 ((QQ (w0 % 7) np (mdF (smG np).length l)).map imR)]) ∧ (u ≤ np)) (1 + (np - 0)) ⟨_, sle ?_ (Nat.le_refl _), 0, _, _, rfl, rfl, ?_⟩ ?_
  · (repeat' (first | exact trivial | refine ⟨⟨_, rfl, ?_⟩, ?_⟩ | fail)); all_goals (repeat' (first | exact VLe.refl _ | exact VLe.own_sl _ _ _ | exact VLe.fl_sl _ _ | exact VLe.nil_sl _ | exact VLe.nil_fl _ | exact VLes.refl _ | exact .nil | refine VLe.tup ?_ | refine VLe.agg ?_ | refine .cons ?_ ?_ | (rw [Int.natCast_add]; exact VLe.refl _) | exact vle_int (by omega) | exact vle_bool (by first | rfl | assumption | (simp_all; done) | fail) | fail))
  · exact ⟨by omega, (fun k_ hk_ => by repeat (first | exact rfl | refine uN (by omega) ?_ | assumption | fail)), by first | ((repeat (first | exact uE | assumption | refine uN (by omega) ?_ | fail)); done) | exact tl_eq (by repeat (first | exact uE | assumption | refine uN (by omega) ?_ | fail)) (by first | rfl | (simp [bytesV, beB_len]; done) | (simp [bytesV, beB_len]; omega) | omega), by first | ((repeat (first | exact uE | assumption | refine uN (by omega) ?_ | fail)); done) | exact tl_eq (by repeat (first | exact uE | assumption | refine uN (by omega) ?_ | fail)) (by first | rfl | (simp [bytesV, beB_len]; done) | (simp [bytesV, beB_len]; omega) | omega), by omega⟩
  · rintro _ _ ⟨u, m0, b0, rfl, rfl, hm0, hf0, hB0_0, hB0_1, hF0_0⟩
    refine runs_know (fun hd0 => ?_)
    refine runs_bump 20 ?_
    simp only at hd0
    refine runs_seq ?_
    refine runs_seq ?_
    refine runs_region ?_
    refine rl0 (gn rfl) rfl rfl (step_mv rfl rfl) trivial ?_
    refine' rl0 (gn rfl) rfl rfl (step_load_one rfl (ev_mk rfl) F.one37 ?hv) ⟨?hb, trivial⟩ ?_
    case hb => repeat (first | exact uE | refine uN (by omega) ?_ | assumption | exact hd _ (by omega) | exact hd0 _ (by omega) | fail)
    case hv => rfl
    refine rl0 (gn rfl) rfl rfl (step_len (m := np) rfl rfl (ev_mk rfl) (.inl ⟨⟨_, Try.underlying37⟩, .inl ⟨_, _, .inl rfl, by rw [List.length_map, QQ_len]⟩⟩)) trivial ?_
    refine rl_lss (gn rfl) rfl rfl rfl rfl rfl (fun h2 => ?_) (fun h2 => ?_)
    · skip
      refine runsL_nil ?_
      refine runs_cond true (ev_mk rfl) (fun _ => ?_) (fun h_ => nomatch h_)
      refine runs_skip ?_
      refine runs_seq ?_
      refine runs_block ?_
      refine runs_seq ?_
      refine runs_region ?_
      refine rl0 (gn rfl) rfl rfl (step_as rfl rfl) trivial ?_
      refine runsL_nil ?_
      refine runs_seq ?_
      refine runs_seq ?_
      refine runs_region ?_
      refine rl0 (gn rfl) rfl rfl (step_mv rfl rfl) trivial ?_
      refine rl0 (gn rfl) rfl rfl (step_add rfl (ev_mk rfl) (ev_mk rfl) (w64 (by omega))) trivial ?_
      refine' rl0 (gn rfl) rfl rfl (step_load_one rfl (ev_mk rfl) F.one37 ?hv) ⟨?hb, trivial⟩ ?_
      case hb => repeat (first | exact uE | refine uN (by omega) ?_ | assumption | exact hd _ (by omega) | exact hd0 _ (by omega) | fail)
      case hv => rfl
      refine rl0 (gn rfl) rfl rfl (step_len (m := np) rfl rfl (ev_mk rfl) (.inl ⟨⟨_, Try.underlying37⟩, .inl ⟨_, _, .inl rfl, by rw [List.length_map, QQ_len]⟩⟩)) trivial ?_
      refine rl_lss (gn rfl) rfl rfl rfl rfl rfl (fun h3 => ?_) (fun h3 => ?_)
      · skip
        have hnx_ := nxA_1 (g := smG np) (i := u) (by omega)
        refine runsL_nil ?_
        refine runs_cond true (ev_mk rfl) (fun _ => ?_) (fun h_ => nomatch h_)
        refine runs_region ?_
        refine rl0 (gn rfl) rfl rfl (step_fieldAddr (off := 1) rfl (ev_mk rfl) Try.underlying29 rfl F.sz26 rfl) trivial ?_
        refine' rl0 (gn rfl) rfl rfl (step_load_one rfl (ev_mk rfl) F.one26 ?hv) ⟨?hb, trivial⟩ ?_
        case hb => repeat (first | exact uE | refine uN (by omega) ?_ | assumption | exact hd _ (by omega) | exact hd0 _ (by omega) | fail)
        case hv => rfl
        refine rl0 (gn rfl) rfl rfl (step_mv rfl rfl) trivial ?_
        refine rl0 (gn rfl) rfl rfl (step_add rfl (ev_mk rfl) (ev_mk rfl) (w64 (by omega))) trivial ?_
        refine' rl0 (gn rfl) rfl rfl (step_index rfl (ev_mk rfl) (.inl rfl) (ev_mk rfl) Try.underlying26 F.sz3 (by omega) ?hr) trivial ?_
        case hr => exact map_at _ _ _ (by omega) (by omega)
        refine rl0 (gn rfl) rfl rfl (step_load_ro rfl (ev_mk rfl) F.one3 rfl) trivial ?_
        refine rl0 (gn rfl) rfl rfl (step_as rfl rfl) trivial ?_
        refine runsL_nil ?_
        refine runs_seq ?_
        refine runs_region ?_
        have hpa_ := ptsA_len (mdF (smG np).length l) u
        refine rl0 (gn rfl) rfl rfl (step_mv rfl rfl) trivial ?_
        refine rl0 (gn rfl) rfl rfl (step_mv rfl rfl) trivial ?_
        refine rl0 (gn rfl) rfl rfl (step_mul rfl (ev_mk rfl) (ev_mk rfl) (w64 (by omega))) trivial ?_
        refine rl0 (gn rfl) rfl rfl (step_mv rfl rfl) trivial ?_
        refine rl0 (gn rfl) rfl rfl (step_len (m := (mdF (smG np).length l).length) rfl rfl (ev_mk rfl) (.inl ⟨⟨_, Try.underlying27⟩, .inl ⟨_, _, .inl rfl, List.length_map _⟩⟩)) trivial ?_
        refine rl0 (gn rfl) rfl rfl (step_minr (r := ((min (5 * u) (mdF (smG np).length l).length) : Nat)) rfl (ev_mk rfl) (ev_mk rfl) (by split <;> omega)) trivial ?_
        refine rl0 (gn rfl) rfl rfl (step_mv rfl rfl) trivial ?_
        refine rl0 (gn rfl) rfl rfl (step_mul rfl (ev_mk rfl) (ev_mk rfl) (w64 (by omega))) trivial ?_
        refine rl0 (gn rfl) rfl rfl (step_add rfl (ev_mk rfl) (ev_mk rfl) (w64 (by omega))) trivial ?_
        refine rl0 (gn rfl) rfl rfl (step_mv rfl rfl) trivial ?_
        refine rl0 (gn rfl) rfl rfl (step_len (m := (mdF (smG np).length l).length) rfl rfl (ev_mk rfl) (.inl ⟨⟨_, Try.underlying27⟩, .inl ⟨_, _, .inl rfl, List.length_map _⟩⟩)) trivial ?_
        refine rl0 (gn rfl) rfl rfl (step_minr (r := ((min (5 * u + 5) (mdF (smG np).length l).length) : Nat)) rfl (ev_mk rfl) (ev_mk rfl) (by split <;> omega)) trivial ?_
        refine rl0 (gn rfl) rfl rfl (step_slice (ys := (ptsA (mdF (smG np).length l) u).map rcC) (l := (min (5 * u) (mdF (smG np).length l).length)) (h := (min (5 * u + 5) (mdF (smG np).length l).length)) rfl (ev_mk rfl) (.inl rfl) Try.underlying27 F.sz52 (bndLo_nat (a := (min (5 * u) (mdF (smG np).length l).length)) rfl (by first | omega | (split <;> omega) | (first | (simp; done) | (show ((at' (QQ (w0 % 7) np (mdF (smG np).length l)) (u : Int)).2.map bV).length = 224; rw [List.length_map]; exact hqu_)))) (bndHi_nat (a := (min (5 * u + 5) (mdF (smG np).length l).length)) rfl (by first | omega | (split <;> omega) | (first | (simp; done) | (show ((at' (QQ (w0 % 7) np (mdF (smG np).length l)) (u : Int)).2.map bV).length = 224; rw [List.length_map]; exact hqu_)))) (by first | omega | exact Nat.zero_le _ | (simp; omega) | (first | (simp; done) | (show ((at' (QQ (w0 % 7) np (mdF (smG np).length l)) (u : Int)).2.map bV).length = 224; rw [List.length_map]; exact hqu_))) (by rw [List.length_map]; omega) (cut_c (mdF (smG np).length l) u)) trivial ?_
        refine rl0 (gn rfl) rfl rfl (step_as rfl rfl) trivial ?_
        refine runsL_nil ?_
        refine runs_seq ?_
        refine runs_draw (by kernel_rfl) (by kernel_rfl) (by kernel_rfl) ?_
        have hqu_ := (hQo _ (List.mem_of_getElem? (imat (show (u : Int) < (QQ (w0 % 7) np (mdF (smG np).length l)).length by omega)))).2
        refine' dl0 (gn rfl) rfl rfl (step_load_one rfl (ev_mk rfl) F.one37 ?hv) ⟨?hb, trivial⟩ ?_
        case hb => repeat (first | exact uE | refine uN (by omega) ?_ | assumption | exact hd _ (by omega) | exact hd0 _ (by omega) | fail)
        case hv => rfl
        refine dl0 (gn rfl) rfl rfl (step_mv rfl rfl) trivial ?_
        refine' dl0 (gn rfl) rfl rfl (step_index rfl (ev_mk rfl) (.inl rfl) (ev_mk rfl) Try.underlying37 F.sz41 (by omega) ?hr) trivial ?_
        case hr => exact map_at _ _ _ (by omega) (by omega)
        refine dl0 (gn rfl) rfl rfl (step_fieldAddr_ro (off := 0) rfl (ev_mk rfl) Try.underlying41 rfl F.sz3 rfl rfl) trivial ?_
        refine dl0 (gn rfl) rfl rfl (step_load_ro (v := .sc (.int .i64 (at' (smG np) (u : Int)))) rfl (ev_mk rfl) F.one3 (QQ_1 (by omega))) trivial ?_
        refine dl0 (gn rfl) rfl rfl (step_fieldAddr (off := 1) rfl (ev_mk rfl) Try.underlying29 rfl F.sz26 rfl) trivial ?_
        refine' dl0 (gn rfl) rfl rfl (step_load_one rfl (ev_mk rfl) F.one26 ?hv) ⟨?hb, trivial⟩ ?_
        case hb => repeat (first | exact uE | refine uN (by omega) ?_ | assumption | exact hd _ (by omega) | exact hd0 _ (by omega) | fail)
        case hv => rfl
        refine dl0 (gn rfl) rfl rfl (step_mv rfl rfl) trivial ?_
        refine' dl0 (gn rfl) rfl rfl (step_index rfl (ev_mk rfl) (.inl rfl) (ev_mk rfl) Try.underlying26 F.sz3 (by omega) ?hr) trivial ?_
        case hr => exact map_at _ _ _ (by omega) (by omega)
        refine dl0 (gn rfl) rfl rfl (step_load_ro rfl (ev_mk rfl) F.one3 rfl) trivial ?_
        refine dl_neq (gn rfl) rfl rfl rfl rfl rfl (fun h4 => ?_) (fun h4 => ?_)
        · exact False.elim (by exact h4 rfl)
        refine dl0 (gn rfl) rfl rfl (step_mv rfl rfl) trivial ?_
        refine' dl0 (gy rfl rfl rfl rfl rfl rfl) rfl rfl (step_load_one rfl (ev_mk rfl) F.one37 ?hv) ⟨?hb, trivial⟩ ?_
        case hb => repeat (first | exact uE | refine uN (by omega) ?_ | assumption | exact hd _ (by omega) | exact hd0 _ (by omega) | fail)
        case hv => rfl
        refine dl0 (gy rfl rfl rfl rfl rfl rfl) rfl rfl (step_mv rfl rfl) trivial ?_
        refine' dl0 (gy rfl rfl rfl rfl rfl rfl) rfl rfl (step_index rfl (ev_mk rfl) (.inl rfl) (ev_mk rfl) Try.underlying37 F.sz41 (by omega) ?hr) trivial ?_
        case hr => exact map_at _ _ _ (by omega) (by omega)
        refine dl0 (gy rfl rfl rfl rfl rfl rfl) rfl rfl (step_fieldAddr_ro (off := 1) rfl (ev_mk rfl) Try.underlying41 rfl F.sz39 rfl rfl) trivial ?_
        refine dl0 (gy rfl rfl rfl rfl rfl rfl) rfl rfl (step_load_ro_all rfl rfl F.agg39 (by first | rfl | (simp; done) | (first | (simp; done) | (show ((at' (QQ (w0 % 7) np (mdF (smG np).length l)) (u : Int)).2.map bV).length = 224; rw [List.length_map]; exact hqu_)))) trivial ?_
        refine dl0 (gy rfl rfl rfl rfl rfl rfl) rfl rfl (step_mv rfl rfl) trivial ?_
        refine dl0 (gy rfl rfl rfl rfl rfl rfl) rfl rfl (step_mv rfl rfl) trivial ?_
        refine dl0 (gy rfl rfl rfl rfl rfl rfl) rfl rfl (step_mv rfl rfl) trivial ?_
        refine dl0 (gy rfl rfl rfl rfl rfl rfl) rfl rfl (step_callc rfl Try.func17 rfl rfl rfl (rpage_c (w0 % 7) (at' (smG np) ((u : Int) + 1)) (ptsA (mdF (smG np).length l) u) (by omega) (ptsA_ok hmo u)) (by repeat (first | exact .nil | refine .cons ?_ ?_ | exact VLe.refl _ | exact VLe.own_sl _ _ _ | exact VLe.fl_sl _ _ | exact VLe.nil_sl _ | exact VLe.nil_fl _ | refine VLe.agg ?_))) trivial ?_
        refine dl0 (gy rfl rfl rfl rfl rfl rfl) rfl rfl (step_neqP rfl (ev_mk rfl) (ev_mk rfl) (QQ_2 (by omega) hnx_) (padP_len (by rw [pgP_len _ _ (ptsA_ok hmo u) (Nat.le_refl _)]; omega))) trivial ?_
        refine dl0 (gn rfl) rfl rfl (step_pick rfl (ev_mk rfl) (ev_mk rfl)) trivial ?_
        refine dlnil ?_ ?_
        · repeat' (first | exact trivial | exact .inr (ap0 _ _ _ _) | exact .inr (ap2 _ _ _ _) | exact .inr (ap3 _ _ _ _) | exact .inr ⟨by first | (simp; done) | (simp; omega), by first | (simp; done) | (simp; omega)⟩ | exact .inl (by kernel_rfl) | refine ⟨?_, ?_⟩ | fail)
        refine runs_cond false (ev_mk rfl) (fun h_ => nomatch h_) (fun _ => ?_)
        refine runs_skip ?_
        refine runs_region ?_
        refine rl0 (gn rfl) rfl rfl (step_mv rfl rfl) trivial ?_
        refine rl0 (gn rfl) rfl rfl (step_add rfl (ev_mk rfl) (ev_mk rfl) (w64 (by omega))) trivial ?_
        refine rl0 (gn rfl) rfl rfl (step_as rfl rfl) trivial ?_
        refine runsL_nil ?_
        refine ⟨_, _, ?_, sle ?_ (Nat.le_refl _), (u + 1), _, _, rfl, rfl, by omega, (fun k_ hk_ => by repeat (first | exact hf0 k_ hk_ | refine uN (by first | assumption | omega) ?_ | fail)), by first | ((repeat (first | exact uE | assumption | refine uN (by omega) ?_ | fail)); done) | exact tl_eq (by repeat (first | exact uE | assumption | refine uN (by omega) ?_ | fail)) (by first | rfl | (simp [bytesV, beB_len]; done) | (simp [bytesV, beB_len]; omega) | omega), by first | ((repeat (first | exact uE | assumption | refine uN (by omega) ?_ | fail)); done) | exact tl_eq (by repeat (first | exact uE | assumption | refine uN (by omega) ?_ | fail)) (by first | rfl | (simp [bytesV, beB_len]; done) | (simp [bytesV, beB_len]; omega) | omega), by omega⟩
        · omega
        · (repeat' (first | exact trivial | refine ⟨⟨_, rfl, ?_⟩, ?_⟩ | fail)); all_goals (repeat' (first | exact VLe.refl _ | exact VLe.own_sl _ _ _ | exact VLe.fl_sl _ _ | exact VLe.nil_sl _ | exact VLe.nil_fl _ | exact VLes.refl _ | exact .nil | refine VLe.tup ?_ | refine VLe.agg ?_ | refine .cons ?_ ?_ | (rw [Int.natCast_add]; exact VLe.refl _) | exact vle_int (by omega) | exact vle_bool (by first | rfl | assumption | (simp_all; done) | fail) | fail))
      · skip
        have hnx_ := nxA_0 (g := smG np) (i := u) (by omega)
        refine runsL_nil ?_
        refine runs_cond false (ev_mk rfl) (fun h_ => nomatch h_) (fun _ => ?_)
        refine runs_skip ?_
        refine runs_seq ?_
        refine runs_region ?_
        have hpa_ := ptsA_len (mdF (smG np).length l) u
        refine rl0 (gn rfl) rfl rfl (step_mv rfl rfl) trivial ?_
        refine rl0 (gn rfl) rfl rfl (step_mv rfl rfl) trivial ?_
        refine rl0 (gn rfl) rfl rfl (step_mul rfl (ev_mk rfl) (ev_mk rfl) (w64 (by omega))) trivial ?_
        refine rl0 (gn rfl) rfl rfl (step_mv rfl rfl) trivial ?_
        refine rl0 (gn rfl) rfl rfl (step_len (m := (mdF (smG np).length l).length) rfl rfl (ev_mk rfl) (.inl ⟨⟨_, Try.underlying27⟩, .inl ⟨_, _, .inl rfl, List.length_map _⟩⟩)) trivial ?_
        refine rl0 (gn rfl) rfl rfl (step_minr (r := ((min (5 * u) (mdF (smG np).length l).length) : Nat)) rfl (ev_mk rfl) (ev_mk rfl) (by split <;> omega)) trivial ?_
        refine rl0 (gn rfl) rfl rfl (step_mv rfl rfl) trivial ?_
        refine rl0 (gn rfl) rfl rfl (step_mul rfl (ev_mk rfl) (ev_mk rfl) (w64 (by omega))) trivial ?_
        refine rl0 (gn rfl) rfl rfl (step_add rfl (ev_mk rfl) (ev_mk rfl) (w64 (by omega))) trivial ?_
        refine rl0 (gn rfl) rfl rfl (step_mv rfl rfl) trivial ?_
        refine rl0 (gn rfl) rfl rfl (step_len (m := (mdF (smG np).length l).length) rfl rfl (ev_mk rfl) (.inl ⟨⟨_, Try.underlying27⟩, .inl ⟨_, _, .inl rfl, List.length_map _⟩⟩)) trivial ?_
        refine rl0 (gn rfl) rfl rfl (step_minr (r := ((min (5 * u + 5) (mdF (smG np).length l).length) : Nat)) rfl (ev_mk rfl) (ev_mk rfl) (by split <;> omega)) trivial ?_
        refine rl0 (gn rfl) rfl rfl (step_slice (ys := (ptsA (mdF (smG np).length l) u).map rcC) (l := (min (5 * u) (mdF (smG np).length l).length)) (h := (min (5 * u + 5) (mdF (smG np).length l).length)) rfl (ev_mk rfl) (.inl rfl) Try.underlying27 F.sz52 (bndLo_nat (a := (min (5 * u) (mdF (smG np).length l).length)) rfl (by first | omega | (split <;> omega) | (first | (simp; done) | (show ((at' (QQ (w0 % 7) np (mdF (smG np).length l)) (u : Int)).2.map bV).length = 224; rw [List.length_map]; exact hqu_)))) (bndHi_nat (a := (min (5 * u + 5) (mdF (smG np).length l).length)) rfl (by first | omega | (split <;> omega) | (first | (simp; done) | (show ((at' (QQ (w0 % 7) np (mdF (smG np).length l)) (u : Int)).2.map bV).length = 224; rw [List.length_map]; exact hqu_)))) (by first | omega | exact Nat.zero_le _ | (simp; omega) | (first | (simp; done) | (show ((at' (QQ (w0 % 7) np (mdF (smG np).length l)) (u : Int)).2.map bV).length = 224; rw [List.length_map]; exact hqu_))) (by rw [List.length_map]; omega) (cut_c (mdF (smG np).length l) u)) trivial ?_
        refine rl0 (gn rfl) rfl rfl (step_as rfl rfl) trivial ?_
        refine runsL_nil ?_
        refine runs_seq ?_
        refine runs_draw (by kernel_rfl) (by kernel_rfl) (by kernel_rfl) ?_
        have hqu_ := (hQo _ (List.mem_of_getElem? (imat (show (u : Int) < (QQ (w0 % 7) np (mdF (smG np).length l)).length by omega)))).2
        refine' dl0 (gn rfl) rfl rfl (step_load_one rfl (ev_mk rfl) F.one37 ?hv) ⟨?hb, trivial⟩ ?_
        case hb => repeat (first | exact uE | refine uN (by omega) ?_ | assumption | exact hd _ (by omega) | exact hd0 _ (by omega) | fail)
        case hv => rfl
        refine dl0 (gn rfl) rfl rfl (step_mv rfl rfl) trivial ?_
        refine' dl0 (gn rfl) rfl rfl (step_index rfl (ev_mk rfl) (.inl rfl) (ev_mk rfl) Try.underlying37 F.sz41 (by omega) ?hr) trivial ?_
        case hr => exact map_at _ _ _ (by omega) (by omega)
        refine dl0 (gn rfl) rfl rfl (step_fieldAddr_ro (off := 0) rfl (ev_mk rfl) Try.underlying41 rfl F.sz3 rfl rfl) trivial ?_
        refine dl0 (gn rfl) rfl rfl (step_load_ro (v := .sc (.int .i64 (at' (smG np) (u : Int)))) rfl (ev_mk rfl) F.one3 (QQ_1 (by omega))) trivial ?_
        refine dl0 (gn rfl) rfl rfl (step_fieldAddr (off := 1) rfl (ev_mk rfl) Try.underlying29 rfl F.sz26 rfl) trivial ?_
        refine' dl0 (gn rfl) rfl rfl (step_load_one rfl (ev_mk rfl) F.one26 ?hv) ⟨?hb, trivial⟩ ?_
        case hb => repeat (first | exact uE | refine uN (by omega) ?_ | assumption | exact hd _ (by omega) | exact hd0 _ (by omega) | fail)
        case hv => rfl
        refine dl0 (gn rfl) rfl rfl (step_mv rfl rfl) trivial ?_
        refine' dl0 (gn rfl) rfl rfl (step_index rfl (ev_mk rfl) (.inl rfl) (ev_mk rfl) Try.underlying26 F.sz3 (by omega) ?hr) trivial ?_
        case hr => exact map_at _ _ _ (by omega) (by omega)
        refine dl0 (gn rfl) rfl rfl (step_load_ro rfl (ev_mk rfl) F.one3 rfl) trivial ?_
        refine dl_neq (gn rfl) rfl rfl rfl rfl rfl (fun h4 => ?_) (fun h4 => ?_)
        · exact False.elim (by exact h4 rfl)
        refine dl0 (gn rfl) rfl rfl (step_mv rfl rfl) trivial ?_
        refine' dl0 (gy rfl rfl rfl rfl rfl rfl) rfl rfl (step_load_one rfl (ev_mk rfl) F.one37 ?hv) ⟨?hb, trivial⟩ ?_
        case hb => repeat (first | exact uE | refine uN (by omega) ?_ | assumption | exact hd _ (by omega) | exact hd0 _ (by omega) | fail)
        case hv => rfl
        refine dl0 (gy rfl rfl rfl rfl rfl rfl) rfl rfl (step_mv rfl rfl) trivial ?_
        refine' dl0 (gy rfl rfl rfl rfl rfl rfl) rfl rfl (step_index rfl (ev_mk rfl) (.inl rfl) (ev_mk rfl) Try.underlying37 F.sz41 (by omega) ?hr) trivial ?_
        case hr => exact map_at _ _ _ (by omega) (by omega)
        refine dl0 (gy rfl rfl rfl rfl rfl rfl) rfl rfl (step_fieldAddr_ro (off := 1) rfl (ev_mk rfl) Try.underlying41 rfl F.sz39 rfl rfl) trivial ?_
        refine dl0 (gy rfl rfl rfl rfl rfl rfl) rfl rfl (step_load_ro_all rfl rfl F.agg39 (by first | rfl | (simp; done) | (first | (simp; done) | (show ((at' (QQ (w0 % 7) np (mdF (smG np).length l)) (u : Int)).2.map bV).length = 224; rw [List.length_map]; exact hqu_)))) trivial ?_
        refine dl0 (gy rfl rfl rfl rfl rfl rfl) rfl rfl (step_mv rfl rfl) trivial ?_
        refine dl0 (gy rfl rfl rfl rfl rfl rfl) rfl rfl (step_mv rfl rfl) trivial ?_
        refine dl0 (gy rfl rfl rfl rfl rfl rfl) rfl rfl (step_mv rfl rfl) trivial ?_
        refine dl0 (gy rfl rfl rfl rfl rfl rfl) rfl rfl (step_callc rfl Try.func17 rfl rfl rfl (rpage_c (w0 % 7) 0 (ptsA (mdF (smG np).length l) u) (by omega) (ptsA_ok hmo u)) (by repeat (first | exact .nil | refine .cons ?_ ?_ | exact VLe.refl _ | exact VLe.own_sl _ _ _ | exact VLe.fl_sl _ _ | exact VLe.nil_sl _ | exact VLe.nil_fl _ | refine VLe.agg ?_))) trivial ?_
        refine dl0 (gy rfl rfl rfl rfl rfl rfl) rfl rfl (step_neqP rfl (ev_mk rfl) (ev_mk rfl) (QQ_2 (by omega) hnx_) (padP_len (by rw [pgP_len _ _ (ptsA_ok hmo u) (Nat.le_refl _)]; omega))) trivial ?_
        refine dl0 (gn rfl) rfl rfl (step_pick rfl (ev_mk rfl) (ev_mk rfl)) trivial ?_
        refine dlnil ?_ ?_
        · repeat' (first | exact trivial | exact .inr (ap0 _ _ _ _) | exact .inr (ap2 _ _ _ _) | exact .inr (ap3 _ _ _ _) | exact .inr ⟨by first | (simp; done) | (simp; omega), by first | (simp; done) | (simp; omega)⟩ | exact .inl (by kernel_rfl) | refine ⟨?_, ?_⟩ | fail)
        refine runs_cond false (ev_mk rfl) (fun h_ => nomatch h_) (fun _ => ?_)
        refine runs_skip ?_
        refine runs_region ?_
        refine rl0 (gn rfl) rfl rfl (step_mv rfl rfl) trivial ?_
        refine rl0 (gn rfl) rfl rfl (step_add rfl (ev_mk rfl) (ev_mk rfl) (w64 (by omega))) trivial ?_
        refine rl0 (gn rfl) rfl rfl (step_as rfl rfl) trivial ?_
        refine runsL_nil ?_
        refine ⟨_, _, ?_, sle ?_ (Nat.le_refl _), (u + 1), _, _, rfl, rfl, by omega, (fun k_ hk_ => by repeat (first | exact hf0 k_ hk_ | refine uN (by first | assumption | omega) ?_ | fail)), by first | ((repeat (first | exact uE | assumption | refine uN (by omega) ?_ | fail)); done) | exact tl_eq (by repeat (first | exact uE | assumption | refine uN (by omega) ?_ | fail)) (by first | rfl | (simp [bytesV, beB_len]; done) | (simp [bytesV, beB_len]; omega) | omega), by first | ((repeat (first | exact uE | assumption | refine uN (by omega) ?_ | fail)); done) | exact tl_eq (by repeat (first | exact uE | assumption | refine uN (by omega) ?_ | fail)) (by first | rfl | (simp [bytesV, beB_len]; done) | (simp [bytesV, beB_len]; omega) | omega), by omega⟩
        · omega
        · (repeat' (first | exact trivial | refine ⟨⟨_, rfl, ?_⟩, ?_⟩ | fail)); all_goals (repeat' (first | exact VLe.refl _ | exact VLe.own_sl _ _ _ | exact VLe.fl_sl _ _ | exact VLe.nil_sl _ | exact VLe.nil_fl _ | exact VLes.refl _ | exact .nil | refine VLe.tup ?_ | refine VLe.agg ?_ | refine .cons ?_ ?_ | (rw [Int.natCast_add]; exact VLe.refl _) | exact vle_int (by omega) | exact vle_bool (by first | rfl | assumption | (simp_all; done) | fail) | fail))
    · skip
      obtain rfl : np = u := by omega
      refine runsL_nil ?_
      refine runs_cond false (ev_mk rfl) (fun h_ => nomatch h_) (fun _ => ?_)
      refine runs_exit ?_
      refine runs_seq ?_
      refine runs_region ?_
      refine rl0 (gn rfl) rfl rfl (step_fieldAddr (off := 1) rfl (ev_mk rfl) Try.underlying29 rfl F.sz26 rfl) trivial ?_
      refine' rl0 (gn rfl) rfl rfl (step_load_one rfl (ev_mk rfl) F.one26 ?hv) ⟨?hb, trivial⟩ ?_
      case hb => repeat (first | exact uE | refine uN (by omega) ?_ | assumption | exact hd _ (by omega) | exact hd0 _ (by omega) | fail)
      case hv => rfl
      refine' rl0 (gn rfl) rfl rfl (step_index rfl (ev_mk rfl) (.inl rfl) (ev_mk rfl) Try.underlying26 F.sz3 (by first | omega | (rw [smG_len]; omega)) ?hr) trivial ?_
      case hr => exact map_at _ _ _ (by first | omega | (rw [smG_len]; omega)) (by first | omega | (rw [smG_len]; omega))
      refine' rl0 (gn rfl) rfl rfl (step_load_ro (v := .sc (.int .i64 10)) rfl (ev_mk rfl) F.one3 (by show [V.sc (.int .i64 (at' (smG np) 0))][0]? = _; rw [show (0 : Int) = ((0 : Nat) : Int) from rfl, smG_at (by omega)]; rfl)) trivial ?_
      refine rl0 (gn rfl) rfl rfl (step_makeFunc rfl rfl) trivial ?_
      refine rl0 (gn rfl) rfl rfl (step_callc rfl Try.func18 rfl rfl rfl (get_y1 10 (lkP (QQ (w0 % 7) np (mdF (smG np).length l))) (lkO (QQ (w0 % 7) np (mdF (smG np).length l))) (fun w_ => ⟨lkP_byts (fun q_ hq_ => (hQo q_ hq_).1) w_, lkP_len (fun q_ hq_ => (hQo q_ hq_).2) w_⟩) (n + 1) [.sl 225 ((QQ (w0 % 7) np (mdF (smG np).length l)).map imR)] (fun w_ => at19 w_ _ (QQ (w0 % 7) np (mdF (smG np).length l)) (fun q_ hq_ => (hQo q_ hq_).2) (by omega)) (w0 % 7) (smG np) (mdF (smG np).length l) (pages_all hd6 hn4 hm5 hmo)) (by repeat (first | exact .nil | refine .cons ?_ ?_ | exact VLe.refl _ | exact VLe.own_sl _ _ _ | exact VLe.fl_sl _ _ | exact VLe.nil_sl _ | exact VLe.nil_fl _ | refine VLe.agg ?_))) ⟨by repeat (first | exact uE | refine uN (by omega) ?_ | assumption | exact hd _ (by omega) | exact hd0 _ (by omega) | fail), trivial⟩ ?_
      refine rl0 (gn rfl) rfl rfl (step_mv rfl rfl) trivial ?_
      refine rl0 (gn rfl) rfl rfl (step_extract rfl (ev_mk rfl) rfl) trivial ?_
      refine rl0 (gn rfl) rfl rfl (step_extract rfl (ev_mk rfl) rfl) trivial ?_
      refine rl1 (gn rfl) rfl rfl (step_allocc (k := m0 + 0) (zs := [.int .i64 0, .slice none 0 0, .slice none 0 0]) (cs := [.sc (.int .i64 0), .sc (.slice none 0 0), .sc (.slice none 0 0)]) rfl F.zero29 (by first | rfl | simp) (by first | rfl | decide | simp) (by first | rfl | simp)) ⟨by repeat (first | exact uE | refine uN (by omega) ?_ | assumption | exact hd _ (by omega) | exact hd0 _ (by omega) | fail), trivial⟩ (by omega) ?_
      refine' rls (gn rfl) rfl (step_storeA rfl rfl rfl rfl F.agg29 ?hm ?hl) ⟨?hb, trivial⟩ ?hk ?_
      case hb => repeat (first | exact uE | refine uN (by omega) ?_ | assumption | exact hd _ (by omega) | exact hd0 _ (by omega) | fail)
      case hm => first | rfl | (simp; done) | (first | (simp; done) | (show ((at' (QQ (w0 % 7) np (mdF (smG np).length l)) (u : Int)).2.map bV).length = 224; rw [List.length_map]; exact hqu_))
      case hl => first | rfl | (simp; done) | (first | (simp; done) | (show ((at' (QQ (w0 % 7) np (mdF (smG np).length l)) (u : Int)).2.map bV).length = 224; rw [List.length_map]; exact hqu_))
      case hk => omega
      refine rl0 (gn rfl) rfl rfl (step_as rfl rfl) trivial ?_
      refine runsL_nil ?_
      refine runs_seq ?_
      refine runs_seq ?_
      refine runs_region ?_
      refine rl0 (gn rfl) rfl rfl (step_mv rfl rfl) trivial ?_
      refine rl0 (gn rfl) rfl rfl (step_unOp (c := .bool false) rfl (ev_mk rfl) (fun _ => rfl)) trivial ?_
      refine rl0 (gn rfl) rfl rfl (step_mv rfl rfl) trivial ?_
      refine rl0 (gy rfl rfl rfl rfl rfl rfl) rfl rfl (step_fieldAddr (off := 0) rfl (ev_mk rfl) Try.underlying29 rfl F.sz3 rfl) trivial ?_
      refine' rl0 (gy rfl rfl rfl rfl rfl rfl) rfl rfl (step_load_one rfl (ev_mk rfl) F.one3 ?hv) ⟨?hb, trivial⟩ ?_
      case hb => repeat (first | exact uE | refine uN (by omega) ?_ | assumption | exact hd _ (by omega) | exact hd0 _ (by omega) | fail)
      case hv => rfl
      refine rl0 (gy rfl rfl rfl rfl rfl rfl) rfl rfl (step_mv rfl rfl) trivial ?_
      refine rl_neq (gy rfl rfl rfl rfl rfl rfl) rfl rfl rfl rfl rfl (fun h3 => ?_) (fun h3 => ?_)
      · exact False.elim (by exact h3 rfl)
      refine rl0 (gn rfl) rfl rfl (step_pick rfl (ev_mk rfl) (ev_mk rfl)) trivial ?_
      refine rl0 (gn rfl) rfl rfl (step_mv rfl rfl) trivial ?_
      refine rl0 (gy rfl rfl rfl rfl rfl rfl) rfl rfl (step_fieldAddr (off := 2) rfl (ev_mk rfl) Try.underlying29 rfl F.sz27 rfl) trivial ?_
      refine' rl0 (gy rfl rfl rfl rfl rfl rfl) rfl rfl (step_load_one rfl (ev_mk rfl) F.one27 ?hv) ⟨?hb, trivial⟩ ?_
      case hb => repeat (first | exact uE | refine uN (by omega) ?_ | assumption | exact hd _ (by omega) | exact hd0 _ (by omega) | fail)
      case hv => rfl
      refine rl0 (gy rfl rfl rfl rfl rfl rfl) rfl rfl (step_mv rfl rfl) trivial ?_
      refine rl0 (gy rfl rfl rfl rfl rfl rfl) rfl rfl (step_callc rfl Try.func20 rfl rfl rfl (rsame_c (mdF (smG np).length l) (mdF (smG np).length l) (by omega) (by omega)) (by repeat (first | exact .nil | refine .cons ?_ ?_ | exact VLe.refl _ | exact VLe.own_sl _ _ _ | exact VLe.fl_sl _ _ | exact VLe.nil_sl _ | exact VLe.nil_fl _ | refine VLe.agg ?_))) trivial ?_
      refine rl_know (d := 119) (c := true) rfl ((by simp)) ?_
      refine rl0 (gy rfl rfl rfl rfl rfl rfl) rfl rfl (step_unOp (c := .bool false) rfl (ev_mk rfl) (fun _ => rfl)) trivial ?_
      refine rl0 (gn rfl) rfl rfl (step_pick rfl (ev_mk rfl) (ev_mk rfl)) trivial ?_
      refine rl0 (gn rfl) rfl rfl (step_mv rfl rfl) trivial ?_
      refine rl0 (gy rfl rfl rfl rfl rfl rfl) rfl rfl (step_fieldAddr (off := 1) rfl (ev_mk rfl) Try.underlying29 rfl F.sz26 rfl) trivial ?_
      refine' rl0 (gy rfl rfl rfl rfl rfl rfl) rfl rfl (step_load_one rfl (ev_mk rfl) F.one26 ?hv) ⟨?hb, trivial⟩ ?_
      case hb => repeat (first | exact uE | refine uN (by omega) ?_ | assumption | exact hd _ (by omega) | exact hd0 _ (by omega) | fail)
      case hv => rfl
      refine rl0 (gy rfl rfl rfl rfl rfl rfl) rfl rfl (step_len (m := np) rfl rfl (ev_mk rfl) (.inl ⟨⟨_, Try.underlying26⟩, .inl ⟨_, _, .inl rfl, by rw [List.length_map, smG_len]⟩⟩)) trivial ?_
      refine rl0 (gy rfl rfl rfl rfl rfl rfl) rfl rfl (step_fieldAddr (off := 1) rfl (ev_mk rfl) Try.underlying29 rfl F.sz26 rfl) trivial ?_
      refine' rl0 (gy rfl rfl rfl rfl rfl rfl) rfl rfl (step_load_one rfl (ev_mk rfl) F.one26 ?hv) ⟨?hb, trivial⟩ ?_
      case hb => repeat (first | exact uE | refine uN (by omega) ?_ | assumption | exact hd _ (by omega) | exact hd0 _ (by omega) | fail)
      case hv => rfl
      refine rl0 (gy rfl rfl rfl rfl rfl rfl) rfl rfl (step_len (m := np) rfl rfl (ev_mk rfl) (.inl ⟨⟨_, Try.underlying26⟩, .inl ⟨_, _, .inl rfl, by rw [List.length_map, smG_len]⟩⟩)) trivial ?_
      refine rl_neq (gy rfl rfl rfl rfl rfl rfl) rfl rfl rfl rfl rfl (fun h4 => ?_) (fun h4 => ?_)
      · exact False.elim (by exact h4 rfl)
      refine rl0 (gn rfl) rfl rfl (step_pick rfl (ev_mk rfl) (ev_mk rfl)) trivial ?_
      refine runsL_nil ?_
      refine runs_cond false (ev_mk rfl) (fun h_ => nomatch h_) (fun _ => ?_)
      refine runs_skip ?_
      refine runs_seq ?_
      refine runs_seq ?_
      refine runs_region ?_
      refine rl0 (gn rfl) rfl rfl (step_as rfl rfl) trivial ?_
      refine runsL_nil ?_
      refine runs_block ?_
      refine runs_loop (fun (ri_ : Nat) (st_ : Go.Vm.S) => ∃ (v : Nat) (m1 : Nat) (b1 : Nat → Box), (st_ = ⟨mk [(6, .sc (.bool false)), (8, .ref (n + 0) 0), (15, .ref (m0 + 0) 0), (17, .sc (.int .i64 (v : Int)))], m1, b1⟩) ∧ (ri_ = 1 + (np - v)) ∧ (m0 + 1 ≤ m1) ∧ (∀ k_, k_ < n → b1 k_ = bx k_) ∧ (b1 (n + 0) = .cells [.sc (.int .i64 (w0 % 7)), .sl 1 ((smG np).map iR), .sl 6 ((mdF (smG np).length l).map rcC)]) ∧ (b1 (n + 1) = .cells [.sl 225 ((QQ (w0 % 7) np (mdF (smG np).length l)).map imR)]) ∧ (b1 (m0 + 0) = .cells [.sc (.int .i64 (w0 % 7)), .sl 1 ((smG np).map iR), .sl 6 ((mdF (smG np).length l).map rcC)]) ∧ (v ≤ np)) (1 + (np - 0)) ⟨_, sle ?_ (Nat.le_refl _), 0, _, _, rfl, rfl, ?_⟩ ?_
      · (repeat' (first | exact trivial | refine ⟨⟨_, rfl, ?_⟩, ?_⟩ | fail)); all_goals (repeat' (first | exact VLe.refl _ | exact VLe.own_sl _ _ _ | exact VLe.fl_sl _ _ | exact VLe.nil_sl _ | exact VLe.nil_fl _ | exact VLes.refl _ | exact .nil | refine VLe.tup ?_ | refine VLe.agg ?_ | refine .cons ?_ ?_ | (rw [Int.natCast_add]; exact VLe.refl _) | exact vle_int (by omega) | exact vle_bool (by first | rfl | assumption | (simp_all; done) | fail) | fail))
      · exact ⟨by omega, (fun k_ hk_ => by repeat (first | exact rfl | refine uN (by omega) ?_ | assumption | exact hf0 _ (by omega) | fail)), by first | ((repeat (first | exact uE | assumption | refine uN (by omega) ?_ | fail)); done) | exact tl_eq (by repeat (first | exact uE | assumption | refine uN (by omega) ?_ | fail)) (by first | rfl | (simp [bytesV, beB_len]; done) | (simp [bytesV, beB_len]; omega) | omega), by first | ((repeat (first | exact uE | assumption | refine uN (by omega) ?_ | fail)); done) | exact tl_eq (by repeat (first | exact uE | assumption | refine uN (by omega) ?_ | fail)) (by first | rfl | (simp [bytesV, beB_len]; done) | (simp [bytesV, beB_len]; omega) | omega), by first | ((repeat (first | exact uE | assumption | refine uN (by omega) ?_ | fail)); done) | exact tl_eq (by repeat (first | exact uE | assumption | refine uN (by omega) ?_ | fail)) (by first | rfl | (simp [bytesV, beB_len]; done) | (simp [bytesV, beB_len]; omega) | omega), by omega⟩
      · rintro _ _ ⟨v, m1, b1, rfl, rfl, hm1, hf1, hB1_0, hB1_1, hB1_2, hF1_0⟩
        refine runs_know (fun hd1 => ?_)
        refine runs_bump 20 ?_
        simp only at hd1
        refine runs_seq ?_
        refine runs_seq ?_
        refine runs_region ?_
        refine rl0 (gn rfl) rfl rfl (step_mv rfl rfl) trivial ?_
        refine rl0 (gn rfl) rfl rfl (step_fieldAddr (off := 1) rfl (ev_mk rfl) Try.underlying29 rfl F.sz26 rfl) trivial ?_
        refine' rl0 (gn rfl) rfl rfl (step_load_one rfl (ev_mk rfl) F.one26 ?hv) ⟨?hb, trivial⟩ ?_
        case hb => repeat (first | exact uE | refine uN (by omega) ?_ | assumption | exact hd _ (by omega) | exact hd0 _ (by omega) | exact hd1 _ (by omega) | fail)
        case hv => rfl
        refine rl0 (gn rfl) rfl rfl (step_len (m := np) rfl rfl (ev_mk rfl) (.inl ⟨⟨_, Try.underlying26⟩, .inl ⟨_, _, .inl rfl, by rw [List.length_map, smG_len]⟩⟩)) trivial ?_
        refine rl_lss (gn rfl) rfl rfl rfl rfl rfl (fun h5 => ?_) (fun h5 => ?_)
        · skip
          refine runsL_nil ?_
          refine runs_cond true (ev_mk rfl) (fun _ => ?_) (fun h_ => nomatch h_)
          refine runs_skip ?_
          refine runs_seq ?_
          refine runs_block ?_
          refine runs_seq ?_
          refine runs_draw (by kernel_rfl) (by kernel_rfl) (by kernel_rfl) ?_
          refine dl0 (gn rfl) rfl rfl (step_fieldAddr (off := 1) rfl (ev_mk rfl) Try.underlying29 rfl F.sz26 rfl) trivial ?_
          refine' dl0 (gn rfl) rfl rfl (step_load_one rfl (ev_mk rfl) F.one26 ?hv) ⟨?hb, trivial⟩ ?_
          case hb => repeat (first | exact uE | refine uN (by omega) ?_ | assumption | exact hd _ (by omega) | exact hd0 _ (by omega) | exact hd1 _ (by omega) | fail)
          case hv => rfl
          refine dl0 (gn rfl) rfl rfl (step_mv rfl rfl) trivial ?_
          refine' dl0 (gn rfl) rfl rfl (step_index rfl (ev_mk rfl) (.inl rfl) (ev_mk rfl) Try.underlying26 F.sz3 (by omega) ?hr) trivial ?_
          case hr => exact map_at _ _ _ (by omega) (by omega)
          refine dl0 (gn rfl) rfl rfl (step_load_ro rfl (ev_mk rfl) F.one3 rfl) trivial ?_
          refine dl0 (gn rfl) rfl rfl (step_fieldAddr (off := 1) rfl (ev_mk rfl) Try.underlying29 rfl F.sz26 rfl) trivial ?_
          refine' dl0 (gn rfl) rfl rfl (step_load_one rfl (ev_mk rfl) F.one26 ?hv) ⟨?hb, trivial⟩ ?_
          case hb => repeat (first | exact uE | refine uN (by omega) ?_ | assumption | exact hd _ (by omega) | exact hd0 _ (by omega) | exact hd1 _ (by omega) | fail)
          case hv => rfl
          refine dl0 (gn rfl) rfl rfl (step_mv rfl rfl) trivial ?_
          refine' dl0 (gn rfl) rfl rfl (step_index rfl (ev_mk rfl) (.inl rfl) (ev_mk rfl) Try.underlying26 F.sz3 (by omega) ?hr) trivial ?_
          case hr => exact map_at _ _ _ (by omega) (by omega)
          refine dl0 (gn rfl) rfl rfl (step_load_ro rfl (ev_mk rfl) F.one3 rfl) trivial ?_
          refine dl_neq (gn rfl) rfl rfl rfl rfl rfl (fun h6 => ?_) (fun h6 => ?_)
          · exact False.elim (by exact h6 rfl)
          refine dlnil ?_ ?_
          · repeat' (first | exact trivial | exact .inr (ap0 _ _ _ _) | exact .inr (ap2 _ _ _ _) | exact .inr (ap3 _ _ _ _) | exact .inr ⟨by first | (simp; done) | (simp; omega), by first | (simp; done) | (simp; omega)⟩ | exact .inl (by kernel_rfl) | refine ⟨?_, ?_⟩ | fail)
          refine runs_cond false (ev_mk rfl) (fun h_ => nomatch h_) (fun _ => ?_)
          refine runs_skip ?_
          refine runs_region ?_
          refine rl0 (gn rfl) rfl rfl (step_mv rfl rfl) trivial ?_
          refine rl0 (gn rfl) rfl rfl (step_add rfl (ev_mk rfl) (ev_mk rfl) (w64 (by omega))) trivial ?_
          refine rl0 (gn rfl) rfl rfl (step_as rfl rfl) trivial ?_
          refine runsL_nil ?_
          refine ⟨_, _, ?_, sle ?_ (Nat.le_refl _), (v + 1), _, _, rfl, rfl, by omega, (fun k_ hk_ => by repeat (first | exact hf1 k_ hk_ | exact hf0 k_ hk_ | refine uN (by first | assumption | omega) ?_ | fail)), by first | ((repeat (first | exact uE | assumption | refine uN (by omega) ?_ | fail)); done) | exact tl_eq (by repeat (first | exact uE | assumption | refine uN (by omega) ?_ | fail)) (by first | rfl | (simp [bytesV, beB_len]; done) | (simp [bytesV, beB_len]; omega) | omega), by first | ((repeat (first | exact uE | assumption | refine uN (by omega) ?_ | fail)); done) | exact tl_eq (by repeat (first | exact uE | assumption | refine uN (by omega) ?_ | fail)) (by first | rfl | (simp [bytesV, beB_len]; done) | (simp [bytesV, beB_len]; omega) | omega), by first | ((repeat (first | exact uE | assumption | refine uN (by omega) ?_ | fail)); done) | exact tl_eq (by repeat (first | exact uE | assumption | refine uN (by omega) ?_ | fail)) (by first | rfl | (simp [bytesV, beB_len]; done) | (simp [bytesV, beB_len]; omega) | omega), by omega⟩
          · omega
          · (repeat' (first | exact trivial | refine ⟨⟨_, rfl, ?_⟩, ?_⟩ | fail)); all_goals (repeat' (first | exact VLe.refl _ | exact VLe.own_sl _ _ _ | exact VLe.fl_sl _ _ | exact VLe.nil_sl _ | exact VLe.nil_fl _ | exact VLes.refl _ | exact .nil | refine VLe.tup ?_ | refine VLe.agg ?_ | refine .cons ?_ ?_ | (rw [Int.natCast_add]; exact VLe.refl _) | exact vle_int (by omega) | exact vle_bool (by first | rfl | assumption | (simp_all; done) | fail) | fail))
        · skip
          obtain rfl : np = v := by omega
          refine runsL_nil ?_
          refine runs_cond false (ev_mk rfl) (fun h_ => nomatch h_) (fun _ => ?_)
          refine runs_exit ?_
          refine runs_seq ?_
          refine runs_region ?_
          refine rl0 (gn rfl) rfl rfl (step_callc rfl Try.func8 rfl rfl rfl (hw) (by repeat (first | exact .nil | refine .cons ?_ ?_ | exact VLe.refl _ | exact VLe.own_sl _ _ _ | exact VLe.fl_sl _ _ | exact VLe.nil_sl _ | exact VLe.nil_fl _ | refine VLe.agg ?_))) trivial ?_
          refine rl0 (gn rfl) rfl rfl (step_as rfl rfl) trivial ?_
          refine runsL_nil ?_
          refine runs_ret ?_
          refine ⟨by first | exact .inr rfl | exact .inl rfl, fin_mkg (rest rfl res0) ?_ ?_ ?_ ?_ ?_⟩
          · (repeat' (first | exact VLe.refl _ | exact VLe.own_sl _ _ _ | exact VLe.fl_sl _ _ | exact VLe.nil_sl _ | exact VLe.nil_fl _ | exact VLes.refl _ | exact .nil | refine VLe.tup ?_ | refine VLe.agg ?_ | refine .cons ?_ ?_ | (rw [Int.natCast_add]; exact VLe.refl _) | exact vle_int (by omega) | exact vle_bool (by first | rfl | assumption | (simp_all; done) | fail) | fail))
          · repeat (first | exact trivial | assumption | omega | (refine bdR_map (fun _ => ?_)) | (refine bdL_map (fun _ => ?_)) | refine ⟨?_, ?_⟩ | fail)
          · intro k_ hk_; exact ble (by repeat (first | exact rfl | refine uN (by omega) ?_ | assumption | exact hf0 _ (by omega) | exact hf1 _ (by omega) | fail))
          · intro p hp; cases hp
          · repeat (first | exact trivial | assumption | omega | (refine bdR_map (fun _ => ?_)) | (refine bdL_map (fun _ => ?_)) | refine ⟨?_, ?_⟩ | fail)
end Go.Proofs.Ytldlmmpniddbcaa
