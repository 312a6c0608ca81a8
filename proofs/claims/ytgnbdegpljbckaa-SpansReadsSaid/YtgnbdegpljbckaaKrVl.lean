/- Walks by the logic of values. -/
import Derived.Test.YtgnbdegpljbckaaKrVmT
import Derived.Test.YtgnbdegpljbckaaKrVmP
import Derived.Test.YtgnbdegpljbckaaKrVmV
import Derived.Test.YtgnbdegpljbckaaKrVa
import Derived.Test.YtgnbdegpljbckaaKrVp
import Derived.Test.YtgnbdegpljbckaaKrVj
namespace Go.Proofs.Ytgnbdegpljbckaa
open Go.Vm
set_option linter.unusedVariables false
set_option linter.unusedSimpArgs false
/-! the document's arrays -/
def bC (r : Nat → Bool) : List V := (List.range 256).map fun k => .sc (.bool (r k))
theorem bC_len (r : Nat → Bool) : (bC r).length = 256 := by simp [bC]
theorem bd_bC (n : Nat) (r : Nat → Bool) : bdL n (bC r) := bdL_all fun v hv => by obtain ⟨k, _, rfl⟩ := List.mem_map.1 hv; trivial
theorem bd_bCA (n : Nat) (r : Nat → Bool) : V.bd n (.agg (bC r)) := bd_bC n r
theorem bC_q {r : Nat → Bool} {q k : Nat} (h : q = k) (hk : k < 256) : (bC r)[q]? = some (.sc (.bool (r k))) := by
  subst h; unfold bC; rw [List.getElem?_map, List.getElem?_range hk]; rfl
theorem bC_ext {f g : Nat → Bool} (h : ∀ k, k < 256 → f k = g k) : bC f = bC g := by
  unfold bC; exact List.map_congr_left fun k hk => by rw [h k (List.mem_range.1 hk)]
def upB (r : Nat → Bool) (q : Nat) (v : Bool) : Nat → Bool := fun k => if k = q then v else r k
theorem bC_set {r : Nat → Bool} {q k : Nat} {v : Bool} (h : q = k) : (bC r).set q (.sc (.bool v)) = bC (upB r k v) := by
  subst h
  refine List.ext_getElem? fun j => ?_
  rcases Nat.lt_or_ge j 256 with hj | hj
  · rw [bC_q rfl hj]
    unfold upB
    by_cases hq : j = q
    · subst hq; rw [if_pos rfl, List.getElem?_set_self (by rw [bC_len]; exact hj)]
    · rw [if_neg hq, List.getElem?_set_ne (fun e => hq e.symm), bC_q rfl hj]
  · rw [List.getElem?_eq_none (by rw [List.length_set, bC_len]; exact hj), List.getElem?_eq_none (by rw [bC_len]; exact hj)]
theorem zer_b : List.replicate 256 (V.sc (.bool false)) = bC (fun _ => false) := by
  refine List.ext_getElem? fun j => ?_
  rcases Nat.lt_or_ge j 256 with hj | hj
  · rw [bC_q rfl hj, List.getElem?_replicate, if_pos hj]
  · rw [List.getElem?_eq_none (by rw [List.length_replicate]; exact hj), List.getElem?_eq_none (by rw [bC_len]; exact hj)]
def mdR (l : List Sp) (i n k : Nat) : Bool := ofR (l.take i) k || (decide (k < n) && (decide ((at' l (i : Int)).lo ≤ (k : Int)) && decide ((k : Int) ≤ (at' l (i : Int)).hi)))
theorem md_0 (l : List Sp) (i : Nat) : bC (ofR (l.take i)) = bC (mdR l i 0) := bC_ext fun k _ => by unfold mdR; rw [decide_eq_false (by omega : ¬ k < 0)]; simp
theorem md_z (l : List Sp) : List.replicate 256 (V.sc (.bool false)) = bC (ofR (l.take 0)) := zer_b
theorem md_y {l : List Sp} {i n : Nat} (h : (at' l (i : Int)).lo ≤ (n : Int) ∧ (n : Int) ≤ (at' l (i : Int)).hi) : bC (upB (mdR l i n) n true) = bC (mdR l i (n + 1)) := bC_ext fun k _ => by
  unfold upB mdR
  by_cases e : k = n
  · subst e; rw [if_pos rfl, decide_eq_true (by omega : k < k + 1), decide_eq_true h.1, decide_eq_true h.2]; simp
  · rw [if_neg e, show decide (k < n) = decide (k < n + 1) from decide_eq_decide.2 (by omega)]
theorem md_n {l : List Sp} {i n : Nat} (h : ¬ ((at' l (i : Int)).lo ≤ (n : Int) ∧ (n : Int) ≤ (at' l (i : Int)).hi)) : bC (mdR l i n) = bC (mdR l i (n + 1)) := bC_ext fun k _ => by
  unfold mdR
  by_cases e : k = n
  · subst e
    have : (decide ((at' l (i : Int)).lo ≤ (k : Int)) && decide ((k : Int) ≤ (at' l (i : Int)).hi)) = false := by
      rw [← Bool.decide_and]; exact decide_eq_false h
    rw [this]; simp
  · rw [show decide (k < n) = decide (k < n + 1) from decide_eq_decide.2 (by omega)]
theorem md_e {l : List Sp} {i : Nat} (h : (i : Int) < l.length) : bC (mdR l i 256) = bC (ofR (l.take (i + 1))) := bC_ext fun k hk => by
  unfold mdR ofR
  rw [List.take_add_one, oat h, List.any_append, decide_eq_true hk]; simp
/-! the document's stretches -/
attribute [local irreducible] bC
set_option maxRecDepth 100000 in
set_option maxHeartbeats 4000000 in
theorem rof_c (l : List Sp) (hl : l.length ≤ 1000) (hx : ∀ x ∈ l, inM 255 x) : Does Try.prog 9 [.sl 2 (l.map spB)] [] [] (.agg (bC (ofR l))) := by
  refine does_mkg 40 Try.func9 rfl rfl rfl (fun n B bx hd hpre hup hvs hbx hgx => ?_)
  refine runs_seq ?_
  refine runs_region ?_
  refine rl1 (gn rfl) rfl rfl (step_allocc (k := n + 0) (zs := (List.replicate 256 (.bool false))) (cs := List.replicate 256 (.sc (.bool false))) rfl F.zero31 (by first | rfl | simp) (by first | rfl | decide | simp) (by first | rfl | simp)) ⟨by repeat (first | exact uE | refine uN (by omega) ?_ | assumption | exact hd _ (by omega) | fail), trivial⟩ (by omega) ?_
  refine runsL_nil ?_
  refine runs_seq ?_
  refine runs_region ?_
  refine rl1 (gn rfl) rfl rfl (step_allocc (k := n + 1) (zs := (List.replicate 256 (.bool false))) (cs := List.replicate 256 (.sc (.bool false))) rfl F.zero31 (by first | rfl | simp) (by first | rfl | decide | simp) (by first | rfl | simp)) ⟨by repeat (first | exact uE | refine uN (by omega) ?_ | assumption | exact hd _ (by omega) | fail), trivial⟩ (by omega) ?_
  refine runsL_nil ?_
  refine runs_seq ?_
  refine runs_seq ?_
  refine runs_region ?_
  refine rl0 (gn rfl) rfl rfl (step_as rfl rfl) trivial ?_
  refine runsL_nil ?_
  refine runs_block ?_
  have hs1_ : List.replicate 256 (V.sc (.bool false)) = bC (ofR (l.take 0)) := by (exact md_z l)
  refine runs_loop (fun (ri_ : Nat) (st_ : Go.Vm.S) => ∃ (i : Nat) (m0 : Nat) (b0 : Nat → Box), (st_ = ⟨mk [(0, .sl 2 (l.map spB)), (2, .ref (n + 0) 0), (3, .ref (n + 1) 0), (4, .sc (.int .i64 (i : Int)))], m0, b0⟩) ∧ (ri_ = 1 + (l.length - i)) ∧ (n + 2 ≤ m0) ∧ (∀ k_, k_ < n → b0 k_ = bx k_) ∧ (b0 (n + 0) = .cells (List.replicate 256 (.sc (.bool false)))) ∧ (b0 (n + 1) = .cells (bC (ofR (l.take i)))) ∧ (i ≤ l.length)) (1 + (l.length - 0)) ⟨_, sle ?_ (Nat.le_refl _), 0, _, _, rfl, rfl, ?_⟩ ?_
  · (repeat' (first | exact trivial | refine ⟨⟨_, rfl, ?_⟩, ?_⟩ | fail)); all_goals (repeat' (first | exact VLe.refl _ | exact VLe.own_sl _ _ _ | exact VLe.fl_sl _ _ | exact VLe.nil_sl _ | exact VLe.nil_fl _ | exact VLes.refl _ | exact .nil | refine VLe.tup ?_ | refine VLe.agg ?_ | refine .cons ?_ ?_ | (rw [Int.natCast_add]; exact VLe.refl _) | exact vle_int (by omega) | exact vle_bool (by first | rfl | assumption | (simp_all; done) | fail) | (rw [← hs1_]; exact VLe.refl _) | (rw [hs1_]; exact VLe.refl _) | fail))
  · exact ⟨by omega, (fun k_ hk_ => by repeat (first | exact rfl | refine uN (by omega) ?_ | assumption | fail)), by first | ((repeat (first | exact uE | assumption | refine uN (by omega) ?_ | fail)); done) | exact tl_eq (by repeat (first | exact uE | assumption | refine uN (by omega) ?_ | fail)) (by first | rfl | (simp [bytesV, beB_len]; done) | (simp [bytesV, beB_len]; omega) | omega) | (rw [← hs1_]; (repeat (first | exact uE | assumption | refine uN (by omega) ?_ | fail)); done), by first | ((repeat (first | exact uE | assumption | refine uN (by omega) ?_ | fail)); done) | exact tl_eq (by repeat (first | exact uE | assumption | refine uN (by omega) ?_ | fail)) (by first | rfl | (simp [bytesV, beB_len]; done) | (simp [bytesV, beB_len]; omega) | omega) | (rw [← hs1_]; (repeat (first | exact uE | assumption | refine uN (by omega) ?_ | fail)); done), by omega⟩
  · rintro _ _ ⟨i, m0, b0, rfl, rfl, hm0, hf0, hB0_0, hB0_1, hF0_0⟩
    refine runs_know (fun hd0 => ?_)
    refine runs_bump 20 ?_
    simp only at hd0
    refine runs_seq ?_
    refine runs_seq ?_
    refine runs_region ?_
    refine rl0 (gn rfl) rfl rfl (step_mv rfl rfl) trivial ?_
    refine rl0 (gn rfl) rfl rfl (step_mv rfl rfl) trivial ?_
    refine rl0 (gn rfl) rfl rfl (step_len (m := l.length) rfl rfl (ev_mk rfl) (.inl ⟨⟨_, Try.underlying22⟩, .inl ⟨_, _, .inl rfl, List.length_map _⟩⟩)) trivial ?_
    refine rl_lss (gn rfl) rfl rfl rfl rfl rfl (fun h1 => ?_) (fun h1 => ?_)
    · skip
      have hai_ : inM 255 (at' l (i : Int)) := hx _ (List.mem_of_getElem? (oat (by omega)))
      unfold inM at hai_
      refine runsL_nil ?_
      refine runs_cond true (ev_mk rfl) (fun _ => ?_) (fun h_ => nomatch h_)
      refine runs_skip ?_
      refine runs_seq ?_
      refine runs_block ?_
      refine runs_seq ?_
      refine runs_region ?_
      refine rl0 (gn rfl) rfl rfl (step_as rfl rfl) trivial ?_
      refine runsL_nil ?_
      refine runs_block ?_
      have hs1_ : bC (ofR (l.take i)) = bC (mdR l i 0) := by (exact md_0 l i)
      refine runs_loop (fun (ri_ : Nat) (st_ : Go.Vm.S) => ∃ (c : Nat) (m1 : Nat) (b1 : Nat → Box), (st_ = ⟨mk [(0, .sl 2 (l.map spB)), (2, .ref (n + 0) 0), (3, .ref (n + 1) 0), (4, .sc (.int .i64 (i : Int))), (5, .sc (.int .i64 (c : Int))), (6, .sc (.int .i64 (i : Int))), (7, .sl 2 (l.map spB)), (8, .sc (.int .i64 l.length)), (9, .sc (.bool true))], m1, b1⟩) ∧ (ri_ = 1 + (256 - c)) ∧ (m0 + 0 ≤ m1) ∧ (∀ k_, k_ < n → b1 k_ = bx k_) ∧ (b1 (n + 0) = .cells (List.replicate 256 (.sc (.bool false)))) ∧ (b1 (n + 1) = .cells (bC (mdR l i c))) ∧ (c ≤ 256)) (1 + (256 - 0)) ⟨_, sle ?_ (Nat.le_refl _), 0, _, _, rfl, rfl, ?_⟩ ?_
      · (repeat' (first | exact trivial | refine ⟨⟨_, rfl, ?_⟩, ?_⟩ | fail)); all_goals (repeat' (first | exact VLe.refl _ | exact VLe.own_sl _ _ _ | exact VLe.fl_sl _ _ | exact VLe.nil_sl _ | exact VLe.nil_fl _ | exact VLes.refl _ | exact .nil | refine VLe.tup ?_ | refine VLe.agg ?_ | refine .cons ?_ ?_ | (rw [Int.natCast_add]; exact VLe.refl _) | exact vle_int (by omega) | exact vle_bool (by first | rfl | assumption | (simp_all; done) | fail) | (rw [← hs1_]; exact VLe.refl _) | (rw [hs1_]; exact VLe.refl _) | fail))
      · exact ⟨by omega, (fun k_ hk_ => by repeat (first | exact rfl | refine uN (by omega) ?_ | assumption | exact hf0 _ (by omega) | fail)), by first | ((repeat (first | exact uE | assumption | refine uN (by omega) ?_ | fail)); done) | exact tl_eq (by repeat (first | exact uE | assumption | refine uN (by omega) ?_ | fail)) (by first | rfl | (simp [bytesV, beB_len]; done) | (simp [bytesV, beB_len]; omega) | omega) | (rw [← hs1_]; (repeat (first | exact uE | assumption | refine uN (by omega) ?_ | fail)); done), by first | ((repeat (first | exact uE | assumption | refine uN (by omega) ?_ | fail)); done) | exact tl_eq (by repeat (first | exact uE | assumption | refine uN (by omega) ?_ | fail)) (by first | rfl | (simp [bytesV, beB_len]; done) | (simp [bytesV, beB_len]; omega) | omega) | (rw [← hs1_]; (repeat (first | exact uE | assumption | refine uN (by omega) ?_ | fail)); done), by omega⟩
      · rintro _ _ ⟨c, m1, b1, rfl, rfl, hm1, hf1, hB1_0, hB1_1, hF1_0⟩
        refine runs_know (fun hd1 => ?_)
        refine runs_bump 20 ?_
        simp only at hd1
        refine runs_seq ?_
        refine runs_seq ?_
        refine runs_region ?_
        refine rl0 (gn rfl) rfl rfl (step_mv rfl rfl) trivial ?_
        refine rl_lss (gn rfl) rfl rfl rfl rfl rfl (fun h2 => ?_) (fun h2 => ?_)
        · skip
          refine runsL_nil ?_
          refine runs_cond true (ev_mk rfl) (fun _ => ?_) (fun h_ => nomatch h_)
          refine runs_skip ?_
          refine runs_seq ?_
          refine runs_block ?_
          refine runs_seq ?_
          refine runs_region ?_
          refine rl0 (gn rfl) rfl rfl (step_mv rfl rfl) trivial ?_
          refine rl0 (gn rfl) rfl rfl (step_mv rfl rfl) trivial ?_
          refine rl0 (gn rfl) rfl rfl (step_mv rfl rfl) trivial ?_
          refine' rl0 (gn rfl) rfl rfl (step_index rfl (ev_mk rfl) (.inl rfl) (ev_mk rfl) Try.underlying22 F.sz24 (by omega) ?hr) trivial ?_
          case hr => exact map_at _ _ _ (by omega) (by omega)
          refine rl0 (gn rfl) rfl rfl (step_fieldAddr_ro (off := 0) rfl (ev_mk rfl) Try.underlying24 rfl F.sz5 rfl rfl) trivial ?_
          refine rl0 (gn rfl) rfl rfl (step_load_ro rfl (ev_mk rfl) F.one5 rfl) trivial ?_
          refine rl0 (gn rfl) rfl rfl (step_conv_id rfl rfl Try.underlying5 Try.underlying3 (w64 (by omega))) trivial ?_
          refine rl_geq (gn rfl) rfl rfl rfl rfl rfl (fun h3 => ?_) (fun h3 => ?_)
          · skip
            refine rl0 (gn rfl) rfl rfl (step_mv rfl rfl) trivial ?_
            refine rl0 (gy rfl rfl rfl rfl rfl rfl) rfl rfl (step_mv rfl rfl) trivial ?_
            refine rl0 (gy rfl rfl rfl rfl rfl rfl) rfl rfl (step_mv rfl rfl) trivial ?_
            refine rl0 (gy rfl rfl rfl rfl rfl rfl) rfl rfl (step_mv rfl rfl) trivial ?_
            refine' rl0 (gy rfl rfl rfl rfl rfl rfl) rfl rfl (step_index rfl (ev_mk rfl) (.inl rfl) (ev_mk rfl) Try.underlying22 F.sz24 (by omega) ?hr) trivial ?_
            case hr => exact map_at _ _ _ (by omega) (by omega)
            refine rl0 (gy rfl rfl rfl rfl rfl rfl) rfl rfl (step_fieldAddr_ro (off := 1) rfl (ev_mk rfl) Try.underlying24 rfl F.sz5 rfl rfl) trivial ?_
            refine rl0 (gy rfl rfl rfl rfl rfl rfl) rfl rfl (step_load_ro rfl (ev_mk rfl) F.one5 rfl) trivial ?_
            refine rl0 (gy rfl rfl rfl rfl rfl rfl) rfl rfl (step_conv_id rfl rfl Try.underlying5 Try.underlying3 (w64 (by omega))) trivial ?_
            refine rl_leq (gy rfl rfl rfl rfl rfl rfl) rfl rfl rfl rfl rfl (fun h4 => ?_) (fun h4 => ?_)
            · skip
              refine rl0 (gn rfl) rfl rfl (step_pick rfl (ev_mk rfl) (ev_mk rfl)) trivial ?_
              refine runsL_nil ?_
              refine runs_cond true (ev_mk rfl) (fun _ => ?_) (fun h_ => nomatch h_)
              refine runs_region ?_
              refine rl0 (gn rfl) rfl rfl (step_mv rfl rfl) trivial ?_
              refine rl0 (gn rfl) rfl rfl (step_index_arr rfl (ev_mk rfl) (ev_mk rfl) Try.underlying31 F.sz4 (by omega) (by omega)) trivial ?_
              refine' rls (gn rfl) rfl (step_store1 (cs' := bC (mdR l i (c + 1))) rfl rfl rfl rfl F.one4 rfl rfl ?hl ?hc) ⟨?hb, trivial⟩ ?hk ?_
              case hb => repeat (first | exact uE | refine uN (by omega) ?_ | assumption | exact hd _ (by omega) | exact hd0 _ (by omega) | exact hd1 _ (by omega) | fail)
              case hl => (rw [bC_len]; omega)
              case hc => (rw [bC_set (k := c) (by omega)]; exact md_y (by omega))
              case hk => omega
              refine runsL_nil ?_
              refine runs_region ?_
              refine rl0 (gn rfl) rfl rfl (step_mv rfl rfl) trivial ?_
              refine rl0 (gn rfl) rfl rfl (step_add rfl (ev_mk rfl) (ev_mk rfl) (w64 (by omega))) trivial ?_
              refine rl0 (gn rfl) rfl rfl (step_as rfl rfl) trivial ?_
              refine runsL_nil ?_
              refine ⟨_, _, ?_, sle ?_ (Nat.le_refl _), (c + 1), _, _, rfl, rfl, by omega, (fun k_ hk_ => by repeat (first | exact hf1 k_ hk_ | exact hf0 k_ hk_ | refine uN (by first | assumption | omega) ?_ | fail)), by first | ((repeat (first | exact uE | assumption | refine uN (by omega) ?_ | fail)); done) | exact tl_eq (by repeat (first | exact uE | assumption | refine uN (by omega) ?_ | fail)) (by first | rfl | (simp [bytesV, beB_len]; done) | (simp [bytesV, beB_len]; omega) | omega), by first | ((repeat (first | exact uE | assumption | refine uN (by omega) ?_ | fail)); done) | exact tl_eq (by repeat (first | exact uE | assumption | refine uN (by omega) ?_ | fail)) (by first | rfl | (simp [bytesV, beB_len]; done) | (simp [bytesV, beB_len]; omega) | omega), by omega⟩
              · omega
              · (repeat' (first | exact trivial | refine ⟨⟨_, rfl, ?_⟩, ?_⟩ | fail)); all_goals (repeat' (first | exact VLe.refl _ | exact VLe.own_sl _ _ _ | exact VLe.fl_sl _ _ | exact VLe.nil_sl _ | exact VLe.nil_fl _ | exact VLes.refl _ | exact .nil | refine VLe.tup ?_ | refine VLe.agg ?_ | refine .cons ?_ ?_ | (rw [Int.natCast_add]; exact VLe.refl _) | exact vle_int (by omega) | exact vle_bool (by first | rfl | assumption | (simp_all; done) | fail) | fail))
            · skip
              have hmn_ := md_n (l := l) (i := i) (n := c) (by omega)
              refine rl0 (gn rfl) rfl rfl (step_pick rfl (ev_mk rfl) (ev_mk rfl)) trivial ?_
              refine runsL_nil ?_
              refine runs_cond false (ev_mk rfl) (fun h_ => nomatch h_) (fun _ => ?_)
              refine runs_skip ?_
              refine runs_region ?_
              refine rl0 (gn rfl) rfl rfl (step_mv rfl rfl) trivial ?_
              refine rl0 (gn rfl) rfl rfl (step_add rfl (ev_mk rfl) (ev_mk rfl) (w64 (by omega))) trivial ?_
              refine rl0 (gn rfl) rfl rfl (step_as rfl rfl) trivial ?_
              refine runsL_nil ?_
              have hq1_ : bC (mdR l i c) = bC (mdR l i (c + 1)) := by (first | exact hmn_ | rfl)
              refine ⟨_, _, ?_, sle ?_ (Nat.le_refl _), (c + 1), _, _, rfl, rfl, by omega, (fun k_ hk_ => by repeat (first | exact hf1 k_ hk_ | exact hf0 k_ hk_ | refine uN (by first | assumption | omega) ?_ | fail)), by first | ((repeat (first | exact uE | assumption | refine uN (by omega) ?_ | fail)); done) | exact tl_eq (by repeat (first | exact uE | assumption | refine uN (by omega) ?_ | fail)) (by first | rfl | (simp [bytesV, beB_len]; done) | (simp [bytesV, beB_len]; omega) | omega) | (rw [← hq1_]; (repeat (first | exact uE | assumption | refine uN (by omega) ?_ | fail)); done), by first | ((repeat (first | exact uE | assumption | refine uN (by omega) ?_ | fail)); done) | exact tl_eq (by repeat (first | exact uE | assumption | refine uN (by omega) ?_ | fail)) (by first | rfl | (simp [bytesV, beB_len]; done) | (simp [bytesV, beB_len]; omega) | omega) | (rw [← hq1_]; (repeat (first | exact uE | assumption | refine uN (by omega) ?_ | fail)); done), by omega⟩
              · omega
              · (repeat' (first | exact trivial | refine ⟨⟨_, rfl, ?_⟩, ?_⟩ | fail)); all_goals (repeat' (first | exact VLe.refl _ | exact VLe.own_sl _ _ _ | exact VLe.fl_sl _ _ | exact VLe.nil_sl _ | exact VLe.nil_fl _ | exact VLes.refl _ | exact .nil | refine VLe.tup ?_ | refine VLe.agg ?_ | refine .cons ?_ ?_ | (rw [Int.natCast_add]; exact VLe.refl _) | exact vle_int (by omega) | exact vle_bool (by first | rfl | assumption | (simp_all; done) | fail) | (rw [← hq1_]; exact VLe.refl _) | (rw [hq1_]; exact VLe.refl _) | fail))
          · skip
            have hmn_ := md_n (l := l) (i := i) (n := c) (by omega)
            refine rl0 (gn rfl) rfl rfl (step_mv rfl rfl) trivial ?_
            refine rlk rfl rfl rfl rfl rfl (ngb rfl rfl) rfl rfl ?_
            refine rlk rfl rfl rfl rfl rfl (ngb rfl rfl) rfl rfl ?_
            refine rlk rfl rfl rfl rfl rfl (ngb rfl rfl) rfl rfl ?_
            refine rlk rfl rfl rfl rfl rfl (ngb rfl rfl) rfl rfl ?_
            refine rlk rfl rfl rfl rfl rfl (ngb rfl rfl) rfl rfl ?_
            refine rlk rfl rfl rfl rfl rfl (ngb rfl rfl) rfl rfl ?_
            refine rlk rfl rfl rfl rfl rfl (ngb rfl rfl) rfl rfl ?_
            refine rlk rfl rfl rfl rfl rfl (ngb rfl rfl) rfl rfl ?_
            refine rl0 (gn rfl) rfl rfl (step_pick rfl (ev_mk rfl) (ev_mk rfl)) trivial ?_
            refine runsL_nil ?_
            refine runs_cond false (ev_mk rfl) (fun h_ => nomatch h_) (fun _ => ?_)
            refine runs_skip ?_
            refine runs_region ?_
            refine rl0 (gn rfl) rfl rfl (step_mv rfl rfl) trivial ?_
            refine rl0 (gn rfl) rfl rfl (step_add rfl (ev_mk rfl) (ev_mk rfl) (w64 (by omega))) trivial ?_
            refine rl0 (gn rfl) rfl rfl (step_as rfl rfl) trivial ?_
            refine runsL_nil ?_
            have hq1_ : bC (mdR l i c) = bC (mdR l i (c + 1)) := by (first | exact hmn_ | rfl)
            refine ⟨_, _, ?_, sle ?_ (Nat.le_refl _), (c + 1), _, _, rfl, rfl, by omega, (fun k_ hk_ => by repeat (first | exact hf1 k_ hk_ | exact hf0 k_ hk_ | refine uN (by first | assumption | omega) ?_ | fail)), by first | ((repeat (first | exact uE | assumption | refine uN (by omega) ?_ | fail)); done) | exact tl_eq (by repeat (first | exact uE | assumption | refine uN (by omega) ?_ | fail)) (by first | rfl | (simp [bytesV, beB_len]; done) | (simp [bytesV, beB_len]; omega) | omega) | (rw [← hq1_]; (repeat (first | exact uE | assumption | refine uN (by omega) ?_ | fail)); done), by first | ((repeat (first | exact uE | assumption | refine uN (by omega) ?_ | fail)); done) | exact tl_eq (by repeat (first | exact uE | assumption | refine uN (by omega) ?_ | fail)) (by first | rfl | (simp [bytesV, beB_len]; done) | (simp [bytesV, beB_len]; omega) | omega) | (rw [← hq1_]; (repeat (first | exact uE | assumption | refine uN (by omega) ?_ | fail)); done), by omega⟩
            · omega
            · (repeat' (first | exact trivial | refine ⟨⟨_, rfl, ?_⟩, ?_⟩ | fail)); all_goals (repeat' (first | exact VLe.refl _ | exact VLe.own_sl _ _ _ | exact VLe.fl_sl _ _ | exact VLe.nil_sl _ | exact VLe.nil_fl _ | exact VLes.refl _ | exact .nil | refine VLe.tup ?_ | refine VLe.agg ?_ | refine .cons ?_ ?_ | (rw [Int.natCast_add]; exact VLe.refl _) | exact vle_int (by omega) | exact vle_bool (by first | rfl | assumption | (simp_all; done) | fail) | (rw [← hq1_]; exact VLe.refl _) | (rw [hq1_]; exact VLe.refl _) | fail))
        · skip
          obtain rfl : c = 256 := by omega
          have hme_ := md_e (l := l) (i := i) (by omega)
          refine runsL_nil ?_
          refine runs_cond false (ev_mk rfl) (fun h_ => nomatch h_) (fun _ => ?_)
          refine runs_exit ?_
          refine runs_region ?_
          refine rl0 (gn rfl) rfl rfl (step_mv rfl rfl) trivial ?_
          refine rl0 (gn rfl) rfl rfl (step_add rfl (ev_mk rfl) (ev_mk rfl) (w64 (by omega))) trivial ?_
          refine rl0 (gn rfl) rfl rfl (step_as rfl rfl) trivial ?_
          refine runsL_nil ?_
          have hq1_ : bC (mdR l i 256) = bC (ofR (l.take (i + 1))) := by (exact hme_)
          refine ⟨_, _, ?_, sle ?_ (Nat.le_refl _), (i + 1), _, _, rfl, rfl, by omega, (fun k_ hk_ => by repeat (first | exact hf0 k_ hk_ | exact hf1 k_ hk_ | refine uN (by first | assumption | omega) ?_ | fail)), by first | ((repeat (first | exact uE | assumption | refine uN (by omega) ?_ | fail)); done) | exact tl_eq (by repeat (first | exact uE | assumption | refine uN (by omega) ?_ | fail)) (by first | rfl | (simp [bytesV, beB_len]; done) | (simp [bytesV, beB_len]; omega) | omega) | (rw [← hq1_]; (repeat (first | exact uE | assumption | refine uN (by omega) ?_ | fail)); done), by first | ((repeat (first | exact uE | assumption | refine uN (by omega) ?_ | fail)); done) | exact tl_eq (by repeat (first | exact uE | assumption | refine uN (by omega) ?_ | fail)) (by first | rfl | (simp [bytesV, beB_len]; done) | (simp [bytesV, beB_len]; omega) | omega) | (rw [← hq1_]; (repeat (first | exact uE | assumption | refine uN (by omega) ?_ | fail)); done), by omega⟩
          · omega
          · (repeat' (first | exact trivial | refine ⟨⟨_, rfl, ?_⟩, ?_⟩ | fail)); all_goals (repeat' (first | exact VLe.refl _ | exact VLe.own_sl _ _ _ | exact VLe.fl_sl _ _ | exact VLe.nil_sl _ | exact VLe.nil_fl _ | exact VLes.refl _ | exact .nil | refine VLe.tup ?_ | refine VLe.agg ?_ | refine .cons ?_ ?_ | (rw [Int.natCast_add]; exact VLe.refl _) | exact vle_int (by omega) | exact vle_bool (by first | rfl | assumption | (simp_all; done) | fail) | (rw [← hq1_]; exact VLe.refl _) | (rw [hq1_]; exact VLe.refl _) | fail))
    · skip
      obtain rfl : i = l.length := by omega
      refine runsL_nil ?_
      refine runs_cond false (ev_mk rfl) (fun h_ => nomatch h_) (fun _ => ?_)
      refine runs_exit ?_
      refine runs_seq ?_
      refine runs_region ?_
      refine' rl0 (gn rfl) rfl rfl (step_load_all rfl rfl F.agg31 ?hl) ⟨?hb, trivial⟩ ?_
      case hb => repeat (first | exact uE | refine uN (by omega) ?_ | assumption | exact hd _ (by omega) | exact hd0 _ (by omega) | fail)
      case hl => first | rfl | (simp; done) | (first | exact bC_len _ | (simp; done) | (rw [bC_len]; omega) | omega)
      refine' rls (gn rfl) rfl (step_storeA rfl rfl rfl rfl F.agg31 ?hm ?hl) ⟨?hb, trivial⟩ ?hk ?_
      case hb => repeat (first | exact uE | refine uN (by omega) ?_ | assumption | exact hd _ (by omega) | exact hd0 _ (by omega) | fail)
      case hm => first | rfl | (simp; done) | (first | exact bC_len _ | (simp; done) | (rw [bC_len]; omega) | omega)
      case hl => first | rfl | (simp; done) | (first | exact bC_len _ | (simp; done) | (rw [bC_len]; omega) | omega)
      case hk => omega
      refine runsL_nil ?_
      refine runs_ret ?_
      refine ⟨by first | exact .inr rfl | exact .inl rfl, fin_mkg (resc rfl (by repeat (first | exact uE | refine uN (by omega) ?_ | assumption | exact hd _ (by omega) | exact hd0 _ (by omega) | fail)) F.agg31 (by first | rfl | (simp; done) | (first | exact bC_len _ | (simp; done) | (rw [bC_len]; omega) | omega)) res0) ?_ ?_ ?_ ?_ ?_⟩
      · (repeat' (first | exact VLe.refl _ | exact VLe.own_sl _ _ _ | exact VLe.fl_sl _ _ | exact VLe.nil_sl _ | exact VLe.nil_fl _ | exact VLes.refl _ | exact .nil | refine VLe.tup ?_ | refine VLe.agg ?_ | refine .cons ?_ ?_ | (rw [Int.natCast_add]; exact VLe.refl _) | exact vle_int (by omega) | exact vle_bool (by first | rfl | assumption | (simp_all; done) | fail) | ((rw [List.take_length]; exact VLes.refl _)) | fail))
      · first | ((repeat (first | exact trivial | exact bd_bCA _ _ | exact bd_bC _ _ | assumption | omega | (refine bdR_map (fun _ => ?_)) | refine ⟨?_, ?_⟩ | fail)); done) | (repeat (first | exact trivial | assumption | omega | (refine bdR_map (fun _ => ?_)) | (refine bdL_map (fun _ => ?_)) | refine ⟨?_, ?_⟩ | fail))
      · intro k_ hk_; exact ble (by repeat (first | exact rfl | refine uN (by omega) ?_ | assumption | exact hf0 _ (by omega) | fail))
      · intro p hp; cases hp
      · first | ((repeat (first | exact trivial | exact bd_bCA _ _ | exact bd_bC _ _ | assumption | omega | (refine bdR_map (fun _ => ?_)) | refine ⟨?_, ?_⟩ | fail)); done) | (repeat (first | exact trivial | assumption | omega | (refine bdR_map (fun _ => ?_)) | (refine bdL_map (fun _ => ?_)) | refine ⟨?_, ?_⟩ | fail))
set_option maxRecDepth 100000 in
set_option maxHeartbeats 4000000 in
theorem own_c (l : List Sp) (hl : l.length ≤ 1000) : Does Try.prog 8 [.sl 2 (l.map spB)] [] [] (.sl 2 (l.map spB)) := by
  refine does_mkg 40 Try.func8 rfl rfl rfl (fun n B bx hd hpre hup hvs hbx hgx => ?_)
  refine runs_seq ?_
  refine runs_region ?_
  refine rl0 (gn rfl) rfl rfl (step_as rfl rfl) trivial ?_
  refine runsL_nil ?_
  refine runs_seq ?_
  refine runs_region ?_
  refine rl0 (gn rfl) rfl rfl (step_as rfl rfl) trivial ?_
  refine runsL_nil ?_
  refine runs_seq ?_
  refine runs_seq ?_
  refine runs_region ?_
  refine rl0 (gn rfl) rfl rfl (step_as rfl rfl) trivial ?_
  refine runsL_nil ?_
  refine runs_block ?_
  refine runs_grow (l' := []) (d := 3) (k := n + 0) (e := 2) (xs := []) rfl (.inr ⟨rfl, rfl⟩) (by repeat (first | exact uE | refine uN (by omega) ?_ | assumption | exact hd _ (by omega) | fail)) (by omega) ?_
  have hs0_ : [] = ((l.take 0).map spB) := by rfl
  refine runs_loop (fun (ri_ : Nat) (st_ : Go.Vm.S) => ∃ (i : Nat) (m0 : Nat) (b0 : Nat → Box), (st_ = ⟨mk [(0, .sl 2 (l.map spB)), (2, .sc (.slice none 0 0)), (3, .own 2 ((l.take i).map spB) (n + 0)), (4, .sc (.int .i64 (i : Int)))], m0, b0⟩) ∧ (ri_ = 1 + (l.length - i)) ∧ (n + 1 ≤ m0) ∧ (∀ k_, k_ < n → b0 k_ = bx k_) ∧ (b0 (n + 0) = .tail ((l.take i).map spB).length) ∧ (i ≤ l.length)) (1 + (l.length - 0)) ⟨_, sle ?_ (Nat.le_refl _), 0, _, _, rfl, rfl, ?_⟩ ?_
  · (repeat' (first | exact trivial | refine ⟨⟨_, rfl, ?_⟩, ?_⟩ | fail)); all_goals (repeat' (first | exact VLe.refl _ | exact VLe.own_sl _ _ _ | exact VLe.fl_sl _ _ | exact VLe.nil_sl _ | exact VLe.nil_fl _ | exact VLes.refl _ | exact .nil | refine VLe.tup ?_ | refine VLe.agg ?_ | refine .cons ?_ ?_ | (rw [Int.natCast_add]; exact VLe.refl _) | exact vle_int (by omega) | exact vle_bool (by first | rfl | assumption | (simp_all; done) | fail) | (rw [← hs0_]; exact VLe.refl _) | (rw [hs0_]; exact VLe.refl _) | fail))
  · exact ⟨by omega, (fun k_ hk_ => by repeat (first | exact rfl | refine uN (by omega) ?_ | assumption | fail)), by first | ((repeat (first | exact uE | assumption | refine uN (by omega) ?_ | fail)); done) | exact tl_eq (by repeat (first | exact uE | assumption | refine uN (by omega) ?_ | fail)) (by first | rfl | (simp [bytesV, beB_len]; done) | (simp [bytesV, beB_len]; omega) | omega) | (rw [← hs0_]; (repeat (first | exact uE | assumption | refine uN (by omega) ?_ | fail)); done), by omega⟩
  · rintro _ _ ⟨i, m0, b0, rfl, rfl, hm0, hf0, hB0_0, hF0_0⟩
    refine runs_know (fun hd0 => ?_)
    refine runs_bump 20 ?_
    simp only at hd0
    refine runs_seq ?_
    refine runs_seq ?_
    refine runs_region ?_
    refine rl0 (gn rfl) rfl rfl (step_mv rfl rfl) trivial ?_
    refine rl0 (gn rfl) rfl rfl (step_mv rfl rfl) trivial ?_
    refine rl0 (gn rfl) rfl rfl (step_len (m := l.length) rfl rfl (ev_mk rfl) (.inl ⟨⟨_, Try.underlying22⟩, .inl ⟨_, _, .inl rfl, List.length_map _⟩⟩)) trivial ?_
    refine rl_lss (gn rfl) rfl rfl rfl rfl rfl (fun h1 => ?_) (fun h1 => ?_)
    · skip
      refine runsL_nil ?_
      refine runs_cond true (ev_mk rfl) (fun _ => ?_) (fun h_ => nomatch h_)
      refine runs_skip ?_
      refine runs_seq ?_
      refine runs_block ?_
      refine runs_draw (by kernel_rfl) (by kernel_rfl) (by kernel_rfl) ?_
      refine dl0 (gn rfl) rfl rfl (step_mv rfl rfl) trivial ?_
      refine dl0 (gn rfl) rfl rfl (step_mv rfl rfl) trivial ?_
      refine dl0 (gn rfl) rfl rfl (step_mv rfl rfl) trivial ?_
      refine' dl0 (gn rfl) rfl rfl (step_index rfl (ev_mk rfl) (.inl rfl) (ev_mk rfl) Try.underlying22 F.sz24 (by omega) ?hr) trivial ?_
      case hr => exact map_at _ _ _ (by omega) (by omega)
      refine dl0 (gn rfl) rfl rfl (step_fieldAddr_ro (off := 0) rfl (ev_mk rfl) Try.underlying24 rfl F.sz5 rfl rfl) trivial ?_
      refine dl0 (gn rfl) rfl rfl (step_load_ro rfl (ev_mk rfl) F.one5 rfl) trivial ?_
      refine dl0 (gn rfl) rfl rfl (step_mv rfl rfl) trivial ?_
      refine dl0 (gn rfl) rfl rfl (step_mv rfl rfl) trivial ?_
      refine' dl0 (gn rfl) rfl rfl (step_index rfl (ev_mk rfl) (.inl rfl) (ev_mk rfl) Try.underlying22 F.sz24 (by omega) ?hr) trivial ?_
      case hr => exact map_at _ _ _ (by omega) (by omega)
      refine dl0 (gn rfl) rfl rfl (step_fieldAddr_ro (off := 1) rfl (ev_mk rfl) Try.underlying24 rfl F.sz5 rfl rfl) trivial ?_
      refine dl0 (gn rfl) rfl rfl (step_load_ro rfl (ev_mk rfl) F.one5 rfl) trivial ?_
      refine dl0 (gn rfl) rfl rfl (step_build (ss := [1, 1]) (zs := [.int .u8 0, .int .u8 0]) (cs := [.sc (.int .u8 (at' l (i : Int)).lo), .sc (.int .u8 (at' l (i : Int)).hi)]) rfl Try.underlying37 (by kernel_rfl) F.zero37 rfl rfl rfl) trivial ?_
      refine dl0 (gn rfl) rfl rfl (step_lit rfl Try.underlying26 F.sz37 F.zero37 (by first | rfl | simp) (by first | rfl | simp | decide) (by decide) rfl rfl (by first | (simp [V.cs, V.stor, oneV]; done) | (simp [V.cs, V.stor, oneV])) rfl) trivial ?_
      refine' dl1 (gn rfl) rfl rfl (step_append_own rfl rfl rfl Try.underlying26 ⟨_, Try.underlying26, fun k_ => by intro h_; cases h_⟩ F.el37 (ev_mk rfl) (ev_mk rfl) (gives_sl (.inr (.inl rfl))) ?hg) ⟨?hb, trivial⟩ (by omega) ?_
      case hb => repeat (first | exact uE | refine uN (by omega) ?_ | assumption | exact hd _ (by omega) | exact hd0 _ (by omega) | fail)
      case hg => first | (simp; omega) | (simp; done) | omega
      refine dl0 (gn rfl) rfl rfl (step_as rfl rfl) trivial ?_
      refine dlnil ?_ ?_
      · repeat' (first | exact trivial | exact .inr (ap0 _ _ _ _) | exact .inr (ap2 _ _ _ _) | exact .inr (ap3 _ _ _ _) | exact .inr ⟨by first | (simp; done) | (simp; omega), by first | (simp; done) | (simp; omega)⟩ | exact .inl (by kernel_rfl) | refine ⟨?_, ?_⟩ | fail)
      refine runs_region ?_
      refine rl0 (gn rfl) rfl rfl (step_mv rfl rfl) trivial ?_
      refine rl0 (gn rfl) rfl rfl (step_add rfl (ev_mk rfl) (ev_mk rfl) (w64 (by omega))) trivial ?_
      refine rl0 (gn rfl) rfl rfl (step_as rfl rfl) trivial ?_
      refine runsL_nil ?_
      have hq0_ : (((l.take i).map spB) ++ [[V.sc (.int .u8 (at' l (i : Int)).lo), V.sc (.int .u8 (at' l (i : Int)).hi)]]) = ((l.take (i + 1)).map spB) := by (rw [List.take_add_one, oat (by omega)]; simp; done)
      refine ⟨_, _, ?_, sle ?_ (Nat.le_refl _), (i + 1), _, _, rfl, rfl, by omega, (fun k_ hk_ => by repeat (first | exact hf0 k_ hk_ | refine uN (by first | assumption | omega) ?_ | fail)), by first | ((repeat (first | exact uE | assumption | refine uN (by omega) ?_ | fail)); done) | exact tl_eq (by repeat (first | exact uE | assumption | refine uN (by omega) ?_ | fail)) (by first | rfl | (simp [bytesV, beB_len]; done) | (simp [bytesV, beB_len]; omega) | omega) | (rw [← hq0_]; (repeat (first | exact uE | assumption | refine uN (by omega) ?_ | fail)); done), by omega⟩
      · omega
      · (repeat' (first | exact trivial | refine ⟨⟨_, rfl, ?_⟩, ?_⟩ | fail)); all_goals (repeat' (first | exact VLe.refl _ | exact VLe.own_sl _ _ _ | exact VLe.fl_sl _ _ | exact VLe.nil_sl _ | exact VLe.nil_fl _ | exact VLes.refl _ | exact .nil | refine VLe.tup ?_ | refine VLe.agg ?_ | refine .cons ?_ ?_ | (rw [Int.natCast_add]; exact VLe.refl _) | exact vle_int (by omega) | exact vle_bool (by first | rfl | assumption | (simp_all; done) | fail) | (rw [← hq0_]; exact VLe.refl _) | (rw [hq0_]; exact VLe.refl _) | fail))
    · skip
      obtain rfl : i = l.length := by omega
      refine runsL_nil ?_
      refine runs_cond false (ev_mk rfl) (fun h_ => nomatch h_) (fun _ => ?_)
      refine runs_exit ?_
      refine runs_seq ?_
      refine runs_region ?_
      refine rl0 (gn rfl) rfl rfl (step_mv rfl rfl) trivial ?_
      refine rl0 (gn rfl) rfl rfl (step_as rfl rfl) trivial ?_
      refine runsL_nil ?_
      refine runs_ret ?_
      refine ⟨by first | exact .inr rfl | exact .inl rfl, fin_mkg (rest rfl res0) ?_ ?_ ?_ ?_ ?_⟩
      · (repeat' (first | exact VLe.refl _ | exact VLe.own_sl _ _ _ | exact VLe.fl_sl _ _ | exact VLe.nil_sl _ | exact VLe.nil_fl _ | exact VLes.refl _ | exact .nil | refine VLe.tup ?_ | refine VLe.agg ?_ | refine .cons ?_ ?_ | (rw [Int.natCast_add]; exact VLe.refl _) | exact vle_int (by omega) | exact vle_bool (by first | rfl | assumption | (simp_all; done) | fail) | (exact vle_os (by rw [List.take_length])) | fail))
      · repeat (first | exact trivial | assumption | omega | (refine bdR_map (fun _ => ?_)) | (refine bdL_map (fun _ => ?_)) | refine ⟨?_, ?_⟩ | fail)
      · intro k_ hk_; exact ble (by repeat (first | exact rfl | refine uN (by omega) ?_ | assumption | exact hf0 _ (by omega) | fail))
      · intro p hp; cases hp
      · repeat (first | exact trivial | assumption | omega | (refine bdR_map (fun _ => ?_)) | (refine bdL_map (fun _ => ?_)) | refine ⟨?_, ?_⟩ | fail)
end Go.Proofs.Ytgnbdegpljbckaa
