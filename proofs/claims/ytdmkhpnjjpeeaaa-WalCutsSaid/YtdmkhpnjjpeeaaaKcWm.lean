import Derived.Test.YtdmkhpnjjpeeaaaKcQq
import Derived.Test.YtdmkhpnjjpeeaaaKcVmP
import Derived.Test.YtdmkhpnjjpeeaaaKcVmT
import Derived.Test.YtdmkhpnjjpeeaaaKcWa
import Derived.Test.YtdmkhpnjjpeeaaaKcWc
import Derived.Test.YtdmkhpnjjpeeaaaKcWd
import Derived.Test.YtdmkhpnjjpeeaaaKcWe
import Derived.Test.YtdmkhpnjjpeeaaaKcVd
import Derived.Test.YtdmkhpnjjpeeaaaKcVe
import Derived.Test.YtdmkhpnjjpeeaaaKcVj
import Derived.Test.YtdmkhpnjjpeeaaaKcVk
import Derived.Test.YtdmkhpnjjpeeaaaKcVn
import Derived.Test.YtdmkhpnjjpeeaaaKcWh
import Derived.Test.YtdmkhpnjjpeeaaaKcVmZ
import Derived.Test.YtdmkhpnjjpeeaaaKcVq
import Derived.Test.YtdmkhpnjjpeeaaaKcVr
import Derived.Test.YtdmkhpnjjpeeaaaKcVt
import Derived.Test.YtdmkhpnjjpeeaaaKcVu
import Derived.Test.YtdmkhpnjjpeeaaaKcVw
import Derived.Test.YtdmkhpnjjpeeaaaKcVx
import Derived.Test.YtdmkhpnjjpeeaaaKcWj
namespace Go.Proofs.Ytdmkhpnjjpeeaaa
open Go.Vm
set_option linter.unusedVariables false
set_option linter.unusedSimpArgs false
open Crc
theorem at_app {es : List En} {x : En} {j : Nat} (h : j < es.length) : at' (es ++ [x]) (j : Int) = at' es (j : Int) := by
  rw [at_nat _ _ t_119, at_nat _ _ h, List.getElem_append_left h]
theorem at_end (es : List En) (x : En) : at' (es ++ [x]) (es.length : Int) = x := by
  rw [at_nat _ _ (by rw [List.length_append]; simp), List.getElem_append_right (Nat.le_refl _)]; simp
theorem off_app {es : List En} {x : En} : ∀ {j : Nat}, j ≤ es.length → off (es ++ [x]) j = off es j
  | 0, _ => rfl
  | j + 1, h => by show off _ j + wE _ = off _ j + wE _; rw [off_app (by omega), at_app (by omega)]
theorem ssL_app {es : List En} {x : En} : ∀ {j : Nat}, j ≤ es.length → ssL (es ++ [x]) j = ssL es j
  | 0, _ => rfl
  | j + 1, h => by show ssL _ j ++ cutB _ _ = ssL _ j ++ cutB _ _; rw [ssL_app (by omega), at_app (by omega), off_app (by omega)]
theorem off_snoc (es : List En) (x : En) : off (es ++ [x]) (es ++ [x]).length = off es es.length + wE x := by
  rw [List.length_append]; show off _ es.length + wE _ = _; rw [off_app (Nat.le_refl _), at_end]
theorem ssL_snoc (es : List En) (x : En) : ssL (es ++ [x]) (es ++ [x]).length = ssL es es.length ++ cutB (bE x) (off es es.length) := by
  rw [List.length_append]; show ssL _ es.length ++ cutB _ _ = _; rw [ssL_app (Nat.le_refl _), at_end, off_app (Nat.le_refl _)]
theorem log_snoc {es : List En} {x : En} (h : LogOK es) (hx : okL x) (hl : x.lsn = (off es es.length : Int) + 1) : LogOK (es ++ [x]) := by
  refine ⟨fun e he => ?_, fun j hj => ?_⟩
  · rcases List.mem_append.1 he with he | he
    · exact h.ok e he
    · obtain rfl := List.mem_singleton.1 he; exact hx
  · rw [List.length_append] at hj
    have hj' : j < es.length + 1 := hj
    by_cases e : j = es.length
    · subst e; rw [at_end, off_app (Nat.le_refl _)]; exact hl
    · rw [at_app (by omega), off_app (by omega)]; exact h.lsn j (by omega)
def kpF (turn : Int) (z : Nat) : List Bool := (List.range z).map fun q : Nat => ((q : Int) != turn)
theorem kpF_len (turn : Int) (z : Nat) : (kpF turn z).length = z := by unfold kpF; rw [List.length_map, List.length_range]
theorem kpF_s (turn : Int) (z : Nat) : boolsV (kpF turn z) ++ [[.sc (.bool ((z : Int) != turn))]] = boolsV (kpF turn (z + 1)) := by
  unfold kpF boolsV; rw [List.range_succ, List.map_append, List.map_append]; rfl
def okC (K : Nat) (turn : Int) (q : Nat) : Bool := decide (q < K) && ((q : Int) != turn)
theorem okW_kp (K : Nat) (turn : Int) : okW 0 (kpF turn K) = okC K turn := by
  funext q
  unfold okW okC
  rw [decide_eq_false (Nat.not_lt_zero _), Bool.false_or, Nat.sub_zero, List.getD_eq_getElem?_getD]
  rcases Nat.lt_or_ge q K with h | h
  · rw [decide_eq_true h, Bool.true_and]; unfold kpF; rw [List.getElem?_map, List.getElem?_range h]; rfl
  · rw [decide_eq_false (by omega), Bool.false_and, List.getElem?_eq_none t_128]; rfl
def tcut (ss : List (List Int)) (K : Nat) (turn : Int) : List (List Int) := if 0 ≤ turn ∧ turn < K then (ss.take K).set turn.toNat (List.replicate 64 0) else ss.take K
theorem tcut_y {ss : List (List Int)} {K : Nat} {turn : Int} (h : 0 ≤ turn ∧ turn < K) : (secsV (ss.take K)).set turn.toNat (List.replicate 64 (V.sc (.int .u8 0))) = secsV (tcut ss K turn) := by
  unfold tcut secsV; rw [if_pos h, List.map_set, List.map_replicate]; rfl
theorem tcut_n {ss : List (List Int)} {K : Nat} {turn : Int} (h : ¬ (0 ≤ turn ∧ turn < K)) : secsV (ss.take K) = secsV (tcut ss K turn) := by unfold tcut; rw [if_neg h]
theorem tcut_len {ss : List (List Int)} {K : Nat} {turn : Int} (h : K ≤ ss.length) : (tcut ss K turn).length = K := by
  unfold tcut; split
  · rw [List.length_set, List.length_take]; omega
  · exact t_97
theorem tcut_row {ss : List (List Int)} {K : Nat} {turn : Int} (h : ∀ r ∈ ss, r.length = 64) : ∀ r ∈ tcut ss K turn, r.length = 64 := by
  unfold tcut; split
  · intro r hr
    rcases List.mem_or_eq_of_mem_set hr with q | q
    · exact h r (List.mem_of_mem_take q)
    · rw [q]; simp
  · exact fun r hr => h r (List.mem_of_mem_take hr)
theorem tk_cut {es : List En} {K : Nat} {turn : Int} (h : K ≤ off es es.length) : TK es (tcut (ssL es es.length) K turn) (okC K turn) := by
  have hl := tcut_len (ss := ssL es es.length) (K := K) (turn := turn) (by rw [ssL_len]; exact h)
  refine TK_of (fun i hi => ?_) (fun i hi hn => ?_) (fun i hi => ?_)
  · unfold okC at hi
    rw [Bool.and_eq_true] at hi
    have h1 := of_decide_eq_true hi.1
    have h2 : (i : Int) ≠ turn := by simpa using hi.2
    unfold tcut; split
    · rw [List.getElem?_set_ne (by omega), List.getElem?_take, if_pos h1]
    · rw [List.getElem?_take, if_pos h1]
  · rw [hl] at hi
    unfold okC at hn
    rw [decide_eq_true hi, Bool.true_and] at hn
    have h2 : (i : Int) = turn := by simpa using hn
    refine (at_some (x := List.replicate 64 0) ?_).2;unfold tcut;rw [if_pos (by omega), show turn.toNat = i by omega, List.getElem?_set_self (by rw [List.length_take, ssL_len]; omega)]
  · unfold okC; rw [decide_eq_false (by omega), Bool.false_and]
theorem okC_out {K : Nat} {turn : Int} {q : Nat} (h : K ≤ q) : okC K turn q = false := by unfold okC; rw [decide_eq_false (by omega), Bool.false_and]
theorem whole_J (es : List En) (sz us dn : Nat) (kp : List Bool) (J : Nat) (hJ : whJ es (okW dn kp) es.length = J) (hes : ∀ e ∈ es, okL e) (hl : es.length ≤ 10000 ∧ dn ≤ 100000000 ∧ kp.length ≤ 100000000) : Does Try.prog 15 [.agg [.sc (.int .i64 (sz : Int)), .sl 13 (es.map enC), .sc (.int .i64 (us : Int)), .sc (.int .i64 (dn : Int))], .sl 1 (boolsV kp)] [] [] (.tup [.sl 13 ((es.take J).map enC), .sc (.int .i64 (off es J : Int))]) := by
  subst hJ; exact whole_c es sz us dn kp hes hl
set_option maxRecDepth 100000 in
set_option maxHeartbeats 4000000 in
theorem cuts_c (b : List Int) (a : Nat) (l : List En) (cut turn : Int) (hb : Byts b) (hbl : (b.length : Int) ≤ 9223372036854775807) (ha : a ≤ 65535) (hl : (l.length : Int) ≤ 9223372036854775807) (hle : ∀ e ∈ l, okEn e ∧ ((e.pages.length : Int) ≤ 9223372036854775807 ∧ (e.act.length : Int) ≤ 9223372036854775807)) (hcu : -9223372036854775808 ≤ cut ∧ cut ≤ 9223372036854775807) (htu : -9223372036854775808 ≤ turn ∧ turn ≤ 9223372036854775807) : Does Try.prog 3 [.sl 1 (bytesV b), .sc (.int .u16 (a : Int)), .sl 13 (l.map enC), .sc (.int .i64 cut), .sc (.int .i64 turn)] [] [] (.sc (.bool true)) := by
  refine does_mkg 60 Try.func3 rfl rfl rfl (fun n B bx hd hpre hup hvs hbx hgx => ?_);refine runs_seq ?_;refine runs_region ?_;refine rl0 (gn rfl) rfl rfl (step_as rfl rfl) trivial ?_;refine runsL_nil ?_;refine runs_seq ?_;refine runs_seq ?_;refine runs_region ?_;refine rl0 (gn rfl) rfl rfl (step_mv rfl rfl) trivial ?_;refine rl0 (gn rfl) rfl rfl (step_len (m := b.length) rfl rfl (ev_mk rfl) (.inl ⟨⟨_, Try.underlying22⟩, .inl ⟨_, _, .inl rfl, List.length_map _⟩⟩)) trivial ?_;refine rl_gtr (gn rfl) rfl rfl rfl rfl rfl (fun h1 => ?_) (fun h1 => ?_)
  · skip
    refine rl0 (gn rfl) rfl rfl (step_mv rfl rfl) trivial ?_;refine rlk rfl rfl rfl rfl rfl (ngb rfl rfl) rfl rfl ?_;refine rlk rfl rfl rfl rfl rfl (ngb rfl rfl) rfl rfl ?_;refine rlk rfl rfl rfl rfl rfl (ngb rfl rfl) rfl rfl ?_;refine rl0 (gn rfl) rfl rfl (step_pick rfl (ev_mk rfl) (ev_mk rfl)) trivial ?_;refine runsL_nil ?_;refine runs_cond true (ev_mk rfl) (fun _ => ?_) (fun h_ => nomatch h_);refine runs_seq ?_;refine runs_region ?_;refine rl0 (gn rfl) rfl rfl (step_callc rfl Try.func6 rfl rfl rfl (works_c) t_8) trivial ?_;refine rl0 (gn rfl) rfl rfl (step_as rfl rfl) trivial ?_;refine runsL_nil ?_;refine runs_ret ?_;refine ⟨t_17, fin_mkg (rest rfl res0) ?_ ?_ ?_ ?_ ?_⟩
    · exact t_2
    · exact t_1
    · exact t_142
    · exact t_45
    · exact t_1
  · skip
    refine rl0 (gn rfl) rfl rfl (step_mv rfl rfl) trivial ?_;refine rl0 (gy rfl rfl rfl rfl rfl rfl) rfl rfl (step_mv rfl rfl) trivial ?_;refine rl0 (gy rfl rfl rfl rfl rfl rfl) rfl rfl (step_len (m := l.length) rfl rfl (ev_mk rfl) (.inl ⟨⟨_, Try.underlying24⟩, .inl ⟨_, _, .inl rfl, List.length_map _⟩⟩)) trivial ?_;refine rl_gtr (gy rfl rfl rfl rfl rfl rfl) rfl rfl rfl rfl rfl (fun h2 => ?_) (fun h2 => ?_)
    · skip
      refine rl0 (gn rfl) rfl rfl (step_pick rfl (ev_mk rfl) (ev_mk rfl)) trivial ?_;refine runsL_nil ?_;refine runs_cond true (ev_mk rfl) (fun _ => ?_) (fun h_ => nomatch h_);refine runs_seq ?_;refine runs_region ?_;refine rl0 (gn rfl) rfl rfl (step_callc rfl Try.func6 rfl rfl rfl (works_c) t_8) trivial ?_;refine rl0 (gn rfl) rfl rfl (step_as rfl rfl) trivial ?_;refine runsL_nil ?_;refine runs_ret ?_;refine ⟨t_17, fin_mkg (rest rfl res0) ?_ ?_ ?_ ?_ ?_⟩
      · exact t_2
      · exact t_1
      · exact t_142
      · exact t_45
      · exact t_1
    · skip
      refine rl0 (gn rfl) rfl rfl (step_pick rfl (ev_mk rfl) (ev_mk rfl)) trivial ?_;refine runsL_nil ?_;refine runs_cond false (ev_mk rfl) (fun h_ => nomatch h_) (fun _ => ?_);refine runs_skip ?_;refine runs_seq ?_;refine runs_seq ?_;refine runs_region ?_;refine rl0 (gn rfl) rfl rfl (step_mv rfl rfl) trivial ?_;refine rl0 (gn rfl) rfl rfl (step_mv rfl rfl) trivial ?_;refine rl0 (gn rfl) rfl rfl (step_conv_id rfl rfl Try.underlying23 Try.underlying3 (w64 (by omega))) trivial ?_;refine rl0 (gn rfl) rfl rfl (step_callc rfl Try.func8 rfl rfl rfl (cut_c b a hb (by omega) (by omega)) t_8) trivial ?_;refine rl0 (gn rfl) rfl rfl (step_mv rfl rfl) trivial ?_;refine rl0 (gn rfl) rfl rfl (step_mv rfl rfl) trivial ?_;refine rl0 (gn rfl) rfl rfl (step_conv_id rfl rfl Try.underlying23 Try.underlying3 (w64 (by omega))) trivial ?_;refine rl0 (gn rfl) rfl rfl (step_callc rfl Try.func9 rfl rfl rfl (rcut_c b a hb (by omega) (by omega)) t_8) trivial ?_;refine rl0 (gn rfl) rfl rfl (step_callc rfl Try.func7 rfl rfl rfl (same_c (cutB b a) (cutB b a) (cutB_64 _ _) (cutB_64 _ _) (by rw [cutB_len]; unfold nS; omega) true (decide_eq_true rfl)) t_8) trivial ?_;refine rl0 (gn rfl) rfl rfl (step_unOp (c := .bool false) rfl (ev_mk rfl) (fun _ => rfl)) trivial ?_;refine rl0 (gn rfl) rfl rfl (step_mv rfl rfl) trivial ?_;refine rl0 (gy rfl rfl rfl rfl rfl rfl) rfl rfl (step_mv rfl rfl) trivial ?_;refine rl0 (gy rfl rfl rfl rfl rfl rfl) rfl rfl (step_len (m := b.length) rfl rfl (ev_mk rfl) (.inl ⟨⟨_, Try.underlying22⟩, .inl ⟨_, _, .inl rfl, List.length_map _⟩⟩)) trivial ?_;refine rl0 (gy rfl rfl rfl rfl rfl rfl) rfl rfl (step_callc rfl Try.func10 rfl rfl rfl (sectors_c b (by omega)) t_8) trivial ?_;refine rl0 (gy rfl rfl rfl rfl rfl rfl) rfl rfl (step_mv rfl rfl) trivial ?_;refine rl0 (gy rfl rfl rfl rfl rfl rfl) rfl rfl (step_callc rfl Try.func9 rfl rfl rfl (rcut_c b 0 hb (by omega) (by omega)) t_8) trivial ?_;refine rl0 (gy rfl rfl rfl rfl rfl rfl) rfl rfl (step_len (m := (nS b)) rfl rfl (ev_mk rfl) (.inl ⟨⟨_, Try.underlying27⟩, .inl ⟨_, _, .inl rfl, (by rw [secsV_len, cutB_len])⟩⟩)) trivial ?_;refine rl_neq (gy rfl rfl rfl rfl rfl rfl) rfl rfl rfl rfl rfl (fun h3 => ?_) (fun h3 => ?_)
      · exact t_42
      refine rl0 (gn rfl) rfl rfl (step_pick rfl (ev_mk rfl) (ev_mk rfl)) trivial ?_;refine runsL_nil ?_;refine runs_cond false (ev_mk rfl) (fun h_ => nomatch h_) (fun _ => ?_);refine runs_skip ?_;refine runs_seq ?_;refine runs_region ?_;refine rl0 (gn rfl) rfl rfl (step_build (ss := [1, 1, 1, 1]) (zs := [.int .i64 0, .slice none 0 0, .int .i64 0, .int .i64 0]) rfl Try.underlying31 (by kernel_rfl) F.zero31 rfl rfl rfl) trivial ?_;refine rl1 (gn rfl) rfl rfl (step_allocc (k := n + 0) (zs := [.int .i64 0, .slice none 0 0, .int .i64 0, .int .i64 0]) (cs := [.sc (.int .i64 0), .sc (.slice none 0 0), .sc (.int .i64 0), .sc (.int .i64 0)]) rfl F.zero31 t_33 t_55 t_33) ⟨t_0, trivial⟩ (by omega) ?_;refine' rls (gn rfl) rfl (step_storeA rfl rfl rfl rfl F.agg31 ?hm ?hl) ⟨?hb, trivial⟩ ?hk ?_
      case hb => exact t_0
      case hm => exact t_15
      case hl => exact t_15
      case hk => omega
      refine runsL_nil ?_;refine runs_seq ?_;refine runs_region ?_;refine rl0 (gn rfl) rfl rfl (step_as rfl rfl) trivial ?_;refine runsL_nil ?_;refine runs_seq ?_;refine runs_seq ?_;refine runs_boxle (k := n + 0) (cs' := [.sc (.int .i64 1000), .sl 13 (([] : List En).map enC), .sc (.int .i64 0), .sc (.int .i64 0)]) t_0 (by repeat (first | exact .nil | refine .cons ?_ ?_ | exact VLe.nil_sl _ | exact VLe.refl _ | exact VLe.own_sl _ _ _ | exact VLe.fl_sl _ _)) ?_;refine runs_region ?_;refine rl0 (gn rfl) rfl rfl (step_as rfl rfl) trivial ?_;refine runsL_nil ?_;refine runs_block ?_;refine runs_grow (l' := []) (d := 12) (k := n + 1) (e := 64) (xs := []) rfl (.inr ⟨rfl, rfl⟩) t_0 (by omega) ?_;have hs0_ : [] = ((secsV (ssL ([] : List En) ([] : List En).length))) := by rfl
      have hs2_ : 1000 = (1000 : Int) := by rfl
      have hs3_ : 0 = ((off ([] : List En) ([] : List En).length) : Int) := by rfl
      refine runs_loop (fun (ri_ : Nat) (st_ : Go.Vm.S) => ∃ (i : Nat) (es : List En) (m0 : Nat) (b0 : Nat → Box), (st_ = ⟨mk [(2, .sl 13 (l.map enC)), (3, .sc (.int .i64 cut)), (4, .sc (.int .i64 turn)), (10, .sc (.bool false)), (11, .ref (n + 0) 0), (12, .own 64 (secsV (ssL es es.length)) (n + 1)), (13, .sc (.int .i64 (i : Int)))], m0, b0⟩) ∧ (ri_ = 1 + (l.length - i)) ∧ (n + 2 ≤ m0) ∧ (∀ k_, k_ < n → b0 k_ = bx k_) ∧ (b0 (n + 0) = .cells [.sc (.int .i64 (1000 : Int)), .sl 13 (es.map enC), .sc (.int .i64 ((off es es.length) : Int)), .sc (.int .i64 (0 : Int))]) ∧ (b0 (n + 1) = .tail (secsV (ssL es es.length)).length) ∧ (i ≤ l.length ∧ es.length ≤ i ∧ (off es es.length) ≤ 1000) ∧ (LogOK es)) (1 + (l.length - 0)) ⟨_, sle ?_ (Nat.le_refl _), 0, ([] : List En), _, _, rfl, rfl, ?_⟩ ?_
      · (repeat' (first | exact trivial | refine ⟨⟨_, rfl, ?_⟩, ?_⟩ | fail)); all_goals (repeat' (first | exact VLe.refl _ | exact VLe.own_sl _ _ _ | exact VLe.fl_sl _ _ | exact VLe.nil_sl _ | exact VLe.nil_fl _ | exact VLes.refl _ | exact .nil | refine VLe.tup ?_ | refine VLe.agg ?_ | refine .cons ?_ ?_ | (rw [Int.natCast_add]; exact VLe.refl _) | exact vle_int (by omega) | exact vle_bool t_159 | (rw [← hs0_]; exact VLe.refl _) | (rw [hs0_]; exact VLe.refl _) | (rw [← hs2_]; exact VLe.refl _) | (rw [hs2_]; exact VLe.refl _) | (rw [← hs3_]; exact VLe.refl _) | (rw [hs3_]; exact VLe.refl _) | fail))
      · exact ⟨by omega, (fun k_ hk_ => t_14), t_169, t_169, ⟨by omega, by simp, by decide⟩, log_0⟩
      · rintro _ _ ⟨i, es, m0, b0, rfl, rfl, hm0, hf0, hB0_0, hB0_1, hF0_0, hF0_1⟩
        refine runs_know (fun hd0 => ?_);refine runs_bump 20 ?_;simp only at hd0;refine runs_seq ?_;refine runs_seq ?_;refine runs_region ?_;refine rl0 (gn rfl) rfl rfl (step_mv rfl rfl) trivial ?_;refine rl0 (gn rfl) rfl rfl (step_mv rfl rfl) trivial ?_;refine rl0 (gn rfl) rfl rfl (step_len (m := l.length) rfl rfl (ev_mk rfl) (.inl ⟨⟨_, Try.underlying24⟩, .inl ⟨_, _, .inl rfl, List.length_map _⟩⟩)) trivial ?_;refine rl_lss (gn rfl) rfl rfl rfl rfl rfl (fun h4 => ?_) (fun h4 => ?_)
        · skip
          have hle_ := hle _ (at_memE (l := l) (i := i) (by omega))
          have hok_ := hle_.1
          refine runsL_nil ?_;refine runs_cond true (ev_mk rfl) (fun _ => ?_) (fun h_ => nomatch h_);refine runs_skip ?_;refine runs_seq ?_;refine runs_block ?_;refine runs_seq ?_;refine runs_seq ?_;refine runs_region ?_;refine rl0 (gn rfl) rfl rfl (step_mv rfl rfl) trivial ?_;refine rl0 (gn rfl) rfl rfl (step_mv rfl rfl) trivial ?_;refine' rl0 (gn rfl) rfl rfl (step_index rfl (ev_mk rfl) (.inl rfl) (ev_mk rfl) Try.underlying24 F.sz40 (by omega) ?hr) trivial ?_
          case hr => exact t_31
          refine rl0 (gn rfl) rfl rfl (step_load_ro_all rfl rfl F.agg40 t_15) trivial ?_;refine rl0 (gn rfl) rfl rfl (step_callc rfl Try.func11 rfl rfl rfl (light_c (at' l (i : Int)) hle_.2) t_8) trivial ?_;refine rl_gtr (gn rfl) rfl rfl rfl rfl rfl (fun h5 => ?_) (fun h5 => ?_)
          · skip
            refine runsL_nil ?_;refine runs_cond true (ev_mk rfl) (fun _ => ?_) (fun h_ => nomatch h_);refine runs_seq ?_;refine runs_region ?_;refine rl0 (gn rfl) rfl rfl (step_callc rfl Try.func6 rfl rfl rfl (works_c) t_8) trivial ?_;refine rl0 (gn rfl) rfl rfl (step_as rfl rfl) trivial ?_;refine runsL_nil ?_;refine runs_ret ?_;refine ⟨t_17, fin_mkg (rest rfl res0) ?_ ?_ ?_ ?_ ?_⟩
            · exact t_2
            · exact t_1
            · exact t_147
            · exact t_45
            · exact t_1
          · skip
            have hlg_ := lig_le (e := (at' l (i : Int))) (by omega)
            refine runsL_nil ?_;refine runs_cond false (ev_mk rfl) (fun h_ => nomatch h_) (fun _ => ?_);refine runs_skip ?_;refine runs_seq ?_;refine runs_draw (by kernel_rfl) (by kernel_rfl) (by kernel_rfl) ?_;rcases (Decidable.em (chkF (at' l (i : Int)) = 0)) with hcs_ | hcs_
            · skip
              have hcs_c := hcs_
              refine' dl0 (gn rfl) rfl rfl (step_load_all rfl rfl F.agg31 ?hl) ⟨?hb, trivial⟩ ?_
              case hb => exact t_4
              case hl => exact t_15
              rcases (Decidable.em ((off es es.length) + wE (enAt (at' l (i : Int)) (((off es es.length) : Int) + 1)) ≤ 1000)) with hcs_ | hcs_
              · skip
                have hcs_f := hcs_
                have hokx_ : okL (enAt (at' l (i : Int)) (((off es es.length) : Int) + 1)) := ⟨okEn_at hok_ t_98, hcs_c⟩
                have hbx_ := bE_len hokx_
                have hwx_ := wE_bd hokx_
                refine dl0 (gn rfl) rfl rfl (step_mv rfl rfl) trivial ?_;refine dl0 (gn rfl) rfl rfl (step_mv rfl rfl) trivial ?_;refine' dl0 (gn rfl) rfl rfl (step_index rfl (ev_mk rfl) (.inl rfl) (ev_mk rfl) Try.underlying24 F.sz40 (by omega) ?hr) trivial ?_
                case hr => exact t_31
                refine dl0 (gn rfl) rfl rfl (step_load_ro_all rfl rfl F.agg40 t_15) trivial ?_;refine dl0 (gn rfl) rfl rfl (step_callc rfl Try.func12 rfl rfl rfl (rapp_ok es (at' l (i : Int)) 1000 (off es es.length) 0 hok_ ⟨by omega, by omega, by omega, by omega⟩ hcs_c hcs_f) t_8) trivial ?_;refine dl0 (gn rfl) rfl rfl (step_mv rfl rfl) trivial ?_;refine dl0 (gn rfl) rfl rfl (step_extract rfl (ev_mk rfl) rfl) trivial ?_;refine dl0 (gn rfl) rfl rfl (step_extract rfl (ev_mk rfl) rfl) trivial ?_;refine dl0 (gn rfl) rfl rfl (step_extract rfl (ev_mk rfl) rfl) trivial ?_;refine dl1 (gn rfl) rfl rfl (step_allocc (k := m0 + 0) (zs := [.int .i64 0, .slice none 0 0, .int .i64 0, .int .i64 0]) (cs := [.sc (.int .i64 0), .sc (.slice none 0 0), .sc (.int .i64 0), .sc (.int .i64 0)]) rfl F.zero31 t_33 t_55 t_33) ⟨t_4, trivial⟩ (by omega) ?_;refine' dls (gn rfl) rfl (step_storeA rfl rfl rfl rfl F.agg31 ?hm ?hl) ⟨?hb, trivial⟩ ?hk ?_
                case hb => exact t_4
                case hm => exact t_15
                case hl => exact t_15
                case hk => omega
                refine dl0 (gn rfl) rfl rfl (step_as rfl rfl) trivial ?_;refine dl0 (gn rfl) rfl rfl (step_as rfl rfl) trivial ?_;refine dlnil ?_ ?_
                · exact t_12
                refine runs_seq ?_;refine runs_region ?_;refine rl0 (gn rfl) rfl rfl (step_mv rfl rfl) trivial ?_;refine rl_eql (gn rfl) rfl rfl rfl rfl rfl (fun h6 => ?_) (fun h6 => ?_)
                rotate_left
                · exact t_42
                refine runsL_nil ?_;refine runs_cond true (ev_mk rfl) (fun _ => ?_) (fun h_ => nomatch h_);refine runs_seq ?_;refine runs_region ?_;refine rl0 (gn rfl) rfl rfl (step_mv rfl rfl) trivial ?_;refine rl0 (gn rfl) rfl rfl (step_mv rfl rfl) trivial ?_;refine' rl0 (gn rfl) rfl rfl (step_index rfl (ev_mk rfl) (.inl rfl) (ev_mk rfl) Try.underlying24 F.sz40 (by omega) ?hr) trivial ?_
                case hr => exact t_31
                refine rl0 (gn rfl) rfl rfl (step_load_ro_all rfl rfl F.agg40 t_15) trivial ?_;refine rl1 (gn rfl) rfl rfl (step_allocc (k := m0 + 1) (zs := [.int .u64 0, .int .i64 0, .int .u64 0, .int .u64 0, .int .u64 0, .int .u64 0, .int .u64 0, .int .u32 0, .int .u32 0, .string ByteArray.empty, .bool false, .slice none 0 0, .slice none 0 0]) (cs := [.sc (.int .u64 0), .sc (.int .i64 0), .sc (.int .u64 0), .sc (.int .u64 0), .sc (.int .u64 0), .sc (.int .u64 0), .sc (.int .u64 0), .sc (.int .u32 0), .sc (.int .u32 0), .sc (.string ByteArray.empty), .sc (.bool false), .sc (.slice none 0 0), .sc (.slice none 0 0)]) rfl F.zero40 t_33 t_55 t_33) ⟨t_4, trivial⟩ (by omega) ?_;refine' rls (gn rfl) rfl (step_storeA rfl rfl rfl rfl F.agg40 ?hm ?hl) ⟨?hb, trivial⟩ ?hk ?_
                case hb => exact t_4
                case hm => exact t_15
                case hl => exact t_15
                case hk => omega
                refine runsL_nil ?_;refine runs_seq ?_;refine runs_region ?_;refine rl0 (gn rfl) rfl rfl (step_mv rfl rfl) trivial ?_;refine rl0 (gn rfl) rfl rfl (step_fieldAddr (off := 0) rfl (ev_mk rfl) Try.underlying40 rfl F.sz33 rfl) trivial ?_;refine' rls (gn rfl) rfl (step_store1 rfl rfl rfl rfl F.one33 rfl rfl ?hl ?hc) ⟨?hb, trivial⟩ ?hk ?_
                case hb => exact t_4
                case hl => exact t_22
                case hc => exact t_28
                case hk => omega
                refine runsL_nil ?_;refine runs_seq ?_;refine runs_region ?_;refine' rl0 (gn rfl) rfl rfl (step_load_all rfl rfl F.agg40 ?hl) ⟨?hb, trivial⟩ ?_
                case hb => exact t_4
                case hl => exact t_15
                refine rl0 (gn rfl) rfl rfl (step_callc rfl Try.func13 rfl rfl rfl (rput_ok (enAt (at' l (i : Int)) (((off es es.length) : Int) + 1)) (okEn_at hok_ t_98) hcs_c) t_8) trivial ?_;refine rl0 (gn rfl) rfl rfl (step_mv rfl rfl) trivial ?_;refine rl0 (gn rfl) rfl rfl (step_extract rfl (ev_mk rfl) rfl) trivial ?_;refine rl0 (gn rfl) rfl rfl (step_extract rfl (ev_mk rfl) rfl) trivial ?_;refine rl0 (gn rfl) rfl rfl (step_as rfl rfl) trivial ?_;refine rl0 (gn rfl) rfl rfl (step_as rfl rfl) trivial ?_;refine runsL_nil ?_;refine runs_seq ?_;refine runs_region ?_;refine rl0 (gn rfl) rfl rfl (step_mv rfl rfl) trivial ?_;refine rl0 (gn rfl) rfl rfl (step_mv rfl rfl) trivial ?_;refine rl0 (gn rfl) rfl rfl (step_fieldAddr (off := 2) rfl (ev_mk rfl) Try.underlying31 rfl F.sz3 rfl) trivial ?_;refine' rl0 (gn rfl) rfl rfl (step_load_one rfl (ev_mk rfl) F.one3 ?hv) ⟨?hb, trivial⟩ ?_
                case hb => exact t_4
                case hv => rfl
                refine rl0 (gn rfl) rfl rfl (step_callc rfl Try.func9 rfl rfl rfl (rcut_c (bE (enAt (at' l (i : Int)) (((off es es.length) : Int) + 1))) (off es es.length) (bE_byts hokx_) (by omega) (by omega)) t_8) trivial ?_;refine' rl1 (gn rfl) rfl rfl (step_append_own rfl rfl rfl Try.underlying27 ⟨_, Try.underlying27, fun k_ => t_49⟩ F.el47 (ev_mk rfl) (ev_mk rfl) (gives_sl (.inl rfl)) ?hg) ⟨?hb, trivial⟩ (by omega) ?_
                case hb => exact t_4
                case hg => (rw [secsV_len, secsV_len, ssL_len, cutB_len]; have := hwx_.2; unfold wE at this; omega)
                refine rl0 (gn rfl) rfl rfl (step_as rfl rfl) trivial ?_;refine runsL_nil ?_;refine runs_region ?_;refine' rl0 (gn rfl) rfl rfl (step_load_all rfl rfl F.agg31 ?hl) ⟨?hb, trivial⟩ ?_
                case hb => exact t_4
                case hl => exact t_15
                refine' rls (gn rfl) rfl (step_storeA rfl rfl rfl rfl F.agg31 ?hm ?hl) ⟨?hb, trivial⟩ ?hk ?_
                case hb => exact t_4
                case hm => exact t_15
                case hl => exact t_15
                case hk => omega
                refine runsL_nil ?_;refine runs_region ?_;refine rl0 (gn rfl) rfl rfl (step_mv rfl rfl) trivial ?_;refine rl0 (gn rfl) rfl rfl (step_add rfl (ev_mk rfl) (ev_mk rfl) (w64 (by omega))) trivial ?_;refine rl0 (gn rfl) rfl rfl (step_as rfl rfl) trivial ?_;refine runsL_nil ?_;have hq0_ : ((secsV (ssL es es.length)) ++ (secsV (cutB (bE (enAt (at' l (i : Int)) (((off es es.length) : Int) + 1))) (off es es.length)))) = ((secsV (ssL (es ++ [(enAt (at' l (i : Int)) (((off es es.length) : Int) + 1))]) (es ++ [(enAt (at' l (i : Int)) (((off es es.length) : Int) + 1))]).length))) := by (rw [ssL_snoc, ← secsV_app])
                have hq2_ : ((off es es.length) + wE (enAt (at' l (i : Int)) (((off es es.length) : Int) + 1)) : Int) = ((off (es ++ [(enAt (at' l (i : Int)) (((off es es.length) : Int) + 1))]) (es ++ [(enAt (at' l (i : Int)) (((off es es.length) : Int) + 1))]).length) : Int) := by (first | (rw [List.map_append]; rfl) | (rw [off_snoc]; omega) | rfl)
                refine ⟨_, _, ?_, sle ?_ (Nat.le_refl _), (i + 1), (es ++ [(enAt (at' l (i : Int)) (((off es es.length) : Int) + 1))]), _, _, rfl, rfl, by omega, (fun k_ hk_ => t_24), t_171, t_171, ⟨by omega, by rw [List.length_append]; show es.length + 1 ≤ _; omega, by rw [off_snoc]; omega⟩, log_snoc hF0_1 hokx_ rfl⟩
                · omega
                · (repeat' (first | exact trivial | refine ⟨⟨_, rfl, ?_⟩, ?_⟩ | fail)); all_goals (repeat' (first | exact VLe.refl _ | exact VLe.own_sl _ _ _ | exact VLe.fl_sl _ _ | exact VLe.nil_sl _ | exact VLe.nil_fl _ | exact VLes.refl _ | exact .nil | refine VLe.tup ?_ | refine VLe.agg ?_ | refine .cons ?_ ?_ | (rw [Int.natCast_add]; exact VLe.refl _) | exact vle_int (by omega) | exact vle_bool t_159 | (rw [← hq0_]; exact VLe.refl _) | (rw [hq0_]; exact VLe.refl _) | (rw [← hq2_]; exact VLe.refl _) | (rw [hq2_]; exact VLe.refl _) | fail))
              · skip
                have hcs_f := hcs_
                refine dl0 (gn rfl) rfl rfl (step_mv rfl rfl) trivial ?_;refine dl0 (gn rfl) rfl rfl (step_mv rfl rfl) trivial ?_;refine' dl0 (gn rfl) rfl rfl (step_index rfl (ev_mk rfl) (.inl rfl) (ev_mk rfl) Try.underlying24 F.sz40 (by omega) ?hr) trivial ?_
                case hr => exact t_31
                refine dl0 (gn rfl) rfl rfl (step_load_ro_all rfl rfl F.agg40 t_15) trivial ?_;refine dl0 (gn rfl) rfl rfl (step_callc rfl Try.func12 rfl rfl rfl (rapp_full es (at' l (i : Int)) 1000 (off es es.length) 0 hok_ ⟨by omega, by omega, by omega, by omega⟩ hcs_c hcs_f) t_8) trivial ?_;refine dl0 (gn rfl) rfl rfl (step_mv rfl rfl) trivial ?_;refine dl0 (gn rfl) rfl rfl (step_extract rfl (ev_mk rfl) rfl) trivial ?_;refine dl0 (gn rfl) rfl rfl (step_extract rfl (ev_mk rfl) rfl) trivial ?_;refine dl0 (gn rfl) rfl rfl (step_extract rfl (ev_mk rfl) rfl) trivial ?_;refine dl1 (gn rfl) rfl rfl (step_allocc (k := m0 + 0) (zs := [.int .i64 0, .slice none 0 0, .int .i64 0, .int .i64 0]) (cs := [.sc (.int .i64 0), .sc (.slice none 0 0), .sc (.int .i64 0), .sc (.int .i64 0)]) rfl F.zero31 t_33 t_55 t_33) ⟨t_4, trivial⟩ (by omega) ?_;refine' dls (gn rfl) rfl (step_storeA rfl rfl rfl rfl F.agg31 ?hm ?hl) ⟨?hb, trivial⟩ ?hk ?_
                case hb => exact t_4
                case hm => exact t_15
                case hl => exact t_15
                case hk => omega
                refine dl0 (gn rfl) rfl rfl (step_as rfl rfl) trivial ?_;refine dl0 (gn rfl) rfl rfl (step_as rfl rfl) trivial ?_;refine dlnil ?_ ?_
                · exact t_12
                refine runs_seq ?_;refine runs_region ?_;refine rl0 (gn rfl) rfl rfl (step_mv rfl rfl) trivial ?_;refine rl_eql (gn rfl) rfl rfl rfl rfl rfl (fun h6 => ?_) (fun h6 => ?_)
                · exact t_42
                refine runsL_nil ?_;refine runs_cond false (ev_mk rfl) (fun h_ => nomatch h_) (fun _ => ?_);refine runs_skip ?_;refine runs_region ?_;refine rl0 (gn rfl) rfl rfl (step_mv rfl rfl) trivial ?_;refine rl0 (gn rfl) rfl rfl (step_add rfl (ev_mk rfl) (ev_mk rfl) (w64 (by omega))) trivial ?_;refine rl0 (gn rfl) rfl rfl (step_as rfl rfl) trivial ?_;refine runsL_nil ?_;refine ⟨_, _, ?_, sle ?_ (Nat.le_refl _), (i + 1), es, _, _, rfl, rfl, by omega, (fun k_ hk_ => t_24), t_158, t_158, ⟨by omega, by omega, by omega⟩, hF0_1⟩
                · omega
                · exact t_129
            · skip
              have hcs_c := hcs_
              refine' dl0 (gn rfl) rfl rfl (step_load_all rfl rfl F.agg31 ?hl) ⟨?hb, trivial⟩ ?_
              case hb => exact t_4
              case hl => exact t_15
              refine dl0 (gn rfl) rfl rfl (step_mv rfl rfl) trivial ?_;refine dl0 (gn rfl) rfl rfl (step_mv rfl rfl) trivial ?_;refine' dl0 (gn rfl) rfl rfl (step_index rfl (ev_mk rfl) (.inl rfl) (ev_mk rfl) Try.underlying24 F.sz40 (by omega) ?hr) trivial ?_
              case hr => exact t_31
              refine dl0 (gn rfl) rfl rfl (step_load_ro_all rfl rfl F.agg40 t_15) trivial ?_;refine dl0 (gn rfl) rfl rfl (step_callc rfl Try.func12 rfl rfl rfl (rapp_no es (at' l (i : Int)) 1000 (off es es.length) 0 hok_ ⟨by omega, by omega, by omega, by omega⟩ ⟨by omega, by omega⟩ hcs_c) t_8) trivial ?_;refine dl0 (gn rfl) rfl rfl (step_mv rfl rfl) trivial ?_;refine dl0 (gn rfl) rfl rfl (step_extract rfl (ev_mk rfl) rfl) trivial ?_;refine dl0 (gn rfl) rfl rfl (step_extract rfl (ev_mk rfl) rfl) trivial ?_;refine dl0 (gn rfl) rfl rfl (step_extract rfl (ev_mk rfl) rfl) trivial ?_;refine dl1 (gn rfl) rfl rfl (step_allocc (k := m0 + 0) (zs := [.int .i64 0, .slice none 0 0, .int .i64 0, .int .i64 0]) (cs := [.sc (.int .i64 0), .sc (.slice none 0 0), .sc (.int .i64 0), .sc (.int .i64 0)]) rfl F.zero31 t_33 t_55 t_33) ⟨t_4, trivial⟩ (by omega) ?_;refine' dls (gn rfl) rfl (step_storeA rfl rfl rfl rfl F.agg31 ?hm ?hl) ⟨?hb, trivial⟩ ?hk ?_
              case hb => exact t_4
              case hm => exact t_15
              case hl => exact t_15
              case hk => omega
              refine dl0 (gn rfl) rfl rfl (step_as rfl rfl) trivial ?_;refine dl0 (gn rfl) rfl rfl (step_as rfl rfl) trivial ?_;refine dlnil ?_ ?_
              · exact t_12
              refine runs_seq ?_;refine runs_region ?_;refine rl0 (gn rfl) rfl rfl (step_mv rfl rfl) trivial ?_;refine rl_eql (gn rfl) rfl rfl rfl rfl rfl (fun h6 => ?_) (fun h6 => ?_)
              · exact t_42
              refine runsL_nil ?_;refine runs_cond false (ev_mk rfl) (fun h_ => nomatch h_) (fun _ => ?_);refine runs_skip ?_;refine runs_region ?_;refine rl0 (gn rfl) rfl rfl (step_mv rfl rfl) trivial ?_;refine rl0 (gn rfl) rfl rfl (step_add rfl (ev_mk rfl) (ev_mk rfl) (w64 (by omega))) trivial ?_;refine rl0 (gn rfl) rfl rfl (step_as rfl rfl) trivial ?_;refine runsL_nil ?_;refine ⟨_, _, ?_, sle ?_ (Nat.le_refl _), (i + 1), es, _, _, rfl, rfl, by omega, (fun k_ hk_ => t_24), t_158, t_158, ⟨by omega, by omega, by omega⟩, hF0_1⟩
              · omega
              · exact t_129
        · skip
          refine runsL_nil ?_;refine runs_cond false (ev_mk rfl) (fun h_ => nomatch h_) (fun _ => ?_);refine runs_exit ?_;refine runs_seq ?_;refine runs_region ?_;refine rl0 (gn rfl) rfl rfl (step_mv rfl rfl) trivial ?_;refine rl0 (gn rfl) rfl rfl (step_len (m := (off es es.length)) rfl rfl (ev_mk rfl) (.inl ⟨⟨_, Try.underlying27⟩, .inl ⟨_, _, .inr (.inr ⟨_, rfl⟩), (by rw [secsV_len, ssL_len])⟩⟩)) trivial ?_;refine rl0 (gn rfl) rfl rfl (step_as rfl rfl) trivial ?_;refine runsL_nil ?_;refine runs_seq ?_;refine runs_seq ?_;refine runs_region ?_;refine rl0 (gn rfl) rfl rfl (step_mv rfl rfl) trivial ?_;refine rl_geq (gn rfl) rfl rfl rfl rfl rfl (fun h5 => ?_) (fun h5 => ?_)
          · skip
            refine rl0 (gn rfl) rfl rfl (step_mv rfl rfl) trivial ?_;refine rl0 (gy rfl rfl rfl rfl rfl rfl) rfl rfl (step_mv rfl rfl) trivial ?_;refine rl0 (gy rfl rfl rfl rfl rfl rfl) rfl rfl (step_mv rfl rfl) trivial ?_;refine rl_lss (gy rfl rfl rfl rfl rfl rfl) rfl rfl rfl rfl rfl (fun h6 => ?_) (fun h6 => ?_)
            · skip
              refine rl0 (gn rfl) rfl rfl (step_pick rfl (ev_mk rfl) (ev_mk rfl)) trivial ?_;refine runsL_nil ?_;refine runs_cond true (ev_mk rfl) (fun _ => ?_) (fun h_ => nomatch h_);refine runs_region ?_;refine rl0 (gn rfl) rfl rfl (step_mv rfl rfl) trivial ?_;refine rl0 (gn rfl) rfl rfl (step_as rfl rfl) trivial ?_;refine runsL_nil ?_;refine runs_seq ?_;have hKe_ : (cut.toNat : Int) = cut := Int.toNat_of_nonneg (by omega);have hK_ : cut.toNat ≤ (off es es.length) := by omega
              have hssl_ := ssL_len es es.length
              refine runs_region ?_;refine rl0 (gn rfl) rfl rfl (step_as rfl rfl) trivial ?_;refine runsL_nil ?_;refine runs_seq ?_;refine runs_seq ?_;refine runs_region ?_;refine rl0 (gn rfl) rfl rfl (step_as rfl rfl) trivial ?_;refine runsL_nil ?_;refine runs_block ?_;refine runs_grow (l' := []) (d := 21) (k := m0 + 0) (e := 1) (xs := []) rfl (.inr ⟨rfl, rfl⟩) t_4 (by omega) ?_;have hs0_ : [] = (boolsV (kpF turn 0)) := by rfl
              refine runs_loop (fun (ri_ : Nat) (st_ : Go.Vm.S) => ∃ (z : Nat) (m1 : Nat) (b1 : Nat → Box), (st_ = ⟨mk [(4, .sc (.int .i64 turn)), (10, .sc (.bool false)), (11, .ref (n + 0) 0), (12, .own 64 (secsV (ssL es es.length)) (n + 1)), (20, .sc (.int .i64 cut)), (21, .own 1 (boolsV (kpF turn z)) (m0 + 0)), (22, .sc (.int .i64 (z : Int)))], m1, b1⟩) ∧ (ri_ = 1 + (cut.toNat - z)) ∧ (m0 + 1 ≤ m1) ∧ (∀ k_, k_ < n → b1 k_ = bx k_) ∧ (b1 (n + 0) = .cells [.sc (.int .i64 (1000 : Int)), .sl 13 (es.map enC), .sc (.int .i64 ((off es es.length) : Int)), .sc (.int .i64 (0 : Int))]) ∧ (b1 (n + 1) = .tail (secsV (ssL es es.length)).length) ∧ (b1 (m0 + 0) = .tail (boolsV (kpF turn z)).length) ∧ (z ≤ cut.toNat)) (1 + (cut.toNat - 0)) ⟨_, sle ?_ (Nat.le_refl _), 0, _, _, rfl, rfl, ?_⟩ ?_
              · exact t_11
              · exact t_165
              · rintro _ _ ⟨z, m1, b1, rfl, rfl, hm1, hf1, hB1_0, hB1_1, hB1_2, hF1_0⟩
                refine runs_know (fun hd1 => ?_);refine runs_bump 20 ?_;simp only at hd1;have hkl_ := kpF_len turn z;refine runs_seq ?_;refine runs_seq ?_;refine runs_region ?_;refine rl0 (gn rfl) rfl rfl (step_mv rfl rfl) trivial ?_;refine rl0 (gn rfl) rfl rfl (step_mv rfl rfl) trivial ?_;refine rl_lss (gn rfl) rfl rfl rfl rfl rfl (fun h7 => ?_) (fun h7 => ?_)
                · skip
                  refine runsL_nil ?_;refine runs_cond true (ev_mk rfl) (fun _ => ?_) (fun h_ => nomatch h_);refine runs_skip ?_;refine runs_seq ?_;refine runs_block ?_;refine runs_region ?_;refine rl0 (gn rfl) rfl rfl (step_mv rfl rfl) trivial ?_;refine rl0 (gn rfl) rfl rfl (step_mv rfl rfl) trivial ?_;refine rl0 (gn rfl) rfl rfl (step_mv rfl rfl) trivial ?_;refine rl0 (gn rfl) rfl rfl (step_binOp rfl (ev_mk rfl) (ev_mk rfl) run_neq) trivial ?_;refine rl0 (gn rfl) rfl rfl (step_lit rfl Try.underlying46 F.sz4 F.zero4 t_33 t_139 (by decide) rfl rfl t_21 rfl) trivial ?_;refine' rl1 (gn rfl) rfl rfl (step_append_own rfl rfl rfl Try.underlying46 ⟨_, Try.underlying46, fun k_ => t_49⟩ F.el4 (ev_mk rfl) (ev_mk rfl) (gives_sl (.inr (.inl rfl))) ?hg) ⟨?hb, trivial⟩ (by omega) ?_
                  case hb => exact t_9
                  case hg => (simp [boolsV]; omega)
                  refine rl0 (gn rfl) rfl rfl (step_as rfl rfl) trivial ?_;refine runsL_nil ?_;refine runs_region ?_;refine rl0 (gn rfl) rfl rfl (step_mv rfl rfl) trivial ?_;refine rl0 (gn rfl) rfl rfl (step_add rfl (ev_mk rfl) (ev_mk rfl) (w64 (by omega))) trivial ?_;refine rl0 (gn rfl) rfl rfl (step_as rfl rfl) trivial ?_;refine runsL_nil ?_;have hq0_ : ((boolsV (kpF turn z)) ++ [[V.sc (.bool ((z : Int) != turn))]]) = (boolsV (kpF turn (z + 1))) := by exact kpF_s _ _
                  refine ⟨_, _, ?_, sle ?_ (Nat.le_refl _), (z + 1), _, _, rfl, rfl, by omega, (fun k_ hk_ => t_36), t_130, t_130, t_130, (by omega)⟩
                  · omega
                  · exact t_3
                · skip
                  refine runsL_nil ?_;refine runs_cond false (ev_mk rfl) (fun h_ => nomatch h_) (fun _ => ?_);refine runs_exit ?_;refine runs_seq ?_;obtain rfl : z = cut.toNat := by omega
                  have htl_ := tcut_len (ss := (ssL es es.length)) (K := cut.toNat) (turn := turn) (by omega)
                  have htk_ : ((ssL es es.length).take cut.toNat).length = cut.toNat := t_97
                  have hsl_ : (secsV ((ssL es es.length).take cut.toNat)).length = ((ssL es es.length).take cut.toNat).length := secsV_len _
                  refine runs_region ?_;refine rl0 (gn rfl) rfl rfl (step_lit rfl Try.underlying27 F.sz47 F.zero47 t_33 t_139 (by decide) rfl rfl t_21 rfl) trivial ?_;refine rl_growgf (d := 121) (k := m1 + 0) (e := 64) rfl t_9 (by omega) ?_;refine rl0 (gn rfl) rfl rfl (step_mv rfl rfl) trivial ?_;refine rl0 (gn rfl) rfl rfl (step_mv rfl rfl) trivial ?_;refine rl0 (gn rfl) rfl rfl (step_slice (ys := secsV ((ssL es es.length).take cut.toNat)) (l := 0) (h := cut.toNat) rfl (ev_mk rfl) (.inr (.inr ⟨_, rfl⟩)) Try.underlying27 F.sz47 bndLo_none (bndHi_nat (a := cut.toNat) rfl t_46) t_72 (by rw [secsV_len]; omega) ((by rw [List.drop_zero]; unfold secsV; rw [List.map_take]))) trivial ?_;refine' rl1 (gn rfl) rfl rfl (step_append_g (xs' := secsV ((ssL es es.length).take cut.toNat)) rfl rfl rfl Try.underlying27 ⟨_, Try.underlying27, fun k_ => t_49⟩ F.el47 (ev_mk rfl) (ev_mk rfl) (gives_sl (.inl rfl)) ?hl ?hg ?hx) ⟨?hb, trivial⟩ (by omega) ?_
                  case hb => exact t_9
                  case hl => exact t_120
                  case hg => (rw [secsV_len]; omega)
                  case hx => rfl
                  refine rl0 (gn rfl) rfl rfl (step_as rfl rfl) trivial ?_;refine runsL_nil ?_;refine runs_seq ?_;refine runs_seq ?_;refine runs_region ?_;refine rl0 (gn rfl) rfl rfl (step_mv rfl rfl) trivial ?_;refine rl_geq (gn rfl) rfl rfl rfl rfl rfl (fun h8 => ?_) (fun h8 => ?_)
                  · skip
                    refine rl0 (gn rfl) rfl rfl (step_mv rfl rfl) trivial ?_;refine rl0 (gy rfl rfl rfl rfl rfl rfl) rfl rfl (step_mv rfl rfl) trivial ?_;refine rl0 (gy rfl rfl rfl rfl rfl rfl) rfl rfl (step_mv rfl rfl) trivial ?_;refine rl_lss (gy rfl rfl rfl rfl rfl rfl) rfl rfl rfl rfl rfl (fun h9 => ?_) (fun h9 => ?_)
                    · skip
                      refine rl0 (gn rfl) rfl rfl (step_pick rfl (ev_mk rfl) (ev_mk rfl)) trivial ?_;refine runsL_nil ?_;refine runs_cond true (ev_mk rfl) (fun _ => ?_) (fun h_ => nomatch h_);refine runs_region ?_;refine rl0 (gn rfl) rfl rfl (step_mv rfl rfl) trivial ?_;refine rl0 (gn rfl) rfl rfl (step_mv rfl rfl) trivial ?_;refine rl0 (gn rfl) rfl rfl (step_build_zero rfl rfl Try.underlying47 F.sz5 F.zero47 rfl) trivial ?_;refine' rl0 (gn rfl) rfl rfl (step_index_g rfl (ev_mk rfl) (ev_mk rfl) Try.underlying27 F.sz47 (by omega) (by omega) ?hl) ⟨?hb, trivial⟩ ?_
                      case hb => exact t_9
                      case hl => first | omega | (first | (simp; done) | (simp; omega) | omega)
                      refine' rls (gn rfl) rfl (step_store_gR (i := turn.toNat) (r := ((at' ((ssL es es.length).take cut.toNat) turn).map bV)) rfl rfl rfl F.agg47 ?hi ?hr ?hm rfl ?hq) ⟨?hb, trivial⟩ (by omega) ?_
                      case hb => exact t_9
                      case hi => exact t_31
                      case hr => exact t_110
                      case hm => first | rfl | (first | (simp; done) | (simp; omega) | omega)
                      case hq => exact t_73
                      refine runsL_nil ?_;refine runs_seq ?_;refine runs_freeze (d := 23) (ys := secsV (tcut (ssL es es.length) cut.toNat turn)) rfl t_9 t_52 t_111 ?_;refine runs_region ?_;refine rl0 (gn rfl) rfl rfl (step_mv rfl rfl) trivial ?_;refine rl1 (gn rfl) rfl rfl (step_callc rfl Try.func14 rfl rfl rfl (join_J (m1 + 1) es (tcut (ssL es es.length) cut.toNat turn) (okC cut.toNat turn) (whJ es (okC cut.toNat turn) es.length) rfl hF0_1 ⟨by omega, by omega⟩ (tk_cut hK_) (tcut_row (ssL_row _ _)) (fun q_ h_ => okC_out (by omega))) t_8) ⟨t_9, trivial⟩ (by omega) ?_;refine rl0 (gn rfl) rfl rfl (step_mv rfl rfl) trivial ?_;refine rl0 (gn rfl) rfl rfl (step_extract rfl (ev_mk rfl) rfl) trivial ?_;refine rl0 (gn rfl) rfl rfl (step_extract rfl (ev_mk rfl) rfl) trivial ?_;refine rl0 (gn rfl) rfl rfl (step_as rfl rfl) trivial ?_;refine rl0 (gn rfl) rfl rfl (step_as rfl rfl) trivial ?_;refine runsL_nil ?_;refine runs_seq ?_;refine runs_region ?_;refine' rl0 (gn rfl) rfl rfl (step_load_all rfl rfl F.agg31 ?hl) ⟨?hb, trivial⟩ ?_
                      case hb => exact t_9
                      case hl => exact t_15
                      refine rl0 (gn rfl) rfl rfl (step_mv rfl rfl) trivial ?_;refine rl0 (gn rfl) rfl rfl (step_callc rfl Try.func15 rfl rfl rfl (whole_J es 1000 (off es es.length) 0 (kpF turn cut.toNat) (whJ es (okC cut.toNat turn) es.length) (by rw [okW_kp]) hF0_1.ok ⟨by omega, by omega, t_128⟩) t_8) trivial ?_;refine rl0 (gn rfl) rfl rfl (step_mv rfl rfl) trivial ?_;refine rl0 (gn rfl) rfl rfl (step_extract rfl (ev_mk rfl) rfl) trivial ?_;refine rl0 (gn rfl) rfl rfl (step_extract rfl (ev_mk rfl) rfl) trivial ?_;refine rl0 (gn rfl) rfl rfl (step_as rfl rfl) trivial ?_;refine rl0 (gn rfl) rfl rfl (step_as rfl rfl) trivial ?_;refine runsL_nil ?_;refine runs_seq ?_;refine runs_region ?_;refine rl0 (gn rfl) rfl rfl (step_mv rfl rfl) trivial ?_;refine rl0 (gn rfl) rfl rfl (step_mv rfl rfl) trivial ?_;refine rl0 (gn rfl) rfl rfl (step_callc rfl Try.func16 rfl rfl rfl (rsames_r (es.take (whJ es (okC cut.toNat turn) es.length)) t_114 (fun e_ h_ => hF0_1.ok e_ (List.mem_of_mem_take h_))) t_8) trivial ?_;refine rl0 (gn rfl) rfl rfl (step_mv rfl rfl) trivial ?_;refine rl0 (gy rfl rfl rfl rfl rfl rfl) rfl rfl (step_mv rfl rfl) trivial ?_;refine rl0 (gy rfl rfl rfl rfl rfl rfl) rfl rfl (step_mv rfl rfl) trivial ?_;refine rl_eql (gy rfl rfl rfl rfl rfl rfl) rfl rfl rfl rfl rfl (fun h10 => ?_) (fun h10 => ?_)
                      rotate_left
                      · exact t_42
                      refine rl0 (gn rfl) rfl rfl (step_pick rfl (ev_mk rfl) (ev_mk rfl)) trivial ?_;refine rl0 (gn rfl) rfl rfl (step_mv rfl rfl) trivial ?_;refine rl0 (gy rfl rfl rfl rfl rfl rfl) rfl rfl (step_callc rfl Try.func6 rfl rfl rfl (works_c) t_8) trivial ?_;refine rl0 (gn rfl) rfl rfl (step_pick rfl (ev_mk rfl) (ev_mk rfl)) trivial ?_;refine rl0 (gn rfl) rfl rfl (step_as rfl rfl) trivial ?_;refine runsL_nil ?_;refine runs_ret ?_;refine ⟨t_17, fin_mkg (rest rfl res0) ?_ ?_ ?_ ?_ ?_⟩
                      · exact t_2
                      · exact t_1
                      · exact t_34
                      · exact t_45
                      · exact t_1
                    · skip
                      refine rl0 (gn rfl) rfl rfl (step_pick rfl (ev_mk rfl) (ev_mk rfl)) trivial ?_;refine runsL_nil ?_;refine runs_cond false (ev_mk rfl) (fun h_ => nomatch h_) (fun _ => ?_);refine runs_skip ?_;refine runs_seq ?_;refine runs_freeze (d := 23) (ys := secsV (tcut (ssL es es.length) cut.toNat turn)) rfl t_9 t_52 t_76 ?_;refine runs_region ?_;refine rl0 (gn rfl) rfl rfl (step_mv rfl rfl) trivial ?_;refine rl1 (gn rfl) rfl rfl (step_callc rfl Try.func14 rfl rfl rfl (join_J (m1 + 1) es (tcut (ssL es es.length) cut.toNat turn) (okC cut.toNat turn) (whJ es (okC cut.toNat turn) es.length) rfl hF0_1 ⟨by omega, by omega⟩ (tk_cut hK_) (tcut_row (ssL_row _ _)) (fun q_ h_ => okC_out (by omega))) t_8) ⟨t_9, trivial⟩ (by omega) ?_;refine rl0 (gn rfl) rfl rfl (step_mv rfl rfl) trivial ?_;refine rl0 (gn rfl) rfl rfl (step_extract rfl (ev_mk rfl) rfl) trivial ?_;refine rl0 (gn rfl) rfl rfl (step_extract rfl (ev_mk rfl) rfl) trivial ?_;refine rl0 (gn rfl) rfl rfl (step_as rfl rfl) trivial ?_;refine rl0 (gn rfl) rfl rfl (step_as rfl rfl) trivial ?_;refine runsL_nil ?_;refine runs_seq ?_;refine runs_region ?_;refine' rl0 (gn rfl) rfl rfl (step_load_all rfl rfl F.agg31 ?hl) ⟨?hb, trivial⟩ ?_
                      case hb => exact t_9
                      case hl => exact t_15
                      refine rl0 (gn rfl) rfl rfl (step_mv rfl rfl) trivial ?_;refine rl0 (gn rfl) rfl rfl (step_callc rfl Try.func15 rfl rfl rfl (whole_J es 1000 (off es es.length) 0 (kpF turn cut.toNat) (whJ es (okC cut.toNat turn) es.length) (by rw [okW_kp]) hF0_1.ok ⟨by omega, by omega, t_128⟩) t_8) trivial ?_;refine rl0 (gn rfl) rfl rfl (step_mv rfl rfl) trivial ?_;refine rl0 (gn rfl) rfl rfl (step_extract rfl (ev_mk rfl) rfl) trivial ?_;refine rl0 (gn rfl) rfl rfl (step_extract rfl (ev_mk rfl) rfl) trivial ?_;refine rl0 (gn rfl) rfl rfl (step_as rfl rfl) trivial ?_;refine rl0 (gn rfl) rfl rfl (step_as rfl rfl) trivial ?_;refine runsL_nil ?_;refine runs_seq ?_;refine runs_region ?_;refine rl0 (gn rfl) rfl rfl (step_mv rfl rfl) trivial ?_;refine rl0 (gn rfl) rfl rfl (step_mv rfl rfl) trivial ?_;refine rl0 (gn rfl) rfl rfl (step_callc rfl Try.func16 rfl rfl rfl (rsames_r (es.take (whJ es (okC cut.toNat turn) es.length)) t_114 (fun e_ h_ => hF0_1.ok e_ (List.mem_of_mem_take h_))) t_8) trivial ?_;refine rl0 (gn rfl) rfl rfl (step_mv rfl rfl) trivial ?_;refine rl0 (gy rfl rfl rfl rfl rfl rfl) rfl rfl (step_mv rfl rfl) trivial ?_;refine rl0 (gy rfl rfl rfl rfl rfl rfl) rfl rfl (step_mv rfl rfl) trivial ?_;refine rl_eql (gy rfl rfl rfl rfl rfl rfl) rfl rfl rfl rfl rfl (fun h10 => ?_) (fun h10 => ?_)
                      rotate_left
                      · exact t_42
                      refine rl0 (gn rfl) rfl rfl (step_pick rfl (ev_mk rfl) (ev_mk rfl)) trivial ?_;refine rl0 (gn rfl) rfl rfl (step_mv rfl rfl) trivial ?_;refine rl0 (gy rfl rfl rfl rfl rfl rfl) rfl rfl (step_callc rfl Try.func6 rfl rfl rfl (works_c) t_8) trivial ?_;refine rl0 (gn rfl) rfl rfl (step_pick rfl (ev_mk rfl) (ev_mk rfl)) trivial ?_;refine rl0 (gn rfl) rfl rfl (step_as rfl rfl) trivial ?_;refine runsL_nil ?_;refine runs_ret ?_;refine ⟨t_17, fin_mkg (rest rfl res0) ?_ ?_ ?_ ?_ ?_⟩
                      · exact t_2
                      · exact t_1
                      · exact t_34
                      · exact t_45
                      · exact t_1
                  · skip
                    refine rl0 (gn rfl) rfl rfl (step_mv rfl rfl) trivial ?_;refine rlk rfl rfl rfl rfl rfl (ngb rfl rfl) rfl rfl ?_;refine rlk rfl rfl rfl rfl rfl (ngb rfl rfl) rfl rfl ?_;refine rlk rfl rfl rfl rfl rfl (ngb rfl rfl) rfl rfl ?_;refine rl0 (gn rfl) rfl rfl (step_pick rfl (ev_mk rfl) (ev_mk rfl)) trivial ?_;refine runsL_nil ?_;refine runs_cond false (ev_mk rfl) (fun h_ => nomatch h_) (fun _ => ?_);refine runs_skip ?_;refine runs_seq ?_;refine runs_freeze (d := 23) (ys := secsV (tcut (ssL es es.length) cut.toNat turn)) rfl t_9 t_52 t_76 ?_;refine runs_region ?_;refine rl0 (gn rfl) rfl rfl (step_mv rfl rfl) trivial ?_;refine rl1 (gn rfl) rfl rfl (step_callc rfl Try.func14 rfl rfl rfl (join_J (m1 + 1) es (tcut (ssL es es.length) cut.toNat turn) (okC cut.toNat turn) (whJ es (okC cut.toNat turn) es.length) rfl hF0_1 ⟨by omega, by omega⟩ (tk_cut hK_) (tcut_row (ssL_row _ _)) (fun q_ h_ => okC_out (by omega))) t_8) ⟨t_9, trivial⟩ (by omega) ?_;refine rl0 (gn rfl) rfl rfl (step_mv rfl rfl) trivial ?_;refine rl0 (gn rfl) rfl rfl (step_extract rfl (ev_mk rfl) rfl) trivial ?_;refine rl0 (gn rfl) rfl rfl (step_extract rfl (ev_mk rfl) rfl) trivial ?_;refine rl0 (gn rfl) rfl rfl (step_as rfl rfl) trivial ?_;refine rl0 (gn rfl) rfl rfl (step_as rfl rfl) trivial ?_;refine runsL_nil ?_;refine runs_seq ?_;refine runs_region ?_;refine' rl0 (gn rfl) rfl rfl (step_load_all rfl rfl F.agg31 ?hl) ⟨?hb, trivial⟩ ?_
                    case hb => exact t_9
                    case hl => exact t_15
                    refine rl0 (gn rfl) rfl rfl (step_mv rfl rfl) trivial ?_;refine rl0 (gn rfl) rfl rfl (step_callc rfl Try.func15 rfl rfl rfl (whole_J es 1000 (off es es.length) 0 (kpF turn cut.toNat) (whJ es (okC cut.toNat turn) es.length) (by rw [okW_kp]) hF0_1.ok ⟨by omega, by omega, t_128⟩) t_8) trivial ?_;refine rl0 (gn rfl) rfl rfl (step_mv rfl rfl) trivial ?_;refine rl0 (gn rfl) rfl rfl (step_extract rfl (ev_mk rfl) rfl) trivial ?_;refine rl0 (gn rfl) rfl rfl (step_extract rfl (ev_mk rfl) rfl) trivial ?_;refine rl0 (gn rfl) rfl rfl (step_as rfl rfl) trivial ?_;refine rl0 (gn rfl) rfl rfl (step_as rfl rfl) trivial ?_;refine runsL_nil ?_;refine runs_seq ?_;refine runs_region ?_;refine rl0 (gn rfl) rfl rfl (step_mv rfl rfl) trivial ?_;refine rl0 (gn rfl) rfl rfl (step_mv rfl rfl) trivial ?_;refine rl0 (gn rfl) rfl rfl (step_callc rfl Try.func16 rfl rfl rfl (rsames_r (es.take (whJ es (okC cut.toNat turn) es.length)) t_114 (fun e_ h_ => hF0_1.ok e_ (List.mem_of_mem_take h_))) t_8) trivial ?_;refine rl0 (gn rfl) rfl rfl (step_mv rfl rfl) trivial ?_;refine rl0 (gy rfl rfl rfl rfl rfl rfl) rfl rfl (step_mv rfl rfl) trivial ?_;refine rl0 (gy rfl rfl rfl rfl rfl rfl) rfl rfl (step_mv rfl rfl) trivial ?_;refine rl_eql (gy rfl rfl rfl rfl rfl rfl) rfl rfl rfl rfl rfl (fun h9 => ?_) (fun h9 => ?_)
                    rotate_left
                    · exact t_42
                    refine rl0 (gn rfl) rfl rfl (step_pick rfl (ev_mk rfl) (ev_mk rfl)) trivial ?_;refine rl0 (gn rfl) rfl rfl (step_mv rfl rfl) trivial ?_;refine rl0 (gy rfl rfl rfl rfl rfl rfl) rfl rfl (step_callc rfl Try.func6 rfl rfl rfl (works_c) t_8) trivial ?_;refine rl0 (gn rfl) rfl rfl (step_pick rfl (ev_mk rfl) (ev_mk rfl)) trivial ?_;refine rl0 (gn rfl) rfl rfl (step_as rfl rfl) trivial ?_;refine runsL_nil ?_;refine runs_ret ?_;refine ⟨t_17, fin_mkg (rest rfl res0) ?_ ?_ ?_ ?_ ?_⟩
                    · exact t_2
                    · exact t_1
                    · exact t_34
                    · exact t_45
                    · exact t_1
            · skip
              refine rl0 (gn rfl) rfl rfl (step_pick rfl (ev_mk rfl) (ev_mk rfl)) trivial ?_;refine runsL_nil ?_;refine runs_cond false (ev_mk rfl) (fun h_ => nomatch h_) (fun _ => ?_);refine runs_skip ?_;refine runs_seq ?_;have hK_ : (off es es.length) ≤ (off es es.length) := by omega
              have hssl_ := ssL_len es es.length
              refine runs_region ?_;refine rl0 (gn rfl) rfl rfl (step_as rfl rfl) trivial ?_;refine runsL_nil ?_;refine runs_seq ?_;refine runs_seq ?_;refine runs_region ?_;refine rl0 (gn rfl) rfl rfl (step_as rfl rfl) trivial ?_;refine runsL_nil ?_;refine runs_block ?_;refine runs_grow (l' := []) (d := 21) (k := m0 + 0) (e := 1) (xs := []) rfl (.inr ⟨rfl, rfl⟩) t_4 (by omega) ?_;have hs0_ : [] = (boolsV (kpF turn 0)) := by rfl
              refine runs_loop (fun (ri_ : Nat) (st_ : Go.Vm.S) => ∃ (z : Nat) (m1 : Nat) (b1 : Nat → Box), (st_ = ⟨mk [(4, .sc (.int .i64 turn)), (10, .sc (.bool false)), (11, .ref (n + 0) 0), (12, .own 64 (secsV (ssL es es.length)) (n + 1)), (20, .sc (.int .i64 (off es es.length))), (21, .own 1 (boolsV (kpF turn z)) (m0 + 0)), (22, .sc (.int .i64 (z : Int)))], m1, b1⟩) ∧ (ri_ = 1 + ((off es es.length) - z)) ∧ (m0 + 1 ≤ m1) ∧ (∀ k_, k_ < n → b1 k_ = bx k_) ∧ (b1 (n + 0) = .cells [.sc (.int .i64 (1000 : Int)), .sl 13 (es.map enC), .sc (.int .i64 ((off es es.length) : Int)), .sc (.int .i64 (0 : Int))]) ∧ (b1 (n + 1) = .tail (secsV (ssL es es.length)).length) ∧ (b1 (m0 + 0) = .tail (boolsV (kpF turn z)).length) ∧ (z ≤ (off es es.length))) (1 + ((off es es.length) - 0)) ⟨_, sle ?_ (Nat.le_refl _), 0, _, _, rfl, rfl, ?_⟩ ?_
              · exact t_11
              · exact t_165
              · rintro _ _ ⟨z, m1, b1, rfl, rfl, hm1, hf1, hB1_0, hB1_1, hB1_2, hF1_0⟩
                refine runs_know (fun hd1 => ?_);refine runs_bump 20 ?_;simp only at hd1;have hkl_ := kpF_len turn z;refine runs_seq ?_;refine runs_seq ?_;refine runs_region ?_;refine rl0 (gn rfl) rfl rfl (step_mv rfl rfl) trivial ?_;refine rl0 (gn rfl) rfl rfl (step_mv rfl rfl) trivial ?_;refine rl_lss (gn rfl) rfl rfl rfl rfl rfl (fun h7 => ?_) (fun h7 => ?_)
                · skip
                  refine runsL_nil ?_;refine runs_cond true (ev_mk rfl) (fun _ => ?_) (fun h_ => nomatch h_);refine runs_skip ?_;refine runs_seq ?_;refine runs_block ?_;refine runs_region ?_;refine rl0 (gn rfl) rfl rfl (step_mv rfl rfl) trivial ?_;refine rl0 (gn rfl) rfl rfl (step_mv rfl rfl) trivial ?_;refine rl0 (gn rfl) rfl rfl (step_mv rfl rfl) trivial ?_;refine rl0 (gn rfl) rfl rfl (step_binOp rfl (ev_mk rfl) (ev_mk rfl) run_neq) trivial ?_;refine rl0 (gn rfl) rfl rfl (step_lit rfl Try.underlying46 F.sz4 F.zero4 t_33 t_139 (by decide) rfl rfl t_21 rfl) trivial ?_;refine' rl1 (gn rfl) rfl rfl (step_append_own rfl rfl rfl Try.underlying46 ⟨_, Try.underlying46, fun k_ => t_49⟩ F.el4 (ev_mk rfl) (ev_mk rfl) (gives_sl (.inr (.inl rfl))) ?hg) ⟨?hb, trivial⟩ (by omega) ?_
                  case hb => exact t_9
                  case hg => (simp [boolsV]; omega)
                  refine rl0 (gn rfl) rfl rfl (step_as rfl rfl) trivial ?_;refine runsL_nil ?_;refine runs_region ?_;refine rl0 (gn rfl) rfl rfl (step_mv rfl rfl) trivial ?_;refine rl0 (gn rfl) rfl rfl (step_add rfl (ev_mk rfl) (ev_mk rfl) (w64 (by omega))) trivial ?_;refine rl0 (gn rfl) rfl rfl (step_as rfl rfl) trivial ?_;refine runsL_nil ?_;have hq0_ : ((boolsV (kpF turn z)) ++ [[V.sc (.bool ((z : Int) != turn))]]) = (boolsV (kpF turn (z + 1))) := by exact kpF_s _ _
                  refine ⟨_, _, ?_, sle ?_ (Nat.le_refl _), (z + 1), _, _, rfl, rfl, by omega, (fun k_ hk_ => t_36), t_130, t_130, t_130, (by omega)⟩
                  · omega
                  · exact t_3
                · skip
                  refine runsL_nil ?_;refine runs_cond false (ev_mk rfl) (fun h_ => nomatch h_) (fun _ => ?_);refine runs_exit ?_;refine runs_seq ?_;obtain rfl : z = (off es es.length) := by omega
                  have htl_ := tcut_len (ss := (ssL es es.length)) (K := (off es es.length)) (turn := turn) (by omega)
                  have htk_ : ((ssL es es.length).take (off es es.length)).length = (off es es.length) := t_97
                  have hsl_ : (secsV ((ssL es es.length).take (off es es.length))).length = ((ssL es es.length).take (off es es.length)).length := secsV_len _
                  refine runs_region ?_;refine rl0 (gn rfl) rfl rfl (step_lit rfl Try.underlying27 F.sz47 F.zero47 t_33 t_139 (by decide) rfl rfl t_21 rfl) trivial ?_;refine rl_growgf (d := 121) (k := m1 + 0) (e := 64) rfl t_9 (by omega) ?_;refine rl0 (gn rfl) rfl rfl (step_mv rfl rfl) trivial ?_;refine rl0 (gn rfl) rfl rfl (step_mv rfl rfl) trivial ?_;refine rl0 (gn rfl) rfl rfl (step_slice (ys := secsV ((ssL es es.length).take (off es es.length))) (l := 0) (h := (off es es.length)) rfl (ev_mk rfl) (.inr (.inr ⟨_, rfl⟩)) Try.underlying27 F.sz47 bndLo_none (bndHi_nat (a := (off es es.length)) rfl t_46) t_72 (by rw [secsV_len]; omega) ((by rw [List.drop_zero]; unfold secsV; rw [List.map_take]))) trivial ?_;refine' rl1 (gn rfl) rfl rfl (step_append_g (xs' := secsV ((ssL es es.length).take (off es es.length))) rfl rfl rfl Try.underlying27 ⟨_, Try.underlying27, fun k_ => t_49⟩ F.el47 (ev_mk rfl) (ev_mk rfl) (gives_sl (.inl rfl)) ?hl ?hg ?hx) ⟨?hb, trivial⟩ (by omega) ?_
                  case hb => exact t_9
                  case hl => exact t_120
                  case hg => (rw [secsV_len]; omega)
                  case hx => rfl
                  refine rl0 (gn rfl) rfl rfl (step_as rfl rfl) trivial ?_;refine runsL_nil ?_;refine runs_seq ?_;refine runs_seq ?_;refine runs_region ?_;refine rl0 (gn rfl) rfl rfl (step_mv rfl rfl) trivial ?_;refine rl_geq (gn rfl) rfl rfl rfl rfl rfl (fun h8 => ?_) (fun h8 => ?_)
                  · skip
                    refine rl0 (gn rfl) rfl rfl (step_mv rfl rfl) trivial ?_;refine rl0 (gy rfl rfl rfl rfl rfl rfl) rfl rfl (step_mv rfl rfl) trivial ?_;refine rl0 (gy rfl rfl rfl rfl rfl rfl) rfl rfl (step_mv rfl rfl) trivial ?_;refine rl_lss (gy rfl rfl rfl rfl rfl rfl) rfl rfl rfl rfl rfl (fun h9 => ?_) (fun h9 => ?_)
                    · skip
                      refine rl0 (gn rfl) rfl rfl (step_pick rfl (ev_mk rfl) (ev_mk rfl)) trivial ?_;refine runsL_nil ?_;refine runs_cond true (ev_mk rfl) (fun _ => ?_) (fun h_ => nomatch h_);refine runs_region ?_;refine rl0 (gn rfl) rfl rfl (step_mv rfl rfl) trivial ?_;refine rl0 (gn rfl) rfl rfl (step_mv rfl rfl) trivial ?_;refine rl0 (gn rfl) rfl rfl (step_build_zero rfl rfl Try.underlying47 F.sz5 F.zero47 rfl) trivial ?_;refine' rl0 (gn rfl) rfl rfl (step_index_g rfl (ev_mk rfl) (ev_mk rfl) Try.underlying27 F.sz47 (by omega) (by omega) ?hl) ⟨?hb, trivial⟩ ?_
                      case hb => exact t_9
                      case hl => first | omega | (first | (simp; done) | (simp; omega) | omega)
                      refine' rls (gn rfl) rfl (step_store_gR (i := turn.toNat) (r := ((at' ((ssL es es.length).take (off es es.length)) turn).map bV)) rfl rfl rfl F.agg47 ?hi ?hr ?hm rfl ?hq) ⟨?hb, trivial⟩ (by omega) ?_
                      case hb => exact t_9
                      case hi => exact t_31
                      case hr => exact t_110
                      case hm => first | rfl | (first | (simp; done) | (simp; omega) | omega)
                      case hq => exact t_73
                      refine runsL_nil ?_;refine runs_seq ?_;refine runs_freeze (d := 23) (ys := secsV (tcut (ssL es es.length) (off es es.length) turn)) rfl t_9 t_52 t_111 ?_;refine runs_region ?_;refine rl0 (gn rfl) rfl rfl (step_mv rfl rfl) trivial ?_;refine rl1 (gn rfl) rfl rfl (step_callc rfl Try.func14 rfl rfl rfl (join_J (m1 + 1) es (tcut (ssL es es.length) (off es es.length) turn) (okC (off es es.length) turn) (whJ es (okC (off es es.length) turn) es.length) rfl hF0_1 ⟨by omega, by omega⟩ (tk_cut hK_) (tcut_row (ssL_row _ _)) (fun q_ h_ => okC_out (by omega))) t_8) ⟨t_9, trivial⟩ (by omega) ?_;refine rl0 (gn rfl) rfl rfl (step_mv rfl rfl) trivial ?_;refine rl0 (gn rfl) rfl rfl (step_extract rfl (ev_mk rfl) rfl) trivial ?_;refine rl0 (gn rfl) rfl rfl (step_extract rfl (ev_mk rfl) rfl) trivial ?_;refine rl0 (gn rfl) rfl rfl (step_as rfl rfl) trivial ?_;refine rl0 (gn rfl) rfl rfl (step_as rfl rfl) trivial ?_;refine runsL_nil ?_;refine runs_seq ?_;refine runs_region ?_;refine' rl0 (gn rfl) rfl rfl (step_load_all rfl rfl F.agg31 ?hl) ⟨?hb, trivial⟩ ?_
                      case hb => exact t_9
                      case hl => exact t_15
                      refine rl0 (gn rfl) rfl rfl (step_mv rfl rfl) trivial ?_;refine rl0 (gn rfl) rfl rfl (step_callc rfl Try.func15 rfl rfl rfl (whole_J es 1000 (off es es.length) 0 (kpF turn (off es es.length)) (whJ es (okC (off es es.length) turn) es.length) (by rw [okW_kp]) hF0_1.ok ⟨by omega, by omega, t_128⟩) t_8) trivial ?_;refine rl0 (gn rfl) rfl rfl (step_mv rfl rfl) trivial ?_;refine rl0 (gn rfl) rfl rfl (step_extract rfl (ev_mk rfl) rfl) trivial ?_;refine rl0 (gn rfl) rfl rfl (step_extract rfl (ev_mk rfl) rfl) trivial ?_;refine rl0 (gn rfl) rfl rfl (step_as rfl rfl) trivial ?_;refine rl0 (gn rfl) rfl rfl (step_as rfl rfl) trivial ?_;refine runsL_nil ?_;refine runs_seq ?_;refine runs_region ?_;refine rl0 (gn rfl) rfl rfl (step_mv rfl rfl) trivial ?_;refine rl0 (gn rfl) rfl rfl (step_mv rfl rfl) trivial ?_;refine rl0 (gn rfl) rfl rfl (step_callc rfl Try.func16 rfl rfl rfl (rsames_r (es.take (whJ es (okC (off es es.length) turn) es.length)) t_75 (fun e_ h_ => hF0_1.ok e_ (List.mem_of_mem_take h_))) t_8) trivial ?_;refine rl0 (gn rfl) rfl rfl (step_mv rfl rfl) trivial ?_;refine rl0 (gy rfl rfl rfl rfl rfl rfl) rfl rfl (step_mv rfl rfl) trivial ?_;refine rl0 (gy rfl rfl rfl rfl rfl rfl) rfl rfl (step_mv rfl rfl) trivial ?_;refine rl_eql (gy rfl rfl rfl rfl rfl rfl) rfl rfl rfl rfl rfl (fun h10 => ?_) (fun h10 => ?_)
                      rotate_left
                      · exact t_42
                      refine rl0 (gn rfl) rfl rfl (step_pick rfl (ev_mk rfl) (ev_mk rfl)) trivial ?_;refine rl0 (gn rfl) rfl rfl (step_mv rfl rfl) trivial ?_;refine rl0 (gy rfl rfl rfl rfl rfl rfl) rfl rfl (step_callc rfl Try.func6 rfl rfl rfl (works_c) t_8) trivial ?_;refine rl0 (gn rfl) rfl rfl (step_pick rfl (ev_mk rfl) (ev_mk rfl)) trivial ?_;refine rl0 (gn rfl) rfl rfl (step_as rfl rfl) trivial ?_;refine runsL_nil ?_;refine runs_ret ?_;refine ⟨t_17, fin_mkg (rest rfl res0) ?_ ?_ ?_ ?_ ?_⟩
                      · exact t_2
                      · exact t_1
                      · exact t_34
                      · exact t_45
                      · exact t_1
                    · skip
                      refine rl0 (gn rfl) rfl rfl (step_pick rfl (ev_mk rfl) (ev_mk rfl)) trivial ?_;refine runsL_nil ?_;refine runs_cond false (ev_mk rfl) (fun h_ => nomatch h_) (fun _ => ?_);refine runs_skip ?_;refine runs_seq ?_;refine runs_freeze (d := 23) (ys := secsV (tcut (ssL es es.length) (off es es.length) turn)) rfl t_9 t_52 t_76 ?_;refine runs_region ?_;refine rl0 (gn rfl) rfl rfl (step_mv rfl rfl) trivial ?_;refine rl1 (gn rfl) rfl rfl (step_callc rfl Try.func14 rfl rfl rfl (join_J (m1 + 1) es (tcut (ssL es es.length) (off es es.length) turn) (okC (off es es.length) turn) (whJ es (okC (off es es.length) turn) es.length) rfl hF0_1 ⟨by omega, by omega⟩ (tk_cut hK_) (tcut_row (ssL_row _ _)) (fun q_ h_ => okC_out (by omega))) t_8) ⟨t_9, trivial⟩ (by omega) ?_;refine rl0 (gn rfl) rfl rfl (step_mv rfl rfl) trivial ?_;refine rl0 (gn rfl) rfl rfl (step_extract rfl (ev_mk rfl) rfl) trivial ?_;refine rl0 (gn rfl) rfl rfl (step_extract rfl (ev_mk rfl) rfl) trivial ?_;refine rl0 (gn rfl) rfl rfl (step_as rfl rfl) trivial ?_;refine rl0 (gn rfl) rfl rfl (step_as rfl rfl) trivial ?_;refine runsL_nil ?_;refine runs_seq ?_;refine runs_region ?_;refine' rl0 (gn rfl) rfl rfl (step_load_all rfl rfl F.agg31 ?hl) ⟨?hb, trivial⟩ ?_
                      case hb => exact t_9
                      case hl => exact t_15
                      refine rl0 (gn rfl) rfl rfl (step_mv rfl rfl) trivial ?_;refine rl0 (gn rfl) rfl rfl (step_callc rfl Try.func15 rfl rfl rfl (whole_J es 1000 (off es es.length) 0 (kpF turn (off es es.length)) (whJ es (okC (off es es.length) turn) es.length) (by rw [okW_kp]) hF0_1.ok ⟨by omega, by omega, t_128⟩) t_8) trivial ?_;refine rl0 (gn rfl) rfl rfl (step_mv rfl rfl) trivial ?_;refine rl0 (gn rfl) rfl rfl (step_extract rfl (ev_mk rfl) rfl) trivial ?_;refine rl0 (gn rfl) rfl rfl (step_extract rfl (ev_mk rfl) rfl) trivial ?_;refine rl0 (gn rfl) rfl rfl (step_as rfl rfl) trivial ?_;refine rl0 (gn rfl) rfl rfl (step_as rfl rfl) trivial ?_;refine runsL_nil ?_;refine runs_seq ?_;refine runs_region ?_;refine rl0 (gn rfl) rfl rfl (step_mv rfl rfl) trivial ?_;refine rl0 (gn rfl) rfl rfl (step_mv rfl rfl) trivial ?_;refine rl0 (gn rfl) rfl rfl (step_callc rfl Try.func16 rfl rfl rfl (rsames_r (es.take (whJ es (okC (off es es.length) turn) es.length)) t_75 (fun e_ h_ => hF0_1.ok e_ (List.mem_of_mem_take h_))) t_8) trivial ?_;refine rl0 (gn rfl) rfl rfl (step_mv rfl rfl) trivial ?_;refine rl0 (gy rfl rfl rfl rfl rfl rfl) rfl rfl (step_mv rfl rfl) trivial ?_;refine rl0 (gy rfl rfl rfl rfl rfl rfl) rfl rfl (step_mv rfl rfl) trivial ?_;refine rl_eql (gy rfl rfl rfl rfl rfl rfl) rfl rfl rfl rfl rfl (fun h10 => ?_) (fun h10 => ?_)
                      rotate_left
                      · exact t_42
                      refine rl0 (gn rfl) rfl rfl (step_pick rfl (ev_mk rfl) (ev_mk rfl)) trivial ?_;refine rl0 (gn rfl) rfl rfl (step_mv rfl rfl) trivial ?_;refine rl0 (gy rfl rfl rfl rfl rfl rfl) rfl rfl (step_callc rfl Try.func6 rfl rfl rfl (works_c) t_8) trivial ?_;refine rl0 (gn rfl) rfl rfl (step_pick rfl (ev_mk rfl) (ev_mk rfl)) trivial ?_;refine rl0 (gn rfl) rfl rfl (step_as rfl rfl) trivial ?_;refine runsL_nil ?_;refine runs_ret ?_;refine ⟨t_17, fin_mkg (rest rfl res0) ?_ ?_ ?_ ?_ ?_⟩
                      · exact t_2
                      · exact t_1
                      · exact t_34
                      · exact t_45
                      · exact t_1
                  · skip
                    refine rl0 (gn rfl) rfl rfl (step_mv rfl rfl) trivial ?_;refine rlk rfl rfl rfl rfl rfl (ngb rfl rfl) rfl rfl ?_;refine rlk rfl rfl rfl rfl rfl (ngb rfl rfl) rfl rfl ?_;refine rlk rfl rfl rfl rfl rfl (ngb rfl rfl) rfl rfl ?_;refine rl0 (gn rfl) rfl rfl (step_pick rfl (ev_mk rfl) (ev_mk rfl)) trivial ?_;refine runsL_nil ?_;refine runs_cond false (ev_mk rfl) (fun h_ => nomatch h_) (fun _ => ?_);refine runs_skip ?_;refine runs_seq ?_;refine runs_freeze (d := 23) (ys := secsV (tcut (ssL es es.length) (off es es.length) turn)) rfl t_9 t_52 t_76 ?_;refine runs_region ?_;refine rl0 (gn rfl) rfl rfl (step_mv rfl rfl) trivial ?_;refine rl1 (gn rfl) rfl rfl (step_callc rfl Try.func14 rfl rfl rfl (join_J (m1 + 1) es (tcut (ssL es es.length) (off es es.length) turn) (okC (off es es.length) turn) (whJ es (okC (off es es.length) turn) es.length) rfl hF0_1 ⟨by omega, by omega⟩ (tk_cut hK_) (tcut_row (ssL_row _ _)) (fun q_ h_ => okC_out (by omega))) t_8) ⟨t_9, trivial⟩ (by omega) ?_;refine rl0 (gn rfl) rfl rfl (step_mv rfl rfl) trivial ?_;refine rl0 (gn rfl) rfl rfl (step_extract rfl (ev_mk rfl) rfl) trivial ?_;refine rl0 (gn rfl) rfl rfl (step_extract rfl (ev_mk rfl) rfl) trivial ?_;refine rl0 (gn rfl) rfl rfl (step_as rfl rfl) trivial ?_;refine rl0 (gn rfl) rfl rfl (step_as rfl rfl) trivial ?_;refine runsL_nil ?_;refine runs_seq ?_;refine runs_region ?_;refine' rl0 (gn rfl) rfl rfl (step_load_all rfl rfl F.agg31 ?hl) ⟨?hb, trivial⟩ ?_
                    case hb => exact t_9
                    case hl => exact t_15
                    refine rl0 (gn rfl) rfl rfl (step_mv rfl rfl) trivial ?_;refine rl0 (gn rfl) rfl rfl (step_callc rfl Try.func15 rfl rfl rfl (whole_J es 1000 (off es es.length) 0 (kpF turn (off es es.length)) (whJ es (okC (off es es.length) turn) es.length) (by rw [okW_kp]) hF0_1.ok ⟨by omega, by omega, t_128⟩) t_8) trivial ?_;refine rl0 (gn rfl) rfl rfl (step_mv rfl rfl) trivial ?_;refine rl0 (gn rfl) rfl rfl (step_extract rfl (ev_mk rfl) rfl) trivial ?_;refine rl0 (gn rfl) rfl rfl (step_extract rfl (ev_mk rfl) rfl) trivial ?_;refine rl0 (gn rfl) rfl rfl (step_as rfl rfl) trivial ?_;refine rl0 (gn rfl) rfl rfl (step_as rfl rfl) trivial ?_;refine runsL_nil ?_;refine runs_seq ?_;refine runs_region ?_;refine rl0 (gn rfl) rfl rfl (step_mv rfl rfl) trivial ?_;refine rl0 (gn rfl) rfl rfl (step_mv rfl rfl) trivial ?_;refine rl0 (gn rfl) rfl rfl (step_callc rfl Try.func16 rfl rfl rfl (rsames_r (es.take (whJ es (okC (off es es.length) turn) es.length)) t_75 (fun e_ h_ => hF0_1.ok e_ (List.mem_of_mem_take h_))) t_8) trivial ?_;refine rl0 (gn rfl) rfl rfl (step_mv rfl rfl) trivial ?_;refine rl0 (gy rfl rfl rfl rfl rfl rfl) rfl rfl (step_mv rfl rfl) trivial ?_;refine rl0 (gy rfl rfl rfl rfl rfl rfl) rfl rfl (step_mv rfl rfl) trivial ?_;refine rl_eql (gy rfl rfl rfl rfl rfl rfl) rfl rfl rfl rfl rfl (fun h9 => ?_) (fun h9 => ?_)
                    rotate_left
                    · exact t_42
                    refine rl0 (gn rfl) rfl rfl (step_pick rfl (ev_mk rfl) (ev_mk rfl)) trivial ?_;refine rl0 (gn rfl) rfl rfl (step_mv rfl rfl) trivial ?_;refine rl0 (gy rfl rfl rfl rfl rfl rfl) rfl rfl (step_callc rfl Try.func6 rfl rfl rfl (works_c) t_8) trivial ?_;refine rl0 (gn rfl) rfl rfl (step_pick rfl (ev_mk rfl) (ev_mk rfl)) trivial ?_;refine rl0 (gn rfl) rfl rfl (step_as rfl rfl) trivial ?_;refine runsL_nil ?_;refine runs_ret ?_;refine ⟨t_17, fin_mkg (rest rfl res0) ?_ ?_ ?_ ?_ ?_⟩
                    · exact t_2
                    · exact t_1
                    · exact t_34
                    · exact t_45
                    · exact t_1
          · skip
            refine rl0 (gn rfl) rfl rfl (step_mv rfl rfl) trivial ?_;refine rlk rfl rfl rfl rfl rfl (ngb rfl rfl) rfl rfl ?_;refine rlk rfl rfl rfl rfl rfl (ngb rfl rfl) rfl rfl ?_;refine rlk rfl rfl rfl rfl rfl (ngb rfl rfl) rfl rfl ?_;refine rl0 (gn rfl) rfl rfl (step_pick rfl (ev_mk rfl) (ev_mk rfl)) trivial ?_;refine runsL_nil ?_;refine runs_cond false (ev_mk rfl) (fun h_ => nomatch h_) (fun _ => ?_);refine runs_skip ?_;refine runs_seq ?_;have hK_ : (off es es.length) ≤ (off es es.length) := by omega
            have hssl_ := ssL_len es es.length
            refine runs_region ?_;refine rl0 (gn rfl) rfl rfl (step_as rfl rfl) trivial ?_;refine runsL_nil ?_;refine runs_seq ?_;refine runs_seq ?_;refine runs_region ?_;refine rl0 (gn rfl) rfl rfl (step_as rfl rfl) trivial ?_;refine runsL_nil ?_;refine runs_block ?_;refine runs_grow (l' := []) (d := 21) (k := m0 + 0) (e := 1) (xs := []) rfl (.inr ⟨rfl, rfl⟩) t_4 (by omega) ?_;have hs0_ : [] = (boolsV (kpF turn 0)) := by rfl
            refine runs_loop (fun (ri_ : Nat) (st_ : Go.Vm.S) => ∃ (z : Nat) (m1 : Nat) (b1 : Nat → Box), (st_ = ⟨mk [(4, .sc (.int .i64 turn)), (10, .sc (.bool false)), (11, .ref (n + 0) 0), (12, .own 64 (secsV (ssL es es.length)) (n + 1)), (20, .sc (.int .i64 (off es es.length))), (21, .own 1 (boolsV (kpF turn z)) (m0 + 0)), (22, .sc (.int .i64 (z : Int)))], m1, b1⟩) ∧ (ri_ = 1 + ((off es es.length) - z)) ∧ (m0 + 1 ≤ m1) ∧ (∀ k_, k_ < n → b1 k_ = bx k_) ∧ (b1 (n + 0) = .cells [.sc (.int .i64 (1000 : Int)), .sl 13 (es.map enC), .sc (.int .i64 ((off es es.length) : Int)), .sc (.int .i64 (0 : Int))]) ∧ (b1 (n + 1) = .tail (secsV (ssL es es.length)).length) ∧ (b1 (m0 + 0) = .tail (boolsV (kpF turn z)).length) ∧ (z ≤ (off es es.length))) (1 + ((off es es.length) - 0)) ⟨_, sle ?_ (Nat.le_refl _), 0, _, _, rfl, rfl, ?_⟩ ?_
            · exact t_11
            · exact t_165
            · rintro _ _ ⟨z, m1, b1, rfl, rfl, hm1, hf1, hB1_0, hB1_1, hB1_2, hF1_0⟩
              refine runs_know (fun hd1 => ?_);refine runs_bump 20 ?_;simp only at hd1;have hkl_ := kpF_len turn z;refine runs_seq ?_;refine runs_seq ?_;refine runs_region ?_;refine rl0 (gn rfl) rfl rfl (step_mv rfl rfl) trivial ?_;refine rl0 (gn rfl) rfl rfl (step_mv rfl rfl) trivial ?_;refine rl_lss (gn rfl) rfl rfl rfl rfl rfl (fun h6 => ?_) (fun h6 => ?_)
              · skip
                refine runsL_nil ?_;refine runs_cond true (ev_mk rfl) (fun _ => ?_) (fun h_ => nomatch h_);refine runs_skip ?_;refine runs_seq ?_;refine runs_block ?_;refine runs_region ?_;refine rl0 (gn rfl) rfl rfl (step_mv rfl rfl) trivial ?_;refine rl0 (gn rfl) rfl rfl (step_mv rfl rfl) trivial ?_;refine rl0 (gn rfl) rfl rfl (step_mv rfl rfl) trivial ?_;refine rl0 (gn rfl) rfl rfl (step_binOp rfl (ev_mk rfl) (ev_mk rfl) run_neq) trivial ?_;refine rl0 (gn rfl) rfl rfl (step_lit rfl Try.underlying46 F.sz4 F.zero4 t_33 t_139 (by decide) rfl rfl t_21 rfl) trivial ?_;refine' rl1 (gn rfl) rfl rfl (step_append_own rfl rfl rfl Try.underlying46 ⟨_, Try.underlying46, fun k_ => t_49⟩ F.el4 (ev_mk rfl) (ev_mk rfl) (gives_sl (.inr (.inl rfl))) ?hg) ⟨?hb, trivial⟩ (by omega) ?_
                case hb => exact t_9
                case hg => (simp [boolsV]; omega)
                refine rl0 (gn rfl) rfl rfl (step_as rfl rfl) trivial ?_;refine runsL_nil ?_;refine runs_region ?_;refine rl0 (gn rfl) rfl rfl (step_mv rfl rfl) trivial ?_;refine rl0 (gn rfl) rfl rfl (step_add rfl (ev_mk rfl) (ev_mk rfl) (w64 (by omega))) trivial ?_;refine rl0 (gn rfl) rfl rfl (step_as rfl rfl) trivial ?_;refine runsL_nil ?_;have hq0_ : ((boolsV (kpF turn z)) ++ [[V.sc (.bool ((z : Int) != turn))]]) = (boolsV (kpF turn (z + 1))) := by exact kpF_s _ _
                refine ⟨_, _, ?_, sle ?_ (Nat.le_refl _), (z + 1), _, _, rfl, rfl, by omega, (fun k_ hk_ => t_36), t_130, t_130, t_130, (by omega)⟩
                · omega
                · exact t_3
              · skip
                refine runsL_nil ?_;refine runs_cond false (ev_mk rfl) (fun h_ => nomatch h_) (fun _ => ?_);refine runs_exit ?_;refine runs_seq ?_;obtain rfl : z = (off es es.length) := by omega
                have htl_ := tcut_len (ss := (ssL es es.length)) (K := (off es es.length)) (turn := turn) (by omega)
                have htk_ : ((ssL es es.length).take (off es es.length)).length = (off es es.length) := t_97
                have hsl_ : (secsV ((ssL es es.length).take (off es es.length))).length = ((ssL es es.length).take (off es es.length)).length := secsV_len _
                refine runs_region ?_;refine rl0 (gn rfl) rfl rfl (step_lit rfl Try.underlying27 F.sz47 F.zero47 t_33 t_139 (by decide) rfl rfl t_21 rfl) trivial ?_;refine rl_growgf (d := 121) (k := m1 + 0) (e := 64) rfl t_9 (by omega) ?_;refine rl0 (gn rfl) rfl rfl (step_mv rfl rfl) trivial ?_;refine rl0 (gn rfl) rfl rfl (step_mv rfl rfl) trivial ?_;refine rl0 (gn rfl) rfl rfl (step_slice (ys := secsV ((ssL es es.length).take (off es es.length))) (l := 0) (h := (off es es.length)) rfl (ev_mk rfl) (.inr (.inr ⟨_, rfl⟩)) Try.underlying27 F.sz47 bndLo_none (bndHi_nat (a := (off es es.length)) rfl t_46) t_72 (by rw [secsV_len]; omega) ((by rw [List.drop_zero]; unfold secsV; rw [List.map_take]))) trivial ?_;refine' rl1 (gn rfl) rfl rfl (step_append_g (xs' := secsV ((ssL es es.length).take (off es es.length))) rfl rfl rfl Try.underlying27 ⟨_, Try.underlying27, fun k_ => t_49⟩ F.el47 (ev_mk rfl) (ev_mk rfl) (gives_sl (.inl rfl)) ?hl ?hg ?hx) ⟨?hb, trivial⟩ (by omega) ?_
                case hb => exact t_9
                case hl => exact t_120
                case hg => (rw [secsV_len]; omega)
                case hx => rfl
                refine rl0 (gn rfl) rfl rfl (step_as rfl rfl) trivial ?_;refine runsL_nil ?_;refine runs_seq ?_;refine runs_seq ?_;refine runs_region ?_;refine rl0 (gn rfl) rfl rfl (step_mv rfl rfl) trivial ?_;refine rl_geq (gn rfl) rfl rfl rfl rfl rfl (fun h7 => ?_) (fun h7 => ?_)
                · skip
                  refine rl0 (gn rfl) rfl rfl (step_mv rfl rfl) trivial ?_;refine rl0 (gy rfl rfl rfl rfl rfl rfl) rfl rfl (step_mv rfl rfl) trivial ?_;refine rl0 (gy rfl rfl rfl rfl rfl rfl) rfl rfl (step_mv rfl rfl) trivial ?_;refine rl_lss (gy rfl rfl rfl rfl rfl rfl) rfl rfl rfl rfl rfl (fun h8 => ?_) (fun h8 => ?_)
                  · skip
                    refine rl0 (gn rfl) rfl rfl (step_pick rfl (ev_mk rfl) (ev_mk rfl)) trivial ?_;refine runsL_nil ?_;refine runs_cond true (ev_mk rfl) (fun _ => ?_) (fun h_ => nomatch h_);refine runs_region ?_;refine rl0 (gn rfl) rfl rfl (step_mv rfl rfl) trivial ?_;refine rl0 (gn rfl) rfl rfl (step_mv rfl rfl) trivial ?_;refine rl0 (gn rfl) rfl rfl (step_build_zero rfl rfl Try.underlying47 F.sz5 F.zero47 rfl) trivial ?_;refine' rl0 (gn rfl) rfl rfl (step_index_g rfl (ev_mk rfl) (ev_mk rfl) Try.underlying27 F.sz47 (by omega) (by omega) ?hl) ⟨?hb, trivial⟩ ?_
                    case hb => exact t_9
                    case hl => first | omega | (first | (simp; done) | (simp; omega) | omega)
                    refine' rls (gn rfl) rfl (step_store_gR (i := turn.toNat) (r := ((at' ((ssL es es.length).take (off es es.length)) turn).map bV)) rfl rfl rfl F.agg47 ?hi ?hr ?hm rfl ?hq) ⟨?hb, trivial⟩ (by omega) ?_
                    case hb => exact t_9
                    case hi => exact t_31
                    case hr => exact t_110
                    case hm => first | rfl | (first | (simp; done) | (simp; omega) | omega)
                    case hq => exact t_73
                    refine runsL_nil ?_;refine runs_seq ?_;refine runs_freeze (d := 23) (ys := secsV (tcut (ssL es es.length) (off es es.length) turn)) rfl t_9 t_52 t_111 ?_;refine runs_region ?_;refine rl0 (gn rfl) rfl rfl (step_mv rfl rfl) trivial ?_;refine rl1 (gn rfl) rfl rfl (step_callc rfl Try.func14 rfl rfl rfl (join_J (m1 + 1) es (tcut (ssL es es.length) (off es es.length) turn) (okC (off es es.length) turn) (whJ es (okC (off es es.length) turn) es.length) rfl hF0_1 ⟨by omega, by omega⟩ (tk_cut hK_) (tcut_row (ssL_row _ _)) (fun q_ h_ => okC_out (by omega))) t_8) ⟨t_9, trivial⟩ (by omega) ?_;refine rl0 (gn rfl) rfl rfl (step_mv rfl rfl) trivial ?_;refine rl0 (gn rfl) rfl rfl (step_extract rfl (ev_mk rfl) rfl) trivial ?_;refine rl0 (gn rfl) rfl rfl (step_extract rfl (ev_mk rfl) rfl) trivial ?_;refine rl0 (gn rfl) rfl rfl (step_as rfl rfl) trivial ?_;refine rl0 (gn rfl) rfl rfl (step_as rfl rfl) trivial ?_;refine runsL_nil ?_;refine runs_seq ?_;refine runs_region ?_;refine' rl0 (gn rfl) rfl rfl (step_load_all rfl rfl F.agg31 ?hl) ⟨?hb, trivial⟩ ?_
                    case hb => exact t_9
                    case hl => exact t_15
                    refine rl0 (gn rfl) rfl rfl (step_mv rfl rfl) trivial ?_;refine rl0 (gn rfl) rfl rfl (step_callc rfl Try.func15 rfl rfl rfl (whole_J es 1000 (off es es.length) 0 (kpF turn (off es es.length)) (whJ es (okC (off es es.length) turn) es.length) (by rw [okW_kp]) hF0_1.ok ⟨by omega, by omega, t_128⟩) t_8) trivial ?_;refine rl0 (gn rfl) rfl rfl (step_mv rfl rfl) trivial ?_;refine rl0 (gn rfl) rfl rfl (step_extract rfl (ev_mk rfl) rfl) trivial ?_;refine rl0 (gn rfl) rfl rfl (step_extract rfl (ev_mk rfl) rfl) trivial ?_;refine rl0 (gn rfl) rfl rfl (step_as rfl rfl) trivial ?_;refine rl0 (gn rfl) rfl rfl (step_as rfl rfl) trivial ?_;refine runsL_nil ?_;refine runs_seq ?_;refine runs_region ?_;refine rl0 (gn rfl) rfl rfl (step_mv rfl rfl) trivial ?_;refine rl0 (gn rfl) rfl rfl (step_mv rfl rfl) trivial ?_;refine rl0 (gn rfl) rfl rfl (step_callc rfl Try.func16 rfl rfl rfl (rsames_r (es.take (whJ es (okC (off es es.length) turn) es.length)) t_75 (fun e_ h_ => hF0_1.ok e_ (List.mem_of_mem_take h_))) t_8) trivial ?_;refine rl0 (gn rfl) rfl rfl (step_mv rfl rfl) trivial ?_;refine rl0 (gy rfl rfl rfl rfl rfl rfl) rfl rfl (step_mv rfl rfl) trivial ?_;refine rl0 (gy rfl rfl rfl rfl rfl rfl) rfl rfl (step_mv rfl rfl) trivial ?_;refine rl_eql (gy rfl rfl rfl rfl rfl rfl) rfl rfl rfl rfl rfl (fun h9 => ?_) (fun h9 => ?_)
                    rotate_left
                    · exact t_42
                    refine rl0 (gn rfl) rfl rfl (step_pick rfl (ev_mk rfl) (ev_mk rfl)) trivial ?_;refine rl0 (gn rfl) rfl rfl (step_mv rfl rfl) trivial ?_;refine rl0 (gy rfl rfl rfl rfl rfl rfl) rfl rfl (step_callc rfl Try.func6 rfl rfl rfl (works_c) t_8) trivial ?_;refine rl0 (gn rfl) rfl rfl (step_pick rfl (ev_mk rfl) (ev_mk rfl)) trivial ?_;refine rl0 (gn rfl) rfl rfl (step_as rfl rfl) trivial ?_;refine runsL_nil ?_;refine runs_ret ?_;refine ⟨t_17, fin_mkg (rest rfl res0) ?_ ?_ ?_ ?_ ?_⟩
                    · exact t_2
                    · exact t_1
                    · exact t_34
                    · exact t_45
                    · exact t_1
                  · skip
                    refine rl0 (gn rfl) rfl rfl (step_pick rfl (ev_mk rfl) (ev_mk rfl)) trivial ?_;refine runsL_nil ?_;refine runs_cond false (ev_mk rfl) (fun h_ => nomatch h_) (fun _ => ?_);refine runs_skip ?_;refine runs_seq ?_;refine runs_freeze (d := 23) (ys := secsV (tcut (ssL es es.length) (off es es.length) turn)) rfl t_9 t_52 t_76 ?_;refine runs_region ?_;refine rl0 (gn rfl) rfl rfl (step_mv rfl rfl) trivial ?_;refine rl1 (gn rfl) rfl rfl (step_callc rfl Try.func14 rfl rfl rfl (join_J (m1 + 1) es (tcut (ssL es es.length) (off es es.length) turn) (okC (off es es.length) turn) (whJ es (okC (off es es.length) turn) es.length) rfl hF0_1 ⟨by omega, by omega⟩ (tk_cut hK_) (tcut_row (ssL_row _ _)) (fun q_ h_ => okC_out (by omega))) t_8) ⟨t_9, trivial⟩ (by omega) ?_;refine rl0 (gn rfl) rfl rfl (step_mv rfl rfl) trivial ?_;refine rl0 (gn rfl) rfl rfl (step_extract rfl (ev_mk rfl) rfl) trivial ?_;refine rl0 (gn rfl) rfl rfl (step_extract rfl (ev_mk rfl) rfl) trivial ?_;refine rl0 (gn rfl) rfl rfl (step_as rfl rfl) trivial ?_;refine rl0 (gn rfl) rfl rfl (step_as rfl rfl) trivial ?_;refine runsL_nil ?_;refine runs_seq ?_;refine runs_region ?_;refine' rl0 (gn rfl) rfl rfl (step_load_all rfl rfl F.agg31 ?hl) ⟨?hb, trivial⟩ ?_
                    case hb => exact t_9
                    case hl => exact t_15
                    refine rl0 (gn rfl) rfl rfl (step_mv rfl rfl) trivial ?_;refine rl0 (gn rfl) rfl rfl (step_callc rfl Try.func15 rfl rfl rfl (whole_J es 1000 (off es es.length) 0 (kpF turn (off es es.length)) (whJ es (okC (off es es.length) turn) es.length) (by rw [okW_kp]) hF0_1.ok ⟨by omega, by omega, t_128⟩) t_8) trivial ?_;refine rl0 (gn rfl) rfl rfl (step_mv rfl rfl) trivial ?_;refine rl0 (gn rfl) rfl rfl (step_extract rfl (ev_mk rfl) rfl) trivial ?_;refine rl0 (gn rfl) rfl rfl (step_extract rfl (ev_mk rfl) rfl) trivial ?_;refine rl0 (gn rfl) rfl rfl (step_as rfl rfl) trivial ?_;refine rl0 (gn rfl) rfl rfl (step_as rfl rfl) trivial ?_;refine runsL_nil ?_;refine runs_seq ?_;refine runs_region ?_;refine rl0 (gn rfl) rfl rfl (step_mv rfl rfl) trivial ?_;refine rl0 (gn rfl) rfl rfl (step_mv rfl rfl) trivial ?_;refine rl0 (gn rfl) rfl rfl (step_callc rfl Try.func16 rfl rfl rfl (rsames_r (es.take (whJ es (okC (off es es.length) turn) es.length)) t_75 (fun e_ h_ => hF0_1.ok e_ (List.mem_of_mem_take h_))) t_8) trivial ?_;refine rl0 (gn rfl) rfl rfl (step_mv rfl rfl) trivial ?_;refine rl0 (gy rfl rfl rfl rfl rfl rfl) rfl rfl (step_mv rfl rfl) trivial ?_;refine rl0 (gy rfl rfl rfl rfl rfl rfl) rfl rfl (step_mv rfl rfl) trivial ?_;refine rl_eql (gy rfl rfl rfl rfl rfl rfl) rfl rfl rfl rfl rfl (fun h9 => ?_) (fun h9 => ?_)
                    rotate_left
                    · exact t_42
                    refine rl0 (gn rfl) rfl rfl (step_pick rfl (ev_mk rfl) (ev_mk rfl)) trivial ?_;refine rl0 (gn rfl) rfl rfl (step_mv rfl rfl) trivial ?_;refine rl0 (gy rfl rfl rfl rfl rfl rfl) rfl rfl (step_callc rfl Try.func6 rfl rfl rfl (works_c) t_8) trivial ?_;refine rl0 (gn rfl) rfl rfl (step_pick rfl (ev_mk rfl) (ev_mk rfl)) trivial ?_;refine rl0 (gn rfl) rfl rfl (step_as rfl rfl) trivial ?_;refine runsL_nil ?_;refine runs_ret ?_;refine ⟨t_17, fin_mkg (rest rfl res0) ?_ ?_ ?_ ?_ ?_⟩
                    · exact t_2
                    · exact t_1
                    · exact t_34
                    · exact t_45
                    · exact t_1
                · skip
                  refine rl0 (gn rfl) rfl rfl (step_mv rfl rfl) trivial ?_;refine rlk rfl rfl rfl rfl rfl (ngb rfl rfl) rfl rfl ?_;refine rlk rfl rfl rfl rfl rfl (ngb rfl rfl) rfl rfl ?_;refine rlk rfl rfl rfl rfl rfl (ngb rfl rfl) rfl rfl ?_;refine rl0 (gn rfl) rfl rfl (step_pick rfl (ev_mk rfl) (ev_mk rfl)) trivial ?_;refine runsL_nil ?_;refine runs_cond false (ev_mk rfl) (fun h_ => nomatch h_) (fun _ => ?_);refine runs_skip ?_;refine runs_seq ?_;refine runs_freeze (d := 23) (ys := secsV (tcut (ssL es es.length) (off es es.length) turn)) rfl t_9 t_52 t_76 ?_;refine runs_region ?_;refine rl0 (gn rfl) rfl rfl (step_mv rfl rfl) trivial ?_;refine rl1 (gn rfl) rfl rfl (step_callc rfl Try.func14 rfl rfl rfl (join_J (m1 + 1) es (tcut (ssL es es.length) (off es es.length) turn) (okC (off es es.length) turn) (whJ es (okC (off es es.length) turn) es.length) rfl hF0_1 ⟨by omega, by omega⟩ (tk_cut hK_) (tcut_row (ssL_row _ _)) (fun q_ h_ => okC_out (by omega))) t_8) ⟨t_9, trivial⟩ (by omega) ?_;refine rl0 (gn rfl) rfl rfl (step_mv rfl rfl) trivial ?_;refine rl0 (gn rfl) rfl rfl (step_extract rfl (ev_mk rfl) rfl) trivial ?_;refine rl0 (gn rfl) rfl rfl (step_extract rfl (ev_mk rfl) rfl) trivial ?_;refine rl0 (gn rfl) rfl rfl (step_as rfl rfl) trivial ?_;refine rl0 (gn rfl) rfl rfl (step_as rfl rfl) trivial ?_;refine runsL_nil ?_;refine runs_seq ?_;refine runs_region ?_;refine' rl0 (gn rfl) rfl rfl (step_load_all rfl rfl F.agg31 ?hl) ⟨?hb, trivial⟩ ?_
                  case hb => exact t_9
                  case hl => exact t_15
                  refine rl0 (gn rfl) rfl rfl (step_mv rfl rfl) trivial ?_;refine rl0 (gn rfl) rfl rfl (step_callc rfl Try.func15 rfl rfl rfl (whole_J es 1000 (off es es.length) 0 (kpF turn (off es es.length)) (whJ es (okC (off es es.length) turn) es.length) (by rw [okW_kp]) hF0_1.ok ⟨by omega, by omega, t_128⟩) t_8) trivial ?_;refine rl0 (gn rfl) rfl rfl (step_mv rfl rfl) trivial ?_;refine rl0 (gn rfl) rfl rfl (step_extract rfl (ev_mk rfl) rfl) trivial ?_;refine rl0 (gn rfl) rfl rfl (step_extract rfl (ev_mk rfl) rfl) trivial ?_;refine rl0 (gn rfl) rfl rfl (step_as rfl rfl) trivial ?_;refine rl0 (gn rfl) rfl rfl (step_as rfl rfl) trivial ?_;refine runsL_nil ?_;refine runs_seq ?_;refine runs_region ?_;refine rl0 (gn rfl) rfl rfl (step_mv rfl rfl) trivial ?_;refine rl0 (gn rfl) rfl rfl (step_mv rfl rfl) trivial ?_;refine rl0 (gn rfl) rfl rfl (step_callc rfl Try.func16 rfl rfl rfl (rsames_r (es.take (whJ es (okC (off es es.length) turn) es.length)) t_75 (fun e_ h_ => hF0_1.ok e_ (List.mem_of_mem_take h_))) t_8) trivial ?_;refine rl0 (gn rfl) rfl rfl (step_mv rfl rfl) trivial ?_;refine rl0 (gy rfl rfl rfl rfl rfl rfl) rfl rfl (step_mv rfl rfl) trivial ?_;refine rl0 (gy rfl rfl rfl rfl rfl rfl) rfl rfl (step_mv rfl rfl) trivial ?_;refine rl_eql (gy rfl rfl rfl rfl rfl rfl) rfl rfl rfl rfl rfl (fun h8 => ?_) (fun h8 => ?_)
                  rotate_left
                  · exact t_42
                  refine rl0 (gn rfl) rfl rfl (step_pick rfl (ev_mk rfl) (ev_mk rfl)) trivial ?_;refine rl0 (gn rfl) rfl rfl (step_mv rfl rfl) trivial ?_;refine rl0 (gy rfl rfl rfl rfl rfl rfl) rfl rfl (step_callc rfl Try.func6 rfl rfl rfl (works_c) t_8) trivial ?_;refine rl0 (gn rfl) rfl rfl (step_pick rfl (ev_mk rfl) (ev_mk rfl)) trivial ?_;refine rl0 (gn rfl) rfl rfl (step_as rfl rfl) trivial ?_;refine runsL_nil ?_;refine runs_ret ?_;refine ⟨t_17, fin_mkg (rest rfl res0) ?_ ?_ ?_ ?_ ?_⟩
                  · exact t_2
                  · exact t_1
                  · exact t_34
                  · exact t_45
                  · exact t_1
end Go.Proofs.Ytdmkhpnjjpeeaaa
