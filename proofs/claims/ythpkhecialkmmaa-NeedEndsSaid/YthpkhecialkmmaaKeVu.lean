/- Walks by the logic of values. -/
import Derived.Test.YthpkhecialkmmaaKeVmT
import Derived.Test.YthpkhecialkmmaaKeVmP
import Derived.Test.YthpkhecialkmmaaKeVmV
import Derived.Test.YthpkhecialkmmaaKeVmO
import Derived.Test.YthpkhecialkmmaaKeVa
import Derived.Test.YthpkhecialkmmaaKeVb
import Derived.Test.YthpkhecialkmmaaKeVc
import Derived.Test.YthpkhecialkmmaaKeVd
import Derived.Test.YthpkhecialkmmaaKeVf
import Derived.Test.YthpkhecialkmmaaKeVh
import Derived.Test.YthpkhecialkmmaaKeVi
import Derived.Test.YthpkhecialkmmaaKeVj
import Derived.Test.YthpkhecialkmmaaKeVk
import Derived.Test.YthpkhecialkmmaaKeVl
namespace Go.Proofs.Ythpkhecialkmmaa
open Go.Vm
set_option linter.unusedVariables false
set_option linter.unusedSimpArgs false
def jnG (a b : Int) : Nat → Nat → Int
  | 0, _ => 5
  | f + 1, m => if (cvF (m : Int) a && cvF (m : Int) b) = true then (m : Int) else jnG a b f (m + 1)
def jnF (a b : Int) : Int := jnG a b 6 0
theorem jn_go {a b : Int} {i : Nat} (h : jnF a b = jnG a b (6 - i) i) (hi : i < 6) (hn : ¬ (cvF (i : Int) a && cvF (i : Int) b) = true) : jnF a b = jnG a b (6 - (i + 1)) (i + 1) := by
  rw [h, show 6 - i = (6 - (i + 1)) + 1 by omega]; exact if_neg hn
theorem jn_at {a b : Int} {i : Nat} (h : jnF a b = jnG a b (6 - i) i) (hi : i < 6) (hn : (cvF (i : Int) a && cvF (i : Int) b) = true) : jnF a b = (i : Int) := by
  rw [h, show 6 - i = (6 - (i + 1)) + 1 by omega]; exact if_pos hn
theorem jnG_m6 (a b : Int) : ∀ f m, f + m = 6 → M6 (jnG a b f m)
  | 0, m, _ => by unfold jnG M6; omega
  | f + 1, m, h => by
    unfold jnG; split
    · unfold M6; omega
    · exact jnG_m6 a b f (m + 1) (by omega)
theorem jn_m6 (a b : Int) : M6 (jnF a b) := jnG_m6 a b 6 0 rfl
theorem jn_0 {m : Int} (h : M6 m) : jnF 0 m = m := by rcases m6 h with rfl | rfl | rfl | rfl | rfl | rfl <;> decide +kernel
theorem cv_self {m : Int} (h : M6 m) : cvF m m = true := by rcases m6 h with rfl | rfl | rfl | rfl | rfl | rfl <;> decide +kernel
theorem cv_0 {m : Int} (h : M6 m) (h1 : 1 ≤ m) : cvF 0 m = false := by rcases m6 h with rfl | rfl | rfl | rfl | rfl | rfl <;> first | omega | decide +kernel
def hlG (m : Int) (l : List Wt) (k n : Int) : Int := l.foldl (fun m w => if w.k = k ∧ w.n = n then jnF m w.m else m) m
def hlF (l : List Wt) (k n : Int) : Int := hlG 0 l k n
theorem hl_app (m : Int) (a b : List Wt) (k n : Int) : hlG m (a ++ b) k n = hlG (hlG m a k n) b k n := List.foldl_append
theorem hl_s {l : List Wt} {i : Nat} {w : Wt} {k n : Int} (h : l[i]? = some w) : hlF (l.take (i + 1)) k n = if w.k = k ∧ w.n = n then jnF (hlF (l.take i) k n) w.m else hlF (l.take i) k n := by
  unfold hlF; rw [List.take_add_one, h]; exact hl_app _ _ [w] _ _
theorem hlG_m6 {k n : Int} : ∀ {l : List Wt} {m : Int}, M6 m → M6 (hlG m l k n)
  | [], m, h => h
  | w :: l, m, h => by
    show M6 (hlG (if w.k = k ∧ w.n = n then jnF m w.m else m) l k n)
    refine hlG_m6 ?_
    split
    · exact jn_m6 _ _
    · exact h
theorem hl_m6 {l : List Wt} (hm : ∀ w ∈ l, M6 w.m) (k n : Int) : M6 (hlF l k n) := hlG_m6 (by unfold M6; omega)
theorem hl_no {l : List Wt} {i : Nat} {k n : Int} (h : ∀ (j : Nat) w, j < i → l[j]? = some w → ¬ (w.k = k ∧ w.n = n)) : hlF (l.take i) k n = 0 := by
  induction i with
  | zero => rfl
  | succ i ih =>
    have ih' := ih fun j w hj => h j w (by omega)
    cases hw : l[i]? with
    | none =>
      have e : l.length ≤ i := List.getElem?_eq_none_iff.1 hw
      rw [List.take_of_length_le e] at ih'
      rw [List.take_of_length_le (by omega)]; exact ih'
    | some w => rw [hl_s hw, if_neg (h i w (by omega) hw)]; exact ih'
def Dst (l : List Wt) : Prop := ∀ (i j : Nat) x y, i < j → l[i]? = some x → l[j]? = some y → ¬ (x.k = y.k ∧ x.n = y.n)
theorem hl_at {l : List Wt} (hd : Dst l) (hm : ∀ w ∈ l, M6 w.m) {i j : Nat} {x : Wt} (hj : j < i) (hx : l[j]? = some x) (hi : i ≤ l.length) : hlF (l.take i) x.k x.n = x.m := by
  induction i with
  | zero => omega
  | succ i ih =>
    obtain ⟨y, hy⟩ : ∃ y, l[i]? = some y := ⟨l[i]'(by omega), by simp⟩
    rw [hl_s hy]
    by_cases e : j = i
    · subst e
      rw [hx] at hy; cases hy
      rw [if_pos ⟨rfl, rfl⟩, hl_no fun q w hq hw => hd q j w x hq hw hx]
      exact jn_0 (hm x (List.mem_of_getElem? hx))
    · rw [if_neg fun h => hd j i x y (by omega) hx hy ⟨h.1.symm, h.2.symm⟩]
      exact ih (by omega) (by omega)
theorem tou_nd {a b c d : Int} (g0 : U4 a) (g1 : U4 b) (g2 : U4 c) (g3 : U4 d) : (touL a b c d).Pairwise (· ≠ ·) := by
  rw [tou_ref g0 g1 g2 g3]
  unfold refL
  refine List.Pairwise.map _ (fun x y (h : x ≠ y) => ?_) (List.Pairwise.filter _ List.nodup_range)
  omega
theorem dst_of {l : List Wt} (h : l.Pairwise fun x y => ¬ (x.k = y.k ∧ x.n = y.n)) : Dst l := fun i j x y hij hx hy => by
  obtain ⟨hi, rfl⟩ := List.getElem?_eq_some_iff.1 hx
  obtain ⟨hj, rfl⟩ := List.getElem?_eq_some_iff.1 hy
  exact List.pairwise_iff_getElem.1 h i j hi hj hij
theorem al_dst {o : Op1} {r : Rc1} {th : Bool} (ho : OkO o) : Dst (allL o r th) := by
  refine dst_of ?_
  by_cases h1 : o.k = 1
  · rw [al1 h1]; simp
  · by_cases h2 : o.k = 2
    · rw [al2 h2]; simp
    · by_cases h3 : o.k = 3
      · cases th with
        | true => rw [al3t h3 rfl]; simp
        | false => rw [al3f h3 rfl]; simp
      · by_cases h4 : o.k = 4 ∨ o.k = 5
        · rw [al4 h4]
          refine List.pairwise_cons.2 ⟨fun w hw => ?_, List.Pairwise.map _ (fun x y (h : x ≠ y) => ?_) (tou_nd ho.2.2.1 ho.2.2.2.1 ho.2.2.2.2.1 ho.2.2.2.2.2)⟩
          · obtain ⟨t, _, rfl⟩ := List.mem_map.1 hw
            simp
          · simpa using h
        · rw [al5 h1 h2 h3 (by omega) (by omega)]; exact List.Pairwise.nil
theorem al_m1 {o : Op1} {r : Rc1} {th : Bool} {w : Wt} (h : w ∈ allL o r th) : 1 ≤ w.m := by
  by_cases h1 : o.k = 1
  · rw [al1 h1] at h; simp only [List.mem_cons, List.not_mem_nil, or_false] at h; rcases h with rfl | rfl | rfl <;> (simp only; omega)
  · by_cases h2 : o.k = 2
    · rw [al2 h2] at h; simp only [List.mem_cons, List.not_mem_nil, or_false] at h; rcases h with rfl | rfl <;> (simp only; omega)
    · by_cases h3 : o.k = 3
      · cases th with
        | true => rw [al3t h3 rfl] at h; simp only [List.mem_cons, List.not_mem_nil, or_false] at h; rcases h with rfl | rfl | rfl <;> (simp only; omega)
        | false => rw [al3f h3 rfl] at h; simp only [List.mem_cons, List.not_mem_nil, or_false] at h; rcases h with rfl | rfl <;> (simp only; omega)
      · by_cases h4 : o.k = 4 ∨ o.k = 5
        · rw [al4 h4, List.mem_cons, List.mem_map] at h
          rcases h with rfl | ⟨t, _, rfl⟩ <;> (simp only; omega)
        · rw [al5 h1 h2 h3 (by omega) (by omega)] at h; cases h
theorem take_m {l : List Wt} {i : Nat} {w : Wt} (h : l[i]? = some w) : (l.take i).map wC ++ [wC w] = (l.take (i + 1)).map wC := by rw [List.take_add_one, h]; simp
set_option maxRecDepth 100000 in
set_option maxHeartbeats 4000000 in
theorem jn_c {a b : Int} (ha : M6 a) (hb : M6 b) : Does Try.prog 19 [.sc (.int .i64 a), .sc (.int .i64 b)] [] [] (.sc (.int .i64 (jnF a b))) := by
  refine does_mkg 40 Try.func19 rfl rfl rfl (fun n B bx hd hpre hup hvs hbx hgx => ?_)
  refine runs_seq ?_
  refine runs_region ?_
  refine rl0 (gn rfl) rfl rfl (step_as rfl rfl) trivial ?_
  refine runsL_nil ?_
  refine runs_seq ?_
  refine runs_seq ?_
  refine runs_region ?_
  refine rl0 (gn rfl) rfl rfl (step_as rfl rfl) trivial ?_
  refine runsL_nil ?_
  refine runs_block ?_
  refine runs_loop (fun (ri_ : Nat) (st_ : Go.Vm.S) => ∃ (i : Nat) (m0 : Nat) (b0 : Nat → Box), (st_ = ⟨mk [(0, .sc (.int .i64 a)), (1, .sc (.int .i64 b)), (4, .sc (.int .i64 0)), (5, .sc (.int .i64 (i : Int)))], m0, b0⟩) ∧ (ri_ = 1 + (6 - i)) ∧ (n + 0 ≤ m0) ∧ (∀ k_, k_ < n → b0 k_ = bx k_) ∧ (i ≤ 6) ∧ (jnF a b = jnG a b (6 - i) i)) (1 + (6 - 0)) ⟨_, sle ?_ (Nat.le_refl _), 0, _, _, rfl, rfl, ?_⟩ ?_
  · (repeat' (first | exact trivial | refine ⟨⟨_, rfl, ?_⟩, ?_⟩ | fail)); all_goals (repeat' (first | exact VLe.refl _ | exact VLe.own_sl _ _ _ | exact VLe.fl_sl _ _ | exact VLe.nil_sl _ | exact VLe.nil_fl _ | exact VLes.refl _ | exact .nil | refine VLe.tup ?_ | refine VLe.agg ?_ | refine .cons ?_ ?_ | (rw [Int.natCast_add]; exact VLe.refl _) | exact vle_int (by omega) | exact vle_bool (by first | rfl | assumption | (simp_all; done) | fail) | fail))
  · exact ⟨by omega, (fun k_ hk_ => by repeat (first | exact rfl | refine uN (by omega) ?_ | assumption | fail)), by omega, rfl⟩
  · rintro _ _ ⟨i, m0, b0, rfl, rfl, hm0, hf0, hF0_0, hF0_1⟩
    refine runs_know (fun hd0 => ?_)
    refine runs_bump 20 ?_
    simp only at hd0
    refine runs_seq ?_
    refine runs_seq ?_
    refine runs_region ?_
    refine rl0 (gn rfl) rfl rfl (step_mv rfl rfl) trivial ?_
    refine rl_lss (gn rfl) rfl rfl rfl rfl rfl (fun h1 => ?_) (fun h1 => ?_)
    · skip
      refine runsL_nil ?_
      refine runs_cond true (ev_mk rfl) (fun _ => ?_) (fun h_ => nomatch h_)
      refine runs_skip ?_
      refine runs_seq ?_
      refine runs_block ?_
      refine runs_seq ?_
      refine runs_region ?_
      refine rl0 (gn rfl) rfl rfl (step_mv rfl rfl) trivial ?_
      refine rl0 (gn rfl) rfl rfl (step_mv rfl rfl) trivial ?_
      refine rl0 (gn rfl) rfl rfl (step_callc rfl Try.func11 rfl rfl rfl (rcov_c (a := (i : Int)) (b := a) (by unfold M6; omega) ha) (by repeat (first | exact .nil | refine .cons ?_ ?_ | exact VLe.refl _ | exact VLe.own_sl _ _ _ | exact VLe.fl_sl _ _ | exact VLe.nil_sl _ | exact VLe.nil_fl _ | refine VLe.agg ?_))) trivial ?_
      refine rl0 (gn rfl) rfl rfl (step_mv rfl rfl) trivial ?_
      refine rl_bool (d := 13) rfl (fun h2 => ?_) (fun h2 => ?_)
      · skip
        refine rl0 (gy rfl rfl rfl rfl rfl rfl) rfl rfl (step_mv rfl rfl) trivial ?_
        refine rl0 (gy rfl rfl rfl rfl rfl rfl) rfl rfl (step_mv rfl rfl) trivial ?_
        refine rl0 (gy rfl rfl rfl rfl rfl rfl) rfl rfl (step_callc rfl Try.func11 rfl rfl rfl (rcov_c (a := (i : Int)) (b := b) (by unfold M6; omega) hb) (by repeat (first | exact .nil | refine .cons ?_ ?_ | exact VLe.refl _ | exact VLe.own_sl _ _ _ | exact VLe.fl_sl _ _ | exact VLe.nil_sl _ | exact VLe.nil_fl _ | refine VLe.agg ?_))) trivial ?_
        refine rl0 (gn rfl) rfl rfl (step_pick rfl (ev_mk rfl) (ev_mk rfl)) trivial ?_
        refine runsL_nil ?_
        refine runs_cond _ (ev_mk rfl) (fun h3 => ?_) (fun h3 => ?_)
        · skip
          refine runs_seq ?_
          refine runs_region ?_
          refine rl0 (gn rfl) rfl rfl (step_mv rfl rfl) trivial ?_
          refine rl0 (gn rfl) rfl rfl (step_as rfl rfl) trivial ?_
          refine runsL_nil ?_
          refine runs_ret ?_
          refine ⟨by first | exact .inr rfl | exact .inl rfl, fin_mkg (rest rfl res0) ?_ ?_ ?_ ?_ ?_⟩
          · (repeat' (first | exact VLe.refl _ | exact VLe.own_sl _ _ _ | exact VLe.fl_sl _ _ | exact VLe.nil_sl _ | exact VLe.nil_fl _ | exact VLes.refl _ | exact .nil | refine VLe.tup ?_ | refine VLe.agg ?_ | refine .cons ?_ ?_ | (rw [Int.natCast_add]; exact VLe.refl _) | exact vle_int (by omega) | exact vle_bool (by first | rfl | assumption | (simp_all; done) | fail) | ((first | rw [jn_at hF0_1 (by omega) (by simp_all)] | rw [hjn_]; exact VLe.refl _)) | ((rw [hjn_]; exact VLe.refl _)) | ((rw [jn_at hF0_1 (by omega) (by simp_all)]; exact VLe.refl _)) | fail))
          · repeat (first | exact trivial | assumption | omega | (refine bdR_map (fun _ => ?_)) | (refine bdL_map (fun _ => ?_)) | refine ⟨?_, ?_⟩ | fail)
          · intro k_ hk_; exact ble (by repeat (first | exact rfl | refine uN (by omega) ?_ | assumption | exact hf0 _ (by omega) | fail))
          · intro p hp; cases hp
          · repeat (first | exact trivial | assumption | omega | (refine bdR_map (fun _ => ?_)) | (refine bdL_map (fun _ => ?_)) | refine ⟨?_, ?_⟩ | fail)
        · skip
          refine runs_skip ?_
          refine runs_region ?_
          refine rl0 (gn rfl) rfl rfl (step_mv rfl rfl) trivial ?_
          refine rl0 (gn rfl) rfl rfl (step_add rfl (ev_mk rfl) (ev_mk rfl) (w64 (by omega))) trivial ?_
          refine rl0 (gn rfl) rfl rfl (step_as rfl rfl) trivial ?_
          refine runsL_nil ?_
          refine ⟨_, _, ?_, sle ?_ (Nat.le_refl _), (i + 1), _, _, rfl, rfl, by omega, (fun k_ hk_ => by repeat (first | exact hf0 k_ hk_ | refine uN (by first | assumption | omega) ?_ | fail)), by omega, jn_go hF0_1 (by omega) (by simp_all)⟩
          · omega
          · (repeat' (first | exact trivial | refine ⟨⟨_, rfl, ?_⟩, ?_⟩ | fail)); all_goals (repeat' (first | exact VLe.refl _ | exact VLe.own_sl _ _ _ | exact VLe.fl_sl _ _ | exact VLe.nil_sl _ | exact VLe.nil_fl _ | exact VLes.refl _ | exact .nil | refine VLe.tup ?_ | refine VLe.agg ?_ | refine .cons ?_ ?_ | (rw [Int.natCast_add]; exact VLe.refl _) | exact vle_int (by omega) | exact vle_bool (by first | rfl | assumption | (simp_all; done) | fail) | fail))
      · skip
        refine rlk rfl rfl rfl rfl rfl (ngb rfl rfl) rfl rfl ?_
        refine rlk rfl rfl rfl rfl rfl (ngb rfl rfl) rfl rfl ?_
        refine rlk rfl rfl rfl rfl rfl (ngb rfl rfl) rfl rfl ?_
        refine rl0 (gn rfl) rfl rfl (step_pick rfl (ev_mk rfl) (ev_mk rfl)) trivial ?_
        refine runsL_nil ?_
        refine runs_cond false (ev_mk rfl) (fun h_ => nomatch h_) (fun _ => ?_)
        refine runs_skip ?_
        refine runs_region ?_
        refine rl0 (gn rfl) rfl rfl (step_mv rfl rfl) trivial ?_
        refine rl0 (gn rfl) rfl rfl (step_add rfl (ev_mk rfl) (ev_mk rfl) (w64 (by omega))) trivial ?_
        refine rl0 (gn rfl) rfl rfl (step_as rfl rfl) trivial ?_
        refine runsL_nil ?_
        refine ⟨_, _, ?_, sle ?_ (Nat.le_refl _), (i + 1), _, _, rfl, rfl, by omega, (fun k_ hk_ => by repeat (first | exact hf0 k_ hk_ | refine uN (by first | assumption | omega) ?_ | fail)), by omega, jn_go hF0_1 (by omega) (by simp_all)⟩
        · omega
        · (repeat' (first | exact trivial | refine ⟨⟨_, rfl, ?_⟩, ?_⟩ | fail)); all_goals (repeat' (first | exact VLe.refl _ | exact VLe.own_sl _ _ _ | exact VLe.fl_sl _ _ | exact VLe.nil_sl _ | exact VLe.nil_fl _ | exact VLes.refl _ | exact .nil | refine VLe.tup ?_ | refine VLe.agg ?_ | refine .cons ?_ ?_ | (rw [Int.natCast_add]; exact VLe.refl _) | exact vle_int (by omega) | exact vle_bool (by first | rfl | assumption | (simp_all; done) | fail) | fail))
    · skip
      obtain rfl : i = 6 := by omega
      have hjn_ : jnF a b = 5 := hF0_1
      refine runsL_nil ?_
      refine runs_cond false (ev_mk rfl) (fun h_ => nomatch h_) (fun _ => ?_)
      refine runs_exit ?_
      refine runs_seq ?_
      refine runs_region ?_
      refine rl0 (gn rfl) rfl rfl (step_as rfl rfl) trivial ?_
      refine runsL_nil ?_
      refine runs_ret ?_
      refine ⟨by first | exact .inr rfl | exact .inl rfl, fin_mkg (rest rfl res0) ?_ ?_ ?_ ?_ ?_⟩
      · (repeat' (first | exact VLe.refl _ | exact VLe.own_sl _ _ _ | exact VLe.fl_sl _ _ | exact VLe.nil_sl _ | exact VLe.nil_fl _ | exact VLes.refl _ | exact .nil | refine VLe.tup ?_ | refine VLe.agg ?_ | refine .cons ?_ ?_ | (rw [Int.natCast_add]; exact VLe.refl _) | exact vle_int (by omega) | exact vle_bool (by first | rfl | assumption | (simp_all; done) | fail) | ((first | rw [jn_at hF0_1 (by omega) (by simp_all)] | rw [hjn_]; exact VLe.refl _)) | ((rw [hjn_]; exact VLe.refl _)) | ((rw [jn_at hF0_1 (by omega) (by simp_all)]; exact VLe.refl _)) | fail))
      · repeat (first | exact trivial | assumption | omega | (refine bdR_map (fun _ => ?_)) | (refine bdL_map (fun _ => ?_)) | refine ⟨?_, ?_⟩ | fail)
      · intro k_ hk_; exact ble (by repeat (first | exact rfl | refine uN (by omega) ?_ | assumption | exact hf0 _ (by omega) | fail))
      · intro p hp; cases hp
      · repeat (first | exact trivial | assumption | omega | (refine bdR_map (fun _ => ?_)) | (refine bdL_map (fun _ => ?_)) | refine ⟨?_, ?_⟩ | fail)
set_option maxRecDepth 100000 in
set_option maxHeartbeats 4000000 in
theorem held_18 (l : List Wt) (k n_ : Int) {kl kt2 : Nat} (hl : l.length ≤ 100) (hm : ∀ w ∈ l, M6 w.m) : Does Try.prog 18 [.agg [.sc (.int .i64 k), .sc (.int .u64 n_)], .ref kl 0] [(kl, .cells [.own 3 (l.map wC) kt2])] [] (.sc (.int .i64 (hlF l k n_))) := by
  refine does_mkg 40 Try.func18 rfl rfl rfl (fun n B bx hd hpre hup hvs hbx hgx => ?_)
  have hp0 := hpre.1
  have hk0 := lt_cells hd hp0
  refine runs_seq ?_
  refine runs_region ?_
  refine rl1 (gn rfl) rfl rfl (step_box_agg (k := n + 0) rfl rfl) ⟨by repeat (first | exact uE | refine uN (by omega) ?_ | assumption | exact hd _ (by omega) | fail), trivial⟩ (by omega) ?_
  refine rl0 (gn rfl) rfl rfl (step_as rfl rfl) trivial ?_
  refine runsL_nil ?_
  refine runs_seq ?_
  refine runs_region ?_
  refine rl0 (gn rfl) rfl rfl (step_as rfl rfl) trivial ?_
  refine runsL_nil ?_
  refine runs_seq ?_
  refine runs_seq ?_
  refine runs_region ?_
  refine rl0 (gn rfl) rfl rfl (step_as rfl rfl) trivial ?_
  refine runsL_nil ?_
  refine runs_block ?_
  refine runs_loop (fun (ri_ : Nat) (st_ : Go.Vm.S) => ∃ (i : Nat) (m0 : Nat) (b0 : Nat → Box), (st_ = ⟨mk [(1, .ref kl 0), (2, .ref (n + 0) 0), (3, .sc (.int .i64 0)), (4, .sc (.int .i64 (hlF (l.take i) k n_))), (5, .sc (.int .i64 (i : Int)))], m0, b0⟩) ∧ (ri_ = 1 + (l.length - i)) ∧ (n + 1 ≤ m0) ∧ (∀ k_, k_ < n → b0 k_ = bx k_) ∧ (b0 kl = .cells [.own 3 (l.map wC) kt2]) ∧ (b0 (n + 0) = .cells [.sc (.int .i64 k), .sc (.int .u64 n_)]) ∧ (i ≤ l.length)) (1 + (l.length - 0)) ⟨_, sle ?_ (Nat.le_refl _), 0, _, _, rfl, rfl, ?_⟩ ?_
  · (repeat' (first | exact trivial | refine ⟨⟨_, rfl, ?_⟩, ?_⟩ | fail)); all_goals (repeat' (first | exact VLe.refl _ | exact VLe.own_sl _ _ _ | exact VLe.fl_sl _ _ | exact VLe.nil_sl _ | exact VLe.nil_fl _ | exact VLes.refl _ | exact .nil | refine VLe.tup ?_ | refine VLe.agg ?_ | refine .cons ?_ ?_ | (rw [Int.natCast_add]; exact VLe.refl _) | exact vle_int (by omega) | exact vle_bool (by first | rfl | assumption | (simp_all; done) | fail) | fail))
  · exact ⟨by omega, (fun k_ hk_ => by repeat (first | exact rfl | refine uN (by omega) ?_ | assumption | fail)), by first | ((repeat (first | exact uE | assumption | refine uN (by omega) ?_ | fail)); done) | exact tl_eq (by repeat (first | exact uE | assumption | refine uN (by omega) ?_ | fail)) (by first | rfl | (simp [bytesV, beB_len]; done) | (simp [bytesV, beB_len]; omega) | omega), by first | ((repeat (first | exact uE | assumption | refine uN (by omega) ?_ | fail)); done) | exact tl_eq (by repeat (first | exact uE | assumption | refine uN (by omega) ?_ | fail)) (by first | rfl | (simp [bytesV, beB_len]; done) | (simp [bytesV, beB_len]; omega) | omega), by omega⟩
  · rintro _ _ ⟨i, m0, b0, rfl, rfl, hm0, hf0, hB0_0, hB0_1, hF0_0⟩
    refine runs_know (fun hd0 => ?_)
    refine runs_bump 20 ?_
    simp only at hd0
    refine runs_seq ?_
    refine runs_seq ?_
    refine runs_region ?_
    refine rl0 (gn rfl) rfl rfl (step_mv rfl rfl) trivial ?_
    refine' rl0 (gn rfl) rfl rfl (step_load_one rfl (ev_mk rfl) F.one53 ?hv) ⟨?hb, trivial⟩ ?_
    case hb => repeat (first | exact uE | refine uN (by omega) ?_ | assumption | exact hd _ (by omega) | exact hd0 _ (by omega) | fail)
    case hv => rfl
    refine rl0 (gn rfl) rfl rfl (step_len (m := l.length) rfl rfl (ev_mk rfl) (.inl ⟨⟨_, Try.underlying53⟩, .inl ⟨_, _, .inr (.inr ⟨_, rfl⟩), List.length_map _⟩⟩)) trivial ?_
    refine rl_lss (gn rfl) rfl rfl rfl rfl rfl (fun h1 => ?_) (fun h1 => ?_)
    · skip
      have hgw_ := oatW (l := l) (i := i) (by omega)
      refine runsL_nil ?_
      refine runs_cond true (ev_mk rfl) (fun _ => ?_) (fun h_ => nomatch h_)
      refine runs_skip ?_
      refine runs_seq ?_
      refine runs_block ?_
      refine runs_seq ?_
      refine runs_draw (by kernel_rfl) (by kernel_rfl) (by kernel_rfl) ?_
      refine' dl0 (gn rfl) rfl rfl (step_load_one rfl (ev_mk rfl) F.one53 ?hv) ⟨?hb, trivial⟩ ?_
      case hb => repeat (first | exact uE | refine uN (by omega) ?_ | assumption | exact hd _ (by omega) | exact hd0 _ (by omega) | fail)
      case hv => rfl
      refine dl0 (gn rfl) rfl rfl (step_mv rfl rfl) trivial ?_
      refine' dl0 (gn rfl) rfl rfl (step_index rfl (ev_mk rfl) (.inr (.inr ⟨_, rfl⟩)) (ev_mk rfl) Try.underlying53 F.sz41 (by omega) ?hr) trivial ?_
      case hr => exact map_at _ _ _ (by omega) (by omega)
      refine dl0 (gn rfl) rfl rfl (step_fieldAddr_ro (off := 0) rfl (ev_mk rfl) Try.underlying41 rfl F.sz39 rfl rfl) trivial ?_
      refine dl0 (gn rfl) rfl rfl (step_load_ro_agg rfl (ev_mk rfl) F.agg39 rfl rfl) trivial ?_
      refine' dl0 (gn rfl) rfl rfl (step_load_all rfl rfl F.agg39 ?hl) ⟨?hb, trivial⟩ ?_
      case hb => repeat (first | exact uE | refine uN (by omega) ?_ | assumption | exact hd _ (by omega) | exact hd0 _ (by omega) | fail)
      case hl => first | rfl | (simp; done) | (first | (simp; done) | (simp; omega) | omega)
      refine dl0 (gn rfl) rfl rfl (step_eql39 rfl (ev_mk rfl) (ev_mk rfl)) trivial ?_
      refine dlnil ?_ ?_
      · repeat' (first | exact trivial | exact .inr (ap0 _ _ _ _) | exact .inr (ap2 _ _ _ _) | exact .inr (ap3 _ _ _ _) | exact .inr ⟨by first | (simp; done) | (simp; omega), by first | (simp; done) | (simp; omega)⟩ | exact .inl (by kernel_rfl) | refine ⟨?_, ?_⟩ | fail)
      refine runs_cond _ (ev_mk rfl) (fun h2 => ?_) (fun h2 => ?_)
      · skip
        have hs_ := (hl_s (k := k) (n := n_) hgw_).trans (if_pos (rs_eq.1 h2))
        refine runs_region ?_
        refine rl0 (gn rfl) rfl rfl (step_mv rfl rfl) trivial ?_
        refine' rl0 (gn rfl) rfl rfl (step_load_one rfl (ev_mk rfl) F.one53 ?hv) ⟨?hb, trivial⟩ ?_
        case hb => repeat (first | exact uE | refine uN (by omega) ?_ | assumption | exact hd _ (by omega) | exact hd0 _ (by omega) | fail)
        case hv => rfl
        refine rl0 (gn rfl) rfl rfl (step_mv rfl rfl) trivial ?_
        refine' rl0 (gn rfl) rfl rfl (step_index rfl (ev_mk rfl) (.inr (.inr ⟨_, rfl⟩)) (ev_mk rfl) Try.underlying53 F.sz41 (by omega) ?hr) trivial ?_
        case hr => exact map_at _ _ _ (by omega) (by omega)
        refine rl0 (gn rfl) rfl rfl (step_fieldAddr_ro (off := 2) rfl (ev_mk rfl) Try.underlying41 rfl F.sz3 rfl rfl) trivial ?_
        refine rl0 (gn rfl) rfl rfl (step_load_ro rfl (ev_mk rfl) F.one3 rfl) trivial ?_
        refine rl0 (gn rfl) rfl rfl (step_callc rfl Try.func19 rfl rfl rfl (jn_c (hl_m6 (l := l.take i) (fun w hw => hm w (List.mem_of_mem_take hw)) k n_) (hm _ (List.mem_of_getElem? (oatW (l := l) (i := i) (by omega))))) (by repeat (first | exact .nil | refine .cons ?_ ?_ | exact VLe.refl _ | exact VLe.own_sl _ _ _ | exact VLe.fl_sl _ _ | exact VLe.nil_sl _ | exact VLe.nil_fl _ | refine VLe.agg ?_))) trivial ?_
        refine rl0 (gn rfl) rfl rfl (step_as rfl rfl) trivial ?_
        refine runsL_nil ?_
        refine runs_region ?_
        refine rl0 (gn rfl) rfl rfl (step_mv rfl rfl) trivial ?_
        refine rl0 (gn rfl) rfl rfl (step_add rfl (ev_mk rfl) (ev_mk rfl) (w64 (by omega))) trivial ?_
        refine rl0 (gn rfl) rfl rfl (step_as rfl rfl) trivial ?_
        refine runsL_nil ?_
        refine ⟨_, _, ?_, sle ?_ (Nat.le_refl _), (i + 1), _, _, rfl, rfl, by omega, (fun k_ hk_ => by repeat (first | exact hf0 k_ hk_ | refine uN (by first | assumption | omega) ?_ | fail)), by first | ((repeat (first | exact uE | assumption | refine uN (by omega) ?_ | fail)); done) | exact tl_eq (by repeat (first | exact uE | assumption | refine uN (by omega) ?_ | fail)) (by first | rfl | (simp [bytesV, beB_len]; done) | (simp [bytesV, beB_len]; omega) | omega), by first | ((repeat (first | exact uE | assumption | refine uN (by omega) ?_ | fail)); done) | exact tl_eq (by repeat (first | exact uE | assumption | refine uN (by omega) ?_ | fail)) (by first | rfl | (simp [bytesV, beB_len]; done) | (simp [bytesV, beB_len]; omega) | omega), by omega⟩
        · omega
        · (repeat' (first | exact trivial | refine ⟨⟨_, rfl, ?_⟩, ?_⟩ | fail)); all_goals (repeat' (first | exact VLe.refl _ | exact VLe.own_sl _ _ _ | exact VLe.fl_sl _ _ | exact VLe.nil_sl _ | exact VLe.nil_fl _ | exact VLes.refl _ | exact .nil | refine VLe.tup ?_ | refine VLe.agg ?_ | refine .cons ?_ ?_ | (rw [Int.natCast_add]; exact VLe.refl _) | exact vle_int (by omega) | exact vle_bool (by first | rfl | assumption | (simp_all; done) | fail) | ((rw [hs_]; exact VLe.refl _)) | fail))
      · skip
        have hs_ := (hl_s (k := k) (n := n_) hgw_).trans (if_neg (fun q_ => by rw [rs_eq.2 q_] at h2; cases h2))
        refine runs_skip ?_
        refine runs_region ?_
        refine rl0 (gn rfl) rfl rfl (step_mv rfl rfl) trivial ?_
        refine rl0 (gn rfl) rfl rfl (step_add rfl (ev_mk rfl) (ev_mk rfl) (w64 (by omega))) trivial ?_
        refine rl0 (gn rfl) rfl rfl (step_as rfl rfl) trivial ?_
        refine runsL_nil ?_
        refine ⟨_, _, ?_, sle ?_ (Nat.le_refl _), (i + 1), _, _, rfl, rfl, by omega, (fun k_ hk_ => by repeat (first | exact hf0 k_ hk_ | refine uN (by first | assumption | omega) ?_ | fail)), by first | ((repeat (first | exact uE | assumption | refine uN (by omega) ?_ | fail)); done) | exact tl_eq (by repeat (first | exact uE | assumption | refine uN (by omega) ?_ | fail)) (by first | rfl | (simp [bytesV, beB_len]; done) | (simp [bytesV, beB_len]; omega) | omega), by first | ((repeat (first | exact uE | assumption | refine uN (by omega) ?_ | fail)); done) | exact tl_eq (by repeat (first | exact uE | assumption | refine uN (by omega) ?_ | fail)) (by first | rfl | (simp [bytesV, beB_len]; done) | (simp [bytesV, beB_len]; omega) | omega), by omega⟩
        · omega
        · (repeat' (first | exact trivial | refine ⟨⟨_, rfl, ?_⟩, ?_⟩ | fail)); all_goals (repeat' (first | exact VLe.refl _ | exact VLe.own_sl _ _ _ | exact VLe.fl_sl _ _ | exact VLe.nil_sl _ | exact VLe.nil_fl _ | exact VLes.refl _ | exact .nil | refine VLe.tup ?_ | refine VLe.agg ?_ | refine .cons ?_ ?_ | (rw [Int.natCast_add]; exact VLe.refl _) | exact vle_int (by omega) | exact vle_bool (by first | rfl | assumption | (simp_all; done) | fail) | ((rw [hs_]; exact VLe.refl _)) | fail))
    · skip
      obtain rfl : i = l.length := by omega
      refine runsL_nil ?_
      refine runs_cond false (ev_mk rfl) (fun h_ => nomatch h_) (fun _ => ?_)
      refine runs_exit ?_
      refine runs_seq ?_
      refine runs_region ?_
      refine rl0 (gn rfl) rfl rfl (step_mv rfl rfl) trivial ?_
      refine rl0 (gn rfl) rfl rfl (step_as rfl rfl) trivial ?_
      refine runsL_nil ?_
      refine runs_ret ?_
      refine ⟨by first | exact .inr rfl | exact .inl rfl, fin_mkg (rest rfl res0) ?_ ?_ ?_ ?_ ?_⟩
      · (repeat' (first | exact VLe.refl _ | exact VLe.own_sl _ _ _ | exact VLe.fl_sl _ _ | exact VLe.nil_sl _ | exact VLe.nil_fl _ | exact VLes.refl _ | exact .nil | refine VLe.tup ?_ | refine VLe.agg ?_ | refine .cons ?_ ?_ | (rw [Int.natCast_add]; exact VLe.refl _) | exact vle_int (by omega) | exact vle_bool (by first | rfl | assumption | (simp_all; done) | fail) | ((rw [List.take_length]; exact VLe.refl _)) | fail))
      · repeat (first | exact trivial | assumption | omega | (refine bdR_map (fun _ => ?_)) | (refine bdL_map (fun _ => ?_)) | refine ⟨?_, ?_⟩ | fail)
      · intro k_ hk_; exact ble (by repeat (first | exact rfl | refine uN (by omega) ?_ | assumption | exact hf0 _ (by omega) | fail))
      · intro p hp; cases hp
      · repeat (first | exact trivial | assumption | omega | (refine bdR_map (fun _ => ?_)) | (refine bdL_map (fun _ => ?_)) | refine ⟨?_, ?_⟩ | fail)
end Go.Proofs.Ythpkhecialkmmaa

