/- Walks by the logic of values. -/
import Derived.Test.YtgfpgaaoigeopaaVa
import Derived.Test.YtgfpgaaoigeopaaVb
import Derived.Test.YtgfpgaaoigeopaaVc
import Derived.Test.YtgfpgaaoigeopaaVd
import Derived.Test.YtgfpgaaoigeopaaVe
import Derived.Test.YtgfpgaaoigeopaaVf
import Derived.Test.YtgfpgaaoigeopaaVh
import Derived.Test.YtgfpgaaoigeopaaVmT
import Derived.Test.YtgfpgaaoigeopaaVmP
namespace Go.Proofs.Ytgfpgaaoigeopaa
open Go.Vm
set_option linter.unusedVariables false
set_option linter.unusedSimpArgs false
def cT (l : List Pt) (n : Int) : Int := ((l.countP fun p => decide ((tl p.x p.y : Int) = n) : Nat) : Int)
theorem cT_step (l : List Pt) (n : Int) {j : Nat} (h : j < l.length) : cT (l.take (j + 1)) n = cT (l.take j) n + if (tl (at' l (j : Int)).x (at' l (j : Int)).y : Int) = n then 1 else 0 := by
  unfold cT; rw [List.take_add_one, List.getElem?_eq_getElem h, at_nat _ _ h, List.countP_append]
  simp only [Option.toList_some, List.countP_cons, List.countP_nil]
  by_cases hq : (tl l[j].x l[j].y : Int) = n <;> simp [hq]
theorem cT_bd (l : List Pt) (n : Int) : 0 ≤ cT l n ∧ cT l n ≤ l.length := by
  have := List.countP_le_length (p := fun p : Pt => decide ((tl p.x p.y : Int) = n)) (l := l)
  unfold cT; omega
theorem cn_pt (l : List Pt) (w : Int) (n : Nat) : cn (ptW l w) (fun t => t = n) = w * cT l n := by
  induction l with
  | nil => simp [cn, ptW, cT]
  | cons p l ih =>
    rw [show ptW (p :: l) w = (tl p.x p.y, w) :: ptW l w from rfl, cn_cons, ih]
    unfold cT
    rw [List.countP_cons]
    by_cases hq : tl p.x p.y = n
    · have hq2 : ((tl p.x p.y : Int) = (n : Int)) := by omega
      simp only [hq, if_true, decide_true]; push_cast; rw [Int.mul_add]; omega
    · have hq2 : ¬ ((tl p.x p.y : Int) = (n : Int)) := by omega
      simp [hq, hq2]
theorem cT_drop (l : List Pt) (k : Nat) (n : Int) : cT l n = cT (l.take k) n + cT (l.drop k) n := by
  unfold cT
  have h := List.countP_append (p := fun p : Pt => decide ((tl p.x p.y : Int) = n)) (l₁ := l.take k) (l₂ := l.drop k)
  rw [List.take_append_drop] at h
  rw [h]; push_cast; rfl
def kP (l : List Pt) (k : Nat) : List (Nat × Int) := ptW l 1 ++ ptW (l.take k) (-1)
theorem kP_ok {l : List Pt} (hl : ∀ p ∈ l, okPt p) (k : Nat) : okW (kP l k) := fun p hp => by
  unfold kP at hp
  rcases List.mem_append.1 hp with h | h
  · exact ptW_ok hl (by omega) p h
  · exact ptW_ok (fun q hq => hl q (List.mem_of_mem_take hq)) (by omega) p h
theorem kP_bd {l : List Pt} (hl : ∀ p ∈ l, okPt p) (hL : l.length ≤ 100) (k : Nat) : bdG (G (kP l k)) 100000 := bdG_mono (G_bd _ (kP_ok hl k)) (by unfold kP; rw [List.length_append, ptW_len, ptW_len, List.length_take]; omega)
theorem kP_sem {l : List Pt} (hl : ∀ p ∈ l, okPt p) (k : Nat) {n : Nat} (hn : n < 64) : tF (G (kP l k)) n = cT (l.drop k) n := by
  rw [tF_sem (kP_ok hl k) hn]
  unfold kP
  rw [cn_app, cn_pt, cn_pt, cT_drop l k n]; omega
theorem kP_snoc (l : List Pt) {j : Nat} (h : j < l.length) : addO (G (kP l j)) (-1) (tl (at' l (j : Int)).x (at' l (j : Int)).y % 8 + 1) (tl (at' l (j : Int)).x (at' l (j : Int)).y / 8 + 1) = G (kP l (j + 1)) := by
  rw [G_snoc]; unfold kP; rw [List.append_assoc, ptW_snoc l (-1) h]
theorem kP_0 (l : List Pt) : G (kP l 0) = G (ptW l 1) := by unfold kP; rw [List.take_zero, show ptW ([] : List Pt) (-1) = [] from rfl, List.append_nil]
def sdF (lo hi x : Int) : Int := if mn hi (x + 536870911) < mx lo x then 0 else shF (mn hi (x + 536870911) - mx lo x)
theorem sdF_bd (lo hi x : Int) : 0 ≤ sdF lo hi x ∧ sdF lo hi x ≤ 1024 := by
  unfold sdF; split
  · omega
  · have h := shF_bd (ext_bd (a := lo) (c := hi) (x := x) (by omega)); omega
theorem gTerm_sd (T : Nat → Int) (a b c d : Int) (j : Nat) : gTerm T a b c d j = T j * sdF a c (tA j) * sdF b d (tC j) := by
  unfold gTerm sdF
  by_cases h1 : mn c (tA j + 536870911) < mx a (tA j)
  · rw [if_pos (by unfold emF; exact decide_eq_true (.inl h1)), if_pos h1]; simp
  · by_cases h2 : mn d (tC j + 536870911) < mx b (tC j)
    · rw [if_pos (by unfold emF; exact decide_eq_true (.inr h2)), if_pos h2]; simp
    · rw [if_neg (by unfold emF; rw [decide_eq_true_eq]; omega), if_neg h1, if_neg h2]
theorem shF_one {v : Int} (h : v = 536870911) : shF v = 1024 := by subst h; rfl
theorem shF_two {v : Int} (h0 : 0 ≤ v) (h : v < 524288) : shF v = 1 := by unfold shF aeF; rw [if_pos (show 1 > v / 524288 by omega), if_neg (show ¬ v = 536870911 by omega)]; rfl
theorem shF_three {v : Int} (h0 : ¬ v = 536870911) (h : ¬ v < 524288) : shF v = v / 524288 := by unfold shF aeF; rw [if_neg (show ¬ 1 > v / 524288 by omega), if_neg h0]; omega
theorem mx_or (a b : Int) : (mx a b = b ∧ b > a) ∨ (mx a b = a ∧ ¬ b > a) := by by_cases h : b > a; exact .inl ⟨if_pos h, h⟩; exact .inr ⟨if_neg h, h⟩
theorem mn_or (a b : Int) : (mn a b = b ∧ b < a) ∨ (mn a b = a ∧ ¬ b < a) := by by_cases h : b < a; exact .inl ⟨if_pos h, h⟩; exact .inr ⟨if_neg h, h⟩
set_option maxRecDepth 100000 in
set_option maxHeartbeats 1000000 in
theorem rt_c (x y : Int) (hx : U32 x) (hy : U32 y) : Does Try.prog 18 [.sc (.int .u32 x), .sc (.int .u32 y)] [] [] (.sc (.int .i64 (tl x y))) := by
  refine does_mkg 40 Try.func18 rfl rfl rfl (fun n B bx hd hpre hup hvs hbx hgx => ?_)
  have htl := tl_eq hx hy
  unfold U32 at hx hy
  refine runs_seq ?_
  refine runs_region ?_
  refine rl0 (gn rfl) rfl rfl (step_as rfl rfl) trivial ?_
  refine runsL_nil ?_
  refine runs_seq ?_
  refine runs_region ?_
  refine rl0 (gn rfl) rfl rfl (step_mv rfl rfl) trivial ?_
  refine rl0 (gn rfl) rfl rfl (step_quo rfl (ev_mk rfl) (ev_mk rfl) (by omega) (by omega) (wu32 (by omega))) trivial ?_
  refine rl0 (gn rfl) rfl rfl (step_conv_id rfl rfl Try.underlying23 Try.underlying3 (w64 (by omega))) trivial ?_
  refine rl0 (gn rfl) rfl rfl (step_mul rfl (ev_mk rfl) (ev_mk rfl) (w64 (by omega))) trivial ?_
  refine rl0 (gn rfl) rfl rfl (step_mv rfl rfl) trivial ?_
  refine rl0 (gn rfl) rfl rfl (step_quo rfl (ev_mk rfl) (ev_mk rfl) (by omega) (by omega) (wu32 (by omega))) trivial ?_
  refine rl0 (gn rfl) rfl rfl (step_conv_id rfl rfl Try.underlying23 Try.underlying3 (w64 (by omega))) trivial ?_
  refine rl0 (gn rfl) rfl rfl (step_add rfl (ev_mk rfl) (ev_mk rfl) (w64 (by omega))) trivial ?_
  refine rl0 (gn rfl) rfl rfl (step_as rfl rfl) trivial ?_
  refine runsL_nil ?_
  refine runs_ret ?_
  refine ⟨by first | exact .inr rfl | exact .inl rfl, fin_mkg (rest rfl res0) ?_ ?_ ?_ ?_ ?_⟩
  · (repeat' (first | exact VLe.refl _ | exact VLe.own_sl _ _ _ | exact VLe.fl_sl _ _ | exact VLe.nil_sl _ | exact VLe.nil_fl _ | exact VLes.refl _ | exact .nil | refine VLe.tup ?_ | refine VLe.agg ?_ | refine .cons ?_ ?_ | (rw [Int.natCast_add]; exact VLe.refl _) | exact vle_int (by omega) | exact vle_bool (by first | rfl | assumption | (simp_all; done)) | fail))
  · repeat (first | exact trivial | assumption | omega | exact bd_bs | exact bd_row | exact bd_secs | exact bd_bools | (refine bdR_map (fun _ => ?_)) | (refine bdL_map (fun _ => ?_)) | refine ⟨?_, ?_⟩ | fail)
  · intro k_ hk_; exact ble (by first | exact rfl | (refine (upd_ne _ _ _ _ (by omega)).trans ?_; first | exact rfl | skip; repeat (first | exact rfl | refine (upd_ne _ _ _ _ (by omega)).trans ?_ | assumption | exact hf0 _ (by omega) | exact hf1 _ (by omega) | exact hf2 _ (by omega) | exact hf3 _ (by omega) | exact hf0 _ (by omega) (by first | assumption | omega) | exact hf1 _ (by omega) (by first | assumption | omega) | exact hf2 _ (by omega) (by first | assumption | omega) | exact hf3 _ (by omega) (by first | assumption | omega) | exact hf0 _ (by omega) (by first | assumption | omega) (by first | assumption | omega) | exact hf1 _ (by omega) (by first | assumption | omega) (by first | assumption | omega) | exact hf2 _ (by omega) (by first | assumption | omega) (by first | assumption | omega) | exact hf3 _ (by omega) (by first | assumption | omega) (by first | assumption | omega))) | exact hf0 _ (by omega) | exact hf1 _ (by omega) | exact hf2 _ (by omega) | exact hf3 _ (by omega) | exact hf0 _ (by omega) (by first | assumption | omega) | exact hf1 _ (by omega) (by first | assumption | omega) | exact hf2 _ (by omega) (by first | assumption | omega) | exact hf3 _ (by omega) (by first | assumption | omega) | exact hf0 _ (by omega) (by first | assumption | omega) (by first | assumption | omega) | exact hf1 _ (by omega) (by first | assumption | omega) (by first | assumption | omega) | exact hf2 _ (by omega) (by first | assumption | omega) (by first | assumption | omega) | exact hf3 _ (by omega) (by first | assumption | omega) (by first | assumption | omega))
  · intro p hp; cases hp
  · repeat (first | exact trivial | assumption | omega | exact bd_bs | exact bd_row | exact bd_secs | exact bd_bools | (refine bdR_map (fun _ => ?_)) | (refine bdL_map (fun _ => ?_)) | refine ⟨?_, ?_⟩ | fail)
set_option maxRecDepth 100000 in
set_option maxHeartbeats 1000000 in
theorem rtile_c (l : List Pt) (hl : ∀ p ∈ l, okPt p) (hL : l.length ≤ 1000) (n_ : Int) : Does Try.prog 9 [.sl 4 (l.map ptR), .sc (.int .i64 n_)] [] [] (.sc (.int .i64 (cT l n_))) := by
  refine does_mkg 40 Try.func9 rfl rfl rfl (fun n B bx hd hpre hup hvs hbx hgx => ?_)
  refine runs_seq ?_
  refine runs_region ?_
  refine rl0 (gn rfl) rfl rfl (step_as rfl rfl) trivial ?_
  refine runsL_nil ?_
  refine runs_seq ?_
  refine runs_region ?_
  refine rl0 (gn rfl) rfl rfl (step_as rfl rfl) trivial ?_
  refine runsL_nil ?_
  refine runs_seq ?_
  refine runs_seq ?_
  refine runs_region ?_
  refine rl0 (gn rfl) rfl rfl (step_as rfl rfl) trivial ?_
  refine runsL_nil ?_
  refine runs_block ?_
  have hs0_ : 0 = cT (l.take 0) n_ := by rfl
  refine runs_loop (fun (ri_ : Nat) (st_ : Go.Vm.S) => ∃ (j : Nat) (m0 : Nat) (b0 : Nat → Box), (st_ = ⟨mk [(0, .sl 4 (l.map ptR)), (1, .sc (.int .i64 n_)), (4, .sc (.int .i64 0)), (5, .sc (.int .i64 (cT (l.take j) n_))), (6, .sc (.int .i64 j))], m0, b0⟩) ∧ (ri_ = l.length - j) ∧ (n + 0 ≤ m0) ∧ (∀ k_, k_ < n → b0 k_ = bx k_) ∧ (j ≤ l.length)) (l.length - 0) ⟨_, sle ?_ (Nat.le_refl _), 0, _, _, rfl, rfl, ?_⟩ ?_
  · (repeat' (first | exact trivial | refine ⟨⟨_, rfl, ?_⟩, ?_⟩ | fail)); all_goals (repeat' (first | exact VLe.refl _ | exact VLe.own_sl _ _ _ | exact VLe.fl_sl _ _ | exact VLe.nil_sl _ | exact VLe.nil_fl _ | exact VLes.refl _ | exact .nil | refine VLe.tup ?_ | refine VLe.agg ?_ | refine .cons ?_ ?_ | (rw [Int.natCast_add]; exact VLe.refl _) | exact vle_int (by omega) | exact vle_bool (by first | rfl | assumption | (simp_all; done)) | (rw [← hs0_]; exact VLe.refl _) | (rw [hs0_]; exact VLe.refl _) | fail))
  · exact ⟨by omega, (fun k_ hk_ => by first | exact rfl | (refine (upd_ne _ _ _ _ (by omega)).trans ?_; first | exact rfl | skip; repeat (first | exact rfl | refine (upd_ne _ _ _ _ (by omega)).trans ?_ | assumption | exact hf0 _ (by omega) | exact hf1 _ (by omega) | exact hf2 _ (by omega) | exact hf3 _ (by omega) | exact hf0 _ (by omega) (by first | assumption | omega) | exact hf1 _ (by omega) (by first | assumption | omega) | exact hf2 _ (by omega) (by first | assumption | omega) | exact hf3 _ (by omega) (by first | assumption | omega) | exact hf0 _ (by omega) (by first | assumption | omega) (by first | assumption | omega) | exact hf1 _ (by omega) (by first | assumption | omega) (by first | assumption | omega) | exact hf2 _ (by omega) (by first | assumption | omega) (by first | assumption | omega) | exact hf3 _ (by omega) (by first | assumption | omega) (by first | assumption | omega))) | exact hf0 _ (by omega) | exact hf1 _ (by omega) | exact hf2 _ (by omega) | exact hf3 _ (by omega) | exact hf0 _ (by omega) (by first | assumption | omega) | exact hf1 _ (by omega) (by first | assumption | omega) | exact hf2 _ (by omega) (by first | assumption | omega) | exact hf3 _ (by omega) (by first | assumption | omega) | exact hf0 _ (by omega) (by first | assumption | omega) (by first | assumption | omega) | exact hf1 _ (by omega) (by first | assumption | omega) (by first | assumption | omega) | exact hf2 _ (by omega) (by first | assumption | omega) (by first | assumption | omega) | exact hf3 _ (by omega) (by first | assumption | omega) (by first | assumption | omega)), by omega⟩
  · rintro _ _ ⟨j, m0, b0, rfl, rfl, hm0, hf0, hF0_0⟩
    refine runs_know (fun hd0 => ?_)
    refine runs_bump 20 ?_
    simp only at hd0
    refine runs_seq ?_
    refine runs_seq ?_
    refine runs_region ?_
    refine rl0 (gn rfl) rfl rfl (step_mv rfl rfl) trivial ?_
    refine rl0 (gn rfl) rfl rfl (step_mv rfl rfl) trivial ?_
    refine rl0 (gn rfl) rfl rfl (step_len (m := l.length) rfl rfl (ev_mk rfl) (.inl ⟨⟨_, Try.underlying22⟩, .inl ⟨_, _, .inl rfl, List.length_map _⟩⟩)) trivial ?_
    refine rl_lss (gn rfl) rfl rfl rfl rfl rfl (fun h1 => ?_) (fun h1 => ?_)
    · skip
      have hpj := hl _ (at_mem (xs := l) (i := (j : Int)) (by omega) (by omega))
      have hst := cT_step l n_ (j := j) (by omega)
      have hcb := cT_bd (l.take j) n_
      rw [List.length_take] at hcb
      refine runsL_nil ?_
      refine runs_cond true (ev_mk rfl) (fun _ => ?_) (fun h_ => nomatch h_)
      refine runs_skip ?_
      refine runs_seq ?_
      refine runs_block ?_
      refine runs_seq ?_
      refine runs_draw (by kernel_rfl) (by kernel_rfl) (by kernel_rfl) ?_
      refine dl0 (gn rfl) rfl rfl (step_mv rfl rfl) trivial ?_
      refine dl0 (gn rfl) rfl rfl (step_mv rfl rfl) trivial ?_
      refine' dl0 (gn rfl) rfl rfl (step_index rfl (ev_mk rfl) (.inl rfl) (ev_mk rfl) Try.underlying22 F.sz32 (by omega) ?hr) trivial ?_
      case hr => exact map_at _ _ _ (by omega) (by omega)
      refine dl0 (gn rfl) rfl rfl (step_fieldAddr_ro (off := 0) rfl (ev_mk rfl) Try.underlying32 rfl F.sz23 rfl rfl) trivial ?_
      refine dl0 (gn rfl) rfl rfl (step_load_ro rfl (ev_mk rfl) F.one23 rfl) trivial ?_
      refine dl0 (gn rfl) rfl rfl (step_mv rfl rfl) trivial ?_
      refine dl0 (gn rfl) rfl rfl (step_mv rfl rfl) trivial ?_
      refine' dl0 (gn rfl) rfl rfl (step_index rfl (ev_mk rfl) (.inl rfl) (ev_mk rfl) Try.underlying22 F.sz32 (by omega) ?hr) trivial ?_
      case hr => exact map_at _ _ _ (by omega) (by omega)
      refine dl0 (gn rfl) rfl rfl (step_fieldAddr_ro (off := 1) rfl (ev_mk rfl) Try.underlying32 rfl F.sz23 rfl rfl) trivial ?_
      refine dl0 (gn rfl) rfl rfl (step_load_ro rfl (ev_mk rfl) F.one23 rfl) trivial ?_
      refine dl0 (gn rfl) rfl rfl (step_callc rfl Try.func18 rfl rfl rfl (rt_c (at' l (j : Int)).x (at' l (j : Int)).y hpj.1 hpj.2) (by repeat (first | exact .nil | refine .cons ?_ ?_ | exact VLe.refl _ | exact VLe.own_sl _ _ _ | exact VLe.fl_sl _ _ | exact VLe.nil_sl _ | exact VLe.nil_fl _ | refine VLe.agg ?_))) trivial ?_
      refine dl0 (gn rfl) rfl rfl (step_mv rfl rfl) trivial ?_
      refine dl_eql (gn rfl) rfl rfl rfl rfl rfl (fun h2 => ?_) (fun h2 => ?_)
      · skip
        refine dlnil ?_ ?_
        · repeat' (first | exact trivial | exact .inr (ap0 _ _ _ _) | exact .inr (ap2 _ _ _ _) | exact .inr (ap3 _ _ _ _) | exact .inr ⟨by first | (simp; done) | (simp; omega), by first | (simp; done) | (simp; omega)⟩ | exact .inl (by kernel_rfl) | refine ⟨?_, ?_⟩ | fail)
        refine runs_cond true (ev_mk rfl) (fun _ => ?_) (fun h_ => nomatch h_)
        refine runs_region ?_
        refine rl0 (gn rfl) rfl rfl (step_mv rfl rfl) trivial ?_
        refine rl0 (gn rfl) rfl rfl (step_add rfl (ev_mk rfl) (ev_mk rfl) (w64 (by omega))) trivial ?_
        refine rl0 (gn rfl) rfl rfl (step_as rfl rfl) trivial ?_
        refine runsL_nil ?_
        refine runs_region ?_
        refine rl0 (gn rfl) rfl rfl (step_mv rfl rfl) trivial ?_
        refine rl0 (gn rfl) rfl rfl (step_add rfl (ev_mk rfl) (ev_mk rfl) (w64 (by omega))) trivial ?_
        refine rl0 (gn rfl) rfl rfl (step_as rfl rfl) trivial ?_
        refine runsL_nil ?_
        have hq0_ : (cT (l.take j) n_) + 1 = cT (l.take (j + 1)) n_ := by (rw [hst]; first | rw [if_pos (by assumption)] | (rw [if_neg (by assumption)]; omega))
        refine ⟨_, _, ?_, sle ?_ (Nat.le_refl _), (j + 1), _, _, rfl, rfl, by omega, (fun k_ hk_ => by repeat (first | exact hf0 k_ hk_ | exact hf1 k_ hk_ | exact hf2 k_ hk_ | exact hf3 k_ hk_ | refine (upd_ne _ _ _ _ (by first | assumption | omega)).trans ?_ | fail)), by omega⟩
        · omega
        · (repeat' (first | exact trivial | refine ⟨⟨_, rfl, ?_⟩, ?_⟩ | fail)); all_goals (repeat' (first | exact VLe.refl _ | exact VLe.own_sl _ _ _ | exact VLe.fl_sl _ _ | exact VLe.nil_sl _ | exact VLe.nil_fl _ | exact VLes.refl _ | exact .nil | refine VLe.tup ?_ | refine VLe.agg ?_ | refine .cons ?_ ?_ | (rw [Int.natCast_add]; exact VLe.refl _) | exact vle_int (by omega) | exact vle_bool (by first | rfl | assumption | (simp_all; done)) | (rw [← hq0_]; exact VLe.refl _) | (rw [hq0_]; exact VLe.refl _) | fail))
      · skip
        refine dlnil ?_ ?_
        · repeat' (first | exact trivial | exact .inr (ap0 _ _ _ _) | exact .inr (ap2 _ _ _ _) | exact .inr (ap3 _ _ _ _) | exact .inr ⟨by first | (simp; done) | (simp; omega), by first | (simp; done) | (simp; omega)⟩ | exact .inl (by kernel_rfl) | refine ⟨?_, ?_⟩ | fail)
        refine runs_cond false (ev_mk rfl) (fun h_ => nomatch h_) (fun _ => ?_)
        refine runs_skip ?_
        refine runs_region ?_
        refine rl0 (gn rfl) rfl rfl (step_mv rfl rfl) trivial ?_
        refine rl0 (gn rfl) rfl rfl (step_add rfl (ev_mk rfl) (ev_mk rfl) (w64 (by omega))) trivial ?_
        refine rl0 (gn rfl) rfl rfl (step_as rfl rfl) trivial ?_
        refine runsL_nil ?_
        have hq0_ : cT (l.take j) n_ = cT (l.take (j + 1)) n_ := by (rw [hst]; first | rw [if_pos (by assumption)] | (rw [if_neg (by assumption)]; omega))
        refine ⟨_, _, ?_, sle ?_ (Nat.le_refl _), (j + 1), _, _, rfl, rfl, by omega, (fun k_ hk_ => by repeat (first | exact hf0 k_ hk_ | exact hf1 k_ hk_ | exact hf2 k_ hk_ | exact hf3 k_ hk_ | refine (upd_ne _ _ _ _ (by first | assumption | omega)).trans ?_ | fail)), by omega⟩
        · omega
        · (repeat' (first | exact trivial | refine ⟨⟨_, rfl, ?_⟩, ?_⟩ | fail)); all_goals (repeat' (first | exact VLe.refl _ | exact VLe.own_sl _ _ _ | exact VLe.fl_sl _ _ | exact VLe.nil_sl _ | exact VLe.nil_fl _ | exact VLes.refl _ | exact .nil | refine VLe.tup ?_ | refine VLe.agg ?_ | refine .cons ?_ ?_ | (rw [Int.natCast_add]; exact VLe.refl _) | exact vle_int (by omega) | exact vle_bool (by first | rfl | assumption | (simp_all; done)) | (rw [← hq0_]; exact VLe.refl _) | (rw [hq0_]; exact VLe.refl _) | fail))
    · skip
      refine runsL_nil ?_
      refine runs_cond false (ev_mk rfl) (fun h_ => nomatch h_) (fun _ => ?_)
      refine runs_exit ?_
      refine runs_seq ?_
      refine runs_region ?_
      refine rl0 (gn rfl) rfl rfl (step_mv rfl rfl) trivial ?_
      refine rl0 (gn rfl) rfl rfl (step_as rfl rfl) trivial ?_
      refine runsL_nil ?_
      refine runs_ret ?_
      obtain rfl : j = l.length := by omega
      refine ⟨by first | exact .inr rfl | exact .inl rfl, fin_mkg (rest rfl res0) ?_ ?_ ?_ ?_ ?_⟩
      · (repeat' (first | exact VLe.refl _ | exact VLe.own_sl _ _ _ | exact VLe.fl_sl _ _ | exact VLe.nil_sl _ | exact VLe.nil_fl _ | exact VLes.refl _ | exact .nil | refine VLe.tup ?_ | refine VLe.agg ?_ | refine .cons ?_ ?_ | (rw [Int.natCast_add]; exact VLe.refl _) | exact vle_int (by omega) | exact vle_bool (by first | rfl | assumption | (simp_all; done)) | ((rw [List.take_length]; exact VLe.refl _)) | fail))
      · repeat (first | exact trivial | assumption | omega | exact bd_bs | exact bd_row | exact bd_secs | exact bd_bools | (refine bdR_map (fun _ => ?_)) | (refine bdL_map (fun _ => ?_)) | refine ⟨?_, ?_⟩ | fail)
      · intro k_ hk_; exact ble (by first | exact rfl | (refine (upd_ne _ _ _ _ (by omega)).trans ?_; first | exact rfl | skip; repeat (first | exact rfl | refine (upd_ne _ _ _ _ (by omega)).trans ?_ | assumption | exact hf0 _ (by omega) | exact hf1 _ (by omega) | exact hf2 _ (by omega) | exact hf3 _ (by omega) | exact hf0 _ (by omega) (by first | assumption | omega) | exact hf1 _ (by omega) (by first | assumption | omega) | exact hf2 _ (by omega) (by first | assumption | omega) | exact hf3 _ (by omega) (by first | assumption | omega) | exact hf0 _ (by omega) (by first | assumption | omega) (by first | assumption | omega) | exact hf1 _ (by omega) (by first | assumption | omega) (by first | assumption | omega) | exact hf2 _ (by omega) (by first | assumption | omega) (by first | assumption | omega) | exact hf3 _ (by omega) (by first | assumption | omega) (by first | assumption | omega))) | exact hf0 _ (by omega) | exact hf1 _ (by omega) | exact hf2 _ (by omega) | exact hf3 _ (by omega) | exact hf0 _ (by omega) (by first | assumption | omega) | exact hf1 _ (by omega) (by first | assumption | omega) | exact hf2 _ (by omega) (by first | assumption | omega) | exact hf3 _ (by omega) (by first | assumption | omega) | exact hf0 _ (by omega) (by first | assumption | omega) (by first | assumption | omega) | exact hf1 _ (by omega) (by first | assumption | omega) (by first | assumption | omega) | exact hf2 _ (by omega) (by first | assumption | omega) (by first | assumption | omega) | exact hf3 _ (by omega) (by first | assumption | omega) (by first | assumption | omega))
      · intro p hp; cases hp
      · repeat (first | exact trivial | assumption | omega | exact bd_bs | exact bd_row | exact bd_secs | exact bd_bools | (refine bdR_map (fun _ => ?_)) | (refine bdL_map (fun _ => ?_)) | refine ⟨?_, ?_⟩ | fail)
set_option maxRecDepth 100000 in
set_option maxHeartbeats 1000000 in
theorem side_c (x y : Int) (hx : U32 x) (hy : U32 y) (i : Nat) (hi : i < 8) : Does Try.prog 24 [.sc (.int .u32 x), .sc (.int .u32 y), .sc (.int .i64 i)] [] [] (.sc (.int .i64 (sdF x y ((i : Int) * 536870912)))) := by
  refine does_mkg 40 Try.func24 rfl rfl rfl (fun n B bx hd hpre hup hvs hbx hgx => ?_)
  unfold U32 at hx hy
  refine runs_seq ?_
  refine runs_region ?_
  refine rl0 (gn rfl) rfl rfl (step_as rfl rfl) trivial ?_
  refine runsL_nil ?_
  refine runs_seq ?_
  refine runs_region ?_
  refine rl0 (gn rfl) rfl rfl (step_mv rfl rfl) trivial ?_
  refine rl0 (gn rfl) rfl rfl (step_conv_id rfl rfl Try.underlying3 Try.underlying23 (wu32 (by omega))) trivial ?_
  refine rl0 (gn rfl) rfl rfl (step_mul rfl (ev_mk rfl) (ev_mk rfl) (wu32 (by omega))) trivial ?_
  refine rl0 (gn rfl) rfl rfl (step_as rfl rfl) trivial ?_
  refine runsL_nil ?_
  refine runs_seq ?_
  refine runs_region ?_
  refine rl0 (gn rfl) rfl rfl (step_mv rfl rfl) trivial ?_
  refine rl0 (gn rfl) rfl rfl (step_add rfl (ev_mk rfl) (ev_mk rfl) (wu32 (by omega))) trivial ?_
  refine rl0 (gn rfl) rfl rfl (step_as rfl rfl) trivial ?_
  refine runsL_nil ?_
  refine runs_seq ?_
  refine runs_seq ?_
  refine runs_region ?_
  refine rl0 (gn rfl) rfl rfl (step_mv rfl rfl) trivial ?_
  refine rl0 (gn rfl) rfl rfl (step_mv rfl rfl) trivial ?_
  refine rl_gtr (gn rfl) rfl rfl rfl rfl rfl (fun h1 => ?_) (fun h1 => ?_)
  · skip
    refine runsL_nil ?_
    refine runs_cond true (ev_mk rfl) (fun _ => ?_) (fun h_ => nomatch h_)
    refine runs_region ?_
    refine rl0 (gn rfl) rfl rfl (step_mv rfl rfl) trivial ?_
    refine rl0 (gn rfl) rfl rfl (step_as rfl rfl) trivial ?_
    refine runsL_nil ?_
    refine runs_seq ?_
    refine runs_seq ?_
    refine runs_region ?_
    refine rl0 (gn rfl) rfl rfl (step_mv rfl rfl) trivial ?_
    refine rl0 (gn rfl) rfl rfl (step_mv rfl rfl) trivial ?_
    refine rl_lss (gn rfl) rfl rfl rfl rfl rfl (fun h2 => ?_) (fun h2 => ?_)
    · skip
      refine runsL_nil ?_
      refine runs_cond true (ev_mk rfl) (fun _ => ?_) (fun h_ => nomatch h_)
      refine runs_region ?_
      refine rl0 (gn rfl) rfl rfl (step_mv rfl rfl) trivial ?_
      refine rl0 (gn rfl) rfl rfl (step_as rfl rfl) trivial ?_
      refine runsL_nil ?_
      refine runs_seq ?_
      refine runs_seq ?_
      refine runs_region ?_
      refine rl0 (gn rfl) rfl rfl (step_mv rfl rfl) trivial ?_
      refine rl0 (gn rfl) rfl rfl (step_mv rfl rfl) trivial ?_
      refine rl_gtr (gn rfl) rfl rfl rfl rfl rfl (fun h3 => ?_) (fun h3 => ?_)
      · skip
        refine runsL_nil ?_
        refine runs_cond true (ev_mk rfl) (fun _ => ?_) (fun h_ => nomatch h_)
        refine runs_seq ?_
        refine runs_region ?_
        refine rl0 (gn rfl) rfl rfl (step_as rfl rfl) trivial ?_
        refine runsL_nil ?_
        refine runs_ret ?_
        refine ⟨by first | exact .inr rfl | exact .inl rfl, fin_mkg (rest rfl res0) ?_ ?_ ?_ ?_ ?_⟩
        · (repeat' (first | exact VLe.refl _ | exact VLe.own_sl _ _ _ | exact VLe.fl_sl _ _ | exact VLe.nil_sl _ | exact VLe.nil_fl _ | exact VLes.refl _ | exact .nil | refine VLe.tup ?_ | refine VLe.agg ?_ | refine .cons ?_ ?_ | (rw [Int.natCast_add]; exact VLe.refl _) | exact vle_int (by omega) | exact vle_bool (by first | rfl | assumption | (simp_all; done)) | (exact vle_int (by unfold sdF; rcases mx_or x ((i : Int) * 536870912) with ⟨e1, e3⟩ | ⟨e1, e3⟩ <;> rcases mn_or y ((i : Int) * 536870912 + 536870911) with ⟨e2, e4⟩ | ⟨e2, e4⟩ <;> rw [e1, e2] <;> first | (exfalso; omega) | rw [if_pos (by omega)] | (rw [if_neg (by omega)]; first | rw [shF_one (by omega)] | rw [shF_two (by omega) (by omega)] | (rw [shF_three (by omega) (by omega)]; done) | (rw [shF_three (by omega) (by omega)]; omega)))) | fail))
        · repeat (first | exact trivial | assumption | omega | exact bd_bs | exact bd_row | exact bd_secs | exact bd_bools | (refine bdR_map (fun _ => ?_)) | (refine bdL_map (fun _ => ?_)) | refine ⟨?_, ?_⟩ | fail)
        · intro k_ hk_; exact ble (by first | exact rfl | (refine (upd_ne _ _ _ _ (by omega)).trans ?_; first | exact rfl | skip; repeat (first | exact rfl | refine (upd_ne _ _ _ _ (by omega)).trans ?_ | assumption | exact hf0 _ (by omega) | exact hf1 _ (by omega) | exact hf2 _ (by omega) | exact hf3 _ (by omega) | exact hf0 _ (by omega) (by first | assumption | omega) | exact hf1 _ (by omega) (by first | assumption | omega) | exact hf2 _ (by omega) (by first | assumption | omega) | exact hf3 _ (by omega) (by first | assumption | omega) | exact hf0 _ (by omega) (by first | assumption | omega) (by first | assumption | omega) | exact hf1 _ (by omega) (by first | assumption | omega) (by first | assumption | omega) | exact hf2 _ (by omega) (by first | assumption | omega) (by first | assumption | omega) | exact hf3 _ (by omega) (by first | assumption | omega) (by first | assumption | omega))) | exact hf0 _ (by omega) | exact hf1 _ (by omega) | exact hf2 _ (by omega) | exact hf3 _ (by omega) | exact hf0 _ (by omega) (by first | assumption | omega) | exact hf1 _ (by omega) (by first | assumption | omega) | exact hf2 _ (by omega) (by first | assumption | omega) | exact hf3 _ (by omega) (by first | assumption | omega) | exact hf0 _ (by omega) (by first | assumption | omega) (by first | assumption | omega) | exact hf1 _ (by omega) (by first | assumption | omega) (by first | assumption | omega) | exact hf2 _ (by omega) (by first | assumption | omega) (by first | assumption | omega) | exact hf3 _ (by omega) (by first | assumption | omega) (by first | assumption | omega))
        · intro p hp; cases hp
        · repeat (first | exact trivial | assumption | omega | exact bd_bs | exact bd_row | exact bd_secs | exact bd_bools | (refine bdR_map (fun _ => ?_)) | (refine bdL_map (fun _ => ?_)) | refine ⟨?_, ?_⟩ | fail)
      · skip
        refine runsL_nil ?_
        refine runs_cond false (ev_mk rfl) (fun h_ => nomatch h_) (fun _ => ?_)
        refine runs_skip ?_
        refine runs_seq ?_
        refine runs_region ?_
        refine rl0 (gn rfl) rfl rfl (step_mv rfl rfl) trivial ?_
        refine rl0 (gn rfl) rfl rfl (step_mv rfl rfl) trivial ?_
        refine rl0 (gn rfl) rfl rfl (step_sub rfl (ev_mk rfl) (ev_mk rfl) (wu32 (by omega))) trivial ?_
        refine rl0 (gn rfl) rfl rfl (step_conv_id rfl rfl Try.underlying23 Try.underlying3 (w64 (by omega))) trivial ?_
        refine rl0 (gn rfl) rfl rfl (step_as rfl rfl) trivial ?_
        refine runsL_nil ?_
        refine runs_seq ?_
        refine runs_seq ?_
        refine runs_region ?_
        refine rl0 (gn rfl) rfl rfl (step_mv rfl rfl) trivial ?_
        refine rl_eql (gn rfl) rfl rfl rfl rfl rfl (fun h4 => ?_) (fun h4 => ?_)
        · skip
          refine runsL_nil ?_
          refine runs_cond true (ev_mk rfl) (fun _ => ?_) (fun h_ => nomatch h_)
          refine runs_seq ?_
          refine runs_region ?_
          refine rl0 (gn rfl) rfl rfl (step_as rfl rfl) trivial ?_
          refine runsL_nil ?_
          refine runs_ret ?_
          refine ⟨by first | exact .inr rfl | exact .inl rfl, fin_mkg (rest rfl res0) ?_ ?_ ?_ ?_ ?_⟩
          · (repeat' (first | exact VLe.refl _ | exact VLe.own_sl _ _ _ | exact VLe.fl_sl _ _ | exact VLe.nil_sl _ | exact VLe.nil_fl _ | exact VLes.refl _ | exact .nil | refine VLe.tup ?_ | refine VLe.agg ?_ | refine .cons ?_ ?_ | (rw [Int.natCast_add]; exact VLe.refl _) | exact vle_int (by omega) | exact vle_bool (by first | rfl | assumption | (simp_all; done)) | (exact vle_int (by unfold sdF; rcases mx_or x ((i : Int) * 536870912) with ⟨e1, e3⟩ | ⟨e1, e3⟩ <;> rcases mn_or y ((i : Int) * 536870912 + 536870911) with ⟨e2, e4⟩ | ⟨e2, e4⟩ <;> rw [e1, e2] <;> first | (exfalso; omega) | rw [if_pos (by omega)] | (rw [if_neg (by omega)]; first | rw [shF_one (by omega)] | rw [shF_two (by omega) (by omega)] | (rw [shF_three (by omega) (by omega)]; done) | (rw [shF_three (by omega) (by omega)]; omega)))) | fail))
          · repeat (first | exact trivial | assumption | omega | exact bd_bs | exact bd_row | exact bd_secs | exact bd_bools | (refine bdR_map (fun _ => ?_)) | (refine bdL_map (fun _ => ?_)) | refine ⟨?_, ?_⟩ | fail)
          · intro k_ hk_; exact ble (by first | exact rfl | (refine (upd_ne _ _ _ _ (by omega)).trans ?_; first | exact rfl | skip; repeat (first | exact rfl | refine (upd_ne _ _ _ _ (by omega)).trans ?_ | assumption | exact hf0 _ (by omega) | exact hf1 _ (by omega) | exact hf2 _ (by omega) | exact hf3 _ (by omega) | exact hf0 _ (by omega) (by first | assumption | omega) | exact hf1 _ (by omega) (by first | assumption | omega) | exact hf2 _ (by omega) (by first | assumption | omega) | exact hf3 _ (by omega) (by first | assumption | omega) | exact hf0 _ (by omega) (by first | assumption | omega) (by first | assumption | omega) | exact hf1 _ (by omega) (by first | assumption | omega) (by first | assumption | omega) | exact hf2 _ (by omega) (by first | assumption | omega) (by first | assumption | omega) | exact hf3 _ (by omega) (by first | assumption | omega) (by first | assumption | omega))) | exact hf0 _ (by omega) | exact hf1 _ (by omega) | exact hf2 _ (by omega) | exact hf3 _ (by omega) | exact hf0 _ (by omega) (by first | assumption | omega) | exact hf1 _ (by omega) (by first | assumption | omega) | exact hf2 _ (by omega) (by first | assumption | omega) | exact hf3 _ (by omega) (by first | assumption | omega) | exact hf0 _ (by omega) (by first | assumption | omega) (by first | assumption | omega) | exact hf1 _ (by omega) (by first | assumption | omega) (by first | assumption | omega) | exact hf2 _ (by omega) (by first | assumption | omega) (by first | assumption | omega) | exact hf3 _ (by omega) (by first | assumption | omega) (by first | assumption | omega))
          · intro p hp; cases hp
          · repeat (first | exact trivial | assumption | omega | exact bd_bs | exact bd_row | exact bd_secs | exact bd_bools | (refine bdR_map (fun _ => ?_)) | (refine bdL_map (fun _ => ?_)) | refine ⟨?_, ?_⟩ | fail)
        · skip
          refine runsL_nil ?_
          refine runs_cond false (ev_mk rfl) (fun h_ => nomatch h_) (fun _ => ?_)
          refine runs_skip ?_
          refine runs_seq ?_
          refine runs_seq ?_
          refine runs_region ?_
          refine rl0 (gn rfl) rfl rfl (step_mv rfl rfl) trivial ?_
          refine rl_lss (gn rfl) rfl rfl rfl rfl rfl (fun h5 => ?_) (fun h5 => ?_)
          · skip
            refine runsL_nil ?_
            refine runs_cond true (ev_mk rfl) (fun _ => ?_) (fun h_ => nomatch h_)
            refine runs_seq ?_
            refine runs_region ?_
            refine rl0 (gn rfl) rfl rfl (step_as rfl rfl) trivial ?_
            refine runsL_nil ?_
            refine runs_ret ?_
            refine ⟨by first | exact .inr rfl | exact .inl rfl, fin_mkg (rest rfl res0) ?_ ?_ ?_ ?_ ?_⟩
            · (repeat' (first | exact VLe.refl _ | exact VLe.own_sl _ _ _ | exact VLe.fl_sl _ _ | exact VLe.nil_sl _ | exact VLe.nil_fl _ | exact VLes.refl _ | exact .nil | refine VLe.tup ?_ | refine VLe.agg ?_ | refine .cons ?_ ?_ | (rw [Int.natCast_add]; exact VLe.refl _) | exact vle_int (by omega) | exact vle_bool (by first | rfl | assumption | (simp_all; done)) | (exact vle_int (by unfold sdF; rcases mx_or x ((i : Int) * 536870912) with ⟨e1, e3⟩ | ⟨e1, e3⟩ <;> rcases mn_or y ((i : Int) * 536870912 + 536870911) with ⟨e2, e4⟩ | ⟨e2, e4⟩ <;> rw [e1, e2] <;> first | (exfalso; omega) | rw [if_pos (by omega)] | (rw [if_neg (by omega)]; first | rw [shF_one (by omega)] | rw [shF_two (by omega) (by omega)] | (rw [shF_three (by omega) (by omega)]; done) | (rw [shF_three (by omega) (by omega)]; omega)))) | fail))
            · repeat (first | exact trivial | assumption | omega | exact bd_bs | exact bd_row | exact bd_secs | exact bd_bools | (refine bdR_map (fun _ => ?_)) | (refine bdL_map (fun _ => ?_)) | refine ⟨?_, ?_⟩ | fail)
            · intro k_ hk_; exact ble (by first | exact rfl | (refine (upd_ne _ _ _ _ (by omega)).trans ?_; first | exact rfl | skip; repeat (first | exact rfl | refine (upd_ne _ _ _ _ (by omega)).trans ?_ | assumption | exact hf0 _ (by omega) | exact hf1 _ (by omega) | exact hf2 _ (by omega) | exact hf3 _ (by omega) | exact hf0 _ (by omega) (by first | assumption | omega) | exact hf1 _ (by omega) (by first | assumption | omega) | exact hf2 _ (by omega) (by first | assumption | omega) | exact hf3 _ (by omega) (by first | assumption | omega) | exact hf0 _ (by omega) (by first | assumption | omega) (by first | assumption | omega) | exact hf1 _ (by omega) (by first | assumption | omega) (by first | assumption | omega) | exact hf2 _ (by omega) (by first | assumption | omega) (by first | assumption | omega) | exact hf3 _ (by omega) (by first | assumption | omega) (by first | assumption | omega))) | exact hf0 _ (by omega) | exact hf1 _ (by omega) | exact hf2 _ (by omega) | exact hf3 _ (by omega) | exact hf0 _ (by omega) (by first | assumption | omega) | exact hf1 _ (by omega) (by first | assumption | omega) | exact hf2 _ (by omega) (by first | assumption | omega) | exact hf3 _ (by omega) (by first | assumption | omega) | exact hf0 _ (by omega) (by first | assumption | omega) (by first | assumption | omega) | exact hf1 _ (by omega) (by first | assumption | omega) (by first | assumption | omega) | exact hf2 _ (by omega) (by first | assumption | omega) (by first | assumption | omega) | exact hf3 _ (by omega) (by first | assumption | omega) (by first | assumption | omega))
            · intro p hp; cases hp
            · repeat (first | exact trivial | assumption | omega | exact bd_bs | exact bd_row | exact bd_secs | exact bd_bools | (refine bdR_map (fun _ => ?_)) | (refine bdL_map (fun _ => ?_)) | refine ⟨?_, ?_⟩ | fail)
          · skip
            refine runsL_nil ?_
            refine runs_cond false (ev_mk rfl) (fun h_ => nomatch h_) (fun _ => ?_)
            refine runs_skip ?_
            refine runs_seq ?_
            refine runs_region ?_
            refine rl0 (gn rfl) rfl rfl (step_mv rfl rfl) trivial ?_
            refine rl0 (gn rfl) rfl rfl (step_quo rfl (ev_mk rfl) (ev_mk rfl) (by omega) (by omega) (w64 (by omega))) trivial ?_
            refine rl0 (gn rfl) rfl rfl (step_as rfl rfl) trivial ?_
            refine runsL_nil ?_
            refine runs_ret ?_
            refine ⟨by first | exact .inr rfl | exact .inl rfl, fin_mkg (rest rfl res0) ?_ ?_ ?_ ?_ ?_⟩
            · (repeat' (first | exact VLe.refl _ | exact VLe.own_sl _ _ _ | exact VLe.fl_sl _ _ | exact VLe.nil_sl _ | exact VLe.nil_fl _ | exact VLes.refl _ | exact .nil | refine VLe.tup ?_ | refine VLe.agg ?_ | refine .cons ?_ ?_ | (rw [Int.natCast_add]; exact VLe.refl _) | exact vle_int (by omega) | exact vle_bool (by first | rfl | assumption | (simp_all; done)) | (exact vle_int (by unfold sdF; rcases mx_or x ((i : Int) * 536870912) with ⟨e1, e3⟩ | ⟨e1, e3⟩ <;> rcases mn_or y ((i : Int) * 536870912 + 536870911) with ⟨e2, e4⟩ | ⟨e2, e4⟩ <;> rw [e1, e2] <;> first | (exfalso; omega) | rw [if_pos (by omega)] | (rw [if_neg (by omega)]; first | rw [shF_one (by omega)] | rw [shF_two (by omega) (by omega)] | (rw [shF_three (by omega) (by omega)]; done) | (rw [shF_three (by omega) (by omega)]; omega)))) | fail))
            · repeat (first | exact trivial | assumption | omega | exact bd_bs | exact bd_row | exact bd_secs | exact bd_bools | (refine bdR_map (fun _ => ?_)) | (refine bdL_map (fun _ => ?_)) | refine ⟨?_, ?_⟩ | fail)
            · intro k_ hk_; exact ble (by first | exact rfl | (refine (upd_ne _ _ _ _ (by omega)).trans ?_; first | exact rfl | skip; repeat (first | exact rfl | refine (upd_ne _ _ _ _ (by omega)).trans ?_ | assumption | exact hf0 _ (by omega) | exact hf1 _ (by omega) | exact hf2 _ (by omega) | exact hf3 _ (by omega) | exact hf0 _ (by omega) (by first | assumption | omega) | exact hf1 _ (by omega) (by first | assumption | omega) | exact hf2 _ (by omega) (by first | assumption | omega) | exact hf3 _ (by omega) (by first | assumption | omega) | exact hf0 _ (by omega) (by first | assumption | omega) (by first | assumption | omega) | exact hf1 _ (by omega) (by first | assumption | omega) (by first | assumption | omega) | exact hf2 _ (by omega) (by first | assumption | omega) (by first | assumption | omega) | exact hf3 _ (by omega) (by first | assumption | omega) (by first | assumption | omega))) | exact hf0 _ (by omega) | exact hf1 _ (by omega) | exact hf2 _ (by omega) | exact hf3 _ (by omega) | exact hf0 _ (by omega) (by first | assumption | omega) | exact hf1 _ (by omega) (by first | assumption | omega) | exact hf2 _ (by omega) (by first | assumption | omega) | exact hf3 _ (by omega) (by first | assumption | omega) | exact hf0 _ (by omega) (by first | assumption | omega) (by first | assumption | omega) | exact hf1 _ (by omega) (by first | assumption | omega) (by first | assumption | omega) | exact hf2 _ (by omega) (by first | assumption | omega) (by first | assumption | omega) | exact hf3 _ (by omega) (by first | assumption | omega) (by first | assumption | omega))
            · intro p hp; cases hp
            · repeat (first | exact trivial | assumption | omega | exact bd_bs | exact bd_row | exact bd_secs | exact bd_bools | (refine bdR_map (fun _ => ?_)) | (refine bdL_map (fun _ => ?_)) | refine ⟨?_, ?_⟩ | fail)
    · skip
      refine runsL_nil ?_
      refine runs_cond false (ev_mk rfl) (fun h_ => nomatch h_) (fun _ => ?_)
      refine runs_skip ?_
      refine runs_seq ?_
      refine runs_seq ?_
      refine runs_region ?_
      refine rl0 (gn rfl) rfl rfl (step_mv rfl rfl) trivial ?_
      refine rl0 (gn rfl) rfl rfl (step_mv rfl rfl) trivial ?_
      refine rl_gtr (gn rfl) rfl rfl rfl rfl rfl (fun h3 => ?_) (fun h3 => ?_)
      · skip
        refine runsL_nil ?_
        refine runs_cond true (ev_mk rfl) (fun _ => ?_) (fun h_ => nomatch h_)
        refine runs_seq ?_
        refine runs_region ?_
        refine rl0 (gn rfl) rfl rfl (step_as rfl rfl) trivial ?_
        refine runsL_nil ?_
        refine runs_ret ?_
        refine ⟨by first | exact .inr rfl | exact .inl rfl, fin_mkg (rest rfl res0) ?_ ?_ ?_ ?_ ?_⟩
        · (repeat' (first | exact VLe.refl _ | exact VLe.own_sl _ _ _ | exact VLe.fl_sl _ _ | exact VLe.nil_sl _ | exact VLe.nil_fl _ | exact VLes.refl _ | exact .nil | refine VLe.tup ?_ | refine VLe.agg ?_ | refine .cons ?_ ?_ | (rw [Int.natCast_add]; exact VLe.refl _) | exact vle_int (by omega) | exact vle_bool (by first | rfl | assumption | (simp_all; done)) | (exact vle_int (by unfold sdF; rcases mx_or x ((i : Int) * 536870912) with ⟨e1, e3⟩ | ⟨e1, e3⟩ <;> rcases mn_or y ((i : Int) * 536870912 + 536870911) with ⟨e2, e4⟩ | ⟨e2, e4⟩ <;> rw [e1, e2] <;> first | (exfalso; omega) | rw [if_pos (by omega)] | (rw [if_neg (by omega)]; first | rw [shF_one (by omega)] | rw [shF_two (by omega) (by omega)] | (rw [shF_three (by omega) (by omega)]; done) | (rw [shF_three (by omega) (by omega)]; omega)))) | fail))
        · repeat (first | exact trivial | assumption | omega | exact bd_bs | exact bd_row | exact bd_secs | exact bd_bools | (refine bdR_map (fun _ => ?_)) | (refine bdL_map (fun _ => ?_)) | refine ⟨?_, ?_⟩ | fail)
        · intro k_ hk_; exact ble (by first | exact rfl | (refine (upd_ne _ _ _ _ (by omega)).trans ?_; first | exact rfl | skip; repeat (first | exact rfl | refine (upd_ne _ _ _ _ (by omega)).trans ?_ | assumption | exact hf0 _ (by omega) | exact hf1 _ (by omega) | exact hf2 _ (by omega) | exact hf3 _ (by omega) | exact hf0 _ (by omega) (by first | assumption | omega) | exact hf1 _ (by omega) (by first | assumption | omega) | exact hf2 _ (by omega) (by first | assumption | omega) | exact hf3 _ (by omega) (by first | assumption | omega) | exact hf0 _ (by omega) (by first | assumption | omega) (by first | assumption | omega) | exact hf1 _ (by omega) (by first | assumption | omega) (by first | assumption | omega) | exact hf2 _ (by omega) (by first | assumption | omega) (by first | assumption | omega) | exact hf3 _ (by omega) (by first | assumption | omega) (by first | assumption | omega))) | exact hf0 _ (by omega) | exact hf1 _ (by omega) | exact hf2 _ (by omega) | exact hf3 _ (by omega) | exact hf0 _ (by omega) (by first | assumption | omega) | exact hf1 _ (by omega) (by first | assumption | omega) | exact hf2 _ (by omega) (by first | assumption | omega) | exact hf3 _ (by omega) (by first | assumption | omega) | exact hf0 _ (by omega) (by first | assumption | omega) (by first | assumption | omega) | exact hf1 _ (by omega) (by first | assumption | omega) (by first | assumption | omega) | exact hf2 _ (by omega) (by first | assumption | omega) (by first | assumption | omega) | exact hf3 _ (by omega) (by first | assumption | omega) (by first | assumption | omega))
        · intro p hp; cases hp
        · repeat (first | exact trivial | assumption | omega | exact bd_bs | exact bd_row | exact bd_secs | exact bd_bools | (refine bdR_map (fun _ => ?_)) | (refine bdL_map (fun _ => ?_)) | refine ⟨?_, ?_⟩ | fail)
      · skip
        refine runsL_nil ?_
        refine runs_cond false (ev_mk rfl) (fun h_ => nomatch h_) (fun _ => ?_)
        refine runs_skip ?_
        refine runs_seq ?_
        refine runs_region ?_
        refine rl0 (gn rfl) rfl rfl (step_mv rfl rfl) trivial ?_
        refine rl0 (gn rfl) rfl rfl (step_mv rfl rfl) trivial ?_
        refine rl0 (gn rfl) rfl rfl (step_sub rfl (ev_mk rfl) (ev_mk rfl) (wu32 (by omega))) trivial ?_
        refine rl0 (gn rfl) rfl rfl (step_conv_id rfl rfl Try.underlying23 Try.underlying3 (w64 (by omega))) trivial ?_
        refine rl0 (gn rfl) rfl rfl (step_as rfl rfl) trivial ?_
        refine runsL_nil ?_
        refine runs_seq ?_
        refine runs_seq ?_
        refine runs_region ?_
        refine rl0 (gn rfl) rfl rfl (step_mv rfl rfl) trivial ?_
        refine rl_eql (gn rfl) rfl rfl rfl rfl rfl (fun h4 => ?_) (fun h4 => ?_)
        · skip
          refine runsL_nil ?_
          refine runs_cond true (ev_mk rfl) (fun _ => ?_) (fun h_ => nomatch h_)
          refine runs_seq ?_
          refine runs_region ?_
          refine rl0 (gn rfl) rfl rfl (step_as rfl rfl) trivial ?_
          refine runsL_nil ?_
          refine runs_ret ?_
          refine ⟨by first | exact .inr rfl | exact .inl rfl, fin_mkg (rest rfl res0) ?_ ?_ ?_ ?_ ?_⟩
          · (repeat' (first | exact VLe.refl _ | exact VLe.own_sl _ _ _ | exact VLe.fl_sl _ _ | exact VLe.nil_sl _ | exact VLe.nil_fl _ | exact VLes.refl _ | exact .nil | refine VLe.tup ?_ | refine VLe.agg ?_ | refine .cons ?_ ?_ | (rw [Int.natCast_add]; exact VLe.refl _) | exact vle_int (by omega) | exact vle_bool (by first | rfl | assumption | (simp_all; done)) | (exact vle_int (by unfold sdF; rcases mx_or x ((i : Int) * 536870912) with ⟨e1, e3⟩ | ⟨e1, e3⟩ <;> rcases mn_or y ((i : Int) * 536870912 + 536870911) with ⟨e2, e4⟩ | ⟨e2, e4⟩ <;> rw [e1, e2] <;> first | (exfalso; omega) | rw [if_pos (by omega)] | (rw [if_neg (by omega)]; first | rw [shF_one (by omega)] | rw [shF_two (by omega) (by omega)] | (rw [shF_three (by omega) (by omega)]; done) | (rw [shF_three (by omega) (by omega)]; omega)))) | fail))
          · repeat (first | exact trivial | assumption | omega | exact bd_bs | exact bd_row | exact bd_secs | exact bd_bools | (refine bdR_map (fun _ => ?_)) | (refine bdL_map (fun _ => ?_)) | refine ⟨?_, ?_⟩ | fail)
          · intro k_ hk_; exact ble (by first | exact rfl | (refine (upd_ne _ _ _ _ (by omega)).trans ?_; first | exact rfl | skip; repeat (first | exact rfl | refine (upd_ne _ _ _ _ (by omega)).trans ?_ | assumption | exact hf0 _ (by omega) | exact hf1 _ (by omega) | exact hf2 _ (by omega) | exact hf3 _ (by omega) | exact hf0 _ (by omega) (by first | assumption | omega) | exact hf1 _ (by omega) (by first | assumption | omega) | exact hf2 _ (by omega) (by first | assumption | omega) | exact hf3 _ (by omega) (by first | assumption | omega) | exact hf0 _ (by omega) (by first | assumption | omega) (by first | assumption | omega) | exact hf1 _ (by omega) (by first | assumption | omega) (by first | assumption | omega) | exact hf2 _ (by omega) (by first | assumption | omega) (by first | assumption | omega) | exact hf3 _ (by omega) (by first | assumption | omega) (by first | assumption | omega))) | exact hf0 _ (by omega) | exact hf1 _ (by omega) | exact hf2 _ (by omega) | exact hf3 _ (by omega) | exact hf0 _ (by omega) (by first | assumption | omega) | exact hf1 _ (by omega) (by first | assumption | omega) | exact hf2 _ (by omega) (by first | assumption | omega) | exact hf3 _ (by omega) (by first | assumption | omega) | exact hf0 _ (by omega) (by first | assumption | omega) (by first | assumption | omega) | exact hf1 _ (by omega) (by first | assumption | omega) (by first | assumption | omega) | exact hf2 _ (by omega) (by first | assumption | omega) (by first | assumption | omega) | exact hf3 _ (by omega) (by first | assumption | omega) (by first | assumption | omega))
          · intro p hp; cases hp
          · repeat (first | exact trivial | assumption | omega | exact bd_bs | exact bd_row | exact bd_secs | exact bd_bools | (refine bdR_map (fun _ => ?_)) | (refine bdL_map (fun _ => ?_)) | refine ⟨?_, ?_⟩ | fail)
        · skip
          refine runsL_nil ?_
          refine runs_cond false (ev_mk rfl) (fun h_ => nomatch h_) (fun _ => ?_)
          refine runs_skip ?_
          refine runs_seq ?_
          refine runs_seq ?_
          refine runs_region ?_
          refine rl0 (gn rfl) rfl rfl (step_mv rfl rfl) trivial ?_
          refine rl_lss (gn rfl) rfl rfl rfl rfl rfl (fun h5 => ?_) (fun h5 => ?_)
          · skip
            refine runsL_nil ?_
            refine runs_cond true (ev_mk rfl) (fun _ => ?_) (fun h_ => nomatch h_)
            refine runs_seq ?_
            refine runs_region ?_
            refine rl0 (gn rfl) rfl rfl (step_as rfl rfl) trivial ?_
            refine runsL_nil ?_
            refine runs_ret ?_
            refine ⟨by first | exact .inr rfl | exact .inl rfl, fin_mkg (rest rfl res0) ?_ ?_ ?_ ?_ ?_⟩
            · (repeat' (first | exact VLe.refl _ | exact VLe.own_sl _ _ _ | exact VLe.fl_sl _ _ | exact VLe.nil_sl _ | exact VLe.nil_fl _ | exact VLes.refl _ | exact .nil | refine VLe.tup ?_ | refine VLe.agg ?_ | refine .cons ?_ ?_ | (rw [Int.natCast_add]; exact VLe.refl _) | exact vle_int (by omega) | exact vle_bool (by first | rfl | assumption | (simp_all; done)) | (exact vle_int (by unfold sdF; rcases mx_or x ((i : Int) * 536870912) with ⟨e1, e3⟩ | ⟨e1, e3⟩ <;> rcases mn_or y ((i : Int) * 536870912 + 536870911) with ⟨e2, e4⟩ | ⟨e2, e4⟩ <;> rw [e1, e2] <;> first | (exfalso; omega) | rw [if_pos (by omega)] | (rw [if_neg (by omega)]; first | rw [shF_one (by omega)] | rw [shF_two (by omega) (by omega)] | (rw [shF_three (by omega) (by omega)]; done) | (rw [shF_three (by omega) (by omega)]; omega)))) | fail))
            · repeat (first | exact trivial | assumption | omega | exact bd_bs | exact bd_row | exact bd_secs | exact bd_bools | (refine bdR_map (fun _ => ?_)) | (refine bdL_map (fun _ => ?_)) | refine ⟨?_, ?_⟩ | fail)
            · intro k_ hk_; exact ble (by first | exact rfl | (refine (upd_ne _ _ _ _ (by omega)).trans ?_; first | exact rfl | skip; repeat (first | exact rfl | refine (upd_ne _ _ _ _ (by omega)).trans ?_ | assumption | exact hf0 _ (by omega) | exact hf1 _ (by omega) | exact hf2 _ (by omega) | exact hf3 _ (by omega) | exact hf0 _ (by omega) (by first | assumption | omega) | exact hf1 _ (by omega) (by first | assumption | omega) | exact hf2 _ (by omega) (by first | assumption | omega) | exact hf3 _ (by omega) (by first | assumption | omega) | exact hf0 _ (by omega) (by first | assumption | omega) (by first | assumption | omega) | exact hf1 _ (by omega) (by first | assumption | omega) (by first | assumption | omega) | exact hf2 _ (by omega) (by first | assumption | omega) (by first | assumption | omega) | exact hf3 _ (by omega) (by first | assumption | omega) (by first | assumption | omega))) | exact hf0 _ (by omega) | exact hf1 _ (by omega) | exact hf2 _ (by omega) | exact hf3 _ (by omega) | exact hf0 _ (by omega) (by first | assumption | omega) | exact hf1 _ (by omega) (by first | assumption | omega) | exact hf2 _ (by omega) (by first | assumption | omega) | exact hf3 _ (by omega) (by first | assumption | omega) | exact hf0 _ (by omega) (by first | assumption | omega) (by first | assumption | omega) | exact hf1 _ (by omega) (by first | assumption | omega) (by first | assumption | omega) | exact hf2 _ (by omega) (by first | assumption | omega) (by first | assumption | omega) | exact hf3 _ (by omega) (by first | assumption | omega) (by first | assumption | omega))
            · intro p hp; cases hp
            · repeat (first | exact trivial | assumption | omega | exact bd_bs | exact bd_row | exact bd_secs | exact bd_bools | (refine bdR_map (fun _ => ?_)) | (refine bdL_map (fun _ => ?_)) | refine ⟨?_, ?_⟩ | fail)
          · skip
            refine runsL_nil ?_
            refine runs_cond false (ev_mk rfl) (fun h_ => nomatch h_) (fun _ => ?_)
            refine runs_skip ?_
            refine runs_seq ?_
            refine runs_region ?_
            refine rl0 (gn rfl) rfl rfl (step_mv rfl rfl) trivial ?_
            refine rl0 (gn rfl) rfl rfl (step_quo rfl (ev_mk rfl) (ev_mk rfl) (by omega) (by omega) (w64 (by omega))) trivial ?_
            refine rl0 (gn rfl) rfl rfl (step_as rfl rfl) trivial ?_
            refine runsL_nil ?_
            refine runs_ret ?_
            refine ⟨by first | exact .inr rfl | exact .inl rfl, fin_mkg (rest rfl res0) ?_ ?_ ?_ ?_ ?_⟩
            · (repeat' (first | exact VLe.refl _ | exact VLe.own_sl _ _ _ | exact VLe.fl_sl _ _ | exact VLe.nil_sl _ | exact VLe.nil_fl _ | exact VLes.refl _ | exact .nil | refine VLe.tup ?_ | refine VLe.agg ?_ | refine .cons ?_ ?_ | (rw [Int.natCast_add]; exact VLe.refl _) | exact vle_int (by omega) | exact vle_bool (by first | rfl | assumption | (simp_all; done)) | (exact vle_int (by unfold sdF; rcases mx_or x ((i : Int) * 536870912) with ⟨e1, e3⟩ | ⟨e1, e3⟩ <;> rcases mn_or y ((i : Int) * 536870912 + 536870911) with ⟨e2, e4⟩ | ⟨e2, e4⟩ <;> rw [e1, e2] <;> first | (exfalso; omega) | rw [if_pos (by omega)] | (rw [if_neg (by omega)]; first | rw [shF_one (by omega)] | rw [shF_two (by omega) (by omega)] | (rw [shF_three (by omega) (by omega)]; done) | (rw [shF_three (by omega) (by omega)]; omega)))) | fail))
            · repeat (first | exact trivial | assumption | omega | exact bd_bs | exact bd_row | exact bd_secs | exact bd_bools | (refine bdR_map (fun _ => ?_)) | (refine bdL_map (fun _ => ?_)) | refine ⟨?_, ?_⟩ | fail)
            · intro k_ hk_; exact ble (by first | exact rfl | (refine (upd_ne _ _ _ _ (by omega)).trans ?_; first | exact rfl | skip; repeat (first | exact rfl | refine (upd_ne _ _ _ _ (by omega)).trans ?_ | assumption | exact hf0 _ (by omega) | exact hf1 _ (by omega) | exact hf2 _ (by omega) | exact hf3 _ (by omega) | exact hf0 _ (by omega) (by first | assumption | omega) | exact hf1 _ (by omega) (by first | assumption | omega) | exact hf2 _ (by omega) (by first | assumption | omega) | exact hf3 _ (by omega) (by first | assumption | omega) | exact hf0 _ (by omega) (by first | assumption | omega) (by first | assumption | omega) | exact hf1 _ (by omega) (by first | assumption | omega) (by first | assumption | omega) | exact hf2 _ (by omega) (by first | assumption | omega) (by first | assumption | omega) | exact hf3 _ (by omega) (by first | assumption | omega) (by first | assumption | omega))) | exact hf0 _ (by omega) | exact hf1 _ (by omega) | exact hf2 _ (by omega) | exact hf3 _ (by omega) | exact hf0 _ (by omega) (by first | assumption | omega) | exact hf1 _ (by omega) (by first | assumption | omega) | exact hf2 _ (by omega) (by first | assumption | omega) | exact hf3 _ (by omega) (by first | assumption | omega) | exact hf0 _ (by omega) (by first | assumption | omega) (by first | assumption | omega) | exact hf1 _ (by omega) (by first | assumption | omega) (by first | assumption | omega) | exact hf2 _ (by omega) (by first | assumption | omega) (by first | assumption | omega) | exact hf3 _ (by omega) (by first | assumption | omega) (by first | assumption | omega))
            · intro p hp; cases hp
            · repeat (first | exact trivial | assumption | omega | exact bd_bs | exact bd_row | exact bd_secs | exact bd_bools | (refine bdR_map (fun _ => ?_)) | (refine bdL_map (fun _ => ?_)) | refine ⟨?_, ?_⟩ | fail)
  · skip
    refine runsL_nil ?_
    refine runs_cond false (ev_mk rfl) (fun h_ => nomatch h_) (fun _ => ?_)
    refine runs_skip ?_
    refine runs_seq ?_
    refine runs_seq ?_
    refine runs_region ?_
    refine rl0 (gn rfl) rfl rfl (step_mv rfl rfl) trivial ?_
    refine rl0 (gn rfl) rfl rfl (step_mv rfl rfl) trivial ?_
    refine rl_lss (gn rfl) rfl rfl rfl rfl rfl (fun h2 => ?_) (fun h2 => ?_)
    · skip
      refine runsL_nil ?_
      refine runs_cond true (ev_mk rfl) (fun _ => ?_) (fun h_ => nomatch h_)
      refine runs_region ?_
      refine rl0 (gn rfl) rfl rfl (step_mv rfl rfl) trivial ?_
      refine rl0 (gn rfl) rfl rfl (step_as rfl rfl) trivial ?_
      refine runsL_nil ?_
      refine runs_seq ?_
      refine runs_seq ?_
      refine runs_region ?_
      refine rl0 (gn rfl) rfl rfl (step_mv rfl rfl) trivial ?_
      refine rl0 (gn rfl) rfl rfl (step_mv rfl rfl) trivial ?_
      refine rl_gtr (gn rfl) rfl rfl rfl rfl rfl (fun h3 => ?_) (fun h3 => ?_)
      · skip
        refine runsL_nil ?_
        refine runs_cond true (ev_mk rfl) (fun _ => ?_) (fun h_ => nomatch h_)
        refine runs_seq ?_
        refine runs_region ?_
        refine rl0 (gn rfl) rfl rfl (step_as rfl rfl) trivial ?_
        refine runsL_nil ?_
        refine runs_ret ?_
        refine ⟨by first | exact .inr rfl | exact .inl rfl, fin_mkg (rest rfl res0) ?_ ?_ ?_ ?_ ?_⟩
        · (repeat' (first | exact VLe.refl _ | exact VLe.own_sl _ _ _ | exact VLe.fl_sl _ _ | exact VLe.nil_sl _ | exact VLe.nil_fl _ | exact VLes.refl _ | exact .nil | refine VLe.tup ?_ | refine VLe.agg ?_ | refine .cons ?_ ?_ | (rw [Int.natCast_add]; exact VLe.refl _) | exact vle_int (by omega) | exact vle_bool (by first | rfl | assumption | (simp_all; done)) | (exact vle_int (by unfold sdF; rcases mx_or x ((i : Int) * 536870912) with ⟨e1, e3⟩ | ⟨e1, e3⟩ <;> rcases mn_or y ((i : Int) * 536870912 + 536870911) with ⟨e2, e4⟩ | ⟨e2, e4⟩ <;> rw [e1, e2] <;> first | (exfalso; omega) | rw [if_pos (by omega)] | (rw [if_neg (by omega)]; first | rw [shF_one (by omega)] | rw [shF_two (by omega) (by omega)] | (rw [shF_three (by omega) (by omega)]; done) | (rw [shF_three (by omega) (by omega)]; omega)))) | fail))
        · repeat (first | exact trivial | assumption | omega | exact bd_bs | exact bd_row | exact bd_secs | exact bd_bools | (refine bdR_map (fun _ => ?_)) | (refine bdL_map (fun _ => ?_)) | refine ⟨?_, ?_⟩ | fail)
        · intro k_ hk_; exact ble (by first | exact rfl | (refine (upd_ne _ _ _ _ (by omega)).trans ?_; first | exact rfl | skip; repeat (first | exact rfl | refine (upd_ne _ _ _ _ (by omega)).trans ?_ | assumption | exact hf0 _ (by omega) | exact hf1 _ (by omega) | exact hf2 _ (by omega) | exact hf3 _ (by omega) | exact hf0 _ (by omega) (by first | assumption | omega) | exact hf1 _ (by omega) (by first | assumption | omega) | exact hf2 _ (by omega) (by first | assumption | omega) | exact hf3 _ (by omega) (by first | assumption | omega) | exact hf0 _ (by omega) (by first | assumption | omega) (by first | assumption | omega) | exact hf1 _ (by omega) (by first | assumption | omega) (by first | assumption | omega) | exact hf2 _ (by omega) (by first | assumption | omega) (by first | assumption | omega) | exact hf3 _ (by omega) (by first | assumption | omega) (by first | assumption | omega))) | exact hf0 _ (by omega) | exact hf1 _ (by omega) | exact hf2 _ (by omega) | exact hf3 _ (by omega) | exact hf0 _ (by omega) (by first | assumption | omega) | exact hf1 _ (by omega) (by first | assumption | omega) | exact hf2 _ (by omega) (by first | assumption | omega) | exact hf3 _ (by omega) (by first | assumption | omega) | exact hf0 _ (by omega) (by first | assumption | omega) (by first | assumption | omega) | exact hf1 _ (by omega) (by first | assumption | omega) (by first | assumption | omega) | exact hf2 _ (by omega) (by first | assumption | omega) (by first | assumption | omega) | exact hf3 _ (by omega) (by first | assumption | omega) (by first | assumption | omega))
        · intro p hp; cases hp
        · repeat (first | exact trivial | assumption | omega | exact bd_bs | exact bd_row | exact bd_secs | exact bd_bools | (refine bdR_map (fun _ => ?_)) | (refine bdL_map (fun _ => ?_)) | refine ⟨?_, ?_⟩ | fail)
      · skip
        refine runsL_nil ?_
        refine runs_cond false (ev_mk rfl) (fun h_ => nomatch h_) (fun _ => ?_)
        refine runs_skip ?_
        refine runs_seq ?_
        refine runs_region ?_
        refine rl0 (gn rfl) rfl rfl (step_mv rfl rfl) trivial ?_
        refine rl0 (gn rfl) rfl rfl (step_mv rfl rfl) trivial ?_
        refine rl0 (gn rfl) rfl rfl (step_sub rfl (ev_mk rfl) (ev_mk rfl) (wu32 (by omega))) trivial ?_
        refine rl0 (gn rfl) rfl rfl (step_conv_id rfl rfl Try.underlying23 Try.underlying3 (w64 (by omega))) trivial ?_
        refine rl0 (gn rfl) rfl rfl (step_as rfl rfl) trivial ?_
        refine runsL_nil ?_
        refine runs_seq ?_
        refine runs_seq ?_
        refine runs_region ?_
        refine rl0 (gn rfl) rfl rfl (step_mv rfl rfl) trivial ?_
        refine rl_eql (gn rfl) rfl rfl rfl rfl rfl (fun h4 => ?_) (fun h4 => ?_)
        · skip
          refine runsL_nil ?_
          refine runs_cond true (ev_mk rfl) (fun _ => ?_) (fun h_ => nomatch h_)
          refine runs_seq ?_
          refine runs_region ?_
          refine rl0 (gn rfl) rfl rfl (step_as rfl rfl) trivial ?_
          refine runsL_nil ?_
          refine runs_ret ?_
          refine ⟨by first | exact .inr rfl | exact .inl rfl, fin_mkg (rest rfl res0) ?_ ?_ ?_ ?_ ?_⟩
          · (repeat' (first | exact VLe.refl _ | exact VLe.own_sl _ _ _ | exact VLe.fl_sl _ _ | exact VLe.nil_sl _ | exact VLe.nil_fl _ | exact VLes.refl _ | exact .nil | refine VLe.tup ?_ | refine VLe.agg ?_ | refine .cons ?_ ?_ | (rw [Int.natCast_add]; exact VLe.refl _) | exact vle_int (by omega) | exact vle_bool (by first | rfl | assumption | (simp_all; done)) | (exact vle_int (by unfold sdF; rcases mx_or x ((i : Int) * 536870912) with ⟨e1, e3⟩ | ⟨e1, e3⟩ <;> rcases mn_or y ((i : Int) * 536870912 + 536870911) with ⟨e2, e4⟩ | ⟨e2, e4⟩ <;> rw [e1, e2] <;> first | (exfalso; omega) | rw [if_pos (by omega)] | (rw [if_neg (by omega)]; first | rw [shF_one (by omega)] | rw [shF_two (by omega) (by omega)] | (rw [shF_three (by omega) (by omega)]; done) | (rw [shF_three (by omega) (by omega)]; omega)))) | fail))
          · repeat (first | exact trivial | assumption | omega | exact bd_bs | exact bd_row | exact bd_secs | exact bd_bools | (refine bdR_map (fun _ => ?_)) | (refine bdL_map (fun _ => ?_)) | refine ⟨?_, ?_⟩ | fail)
          · intro k_ hk_; exact ble (by first | exact rfl | (refine (upd_ne _ _ _ _ (by omega)).trans ?_; first | exact rfl | skip; repeat (first | exact rfl | refine (upd_ne _ _ _ _ (by omega)).trans ?_ | assumption | exact hf0 _ (by omega) | exact hf1 _ (by omega) | exact hf2 _ (by omega) | exact hf3 _ (by omega) | exact hf0 _ (by omega) (by first | assumption | omega) | exact hf1 _ (by omega) (by first | assumption | omega) | exact hf2 _ (by omega) (by first | assumption | omega) | exact hf3 _ (by omega) (by first | assumption | omega) | exact hf0 _ (by omega) (by first | assumption | omega) (by first | assumption | omega) | exact hf1 _ (by omega) (by first | assumption | omega) (by first | assumption | omega) | exact hf2 _ (by omega) (by first | assumption | omega) (by first | assumption | omega) | exact hf3 _ (by omega) (by first | assumption | omega) (by first | assumption | omega))) | exact hf0 _ (by omega) | exact hf1 _ (by omega) | exact hf2 _ (by omega) | exact hf3 _ (by omega) | exact hf0 _ (by omega) (by first | assumption | omega) | exact hf1 _ (by omega) (by first | assumption | omega) | exact hf2 _ (by omega) (by first | assumption | omega) | exact hf3 _ (by omega) (by first | assumption | omega) | exact hf0 _ (by omega) (by first | assumption | omega) (by first | assumption | omega) | exact hf1 _ (by omega) (by first | assumption | omega) (by first | assumption | omega) | exact hf2 _ (by omega) (by first | assumption | omega) (by first | assumption | omega) | exact hf3 _ (by omega) (by first | assumption | omega) (by first | assumption | omega))
          · intro p hp; cases hp
          · repeat (first | exact trivial | assumption | omega | exact bd_bs | exact bd_row | exact bd_secs | exact bd_bools | (refine bdR_map (fun _ => ?_)) | (refine bdL_map (fun _ => ?_)) | refine ⟨?_, ?_⟩ | fail)
        · skip
          refine runsL_nil ?_
          refine runs_cond false (ev_mk rfl) (fun h_ => nomatch h_) (fun _ => ?_)
          refine runs_skip ?_
          refine runs_seq ?_
          refine runs_seq ?_
          refine runs_region ?_
          refine rl0 (gn rfl) rfl rfl (step_mv rfl rfl) trivial ?_
          refine rl_lss (gn rfl) rfl rfl rfl rfl rfl (fun h5 => ?_) (fun h5 => ?_)
          · skip
            refine runsL_nil ?_
            refine runs_cond true (ev_mk rfl) (fun _ => ?_) (fun h_ => nomatch h_)
            refine runs_seq ?_
            refine runs_region ?_
            refine rl0 (gn rfl) rfl rfl (step_as rfl rfl) trivial ?_
            refine runsL_nil ?_
            refine runs_ret ?_
            refine ⟨by first | exact .inr rfl | exact .inl rfl, fin_mkg (rest rfl res0) ?_ ?_ ?_ ?_ ?_⟩
            · (repeat' (first | exact VLe.refl _ | exact VLe.own_sl _ _ _ | exact VLe.fl_sl _ _ | exact VLe.nil_sl _ | exact VLe.nil_fl _ | exact VLes.refl _ | exact .nil | refine VLe.tup ?_ | refine VLe.agg ?_ | refine .cons ?_ ?_ | (rw [Int.natCast_add]; exact VLe.refl _) | exact vle_int (by omega) | exact vle_bool (by first | rfl | assumption | (simp_all; done)) | (exact vle_int (by unfold sdF; rcases mx_or x ((i : Int) * 536870912) with ⟨e1, e3⟩ | ⟨e1, e3⟩ <;> rcases mn_or y ((i : Int) * 536870912 + 536870911) with ⟨e2, e4⟩ | ⟨e2, e4⟩ <;> rw [e1, e2] <;> first | (exfalso; omega) | rw [if_pos (by omega)] | (rw [if_neg (by omega)]; first | rw [shF_one (by omega)] | rw [shF_two (by omega) (by omega)] | (rw [shF_three (by omega) (by omega)]; done) | (rw [shF_three (by omega) (by omega)]; omega)))) | fail))
            · repeat (first | exact trivial | assumption | omega | exact bd_bs | exact bd_row | exact bd_secs | exact bd_bools | (refine bdR_map (fun _ => ?_)) | (refine bdL_map (fun _ => ?_)) | refine ⟨?_, ?_⟩ | fail)
            · intro k_ hk_; exact ble (by first | exact rfl | (refine (upd_ne _ _ _ _ (by omega)).trans ?_; first | exact rfl | skip; repeat (first | exact rfl | refine (upd_ne _ _ _ _ (by omega)).trans ?_ | assumption | exact hf0 _ (by omega) | exact hf1 _ (by omega) | exact hf2 _ (by omega) | exact hf3 _ (by omega) | exact hf0 _ (by omega) (by first | assumption | omega) | exact hf1 _ (by omega) (by first | assumption | omega) | exact hf2 _ (by omega) (by first | assumption | omega) | exact hf3 _ (by omega) (by first | assumption | omega) | exact hf0 _ (by omega) (by first | assumption | omega) (by first | assumption | omega) | exact hf1 _ (by omega) (by first | assumption | omega) (by first | assumption | omega) | exact hf2 _ (by omega) (by first | assumption | omega) (by first | assumption | omega) | exact hf3 _ (by omega) (by first | assumption | omega) (by first | assumption | omega))) | exact hf0 _ (by omega) | exact hf1 _ (by omega) | exact hf2 _ (by omega) | exact hf3 _ (by omega) | exact hf0 _ (by omega) (by first | assumption | omega) | exact hf1 _ (by omega) (by first | assumption | omega) | exact hf2 _ (by omega) (by first | assumption | omega) | exact hf3 _ (by omega) (by first | assumption | omega) | exact hf0 _ (by omega) (by first | assumption | omega) (by first | assumption | omega) | exact hf1 _ (by omega) (by first | assumption | omega) (by first | assumption | omega) | exact hf2 _ (by omega) (by first | assumption | omega) (by first | assumption | omega) | exact hf3 _ (by omega) (by first | assumption | omega) (by first | assumption | omega))
            · intro p hp; cases hp
            · repeat (first | exact trivial | assumption | omega | exact bd_bs | exact bd_row | exact bd_secs | exact bd_bools | (refine bdR_map (fun _ => ?_)) | (refine bdL_map (fun _ => ?_)) | refine ⟨?_, ?_⟩ | fail)
          · skip
            refine runsL_nil ?_
            refine runs_cond false (ev_mk rfl) (fun h_ => nomatch h_) (fun _ => ?_)
            refine runs_skip ?_
            refine runs_seq ?_
            refine runs_region ?_
            refine rl0 (gn rfl) rfl rfl (step_mv rfl rfl) trivial ?_
            refine rl0 (gn rfl) rfl rfl (step_quo rfl (ev_mk rfl) (ev_mk rfl) (by omega) (by omega) (w64 (by omega))) trivial ?_
            refine rl0 (gn rfl) rfl rfl (step_as rfl rfl) trivial ?_
            refine runsL_nil ?_
            refine runs_ret ?_
            refine ⟨by first | exact .inr rfl | exact .inl rfl, fin_mkg (rest rfl res0) ?_ ?_ ?_ ?_ ?_⟩
            · (repeat' (first | exact VLe.refl _ | exact VLe.own_sl _ _ _ | exact VLe.fl_sl _ _ | exact VLe.nil_sl _ | exact VLe.nil_fl _ | exact VLes.refl _ | exact .nil | refine VLe.tup ?_ | refine VLe.agg ?_ | refine .cons ?_ ?_ | (rw [Int.natCast_add]; exact VLe.refl _) | exact vle_int (by omega) | exact vle_bool (by first | rfl | assumption | (simp_all; done)) | (exact vle_int (by unfold sdF; rcases mx_or x ((i : Int) * 536870912) with ⟨e1, e3⟩ | ⟨e1, e3⟩ <;> rcases mn_or y ((i : Int) * 536870912 + 536870911) with ⟨e2, e4⟩ | ⟨e2, e4⟩ <;> rw [e1, e2] <;> first | (exfalso; omega) | rw [if_pos (by omega)] | (rw [if_neg (by omega)]; first | rw [shF_one (by omega)] | rw [shF_two (by omega) (by omega)] | (rw [shF_three (by omega) (by omega)]; done) | (rw [shF_three (by omega) (by omega)]; omega)))) | fail))
            · repeat (first | exact trivial | assumption | omega | exact bd_bs | exact bd_row | exact bd_secs | exact bd_bools | (refine bdR_map (fun _ => ?_)) | (refine bdL_map (fun _ => ?_)) | refine ⟨?_, ?_⟩ | fail)
            · intro k_ hk_; exact ble (by first | exact rfl | (refine (upd_ne _ _ _ _ (by omega)).trans ?_; first | exact rfl | skip; repeat (first | exact rfl | refine (upd_ne _ _ _ _ (by omega)).trans ?_ | assumption | exact hf0 _ (by omega) | exact hf1 _ (by omega) | exact hf2 _ (by omega) | exact hf3 _ (by omega) | exact hf0 _ (by omega) (by first | assumption | omega) | exact hf1 _ (by omega) (by first | assumption | omega) | exact hf2 _ (by omega) (by first | assumption | omega) | exact hf3 _ (by omega) (by first | assumption | omega) | exact hf0 _ (by omega) (by first | assumption | omega) (by first | assumption | omega) | exact hf1 _ (by omega) (by first | assumption | omega) (by first | assumption | omega) | exact hf2 _ (by omega) (by first | assumption | omega) (by first | assumption | omega) | exact hf3 _ (by omega) (by first | assumption | omega) (by first | assumption | omega))) | exact hf0 _ (by omega) | exact hf1 _ (by omega) | exact hf2 _ (by omega) | exact hf3 _ (by omega) | exact hf0 _ (by omega) (by first | assumption | omega) | exact hf1 _ (by omega) (by first | assumption | omega) | exact hf2 _ (by omega) (by first | assumption | omega) | exact hf3 _ (by omega) (by first | assumption | omega) | exact hf0 _ (by omega) (by first | assumption | omega) (by first | assumption | omega) | exact hf1 _ (by omega) (by first | assumption | omega) (by first | assumption | omega) | exact hf2 _ (by omega) (by first | assumption | omega) (by first | assumption | omega) | exact hf3 _ (by omega) (by first | assumption | omega) (by first | assumption | omega))
            · intro p hp; cases hp
            · repeat (first | exact trivial | assumption | omega | exact bd_bs | exact bd_row | exact bd_secs | exact bd_bools | (refine bdR_map (fun _ => ?_)) | (refine bdL_map (fun _ => ?_)) | refine ⟨?_, ?_⟩ | fail)
    · skip
      refine runsL_nil ?_
      refine runs_cond false (ev_mk rfl) (fun h_ => nomatch h_) (fun _ => ?_)
      refine runs_skip ?_
      refine runs_seq ?_
      refine runs_seq ?_
      refine runs_region ?_
      refine rl0 (gn rfl) rfl rfl (step_mv rfl rfl) trivial ?_
      refine rl0 (gn rfl) rfl rfl (step_mv rfl rfl) trivial ?_
      refine rl_gtr (gn rfl) rfl rfl rfl rfl rfl (fun h3 => ?_) (fun h3 => ?_)
      · skip
        refine runsL_nil ?_
        refine runs_cond true (ev_mk rfl) (fun _ => ?_) (fun h_ => nomatch h_)
        refine runs_seq ?_
        refine runs_region ?_
        refine rl0 (gn rfl) rfl rfl (step_as rfl rfl) trivial ?_
        refine runsL_nil ?_
        refine runs_ret ?_
        refine ⟨by first | exact .inr rfl | exact .inl rfl, fin_mkg (rest rfl res0) ?_ ?_ ?_ ?_ ?_⟩
        · (repeat' (first | exact VLe.refl _ | exact VLe.own_sl _ _ _ | exact VLe.fl_sl _ _ | exact VLe.nil_sl _ | exact VLe.nil_fl _ | exact VLes.refl _ | exact .nil | refine VLe.tup ?_ | refine VLe.agg ?_ | refine .cons ?_ ?_ | (rw [Int.natCast_add]; exact VLe.refl _) | exact vle_int (by omega) | exact vle_bool (by first | rfl | assumption | (simp_all; done)) | (exact vle_int (by unfold sdF; rcases mx_or x ((i : Int) * 536870912) with ⟨e1, e3⟩ | ⟨e1, e3⟩ <;> rcases mn_or y ((i : Int) * 536870912 + 536870911) with ⟨e2, e4⟩ | ⟨e2, e4⟩ <;> rw [e1, e2] <;> first | (exfalso; omega) | rw [if_pos (by omega)] | (rw [if_neg (by omega)]; first | rw [shF_one (by omega)] | rw [shF_two (by omega) (by omega)] | (rw [shF_three (by omega) (by omega)]; done) | (rw [shF_three (by omega) (by omega)]; omega)))) | fail))
        · repeat (first | exact trivial | assumption | omega | exact bd_bs | exact bd_row | exact bd_secs | exact bd_bools | (refine bdR_map (fun _ => ?_)) | (refine bdL_map (fun _ => ?_)) | refine ⟨?_, ?_⟩ | fail)
        · intro k_ hk_; exact ble (by first | exact rfl | (refine (upd_ne _ _ _ _ (by omega)).trans ?_; first | exact rfl | skip; repeat (first | exact rfl | refine (upd_ne _ _ _ _ (by omega)).trans ?_ | assumption | exact hf0 _ (by omega) | exact hf1 _ (by omega) | exact hf2 _ (by omega) | exact hf3 _ (by omega) | exact hf0 _ (by omega) (by first | assumption | omega) | exact hf1 _ (by omega) (by first | assumption | omega) | exact hf2 _ (by omega) (by first | assumption | omega) | exact hf3 _ (by omega) (by first | assumption | omega) | exact hf0 _ (by omega) (by first | assumption | omega) (by first | assumption | omega) | exact hf1 _ (by omega) (by first | assumption | omega) (by first | assumption | omega) | exact hf2 _ (by omega) (by first | assumption | omega) (by first | assumption | omega) | exact hf3 _ (by omega) (by first | assumption | omega) (by first | assumption | omega))) | exact hf0 _ (by omega) | exact hf1 _ (by omega) | exact hf2 _ (by omega) | exact hf3 _ (by omega) | exact hf0 _ (by omega) (by first | assumption | omega) | exact hf1 _ (by omega) (by first | assumption | omega) | exact hf2 _ (by omega) (by first | assumption | omega) | exact hf3 _ (by omega) (by first | assumption | omega) | exact hf0 _ (by omega) (by first | assumption | omega) (by first | assumption | omega) | exact hf1 _ (by omega) (by first | assumption | omega) (by first | assumption | omega) | exact hf2 _ (by omega) (by first | assumption | omega) (by first | assumption | omega) | exact hf3 _ (by omega) (by first | assumption | omega) (by first | assumption | omega))
        · intro p hp; cases hp
        · repeat (first | exact trivial | assumption | omega | exact bd_bs | exact bd_row | exact bd_secs | exact bd_bools | (refine bdR_map (fun _ => ?_)) | (refine bdL_map (fun _ => ?_)) | refine ⟨?_, ?_⟩ | fail)
      · skip
        refine runsL_nil ?_
        refine runs_cond false (ev_mk rfl) (fun h_ => nomatch h_) (fun _ => ?_)
        refine runs_skip ?_
        refine runs_seq ?_
        refine runs_region ?_
        refine rl0 (gn rfl) rfl rfl (step_mv rfl rfl) trivial ?_
        refine rl0 (gn rfl) rfl rfl (step_mv rfl rfl) trivial ?_
        refine rl0 (gn rfl) rfl rfl (step_sub rfl (ev_mk rfl) (ev_mk rfl) (wu32 (by omega))) trivial ?_
        refine rl0 (gn rfl) rfl rfl (step_conv_id rfl rfl Try.underlying23 Try.underlying3 (w64 (by omega))) trivial ?_
        refine rl0 (gn rfl) rfl rfl (step_as rfl rfl) trivial ?_
        refine runsL_nil ?_
        refine runs_seq ?_
        refine runs_seq ?_
        refine runs_region ?_
        refine rl0 (gn rfl) rfl rfl (step_mv rfl rfl) trivial ?_
        refine rl_eql (gn rfl) rfl rfl rfl rfl rfl (fun h4 => ?_) (fun h4 => ?_)
        · skip
          refine runsL_nil ?_
          refine runs_cond true (ev_mk rfl) (fun _ => ?_) (fun h_ => nomatch h_)
          refine runs_seq ?_
          refine runs_region ?_
          refine rl0 (gn rfl) rfl rfl (step_as rfl rfl) trivial ?_
          refine runsL_nil ?_
          refine runs_ret ?_
          refine ⟨by first | exact .inr rfl | exact .inl rfl, fin_mkg (rest rfl res0) ?_ ?_ ?_ ?_ ?_⟩
          · (repeat' (first | exact VLe.refl _ | exact VLe.own_sl _ _ _ | exact VLe.fl_sl _ _ | exact VLe.nil_sl _ | exact VLe.nil_fl _ | exact VLes.refl _ | exact .nil | refine VLe.tup ?_ | refine VLe.agg ?_ | refine .cons ?_ ?_ | (rw [Int.natCast_add]; exact VLe.refl _) | exact vle_int (by omega) | exact vle_bool (by first | rfl | assumption | (simp_all; done)) | (exact vle_int (by unfold sdF; rcases mx_or x ((i : Int) * 536870912) with ⟨e1, e3⟩ | ⟨e1, e3⟩ <;> rcases mn_or y ((i : Int) * 536870912 + 536870911) with ⟨e2, e4⟩ | ⟨e2, e4⟩ <;> rw [e1, e2] <;> first | (exfalso; omega) | rw [if_pos (by omega)] | (rw [if_neg (by omega)]; first | rw [shF_one (by omega)] | rw [shF_two (by omega) (by omega)] | (rw [shF_three (by omega) (by omega)]; done) | (rw [shF_three (by omega) (by omega)]; omega)))) | fail))
          · repeat (first | exact trivial | assumption | omega | exact bd_bs | exact bd_row | exact bd_secs | exact bd_bools | (refine bdR_map (fun _ => ?_)) | (refine bdL_map (fun _ => ?_)) | refine ⟨?_, ?_⟩ | fail)
          · intro k_ hk_; exact ble (by first | exact rfl | (refine (upd_ne _ _ _ _ (by omega)).trans ?_; first | exact rfl | skip; repeat (first | exact rfl | refine (upd_ne _ _ _ _ (by omega)).trans ?_ | assumption | exact hf0 _ (by omega) | exact hf1 _ (by omega) | exact hf2 _ (by omega) | exact hf3 _ (by omega) | exact hf0 _ (by omega) (by first | assumption | omega) | exact hf1 _ (by omega) (by first | assumption | omega) | exact hf2 _ (by omega) (by first | assumption | omega) | exact hf3 _ (by omega) (by first | assumption | omega) | exact hf0 _ (by omega) (by first | assumption | omega) (by first | assumption | omega) | exact hf1 _ (by omega) (by first | assumption | omega) (by first | assumption | omega) | exact hf2 _ (by omega) (by first | assumption | omega) (by first | assumption | omega) | exact hf3 _ (by omega) (by first | assumption | omega) (by first | assumption | omega))) | exact hf0 _ (by omega) | exact hf1 _ (by omega) | exact hf2 _ (by omega) | exact hf3 _ (by omega) | exact hf0 _ (by omega) (by first | assumption | omega) | exact hf1 _ (by omega) (by first | assumption | omega) | exact hf2 _ (by omega) (by first | assumption | omega) | exact hf3 _ (by omega) (by first | assumption | omega) | exact hf0 _ (by omega) (by first | assumption | omega) (by first | assumption | omega) | exact hf1 _ (by omega) (by first | assumption | omega) (by first | assumption | omega) | exact hf2 _ (by omega) (by first | assumption | omega) (by first | assumption | omega) | exact hf3 _ (by omega) (by first | assumption | omega) (by first | assumption | omega))
          · intro p hp; cases hp
          · repeat (first | exact trivial | assumption | omega | exact bd_bs | exact bd_row | exact bd_secs | exact bd_bools | (refine bdR_map (fun _ => ?_)) | (refine bdL_map (fun _ => ?_)) | refine ⟨?_, ?_⟩ | fail)
        · skip
          refine runsL_nil ?_
          refine runs_cond false (ev_mk rfl) (fun h_ => nomatch h_) (fun _ => ?_)
          refine runs_skip ?_
          refine runs_seq ?_
          refine runs_seq ?_
          refine runs_region ?_
          refine rl0 (gn rfl) rfl rfl (step_mv rfl rfl) trivial ?_
          refine rl_lss (gn rfl) rfl rfl rfl rfl rfl (fun h5 => ?_) (fun h5 => ?_)
          · skip
            refine runsL_nil ?_
            refine runs_cond true (ev_mk rfl) (fun _ => ?_) (fun h_ => nomatch h_)
            refine runs_seq ?_
            refine runs_region ?_
            refine rl0 (gn rfl) rfl rfl (step_as rfl rfl) trivial ?_
            refine runsL_nil ?_
            refine runs_ret ?_
            refine ⟨by first | exact .inr rfl | exact .inl rfl, fin_mkg (rest rfl res0) ?_ ?_ ?_ ?_ ?_⟩
            · (repeat' (first | exact VLe.refl _ | exact VLe.own_sl _ _ _ | exact VLe.fl_sl _ _ | exact VLe.nil_sl _ | exact VLe.nil_fl _ | exact VLes.refl _ | exact .nil | refine VLe.tup ?_ | refine VLe.agg ?_ | refine .cons ?_ ?_ | (rw [Int.natCast_add]; exact VLe.refl _) | exact vle_int (by omega) | exact vle_bool (by first | rfl | assumption | (simp_all; done)) | (exact vle_int (by unfold sdF; rcases mx_or x ((i : Int) * 536870912) with ⟨e1, e3⟩ | ⟨e1, e3⟩ <;> rcases mn_or y ((i : Int) * 536870912 + 536870911) with ⟨e2, e4⟩ | ⟨e2, e4⟩ <;> rw [e1, e2] <;> first | (exfalso; omega) | rw [if_pos (by omega)] | (rw [if_neg (by omega)]; first | rw [shF_one (by omega)] | rw [shF_two (by omega) (by omega)] | (rw [shF_three (by omega) (by omega)]; done) | (rw [shF_three (by omega) (by omega)]; omega)))) | fail))
            · repeat (first | exact trivial | assumption | omega | exact bd_bs | exact bd_row | exact bd_secs | exact bd_bools | (refine bdR_map (fun _ => ?_)) | (refine bdL_map (fun _ => ?_)) | refine ⟨?_, ?_⟩ | fail)
            · intro k_ hk_; exact ble (by first | exact rfl | (refine (upd_ne _ _ _ _ (by omega)).trans ?_; first | exact rfl | skip; repeat (first | exact rfl | refine (upd_ne _ _ _ _ (by omega)).trans ?_ | assumption | exact hf0 _ (by omega) | exact hf1 _ (by omega) | exact hf2 _ (by omega) | exact hf3 _ (by omega) | exact hf0 _ (by omega) (by first | assumption | omega) | exact hf1 _ (by omega) (by first | assumption | omega) | exact hf2 _ (by omega) (by first | assumption | omega) | exact hf3 _ (by omega) (by first | assumption | omega) | exact hf0 _ (by omega) (by first | assumption | omega) (by first | assumption | omega) | exact hf1 _ (by omega) (by first | assumption | omega) (by first | assumption | omega) | exact hf2 _ (by omega) (by first | assumption | omega) (by first | assumption | omega) | exact hf3 _ (by omega) (by first | assumption | omega) (by first | assumption | omega))) | exact hf0 _ (by omega) | exact hf1 _ (by omega) | exact hf2 _ (by omega) | exact hf3 _ (by omega) | exact hf0 _ (by omega) (by first | assumption | omega) | exact hf1 _ (by omega) (by first | assumption | omega) | exact hf2 _ (by omega) (by first | assumption | omega) | exact hf3 _ (by omega) (by first | assumption | omega) | exact hf0 _ (by omega) (by first | assumption | omega) (by first | assumption | omega) | exact hf1 _ (by omega) (by first | assumption | omega) (by first | assumption | omega) | exact hf2 _ (by omega) (by first | assumption | omega) (by first | assumption | omega) | exact hf3 _ (by omega) (by first | assumption | omega) (by first | assumption | omega))
            · intro p hp; cases hp
            · repeat (first | exact trivial | assumption | omega | exact bd_bs | exact bd_row | exact bd_secs | exact bd_bools | (refine bdR_map (fun _ => ?_)) | (refine bdL_map (fun _ => ?_)) | refine ⟨?_, ?_⟩ | fail)
          · skip
            refine runsL_nil ?_
            refine runs_cond false (ev_mk rfl) (fun h_ => nomatch h_) (fun _ => ?_)
            refine runs_skip ?_
            refine runs_seq ?_
            refine runs_region ?_
            refine rl0 (gn rfl) rfl rfl (step_mv rfl rfl) trivial ?_
            refine rl0 (gn rfl) rfl rfl (step_quo rfl (ev_mk rfl) (ev_mk rfl) (by omega) (by omega) (w64 (by omega))) trivial ?_
            refine rl0 (gn rfl) rfl rfl (step_as rfl rfl) trivial ?_
            refine runsL_nil ?_
            refine runs_ret ?_
            refine ⟨by first | exact .inr rfl | exact .inl rfl, fin_mkg (rest rfl res0) ?_ ?_ ?_ ?_ ?_⟩
            · (repeat' (first | exact VLe.refl _ | exact VLe.own_sl _ _ _ | exact VLe.fl_sl _ _ | exact VLe.nil_sl _ | exact VLe.nil_fl _ | exact VLes.refl _ | exact .nil | refine VLe.tup ?_ | refine VLe.agg ?_ | refine .cons ?_ ?_ | (rw [Int.natCast_add]; exact VLe.refl _) | exact vle_int (by omega) | exact vle_bool (by first | rfl | assumption | (simp_all; done)) | (exact vle_int (by unfold sdF; rcases mx_or x ((i : Int) * 536870912) with ⟨e1, e3⟩ | ⟨e1, e3⟩ <;> rcases mn_or y ((i : Int) * 536870912 + 536870911) with ⟨e2, e4⟩ | ⟨e2, e4⟩ <;> rw [e1, e2] <;> first | (exfalso; omega) | rw [if_pos (by omega)] | (rw [if_neg (by omega)]; first | rw [shF_one (by omega)] | rw [shF_two (by omega) (by omega)] | (rw [shF_three (by omega) (by omega)]; done) | (rw [shF_three (by omega) (by omega)]; omega)))) | fail))
            · repeat (first | exact trivial | assumption | omega | exact bd_bs | exact bd_row | exact bd_secs | exact bd_bools | (refine bdR_map (fun _ => ?_)) | (refine bdL_map (fun _ => ?_)) | refine ⟨?_, ?_⟩ | fail)
            · intro k_ hk_; exact ble (by first | exact rfl | (refine (upd_ne _ _ _ _ (by omega)).trans ?_; first | exact rfl | skip; repeat (first | exact rfl | refine (upd_ne _ _ _ _ (by omega)).trans ?_ | assumption | exact hf0 _ (by omega) | exact hf1 _ (by omega) | exact hf2 _ (by omega) | exact hf3 _ (by omega) | exact hf0 _ (by omega) (by first | assumption | omega) | exact hf1 _ (by omega) (by first | assumption | omega) | exact hf2 _ (by omega) (by first | assumption | omega) | exact hf3 _ (by omega) (by first | assumption | omega) | exact hf0 _ (by omega) (by first | assumption | omega) (by first | assumption | omega) | exact hf1 _ (by omega) (by first | assumption | omega) (by first | assumption | omega) | exact hf2 _ (by omega) (by first | assumption | omega) (by first | assumption | omega) | exact hf3 _ (by omega) (by first | assumption | omega) (by first | assumption | omega))) | exact hf0 _ (by omega) | exact hf1 _ (by omega) | exact hf2 _ (by omega) | exact hf3 _ (by omega) | exact hf0 _ (by omega) (by first | assumption | omega) | exact hf1 _ (by omega) (by first | assumption | omega) | exact hf2 _ (by omega) (by first | assumption | omega) | exact hf3 _ (by omega) (by first | assumption | omega) | exact hf0 _ (by omega) (by first | assumption | omega) (by first | assumption | omega) | exact hf1 _ (by omega) (by first | assumption | omega) (by first | assumption | omega) | exact hf2 _ (by omega) (by first | assumption | omega) (by first | assumption | omega) | exact hf3 _ (by omega) (by first | assumption | omega) (by first | assumption | omega))
            · intro p hp; cases hp
            · repeat (first | exact trivial | assumption | omega | exact bd_bs | exact bd_row | exact bd_secs | exact bd_bools | (refine bdR_map (fun _ => ?_)) | (refine bdL_map (fun _ => ?_)) | refine ⟨?_, ?_⟩ | fail)
set_option maxRecDepth 100000 in
set_option maxHeartbeats 1000000 in
theorem rguess_c (l : List Pt) (hl : ∀ p ∈ l, okPt p) (hL : l.length ≤ 1000) (a b c d : Int) (ha : U32 a) (hb : U32 b) (hc : U32 c) (hd_ : U32 d) : Does Try.prog 14 [.sl 4 (l.map ptR), .agg (rcB a b c d)] [] [] (.sc (.int .i64 (guF (fun n : Nat => cT l n) a b c d))) := by
  refine does_mkg 40 Try.func14 rfl rfl rfl (fun n B bx hd hpre hup hvs hbx hgx => ?_)
  have hT2 : ∀ i : Nat, 0 ≤ cT l i ∧ cT l i ≤ 3600000 := fun i => by have := cT_bd l i; omega
  refine runs_seq ?_
  refine runs_region ?_
  refine rl1 (gn rfl) rfl rfl (step_box_agg (k := n + 0) rfl rfl) ⟨by repeat (first | exact upd_eq _ _ _ | refine (upd_ne _ _ _ _ (by omega)).trans ?_ | assumption | exact hd _ (by omega) | exact hd0 _ (by omega) | exact hd1 _ (by omega) | exact hd2 _ (by omega) | exact hd3 _ (by omega) | fail), trivial⟩ (by omega) ?_
  refine rl0 (gn rfl) rfl rfl (step_as rfl rfl) trivial ?_
  refine runsL_nil ?_
  refine runs_seq ?_
  refine runs_seq ?_
  refine runs_region ?_
  refine rl0 (gn rfl) rfl rfl (step_fieldAddr (off := 0) rfl (ev_mk rfl) Try.underlying25 rfl F.sz23 rfl) trivial ?_
  refine' rl0 (gn rfl) rfl rfl (step_load_one rfl (ev_mk rfl) F.one23 ?hv) ⟨?hb, trivial⟩ ?_
  case hb => repeat (first | exact upd_eq _ _ _ | refine (upd_ne _ _ _ _ (by omega)).trans ?_ | assumption | exact hd _ (by omega) | exact hd0 _ (by omega) | exact hd1 _ (by omega) | exact hd2 _ (by omega) | exact hd3 _ (by omega) | fail)
  case hv => rfl
  refine rl0 (gn rfl) rfl rfl (step_fieldAddr (off := 2) rfl (ev_mk rfl) Try.underlying25 rfl F.sz23 rfl) trivial ?_
  refine' rl0 (gn rfl) rfl rfl (step_load_one rfl (ev_mk rfl) F.one23 ?hv) ⟨?hb, trivial⟩ ?_
  case hb => repeat (first | exact upd_eq _ _ _ | refine (upd_ne _ _ _ _ (by omega)).trans ?_ | assumption | exact hd _ (by omega) | exact hd0 _ (by omega) | exact hd1 _ (by omega) | exact hd2 _ (by omega) | exact hd3 _ (by omega) | fail)
  case hv => rfl
  refine rl_gtr (gn rfl) rfl rfl rfl rfl rfl (fun h1 => ?_) (fun h1 => ?_)
  · skip
    refine rl0 (gn rfl) rfl rfl (step_mv rfl rfl) trivial ?_
    refine rlk rfl rfl rfl rfl rfl (ngb rfl rfl) rfl rfl ?_
    refine rlk rfl rfl rfl rfl rfl (ngb rfl rfl) rfl rfl ?_
    refine rlk rfl rfl rfl rfl rfl (ngb rfl rfl) rfl rfl ?_
    refine rlk rfl rfl rfl rfl rfl (ngb rfl rfl) rfl rfl ?_
    refine rlk rfl rfl rfl rfl rfl (ngb rfl rfl) rfl rfl ?_
    refine rl0 (gn rfl) rfl rfl (step_pick rfl (ev_mk rfl) (ev_mk rfl)) trivial ?_
    refine runsL_nil ?_
    refine runs_cond true (ev_mk rfl) (fun _ => ?_) (fun h_ => nomatch h_)
    refine runs_seq ?_
    refine runs_region ?_
    refine rl0 (gn rfl) rfl rfl (step_as rfl rfl) trivial ?_
    refine runsL_nil ?_
    refine runs_ret ?_
    have hem_ : (c < a ∨ d < b) ∨ ¬ (c < a ∨ d < b) := by omega
    refine ⟨by first | exact .inr rfl | exact .inl rfl, fin_mkg (rest rfl res0) ?_ ?_ ?_ ?_ ?_⟩
    · (repeat' (first | exact VLe.refl _ | exact VLe.own_sl _ _ _ | exact VLe.fl_sl _ _ | exact VLe.nil_sl _ | exact VLe.nil_fl _ | exact VLes.refl _ | exact .nil | refine VLe.tup ?_ | refine VLe.agg ?_ | refine .cons ?_ ?_ | (rw [Int.natCast_add]; exact VLe.refl _) | exact vle_int (by omega) | exact vle_bool (by first | rfl | assumption | (simp_all; done)) | (exact vle_int (by unfold guF; rw [if_pos (by unfold emF; exact decide_eq_true (by omega))])) | (((have hj_ : j = 64 := (by omega)); subst hj_; exact vle_int (by unfold guF; rw [if_neg (by unfold emF; rw [decide_eq_true_eq]; omega)]))) | fail))
    · repeat (first | exact trivial | assumption | omega | exact bd_bs | exact bd_row | exact bd_secs | exact bd_bools | (refine bdR_map (fun _ => ?_)) | (refine bdL_map (fun _ => ?_)) | refine ⟨?_, ?_⟩ | fail)
    · intro k_ hk_; exact ble (by first | exact rfl | (refine (upd_ne _ _ _ _ (by omega)).trans ?_; first | exact rfl | skip; repeat (first | exact rfl | refine (upd_ne _ _ _ _ (by omega)).trans ?_ | assumption | exact hf0 _ (by omega) | exact hf1 _ (by omega) | exact hf2 _ (by omega) | exact hf3 _ (by omega) | exact hf0 _ (by omega) (by first | assumption | omega) | exact hf1 _ (by omega) (by first | assumption | omega) | exact hf2 _ (by omega) (by first | assumption | omega) | exact hf3 _ (by omega) (by first | assumption | omega) | exact hf0 _ (by omega) (by first | assumption | omega) (by first | assumption | omega) | exact hf1 _ (by omega) (by first | assumption | omega) (by first | assumption | omega) | exact hf2 _ (by omega) (by first | assumption | omega) (by first | assumption | omega) | exact hf3 _ (by omega) (by first | assumption | omega) (by first | assumption | omega))) | exact hf0 _ (by omega) | exact hf1 _ (by omega) | exact hf2 _ (by omega) | exact hf3 _ (by omega) | exact hf0 _ (by omega) (by first | assumption | omega) | exact hf1 _ (by omega) (by first | assumption | omega) | exact hf2 _ (by omega) (by first | assumption | omega) | exact hf3 _ (by omega) (by first | assumption | omega) | exact hf0 _ (by omega) (by first | assumption | omega) (by first | assumption | omega) | exact hf1 _ (by omega) (by first | assumption | omega) (by first | assumption | omega) | exact hf2 _ (by omega) (by first | assumption | omega) (by first | assumption | omega) | exact hf3 _ (by omega) (by first | assumption | omega) (by first | assumption | omega))
    · intro p hp; cases hp
    · repeat (first | exact trivial | assumption | omega | exact bd_bs | exact bd_row | exact bd_secs | exact bd_bools | (refine bdR_map (fun _ => ?_)) | (refine bdL_map (fun _ => ?_)) | refine ⟨?_, ?_⟩ | fail)
  · skip
    refine rl0 (gn rfl) rfl rfl (step_mv rfl rfl) trivial ?_
    refine rl0 (gy rfl rfl rfl rfl rfl rfl) rfl rfl (step_fieldAddr (off := 1) rfl (ev_mk rfl) Try.underlying25 rfl F.sz23 rfl) trivial ?_
    refine' rl0 (gy rfl rfl rfl rfl rfl rfl) rfl rfl (step_load_one rfl (ev_mk rfl) F.one23 ?hv) ⟨?hb, trivial⟩ ?_
    case hb => repeat (first | exact upd_eq _ _ _ | refine (upd_ne _ _ _ _ (by omega)).trans ?_ | assumption | exact hd _ (by omega) | exact hd0 _ (by omega) | exact hd1 _ (by omega) | exact hd2 _ (by omega) | exact hd3 _ (by omega) | fail)
    case hv => rfl
    refine rl0 (gy rfl rfl rfl rfl rfl rfl) rfl rfl (step_fieldAddr (off := 3) rfl (ev_mk rfl) Try.underlying25 rfl F.sz23 rfl) trivial ?_
    refine' rl0 (gy rfl rfl rfl rfl rfl rfl) rfl rfl (step_load_one rfl (ev_mk rfl) F.one23 ?hv) ⟨?hb, trivial⟩ ?_
    case hb => repeat (first | exact upd_eq _ _ _ | refine (upd_ne _ _ _ _ (by omega)).trans ?_ | assumption | exact hd _ (by omega) | exact hd0 _ (by omega) | exact hd1 _ (by omega) | exact hd2 _ (by omega) | exact hd3 _ (by omega) | fail)
    case hv => rfl
    refine rl_gtr (gy rfl rfl rfl rfl rfl rfl) rfl rfl rfl rfl rfl (fun h2 => ?_) (fun h2 => ?_)
    · skip
      refine rl0 (gn rfl) rfl rfl (step_pick rfl (ev_mk rfl) (ev_mk rfl)) trivial ?_
      refine runsL_nil ?_
      refine runs_cond true (ev_mk rfl) (fun _ => ?_) (fun h_ => nomatch h_)
      refine runs_seq ?_
      refine runs_region ?_
      refine rl0 (gn rfl) rfl rfl (step_as rfl rfl) trivial ?_
      refine runsL_nil ?_
      refine runs_ret ?_
      have hem_ : (c < a ∨ d < b) ∨ ¬ (c < a ∨ d < b) := by omega
      refine ⟨by first | exact .inr rfl | exact .inl rfl, fin_mkg (rest rfl res0) ?_ ?_ ?_ ?_ ?_⟩
      · (repeat' (first | exact VLe.refl _ | exact VLe.own_sl _ _ _ | exact VLe.fl_sl _ _ | exact VLe.nil_sl _ | exact VLe.nil_fl _ | exact VLes.refl _ | exact .nil | refine VLe.tup ?_ | refine VLe.agg ?_ | refine .cons ?_ ?_ | (rw [Int.natCast_add]; exact VLe.refl _) | exact vle_int (by omega) | exact vle_bool (by first | rfl | assumption | (simp_all; done)) | (exact vle_int (by unfold guF; rw [if_pos (by unfold emF; exact decide_eq_true (by omega))])) | (((have hj_ : j = 64 := (by omega)); subst hj_; exact vle_int (by unfold guF; rw [if_neg (by unfold emF; rw [decide_eq_true_eq]; omega)]))) | fail))
      · repeat (first | exact trivial | assumption | omega | exact bd_bs | exact bd_row | exact bd_secs | exact bd_bools | (refine bdR_map (fun _ => ?_)) | (refine bdL_map (fun _ => ?_)) | refine ⟨?_, ?_⟩ | fail)
      · intro k_ hk_; exact ble (by first | exact rfl | (refine (upd_ne _ _ _ _ (by omega)).trans ?_; first | exact rfl | skip; repeat (first | exact rfl | refine (upd_ne _ _ _ _ (by omega)).trans ?_ | assumption | exact hf0 _ (by omega) | exact hf1 _ (by omega) | exact hf2 _ (by omega) | exact hf3 _ (by omega) | exact hf0 _ (by omega) (by first | assumption | omega) | exact hf1 _ (by omega) (by first | assumption | omega) | exact hf2 _ (by omega) (by first | assumption | omega) | exact hf3 _ (by omega) (by first | assumption | omega) | exact hf0 _ (by omega) (by first | assumption | omega) (by first | assumption | omega) | exact hf1 _ (by omega) (by first | assumption | omega) (by first | assumption | omega) | exact hf2 _ (by omega) (by first | assumption | omega) (by first | assumption | omega) | exact hf3 _ (by omega) (by first | assumption | omega) (by first | assumption | omega))) | exact hf0 _ (by omega) | exact hf1 _ (by omega) | exact hf2 _ (by omega) | exact hf3 _ (by omega) | exact hf0 _ (by omega) (by first | assumption | omega) | exact hf1 _ (by omega) (by first | assumption | omega) | exact hf2 _ (by omega) (by first | assumption | omega) | exact hf3 _ (by omega) (by first | assumption | omega) | exact hf0 _ (by omega) (by first | assumption | omega) (by first | assumption | omega) | exact hf1 _ (by omega) (by first | assumption | omega) (by first | assumption | omega) | exact hf2 _ (by omega) (by first | assumption | omega) (by first | assumption | omega) | exact hf3 _ (by omega) (by first | assumption | omega) (by first | assumption | omega))
      · intro p hp; cases hp
      · repeat (first | exact trivial | assumption | omega | exact bd_bs | exact bd_row | exact bd_secs | exact bd_bools | (refine bdR_map (fun _ => ?_)) | (refine bdL_map (fun _ => ?_)) | refine ⟨?_, ?_⟩ | fail)
    · skip
      refine rl0 (gn rfl) rfl rfl (step_pick rfl (ev_mk rfl) (ev_mk rfl)) trivial ?_
      refine runsL_nil ?_
      refine runs_cond false (ev_mk rfl) (fun h_ => nomatch h_) (fun _ => ?_)
      refine runs_skip ?_
      refine runs_seq ?_
      refine runs_region ?_
      refine rl0 (gn rfl) rfl rfl (step_as rfl rfl) trivial ?_
      refine runsL_nil ?_
      refine runs_seq ?_
      refine runs_seq ?_
      refine runs_region ?_
      refine rl0 (gn rfl) rfl rfl (step_as rfl rfl) trivial ?_
      refine runsL_nil ?_
      refine runs_block ?_
      have hs0_ : 0 = gsF (fun n : Nat => cT l n) a b c d 0 := by rfl
      refine runs_loop (fun (ri_ : Nat) (st_ : Go.Vm.S) => ∃ (j : Nat) (m0 : Nat) (b0 : Nat → Box), (st_ = ⟨mk [(0, .sl 4 (l.map ptR)), (3, .ref (n + 0) 0), (4, .sc (.int .i64 0)), (5, .sc (.int .i64 (gsF (fun n : Nat => cT l n) a b c d j))), (6, .sc (.int .i64 j))], m0, b0⟩) ∧ (ri_ = 64 - j) ∧ (n + 1 ≤ m0) ∧ (∀ k_, k_ < n → b0 k_ = bx k_) ∧ (b0 (n + 0) = .cells [.sc (.int .u32 a), .sc (.int .u32 b), .sc (.int .u32 c), .sc (.int .u32 d)]) ∧ (j ≤ 64)) (64 - 0) ⟨_, sle ?_ (Nat.le_refl _), 0, _, _, rfl, rfl, ?_⟩ ?_
      · (repeat' (first | exact trivial | refine ⟨⟨_, rfl, ?_⟩, ?_⟩ | fail)); all_goals (repeat' (first | exact VLe.refl _ | exact VLe.own_sl _ _ _ | exact VLe.fl_sl _ _ | exact VLe.nil_sl _ | exact VLe.nil_fl _ | exact VLes.refl _ | exact .nil | refine VLe.tup ?_ | refine VLe.agg ?_ | refine .cons ?_ ?_ | (rw [Int.natCast_add]; exact VLe.refl _) | exact vle_int (by omega) | exact vle_bool (by first | rfl | assumption | (simp_all; done)) | (rw [← hs0_]; exact VLe.refl _) | (rw [hs0_]; exact VLe.refl _) | fail))
      · exact ⟨by omega, (fun k_ hk_ => by first | exact rfl | (refine (upd_ne _ _ _ _ (by omega)).trans ?_; first | exact rfl | skip; repeat (first | exact rfl | refine (upd_ne _ _ _ _ (by omega)).trans ?_ | assumption | exact hf0 _ (by omega) | exact hf1 _ (by omega) | exact hf2 _ (by omega) | exact hf3 _ (by omega) | exact hf0 _ (by omega) (by first | assumption | omega) | exact hf1 _ (by omega) (by first | assumption | omega) | exact hf2 _ (by omega) (by first | assumption | omega) | exact hf3 _ (by omega) (by first | assumption | omega) | exact hf0 _ (by omega) (by first | assumption | omega) (by first | assumption | omega) | exact hf1 _ (by omega) (by first | assumption | omega) (by first | assumption | omega) | exact hf2 _ (by omega) (by first | assumption | omega) (by first | assumption | omega) | exact hf3 _ (by omega) (by first | assumption | omega) (by first | assumption | omega))) | exact hf0 _ (by omega) | exact hf1 _ (by omega) | exact hf2 _ (by omega) | exact hf3 _ (by omega) | exact hf0 _ (by omega) (by first | assumption | omega) | exact hf1 _ (by omega) (by first | assumption | omega) | exact hf2 _ (by omega) (by first | assumption | omega) | exact hf3 _ (by omega) (by first | assumption | omega) | exact hf0 _ (by omega) (by first | assumption | omega) (by first | assumption | omega) | exact hf1 _ (by omega) (by first | assumption | omega) (by first | assumption | omega) | exact hf2 _ (by omega) (by first | assumption | omega) (by first | assumption | omega) | exact hf3 _ (by omega) (by first | assumption | omega) (by first | assumption | omega)), by first | ((repeat (first | exact upd_eq _ _ _ | assumption | refine (upd_ne _ _ _ _ (by omega)).trans ?_ | fail)); done) | exact tl_eq (by repeat (first | exact upd_eq _ _ _ | assumption | refine (upd_ne _ _ _ _ (by omega)).trans ?_ | fail)) (by first | rfl | (simp [bytesV, beB_len]; done) | (simp [bytesV, beB_len]; omega) | omega) | (rw [← hs0_]; (repeat (first | exact upd_eq _ _ _ | assumption | refine (upd_ne _ _ _ _ (by omega)).trans ?_ | fail)); done), by omega⟩
      · rintro _ _ ⟨j, m0, b0, rfl, rfl, hm0, hf0, hB0_0, hF0_0⟩
        refine runs_know (fun hd0 => ?_)
        refine runs_bump 20 ?_
        simp only at hd0
        have hgs := gsF_bd (a := a) (b := b) (c := c) (d := d) (T := (fun n : Nat => cT l n)) j (fun i hi => hT2 i)
        have s1_ := sdF_bd a c (((j % 8 : Nat) : Int) * 536870912)
        have s2_ := sdF_bd b d (((j / 8 : Nat) : Int) * 536870912)
        have m1_ := mul_bd (hT2 j) s1_
        have m2_ := mul_bd m1_ s2_
        refine runs_seq ?_
        refine runs_seq ?_
        refine runs_region ?_
        refine rl0 (gn rfl) rfl rfl (step_mv rfl rfl) trivial ?_
        refine rl_lss (gn rfl) rfl rfl rfl rfl rfl (fun h3 => ?_) (fun h3 => ?_)
        · skip
          refine runsL_nil ?_
          refine runs_cond true (ev_mk rfl) (fun _ => ?_) (fun h_ => nomatch h_)
          refine runs_skip ?_
          refine runs_seq ?_
          refine runs_block ?_
          refine runs_draw (by kernel_rfl) (by kernel_rfl) (by kernel_rfl) ?_
          refine dl0 (gn rfl) rfl rfl (step_mv rfl rfl) trivial ?_
          refine dl0 (gn rfl) rfl rfl (step_mv rfl rfl) trivial ?_
          refine dl0 (gn rfl) rfl rfl (step_mv rfl rfl) trivial ?_
          refine dl0 (gn rfl) rfl rfl (step_callc rfl Try.func9 rfl rfl rfl (rtile_c l hl hL j) (by repeat (first | exact .nil | refine .cons ?_ ?_ | exact VLe.refl _ | exact vle_int (by omega) | exact VLe.own_sl _ _ _ | exact VLe.fl_sl _ _ | exact VLe.nil_sl _ | (rw [List.map_append]; exact VLe.own_sl _ _ _)))) trivial ?_
          refine dl0 (gn rfl) rfl rfl (step_fieldAddr (off := 0) rfl (ev_mk rfl) Try.underlying25 rfl F.sz23 rfl) trivial ?_
          refine' dl0 (gn rfl) rfl rfl (step_load_one rfl (ev_mk rfl) F.one23 ?hv) ⟨?hb, trivial⟩ ?_
          case hb => repeat (first | exact upd_eq _ _ _ | refine (upd_ne _ _ _ _ (by omega)).trans ?_ | assumption | exact hd _ (by omega) | exact hd0 _ (by omega) | exact hd1 _ (by omega) | exact hd2 _ (by omega) | exact hd3 _ (by omega) | fail)
          case hv => rfl
          refine dl0 (gn rfl) rfl rfl (step_fieldAddr (off := 2) rfl (ev_mk rfl) Try.underlying25 rfl F.sz23 rfl) trivial ?_
          refine' dl0 (gn rfl) rfl rfl (step_load_one rfl (ev_mk rfl) F.one23 ?hv) ⟨?hb, trivial⟩ ?_
          case hb => repeat (first | exact upd_eq _ _ _ | refine (upd_ne _ _ _ _ (by omega)).trans ?_ | assumption | exact hd _ (by omega) | exact hd0 _ (by omega) | exact hd1 _ (by omega) | exact hd2 _ (by omega) | exact hd3 _ (by omega) | fail)
          case hv => rfl
          refine dl0 (gn rfl) rfl rfl (step_mv rfl rfl) trivial ?_
          refine dl0 (gn rfl) rfl rfl (step_rem rfl (ev_mk rfl) (ev_mk rfl) (by omega) (by omega)) trivial ?_
          refine dl0 (gn rfl) rfl rfl (step_callc rfl Try.func24 rfl rfl rfl (side_c a c ha hc (j % 8) (by omega)) (by repeat (first | exact .nil | refine .cons ?_ ?_ | exact VLe.refl _ | exact vle_int (by omega) | exact VLe.own_sl _ _ _ | exact VLe.fl_sl _ _ | exact VLe.nil_sl _ | (rw [List.map_append]; exact VLe.own_sl _ _ _)))) trivial ?_
          refine dl0 (gn rfl) rfl rfl (step_mul rfl (ev_mk rfl) (ev_mk rfl) (w64 (by omega))) trivial ?_
          refine dl0 (gn rfl) rfl rfl (step_fieldAddr (off := 1) rfl (ev_mk rfl) Try.underlying25 rfl F.sz23 rfl) trivial ?_
          refine' dl0 (gn rfl) rfl rfl (step_load_one rfl (ev_mk rfl) F.one23 ?hv) ⟨?hb, trivial⟩ ?_
          case hb => repeat (first | exact upd_eq _ _ _ | refine (upd_ne _ _ _ _ (by omega)).trans ?_ | assumption | exact hd _ (by omega) | exact hd0 _ (by omega) | exact hd1 _ (by omega) | exact hd2 _ (by omega) | exact hd3 _ (by omega) | fail)
          case hv => rfl
          refine dl0 (gn rfl) rfl rfl (step_fieldAddr (off := 3) rfl (ev_mk rfl) Try.underlying25 rfl F.sz23 rfl) trivial ?_
          refine' dl0 (gn rfl) rfl rfl (step_load_one rfl (ev_mk rfl) F.one23 ?hv) ⟨?hb, trivial⟩ ?_
          case hb => repeat (first | exact upd_eq _ _ _ | refine (upd_ne _ _ _ _ (by omega)).trans ?_ | assumption | exact hd _ (by omega) | exact hd0 _ (by omega) | exact hd1 _ (by omega) | exact hd2 _ (by omega) | exact hd3 _ (by omega) | fail)
          case hv => rfl
          refine dl0 (gn rfl) rfl rfl (step_mv rfl rfl) trivial ?_
          refine dl0 (gn rfl) rfl rfl (step_quo rfl (ev_mk rfl) (ev_mk rfl) (by omega) (by omega) (w64 (by omega))) trivial ?_
          refine dl0 (gn rfl) rfl rfl (step_callc rfl Try.func24 rfl rfl rfl (side_c b d hb hd_ (j / 8) (by omega)) (by repeat (first | exact .nil | refine .cons ?_ ?_ | exact VLe.refl _ | exact vle_int (by omega) | exact VLe.own_sl _ _ _ | exact VLe.fl_sl _ _ | exact VLe.nil_sl _ | (rw [List.map_append]; exact VLe.own_sl _ _ _)))) trivial ?_
          refine dl0 (gn rfl) rfl rfl (step_mul rfl (ev_mk rfl) (ev_mk rfl) (w64 (by omega))) trivial ?_
          refine dl0 (gn rfl) rfl rfl (step_add rfl (ev_mk rfl) (ev_mk rfl) (w64 (by omega))) trivial ?_
          refine dl0 (gn rfl) rfl rfl (step_as rfl rfl) trivial ?_
          refine dlnil ?_ ?_
          · repeat' (first | exact trivial | exact .inr (ap0 _ _ _ _) | exact .inr (ap2 _ _ _ _) | exact .inr (ap3 _ _ _ _) | exact .inr ⟨by first | (simp; done) | (simp; omega), by first | (simp; done) | (simp; omega)⟩ | exact .inl (by kernel_rfl) | refine ⟨?_, ?_⟩ | fail)
          refine runs_region ?_
          refine rl0 (gn rfl) rfl rfl (step_mv rfl rfl) trivial ?_
          refine rl0 (gn rfl) rfl rfl (step_add rfl (ev_mk rfl) (ev_mk rfl) (w64 (by omega))) trivial ?_
          refine rl0 (gn rfl) rfl rfl (step_as rfl rfl) trivial ?_
          refine runsL_nil ?_
          have hq0_ : (gsF (fun n : Nat => cT l n) a b c d j) + (((cT l j) * (sdF a c (((j % 8) : Int) * 536870912))) * (sdF b d (((j / 8) : Int) * 536870912))) = gsF (fun n : Nat => cT l n) a b c d (j + 1) := by (simp only [gsF]; rw [gTerm_sd]; rfl)
          refine ⟨_, _, ?_, sle ?_ (Nat.le_refl _), (j + 1), _, _, rfl, rfl, by omega, (fun k_ hk_ => by repeat (first | exact hf0 k_ hk_ | exact hf1 k_ hk_ | exact hf2 k_ hk_ | exact hf3 k_ hk_ | refine (upd_ne _ _ _ _ (by first | assumption | omega)).trans ?_ | fail)), by first | ((repeat (first | exact upd_eq _ _ _ | assumption | refine (upd_ne _ _ _ _ (by omega)).trans ?_ | fail)); done) | exact tl_eq (by repeat (first | exact upd_eq _ _ _ | assumption | refine (upd_ne _ _ _ _ (by omega)).trans ?_ | fail)) (by first | rfl | (simp [bytesV, beB_len]; done) | (simp [bytesV, beB_len]; omega) | omega) | (rw [← hq0_]; (repeat (first | exact upd_eq _ _ _ | assumption | refine (upd_ne _ _ _ _ (by omega)).trans ?_ | fail)); done), by omega⟩
          · omega
          · (repeat' (first | exact trivial | refine ⟨⟨_, rfl, ?_⟩, ?_⟩ | fail)); all_goals (repeat' (first | exact VLe.refl _ | exact VLe.own_sl _ _ _ | exact VLe.fl_sl _ _ | exact VLe.nil_sl _ | exact VLe.nil_fl _ | exact VLes.refl _ | exact .nil | refine VLe.tup ?_ | refine VLe.agg ?_ | refine .cons ?_ ?_ | (rw [Int.natCast_add]; exact VLe.refl _) | exact vle_int (by omega) | exact vle_bool (by first | rfl | assumption | (simp_all; done)) | (rw [← hq0_]; exact VLe.refl _) | (rw [hq0_]; exact VLe.refl _) | fail))
        · skip
          refine runsL_nil ?_
          refine runs_cond false (ev_mk rfl) (fun h_ => nomatch h_) (fun _ => ?_)
          refine runs_exit ?_
          refine runs_seq ?_
          refine runs_region ?_
          refine rl0 (gn rfl) rfl rfl (step_mv rfl rfl) trivial ?_
          refine rl0 (gn rfl) rfl rfl (step_quo rfl (ev_mk rfl) (ev_mk rfl) (by omega) (by omega) (w64 (by omega))) trivial ?_
          refine rl0 (gn rfl) rfl rfl (step_as rfl rfl) trivial ?_
          refine runsL_nil ?_
          refine runs_ret ?_
          have hem_ : (c < a ∨ d < b) ∨ ¬ (c < a ∨ d < b) := by omega
          refine ⟨by first | exact .inr rfl | exact .inl rfl, fin_mkg (rest rfl res0) ?_ ?_ ?_ ?_ ?_⟩
          · (repeat' (first | exact VLe.refl _ | exact VLe.own_sl _ _ _ | exact VLe.fl_sl _ _ | exact VLe.nil_sl _ | exact VLe.nil_fl _ | exact VLes.refl _ | exact .nil | refine VLe.tup ?_ | refine VLe.agg ?_ | refine .cons ?_ ?_ | (rw [Int.natCast_add]; exact VLe.refl _) | exact vle_int (by omega) | exact vle_bool (by first | rfl | assumption | (simp_all; done)) | (exact vle_int (by unfold guF; rw [if_pos (by unfold emF; exact decide_eq_true (by omega))])) | (((have hj_ : j = 64 := (by omega)); subst hj_; exact vle_int (by unfold guF; rw [if_neg (by unfold emF; rw [decide_eq_true_eq]; omega)]))) | fail))
          · repeat (first | exact trivial | assumption | omega | exact bd_bs | exact bd_row | exact bd_secs | exact bd_bools | (refine bdR_map (fun _ => ?_)) | (refine bdL_map (fun _ => ?_)) | refine ⟨?_, ?_⟩ | fail)
          · intro k_ hk_; exact ble (by first | exact rfl | (refine (upd_ne _ _ _ _ (by omega)).trans ?_; first | exact rfl | skip; repeat (first | exact rfl | refine (upd_ne _ _ _ _ (by omega)).trans ?_ | assumption | exact hf0 _ (by omega) | exact hf1 _ (by omega) | exact hf2 _ (by omega) | exact hf3 _ (by omega) | exact hf0 _ (by omega) (by first | assumption | omega) | exact hf1 _ (by omega) (by first | assumption | omega) | exact hf2 _ (by omega) (by first | assumption | omega) | exact hf3 _ (by omega) (by first | assumption | omega) | exact hf0 _ (by omega) (by first | assumption | omega) (by first | assumption | omega) | exact hf1 _ (by omega) (by first | assumption | omega) (by first | assumption | omega) | exact hf2 _ (by omega) (by first | assumption | omega) (by first | assumption | omega) | exact hf3 _ (by omega) (by first | assumption | omega) (by first | assumption | omega))) | exact hf0 _ (by omega) | exact hf1 _ (by omega) | exact hf2 _ (by omega) | exact hf3 _ (by omega) | exact hf0 _ (by omega) (by first | assumption | omega) | exact hf1 _ (by omega) (by first | assumption | omega) | exact hf2 _ (by omega) (by first | assumption | omega) | exact hf3 _ (by omega) (by first | assumption | omega) | exact hf0 _ (by omega) (by first | assumption | omega) (by first | assumption | omega) | exact hf1 _ (by omega) (by first | assumption | omega) (by first | assumption | omega) | exact hf2 _ (by omega) (by first | assumption | omega) (by first | assumption | omega) | exact hf3 _ (by omega) (by first | assumption | omega) (by first | assumption | omega))
          · intro p hp; cases hp
          · repeat (first | exact trivial | assumption | omega | exact bd_bs | exact bd_row | exact bd_secs | exact bd_bools | (refine bdR_map (fun _ => ?_)) | (refine bdL_map (fun _ => ?_)) | refine ⟨?_, ?_⟩ | fail)
set_option maxRecDepth 100000 in
set_option maxHeartbeats 1000000 in
theorem counts_A (l : List Pt) (hLL : (l.length : Int) ≤ 9223372036854775807) (e a b c d z : Int) (h : 100 < l.length) : Does Try.prog 3 [.sl 4 (l.map ptR), .sc (.int .u8 e), .agg (rcB a b c d), .sc (.int .i64 z)] [] [] (.sc (.bool true)) := by
  refine does_mkg 40 Try.func3 rfl rfl rfl (fun n B bx hd hpre hup hvs hbx hgx => ?_)
  refine runs_seq ?_
  refine runs_region ?_
  refine rl1 (gn rfl) rfl rfl (step_box_agg (k := n + 0) rfl rfl) ⟨by repeat (first | exact upd_eq _ _ _ | refine (upd_ne _ _ _ _ (by omega)).trans ?_ | assumption | exact hd _ (by omega) | exact hd0 _ (by omega) | exact hd1 _ (by omega) | exact hd2 _ (by omega) | exact hd3 _ (by omega) | fail), trivial⟩ (by omega) ?_
  refine rl0 (gn rfl) rfl rfl (step_as rfl rfl) trivial ?_
  refine runsL_nil ?_
  refine runs_seq ?_
  refine runs_seq ?_
  refine runs_region ?_
  refine rl0 (gn rfl) rfl rfl (step_mv rfl rfl) trivial ?_
  refine rl0 (gn rfl) rfl rfl (step_len (m := l.length) rfl rfl (ev_mk rfl) (.inl ⟨⟨_, Try.underlying22⟩, .inl ⟨_, _, .inl rfl, List.length_map _⟩⟩)) trivial ?_
  refine rl_gtr (gn rfl) rfl rfl rfl rfl rfl (fun h1 => ?_) (fun h1 => ?_)
  · skip
    refine runsL_nil ?_
    refine runs_cond true (ev_mk rfl) (fun _ => ?_) (fun h_ => nomatch h_)
    refine runs_seq ?_
    refine runs_region ?_
    refine rl0 (gn rfl) rfl rfl (step_callc rfl Try.func6 rfl rfl rfl (works_c) (by repeat (first | exact .nil | refine .cons ?_ ?_ | exact VLe.refl _ | exact VLe.own_sl _ _ _ | exact VLe.fl_sl _ _ | exact VLe.nil_sl _ | exact VLe.nil_fl _ | refine VLe.agg ?_))) trivial ?_
    refine rl0 (gn rfl) rfl rfl (step_as rfl rfl) trivial ?_
    refine runsL_nil ?_
    refine runs_ret ?_
    refine ⟨by first | exact .inr rfl | exact .inl rfl, fin_mkg (rest rfl res0) ?_ ?_ ?_ ?_ ?_⟩
    · (repeat' (first | exact VLe.refl _ | exact VLe.own_sl _ _ _ | exact VLe.fl_sl _ _ | exact VLe.nil_sl _ | exact VLe.nil_fl _ | exact VLes.refl _ | exact .nil | refine VLe.tup ?_ | refine VLe.agg ?_ | refine .cons ?_ ?_ | (rw [Int.natCast_add]; exact VLe.refl _) | exact vle_int (by omega) | exact vle_bool (by first | rfl | assumption | (simp_all; done)) | fail))
    · repeat (first | exact trivial | assumption | omega | exact bd_bs | exact bd_row | exact bd_secs | exact bd_bools | (refine bdR_map (fun _ => ?_)) | (refine bdL_map (fun _ => ?_)) | refine ⟨?_, ?_⟩ | fail)
    · intro k_ hk_; exact ble (by first | exact rfl | (refine (upd_ne _ _ _ _ (by omega)).trans ?_; first | exact rfl | skip; repeat (first | exact rfl | refine (upd_ne _ _ _ _ (by omega)).trans ?_ | assumption | exact hf0 _ (by omega) | exact hf1 _ (by omega) | exact hf2 _ (by omega) | exact hf3 _ (by omega) | exact hf0 _ (by omega) (by first | assumption | omega) | exact hf1 _ (by omega) (by first | assumption | omega) | exact hf2 _ (by omega) (by first | assumption | omega) | exact hf3 _ (by omega) (by first | assumption | omega) | exact hf0 _ (by omega) (by first | assumption | omega) (by first | assumption | omega) | exact hf1 _ (by omega) (by first | assumption | omega) (by first | assumption | omega) | exact hf2 _ (by omega) (by first | assumption | omega) (by first | assumption | omega) | exact hf3 _ (by omega) (by first | assumption | omega) (by first | assumption | omega))) | exact hf0 _ (by omega) | exact hf1 _ (by omega) | exact hf2 _ (by omega) | exact hf3 _ (by omega) | exact hf0 _ (by omega) (by first | assumption | omega) | exact hf1 _ (by omega) (by first | assumption | omega) | exact hf2 _ (by omega) (by first | assumption | omega) | exact hf3 _ (by omega) (by first | assumption | omega) | exact hf0 _ (by omega) (by first | assumption | omega) (by first | assumption | omega) | exact hf1 _ (by omega) (by first | assumption | omega) (by first | assumption | omega) | exact hf2 _ (by omega) (by first | assumption | omega) (by first | assumption | omega) | exact hf3 _ (by omega) (by first | assumption | omega) (by first | assumption | omega))
    · intro p hp; cases hp
    · repeat (first | exact trivial | assumption | omega | exact bd_bs | exact bd_row | exact bd_secs | exact bd_bools | (refine bdR_map (fun _ => ?_)) | (refine bdL_map (fun _ => ?_)) | refine ⟨?_, ?_⟩ | fail)
  · skip
    refine runsL_nil ?_
    refine runs_cond false (ev_mk rfl) (fun h_ => nomatch h_) (fun _ => ?_)
    refine runs_skip ?_
    refine runs_seq ?_
    exfalso
    omega
set_option maxRecDepth 100000 in
set_option maxHeartbeats 1000000 in
theorem counts_B (l : List Pt) (hl : ∀ p ∈ l, okPt p) (hL : l.length ≤ 100) (e : Int) (he : 0 ≤ e ∧ e < 256) (a b c d z : Int) (ha : U32 a) (hb : U32 b) (hc : U32 c) (hd_ : U32 d) : Does Try.prog 3 [.sl 4 (l.map ptR), .sc (.int .u8 e), .agg (rcB a b c d), .sc (.int .i64 z)] [] [] (.sc (.bool true)) := by
  refine does_mkg 40 Try.func3 rfl rfl rfl (fun n B bx hd hpre hup hvs hbx hgx => ?_)
  obtain ⟨K, hK⟩ : ∃ K : Nat, (K : Int) = e % ((l.length : Int) + 1) := ⟨_, Int.toNat_of_nonneg (Int.emod_nonneg _ (by omega))⟩
  have hKl : (K : Int) < (l.length : Int) + 1 := by rw [hK]; exact Int.emod_lt_of_pos _ (by omega)
  have hmd : ∀ p ∈ l.drop K, okPt p := fun p hp => hl p (List.mem_of_mem_drop hp)
  have hml : (l.drop K).length = l.length - K := List.length_drop ..
  have hbK := kP_bd hl hL K
  have hTK : ∀ i, i < 64 → tF (G (kP l K)) i = cT (l.drop K) i := fun i hi => kP_sem hl K hi
  have hde_ : deF (tF (G (kP l K))) 64 = deF (fun n : Nat => cT (l.drop K) n) 64 := deF_congr 64 hTK
  have hgu_ : guF (tF (G (kP l K))) a b c d = guF (fun n : Nat => cT (l.drop K) n) a b c d := by unfold guF; rw [gsF_congr 64 hTK]
  refine runs_seq ?_
  refine runs_region ?_
  refine rl1 (gn rfl) rfl rfl (step_box_agg (k := n + 0) rfl rfl) ⟨by repeat (first | exact upd_eq _ _ _ | refine (upd_ne _ _ _ _ (by omega)).trans ?_ | assumption | exact hd _ (by omega) | exact hd0 _ (by omega) | exact hd1 _ (by omega) | exact hd2 _ (by omega) | exact hd3 _ (by omega) | fail), trivial⟩ (by omega) ?_
  refine rl0 (gn rfl) rfl rfl (step_as rfl rfl) trivial ?_
  refine runsL_nil ?_
  refine runs_seq ?_
  refine runs_seq ?_
  refine runs_region ?_
  refine rl0 (gn rfl) rfl rfl (step_mv rfl rfl) trivial ?_
  refine rl0 (gn rfl) rfl rfl (step_len (m := l.length) rfl rfl (ev_mk rfl) (.inl ⟨⟨_, Try.underlying22⟩, .inl ⟨_, _, .inl rfl, List.length_map _⟩⟩)) trivial ?_
  refine rl_gtr (gn rfl) rfl rfl rfl rfl rfl (fun h1 => ?_) (fun h1 => ?_)
  · exact False.elim (by omega)
  refine runsL_nil ?_
  refine runs_cond false (ev_mk rfl) (fun h_ => nomatch h_) (fun _ => ?_)
  refine runs_skip ?_
  refine runs_seq ?_
  refine runs_region ?_
  refine rl0 (gn rfl) rfl rfl (step_mv rfl rfl) trivial ?_
  refine rl1 (gn rfl) rfl rfl (step_callc rfl Try.func7 rfl rfl rfl (of_c l hl (by omega) (n + 1)) (by repeat (first | exact .nil | refine .cons ?_ ?_ | exact VLe.refl _ | exact vle_int (by omega) | exact VLe.own_sl _ _ _ | exact VLe.fl_sl _ _ | exact VLe.nil_sl _ | (rw [List.map_append]; exact VLe.own_sl _ _ _)))) ⟨by repeat (first | exact upd_eq _ _ _ | refine (upd_ne _ _ _ _ (by omega)).trans ?_ | assumption | exact hd _ (by omega) | exact hd0 _ (by omega) | exact hd1 _ (by omega) | exact hd2 _ (by omega) | exact hd3 _ (by omega) | fail), trivial⟩ (by omega) ?_
  refine rl0 (gn rfl) rfl rfl (step_as rfl rfl) trivial ?_
  refine runsL_nil ?_
  refine runs_seq ?_
  refine runs_seq ?_
  refine runs_region ?_
  refine rl0 (gn rfl) rfl rfl (step_mv rfl rfl) trivial ?_
  refine rl0 (gn rfl) rfl rfl (step_eq_nil (b := false) rfl (ev_mk rfl) (ev_mk rfl) Try.underlying27 ⟨_, .inl ⟨.inl ⟨_, _, rfl⟩, rfl⟩, .inl ⟨rfl, rfl⟩⟩) trivial ?_
  refine runsL_nil ?_
  refine runs_cond false (ev_mk rfl) (fun h_ => nomatch h_) (fun _ => ?_)
  refine runs_skip ?_
  refine runs_seq ?_
  refine runs_region ?_
  refine rl0 (gn rfl) rfl rfl (step_mv rfl rfl) trivial ?_
  refine rl0 (gn rfl) rfl rfl (step_conv_id rfl rfl Try.underlying5 Try.underlying3 (w64 (by omega))) trivial ?_
  refine rl0 (gn rfl) rfl rfl (step_mv rfl rfl) trivial ?_
  refine rl0 (gn rfl) rfl rfl (step_len (m := l.length) rfl rfl (ev_mk rfl) (.inl ⟨⟨_, Try.underlying22⟩, .inl ⟨_, _, .inl rfl, List.length_map _⟩⟩)) trivial ?_
  refine rl0 (gn rfl) rfl rfl (step_add rfl (ev_mk rfl) (ev_mk rfl) (w64 (by omega))) trivial ?_
  refine rl0 (gn rfl) rfl rfl (step_rem rfl (ev_mk rfl) (ev_mk rfl) (by omega) (by omega)) trivial ?_
  refine rl0 (gn rfl) rfl rfl (step_as rfl rfl) trivial ?_
  refine runsL_nil ?_
  refine runs_seq ?_
  refine runs_seq ?_
  refine runs_region ?_
  refine rl0 (gn rfl) rfl rfl (step_as rfl rfl) trivial ?_
  refine runsL_nil ?_
  refine runs_block ?_
  refine runs_loop (fun (ri_ : Nat) (st_ : Go.Vm.S) => ∃ (i : Nat) (m0 : Nat) (b0 : Nat → Box), (st_ = ⟨mk [(0, .sl 4 (l.map ptR)), (3, .sc (.int .i64 z)), (6, .ref (n + 0) 0), (8, .sc (.bool false)), (9, .ref (n + 1) 0), (10, .sc (.int .i64 (e % (l.length + 1)))), (11, .sc (.int .i64 i))], m0, b0⟩) ∧ (ri_ = l.length - i) ∧ (n + 2 ≤ m0) ∧ (∀ k_, k_ < n → b0 k_ = bx k_) ∧ (b0 (n + 0) = .cells [.sc (.int .u32 a), .sc (.int .u32 b), .sc (.int .u32 c), .sc (.int .u32 d)]) ∧ (b0 (n + 1) = .cells (tB (G (kP l i)) ((l.length : Int) - i))) ∧ (i ≤ l.length) ∧ ((i : Int) ≤ K)) (l.length - 0) ⟨_, sle ?_ (Nat.le_refl _), 0, _, _, rfl, rfl, ?_⟩ ?_
  · (repeat' (first | exact trivial | refine ⟨⟨_, rfl, ?_⟩, ?_⟩ | fail)); all_goals (repeat' (first | exact VLe.refl _ | exact VLe.own_sl _ _ _ | exact VLe.fl_sl _ _ | exact VLe.nil_sl _ | exact VLe.nil_fl _ | exact VLes.refl _ | exact .nil | refine VLe.tup ?_ | refine VLe.agg ?_ | refine .cons ?_ ?_ | (rw [Int.natCast_add]; exact VLe.refl _) | exact vle_int (by omega) | exact vle_bool (by first | rfl | assumption | (simp_all; done)) | fail))
  · exact ⟨by omega, (fun k_ hk_ => by first | exact rfl | (refine (upd_ne _ _ _ _ (by omega)).trans ?_; first | exact rfl | skip; repeat (first | exact rfl | refine (upd_ne _ _ _ _ (by omega)).trans ?_ | assumption | exact hf0 _ (by omega) | exact hf1 _ (by omega) | exact hf2 _ (by omega) | exact hf3 _ (by omega) | exact hf0 _ (by omega) (by first | assumption | omega) | exact hf1 _ (by omega) (by first | assumption | omega) | exact hf2 _ (by omega) (by first | assumption | omega) | exact hf3 _ (by omega) (by first | assumption | omega) | exact hf0 _ (by omega) (by first | assumption | omega) (by first | assumption | omega) | exact hf1 _ (by omega) (by first | assumption | omega) (by first | assumption | omega) | exact hf2 _ (by omega) (by first | assumption | omega) (by first | assumption | omega) | exact hf3 _ (by omega) (by first | assumption | omega) (by first | assumption | omega))) | exact hf0 _ (by omega) | exact hf1 _ (by omega) | exact hf2 _ (by omega) | exact hf3 _ (by omega) | exact hf0 _ (by omega) (by first | assumption | omega) | exact hf1 _ (by omega) (by first | assumption | omega) | exact hf2 _ (by omega) (by first | assumption | omega) | exact hf3 _ (by omega) (by first | assumption | omega) | exact hf0 _ (by omega) (by first | assumption | omega) (by first | assumption | omega) | exact hf1 _ (by omega) (by first | assumption | omega) (by first | assumption | omega) | exact hf2 _ (by omega) (by first | assumption | omega) (by first | assumption | omega) | exact hf3 _ (by omega) (by first | assumption | omega) (by first | assumption | omega)), by first | ((repeat (first | exact upd_eq _ _ _ | assumption | refine (upd_ne _ _ _ _ (by omega)).trans ?_ | fail)); done) | exact tl_eq (by repeat (first | exact upd_eq _ _ _ | assumption | refine (upd_ne _ _ _ _ (by omega)).trans ?_ | fail)) (by first | rfl | (simp [bytesV, beB_len]; done) | (simp [bytesV, beB_len]; omega) | omega), by (rw [kP_0, show ((l.length : Int) - ((0 : Nat) : Int)) = l.length by omega]; repeat (first | exact upd_eq _ _ _ | assumption | refine (upd_ne _ _ _ _ (by omega)).trans ?_ | fail)), by omega, by omega⟩
  · rintro _ _ ⟨i, m0, b0, rfl, rfl, hm0, hf0, hB0_0, hB0_1, hF0_0, hF0_1⟩
    refine runs_know (fun hd0 => ?_)
    refine runs_bump 20 ?_
    simp only at hd0
    refine runs_seq ?_
    refine runs_seq ?_
    refine runs_region ?_
    refine rl0 (gn rfl) rfl rfl (step_mv rfl rfl) trivial ?_
    refine rl0 (gn rfl) rfl rfl (step_mv rfl rfl) trivial ?_
    refine rl_lss (gn rfl) rfl rfl rfl rfl rfl (fun h2 => ?_) (fun h2 => ?_)
    · skip
      have hpi := hl _ (at_mem (xs := l) (i := (i : Int)) (by omega) (by omega))
      refine runsL_nil ?_
      refine runs_cond true (ev_mk rfl) (fun _ => ?_) (fun h_ => nomatch h_)
      refine runs_skip ?_
      refine runs_seq ?_
      refine runs_block ?_
      refine runs_draw (by kernel_rfl) (by kernel_rfl) (by kernel_rfl) ?_
      refine dl0 (gn rfl) rfl rfl (step_mv rfl rfl) trivial ?_
      refine dl0 (gn rfl) rfl rfl (step_mv rfl rfl) trivial ?_
      refine dl0 (gn rfl) rfl rfl (step_mv rfl rfl) trivial ?_
      refine' dl0 (gn rfl) rfl rfl (step_index rfl (ev_mk rfl) (.inl rfl) (ev_mk rfl) Try.underlying22 F.sz32 (by omega) ?hr) trivial ?_
      case hr => exact map_at _ _ _ (by omega) (by omega)
      refine dl0 (gn rfl) rfl rfl (step_fieldAddr_ro (off := 0) rfl (ev_mk rfl) Try.underlying32 rfl F.sz23 rfl rfl) trivial ?_
      refine dl0 (gn rfl) rfl rfl (step_load_ro rfl (ev_mk rfl) F.one23 rfl) trivial ?_
      refine dl0 (gn rfl) rfl rfl (step_mv rfl rfl) trivial ?_
      refine dl0 (gn rfl) rfl rfl (step_mv rfl rfl) trivial ?_
      refine' dl0 (gn rfl) rfl rfl (step_index rfl (ev_mk rfl) (.inl rfl) (ev_mk rfl) Try.underlying22 F.sz32 (by omega) ?hr) trivial ?_
      case hr => exact map_at _ _ _ (by omega) (by omega)
      refine dl0 (gn rfl) rfl rfl (step_fieldAddr_ro (off := 1) rfl (ev_mk rfl) Try.underlying32 rfl F.sz23 rfl rfl) trivial ?_
      refine dl0 (gn rfl) rfl rfl (step_load_ro rfl (ev_mk rfl) F.one23 rfl) trivial ?_
      refine dl1 (gn rfl) rfl rfl (step_callc rfl Try.func8 rfl rfl rfl (add_c (n + 1) (G (kP l i)) ((l.length : Int) - i) (at' l (i : Int)).x (at' l (i : Int)).y (-1) hpi.1 hpi.2 (by omega) (kP_bd hl hL i) (by omega)) (by repeat (first | exact .nil | refine .cons ?_ ?_ | exact VLe.refl _ | exact vle_int (by omega) | exact VLe.own_sl _ _ _ | exact VLe.fl_sl _ _ | exact VLe.nil_sl _ | (rw [List.map_append]; exact VLe.own_sl _ _ _)))) ⟨by repeat (first | exact upd_eq _ _ _ | refine (upd_ne _ _ _ _ (by omega)).trans ?_ | assumption | exact hd _ (by omega) | exact hd0 _ (by omega) | exact hd1 _ (by omega) | exact hd2 _ (by omega) | exact hd3 _ (by omega) | fail), trivial⟩ (by omega) ?_
      refine dlnil ?_ ?_
      · repeat' (first | exact trivial | exact .inr (ap0 _ _ _ _) | exact .inr (ap2 _ _ _ _) | exact .inr (ap3 _ _ _ _) | exact .inr ⟨by first | (simp; done) | (simp; omega), by first | (simp; done) | (simp; omega)⟩ | exact .inl (by kernel_rfl) | refine ⟨?_, ?_⟩ | fail)
      refine runs_region ?_
      refine rl0 (gn rfl) rfl rfl (step_mv rfl rfl) trivial ?_
      refine rl0 (gn rfl) rfl rfl (step_add rfl (ev_mk rfl) (ev_mk rfl) (w64 (by omega))) trivial ?_
      refine rl0 (gn rfl) rfl rfl (step_as rfl rfl) trivial ?_
      refine runsL_nil ?_
      refine ⟨_, _, ?_, sle ?_ (Nat.le_refl _), (i + 1), _, _, rfl, rfl, by omega, (fun k_ hk_ => by repeat (first | exact hf0 k_ hk_ | exact hf1 k_ hk_ | exact hf2 k_ hk_ | exact hf3 k_ hk_ | refine (upd_ne _ _ _ _ (by first | assumption | omega)).trans ?_ | fail)), by first | ((repeat (first | exact upd_eq _ _ _ | assumption | refine (upd_ne _ _ _ _ (by omega)).trans ?_ | fail)); done) | exact tl_eq (by repeat (first | exact upd_eq _ _ _ | assumption | refine (upd_ne _ _ _ _ (by omega)).trans ?_ | fail)) (by first | rfl | (simp [bytesV, beB_len]; done) | (simp [bytesV, beB_len]; omega) | omega), by (rw [← kP_snoc l (by omega), show ((l.length : Int) - ((i + 1 : Nat) : Int)) = (l.length : Int) - (i : Int) + -1 by omega]; repeat (first | exact upd_eq _ _ _ | assumption | refine (upd_ne _ _ _ _ (by omega)).trans ?_ | fail)), by omega, by omega⟩
      · omega
      · (repeat' (first | exact trivial | refine ⟨⟨_, rfl, ?_⟩, ?_⟩ | fail)); all_goals (repeat' (first | exact VLe.refl _ | exact VLe.own_sl _ _ _ | exact VLe.fl_sl _ _ | exact VLe.nil_sl _ | exact VLe.nil_fl _ | exact VLes.refl _ | exact .nil | refine VLe.tup ?_ | refine VLe.agg ?_ | refine .cons ?_ ?_ | (rw [Int.natCast_add]; exact VLe.refl _) | exact vle_int (by omega) | exact vle_bool (by first | rfl | assumption | (simp_all; done)) | fail))
    · skip
      obtain rfl : K = i := by omega
      refine runsL_nil ?_
      refine runs_cond false (ev_mk rfl) (fun h_ => nomatch h_) (fun _ => ?_)
      refine runs_exit ?_
      refine runs_seq ?_
      refine runs_region ?_
      refine rl0 (gn rfl) rfl rfl (step_mv rfl rfl) trivial ?_
      refine rl0 (gn rfl) rfl rfl (step_mv rfl rfl) trivial ?_
      refine rl0 (gn rfl) rfl rfl (step_slice (ys := ((l.drop K).map ptR)) (l := K) (h := (l.map ptR).length) rfl (ev_mk rfl) (.inl rfl) Try.underlying22 F.sz32 (bndLo_nat (a := K) rfl (by first | omega | (split <;> omega) | (first | (simp; done) | (simp; omega) | omega))) bndHi_none (by simp; omega) (by first | omega | (simp; omega) | (first | (simp; done) | (simp; omega) | omega)) (by rw [List.take_length, ← List.map_drop])) trivial ?_
      refine rl0 (gn rfl) rfl rfl (step_as rfl rfl) trivial ?_
      refine runsL_nil ?_
      refine runs_seq ?_
      refine runs_region ?_
      refine rl0 (gn rfl) rfl rfl (step_as rfl rfl) trivial ?_
      refine runsL_nil ?_
      refine runs_seq ?_
      refine runs_seq ?_
      refine runs_region ?_
      refine rl0 (gn rfl) rfl rfl (step_as rfl rfl) trivial ?_
      refine runsL_nil ?_
      refine runs_block ?_
      have hs0_ : -1 = deF (fun n : Nat => cT (l.drop K) n) 0 := by rfl
      refine runs_loop (fun (ri_ : Nat) (st_ : Go.Vm.S) => ∃ (j : Nat) (m1 : Nat) (b1 : Nat → Box), (st_ = ⟨mk [(3, .sc (.int .i64 z)), (6, .ref (n + 0) 0), (8, .sc (.bool false)), (9, .ref (n + 1) 0), (12, .sl 4 ((l.drop K).map ptR)), (13, .sc (.int .i64 (deF (fun n : Nat => cT (l.drop K) n) j))), (14, .sc (.int .i64 j))], m1, b1⟩) ∧ (ri_ = 64 - j) ∧ (m0 + 0 ≤ m1) ∧ (∀ k_, k_ < n → b1 k_ = bx k_) ∧ (b1 (n + 0) = .cells [.sc (.int .u32 a), .sc (.int .u32 b), .sc (.int .u32 c), .sc (.int .u32 d)]) ∧ (b1 (n + 1) = .cells (tB (G (kP l K)) ((l.length : Int) - K))) ∧ (j ≤ 64)) (64 - 0) ⟨_, sle ?_ (Nat.le_refl _), 0, _, _, rfl, rfl, ?_⟩ ?_
      · (repeat' (first | exact trivial | refine ⟨⟨_, rfl, ?_⟩, ?_⟩ | fail)); all_goals (repeat' (first | exact VLe.refl _ | exact VLe.own_sl _ _ _ | exact VLe.fl_sl _ _ | exact VLe.nil_sl _ | exact VLe.nil_fl _ | exact VLes.refl _ | exact .nil | refine VLe.tup ?_ | refine VLe.agg ?_ | refine .cons ?_ ?_ | (rw [Int.natCast_add]; exact VLe.refl _) | exact vle_int (by omega) | exact vle_bool (by first | rfl | assumption | (simp_all; done)) | (rw [← hs0_]; exact VLe.refl _) | (rw [hs0_]; exact VLe.refl _) | fail))
      · exact ⟨by omega, (fun k_ hk_ => by first | exact rfl | (refine (upd_ne _ _ _ _ (by omega)).trans ?_; first | exact rfl | skip; repeat (first | exact rfl | refine (upd_ne _ _ _ _ (by omega)).trans ?_ | assumption | exact hf0 _ (by omega) | exact hf1 _ (by omega) | exact hf2 _ (by omega) | exact hf3 _ (by omega) | exact hf0 _ (by omega) (by first | assumption | omega) | exact hf1 _ (by omega) (by first | assumption | omega) | exact hf2 _ (by omega) (by first | assumption | omega) | exact hf3 _ (by omega) (by first | assumption | omega) | exact hf0 _ (by omega) (by first | assumption | omega) (by first | assumption | omega) | exact hf1 _ (by omega) (by first | assumption | omega) (by first | assumption | omega) | exact hf2 _ (by omega) (by first | assumption | omega) (by first | assumption | omega) | exact hf3 _ (by omega) (by first | assumption | omega) (by first | assumption | omega))) | exact hf0 _ (by omega) | exact hf1 _ (by omega) | exact hf2 _ (by omega) | exact hf3 _ (by omega) | exact hf0 _ (by omega) (by first | assumption | omega) | exact hf1 _ (by omega) (by first | assumption | omega) | exact hf2 _ (by omega) (by first | assumption | omega) | exact hf3 _ (by omega) (by first | assumption | omega) | exact hf0 _ (by omega) (by first | assumption | omega) (by first | assumption | omega) | exact hf1 _ (by omega) (by first | assumption | omega) (by first | assumption | omega) | exact hf2 _ (by omega) (by first | assumption | omega) (by first | assumption | omega) | exact hf3 _ (by omega) (by first | assumption | omega) (by first | assumption | omega)), by first | ((repeat (first | exact upd_eq _ _ _ | assumption | refine (upd_ne _ _ _ _ (by omega)).trans ?_ | fail)); done) | exact tl_eq (by repeat (first | exact upd_eq _ _ _ | assumption | refine (upd_ne _ _ _ _ (by omega)).trans ?_ | fail)) (by first | rfl | (simp [bytesV, beB_len]; done) | (simp [bytesV, beB_len]; omega) | omega) | (rw [← hs0_]; (repeat (first | exact upd_eq _ _ _ | assumption | refine (upd_ne _ _ _ _ (by omega)).trans ?_ | fail)); done), by first | ((repeat (first | exact upd_eq _ _ _ | assumption | refine (upd_ne _ _ _ _ (by omega)).trans ?_ | fail)); done) | exact tl_eq (by repeat (first | exact upd_eq _ _ _ | assumption | refine (upd_ne _ _ _ _ (by omega)).trans ?_ | fail)) (by first | rfl | (simp [bytesV, beB_len]; done) | (simp [bytesV, beB_len]; omega) | omega) | (rw [← hs0_]; (repeat (first | exact upd_eq _ _ _ | assumption | refine (upd_ne _ _ _ _ (by omega)).trans ?_ | fail)); done), by omega⟩
      · rintro _ _ ⟨j, m1, b1, rfl, rfl, hm1, hf1, hB1_0, hB1_1, hF1_0⟩
        refine runs_know (fun hd1 => ?_)
        refine runs_bump 20 ?_
        simp only at hd1
        have hdb := deF_bd (fun n : Nat => cT (l.drop K) n) j
        refine runs_seq ?_
        refine runs_seq ?_
        refine runs_region ?_
        refine rl0 (gn rfl) rfl rfl (step_mv rfl rfl) trivial ?_
        refine rl_lss (gn rfl) rfl rfl rfl rfl rfl (fun h3 => ?_) (fun h3 => ?_)
        · skip
          refine runsL_nil ?_
          refine runs_cond true (ev_mk rfl) (fun _ => ?_) (fun h_ => nomatch h_)
          refine runs_skip ?_
          refine runs_seq ?_
          refine runs_block ?_
          refine runs_seq ?_
          refine runs_region ?_
          refine rl0 (gn rfl) rfl rfl (step_mv rfl rfl) trivial ?_
          refine rl0 (gn rfl) rfl rfl (step_mv rfl rfl) trivial ?_
          refine rl0 (gn rfl) rfl rfl (step_callc rfl Try.func9 rfl rfl rfl (rtile_c (l.drop K) hmd (by omega) j) (by repeat (first | exact .nil | refine .cons ?_ ?_ | exact VLe.refl _ | exact vle_int (by omega) | exact VLe.own_sl _ _ _ | exact VLe.fl_sl _ _ | exact VLe.nil_sl _ | (rw [List.map_append]; exact VLe.own_sl _ _ _)))) trivial ?_
          refine rl0 (gn rfl) rfl rfl (step_as rfl rfl) trivial ?_
          refine runsL_nil ?_
          refine runs_seq ?_
          refine runs_seq ?_
          refine runs_region ?_
          refine rl0 (gn rfl) rfl rfl (step_mv rfl rfl) trivial ?_
          refine rl0 (gn rfl) rfl rfl (step_mv rfl rfl) trivial ?_
          refine rl0 (gn rfl) rfl rfl (step_callc rfl Try.func10 rfl rfl rfl (tile_of (n + 1) (G (kP l K)) ((l.length : Int) - K) hbK j (by omega)) (by repeat (first | exact .nil | refine .cons ?_ ?_ | exact VLe.refl _ | exact vle_int (by omega) | exact VLe.own_sl _ _ _ | exact VLe.fl_sl _ _ | exact VLe.nil_sl _ | (rw [List.map_append]; exact VLe.own_sl _ _ _)))) ⟨by repeat (first | exact upd_eq _ _ _ | refine (upd_ne _ _ _ _ (by omega)).trans ?_ | assumption | exact hd _ (by omega) | exact hd0 _ (by omega) | exact hd1 _ (by omega) | exact hd2 _ (by omega) | exact hd3 _ (by omega) | fail), trivial⟩ ?_
          refine rl0 (gn rfl) rfl rfl (step_mv rfl rfl) trivial ?_
          refine rl_neq (gn rfl) rfl rfl rfl rfl rfl (fun h4 => ?_) (fun h4 => ?_)
          · exact False.elim (by exact h4 (hTK j (by omega)))
          refine runsL_nil ?_
          refine runs_cond false (ev_mk rfl) (fun h_ => nomatch h_) (fun _ => ?_)
          refine runs_skip ?_
          refine runs_seq ?_
          refine runs_region ?_
          refine rl0 (gn rfl) rfl rfl (step_mv rfl rfl) trivial ?_
          refine rl_gtr (gn rfl) rfl rfl rfl rfl rfl (fun h5 => ?_) (fun h5 => ?_)
          · skip
            refine rl0 (gn rfl) rfl rfl (step_mv rfl rfl) trivial ?_
            refine rl0 (gy rfl rfl rfl rfl rfl rfl) rfl rfl (step_mv rfl rfl) trivial ?_
            refine rl_lss (gy rfl rfl rfl rfl rfl rfl) rfl rfl rfl rfl rfl (fun h6 => ?_) (fun h6 => ?_)
            · skip
              refine rl0 (gy rfl rfl rfl rfl rfl rfl) rfl rfl (step_mv rfl rfl) trivial ?_
              refine rlk rfl rfl rfl rfl rfl (ngb rfl rfl) rfl rfl ?_
              refine rlk rfl rfl rfl rfl rfl (ngb rfl rfl) rfl rfl ?_
              refine rlk rfl rfl rfl rfl rfl (ngb rfl rfl) rfl rfl ?_
              refine rlk rfl rfl rfl rfl rfl (ngb rfl rfl) rfl rfl ?_
              refine rlk rfl rfl rfl rfl rfl (ngb rfl rfl) rfl rfl ?_
              refine rl0 (gy rfl rfl rfl rfl rfl rfl) rfl rfl (step_pick rfl (ev_mk rfl) (ev_mk rfl)) trivial ?_
              refine rl0 (gn rfl) rfl rfl (step_pick rfl (ev_mk rfl) (ev_mk rfl)) trivial ?_
              refine runsL_nil ?_
              refine runs_cond true (ev_mk rfl) (fun _ => ?_) (fun h_ => nomatch h_)
              refine runs_region ?_
              refine rl0 (gn rfl) rfl rfl (step_mv rfl rfl) trivial ?_
              refine rl0 (gn rfl) rfl rfl (step_as rfl rfl) trivial ?_
              refine runsL_nil ?_
              refine runs_region ?_
              refine rl0 (gn rfl) rfl rfl (step_mv rfl rfl) trivial ?_
              refine rl0 (gn rfl) rfl rfl (step_add rfl (ev_mk rfl) (ev_mk rfl) (w64 (by omega))) trivial ?_
              refine rl0 (gn rfl) rfl rfl (step_as rfl rfl) trivial ?_
              refine runsL_nil ?_
              have hq0_ : j = deF (fun n : Nat => cT (l.drop K) n) (j + 1) := by (simp only [deF]; first | rw [if_pos (by omega)] | rw [if_neg (by omega)])
              refine ⟨_, _, ?_, sle ?_ (Nat.le_refl _), (j + 1), _, _, rfl, rfl, by omega, (fun k_ hk_ => by repeat (first | exact hf1 k_ hk_ | exact hf0 k_ hk_ | exact hf2 k_ hk_ | exact hf3 k_ hk_ | refine (upd_ne _ _ _ _ (by first | assumption | omega)).trans ?_ | fail)), by first | ((repeat (first | exact upd_eq _ _ _ | assumption | refine (upd_ne _ _ _ _ (by omega)).trans ?_ | fail)); done) | exact tl_eq (by repeat (first | exact upd_eq _ _ _ | assumption | refine (upd_ne _ _ _ _ (by omega)).trans ?_ | fail)) (by first | rfl | (simp [bytesV, beB_len]; done) | (simp [bytesV, beB_len]; omega) | omega) | (rw [← hq0_]; (repeat (first | exact upd_eq _ _ _ | assumption | refine (upd_ne _ _ _ _ (by omega)).trans ?_ | fail)); done), by first | ((repeat (first | exact upd_eq _ _ _ | assumption | refine (upd_ne _ _ _ _ (by omega)).trans ?_ | fail)); done) | exact tl_eq (by repeat (first | exact upd_eq _ _ _ | assumption | refine (upd_ne _ _ _ _ (by omega)).trans ?_ | fail)) (by first | rfl | (simp [bytesV, beB_len]; done) | (simp [bytesV, beB_len]; omega) | omega) | (rw [← hq0_]; (repeat (first | exact upd_eq _ _ _ | assumption | refine (upd_ne _ _ _ _ (by omega)).trans ?_ | fail)); done), by omega⟩
              · omega
              · (repeat' (first | exact trivial | refine ⟨⟨_, rfl, ?_⟩, ?_⟩ | fail)); all_goals (repeat' (first | exact VLe.refl _ | exact VLe.own_sl _ _ _ | exact VLe.fl_sl _ _ | exact VLe.nil_sl _ | exact VLe.nil_fl _ | exact VLes.refl _ | exact .nil | refine VLe.tup ?_ | refine VLe.agg ?_ | refine .cons ?_ ?_ | (rw [Int.natCast_add]; exact VLe.refl _) | exact vle_int (by omega) | exact vle_bool (by first | rfl | assumption | (simp_all; done)) | (rw [← hq0_]; exact VLe.refl _) | (rw [hq0_]; exact VLe.refl _) | fail))
            · skip
              have hbt : cT (l.drop K) (deF (fun n : Nat => cT (l.drop K) n) j) = cT (l.drop K) (((deF (fun n : Nat => cT (l.drop K) n) j).toNat : Nat) : Int) := by rw [Int.toNat_of_nonneg (by omega)]
              refine rl0 (gy rfl rfl rfl rfl rfl rfl) rfl rfl (step_mv rfl rfl) trivial ?_
              refine rl0 (gy rfl rfl rfl rfl rfl rfl) rfl rfl (step_mv rfl rfl) trivial ?_
              refine rl0 (gy rfl rfl rfl rfl rfl rfl) rfl rfl (step_mv rfl rfl) trivial ?_
              refine rl0 (gy rfl rfl rfl rfl rfl rfl) rfl rfl (step_mv rfl rfl) trivial ?_
              refine rl0 (gy rfl rfl rfl rfl rfl rfl) rfl rfl (step_callc rfl Try.func9 rfl rfl rfl (rtile_c (l.drop K) hmd (by omega) (deF (fun n : Nat => cT (l.drop K) n) j)) (by repeat (first | exact .nil | refine .cons ?_ ?_ | exact VLe.refl _ | exact vle_int (by omega) | exact VLe.own_sl _ _ _ | exact VLe.fl_sl _ _ | exact VLe.nil_sl _ | (rw [List.map_append]; exact VLe.own_sl _ _ _)))) trivial ?_
              refine rl_gtr (gy rfl rfl rfl rfl rfl rfl) rfl rfl rfl rfl rfl (fun h7 => ?_) (fun h7 => ?_)
              · skip
                refine rl0 (gy rfl rfl rfl rfl rfl rfl) rfl rfl (step_pick rfl (ev_mk rfl) (ev_mk rfl)) trivial ?_
                refine rl0 (gn rfl) rfl rfl (step_pick rfl (ev_mk rfl) (ev_mk rfl)) trivial ?_
                refine runsL_nil ?_
                refine runs_cond true (ev_mk rfl) (fun _ => ?_) (fun h_ => nomatch h_)
                refine runs_region ?_
                refine rl0 (gn rfl) rfl rfl (step_mv rfl rfl) trivial ?_
                refine rl0 (gn rfl) rfl rfl (step_as rfl rfl) trivial ?_
                refine runsL_nil ?_
                refine runs_region ?_
                refine rl0 (gn rfl) rfl rfl (step_mv rfl rfl) trivial ?_
                refine rl0 (gn rfl) rfl rfl (step_add rfl (ev_mk rfl) (ev_mk rfl) (w64 (by omega))) trivial ?_
                refine rl0 (gn rfl) rfl rfl (step_as rfl rfl) trivial ?_
                refine runsL_nil ?_
                have hq0_ : j = deF (fun n : Nat => cT (l.drop K) n) (j + 1) := by (simp only [deF]; first | rw [if_pos (by omega)] | rw [if_neg (by omega)])
                refine ⟨_, _, ?_, sle ?_ (Nat.le_refl _), (j + 1), _, _, rfl, rfl, by omega, (fun k_ hk_ => by repeat (first | exact hf1 k_ hk_ | exact hf0 k_ hk_ | exact hf2 k_ hk_ | exact hf3 k_ hk_ | refine (upd_ne _ _ _ _ (by first | assumption | omega)).trans ?_ | fail)), by first | ((repeat (first | exact upd_eq _ _ _ | assumption | refine (upd_ne _ _ _ _ (by omega)).trans ?_ | fail)); done) | exact tl_eq (by repeat (first | exact upd_eq _ _ _ | assumption | refine (upd_ne _ _ _ _ (by omega)).trans ?_ | fail)) (by first | rfl | (simp [bytesV, beB_len]; done) | (simp [bytesV, beB_len]; omega) | omega) | (rw [← hq0_]; (repeat (first | exact upd_eq _ _ _ | assumption | refine (upd_ne _ _ _ _ (by omega)).trans ?_ | fail)); done), by first | ((repeat (first | exact upd_eq _ _ _ | assumption | refine (upd_ne _ _ _ _ (by omega)).trans ?_ | fail)); done) | exact tl_eq (by repeat (first | exact upd_eq _ _ _ | assumption | refine (upd_ne _ _ _ _ (by omega)).trans ?_ | fail)) (by first | rfl | (simp [bytesV, beB_len]; done) | (simp [bytesV, beB_len]; omega) | omega) | (rw [← hq0_]; (repeat (first | exact upd_eq _ _ _ | assumption | refine (upd_ne _ _ _ _ (by omega)).trans ?_ | fail)); done), by omega⟩
                · omega
                · (repeat' (first | exact trivial | refine ⟨⟨_, rfl, ?_⟩, ?_⟩ | fail)); all_goals (repeat' (first | exact VLe.refl _ | exact VLe.own_sl _ _ _ | exact VLe.fl_sl _ _ | exact VLe.nil_sl _ | exact VLe.nil_fl _ | exact VLes.refl _ | exact .nil | refine VLe.tup ?_ | refine VLe.agg ?_ | refine .cons ?_ ?_ | (rw [Int.natCast_add]; exact VLe.refl _) | exact vle_int (by omega) | exact vle_bool (by first | rfl | assumption | (simp_all; done)) | (rw [← hq0_]; exact VLe.refl _) | (rw [hq0_]; exact VLe.refl _) | fail))
              · skip
                refine rl0 (gy rfl rfl rfl rfl rfl rfl) rfl rfl (step_pick rfl (ev_mk rfl) (ev_mk rfl)) trivial ?_
                refine rl0 (gn rfl) rfl rfl (step_pick rfl (ev_mk rfl) (ev_mk rfl)) trivial ?_
                refine runsL_nil ?_
                refine runs_cond false (ev_mk rfl) (fun h_ => nomatch h_) (fun _ => ?_)
                refine runs_skip ?_
                refine runs_region ?_
                refine rl0 (gn rfl) rfl rfl (step_mv rfl rfl) trivial ?_
                refine rl0 (gn rfl) rfl rfl (step_add rfl (ev_mk rfl) (ev_mk rfl) (w64 (by omega))) trivial ?_
                refine rl0 (gn rfl) rfl rfl (step_as rfl rfl) trivial ?_
                refine runsL_nil ?_
                have hq0_ : deF (fun n : Nat => cT (l.drop K) n) j = deF (fun n : Nat => cT (l.drop K) n) (j + 1) := by (simp only [deF]; first | rw [if_pos (by omega)] | rw [if_neg (by omega)])
                refine ⟨_, _, ?_, sle ?_ (Nat.le_refl _), (j + 1), _, _, rfl, rfl, by omega, (fun k_ hk_ => by repeat (first | exact hf1 k_ hk_ | exact hf0 k_ hk_ | exact hf2 k_ hk_ | exact hf3 k_ hk_ | refine (upd_ne _ _ _ _ (by first | assumption | omega)).trans ?_ | fail)), by first | ((repeat (first | exact upd_eq _ _ _ | assumption | refine (upd_ne _ _ _ _ (by omega)).trans ?_ | fail)); done) | exact tl_eq (by repeat (first | exact upd_eq _ _ _ | assumption | refine (upd_ne _ _ _ _ (by omega)).trans ?_ | fail)) (by first | rfl | (simp [bytesV, beB_len]; done) | (simp [bytesV, beB_len]; omega) | omega) | (rw [← hq0_]; (repeat (first | exact upd_eq _ _ _ | assumption | refine (upd_ne _ _ _ _ (by omega)).trans ?_ | fail)); done), by first | ((repeat (first | exact upd_eq _ _ _ | assumption | refine (upd_ne _ _ _ _ (by omega)).trans ?_ | fail)); done) | exact tl_eq (by repeat (first | exact upd_eq _ _ _ | assumption | refine (upd_ne _ _ _ _ (by omega)).trans ?_ | fail)) (by first | rfl | (simp [bytesV, beB_len]; done) | (simp [bytesV, beB_len]; omega) | omega) | (rw [← hq0_]; (repeat (first | exact upd_eq _ _ _ | assumption | refine (upd_ne _ _ _ _ (by omega)).trans ?_ | fail)); done), by omega⟩
                · omega
                · (repeat' (first | exact trivial | refine ⟨⟨_, rfl, ?_⟩, ?_⟩ | fail)); all_goals (repeat' (first | exact VLe.refl _ | exact VLe.own_sl _ _ _ | exact VLe.fl_sl _ _ | exact VLe.nil_sl _ | exact VLe.nil_fl _ | exact VLes.refl _ | exact .nil | refine VLe.tup ?_ | refine VLe.agg ?_ | refine .cons ?_ ?_ | (rw [Int.natCast_add]; exact VLe.refl _) | exact vle_int (by omega) | exact vle_bool (by first | rfl | assumption | (simp_all; done)) | (rw [← hq0_]; exact VLe.refl _) | (rw [hq0_]; exact VLe.refl _) | fail))
          · skip
            refine rl0 (gn rfl) rfl rfl (step_mv rfl rfl) trivial ?_
            refine rlk rfl rfl rfl rfl rfl (ngb rfl rfl) rfl rfl ?_
            refine rlk rfl rfl rfl rfl rfl (ngb rfl rfl) rfl rfl ?_
            refine rlk rfl rfl rfl rfl rfl (ngb rfl rfl) rfl rfl ?_
            refine rlk rfl rfl rfl rfl rfl (ngu rfl) rfl rfl ?_
            refine rlk rfl rfl rfl rfl rfl (ngu rfl) rfl rfl ?_
            refine rlk rfl rfl rfl rfl rfl (ngu rfl) rfl rfl ?_
            refine rlk rfl rfl rfl rfl rfl (ngu rfl) rfl rfl ?_
            refine rlk rfl rfl rfl rfl rfl (ngu rfl) rfl rfl ?_
            refine rlk rfl rfl rfl rfl rfl (ngb rfl rfl) rfl rfl ?_
            refine rl0 (gn rfl) rfl rfl (step_pick rfl (ev_mk rfl) (ev_mk rfl)) trivial ?_
            refine runsL_nil ?_
            refine runs_cond false (ev_mk rfl) (fun h_ => nomatch h_) (fun _ => ?_)
            refine runs_skip ?_
            refine runs_region ?_
            refine rl0 (gn rfl) rfl rfl (step_mv rfl rfl) trivial ?_
            refine rl0 (gn rfl) rfl rfl (step_add rfl (ev_mk rfl) (ev_mk rfl) (w64 (by omega))) trivial ?_
            refine rl0 (gn rfl) rfl rfl (step_as rfl rfl) trivial ?_
            refine runsL_nil ?_
            have hq0_ : deF (fun n : Nat => cT (l.drop K) n) j = deF (fun n : Nat => cT (l.drop K) n) (j + 1) := by (simp only [deF]; first | rw [if_pos (by omega)] | rw [if_neg (by omega)])
            refine ⟨_, _, ?_, sle ?_ (Nat.le_refl _), (j + 1), _, _, rfl, rfl, by omega, (fun k_ hk_ => by repeat (first | exact hf1 k_ hk_ | exact hf0 k_ hk_ | exact hf2 k_ hk_ | exact hf3 k_ hk_ | refine (upd_ne _ _ _ _ (by first | assumption | omega)).trans ?_ | fail)), by first | ((repeat (first | exact upd_eq _ _ _ | assumption | refine (upd_ne _ _ _ _ (by omega)).trans ?_ | fail)); done) | exact tl_eq (by repeat (first | exact upd_eq _ _ _ | assumption | refine (upd_ne _ _ _ _ (by omega)).trans ?_ | fail)) (by first | rfl | (simp [bytesV, beB_len]; done) | (simp [bytesV, beB_len]; omega) | omega) | (rw [← hq0_]; (repeat (first | exact upd_eq _ _ _ | assumption | refine (upd_ne _ _ _ _ (by omega)).trans ?_ | fail)); done), by first | ((repeat (first | exact upd_eq _ _ _ | assumption | refine (upd_ne _ _ _ _ (by omega)).trans ?_ | fail)); done) | exact tl_eq (by repeat (first | exact upd_eq _ _ _ | assumption | refine (upd_ne _ _ _ _ (by omega)).trans ?_ | fail)) (by first | rfl | (simp [bytesV, beB_len]; done) | (simp [bytesV, beB_len]; omega) | omega) | (rw [← hq0_]; (repeat (first | exact upd_eq _ _ _ | assumption | refine (upd_ne _ _ _ _ (by omega)).trans ?_ | fail)); done), by omega⟩
            · omega
            · (repeat' (first | exact trivial | refine ⟨⟨_, rfl, ?_⟩, ?_⟩ | fail)); all_goals (repeat' (first | exact VLe.refl _ | exact VLe.own_sl _ _ _ | exact VLe.fl_sl _ _ | exact VLe.nil_sl _ | exact VLe.nil_fl _ | exact VLes.refl _ | exact .nil | refine VLe.tup ?_ | refine VLe.agg ?_ | refine .cons ?_ ?_ | (rw [Int.natCast_add]; exact VLe.refl _) | exact vle_int (by omega) | exact vle_bool (by first | rfl | assumption | (simp_all; done)) | (rw [← hq0_]; exact VLe.refl _) | (rw [hq0_]; exact VLe.refl _) | fail))
        · skip
          obtain rfl : j = 64 := by omega
          refine runsL_nil ?_
          refine runs_cond false (ev_mk rfl) (fun h_ => nomatch h_) (fun _ => ?_)
          refine runs_exit ?_
          refine runs_seq ?_
          refine runs_draw (by kernel_rfl) (by kernel_rfl) (by kernel_rfl) ?_
          refine dl0 (gn rfl) rfl rfl (step_mv rfl rfl) trivial ?_
          refine dl0 (gn rfl) rfl rfl (step_callc rfl Try.func11 rfl rfl rfl (len_c (n + 1) (G (kP l K)) ((l.length : Int) - K)) (by repeat (first | exact .nil | refine .cons ?_ ?_ | exact VLe.refl _ | exact vle_int (by omega) | exact VLe.own_sl _ _ _ | exact VLe.fl_sl _ _ | exact VLe.nil_sl _ | (rw [List.map_append]; exact VLe.own_sl _ _ _)))) ⟨by repeat (first | exact upd_eq _ _ _ | refine (upd_ne _ _ _ _ (by omega)).trans ?_ | assumption | exact hd _ (by omega) | exact hd0 _ (by omega) | exact hd1 _ (by omega) | exact hd2 _ (by omega) | exact hd3 _ (by omega) | fail), trivial⟩ ?_
          refine dl0 (gn rfl) rfl rfl (step_mv rfl rfl) trivial ?_
          refine dl0 (gn rfl) rfl rfl (step_len (m := (l.drop K).length) rfl rfl (ev_mk rfl) (.inl ⟨⟨_, Try.underlying22⟩, .inl ⟨_, _, .inl rfl, by simp⟩⟩)) trivial ?_
          refine dl_eql (gn rfl) rfl rfl rfl rfl rfl (fun h4 => ?_) (fun h4 => ?_)
          rotate_left
          · exact False.elim (by omega)
          refine dl0 (gn rfl) rfl rfl (step_mv rfl rfl) trivial ?_
          refine dl0 (gy rfl rfl rfl rfl rfl rfl) rfl rfl (step_mv rfl rfl) trivial ?_
          refine dl0 (gy rfl rfl rfl rfl rfl rfl) rfl rfl (step_callc rfl Try.func12 rfl rfl rfl (dens_c (n + 1) (G (kP l K)) ((l.length : Int) - K) hbK) (by repeat (first | exact .nil | refine .cons ?_ ?_ | exact VLe.refl _ | exact vle_int (by omega) | exact VLe.own_sl _ _ _ | exact VLe.fl_sl _ _ | exact VLe.nil_sl _ | (rw [List.map_append]; exact VLe.own_sl _ _ _)))) ⟨by repeat (first | exact upd_eq _ _ _ | refine (upd_ne _ _ _ _ (by omega)).trans ?_ | assumption | exact hd _ (by omega) | exact hd0 _ (by omega) | exact hd1 _ (by omega) | exact hd2 _ (by omega) | exact hd3 _ (by omega) | fail), trivial⟩ ?_
          refine dl0 (gy rfl rfl rfl rfl rfl rfl) rfl rfl (step_mv rfl rfl) trivial ?_
          refine dl_eql (gy rfl rfl rfl rfl rfl rfl) rfl rfl rfl rfl rfl (fun h5 => ?_) (fun h5 => ?_)
          rotate_left
          · exact False.elim (by exact h5 hde_)
          refine dl0 (gn rfl) rfl rfl (step_pick rfl (ev_mk rfl) (ev_mk rfl)) trivial ?_
          refine dl0 (gn rfl) rfl rfl (step_mv rfl rfl) trivial ?_
          refine dl0 (gy rfl rfl rfl rfl rfl rfl) rfl rfl (step_mv rfl rfl) trivial ?_
          refine' dl0 (gy rfl rfl rfl rfl rfl rfl) rfl rfl (step_load_all rfl rfl F.agg25 ?hl) ⟨?hb, trivial⟩ ?_
          case hb => repeat (first | exact upd_eq _ _ _ | refine (upd_ne _ _ _ _ (by omega)).trans ?_ | assumption | exact hd _ (by omega) | exact hd0 _ (by omega) | exact hd1 _ (by omega) | exact hd2 _ (by omega) | exact hd3 _ (by omega) | fail)
          case hl => first | rfl | (simp; done) | (first | (simp; done) | (simp; omega) | omega)
          refine dl0 (gy rfl rfl rfl rfl rfl rfl) rfl rfl (step_callc rfl Try.func13 rfl rfl rfl (guess_c (n + 1) (G (kP l K)) ((l.length : Int) - K) hbK a b c d ha hb hc hd_ (fun i hi => by rw [hTK i hi]; exact (cT_bd _ _).1)) (by repeat (first | exact .nil | refine .cons ?_ ?_ | exact VLe.refl _ | exact vle_int (by omega) | exact VLe.own_sl _ _ _ | exact VLe.fl_sl _ _ | exact VLe.nil_sl _ | (rw [List.map_append]; exact VLe.own_sl _ _ _)))) ⟨by repeat (first | exact upd_eq _ _ _ | refine (upd_ne _ _ _ _ (by omega)).trans ?_ | assumption | exact hd _ (by omega) | exact hd0 _ (by omega) | exact hd1 _ (by omega) | exact hd2 _ (by omega) | exact hd3 _ (by omega) | fail), trivial⟩ ?_
          refine dl0 (gy rfl rfl rfl rfl rfl rfl) rfl rfl (step_mv rfl rfl) trivial ?_
          refine' dl0 (gy rfl rfl rfl rfl rfl rfl) rfl rfl (step_load_all rfl rfl F.agg25 ?hl) ⟨?hb, trivial⟩ ?_
          case hb => repeat (first | exact upd_eq _ _ _ | refine (upd_ne _ _ _ _ (by omega)).trans ?_ | assumption | exact hd _ (by omega) | exact hd0 _ (by omega) | exact hd1 _ (by omega) | exact hd2 _ (by omega) | exact hd3 _ (by omega) | fail)
          case hl => first | rfl | (simp; done) | (first | (simp; done) | (simp; omega) | omega)
          refine dl0 (gy rfl rfl rfl rfl rfl rfl) rfl rfl (step_callc rfl Try.func14 rfl rfl rfl (rguess_c (l.drop K) hmd (by omega) a b c d ha hb hc hd_) (by repeat (first | exact .nil | refine .cons ?_ ?_ | exact VLe.refl _ | exact vle_int (by omega) | exact VLe.own_sl _ _ _ | exact VLe.fl_sl _ _ | exact VLe.nil_sl _ | (rw [List.map_append]; exact VLe.own_sl _ _ _)))) trivial ?_
          refine dl_eql (gy rfl rfl rfl rfl rfl rfl) rfl rfl rfl rfl rfl (fun h6 => ?_) (fun h6 => ?_)
          rotate_left
          · exact False.elim (by exact h6 hgu_)
          refine dl0 (gn rfl) rfl rfl (step_pick rfl (ev_mk rfl) (ev_mk rfl)) trivial ?_
          refine dl0 (gn rfl) rfl rfl (step_mv rfl rfl) trivial ?_
          refine dl0 (gy rfl rfl rfl rfl rfl rfl) rfl rfl (step_mv rfl rfl) trivial ?_
          refine dl_geq (gy rfl rfl rfl rfl rfl rfl) rfl rfl rfl rfl rfl (fun h7 => ?_) (fun h7 => ?_)
          · skip
            refine dl0 (gy rfl rfl rfl rfl rfl rfl) rfl rfl (step_mv rfl rfl) trivial ?_
            refine dl0 (gy rfl rfl rfl rfl rfl rfl) rfl rfl (step_mv rfl rfl) trivial ?_
            refine dl_lss (gy rfl rfl rfl rfl rfl rfl) rfl rfl rfl rfl rfl (fun h8 => ?_) (fun h8 => ?_)
            · skip
              refine dl0 (gy rfl rfl rfl rfl rfl rfl) rfl rfl (step_pick rfl (ev_mk rfl) (ev_mk rfl)) trivial ?_
              refine dl0 (gy rfl rfl rfl rfl rfl rfl) rfl rfl (step_mv rfl rfl) trivial ?_
              refine dlk rfl rfl rfl rfl rfl (ngb rfl rfl) rfl rfl ?_
              refine dlk rfl rfl rfl rfl rfl (ngb rfl rfl) rfl rfl ?_
              refine dlk rfl rfl rfl rfl rfl (ngb rfl rfl) rfl rfl ?_
              refine dlk rfl rfl rfl rfl rfl (ngb rfl rfl) rfl rfl ?_
              refine dl0 (gy rfl rfl rfl rfl rfl rfl) rfl rfl (step_pick rfl (ev_mk rfl) (ev_mk rfl)) trivial ?_
              refine dl0 (gn rfl) rfl rfl (step_pick rfl (ev_mk rfl) (ev_mk rfl)) trivial ?_
              refine dl0 (gn rfl) rfl rfl (step_mv rfl rfl) trivial ?_
              refine dl0 (gy rfl rfl rfl rfl rfl rfl) rfl rfl (step_callc rfl Try.func6 rfl rfl rfl (works_c) (by repeat (first | exact .nil | refine .cons ?_ ?_ | exact VLe.refl _ | exact vle_int (by omega) | exact VLe.own_sl _ _ _ | exact VLe.fl_sl _ _ | exact VLe.nil_sl _ | (rw [List.map_append]; exact VLe.own_sl _ _ _)))) trivial ?_
              refine dl0 (gn rfl) rfl rfl (step_pick rfl (ev_mk rfl) (ev_mk rfl)) trivial ?_
              refine dl0 (gn rfl) rfl rfl (step_as rfl rfl) trivial ?_
              refine dlnil ?_ ?_
              · repeat' (first | exact trivial | exact .inr (ap0 _ _ _ _) | exact .inr (ap2 _ _ _ _) | exact .inr (ap3 _ _ _ _) | exact .inr ⟨by first | (simp; done) | (simp; omega), by first | (simp; done) | (simp; omega)⟩ | exact .inl (by kernel_rfl) | refine ⟨?_, ?_⟩ | fail)
              refine runs_ret ?_
              refine ⟨by first | exact .inr rfl | exact .inl rfl, fin_mkg (rest rfl res0) ?_ ?_ ?_ ?_ ?_⟩
              · (repeat' (first | exact VLe.refl _ | exact VLe.own_sl _ _ _ | exact VLe.fl_sl _ _ | exact VLe.nil_sl _ | exact VLe.nil_fl _ | exact VLes.refl _ | exact .nil | refine VLe.tup ?_ | refine VLe.agg ?_ | refine .cons ?_ ?_ | (rw [Int.natCast_add]; exact VLe.refl _) | exact vle_int (by omega) | exact vle_bool (by first | rfl | assumption | (simp_all; done)) | fail))
              · repeat (first | exact trivial | assumption | omega | exact bd_bs | exact bd_row | exact bd_secs | exact bd_bools | (refine bdR_map (fun _ => ?_)) | (refine bdL_map (fun _ => ?_)) | refine ⟨?_, ?_⟩ | fail)
              · intro k_ hk_; exact ble (by first | exact rfl | (refine (upd_ne _ _ _ _ (by omega)).trans ?_; first | exact rfl | skip; repeat (first | exact rfl | refine (upd_ne _ _ _ _ (by omega)).trans ?_ | assumption | exact hf0 _ (by omega) | exact hf1 _ (by omega) | exact hf2 _ (by omega) | exact hf3 _ (by omega) | exact hf0 _ (by omega) (by first | assumption | omega) | exact hf1 _ (by omega) (by first | assumption | omega) | exact hf2 _ (by omega) (by first | assumption | omega) | exact hf3 _ (by omega) (by first | assumption | omega) | exact hf0 _ (by omega) (by first | assumption | omega) (by first | assumption | omega) | exact hf1 _ (by omega) (by first | assumption | omega) (by first | assumption | omega) | exact hf2 _ (by omega) (by first | assumption | omega) (by first | assumption | omega) | exact hf3 _ (by omega) (by first | assumption | omega) (by first | assumption | omega))) | exact hf0 _ (by omega) | exact hf1 _ (by omega) | exact hf2 _ (by omega) | exact hf3 _ (by omega) | exact hf0 _ (by omega) (by first | assumption | omega) | exact hf1 _ (by omega) (by first | assumption | omega) | exact hf2 _ (by omega) (by first | assumption | omega) | exact hf3 _ (by omega) (by first | assumption | omega) | exact hf0 _ (by omega) (by first | assumption | omega) (by first | assumption | omega) | exact hf1 _ (by omega) (by first | assumption | omega) (by first | assumption | omega) | exact hf2 _ (by omega) (by first | assumption | omega) (by first | assumption | omega) | exact hf3 _ (by omega) (by first | assumption | omega) (by first | assumption | omega))
              · intro p hp; cases hp
              · repeat (first | exact trivial | assumption | omega | exact bd_bs | exact bd_row | exact bd_secs | exact bd_bools | (refine bdR_map (fun _ => ?_)) | (refine bdL_map (fun _ => ?_)) | refine ⟨?_, ?_⟩ | fail)
            · skip
              refine dl0 (gy rfl rfl rfl rfl rfl rfl) rfl rfl (step_pick rfl (ev_mk rfl) (ev_mk rfl)) trivial ?_
              refine dl0 (gy rfl rfl rfl rfl rfl rfl) rfl rfl (step_mv rfl rfl) trivial ?_
              refine dl0 (gy rfl rfl rfl rfl rfl rfl) rfl rfl (step_mv rfl rfl) trivial ?_
              refine dl0 (gy rfl rfl rfl rfl rfl rfl) rfl rfl (step_mv rfl rfl) trivial ?_
              refine dl0 (gy rfl rfl rfl rfl rfl rfl) rfl rfl (step_callc rfl Try.func10 rfl rfl rfl (tile_no (n + 1) (G (kP l K)) ((l.length : Int) - K) z (by omega)) (by repeat (first | exact .nil | refine .cons ?_ ?_ | exact VLe.refl _ | exact vle_int (by omega) | exact VLe.own_sl _ _ _ | exact VLe.fl_sl _ _ | exact VLe.nil_sl _ | (rw [List.map_append]; exact VLe.own_sl _ _ _)))) ⟨by repeat (first | exact upd_eq _ _ _ | refine (upd_ne _ _ _ _ (by omega)).trans ?_ | assumption | exact hd _ (by omega) | exact hd0 _ (by omega) | exact hd1 _ (by omega) | exact hd2 _ (by omega) | exact hd3 _ (by omega) | fail), trivial⟩ ?_
              refine dl_eql (gy rfl rfl rfl rfl rfl rfl) rfl rfl rfl rfl rfl (fun h9 => ?_) (fun h9 => ?_)
              rotate_left
              · exact False.elim (by omega)
              refine dl0 (gy rfl rfl rfl rfl rfl rfl) rfl rfl (step_pick rfl (ev_mk rfl) (ev_mk rfl)) trivial ?_
              refine dl0 (gn rfl) rfl rfl (step_pick rfl (ev_mk rfl) (ev_mk rfl)) trivial ?_
              refine dl0 (gn rfl) rfl rfl (step_mv rfl rfl) trivial ?_
              refine dl0 (gy rfl rfl rfl rfl rfl rfl) rfl rfl (step_callc rfl Try.func6 rfl rfl rfl (works_c) (by repeat (first | exact .nil | refine .cons ?_ ?_ | exact VLe.refl _ | exact vle_int (by omega) | exact VLe.own_sl _ _ _ | exact VLe.fl_sl _ _ | exact VLe.nil_sl _ | (rw [List.map_append]; exact VLe.own_sl _ _ _)))) trivial ?_
              refine dl0 (gn rfl) rfl rfl (step_pick rfl (ev_mk rfl) (ev_mk rfl)) trivial ?_
              refine dl0 (gn rfl) rfl rfl (step_as rfl rfl) trivial ?_
              refine dlnil ?_ ?_
              · repeat' (first | exact trivial | exact .inr (ap0 _ _ _ _) | exact .inr (ap2 _ _ _ _) | exact .inr (ap3 _ _ _ _) | exact .inr ⟨by first | (simp; done) | (simp; omega), by first | (simp; done) | (simp; omega)⟩ | exact .inl (by kernel_rfl) | refine ⟨?_, ?_⟩ | fail)
              refine runs_ret ?_
              refine ⟨by first | exact .inr rfl | exact .inl rfl, fin_mkg (rest rfl res0) ?_ ?_ ?_ ?_ ?_⟩
              · (repeat' (first | exact VLe.refl _ | exact VLe.own_sl _ _ _ | exact VLe.fl_sl _ _ | exact VLe.nil_sl _ | exact VLe.nil_fl _ | exact VLes.refl _ | exact .nil | refine VLe.tup ?_ | refine VLe.agg ?_ | refine .cons ?_ ?_ | (rw [Int.natCast_add]; exact VLe.refl _) | exact vle_int (by omega) | exact vle_bool (by first | rfl | assumption | (simp_all; done)) | fail))
              · repeat (first | exact trivial | assumption | omega | exact bd_bs | exact bd_row | exact bd_secs | exact bd_bools | (refine bdR_map (fun _ => ?_)) | (refine bdL_map (fun _ => ?_)) | refine ⟨?_, ?_⟩ | fail)
              · intro k_ hk_; exact ble (by first | exact rfl | (refine (upd_ne _ _ _ _ (by omega)).trans ?_; first | exact rfl | skip; repeat (first | exact rfl | refine (upd_ne _ _ _ _ (by omega)).trans ?_ | assumption | exact hf0 _ (by omega) | exact hf1 _ (by omega) | exact hf2 _ (by omega) | exact hf3 _ (by omega) | exact hf0 _ (by omega) (by first | assumption | omega) | exact hf1 _ (by omega) (by first | assumption | omega) | exact hf2 _ (by omega) (by first | assumption | omega) | exact hf3 _ (by omega) (by first | assumption | omega) | exact hf0 _ (by omega) (by first | assumption | omega) (by first | assumption | omega) | exact hf1 _ (by omega) (by first | assumption | omega) (by first | assumption | omega) | exact hf2 _ (by omega) (by first | assumption | omega) (by first | assumption | omega) | exact hf3 _ (by omega) (by first | assumption | omega) (by first | assumption | omega))) | exact hf0 _ (by omega) | exact hf1 _ (by omega) | exact hf2 _ (by omega) | exact hf3 _ (by omega) | exact hf0 _ (by omega) (by first | assumption | omega) | exact hf1 _ (by omega) (by first | assumption | omega) | exact hf2 _ (by omega) (by first | assumption | omega) | exact hf3 _ (by omega) (by first | assumption | omega) | exact hf0 _ (by omega) (by first | assumption | omega) (by first | assumption | omega) | exact hf1 _ (by omega) (by first | assumption | omega) (by first | assumption | omega) | exact hf2 _ (by omega) (by first | assumption | omega) (by first | assumption | omega) | exact hf3 _ (by omega) (by first | assumption | omega) (by first | assumption | omega))
              · intro p hp; cases hp
              · repeat (first | exact trivial | assumption | omega | exact bd_bs | exact bd_row | exact bd_secs | exact bd_bools | (refine bdR_map (fun _ => ?_)) | (refine bdL_map (fun _ => ?_)) | refine ⟨?_, ?_⟩ | fail)
          · skip
            refine dl0 (gy rfl rfl rfl rfl rfl rfl) rfl rfl (step_mv rfl rfl) trivial ?_
            refine dlk rfl rfl rfl rfl rfl (ngb rfl rfl) rfl rfl ?_
            refine dlk rfl rfl rfl rfl rfl (ngb rfl rfl) rfl rfl ?_
            refine dl0 (gy rfl rfl rfl rfl rfl rfl) rfl rfl (step_pick rfl (ev_mk rfl) (ev_mk rfl)) trivial ?_
            refine dl0 (gy rfl rfl rfl rfl rfl rfl) rfl rfl (step_mv rfl rfl) trivial ?_
            refine dl0 (gy rfl rfl rfl rfl rfl rfl) rfl rfl (step_mv rfl rfl) trivial ?_
            refine dl0 (gy rfl rfl rfl rfl rfl rfl) rfl rfl (step_mv rfl rfl) trivial ?_
            refine dl0 (gy rfl rfl rfl rfl rfl rfl) rfl rfl (step_callc rfl Try.func10 rfl rfl rfl (tile_no (n + 1) (G (kP l K)) ((l.length : Int) - K) z (by omega)) (by repeat (first | exact .nil | refine .cons ?_ ?_ | exact VLe.refl _ | exact vle_int (by omega) | exact VLe.own_sl _ _ _ | exact VLe.fl_sl _ _ | exact VLe.nil_sl _ | (rw [List.map_append]; exact VLe.own_sl _ _ _)))) ⟨by repeat (first | exact upd_eq _ _ _ | refine (upd_ne _ _ _ _ (by omega)).trans ?_ | assumption | exact hd _ (by omega) | exact hd0 _ (by omega) | exact hd1 _ (by omega) | exact hd2 _ (by omega) | exact hd3 _ (by omega) | fail), trivial⟩ ?_
            refine dl_eql (gy rfl rfl rfl rfl rfl rfl) rfl rfl rfl rfl rfl (fun h8 => ?_) (fun h8 => ?_)
            rotate_left
            · exact False.elim (by omega)
            refine dl0 (gy rfl rfl rfl rfl rfl rfl) rfl rfl (step_pick rfl (ev_mk rfl) (ev_mk rfl)) trivial ?_
            refine dl0 (gn rfl) rfl rfl (step_pick rfl (ev_mk rfl) (ev_mk rfl)) trivial ?_
            refine dl0 (gn rfl) rfl rfl (step_mv rfl rfl) trivial ?_
            refine dl0 (gy rfl rfl rfl rfl rfl rfl) rfl rfl (step_callc rfl Try.func6 rfl rfl rfl (works_c) (by repeat (first | exact .nil | refine .cons ?_ ?_ | exact VLe.refl _ | exact vle_int (by omega) | exact VLe.own_sl _ _ _ | exact VLe.fl_sl _ _ | exact VLe.nil_sl _ | (rw [List.map_append]; exact VLe.own_sl _ _ _)))) trivial ?_
            refine dl0 (gn rfl) rfl rfl (step_pick rfl (ev_mk rfl) (ev_mk rfl)) trivial ?_
            refine dl0 (gn rfl) rfl rfl (step_as rfl rfl) trivial ?_
            refine dlnil ?_ ?_
            · repeat' (first | exact trivial | exact .inr (ap0 _ _ _ _) | exact .inr (ap2 _ _ _ _) | exact .inr (ap3 _ _ _ _) | exact .inr ⟨by first | (simp; done) | (simp; omega), by first | (simp; done) | (simp; omega)⟩ | exact .inl (by kernel_rfl) | refine ⟨?_, ?_⟩ | fail)
            refine runs_ret ?_
            refine ⟨by first | exact .inr rfl | exact .inl rfl, fin_mkg (rest rfl res0) ?_ ?_ ?_ ?_ ?_⟩
            · (repeat' (first | exact VLe.refl _ | exact VLe.own_sl _ _ _ | exact VLe.fl_sl _ _ | exact VLe.nil_sl _ | exact VLe.nil_fl _ | exact VLes.refl _ | exact .nil | refine VLe.tup ?_ | refine VLe.agg ?_ | refine .cons ?_ ?_ | (rw [Int.natCast_add]; exact VLe.refl _) | exact vle_int (by omega) | exact vle_bool (by first | rfl | assumption | (simp_all; done)) | fail))
            · repeat (first | exact trivial | assumption | omega | exact bd_bs | exact bd_row | exact bd_secs | exact bd_bools | (refine bdR_map (fun _ => ?_)) | (refine bdL_map (fun _ => ?_)) | refine ⟨?_, ?_⟩ | fail)
            · intro k_ hk_; exact ble (by first | exact rfl | (refine (upd_ne _ _ _ _ (by omega)).trans ?_; first | exact rfl | skip; repeat (first | exact rfl | refine (upd_ne _ _ _ _ (by omega)).trans ?_ | assumption | exact hf0 _ (by omega) | exact hf1 _ (by omega) | exact hf2 _ (by omega) | exact hf3 _ (by omega) | exact hf0 _ (by omega) (by first | assumption | omega) | exact hf1 _ (by omega) (by first | assumption | omega) | exact hf2 _ (by omega) (by first | assumption | omega) | exact hf3 _ (by omega) (by first | assumption | omega) | exact hf0 _ (by omega) (by first | assumption | omega) (by first | assumption | omega) | exact hf1 _ (by omega) (by first | assumption | omega) (by first | assumption | omega) | exact hf2 _ (by omega) (by first | assumption | omega) (by first | assumption | omega) | exact hf3 _ (by omega) (by first | assumption | omega) (by first | assumption | omega))) | exact hf0 _ (by omega) | exact hf1 _ (by omega) | exact hf2 _ (by omega) | exact hf3 _ (by omega) | exact hf0 _ (by omega) (by first | assumption | omega) | exact hf1 _ (by omega) (by first | assumption | omega) | exact hf2 _ (by omega) (by first | assumption | omega) | exact hf3 _ (by omega) (by first | assumption | omega) | exact hf0 _ (by omega) (by first | assumption | omega) (by first | assumption | omega) | exact hf1 _ (by omega) (by first | assumption | omega) (by first | assumption | omega) | exact hf2 _ (by omega) (by first | assumption | omega) (by first | assumption | omega) | exact hf3 _ (by omega) (by first | assumption | omega) (by first | assumption | omega))
            · intro p hp; cases hp
            · repeat (first | exact trivial | assumption | omega | exact bd_bs | exact bd_row | exact bd_secs | exact bd_bools | (refine bdR_map (fun _ => ?_)) | (refine bdL_map (fun _ => ?_)) | refine ⟨?_, ?_⟩ | fail)
end Go.Proofs.Ytgfpgaaoigeopaa
