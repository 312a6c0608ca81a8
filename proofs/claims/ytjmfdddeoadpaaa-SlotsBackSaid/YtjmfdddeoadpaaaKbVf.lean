/- Walks by the logic of values. -/
import Derived.Test.YtjmfdddeoadpaaaKbVmT
import Derived.Test.YtjmfdddeoadpaaaKbVmP
import Derived.Test.YtjmfdddeoadpaaaKbVmW
import Derived.Test.YtjmfdddeoadpaaaKbVmV
import Derived.Test.YtjmfdddeoadpaaaKbVa
import Derived.Test.YtjmfdddeoadpaaaKbVb
namespace Go.Proofs.Ytjmfdddeoadpaaa
open Go.Vm
set_option linter.unusedVariables false
set_option linter.unusedSimpArgs false
attribute [local irreducible] pgC
def ocL (f : Pf) (n : Nat) : List Nat := (List.range n).filter fun i => decide (0 < sA f i)
def ocR (f : Pf) (i : Nat) : List V := [.sc (.int .i64 (i : Int)), .sl 1 (bytesV (sl f i).b)]
theorem oc_s {f : Pf} {i : Nat} (h : 0 < sA f i) : ocL f (i + 1) = ocL f i ++ [i] := by unfold ocL; rw [List.range_succ, List.filter_append]; simp [h]
theorem oc_z {f : Pf} {i : Nat} (h : sA f i = 0) : ocL f (i + 1) = ocL f i := by unfold ocL; rw [List.range_succ, List.filter_append]; simp [h]
theorem oc_pre {f : Pf} {i n : Nat} (h : i ≤ n) : ∃ t, ocL f n = ocL f i ++ t := by
  induction n with
  | zero => obtain rfl : i = 0 := by omega
            exact ⟨[], by simp⟩
  | succ n ih =>
    by_cases e : i = n + 1
    · subst e; exact ⟨[], by simp⟩
    · obtain ⟨t, ht⟩ := ih (by omega)
      by_cases hp : 0 < sA f n
      · exact ⟨t ++ [n], by rw [oc_s hp, ht, List.append_assoc]⟩
      · exact ⟨t, by rw [oc_z (by omega), ht]⟩
theorem oc_at {f : Pf} {i n : Nat} (h : i < n) (hp : 0 < sA f i) : (ocL f n)[(ocL f i).length]? = some i ∧ (ocL f i).length < (ocL f n).length := by
  obtain ⟨t, ht⟩ := oc_pre (f := f) (show i + 1 ≤ n by omega)
  rw [ht, oc_s hp, List.append_assoc, List.getElem?_append_right (Nat.le_refl _), Nat.sub_self]
  refine ⟨rfl, ?_⟩
  rw [List.length_append, List.length_append]
  simp; omega
theorem oc_len (f : Pf) (n : Nat) : (ocL f n).length ≤ n := by unfold ocL; exact Nat.le_trans (List.length_filter_le _ _) (by simp)
theorem oc_mem {f : Pf} {n i : Nat} (h : i ∈ ocL f n) : i < n ∧ 0 < sA f i := by
  unfold ocL at h
  rw [List.mem_filter] at h
  exact ⟨List.mem_range.1 h.1, of_decide_eq_true h.2⟩
theorem get_i (f : Pf) (hs : Snd f) (i : Nat) (hi : i < f 0) : Does Try.prog 15 [.agg (pgC f), .sc (.int .i64 (i : Int))] [] [] (.tup [.sl 1 (bytesV (sl f i).b), .sc (.bool (sl f i).is)]) := by
  have h := get_c f hs (i : Int)
  by_cases hp : 0 < sA f i
  · rw [(gt_yes hi hp).1, (gt_yes hi hp).2] at h
    rw [sl_pos hp]; exact h
  · have q := gt_no (f := f) (i := (i : Int)) (.inr (by rw [Int.toNat_natCast]; omega))
    rw [q.1, q.2] at h
    rw [sl_zero (by omega)]; exact h
set_option maxRecDepth 100000 in
set_option maxHeartbeats 4000000 in
theorem all_i {kk : Nat} (f : Pf) (hs : Snd f) : DoesL Try.prog 33 [.ref kk 0] ((ocL f (f 0)).map (ocR f)) [(kk, .cells (pgC f), fun m_ b_ => .cells (pgC f))] := by
  refine doesL_mk 40 Try.func33 rfl rfl rfl (⟨trivial, trivial⟩) (fun ll => rfl) (fun Xb ll n0 D σ m brk h1m h2m h3m hDE hY n B bx hn0 hO hXb hd hDlt hf99 hE hOt hcb hbb => ?_)
  have hDn : ∀ k, n ≤ k → D k = false := fun k hk => by cases h_ : D k with | false => rfl | true => exact absurd (hDlt k h_) (by omega)
  have hJ_ := OkJ.zero (brk := brk) (m := m) h2m
  have hk0 : kk < n := hE.1.1
  have hz0 : D kk = false := hE.1.2.1
  have hp0 : bx kk = .cells (pgC f) := hE.1.2.2
  have hl32_ := hs.l32
  have hlo1_ := hs.lo1
  have hlo2_ := hs.lo2
  refine runs_seq ?_
  refine runs_region ?_
  refine' rl0 (gn rfl) rfl rfl (step_load_all rfl rfl F.agg27 ?hl) ⟨?hb, trivial⟩ ?_
  case hb => repeat (first | exact uE | refine uN (by omega) ?_ | assumption | refine ovN (by first | assumption | exact hDn _ (by omega)) ?_ | exact hd _ (by omega) | fail)
  case hl => first | rfl | (simp; done) | (first | exact pgC_len _ | (simp; done) | (rw [pgC_len]; omega) | omega)
  refine rl0 (gn rfl) rfl rfl (step_callc rfl Try.func13 rfl rfl rfl (len_c f hs.b) (by repeat (first | exact .nil | refine .cons ?_ ?_ | exact VLe.refl _ | exact VLe.own_sl _ _ _ | exact VLe.fl_sl _ _ | exact VLe.nil_sl _ | exact VLe.nil_fl _ | refine VLe.agg ?_))) trivial ?_
  refine rl0 (gn rfl) rfl rfl (step_mv rfl rfl) trivial ?_
  refine runsL_nil ?_
  refine runs_block ?_
  refine runs_loop (fun (ri_ : Nat) (st_ : Go.Vm.S) => ∃ (i j : Nat) (m0 : Nat) (b0 : Nat → Box), (st_ = ⟨mk [(0, .sc (.func (.yield ll) #[] #[])), (1, .ref kk 0), (7, .sc (.int .i64 (f 0 : Int))), (8, .sc (.int .i64 (i : Int)))], m0, b0⟩) ∧ (ri_ = 1 + (f 0 - i)) ∧ (n + 0 ≤ m0) ∧ (∀ k_, k_ < n → b0 k_ = ov D (σ (j)) bx k_) ∧ (b0 kk = .cells (pgC f)) ∧ (i ≤ f 0) ∧ (OkJ brk m j) ∧ (j = (ocL f i).length)) (1 + (f 0 - 0)) ⟨_, sle ?_ (Nat.le_refl _), 0, 0, _, _, rfl, rfl, ?_⟩ ?_
  · (repeat' (first | exact trivial | refine ⟨⟨_, rfl, ?_⟩, ?_⟩ | fail)); all_goals (repeat' (first | exact VLe.refl _ | exact VLe.own_sl _ _ _ | exact VLe.fl_sl _ _ | exact VLe.nil_sl _ | exact VLe.nil_fl _ | exact VLes.refl _ | exact .nil | refine VLe.tup ?_ | refine VLe.agg ?_ | refine .cons ?_ ?_ | (rw [Int.natCast_add]; exact VLe.refl _) | exact vle_int (by omega) | exact vle_bool (by first | rfl | assumption | (simp_all; done) | fail) | fail))
  · exact ⟨by omega, (fun k_ hk_ => ovT (fun hD_ => by repeat (first | exact ovYJ hD_ (by omega) | refine uN (by first | assumption | omega) ?_ | exact (hf99 _ (by omega)).trans (ovYJ hD_ (by omega)) | fail)) (fun hD_ => by repeat (first | refine uN (by first | assumption | omega) ?_ | refine ovN hD_ ?_ | exact rfl | fail))), by first | ((repeat (first | exact uE | assumption | refine uN (by omega) ?_ | refine ovN (by first | assumption | exact hDn _ (by omega)) ?_ | fail)); done) | exact tl_eq (by repeat (first | exact uE | assumption | refine uN (by omega) ?_ | refine ovN (by first | assumption | exact hDn _ (by omega)) ?_ | fail)) (by first | rfl | (simp [bytesV, beB_len]; done) | (simp [bytesV, beB_len]; omega) | omega), by omega, hJ_, rfl⟩
  · rintro _ _ ⟨i, j, m0, b0, rfl, rfl, hm0, hf0, hB0_0, hF0_0, hF0_1, hF0_2⟩
    refine runs_know (fun hd0 => ?_)
    refine runs_bump 20 ?_
    simp only at hd0
    refine runs_seq ?_
    refine runs_region ?_
    refine rl_lss (gn rfl) rfl rfl rfl rfl rfl (fun h1 => ?_) (fun h1 => ?_)
    · skip
      refine runsL_nil ?_
      refine runs_seq ?_
      refine runs_cond true (ev_mk rfl) (fun _ => ?_) (fun h_ => nomatch h_)
      refine runs_skip ?_
      refine runs_seq ?_
      refine runs_block ?_
      refine runs_seq ?_
      refine runs_region ?_
      refine rl0 (gn rfl) rfl rfl (step_mv rfl rfl) trivial ?_
      refine rl0 (gn rfl) rfl rfl (step_as rfl rfl) trivial ?_
      refine runsL_nil ?_
      refine runs_seq ?_
      refine runs_region ?_
      refine' rl0 (gn rfl) rfl rfl (step_load_all rfl rfl F.agg27 ?hl) ⟨?hb, trivial⟩ ?_
      case hb => repeat (first | exact uE | refine uN (by omega) ?_ | assumption | refine ovN (by first | assumption | exact hDn _ (by omega)) ?_ | exact hd _ (by omega) | exact hd0 _ (by omega) | fail)
      case hl => first | rfl | (simp; done) | (first | exact pgC_len _ | (simp; done) | (rw [pgC_len]; omega) | omega)
      refine rl0 (gn rfl) rfl rfl (step_mv rfl rfl) trivial ?_
      refine rl0 (gn rfl) rfl rfl (step_callc rfl Try.func15 rfl rfl rfl (get_i f hs i (by omega)) (by repeat (first | exact .nil | refine .cons ?_ ?_ | exact VLe.refl _ | exact VLe.own_sl _ _ _ | exact VLe.fl_sl _ _ | exact VLe.nil_sl _ | exact VLe.nil_fl _ | refine VLe.agg ?_))) trivial ?_
      refine rl0 (gn rfl) rfl rfl (step_mv rfl rfl) trivial ?_
      refine rl0 (gn rfl) rfl rfl (step_extract rfl (ev_mk rfl) rfl) trivial ?_
      refine rl0 (gn rfl) rfl rfl (step_extract rfl (ev_mk rfl) rfl) trivial ?_
      refine rl0 (gn rfl) rfl rfl (step_as rfl rfl) trivial ?_
      refine rl0 (gn rfl) rfl rfl (step_as rfl rfl) trivial ?_
      refine runsL_nil ?_
      refine runs_seq ?_
      refine runs_region ?_
      refine rl0 (gn rfl) rfl rfl (step_mv rfl rfl) trivial ?_
      refine rl0 (gn rfl) rfl rfl (step_mv rfl rfl) trivial ?_
      refine rl_bool (d := 18) rfl (fun h2 => ?_) (fun h2 => ?_)
      · skip
        have hq2_ : 0 < sA f i := (by have q_ := h2; rw [sl_is] at q_; exact of_decide_eq_true q_)
        have hat_ := oc_at (show i < f 0 by omega) hq2_
        have hoc_ := oc_s hq2_
        refine rl0 (gy rfl rfl rfl rfl rfl rfl) rfl rfl (step_mv rfl rfl) trivial ?_
        refine rl0 (gy rfl rfl rfl rfl rfl rfl) rfl rfl (step_mv rfl rfl) trivial ?_
        refine rl0 (gy rfl rfl rfl rfl rfl rfl) rfl rfl (step_mv rfl rfl) trivial ?_
        have hlt_ : j < m := OkJ.lt hF0_1 h3m (by rw [hF0_2, List.length_map]; exact hat_.2)
        refine rl_yield (gy rfl rfl rfl rfl rfl rfl) rfl rfl rfl rfl rfl (VLes.refl _) (hY (j) _ hlt_ ((by rw [hF0_2, List.getElem?_map, hat_.1]; rfl))) hXb (by omega) (fun k_ hD_ => ?_) (fun k_ hk1_ hD_ hk3_ => ?_) ?_
        · have hk1_ := hDlt k_ hD_; obtain ⟨ee0_, _⟩ := hDE k_ hD_; exact ⟨by omega, by repeat (first | exact ovYJ hD_ (by omega) | refine uN (by first | assumption | omega) ?_ | exact (hf0 _ (by omega)).trans (ovYJ hD_ (by omega)) | exact (hf99 _ (by omega)).trans (ovYJ hD_ (by omega)) | fail)⟩
        · obtain ⟨ee0_, _⟩ := inK_no hk3_; repeat (first | refine uN (by first | assumption | omega) ?_ | refine ovN hD_ ?_ | exact (hf0 _ (by omega)).trans ((ovN hD_ rfl).trans (hOt k_ hk1_ hD_ hk3_)) | exact hOt k_ hk1_ hD_ hk3_ | fail)
        refine rl_bool (d := 22) rfl (fun h3 => ?_) (fun h3 => ?_)
        · skip
          have hJn_ := OkJ.next h3 hlt_
          refine rl0 (gy rfl rfl rfl rfl rfl rfl) rfl rfl (step_unOp (c := .bool false) rfl (ev_mk rfl) (fun _ => rfl)) trivial ?_
          refine rl0 (gn rfl) rfl rfl (step_pick rfl (ev_mk rfl) (ev_mk rfl)) trivial ?_
          refine runsL_nil ?_
          refine runs_cond false (ev_mk rfl) (fun h_ => nomatch h_) (fun _ => ?_)
          refine runs_skip ?_
          refine runs_region ?_
          refine rl0 (gn rfl) rfl rfl (step_add rfl (ev_mk rfl) (ev_mk rfl) (w64 (by omega))) trivial ?_
          refine rl0 (gn rfl) rfl rfl (step_mv rfl rfl) trivial ?_
          refine runsL_nil ?_
          refine ⟨_, _, ?_, sle ?_ (Nat.le_refl _), (i + 1), (j + 1), _, _, rfl, rfl, by omega, (fun k_ hk_ => ovT (fun hD_ => by repeat (first | exact ovYJ hD_ (by omega) | refine uN (by first | assumption | omega) ?_ | exact (hf0 _ (by omega)).trans (ovYJ hD_ (by omega)) | exact (hf99 _ (by omega)).trans (ovYJ hD_ (by omega)) | fail)) (fun hD_ => by repeat (first | refine uN (by first | assumption | omega) ?_ | refine ovN hD_ ?_ | exact (hf0 _ (by omega)).trans ((ovN hD_ rfl).trans (rfl)) | exact rfl | fail))), by first | ((repeat (first | exact uE | assumption | refine uN (by omega) ?_ | refine ovN (by first | assumption | exact hDn _ (by omega)) ?_ | fail)); done) | exact tl_eq (by repeat (first | exact uE | assumption | refine uN (by omega) ?_ | refine ovN (by first | assumption | exact hDn _ (by omega)) ?_ | fail)) (by first | rfl | (simp [bytesV, beB_len]; done) | (simp [bytesV, beB_len]; omega) | omega), by omega, (by first | exact hJn_ | exact hF0_1), (by rw [hoc_]; first | (rw [List.length_append]; simp; omega) | omega)⟩
          · omega
          · (repeat' (first | exact trivial | refine ⟨⟨_, rfl, ?_⟩, ?_⟩ | fail)); all_goals (repeat' (first | exact VLe.refl _ | exact VLe.own_sl _ _ _ | exact VLe.fl_sl _ _ | exact VLe.nil_sl _ | exact VLe.nil_fl _ | exact VLes.refl _ | exact .nil | refine VLe.tup ?_ | refine VLe.agg ?_ | refine .cons ?_ ?_ | (rw [Int.natCast_add]; exact VLe.refl _) | exact vle_int (by omega) | exact vle_bool (by first | rfl | assumption | (simp_all; done) | fail) | fail))
        · skip
          obtain ⟨hbk_, hjm_⟩ := beq_s h3
          refine rl0 (gy rfl rfl rfl rfl rfl rfl) rfl rfl (step_unOp (c := .bool true) rfl (ev_mk rfl) (fun _ => rfl)) trivial ?_
          refine rl0 (gn rfl) rfl rfl (step_pick rfl (ev_mk rfl) (ev_mk rfl)) trivial ?_
          refine runsL_nil ?_
          refine runs_cond true (ev_mk rfl) (fun _ => ?_) (fun h_ => nomatch h_)
          refine runs_ret ?_
          refine ⟨by first | exact .inr rfl | exact .inl rfl, fun k_ hk_ => ?_⟩
          cases hD_ : D k_ with
          | true => obtain ⟨ee0_, _⟩ := hDE k_ hD_; refine ble (Eq.trans ?_ (ovY hD_ rfl).symm); repeat (first | exact ovYJ hD_ (by omega) | refine uN (by first | assumption | omega) ?_ | exact (hf0 _ (by omega)).trans (ovYJ hD_ (by omega)) | exact (hf99 _ (by omega)).trans (ovYJ hD_ (by omega)) | fail)
          | false => refine bl_ov hD_ ?_; simp only [eM, updL, List.map_cons, List.map_nil]; by_cases e0_ : k_ = kk; (focus subst e0_; refine bl_eq ?_; first | (refine ble ?_; (repeat (first | exact uE | assumption | refine uN (by omega) ?_ | refine ovN (by first | assumption | exact hDn _ (by omega)) ?_ | fail)); done) | (refine' blec ?hb ?hl; (case hb => repeat (first | exact uE | assumption | refine uN (by omega) ?_ | refine ovN (by first | assumption | exact hDn _ (by omega)) ?_ | fail)); (case hl => first | exact VLes.refl _ | ((repeat' (first | exact VLe.refl _ | exact VLe.own_sl _ _ _ | exact VLe.fl_sl _ _ | exact VLe.nil_sl _ | exact VLe.nil_fl _ | exact VLes.refl _ | exact .nil | refine VLe.tup ?_ | refine VLe.agg ?_ | refine .cons ?_ ?_ | (rw [Int.natCast_add]; exact VLe.refl _) | exact vle_int (by omega) | exact vle_bool (by first | rfl | assumption | (simp_all; done) | fail) | fail)); done)))); refine bl_ne e0_ ?_; exact ble (by repeat (first | refine uN (by first | assumption | omega) ?_ | refine ovN hD_ ?_ | exact (hf0 _ (by omega)).trans ((ovN hD_ rfl).trans (rfl)) | exact rfl | fail))
      · skip
        have hz_ : sA f i = 0 := (by have q_ := h2; rw [sl_is] at q_; have := of_decide_eq_false q_; omega)
        have hoc_ := oc_z hz_
        refine rlk rfl rfl rfl rfl rfl (ngb rfl rfl) rfl rfl ?_
        refine rlk rfl rfl rfl rfl rfl (ngb rfl rfl) rfl rfl ?_
        refine rlk rfl rfl rfl rfl rfl (ngb rfl rfl) rfl rfl ?_
        refine rlk rfl rfl rfl rfl rfl (ngb rfl rfl) rfl rfl ?_
        refine rlk rfl rfl rfl rfl rfl (ngb rfl rfl) rfl rfl ?_
        refine rl0 (gn rfl) rfl rfl (step_pick rfl (ev_mk rfl) (ev_mk rfl)) trivial ?_
        refine runsL_nil ?_
        refine runs_cond false (ev_mk rfl) (fun h_ => nomatch h_) (fun _ => ?_)
        refine runs_skip ?_
        refine runs_region ?_
        refine rl0 (gn rfl) rfl rfl (step_add rfl (ev_mk rfl) (ev_mk rfl) (w64 (by omega))) trivial ?_
        refine rl0 (gn rfl) rfl rfl (step_mv rfl rfl) trivial ?_
        refine runsL_nil ?_
        refine ⟨_, _, ?_, sle ?_ (Nat.le_refl _), (i + 1), j, _, _, rfl, rfl, by omega, (fun k_ hk_ => ovT (fun hD_ => by repeat (first | exact ovYJ hD_ (by omega) | refine uN (by first | assumption | omega) ?_ | exact (hf0 _ (by omega)).trans (ovYJ hD_ (by omega)) | exact (hf99 _ (by omega)).trans (ovYJ hD_ (by omega)) | fail)) (fun hD_ => by repeat (first | refine uN (by first | assumption | omega) ?_ | refine ovN hD_ ?_ | exact (hf0 _ (by omega)).trans ((ovN hD_ rfl).trans (rfl)) | exact rfl | fail))), by first | ((repeat (first | exact uE | assumption | refine uN (by omega) ?_ | refine ovN (by first | assumption | exact hDn _ (by omega)) ?_ | fail)); done) | exact tl_eq (by repeat (first | exact uE | assumption | refine uN (by omega) ?_ | refine ovN (by first | assumption | exact hDn _ (by omega)) ?_ | fail)) (by first | rfl | (simp [bytesV, beB_len]; done) | (simp [bytesV, beB_len]; omega) | omega), by omega, (by first | exact hJn_ | exact hF0_1), (by rw [hoc_]; first | (rw [List.length_append]; simp; omega) | omega)⟩
        · omega
        · (repeat' (first | exact trivial | refine ⟨⟨_, rfl, ?_⟩, ?_⟩ | fail)); all_goals (repeat' (first | exact VLe.refl _ | exact VLe.own_sl _ _ _ | exact VLe.fl_sl _ _ | exact VLe.nil_sl _ | exact VLe.nil_fl _ | exact VLes.refl _ | exact .nil | refine VLe.tup ?_ | refine VLe.agg ?_ | refine .cons ?_ ?_ | (rw [Int.natCast_add]; exact VLe.refl _) | exact vle_int (by omega) | exact vle_bool (by first | rfl | assumption | (simp_all; done) | fail) | fail))
    · skip
      obtain rfl : i = (f 0) := by omega
      have hJm_ := OkJ.fin hF0_1 h1m (by rw [hF0_2, List.length_map]; exact Nat.le_refl _)
      refine runsL_nil ?_
      refine runs_seq ?_
      refine runs_cond false (ev_mk rfl) (fun h_ => nomatch h_) (fun _ => ?_)
      refine runs_exit ?_
      refine ⟨by first | exact .inr rfl | exact .inl rfl, fun k_ hk_ => ?_⟩
      cases hD_ : D k_ with
      | true => obtain ⟨ee0_, _⟩ := hDE k_ hD_; refine ble (Eq.trans ?_ (ovY hD_ rfl).symm); repeat (first | exact ovYJ hD_ (by omega) | refine uN (by first | assumption | omega) ?_ | exact (hf0 _ (by omega)).trans (ovYJ hD_ (by omega)) | exact (hf99 _ (by omega)).trans (ovYJ hD_ (by omega)) | fail)
      | false => refine bl_ov hD_ ?_; simp only [eM, updL, List.map_cons, List.map_nil]; by_cases e0_ : k_ = kk; (focus subst e0_; refine bl_eq ?_; first | (refine ble ?_; (repeat (first | exact uE | assumption | refine uN (by omega) ?_ | refine ovN (by first | assumption | exact hDn _ (by omega)) ?_ | fail)); done) | (refine' blec ?hb ?hl; (case hb => repeat (first | exact uE | assumption | refine uN (by omega) ?_ | refine ovN (by first | assumption | exact hDn _ (by omega)) ?_ | fail)); (case hl => first | exact VLes.refl _ | ((repeat' (first | exact VLe.refl _ | exact VLe.own_sl _ _ _ | exact VLe.fl_sl _ _ | exact VLe.nil_sl _ | exact VLe.nil_fl _ | exact VLes.refl _ | exact .nil | refine VLe.tup ?_ | refine VLe.agg ?_ | refine .cons ?_ ?_ | (rw [Int.natCast_add]; exact VLe.refl _) | exact vle_int (by omega) | exact vle_bool (by first | rfl | assumption | (simp_all; done) | fail) | fail)); done)))); refine bl_ne e0_ ?_; exact ble (by repeat (first | refine uN (by first | assumption | omega) ?_ | refine ovN hD_ ?_ | exact (hf0 _ (by omega)).trans ((ovN hD_ rfl).trans (rfl)) | exact rfl | fail))
set_option maxRecDepth 100000 in
set_option maxHeartbeats 4000000 in
theorem all_c (f : Pf) {kk : Nat} : Does Try.prog 20 [.agg (pgC f)] [(kk, .dead)] [(kk, .cells (pgC f))] (.fn 33 [.ref kk 0]) := by
  refine does_mkg 40 Try.func20 rfl rfl rfl (fun n B bx hd hpre hup hvs hbx hgx => ?_)
  have hp0 := hpre.1
  have hz0 := hp0
  have hu0 := hup.1
  refine runs_seq ?_
  refine runs_region ?_
  refine rl1 (gn rfl) rfl rfl (step_box_agg (k := kk) rfl rfl) ⟨by repeat (first | exact uE | refine uN (by omega) ?_ | assumption | exact hd _ (by omega) | fail), trivial⟩ (by omega) ?_
  refine rl0 (gn rfl) rfl rfl (step_as rfl rfl) trivial ?_
  refine runsL_nil ?_
  refine runs_seq ?_
  refine runs_region ?_
  refine rl0 (gn rfl) rfl rfl (step_makeFunc rfl rfl) trivial ?_
  refine rl0 (gn rfl) rfl rfl (step_as rfl rfl) trivial ?_
  refine runsL_nil ?_
  refine runs_ret ?_
  refine ⟨by first | exact .inr rfl | exact .inl rfl, fin_mkg (rest rfl res0) ?_ ?_ ?_ ?_ ?_⟩
  · (repeat' (first | exact VLe.refl _ | exact VLe.own_sl _ _ _ | exact VLe.fl_sl _ _ | exact VLe.nil_sl _ | exact VLe.nil_fl _ | exact VLes.refl _ | exact .nil | refine VLe.tup ?_ | refine VLe.agg ?_ | refine .cons ?_ ?_ | (rw [Int.natCast_add]; exact VLe.refl _) | exact vle_int (by omega) | exact vle_bool (by first | rfl | assumption | (simp_all; done) | fail) | fail))
  · first | ((repeat (first | exact trivial | exact bd_pgA _ _ | exact bd_pg _ _ | assumption | omega | refine ⟨?_, ?_⟩ | fail)); done) | (repeat (first | exact trivial | assumption | omega | (refine bdR_map (fun _ => ?_)) | (refine bdL_map (fun _ => ?_)) | refine ⟨?_, ?_⟩ | fail))
  · intro k_ hk_; simp only [upds]; by_cases e_ : k_ = kk; (focus subst e_; refine bl_eq ?_; first | (refine' blec ?hb ?hl; (case hb => repeat (first | exact uE | assumption | refine uN (by omega) ?_ | fail)); (case hl => first | exact VLes.refl _ | ((repeat' (first | exact VLe.refl _ | exact VLe.own_sl _ _ _ | exact VLe.fl_sl _ _ | exact VLe.nil_sl _ | exact VLe.nil_fl _ | exact VLes.refl _ | exact .nil | refine VLe.tup ?_ | refine VLe.agg ?_ | refine .cons ?_ ?_ | (rw [Int.natCast_add]; exact VLe.refl _) | exact vle_int (by omega) | exact vle_bool (by first | rfl | assumption | (simp_all; done) | fail) | fail)); done))) | (refine ble ?_; (repeat (first | exact uE | assumption | refine uN (by omega) ?_ | fail)); done) | exact ble (tl_eq (by repeat (first | exact uE | assumption | refine uN (by omega) ?_ | fail)) (by first | rfl | (simp [bytesV, beB_len]; done) | (simp [bytesV, beB_len]; omega) | omega))); refine bl_ne e_ ?_; exact ble (by repeat (first | exact rfl | refine uN (by omega) ?_ | assumption | fail))
  · intro p hp cs hcs; simp only [List.mem_cons, List.not_mem_nil, or_false] at hp; (first | (rcases hp with rfl)) <;> (first | (cases hcs; done) | (cases hcs; (first | ((repeat (first | exact trivial | exact bd_pgA _ _ | exact bd_pg _ _ | assumption | omega | refine ⟨?_, ?_⟩ | fail)); done) | (repeat (first | exact trivial | assumption | omega | (refine bdR_map (fun _ => ?_)) | (refine bdL_map (fun _ => ?_)) | refine ⟨?_, ?_⟩ | fail)))))
  · first | ((repeat (first | exact trivial | exact bd_pgA _ _ | exact bd_pg _ _ | assumption | omega | refine ⟨?_, ?_⟩ | fail)); done) | (repeat (first | exact trivial | assumption | omega | (refine bdR_map (fun _ => ?_)) | (refine bdL_map (fun _ => ?_)) | refine ⟨?_, ?_⟩ | fail))
end Go.Proofs.Ytjmfdddeoadpaaa
