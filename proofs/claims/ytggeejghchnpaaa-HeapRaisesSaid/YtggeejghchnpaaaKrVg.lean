/- Walks by the logic of values. -/
import Derived.Test.YtggeejghchnpaaaKrVmT
import Derived.Test.YtggeejghchnpaaaKrVmP
import Derived.Test.YtggeejghchnpaaaKrVmV
import Derived.Test.YtggeejghchnpaaaKrVmY
import Derived.Test.YtggeejghchnpaaaKrVa
import Derived.Test.YtggeejghchnpaaaKrVb
import Derived.Test.YtggeejghchnpaaaKrVc
import Derived.Test.YtggeejghchnpaaaKrVd
import Derived.Test.YtggeejghchnpaaaKrVe
import Derived.Test.YtggeejghchnpaaaKrVf
namespace Go.Proofs.Ytggeejghchnpaaa
open Go.Vm
set_option linter.unusedVariables false
set_option linter.unusedSimpArgs false
theorem itC_at {kf : Nat → Int} {h : Nat → Nat} {L j : Nat} (hj : InjH h L) (hl : j < L) : Box.cells (itC kf h L (h j)) = .cells [.sc (.int .i64 (kf (h j))), .sc (.int .i64 ((h j : Nat) : Int)), .sc (.int .i64 ((j : Nat) : Int))] := by
  unfold itC; rw [pos_at hj hl]
theorem fam_rmL {w : Nat → V} {bx b' : Nat → Box} {n0 L c : Nat} {h : Nat → Nat} (hf : ∀ a, a < c → bx (n0 + a) = .cells [w a, .sc (.int .i64 ((a : Nat) : Int)), .sc (.int .i64 (posF h (L + 1) a))]) (hj : InjH h (L + 1))
    (h1 : b' (n0 + h L) = .cells [w (h L), .sc (.int .i64 ((h L : Nat) : Int)), .sc (.int .i64 (-1))]) (h3 : ∀ a, a < c → a ≠ h L → b' (n0 + a) = bx (n0 + a)) :
    ∀ a, a < c → b' (n0 + a) = .cells [w a, .sc (.int .i64 ((a : Nat) : Int)), .sc (.int .i64 (posF h L a))] := by
  have := fam_rm (j := L) hf hj (by omega) h1 (fun e => absurd rfl e) (fun a ha e _ => h3 a ha e)
  rwa [sw_same] at this
theorem fam_ch {w w' : Nat → V} {bx b' : Nat → Box} {n0 L c q : Nat} {h : Nat → Nat} (hf : ∀ a, a < c → bx (n0 + a) = .cells [w a, .sc (.int .i64 ((a : Nat) : Int)), .sc (.int .i64 (posF h L a))]) (hw : ∀ a, a ≠ q → w a = w' a)
    (h1 : b' (n0 + q) = .cells [w' q, .sc (.int .i64 ((q : Nat) : Int)), .sc (.int .i64 (posF h L q))]) (h3 : ∀ a, a < c → a ≠ q → b' (n0 + a) = bx (n0 + a)) :
    ∀ a, a < c → b' (n0 + a) = .cells [w' a, .sc (.int .i64 ((a : Nat) : Int)), .sc (.int .i64 (posF h L a))] := by
  intro a ha
  by_cases e : a = q
  · subst e; exact h1
  · rw [h3 a ha e, hf a ha, hw a e]
theorem rm_lt {kf : Nat → Int} {h : Nat → Nat} {L M c j : Nat} (hLM : L + 1 ≤ M) (hj : j < L + 1) (hc : ∀ i, i < M → h i < c) : ∀ i, i < M → rmF kf h L j i < c := by
  unfold rmF
  split
  · exact dn_lt (by omega) _ _ _ (by omega) (up_lt _ _ _ (by omega) (sw_lt (by omega) (by omega) hc))
  · exact hc
/-- Where a thing is changed, and the heap mended. -/
def chF (kf : Nat → Int) (h : Nat → Nat) (L j : Nat) : Nat → Nat := dnF kf L L (upF kf j h j) (posF (upF kf j h j) L (h j)).toNat
theorem ch_pos {kf : Nat → Int} {h : Nat → Nat} {L j : Nat} (hj : j < L) : 0 ≤ posF (upF kf j h j) L (h j) ∧ posF (upF kf j h j) L (h j) < L := by
  obtain ⟨p, e, hp, _⟩ := pos_some ((up_in (kf := kf) (v := h j) j h j hj).2 ⟨j, hj, rfl⟩)
  omega
theorem ch_lt {kf : Nat → Int} {h : Nat → Nat} {L M c j : Nat} (hLM : L ≤ M) (hj : j < L) (hc : ∀ i, i < M → h i < c) : ∀ i, i < M → chF kf h L j i < c :=
  dn_lt hLM _ _ _ (by have := ch_pos (kf := kf) (h := h) hj; omega) (up_lt _ _ _ (by omega) hc)
set_option maxRecDepth 100000 in
set_option maxHeartbeats 4000000 in
theorem remove_y (kf : Nat → Int) (h : Nat → Nat) (n0 hb gb v L M c j : Nat) (hj : j < L) (hLM : L + 1 ≤ M) (hLb : L < 999999) (hinj : InjH h (L + 1)) (hc : ∀ i, i < M → h i < c) (hne : hb ≠ gb) (hhb : hb < n0) (hgb : gb < n0) : Does Try.prog 13 [.ref hb 0, .ref (n0 + h j) 0] ([(hb, .cells [.gsl gb v 0 (L + 1) 1, .sc (.func (.func 8) #[] #[]), .sc (.int .i64 (c : Int))]), (gb, .gcells v 1 (rowsH n0 h M))] ++ famL n0 c (itC kf h (L + 1))) ([(hb, .cells [.gsl gb v 0 L 1, .sc (.func (.func 8) #[] #[]), .sc (.int .i64 (c : Int))]), (gb, .gcells v 1 (rowsH n0 (dnF kf L L (upF kf j (sw h j L) j) j) M))] ++ famL n0 c (itC kf (dnF kf L L (upF kf j (sw h j L) j) j) L)) (.sc (.bool true)) := by
  refine does_mkg 40 Try.func13 rfl rfl rfl (fun n B bx hd hpre hup hvs hbx hgx => ?_)
  have hp0 := hpre.1
  have hk0 := lt_cells hd hp0
  have hp1 := hpre.2.1
  have hk1 := lt_gcells hd hp1
  have hu0 := hup.1
  have hu1 := hup.2.1
  have hfam0 := fam_of hpre.2.2
  have hfn0 := fam_lt hd hfam0
  have hfu0 := uplt_fam hup.2.2
  have hrl_ := rowsH_len n0 h M
  have hja_ := hc j (by omega)
  have hLa_ := hc L (by omega)
  have hjL_ : h j ≠ h L := fun e_ => by have := hinj j L (by omega) (by omega) e_; omega
  have hs1_ := sw_injL hinj (show j < L + 1 by omega)
  have hs2_ := sw_lt (i := j) (k := L) (by omega) (by omega) hc
  have hxj_ : bx (n0 + h j) = .cells [.sc (.int .i64 (kf (h j))), .sc (.int .i64 ((h j : Nat) : Int)), .sc (.int .i64 (j : Int))] := (hfam0 _ hja_).trans (itC_at hinj (by omega))
  have hxL_ : bx (n0 + h L) = .cells [.sc (.int .i64 (kf (h L))), .sc (.int .i64 ((h L : Nat) : Int)), .sc (.int .i64 (L : Int))] := (hfam0 _ hLa_).trans (itC_at hinj (by omega))
  refine runs_seq ?_
  refine runs_region ?_
  refine rl0 (gn rfl) rfl rfl (step_as rfl rfl) trivial ?_
  refine runsL_nil ?_
  refine runs_seq ?_
  refine runs_seq ?_
  refine runs_region ?_
  refine rl0 (gn rfl) rfl rfl (step_mv rfl rfl) trivial ?_
  refine rl0 (gn rfl) rfl rfl (step_mv rfl rfl) trivial ?_
  refine rl0 (gn rfl) rfl rfl (step_callc rfl Try.func26 rfl rfl rfl (mine_y kf h n0 hb gb v (L + 1) M c j (by omega) hLM) (by repeat (first | exact .nil | refine .cons ?_ ?_ | exact VLe.refl _ | exact vle_int (by omega) | exact VLe.own_sl _ _ _ | exact VLe.fl_sl _ _ | exact VLe.nil_sl _ | exact VLe.nil_fl _ | refine VLe.agg ?_))) ⟨by repeat (first | exact uE | refine uN (by omega) ?_ | assumption | exact hd _ (by omega) | fail), by repeat (first | exact uE | refine uN (by omega) ?_ | assumption | exact hd _ (by omega) | fail), by repeat (first | exact uE | refine uN (by omega) ?_ | assumption | exact hd _ (by omega) | fail), trivial⟩ ?_
  refine rl0 (gn rfl) rfl rfl (step_unOp (c := .bool false) rfl (ev_mk rfl) (fun _ => rfl)) trivial ?_
  refine runsL_nil ?_
  refine runs_cond false (ev_mk rfl) (fun h_ => nomatch h_) (fun _ => ?_)
  refine runs_skip ?_
  refine runs_seq ?_
  refine runs_draw (by kernel_rfl) (by kernel_rfl) (by kernel_rfl) ?_
  refine dl0 (gn rfl) rfl rfl (step_mv rfl rfl) trivial ?_
  refine dl0 (gn rfl) rfl rfl (step_nilCheck rfl (ev_mk rfl) (.inl ⟨_, _, rfl⟩)) trivial ?_
  refine dl0 (gn rfl) rfl rfl (step_fieldAddr (off := 2) rfl (ev_mk rfl) Try.underlying59 rfl F.sz3 rfl) trivial ?_
  refine' dl0 (gn rfl) rfl rfl (step_load_one rfl (ev_mk rfl) F.one3 ?hv) ⟨?hb, trivial⟩ ?_
  case hb => repeat (first | exact uE | refine uN (by omega) ?_ | assumption | exact hd _ (by omega) | fail)
  case hv => rfl
  refine dl0 (gn rfl) rfl rfl (step_mv rfl rfl) trivial ?_
  refine dl0 (gn rfl) rfl rfl (step_nilCheck rfl (ev_mk rfl) (.inl ⟨_, _, rfl⟩)) trivial ?_
  refine dl0 (gn rfl) rfl rfl (step_fieldAddr (off := 0) rfl (ev_mk rfl) Try.underlying57 rfl F.sz28 rfl) trivial ?_
  refine' dl0 (gn rfl) rfl rfl (step_load_one rfl (ev_mk rfl) F.one28 ?hv) ⟨?hb, trivial⟩ ?_
  case hb => repeat (first | exact uE | refine uN (by omega) ?_ | assumption | exact hd _ (by omega) | fail)
  case hv => rfl
  refine dl0 (gn rfl) rfl rfl (step_len_g rfl rfl (ev_mk rfl) Try.underlying28) trivial ?_
  refine dl0 (gn rfl) rfl rfl (step_sub rfl (ev_mk rfl) (ev_mk rfl) (w64 (by omega))) trivial ?_
  refine dl0 (gn rfl) rfl rfl (step_as rfl rfl) trivial ?_
  refine dl0 (gn rfl) rfl rfl (step_as rfl rfl) trivial ?_
  refine dlnil ?_ ?_
  · repeat' (first | exact trivial | exact .inr (ap0 _ _ _ _) | exact .inr (ap2 _ _ _ _) | exact .inr (ap3 _ _ _ _) | exact .inr ⟨by first | (simp; done) | (simp; omega), by first | (simp; done) | (simp; omega)⟩ | exact .inl (by kernel_rfl) | refine ⟨?_, ?_⟩ | fail)
  refine runs_seq ?_
  refine runs_region ?_
  refine rl0 (gn rfl) rfl rfl (step_mv rfl rfl) trivial ?_
  refine rl0 (gn rfl) rfl rfl (step_mv rfl rfl) trivial ?_
  refine rl0 (gn rfl) rfl rfl (step_mv rfl rfl) trivial ?_
  refine rl3 (gn rfl) rfl rfl (step_callc rfl Try.func27 rfl rfl rfl (swap_c kf h n0 hb gb v (L + 1) M c j L (j : Int) (L : Int) (by omega) (by omega) hLM (by omega) hjL_ hne hhb hgb) (by repeat (first | exact .nil | refine .cons ?_ ?_ | exact VLe.refl _ | exact vle_int (by omega) | exact VLe.own_sl _ _ _ | exact VLe.fl_sl _ _ | exact VLe.nil_sl _ | exact VLe.nil_fl _ | refine VLe.agg ?_))) ⟨by repeat (first | exact uE | refine uN (by omega) ?_ | assumption | exact hd _ (by omega) | fail), by repeat (first | exact uE | refine uN (by omega) ?_ | assumption | exact hd _ (by omega) | fail), by repeat (first | exact uE | refine uN (by omega) ?_ | assumption | exact hd _ (by omega) | fail), by repeat (first | exact uE | refine uN (by omega) ?_ | assumption | exact hd _ (by omega) | fail), trivial⟩ (by omega) (by omega) (by omega) ?_
  refine runsL_nil ?_
  refine runs_seq ?_
  refine runs_region ?_
  refine rl0 (gn rfl) rfl rfl (step_mv rfl rfl) trivial ?_
  refine rl0 (gn rfl) rfl rfl (step_mv rfl rfl) trivial ?_
  refine rl0 (gn rfl) rfl rfl (step_nilCheck rfl (ev_mk rfl) (.inl ⟨_, _, rfl⟩)) trivial ?_
  refine rl0 (gn rfl) rfl rfl (step_fieldAddr (off := 0) rfl (ev_mk rfl) Try.underlying57 rfl F.sz28 rfl) trivial ?_
  refine' rl0 (gn rfl) rfl rfl (step_load_one rfl (ev_mk rfl) F.one28 ?hv) ⟨?hb, trivial⟩ ?_
  case hb => repeat (first | exact uE | refine uN (by omega) ?_ | assumption | exact hd _ (by omega) | fail)
  case hv => rfl
  refine rl0 (gn rfl) rfl rfl (step_mv rfl rfl) trivial ?_
  refine rl0 (gn rfl) rfl rfl (step_slice_g (l := 0) (h := L) (q' := 0) (n' := L) rfl (ev_mk rfl) Try.underlying28 F.sz34 bndLo_none (bndHi_nat (a := L) rfl (by first | omega | (split <;> omega) | (first | (simp; done) | (simp; omega) | omega))) (by omega) (by omega) (by first | rfl | omega) (by first | rfl | omega)) trivial ?_
  refine rl0 (gn rfl) rfl rfl (step_nilCheck rfl (ev_mk rfl) (.inl ⟨_, _, rfl⟩)) trivial ?_
  refine rl0 (gn rfl) rfl rfl (step_fieldAddr (off := 0) rfl (ev_mk rfl) Try.underlying57 rfl F.sz28 rfl) trivial ?_
  refine' rls (gn rfl) rfl (step_store1 rfl rfl rfl rfl F.one28 rfl rfl ?hl ?hc) ⟨?hb, trivial⟩ ?hk ?_
  case hb => repeat (first | exact uE | refine uN (by omega) ?_ | assumption | exact hd _ (by omega) | fail)
  case hl => first | exact Nat.le_of_ble_eq_true rfl | decide | (simp; done) | (simp; omega) | (first | (simp; done) | (simp; omega) | omega)
  case hc => first | (simp only [List.set_cons_succ, List.set_cons_zero]; rfl) | rfl
  case hk => omega
  refine runsL_nil ?_
  refine runs_seq ?_
  refine runs_region ?_
  refine rl0 (gn rfl) rfl rfl (step_mv rfl rfl) trivial ?_
  refine rl0 (gn rfl) rfl rfl (step_nilCheck rfl (ev_mk rfl) (.inl ⟨_, _, rfl⟩)) trivial ?_
  refine rl0 (gn rfl) rfl rfl (step_fieldAddr (off := 2) rfl (ev_mk rfl) Try.underlying59 rfl F.sz3 rfl) trivial ?_
  refine' rls (gn rfl) rfl (step_store1 rfl rfl rfl rfl F.one3 rfl rfl ?hl ?hc) ⟨?hb, trivial⟩ ?hk ?_
  case hb => repeat (first | exact uE | refine uN (by omega) ?_ | assumption | exact hd _ (by omega) | fail)
  case hl => first | exact Nat.le_of_ble_eq_true rfl | decide | (simp; done) | (simp; omega) | (first | (simp; done) | (simp; omega) | omega)
  case hc => first | (simp only [List.set_cons_succ, List.set_cons_zero]; rfl) | rfl
  case hk => omega
  refine runsL_nil ?_
  refine runs_seq ?_
  refine runs_seq ?_
  refine runs_region ?_
  refine rl0 (gn rfl) rfl rfl (step_mv rfl rfl) trivial ?_
  refine rl0 (gn rfl) rfl rfl (step_mv rfl rfl) trivial ?_
  refine rl_lss (gn rfl) rfl rfl rfl rfl rfl (fun h1 => ?_) (fun h1 => ?_)
  rotate_left
  · exact False.elim (by omega)
  refine runsL_nil ?_
  refine runs_cond true (ev_mk rfl) (fun _ => ?_) (fun h_ => nomatch h_)
  refine runs_seq ?_
  refine runs_region ?_
  refine rl0 (gn rfl) rfl rfl (step_mv rfl rfl) trivial ?_
  refine rl0 (gn rfl) rfl rfl (step_mv rfl rfl) trivial ?_
  refine rl_fam (gn rfl) rfl rfl (step_callc rfl Try.func25 rfl rfl rfl (up_c kf (sw h j L) n0 hb gb v L M c j hj (by omega) (by omega) hs1_ hs2_ hne hhb hgb) (by repeat (first | exact .nil | refine .cons ?_ ?_ | exact VLe.refl _ | exact vle_int (by omega) | exact VLe.own_sl _ _ _ | exact VLe.fl_sl _ _ | exact VLe.nil_sl _ | exact VLe.nil_fl _ | refine VLe.agg ?_))) ⟨by repeat (first | exact uE | refine uN (by omega) ?_ | assumption | exact hd _ (by omega) | fail), by repeat (first | exact uE | refine uN (by omega) ?_ | assumption | exact hd _ (by omega) | fail), fam_ok (fam_rm (w := fun a => .sc (.int .i64 (kf (a)))) hfam0 hinj (by omega) (by repeat (first | exact uE | refine uN (by omega) ?_ | assumption | exact hd _ (by omega) | fail)) (fun _ => by repeat (first | exact uE | refine uN (by omega) ?_ | assumption | exact hd _ (by omega) | fail)) (fun a_ ha_ e1_ e2_ => by repeat (first | exact rfl | refine uN (by omega) ?_ | assumption | fail)))⟩ (by repeat (first | exact trivial | refine ⟨by omega, ?_⟩)) (by omega) (fun bz1 hfam1 hfz1 => ?_)
  simp only [upds] at hfz1
  refine runsL_nil ?_
  refine runs_region ?_
  refine rl0 (gn rfl) rfl rfl (step_mv rfl rfl) trivial ?_
  refine rl0 (gn rfl) rfl rfl (step_mv rfl rfl) trivial ?_
  refine rl_fam (gn rfl) rfl rfl (step_callc rfl Try.func28 rfl rfl rfl (down_c kf (upF kf j (sw h j L) j) n0 hb gb v L M c j hj (by omega) (by omega) (up_inj _ _ _ hj hs1_) (up_lt _ _ _ (by omega) hs2_) hne hhb hgb) (by repeat (first | exact .nil | refine .cons ?_ ?_ | exact VLe.refl _ | exact vle_int (by omega) | exact VLe.own_sl _ _ _ | exact VLe.fl_sl _ _ | exact VLe.nil_sl _ | exact VLe.nil_fl _ | refine VLe.agg ?_))) ⟨by repeat (first | exact uE | refine uN (by omega) ?_ | assumption | exact hd _ (by omega) | refine (hfz1 _ (by first | assumption | omega)).trans ?_ | fail), by repeat (first | exact uE | refine uN (by omega) ?_ | assumption | exact hd _ (by omega) | refine (hfz1 _ (by first | assumption | omega)).trans ?_ | fail), fam_ok hfam1⟩ (by repeat (first | exact trivial | refine ⟨by omega, ?_⟩)) (by omega) (fun bz2 hfam2 hfz2 => ?_)
  simp only [upds] at hfz2
  refine runsL_nil ?_
  refine runs_seq ?_
  refine runs_region ?_
  refine rl0 (gn rfl) rfl rfl (step_as rfl rfl) trivial ?_
  refine runsL_nil ?_
  refine runs_ret ?_
  refine ⟨by first | exact .inr rfl | exact .inl rfl, fin_fam (rest rfl res0) ?_ ?_ ?_ ?_ ?_ ?_ ?_⟩
  · (repeat' (first | exact VLe.refl _ | exact VLe.own_sl _ _ _ | exact VLe.fl_sl _ _ | exact VLe.nil_sl _ | exact VLe.nil_fl _ | exact VLes.refl _ | exact .nil | refine VLe.tup ?_ | refine VLe.agg ?_ | refine .cons ?_ ?_ | (rw [Int.natCast_add]; exact VLe.refl _) | exact vle_int (by omega) | exact vle_bool (by first | rfl | assumption | (simp_all; done) | fail) | fail))
  · first | ((repeat (first | exact trivial | exact rows_bd (dn_lt (by omega) _ _ _ hj (up_lt _ _ _ (by omega) hs2_)) hfn0 | assumption | omega | refine ⟨?_, ?_⟩ | fail)); done) | (repeat (first | exact trivial | assumption | omega | (refine bdR_map (fun _ => ?_)) | (refine bdL_map (fun _ => ?_)) | refine ⟨?_, ?_⟩ | fail))
  · exact hfam2
  · intro k_ hk_ hq_; simp only [upds]; by_cases e_ : k_ = gb; (focus subst e_; refine bl_eq ?_; first | (refine ble ?_; (repeat (first | exact uE | assumption | refine uN (by omega) ?_ | refine (hfz1 _ (by first | assumption | omega)).trans ?_ | refine (hfz2 _ (by first | assumption | omega)).trans ?_ | fail)); done) | (refine' blec ?hb ?hl; (case hb => repeat (first | exact uE | assumption | refine uN (by omega) ?_ | refine (hfz1 _ (by first | assumption | omega)).trans ?_ | refine (hfz2 _ (by first | assumption | omega)).trans ?_ | fail)); (case hl => first | exact VLes.refl _ | ((repeat' (first | exact VLe.refl _ | exact VLe.own_sl _ _ _ | exact VLe.fl_sl _ _ | exact VLe.nil_sl _ | exact VLe.nil_fl _ | exact VLes.refl _ | exact .nil | refine VLe.tup ?_ | refine VLe.agg ?_ | refine .cons ?_ ?_ | (rw [Int.natCast_add]; exact VLe.refl _) | exact vle_int (by omega) | exact vle_bool (by first | rfl | assumption | (simp_all; done) | fail) | fail)); done)))); refine bl_ne e_ ?_; by_cases e_ : k_ = hb; (focus subst e_; refine bl_eq ?_; first | (refine ble ?_; (repeat (first | exact uE | assumption | refine uN (by omega) ?_ | refine (hfz1 _ (by first | assumption | omega)).trans ?_ | refine (hfz2 _ (by first | assumption | omega)).trans ?_ | fail)); done) | (refine' blec ?hb ?hl; (case hb => repeat (first | exact uE | assumption | refine uN (by omega) ?_ | refine (hfz1 _ (by first | assumption | omega)).trans ?_ | refine (hfz2 _ (by first | assumption | omega)).trans ?_ | fail)); (case hl => first | exact VLes.refl _ | ((repeat' (first | exact VLe.refl _ | exact VLe.own_sl _ _ _ | exact VLe.fl_sl _ _ | exact VLe.nil_sl _ | exact VLe.nil_fl _ | exact VLes.refl _ | exact .nil | refine VLe.tup ?_ | refine VLe.agg ?_ | refine .cons ?_ ?_ | (rw [Int.natCast_add]; exact VLe.refl _) | exact vle_int (by omega) | exact vle_bool (by first | rfl | assumption | (simp_all; done) | fail) | fail)); done)))); refine bl_ne e_ ?_; exact ble (by repeat (first | exact rfl | refine uN (by omega) ?_ | assumption | refine (hfz1 _ (by first | assumption | omega)).trans ?_ | refine (hfz2 _ (by first | assumption | omega)).trans ?_ | fail))
  · intro p hp cs hcs; simp only [List.mem_cons, List.not_mem_nil, or_false] at hp; (first | (cases hp; done) | (rcases hp with rfl | rfl) | (rcases hp with rfl)) <;> (first | (cases hcs; done) | (cases hcs; (first | ((repeat (first | exact trivial | exact rows_bd (dn_lt (by omega) _ _ _ hj (up_lt _ _ _ (by omega) hs2_)) hfn0 | assumption | omega | refine ⟨?_, ?_⟩ | fail)); done) | (repeat (first | exact trivial | assumption | omega | (refine bdR_map (fun _ => ?_)) | (refine bdL_map (fun _ => ?_)) | refine ⟨?_, ?_⟩ | fail)))))
  · intro a_ ha_; exact ⟨trivial, trivial, trivial, trivial⟩
  · first | ((repeat (first | exact trivial | exact rows_bd (dn_lt (by omega) _ _ _ hj (up_lt _ _ _ (by omega) hs2_)) hfn0 | assumption | omega | refine ⟨?_, ?_⟩ | fail)); done) | (repeat (first | exact trivial | assumption | omega | (refine bdR_map (fun _ => ?_)) | (refine bdL_map (fun _ => ?_)) | refine ⟨?_, ?_⟩ | fail))
set_option maxRecDepth 100000 in
set_option maxHeartbeats 4000000 in
theorem remove_l (kf : Nat → Int) (h : Nat → Nat) (n0 hb gb v L M c : Nat) (hLM : L + 1 ≤ M) (hLb : L < 999999) (hinj : InjH h (L + 1)) (hc : ∀ i, i < M → h i < c) (hne : hb ≠ gb) (hhb : hb < n0) (hgb : gb < n0) : Does Try.prog 13 [.ref hb 0, .ref (n0 + h L) 0] ([(hb, .cells [.gsl gb v 0 (L + 1) 1, .sc (.func (.func 8) #[] #[]), .sc (.int .i64 (c : Int))]), (gb, .gcells v 1 (rowsH n0 h M))] ++ famL n0 c (itC kf h (L + 1))) ([(hb, .cells [.gsl gb v 0 L 1, .sc (.func (.func 8) #[] #[]), .sc (.int .i64 (c : Int))]), (gb, .gcells v 1 (rowsH n0 h M))] ++ famL n0 c (itC kf h L)) (.sc (.bool true)) := by
  refine does_mkg 40 Try.func13 rfl rfl rfl (fun n B bx hd hpre hup hvs hbx hgx => ?_)
  have hp0 := hpre.1
  have hk0 := lt_cells hd hp0
  have hp1 := hpre.2.1
  have hk1 := lt_gcells hd hp1
  have hu0 := hup.1
  have hu1 := hup.2.1
  have hfam0 := fam_of hpre.2.2
  have hfn0 := fam_lt hd hfam0
  have hfu0 := uplt_fam hup.2.2
  have hrl_ := rowsH_len n0 h M
  have hLa_ := hc L (by omega)
  have hxL_ : bx (n0 + h L) = .cells [.sc (.int .i64 (kf (h L))), .sc (.int .i64 ((h L : Nat) : Int)), .sc (.int .i64 (L : Int))] := (hfam0 _ hLa_).trans (itC_at hinj (by omega))
  refine runs_seq ?_
  refine runs_region ?_
  refine rl0 (gn rfl) rfl rfl (step_as rfl rfl) trivial ?_
  refine runsL_nil ?_
  refine runs_seq ?_
  refine runs_seq ?_
  refine runs_region ?_
  refine rl0 (gn rfl) rfl rfl (step_mv rfl rfl) trivial ?_
  refine rl0 (gn rfl) rfl rfl (step_mv rfl rfl) trivial ?_
  refine rl0 (gn rfl) rfl rfl (step_callc rfl Try.func26 rfl rfl rfl (mine_y kf h n0 hb gb v (L + 1) M c L (by omega) hLM) (by repeat (first | exact .nil | refine .cons ?_ ?_ | exact VLe.refl _ | exact vle_int (by omega) | exact VLe.own_sl _ _ _ | exact VLe.fl_sl _ _ | exact VLe.nil_sl _ | exact VLe.nil_fl _ | refine VLe.agg ?_))) ⟨by repeat (first | exact uE | refine uN (by omega) ?_ | assumption | exact hd _ (by omega) | fail), by repeat (first | exact uE | refine uN (by omega) ?_ | assumption | exact hd _ (by omega) | fail), by repeat (first | exact uE | refine uN (by omega) ?_ | assumption | exact hd _ (by omega) | fail), trivial⟩ ?_
  refine rl0 (gn rfl) rfl rfl (step_unOp (c := .bool false) rfl (ev_mk rfl) (fun _ => rfl)) trivial ?_
  refine runsL_nil ?_
  refine runs_cond false (ev_mk rfl) (fun h_ => nomatch h_) (fun _ => ?_)
  refine runs_skip ?_
  refine runs_seq ?_
  refine runs_draw (by kernel_rfl) (by kernel_rfl) (by kernel_rfl) ?_
  refine dl0 (gn rfl) rfl rfl (step_mv rfl rfl) trivial ?_
  refine dl0 (gn rfl) rfl rfl (step_nilCheck rfl (ev_mk rfl) (.inl ⟨_, _, rfl⟩)) trivial ?_
  refine dl0 (gn rfl) rfl rfl (step_fieldAddr (off := 2) rfl (ev_mk rfl) Try.underlying59 rfl F.sz3 rfl) trivial ?_
  refine' dl0 (gn rfl) rfl rfl (step_load_one rfl (ev_mk rfl) F.one3 ?hv) ⟨?hb, trivial⟩ ?_
  case hb => repeat (first | exact uE | refine uN (by omega) ?_ | assumption | exact hd _ (by omega) | fail)
  case hv => rfl
  refine dl0 (gn rfl) rfl rfl (step_mv rfl rfl) trivial ?_
  refine dl0 (gn rfl) rfl rfl (step_nilCheck rfl (ev_mk rfl) (.inl ⟨_, _, rfl⟩)) trivial ?_
  refine dl0 (gn rfl) rfl rfl (step_fieldAddr (off := 0) rfl (ev_mk rfl) Try.underlying57 rfl F.sz28 rfl) trivial ?_
  refine' dl0 (gn rfl) rfl rfl (step_load_one rfl (ev_mk rfl) F.one28 ?hv) ⟨?hb, trivial⟩ ?_
  case hb => repeat (first | exact uE | refine uN (by omega) ?_ | assumption | exact hd _ (by omega) | fail)
  case hv => rfl
  refine dl0 (gn rfl) rfl rfl (step_len_g rfl rfl (ev_mk rfl) Try.underlying28) trivial ?_
  refine dl0 (gn rfl) rfl rfl (step_sub rfl (ev_mk rfl) (ev_mk rfl) (w64 (by omega))) trivial ?_
  refine dl0 (gn rfl) rfl rfl (step_as rfl rfl) trivial ?_
  refine dl0 (gn rfl) rfl rfl (step_as rfl rfl) trivial ?_
  refine dlnil ?_ ?_
  · repeat' (first | exact trivial | exact .inr (ap0 _ _ _ _) | exact .inr (ap2 _ _ _ _) | exact .inr (ap3 _ _ _ _) | exact .inr ⟨by first | (simp; done) | (simp; omega), by first | (simp; done) | (simp; omega)⟩ | exact .inl (by kernel_rfl) | refine ⟨?_, ?_⟩ | fail)
  refine runs_seq ?_
  refine runs_region ?_
  refine rl0 (gn rfl) rfl rfl (step_mv rfl rfl) trivial ?_
  refine rl0 (gn rfl) rfl rfl (step_mv rfl rfl) trivial ?_
  refine rl0 (gn rfl) rfl rfl (step_mv rfl rfl) trivial ?_
  refine rl2 (gn rfl) rfl rfl (step_callc rfl Try.func27 rfl rfl rfl (swap1_c kf h n0 hb gb v (L + 1) M c L (L : Int) (by omega) hLM hne hhb hgb) (by repeat (first | exact .nil | refine .cons ?_ ?_ | exact VLe.refl _ | exact vle_int (by omega) | exact VLe.own_sl _ _ _ | exact VLe.fl_sl _ _ | exact VLe.nil_sl _ | exact VLe.nil_fl _ | refine VLe.agg ?_))) ⟨by repeat (first | exact uE | refine uN (by omega) ?_ | assumption | exact hd _ (by omega) | fail), by repeat (first | exact uE | refine uN (by omega) ?_ | assumption | exact hd _ (by omega) | fail), by repeat (first | exact uE | refine uN (by omega) ?_ | assumption | exact hd _ (by omega) | fail), trivial⟩ (by omega) (by omega) ?_
  refine runsL_nil ?_
  refine runs_seq ?_
  refine runs_region ?_
  refine rl0 (gn rfl) rfl rfl (step_mv rfl rfl) trivial ?_
  refine rl0 (gn rfl) rfl rfl (step_mv rfl rfl) trivial ?_
  refine rl0 (gn rfl) rfl rfl (step_nilCheck rfl (ev_mk rfl) (.inl ⟨_, _, rfl⟩)) trivial ?_
  refine rl0 (gn rfl) rfl rfl (step_fieldAddr (off := 0) rfl (ev_mk rfl) Try.underlying57 rfl F.sz28 rfl) trivial ?_
  refine' rl0 (gn rfl) rfl rfl (step_load_one rfl (ev_mk rfl) F.one28 ?hv) ⟨?hb, trivial⟩ ?_
  case hb => repeat (first | exact uE | refine uN (by omega) ?_ | assumption | exact hd _ (by omega) | fail)
  case hv => rfl
  refine rl0 (gn rfl) rfl rfl (step_mv rfl rfl) trivial ?_
  refine rl0 (gn rfl) rfl rfl (step_slice_g (l := 0) (h := L) (q' := 0) (n' := L) rfl (ev_mk rfl) Try.underlying28 F.sz34 bndLo_none (bndHi_nat (a := L) rfl (by first | omega | (split <;> omega) | (first | (simp; done) | (simp; omega) | omega))) (by omega) (by omega) (by first | rfl | omega) (by first | rfl | omega)) trivial ?_
  refine rl0 (gn rfl) rfl rfl (step_nilCheck rfl (ev_mk rfl) (.inl ⟨_, _, rfl⟩)) trivial ?_
  refine rl0 (gn rfl) rfl rfl (step_fieldAddr (off := 0) rfl (ev_mk rfl) Try.underlying57 rfl F.sz28 rfl) trivial ?_
  refine' rls (gn rfl) rfl (step_store1 rfl rfl rfl rfl F.one28 rfl rfl ?hl ?hc) ⟨?hb, trivial⟩ ?hk ?_
  case hb => repeat (first | exact uE | refine uN (by omega) ?_ | assumption | exact hd _ (by omega) | fail)
  case hl => first | exact Nat.le_of_ble_eq_true rfl | decide | (simp; done) | (simp; omega) | (first | (simp; done) | (simp; omega) | omega)
  case hc => first | (simp only [List.set_cons_succ, List.set_cons_zero]; rfl) | rfl
  case hk => omega
  refine runsL_nil ?_
  refine runs_seq ?_
  refine runs_region ?_
  refine rl0 (gn rfl) rfl rfl (step_mv rfl rfl) trivial ?_
  refine rl0 (gn rfl) rfl rfl (step_nilCheck rfl (ev_mk rfl) (.inl ⟨_, _, rfl⟩)) trivial ?_
  refine rl0 (gn rfl) rfl rfl (step_fieldAddr (off := 2) rfl (ev_mk rfl) Try.underlying59 rfl F.sz3 rfl) trivial ?_
  refine' rls (gn rfl) rfl (step_store1 rfl rfl rfl rfl F.one3 rfl rfl ?hl ?hc) ⟨?hb, trivial⟩ ?hk ?_
  case hb => repeat (first | exact uE | refine uN (by omega) ?_ | assumption | exact hd _ (by omega) | fail)
  case hl => first | exact Nat.le_of_ble_eq_true rfl | decide | (simp; done) | (simp; omega) | (first | (simp; done) | (simp; omega) | omega)
  case hc => first | (simp only [List.set_cons_succ, List.set_cons_zero]; rfl) | rfl
  case hk => omega
  refine runsL_nil ?_
  refine runs_seq ?_
  refine runs_seq ?_
  refine runs_region ?_
  refine rl0 (gn rfl) rfl rfl (step_mv rfl rfl) trivial ?_
  refine rl0 (gn rfl) rfl rfl (step_mv rfl rfl) trivial ?_
  refine rl_lss (gn rfl) rfl rfl rfl rfl rfl (fun h1 => ?_) (fun h1 => ?_)
  · exact False.elim (by omega)
  refine runsL_nil ?_
  refine runs_cond false (ev_mk rfl) (fun h_ => nomatch h_) (fun _ => ?_)
  refine runs_skip ?_
  refine runs_seq ?_
  refine runs_region ?_
  refine rl0 (gn rfl) rfl rfl (step_as rfl rfl) trivial ?_
  refine runsL_nil ?_
  refine runs_ret ?_
  refine ⟨by first | exact .inr rfl | exact .inl rfl, fin_fam (rest rfl res0) ?_ ?_ ?_ ?_ ?_ ?_ ?_⟩
  · (repeat' (first | exact VLe.refl _ | exact VLe.own_sl _ _ _ | exact VLe.fl_sl _ _ | exact VLe.nil_sl _ | exact VLe.nil_fl _ | exact VLes.refl _ | exact .nil | refine VLe.tup ?_ | refine VLe.agg ?_ | refine .cons ?_ ?_ | (rw [Int.natCast_add]; exact VLe.refl _) | exact vle_int (by omega) | exact vle_bool (by first | rfl | assumption | (simp_all; done) | fail) | fail))
  · first | ((repeat (first | exact trivial | exact rows_bd hc hfn0 | assumption | omega | refine ⟨?_, ?_⟩ | fail)); done) | (repeat (first | exact trivial | assumption | omega | (refine bdR_map (fun _ => ?_)) | (refine bdL_map (fun _ => ?_)) | refine ⟨?_, ?_⟩ | fail))
  · exact fam_rmL (w := fun a => .sc (.int .i64 (kf (a)))) hfam0 hinj (by repeat (first | exact uE | refine uN (by omega) ?_ | assumption | exact hd _ (by omega) | fail)) (fun a_ ha_ e1_ => by repeat (first | exact rfl | refine uN (by omega) ?_ | assumption | fail))
  · intro k_ hk_ hq_; simp only [upds]; by_cases e_ : k_ = gb; (focus subst e_; refine bl_eq ?_; first | (refine ble ?_; (repeat (first | exact uE | assumption | refine uN (by omega) ?_ | fail)); done) | (refine' blec ?hb ?hl; (case hb => repeat (first | exact uE | assumption | refine uN (by omega) ?_ | fail)); (case hl => first | exact VLes.refl _ | ((repeat' (first | exact VLe.refl _ | exact VLe.own_sl _ _ _ | exact VLe.fl_sl _ _ | exact VLe.nil_sl _ | exact VLe.nil_fl _ | exact VLes.refl _ | exact .nil | refine VLe.tup ?_ | refine VLe.agg ?_ | refine .cons ?_ ?_ | (rw [Int.natCast_add]; exact VLe.refl _) | exact vle_int (by omega) | exact vle_bool (by first | rfl | assumption | (simp_all; done) | fail) | fail)); done)))); refine bl_ne e_ ?_; by_cases e_ : k_ = hb; (focus subst e_; refine bl_eq ?_; first | (refine ble ?_; (repeat (first | exact uE | assumption | refine uN (by omega) ?_ | fail)); done) | (refine' blec ?hb ?hl; (case hb => repeat (first | exact uE | assumption | refine uN (by omega) ?_ | fail)); (case hl => first | exact VLes.refl _ | ((repeat' (first | exact VLe.refl _ | exact VLe.own_sl _ _ _ | exact VLe.fl_sl _ _ | exact VLe.nil_sl _ | exact VLe.nil_fl _ | exact VLes.refl _ | exact .nil | refine VLe.tup ?_ | refine VLe.agg ?_ | refine .cons ?_ ?_ | (rw [Int.natCast_add]; exact VLe.refl _) | exact vle_int (by omega) | exact vle_bool (by first | rfl | assumption | (simp_all; done) | fail) | fail)); done)))); refine bl_ne e_ ?_; exact ble (by repeat (first | exact rfl | refine uN (by omega) ?_ | assumption | fail))
  · intro p hp cs hcs; simp only [List.mem_cons, List.not_mem_nil, or_false] at hp; (first | (cases hp; done) | (rcases hp with rfl | rfl) | (rcases hp with rfl)) <;> (first | (cases hcs; done) | (cases hcs; (first | ((repeat (first | exact trivial | exact rows_bd hc hfn0 | assumption | omega | refine ⟨?_, ?_⟩ | fail)); done) | (repeat (first | exact trivial | assumption | omega | (refine bdR_map (fun _ => ?_)) | (refine bdL_map (fun _ => ?_)) | refine ⟨?_, ?_⟩ | fail)))))
  · intro a_ ha_; exact ⟨trivial, trivial, trivial, trivial⟩
  · first | ((repeat (first | exact trivial | exact rows_bd hc hfn0 | assumption | omega | refine ⟨?_, ?_⟩ | fail)); done) | (repeat (first | exact trivial | assumption | omega | (refine bdR_map (fun _ => ?_)) | (refine bdL_map (fun _ => ?_)) | refine ⟨?_, ?_⟩ | fail))
theorem remove_c (kf : Nat → Int) (h : Nat → Nat) (n0 hb gb v L M c j : Nat) (hj : j < L + 1) (hLM : L + 1 ≤ M) (hLb : L < 999999) (hinj : InjH h (L + 1)) (hc : ∀ i, i < M → h i < c) (hne : hb ≠ gb) (hhb : hb < n0) (hgb : gb < n0) : Does Try.prog 13 [.ref hb 0, .ref (n0 + h j) 0] ([(hb, .cells [.gsl gb v 0 (L + 1) 1, .sc (.func (.func 8) #[] #[]), .sc (.int .i64 (c : Int))]), (gb, .gcells v 1 (rowsH n0 h M))] ++ famL n0 c (itC kf h (L + 1))) ([(hb, .cells [.gsl gb v 0 L 1, .sc (.func (.func 8) #[] #[]), .sc (.int .i64 (c : Int))]), (gb, .gcells v 1 (rowsH n0 (rmF kf h L j) M))] ++ famL n0 c (itC kf (rmF kf h L j) L)) (.sc (.bool true)) := by
  by_cases q : j < L
  · rw [show rmF kf h L j = (dnF kf L L (upF kf j (sw h j L) j) j) from if_pos q]; exact remove_y kf h n0 hb gb v L M c j q hLM hLb hinj hc hne hhb hgb
  · obtain rfl : j = L := by omega
    rw [show rmF kf h j j = h from if_neg q]; exact remove_l kf h n0 hb gb v j M c hLM hLb hinj hc hne hhb hgb
theorem remove_a (kf : Nat → Int) (h : Nat → Nat) (n0 hb gb v L M c j : Nat) (a : Nat) (ha : h j = a) (hj : j < L + 1) (hLM : L + 1 ≤ M) (hLb : L < 999999) (hinj : InjH h (L + 1)) (hc : ∀ i, i < M → h i < c) (hne : hb ≠ gb) (hhb : hb < n0) (hgb : gb < n0) : Does Try.prog 13 [.ref hb 0, .ref (n0 + a) 0] ([(hb, .cells [.gsl gb v 0 (L + 1) 1, .sc (.func (.func 8) #[] #[]), .sc (.int .i64 (c : Int))]), (gb, .gcells v 1 (rowsH n0 h M))] ++ famL n0 c (itC kf h (L + 1))) ([(hb, .cells [.gsl gb v 0 L 1, .sc (.func (.func 8) #[] #[]), .sc (.int .i64 (c : Int))]), (gb, .gcells v 1 (rowsH n0 (rmF kf h L j) M))] ++ famL n0 c (itC kf (rmF kf h L j) L)) (.sc (.bool true)) := by
  subst ha; exact remove_c kf h n0 hb gb v L M c j hj hLM hLb hinj hc hne hhb hgb
set_option maxRecDepth 100000 in
set_option maxHeartbeats 4000000 in
theorem remove_n (kf : Nat → Int) (n0 hb gb v L c a : Nat) : Does Try.prog 13 [.ref hb 0, .ref (n0 + a) 0] [(hb, .cells [.gsl gb v 0 L 1, .sc (.func (.func 8) #[] #[]), .sc (.int .i64 (c : Int))]), (n0 + a, .cells [.sc (.int .i64 (kf (a))), .sc (.int .i64 ((a : Nat) : Int)), .sc (.int .i64 (-1))])] [] (.sc (.bool false)) := by
  refine does_mkg 40 Try.func13 rfl rfl rfl (fun n B bx hd hpre hup hvs hbx hgx => ?_)
  have hp0 := hpre.1
  have hk0 := lt_cells hd hp0
  have hp1 := hpre.2.1
  have hk1 := lt_cells hd hp1
  refine runs_seq ?_
  refine runs_region ?_
  refine rl0 (gn rfl) rfl rfl (step_as rfl rfl) trivial ?_
  refine runsL_nil ?_
  refine runs_seq ?_
  refine runs_seq ?_
  refine runs_region ?_
  refine rl0 (gn rfl) rfl rfl (step_mv rfl rfl) trivial ?_
  refine rl0 (gn rfl) rfl rfl (step_mv rfl rfl) trivial ?_
  refine rl0 (gn rfl) rfl rfl (step_callc rfl Try.func26 rfl rfl rfl (mine_n kf n0 hb gb v L c a) (by repeat (first | exact .nil | refine .cons ?_ ?_ | exact VLe.refl _ | exact VLe.own_sl _ _ _ | exact VLe.fl_sl _ _ | exact VLe.nil_sl _ | exact VLe.nil_fl _ | refine VLe.agg ?_))) ⟨by repeat (first | exact uE | refine uN (by omega) ?_ | assumption | exact hd _ (by omega) | fail), by repeat (first | exact uE | refine uN (by omega) ?_ | assumption | exact hd _ (by omega) | fail), trivial⟩ ?_
  refine rl0 (gn rfl) rfl rfl (step_unOp (c := .bool true) rfl (ev_mk rfl) (fun _ => rfl)) trivial ?_
  refine runsL_nil ?_
  refine runs_cond true (ev_mk rfl) (fun _ => ?_) (fun h_ => nomatch h_)
  refine runs_seq ?_
  refine runs_region ?_
  refine rl0 (gn rfl) rfl rfl (step_as rfl rfl) trivial ?_
  refine runsL_nil ?_
  refine runs_ret ?_
  refine ⟨by first | exact .inr rfl | exact .inl rfl, fin_mkg (rest rfl res0) ?_ ?_ ?_ ?_ ?_⟩
  · (repeat' (first | exact VLe.refl _ | exact VLe.own_sl _ _ _ | exact VLe.fl_sl _ _ | exact VLe.nil_sl _ | exact VLe.nil_fl _ | exact VLes.refl _ | exact .nil | refine VLe.tup ?_ | refine VLe.agg ?_ | refine .cons ?_ ?_ | (rw [Int.natCast_add]; exact VLe.refl _) | exact vle_int (by omega) | exact vle_bool (by first | rfl | assumption | (simp_all; done) | fail) | fail))
  · repeat (first | exact trivial | assumption | omega | (refine bdR_map (fun _ => ?_)) | (refine bdL_map (fun _ => ?_)) | refine ⟨?_, ?_⟩ | fail)
  · intro k_ hk_; exact ble (by repeat (first | exact rfl | refine uN (by omega) ?_ | assumption | fail))
  · intro p hp; cases hp
  · repeat (first | exact trivial | assumption | omega | (refine bdR_map (fun _ => ?_)) | (refine bdL_map (fun _ => ?_)) | refine ⟨?_, ?_⟩ | fail)
set_option maxRecDepth 100000 in
set_option maxHeartbeats 4000000 in
theorem change_y (kf kg : Nat → Int) (h : Nat → Nat) (n0 hb gb v L M c j : Nat) (hj : j < L) (hLM : L ≤ M) (hLb : L < 999999) (hinj : InjH h L) (hc : ∀ i, i < M → h i < c) (hkg : ∀ v, v ≠ h j → kf v = kg v) (hne : hb ≠ gb) (hhb : hb < n0) (hgb : gb < n0) : Does Try.prog 14 [.ref hb 0, .ref (n0 + h j) 0, .sc (.int .i64 (kg (h j)))] ([(hb, .cells [.gsl gb v 0 L 1, .sc (.func (.func 8) #[] #[]), .sc (.int .i64 (c : Int))]), (gb, .gcells v 1 (rowsH n0 h M))] ++ famL n0 c (itC kf h L)) ([(gb, .gcells v 1 (rowsH n0 (chF kg h L j) M))] ++ famL n0 c (itC kg (chF kg h L j) L)) (.sc (.bool true)) := by
  refine does_mkg 40 Try.func14 rfl rfl rfl (fun n B bx hd hpre hup hvs hbx hgx => ?_)
  have hp0 := hpre.1
  have hk0 := lt_cells hd hp0
  have hp1 := hpre.2.1
  have hk1 := lt_gcells hd hp1
  have hu0 := hup.1
  have hfam0 := fam_of hpre.2.2
  have hfn0 := fam_lt hd hfam0
  have hfu0 := uplt_fam hup.2
  have hrl_ := rowsH_len n0 h M
  have hja_ := hc j (by omega)
  have hcp_ := ch_pos (kf := kg) (h := h) hj
  have hxj_ : bx (n0 + h j) = .cells [.sc (.int .i64 (kf (h j))), .sc (.int .i64 ((h j : Nat) : Int)), .sc (.int .i64 (j : Int))] := (hfam0 _ hja_).trans (itC_at hinj (by omega))
  refine runs_seq ?_
  refine runs_region ?_
  refine rl0 (gn rfl) rfl rfl (step_as rfl rfl) trivial ?_
  refine runsL_nil ?_
  refine runs_seq ?_
  refine runs_seq ?_
  refine runs_region ?_
  refine rl0 (gn rfl) rfl rfl (step_mv rfl rfl) trivial ?_
  refine rl0 (gn rfl) rfl rfl (step_mv rfl rfl) trivial ?_
  refine rl0 (gn rfl) rfl rfl (step_callc rfl Try.func26 rfl rfl rfl (mine_y kf h n0 hb gb v L M c j hj hLM) (by repeat (first | exact .nil | refine .cons ?_ ?_ | exact VLe.refl _ | exact vle_int (by omega) | exact VLe.own_sl _ _ _ | exact VLe.fl_sl _ _ | exact VLe.nil_sl _ | exact VLe.nil_fl _ | refine VLe.agg ?_))) ⟨by repeat (first | exact uE | refine uN (by omega) ?_ | assumption | exact hd _ (by omega) | fail), by repeat (first | exact uE | refine uN (by omega) ?_ | assumption | exact hd _ (by omega) | fail), by repeat (first | exact uE | refine uN (by omega) ?_ | assumption | exact hd _ (by omega) | fail), trivial⟩ ?_
  refine rl0 (gn rfl) rfl rfl (step_unOp (c := .bool false) rfl (ev_mk rfl) (fun _ => rfl)) trivial ?_
  refine runsL_nil ?_
  refine runs_cond false (ev_mk rfl) (fun h_ => nomatch h_) (fun _ => ?_)
  refine runs_skip ?_
  refine runs_seq ?_
  refine runs_region ?_
  refine rl0 (gn rfl) rfl rfl (step_mv rfl rfl) trivial ?_
  refine rl0 (gn rfl) rfl rfl (step_mv rfl rfl) trivial ?_
  refine rl0 (gn rfl) rfl rfl (step_nilCheck rfl (ev_mk rfl) (.inl ⟨_, _, rfl⟩)) trivial ?_
  refine rl0 (gn rfl) rfl rfl (step_fieldAddr (off := 0) rfl (ev_mk rfl) Try.underlying59 rfl F.sz3 rfl) trivial ?_
  refine' rls (gn rfl) rfl (step_store1 rfl rfl rfl rfl F.one3 rfl rfl ?hl ?hc) ⟨?hb, trivial⟩ ?hk ?_
  case hb => repeat (first | exact uE | refine uN (by omega) ?_ | assumption | exact hd _ (by omega) | fail)
  case hl => first | exact Nat.le_of_ble_eq_true rfl | decide | (simp; done) | (simp; omega) | (first | (simp; done) | (simp; omega) | omega)
  case hc => first | (simp only [List.set_cons_succ, List.set_cons_zero]; rfl) | rfl
  case hk => omega
  refine runsL_nil ?_
  refine runs_seq ?_
  refine runs_region ?_
  refine rl0 (gn rfl) rfl rfl (step_mv rfl rfl) trivial ?_
  refine rl0 (gn rfl) rfl rfl (step_mv rfl rfl) trivial ?_
  refine rl0 (gn rfl) rfl rfl (step_nilCheck rfl (ev_mk rfl) (.inl ⟨_, _, rfl⟩)) trivial ?_
  refine rl0 (gn rfl) rfl rfl (step_fieldAddr (off := 2) rfl (ev_mk rfl) Try.underlying59 rfl F.sz3 rfl) trivial ?_
  refine' rl0 (gn rfl) rfl rfl (step_load_one rfl (ev_mk rfl) F.one3 ?hv) ⟨?hb, trivial⟩ ?_
  case hb => repeat (first | exact uE | refine uN (by omega) ?_ | assumption | exact hd _ (by omega) | fail)
  case hv => rfl
  refine rl_fam (gn rfl) rfl rfl (step_callc rfl Try.func25 rfl rfl rfl (up_c kg h n0 hb gb v L M c j hj hLM (by omega) hinj hc hne hhb hgb) (by repeat (first | exact .nil | refine .cons ?_ ?_ | exact VLe.refl _ | exact vle_int (by omega) | exact VLe.own_sl _ _ _ | exact VLe.fl_sl _ _ | exact VLe.nil_sl _ | exact VLe.nil_fl _ | refine VLe.agg ?_))) ⟨by repeat (first | exact uE | refine uN (by omega) ?_ | assumption | exact hd _ (by omega) | fail), by repeat (first | exact uE | refine uN (by omega) ?_ | assumption | exact hd _ (by omega) | fail), fam_ok (fam_ch (w := fun a => .sc (.int .i64 (kf a))) (w' := fun a => .sc (.int .i64 (kg a))) (q := h j) hfam0 (fun a_ ha_ => by rw [hkg a_ ha_]) (by rw [pos_at hinj hj]; (repeat (first | exact uE | refine uN (by omega) ?_ | assumption | exact hd _ (by omega) | fail))) (fun a_ ha_ e1_ => by repeat (first | exact rfl | refine uN (by omega) ?_ | assumption | fail)))⟩ (by repeat (first | exact trivial | refine ⟨by omega, ?_⟩)) (by omega) (fun bz1 hfam1 hfz1 => ?_)
  simp only [upds] at hfz1
  refine runsL_nil ?_
  refine runs_seq ?_
  have hx5_ : bz1 (n0 + h j) = .cells [.sc (.int .i64 (kg (h j))), .sc (.int .i64 ((h j : Nat) : Int)), .sc (.int .i64 (posF (upF kg j h j) L (h j)))] := hfam1 _ hja_
  refine runs_region ?_
  refine rl0 (gn rfl) rfl rfl (step_mv rfl rfl) trivial ?_
  refine rl0 (gn rfl) rfl rfl (step_mv rfl rfl) trivial ?_
  refine rl0 (gn rfl) rfl rfl (step_nilCheck rfl (ev_mk rfl) (.inl ⟨_, _, rfl⟩)) trivial ?_
  refine rl0 (gn rfl) rfl rfl (step_fieldAddr (off := 2) rfl (ev_mk rfl) Try.underlying59 rfl F.sz3 rfl) trivial ?_
  refine' rl0 (gn rfl) rfl rfl (step_load_one rfl (ev_mk rfl) F.one3 ?hv) ⟨?hb, trivial⟩ ?_
  case hb => repeat (first | exact uE | refine uN (by omega) ?_ | assumption | exact hd _ (by omega) | refine (hfz1 _ (by first | assumption | omega)).trans ?_ | fail)
  case hv => rfl
  refine rl_fam (gn rfl) rfl rfl (step_callc rfl Try.func28 rfl rfl rfl (down_c kg (upF kg j h j) n0 hb gb v L M c ((posF (upF kg j h j) L (h j)).toNat) (by omega) hLM (by omega) (up_inj _ _ _ hj hinj) (up_lt _ _ _ (by omega) hc) hne hhb hgb) (by repeat (first | exact .nil | refine .cons ?_ ?_ | exact VLe.refl _ | exact vle_int (by omega) | exact VLe.own_sl _ _ _ | exact VLe.fl_sl _ _ | exact VLe.nil_sl _ | exact VLe.nil_fl _ | refine VLe.agg ?_))) ⟨by repeat (first | exact uE | refine uN (by omega) ?_ | assumption | exact hd _ (by omega) | refine (hfz1 _ (by first | assumption | omega)).trans ?_ | fail), by repeat (first | exact uE | refine uN (by omega) ?_ | assumption | exact hd _ (by omega) | refine (hfz1 _ (by first | assumption | omega)).trans ?_ | fail), fam_ok hfam1⟩ (by repeat (first | exact trivial | refine ⟨by omega, ?_⟩)) (by omega) (fun bz2 hfam2 hfz2 => ?_)
  simp only [upds] at hfz2
  refine runsL_nil ?_
  refine runs_seq ?_
  refine runs_region ?_
  refine rl0 (gn rfl) rfl rfl (step_as rfl rfl) trivial ?_
  refine runsL_nil ?_
  refine runs_ret ?_
  refine ⟨by first | exact .inr rfl | exact .inl rfl, fin_fam (rest rfl res0) ?_ ?_ ?_ ?_ ?_ ?_ ?_⟩
  · (repeat' (first | exact VLe.refl _ | exact VLe.own_sl _ _ _ | exact VLe.fl_sl _ _ | exact VLe.nil_sl _ | exact VLe.nil_fl _ | exact VLes.refl _ | exact .nil | refine VLe.tup ?_ | refine VLe.agg ?_ | refine .cons ?_ ?_ | (rw [Int.natCast_add]; exact VLe.refl _) | exact vle_int (by omega) | exact vle_bool (by first | rfl | assumption | (simp_all; done) | fail) | fail))
  · first | ((repeat (first | exact trivial | exact rows_bd (ch_lt hLM hj hc) hfn0 | assumption | omega | refine ⟨?_, ?_⟩ | fail)); done) | (repeat (first | exact trivial | assumption | omega | (refine bdR_map (fun _ => ?_)) | (refine bdL_map (fun _ => ?_)) | refine ⟨?_, ?_⟩ | fail))
  · exact hfam2
  · intro k_ hk_ hq_; simp only [upds]; by_cases e_ : k_ = gb; (focus subst e_; refine bl_eq ?_; first | (refine ble ?_; (repeat (first | exact uE | assumption | refine uN (by omega) ?_ | refine (hfz1 _ (by first | assumption | omega)).trans ?_ | refine (hfz2 _ (by first | assumption | omega)).trans ?_ | fail)); done) | (refine' blec ?hb ?hl; (case hb => repeat (first | exact uE | assumption | refine uN (by omega) ?_ | refine (hfz1 _ (by first | assumption | omega)).trans ?_ | refine (hfz2 _ (by first | assumption | omega)).trans ?_ | fail)); (case hl => first | exact VLes.refl _ | ((repeat' (first | exact VLe.refl _ | exact VLe.own_sl _ _ _ | exact VLe.fl_sl _ _ | exact VLe.nil_sl _ | exact VLe.nil_fl _ | exact VLes.refl _ | exact .nil | refine VLe.tup ?_ | refine VLe.agg ?_ | refine .cons ?_ ?_ | (rw [Int.natCast_add]; exact VLe.refl _) | exact vle_int (by omega) | exact vle_bool (by first | rfl | assumption | (simp_all; done) | fail) | fail)); done)))); refine bl_ne e_ ?_; exact ble (by repeat (first | exact rfl | refine uN (by omega) ?_ | assumption | refine (hfz1 _ (by first | assumption | omega)).trans ?_ | refine (hfz2 _ (by first | assumption | omega)).trans ?_ | fail))
  · intro p hp cs hcs; simp only [List.mem_cons, List.not_mem_nil, or_false] at hp; (first | (cases hp; done) | (rcases hp with rfl)) <;> (first | (cases hcs; done) | (cases hcs; (first | ((repeat (first | exact trivial | exact rows_bd (ch_lt hLM hj hc) hfn0 | assumption | omega | refine ⟨?_, ?_⟩ | fail)); done) | (repeat (first | exact trivial | assumption | omega | (refine bdR_map (fun _ => ?_)) | (refine bdL_map (fun _ => ?_)) | refine ⟨?_, ?_⟩ | fail)))))
  · intro a_ ha_; exact ⟨trivial, trivial, trivial, trivial⟩
  · first | ((repeat (first | exact trivial | exact rows_bd (ch_lt hLM hj hc) hfn0 | assumption | omega | refine ⟨?_, ?_⟩ | fail)); done) | (repeat (first | exact trivial | assumption | omega | (refine bdR_map (fun _ => ?_)) | (refine bdL_map (fun _ => ?_)) | refine ⟨?_, ?_⟩ | fail))
theorem change_a (kf kg : Nat → Int) (h : Nat → Nat) (n0 hb gb v L M c j : Nat)  (a : Nat) (ha : h j = a) (hj : j < L) (hLM : L ≤ M) (hLb : L < 999999) (hinj : InjH h L) (hc : ∀ i, i < M → h i < c) (hkg : ∀ v, v ≠ h j → kf v = kg v) (hne : hb ≠ gb) (hhb : hb < n0) (hgb : gb < n0) : Does Try.prog 14 [.ref hb 0, .ref (n0 + a) 0, .sc (.int .i64 (kg a))] ([(hb, .cells [.gsl gb v 0 L 1, .sc (.func (.func 8) #[] #[]), .sc (.int .i64 (c : Int))]), (gb, .gcells v 1 (rowsH n0 h M))] ++ famL n0 c (itC kf h L)) ([(gb, .gcells v 1 (rowsH n0 (chF kg h L j) M))] ++ famL n0 c (itC kg (chF kg h L j) L)) (.sc (.bool true)) := by
  subst ha; exact change_y kf kg h n0 hb gb v L M c j hj hLM hLb hinj hc hkg hne hhb hgb
set_option maxRecDepth 100000 in
set_option maxHeartbeats 4000000 in
theorem pop_n (hb gb v c : Nat) : Does Try.prog 11 [.ref hb 0] [(hb, .cells [.gsl gb v 0 0 1, .sc (.func (.func 8) #[] #[]), .sc (.int .i64 (c : Int))])] [] (.tup [.sc (.int .i64 0), .sc (.bool false)]) := by
  refine does_mkg 40 Try.func11 rfl rfl rfl (fun n B bx hd hpre hup hvs hbx hgx => ?_)
  have hp0 := hpre.1
  have hk0 := lt_cells hd hp0
  refine runs_seq ?_
  refine runs_region ?_
  refine rl0 (gn rfl) rfl rfl (step_as rfl rfl) trivial ?_
  refine rl0 (gn rfl) rfl rfl (step_as rfl rfl) trivial ?_
  refine runsL_nil ?_
  refine runs_seq ?_
  refine runs_seq ?_
  refine runs_region ?_
  refine rl0 (gn rfl) rfl rfl (step_mv rfl rfl) trivial ?_
  refine rl0 (gn rfl) rfl rfl (step_nilCheck rfl (ev_mk rfl) (.inl ⟨_, _, rfl⟩)) trivial ?_
  refine rl0 (gn rfl) rfl rfl (step_fieldAddr (off := 0) rfl (ev_mk rfl) Try.underlying57 rfl F.sz28 rfl) trivial ?_
  refine' rl0 (gn rfl) rfl rfl (step_load_one rfl (ev_mk rfl) F.one28 ?hv) ⟨?hb, trivial⟩ ?_
  case hb => repeat (first | exact uE | refine uN (by omega) ?_ | assumption | exact hd _ (by omega) | fail)
  case hv => rfl
  refine rl0 (gn rfl) rfl rfl (step_len_g rfl rfl (ev_mk rfl) Try.underlying28) trivial ?_
  refine rl_eql (gn rfl) rfl rfl rfl rfl rfl (fun h1 => ?_) (fun h1 => ?_)
  rotate_left
  · exact False.elim (by omega)
  refine runsL_nil ?_
  refine runs_cond true (ev_mk rfl) (fun _ => ?_) (fun h_ => nomatch h_)
  refine runs_seq ?_
  refine runs_region ?_
  refine rl0 (gn rfl) rfl rfl (step_as rfl rfl) trivial ?_
  refine runsL_nil ?_
  refine runs_seq ?_
  refine runs_region ?_
  refine rl0 (gn rfl) rfl rfl (step_mv rfl rfl) trivial ?_
  refine rl0 (gn rfl) rfl rfl (step_as rfl rfl) trivial ?_
  refine rl0 (gn rfl) rfl rfl (step_as rfl rfl) trivial ?_
  refine runsL_nil ?_
  refine runs_ret ?_
  refine ⟨by first | exact .inr rfl | exact .inl rfl, fin_mkg (rest rfl (rest rfl res0)) ?_ ?_ ?_ ?_ ?_⟩
  · (repeat' (first | exact VLe.refl _ | exact VLe.own_sl _ _ _ | exact VLe.fl_sl _ _ | exact VLe.nil_sl _ | exact VLe.nil_fl _ | exact VLes.refl _ | exact .nil | refine VLe.tup ?_ | refine VLe.agg ?_ | refine .cons ?_ ?_ | (rw [Int.natCast_add]; exact VLe.refl _) | exact vle_int (by omega) | exact vle_bool (by first | rfl | assumption | (simp_all; done) | fail) | fail))
  · repeat (first | exact trivial | assumption | omega | (refine bdR_map (fun _ => ?_)) | (refine bdL_map (fun _ => ?_)) | refine ⟨?_, ?_⟩ | fail)
  · intro k_ hk_; exact ble (by repeat (first | exact rfl | refine uN (by omega) ?_ | assumption | fail))
  · intro p hp; cases hp
  · repeat (first | exact trivial | assumption | omega | (refine bdR_map (fun _ => ?_)) | (refine bdL_map (fun _ => ?_)) | refine ⟨?_, ?_⟩ | fail)
set_option maxRecDepth 100000 in
set_option maxHeartbeats 4000000 in
theorem pop_y (kf : Nat → Int) (h : Nat → Nat) (n0 hb gb v L M c : Nat) (hLM : L + 1 ≤ M) (hLb : L < 999999) (hinj : InjH h (L + 1)) (hc : ∀ i, i < M → h i < c) (hne : hb ≠ gb) (hhb : hb < n0) (hgb : gb < n0) : Does Try.prog 11 [.ref hb 0] ([(hb, .cells [.gsl gb v 0 (L + 1) 1, .sc (.func (.func 8) #[] #[]), .sc (.int .i64 (c : Int))]), (gb, .gcells v 1 (rowsH n0 h M))] ++ famL n0 c (itC kf h (L + 1))) ([(hb, .cells [.gsl gb v 0 L 1, .sc (.func (.func 8) #[] #[]), .sc (.int .i64 (c : Int))]), (gb, .gcells v 1 (rowsH n0 (rmF kf h L 0) M))] ++ famL n0 c (itC kf (rmF kf h L 0) L)) (.tup [.sc (.int .i64 (kf (h 0))), .sc (.bool true)]) := by
  refine does_mkg 40 Try.func11 rfl rfl rfl (fun n B bx hd hpre hup hvs hbx hgx => ?_)
  have hp0 := hpre.1
  have hk0 := lt_cells hd hp0
  have hp1 := hpre.2.1
  have hk1 := lt_gcells hd hp1
  have hu0 := hup.1
  have hu1 := hup.2.1
  have hfam0 := fam_of hpre.2.2
  have hfn0 := fam_lt hd hfam0
  have hfu0 := uplt_fam hup.2.2
  have hrl_ := rowsH_len n0 h M
  have h0a_ := hc 0 (by omega)
  refine runs_seq ?_
  refine runs_region ?_
  refine rl0 (gn rfl) rfl rfl (step_as rfl rfl) trivial ?_
  refine rl0 (gn rfl) rfl rfl (step_as rfl rfl) trivial ?_
  refine runsL_nil ?_
  refine runs_seq ?_
  refine runs_seq ?_
  refine runs_region ?_
  refine rl0 (gn rfl) rfl rfl (step_mv rfl rfl) trivial ?_
  refine rl0 (gn rfl) rfl rfl (step_nilCheck rfl (ev_mk rfl) (.inl ⟨_, _, rfl⟩)) trivial ?_
  refine rl0 (gn rfl) rfl rfl (step_fieldAddr (off := 0) rfl (ev_mk rfl) Try.underlying57 rfl F.sz28 rfl) trivial ?_
  refine' rl0 (gn rfl) rfl rfl (step_load_one rfl (ev_mk rfl) F.one28 ?hv) ⟨?hb, trivial⟩ ?_
  case hb => repeat (first | exact uE | refine uN (by omega) ?_ | assumption | exact hd _ (by omega) | fail)
  case hv => rfl
  refine rl0 (gn rfl) rfl rfl (step_len_g rfl rfl (ev_mk rfl) Try.underlying28) trivial ?_
  refine rl_eql (gn rfl) rfl rfl rfl rfl rfl (fun h1 => ?_) (fun h1 => ?_)
  · exact False.elim (by omega)
  refine runsL_nil ?_
  refine runs_cond false (ev_mk rfl) (fun h_ => nomatch h_) (fun _ => ?_)
  refine runs_skip ?_
  refine runs_seq ?_
  refine runs_region ?_
  refine rl0 (gn rfl) rfl rfl (step_mv rfl rfl) trivial ?_
  refine rl0 (gn rfl) rfl rfl (step_nilCheck rfl (ev_mk rfl) (.inl ⟨_, _, rfl⟩)) trivial ?_
  refine rl0 (gn rfl) rfl rfl (step_fieldAddr (off := 0) rfl (ev_mk rfl) Try.underlying57 rfl F.sz28 rfl) trivial ?_
  refine' rl0 (gn rfl) rfl rfl (step_load_one rfl (ev_mk rfl) F.one28 ?hv) ⟨?hb, trivial⟩ ?_
  case hb => repeat (first | exact uE | refine uN (by omega) ?_ | assumption | exact hd _ (by omega) | fail)
  case hv => rfl
  refine' rl0 (gn rfl) rfl rfl (step_index_g rfl (ev_mk rfl) (ev_mk rfl) Try.underlying28 F.sz34 (by omega) (by omega) ?hl) ⟨?hb, trivial⟩ ?_
  case hb => repeat (first | exact uE | refine uN (by omega) ?_ | assumption | exact hd _ (by omega) | fail)
  case hl => first | omega | (first | (simp; done) | (simp; omega) | omega)
  refine' rl0 (gn rfl) rfl rfl (step_load_g1 (i := 0) (c := 0) (r := [V.ref (n0 + h 0) 0]) rfl (ev_mk rfl) F.one34 ?hi ?hc ?hq) ⟨?hb, trivial⟩ ?_
  case hb => repeat (first | exact uE | refine uN (by omega) ?_ | assumption | exact hd _ (by omega) | fail)
  case hi => exact row_at (by omega)
  case hc => first | rfl | (first | (simp; done) | (simp; omega) | omega)
  case hq => first | rfl | omega
  refine rl0 (gn rfl) rfl rfl (step_as rfl rfl) trivial ?_
  refine runsL_nil ?_
  refine runs_seq ?_
  refine runs_region ?_
  refine rl0 (gn rfl) rfl rfl (step_mv rfl rfl) trivial ?_
  refine rl0 (gn rfl) rfl rfl (step_mv rfl rfl) trivial ?_
  refine rl_fam (gn rfl) rfl rfl (step_callc rfl Try.func13 rfl rfl rfl (remove_c kf h n0 hb gb v L M c 0 (by omega) hLM hLb hinj hc hne hhb hgb) (by repeat (first | exact .nil | refine .cons ?_ ?_ | exact VLe.refl _ | exact VLe.own_sl _ _ _ | exact VLe.fl_sl _ _ | exact VLe.nil_sl _ | exact VLe.nil_fl _ | refine VLe.agg ?_))) ⟨by repeat (first | exact uE | refine uN (by omega) ?_ | assumption | exact hd _ (by omega) | fail), by repeat (first | exact uE | refine uN (by omega) ?_ | assumption | exact hd _ (by omega) | fail), fam_ok hfam0⟩ (by repeat (first | exact trivial | refine ⟨by omega, ?_⟩)) (by omega) (fun bz1 hfam1 hfz1 => ?_)
  simp only [upds] at hfz1
  refine runsL_nil ?_
  refine runs_seq ?_
  have hx6_ : bz1 (n0 + h 0) = .cells [.sc (.int .i64 (kf (h 0))), .sc (.int .i64 ((h 0 : Nat) : Int)), .sc (.int .i64 (posF (rmF kf h L 0) L (h 0)))] := hfam1 _ h0a_
  refine runs_region ?_
  refine rl0 (gn rfl) rfl rfl (step_mv rfl rfl) trivial ?_
  refine rl0 (gn rfl) rfl rfl (step_nilCheck rfl (ev_mk rfl) (.inl ⟨_, _, rfl⟩)) trivial ?_
  refine rl0 (gn rfl) rfl rfl (step_fieldAddr (off := 0) rfl (ev_mk rfl) Try.underlying59 rfl F.sz3 rfl) trivial ?_
  refine' rl0 (gn rfl) rfl rfl (step_load_one rfl (ev_mk rfl) F.one3 ?hv) ⟨?hb, trivial⟩ ?_
  case hb => repeat (first | exact uE | refine uN (by omega) ?_ | assumption | exact hd _ (by omega) | refine (hfz1 _ (by first | assumption | omega)).trans ?_ | fail)
  case hv => rfl
  refine rl0 (gn rfl) rfl rfl (step_as rfl rfl) trivial ?_
  refine rl0 (gn rfl) rfl rfl (step_as rfl rfl) trivial ?_
  refine runsL_nil ?_
  refine runs_ret ?_
  refine ⟨by first | exact .inr rfl | exact .inl rfl, fin_fam (rest rfl (rest rfl res0)) ?_ ?_ ?_ ?_ ?_ ?_ ?_⟩
  · (repeat' (first | exact VLe.refl _ | exact VLe.own_sl _ _ _ | exact VLe.fl_sl _ _ | exact VLe.nil_sl _ | exact VLe.nil_fl _ | exact VLes.refl _ | exact .nil | refine VLe.tup ?_ | refine VLe.agg ?_ | refine .cons ?_ ?_ | (rw [Int.natCast_add]; exact VLe.refl _) | exact vle_int (by omega) | exact vle_bool (by first | rfl | assumption | (simp_all; done) | fail) | fail))
  · first | ((repeat (first | exact trivial | exact rows_bd (rm_lt hLM (by omega) hc) hfn0 | assumption | omega | refine ⟨?_, ?_⟩ | fail)); done) | (repeat (first | exact trivial | assumption | omega | (refine bdR_map (fun _ => ?_)) | (refine bdL_map (fun _ => ?_)) | refine ⟨?_, ?_⟩ | fail))
  · exact hfam1
  · intro k_ hk_ hq_; simp only [upds]; by_cases e_ : k_ = gb; (focus subst e_; refine bl_eq ?_; first | (refine ble ?_; (repeat (first | exact uE | assumption | refine uN (by omega) ?_ | refine (hfz1 _ (by first | assumption | omega)).trans ?_ | fail)); done) | (refine' blec ?hb ?hl; (case hb => repeat (first | exact uE | assumption | refine uN (by omega) ?_ | refine (hfz1 _ (by first | assumption | omega)).trans ?_ | fail)); (case hl => first | exact VLes.refl _ | ((repeat' (first | exact VLe.refl _ | exact VLe.own_sl _ _ _ | exact VLe.fl_sl _ _ | exact VLe.nil_sl _ | exact VLe.nil_fl _ | exact VLes.refl _ | exact .nil | refine VLe.tup ?_ | refine VLe.agg ?_ | refine .cons ?_ ?_ | (rw [Int.natCast_add]; exact VLe.refl _) | exact vle_int (by omega) | exact vle_bool (by first | rfl | assumption | (simp_all; done) | fail) | fail)); done)))); refine bl_ne e_ ?_; by_cases e_ : k_ = hb; (focus subst e_; refine bl_eq ?_; first | (refine ble ?_; (repeat (first | exact uE | assumption | refine uN (by omega) ?_ | refine (hfz1 _ (by first | assumption | omega)).trans ?_ | fail)); done) | (refine' blec ?hb ?hl; (case hb => repeat (first | exact uE | assumption | refine uN (by omega) ?_ | refine (hfz1 _ (by first | assumption | omega)).trans ?_ | fail)); (case hl => first | exact VLes.refl _ | ((repeat' (first | exact VLe.refl _ | exact VLe.own_sl _ _ _ | exact VLe.fl_sl _ _ | exact VLe.nil_sl _ | exact VLe.nil_fl _ | exact VLes.refl _ | exact .nil | refine VLe.tup ?_ | refine VLe.agg ?_ | refine .cons ?_ ?_ | (rw [Int.natCast_add]; exact VLe.refl _) | exact vle_int (by omega) | exact vle_bool (by first | rfl | assumption | (simp_all; done) | fail) | fail)); done)))); refine bl_ne e_ ?_; exact ble (by repeat (first | exact rfl | refine uN (by omega) ?_ | assumption | refine (hfz1 _ (by first | assumption | omega)).trans ?_ | fail))
  · intro p hp cs hcs; simp only [List.mem_cons, List.not_mem_nil, or_false] at hp; (first | (cases hp; done) | (rcases hp with rfl | rfl) | (rcases hp with rfl)) <;> (first | (cases hcs; done) | (cases hcs; (first | ((repeat (first | exact trivial | exact rows_bd (rm_lt hLM (by omega) hc) hfn0 | assumption | omega | refine ⟨?_, ?_⟩ | fail)); done) | (repeat (first | exact trivial | assumption | omega | (refine bdR_map (fun _ => ?_)) | (refine bdL_map (fun _ => ?_)) | refine ⟨?_, ?_⟩ | fail)))))
  · intro a_ ha_; exact ⟨trivial, trivial, trivial, trivial⟩
  · first | ((repeat (first | exact trivial | exact rows_bd (rm_lt hLM (by omega) hc) hfn0 | assumption | omega | refine ⟨?_, ?_⟩ | fail)); done) | (repeat (first | exact trivial | assumption | omega | (refine bdR_map (fun _ => ?_)) | (refine bdL_map (fun _ => ?_)) | refine ⟨?_, ?_⟩ | fail))
set_option maxRecDepth 100000 in
set_option maxHeartbeats 4000000 in
theorem sound_c (kf : Nat → Int) (h : Nat → Nat) (n0 hb gb v L M c : Nat) (hLM : L ≤ M) (hLb : L < 999999) (hinj : InjH h L) (hc : ∀ i, i < M → h i < c) (hp : HP kf h L) : Does Try.prog 17 [.ref hb 0] ([(hb, .cells [.gsl gb v 0 L 1, .sc (.func (.func 8) #[] #[]), .sc (.int .i64 (c : Int))]), (gb, .gcells v 1 (rowsH n0 h M))] ++ famL n0 c (itC kf h L)) [] (.sc (.bool true)) := by
  refine does_mkg 40 Try.func17 rfl rfl rfl (fun n B bx hd hpre hup hvs hbx hgx => ?_)
  have hp0 := hpre.1
  have hk0 := lt_cells hd hp0
  have hp1 := hpre.2.1
  have hk1 := lt_gcells hd hp1
  have hfam0 := fam_of hpre.2.2
  have hfn0 := fam_lt hd hfam0
  have hrl_ := rowsH_len n0 h M
  refine runs_seq ?_
  refine runs_region ?_
  refine rl0 (gn rfl) rfl rfl (step_as rfl rfl) trivial ?_
  refine runsL_nil ?_
  refine runs_seq ?_
  refine runs_seq ?_
  refine runs_region ?_
  refine rl0 (gn rfl) rfl rfl (step_mv rfl rfl) trivial ?_
  refine rl0 (gn rfl) rfl rfl (step_nilCheck rfl (ev_mk rfl) (.inl ⟨_, _, rfl⟩)) trivial ?_
  refine rl0 (gn rfl) rfl rfl (step_fieldAddr (off := 0) rfl (ev_mk rfl) Try.underlying57 rfl F.sz28 rfl) trivial ?_
  refine' rl0 (gn rfl) rfl rfl (step_load_one rfl (ev_mk rfl) F.one28 ?hv) ⟨?hb, trivial⟩ ?_
  case hb => repeat (first | exact uE | refine uN (by omega) ?_ | assumption | exact hd _ (by omega) | fail)
  case hv => rfl
  refine rl0 (gn rfl) rfl rfl (step_len_g rfl rfl (ev_mk rfl) Try.underlying28) trivial ?_
  refine rl0 (gn rfl) rfl rfl (step_mv rfl rfl) trivial ?_
  refine runsL_nil ?_
  refine runs_block ?_
  have hs0_ : 0 = (0 : Int) := by omega
  refine runs_loop (fun (ri_ : Nat) (st_ : Go.Vm.S) => ∃ (i : Nat) (m0 : Nat) (b0 : Nat → Box), (st_ = ⟨mk [(0, .ref hb 0), (2, .sc (.bool false)), (8, .gsl gb v 0 L 1), (9, .sc (.int .i64 L)), (10, .sc (.int .i64 (i : Int)))], m0, b0⟩) ∧ (ri_ = 1 + (L - i)) ∧ (n + 0 ≤ m0) ∧ (∀ k_, k_ < n → b0 k_ = bx k_) ∧ (b0 hb = .cells [.gsl gb v 0 L 1, .sc (.func (.func 8) #[] #[]), .sc (.int .i64 (c : Int))]) ∧ (b0 gb = .gcells v 1 (rowsH n0 h M)) ∧ (i ≤ L) ∧ (∀ a, a < c → b0 (n0 + a) = .cells (itC kf h L a))) (1 + (L - 0)) ⟨_, sle ?_ (Nat.le_refl _), 0, _, _, rfl, rfl, ?_⟩ ?_
  · (repeat' (first | exact trivial | refine ⟨⟨_, rfl, ?_⟩, ?_⟩ | fail)); all_goals (repeat' (first | exact VLe.refl _ | exact VLe.own_sl _ _ _ | exact VLe.fl_sl _ _ | exact VLe.nil_sl _ | exact VLe.nil_fl _ | exact VLes.refl _ | exact .nil | refine VLe.tup ?_ | refine VLe.agg ?_ | refine .cons ?_ ?_ | (rw [Int.natCast_add]; exact VLe.refl _) | exact vle_int (by omega) | exact vle_bool (by first | rfl | assumption | (simp_all; done) | fail) | (rw [← hs0_]; exact VLe.refl _) | (rw [hs0_]; exact VLe.refl _) | fail))
  · exact ⟨by omega, (fun k_ hk_ => by repeat (first | exact rfl | refine uN (by omega) ?_ | assumption | fail)), by first | ((repeat (first | exact uE | assumption | refine uN (by omega) ?_ | fail)); done) | exact tl_eq (by repeat (first | exact uE | assumption | refine uN (by omega) ?_ | fail)) (by first | rfl | (simp [bytesV, beB_len]; done) | (simp [bytesV, beB_len]; omega) | omega) | (rw [← hs0_]; (repeat (first | exact uE | assumption | refine uN (by omega) ?_ | fail)); done), by first | ((repeat (first | exact uE | assumption | refine uN (by omega) ?_ | fail)); done) | exact tl_eq (by repeat (first | exact uE | assumption | refine uN (by omega) ?_ | fail)) (by first | rfl | (simp [bytesV, beB_len]; done) | (simp [bytesV, beB_len]; omega) | omega) | (rw [← hs0_]; (repeat (first | exact uE | assumption | refine uN (by omega) ?_ | fail)); done), (by omega), hfam0⟩
  · rintro _ _ ⟨i, m0, b0, rfl, rfl, hm0, hf0, hB0_0, hB0_1, hF0_0, hF0_1⟩
    refine runs_know (fun hd0 => ?_)
    refine runs_bump 20 ?_
    simp only at hd0
    refine runs_seq ?_
    refine runs_region ?_
    refine rl_lss (gn rfl) rfl rfl rfl rfl rfl (fun h1 => ?_) (fun h1 => ?_)
    · skip
      have hci_ := hc (i) (by omega)
      have hxi_ : b0 (n0 + h (i)) = .cells [.sc (.int .i64 (kf (h (i)))), .sc (.int .i64 ((h (i) : Nat) : Int)), .sc (.int .i64 ((i : Nat) : Int))] := (hF0_1 _ hci_).trans (itC_at hinj (by omega))
      refine runsL_nil ?_
      refine runs_seq ?_
      refine runs_cond true (ev_mk rfl) (fun _ => ?_) (fun h_ => nomatch h_)
      refine runs_skip ?_
      refine runs_seq ?_
      refine runs_block ?_
      refine runs_seq ?_
      refine runs_region ?_
      refine rl0 (gn rfl) rfl rfl (step_mv rfl rfl) trivial ?_
      refine' rl0 (gn rfl) rfl rfl (step_index_g rfl (ev_mk rfl) (ev_mk rfl) Try.underlying28 F.sz34 (by omega) (by omega) ?hl) ⟨?hb, trivial⟩ ?_
      case hb => repeat (first | exact uE | refine uN (by omega) ?_ | assumption | exact hd _ (by omega) | exact hd0 _ (by omega) | fail)
      case hl => first | omega | (first | (simp; done) | (simp; omega) | omega)
      refine' rl0 (gn rfl) rfl rfl (step_load_g1 (i := i) (c := 0) (r := [V.ref (n0 + h i) 0]) rfl (ev_mk rfl) F.one34 ?hi ?hc ?hq) ⟨?hb, trivial⟩ ?_
      case hb => repeat (first | exact uE | refine uN (by omega) ?_ | assumption | exact hd _ (by omega) | exact hd0 _ (by omega) | fail)
      case hi => exact row_at (by omega)
      case hc => first | rfl | (first | (simp; done) | (simp; omega) | omega)
      case hq => first | rfl | omega
      refine rl0 (gn rfl) rfl rfl (step_as rfl rfl) trivial ?_
      refine rl0 (gn rfl) rfl rfl (step_as rfl rfl) trivial ?_
      refine runsL_nil ?_
      refine runs_seq ?_
      refine runs_region ?_
      refine rl0 (gn rfl) rfl rfl (step_mv rfl rfl) trivial ?_
      refine rl0 (gn rfl) rfl rfl (step_nilCheck rfl (ev_mk rfl) (.inl ⟨_, _, rfl⟩)) trivial ?_
      refine rl0 (gn rfl) rfl rfl (step_fieldAddr (off := 2) rfl (ev_mk rfl) Try.underlying59 rfl F.sz3 rfl) trivial ?_
      refine' rl0 (gn rfl) rfl rfl (step_load_one rfl (ev_mk rfl) F.one3 ?hv) ⟨?hb, trivial⟩ ?_
      case hb => repeat (first | exact uE | refine uN (by omega) ?_ | assumption | exact hd _ (by omega) | exact hd0 _ (by omega) | fail)
      case hv => rfl
      refine rl0 (gn rfl) rfl rfl (step_mv rfl rfl) trivial ?_
      refine rl_neq (gn rfl) rfl rfl rfl rfl rfl (fun h2 => ?_) (fun h2 => ?_)
      · exact False.elim (by omega)
      refine rl0 (gn rfl) rfl rfl (step_mv rfl rfl) trivial ?_
      refine rl0 (gy rfl rfl rfl rfl rfl rfl) rfl rfl (step_mv rfl rfl) trivial ?_
      refine rl_gtr (gy rfl rfl rfl rfl rfl rfl) rfl rfl rfl rfl rfl (fun h3 => ?_) (fun h3 => ?_)
      · skip
        have hcp_ := hc ((i - 1) / 2) (by omega)
        have hxp_ : b0 (n0 + h ((i - 1) / 2)) = .cells [.sc (.int .i64 (kf (h ((i - 1) / 2)))), .sc (.int .i64 ((h ((i - 1) / 2) : Nat) : Int)), .sc (.int .i64 (((i - 1) / 2 : Nat) : Int))] := (hF0_1 _ hcp_).trans (itC_at hinj (by omega))
        refine rl0 (gy rfl rfl rfl rfl rfl rfl) rfl rfl (step_mv rfl rfl) trivial ?_
        refine rl0 (gy rfl rfl rfl rfl rfl rfl) rfl rfl (step_mv rfl rfl) trivial ?_
        refine rl0 (gy rfl rfl rfl rfl rfl rfl) rfl rfl (step_mv rfl rfl) trivial ?_
        refine rl0 (gy rfl rfl rfl rfl rfl rfl) rfl rfl (step_mv rfl rfl) trivial ?_
        refine rl0 (gy rfl rfl rfl rfl rfl rfl) rfl rfl (step_sub rfl (ev_mk rfl) (ev_mk rfl) (w64 (by omega))) trivial ?_
        refine rl0 (gy rfl rfl rfl rfl rfl rfl) rfl rfl (step_quo rfl (ev_mk rfl) (ev_mk rfl) (by omega) (by omega) (w64 (by omega))) trivial ?_
        refine rl0 (gy rfl rfl rfl rfl rfl rfl) rfl rfl (step_callc rfl Try.func29 rfl rfl rfl (ahead_c kf h n0 hb gb v L M c i ((i - 1) / 2) _ _ (by omega) (by omega) hLM) (by repeat (first | exact .nil | refine .cons ?_ ?_ | exact VLe.refl _ | exact vle_int (by omega) | exact VLe.own_sl _ _ _ | exact VLe.fl_sl _ _ | exact VLe.nil_sl _ | exact VLe.nil_fl _ | refine VLe.agg ?_))) ⟨by repeat (first | exact uE | refine uN (by omega) ?_ | assumption | exact hd _ (by omega) | exact hd0 _ (by omega) | fail), by repeat (first | exact uE | refine uN (by omega) ?_ | assumption | exact hd _ (by omega) | exact hd0 _ (by omega) | fail), by repeat (first | exact uE | refine uN (by omega) ?_ | assumption | exact hd _ (by omega) | exact hd0 _ (by omega) | fail), by repeat (first | exact uE | refine uN (by omega) ?_ | assumption | exact hd _ (by omega) | exact hd0 _ (by omega) | fail), trivial⟩ ?_
        refine rl_know (d := 30) (c := false) rfl (decide_eq_false (hp _ (by omega) (by omega))) ?_
        refine rl0 (gy rfl rfl rfl rfl rfl rfl) rfl rfl (step_pick rfl (ev_mk rfl) (ev_mk rfl)) trivial ?_
        refine rl0 (gn rfl) rfl rfl (step_pick rfl (ev_mk rfl) (ev_mk rfl)) trivial ?_
        refine runsL_nil ?_
        refine runs_cond false (ev_mk rfl) (fun h_ => nomatch h_) (fun _ => ?_)
        refine runs_skip ?_
        refine runs_region ?_
        refine rl0 (gn rfl) rfl rfl (step_add rfl (ev_mk rfl) (ev_mk rfl) (w64 (by omega))) trivial ?_
        refine rl0 (gn rfl) rfl rfl (step_mv rfl rfl) trivial ?_
        refine runsL_nil ?_
        have hq0_ : ((i : Int) + 1) = ((i + 1) : Int) := by omega
        refine ⟨_, _, ?_, sle ?_ (Nat.le_refl _), (i + 1), _, _, rfl, rfl, by omega, (fun k_ hk_ => by repeat (first | exact hf0 k_ hk_ | refine uN (by first | assumption | omega) ?_ | fail)), by first | ((repeat (first | exact uE | assumption | refine uN (by omega) ?_ | fail)); done) | exact tl_eq (by repeat (first | exact uE | assumption | refine uN (by omega) ?_ | fail)) (by first | rfl | (simp [bytesV, beB_len]; done) | (simp [bytesV, beB_len]; omega) | omega) | (rw [← hq0_]; (repeat (first | exact uE | assumption | refine uN (by omega) ?_ | fail)); done), by first | ((repeat (first | exact uE | assumption | refine uN (by omega) ?_ | fail)); done) | exact tl_eq (by repeat (first | exact uE | assumption | refine uN (by omega) ?_ | fail)) (by first | rfl | (simp [bytesV, beB_len]; done) | (simp [bytesV, beB_len]; omega) | omega) | (rw [← hq0_]; (repeat (first | exact uE | assumption | refine uN (by omega) ?_ | fail)); done), (by omega), hF0_1⟩
        · omega
        · (repeat' (first | exact trivial | refine ⟨⟨_, rfl, ?_⟩, ?_⟩ | fail)); all_goals (repeat' (first | exact VLe.refl _ | exact VLe.own_sl _ _ _ | exact VLe.fl_sl _ _ | exact VLe.nil_sl _ | exact VLe.nil_fl _ | exact VLes.refl _ | exact .nil | refine VLe.tup ?_ | refine VLe.agg ?_ | refine .cons ?_ ?_ | (rw [Int.natCast_add]; exact VLe.refl _) | exact vle_int (by omega) | exact vle_bool (by first | rfl | assumption | (simp_all; done) | fail) | (rw [← hq0_]; exact VLe.refl _) | (rw [hq0_]; exact VLe.refl _) | fail))
      · skip
        refine rl0 (gy rfl rfl rfl rfl rfl rfl) rfl rfl (step_mv rfl rfl) trivial ?_
        refine rlk rfl rfl rfl rfl rfl (ngb rfl rfl) rfl rfl ?_
        refine rlk rfl rfl rfl rfl rfl (ngb rfl rfl) rfl rfl ?_
        refine rlk rfl rfl rfl rfl rfl (ngb rfl rfl) rfl rfl ?_
        refine rlk rfl rfl rfl rfl rfl (ngb rfl rfl) rfl rfl ?_
        refine rlk rfl rfl rfl rfl rfl (ngb rfl rfl) rfl rfl ?_
        refine rlk rfl rfl rfl rfl rfl (ngb rfl rfl) rfl rfl ?_
        refine rl0 (gy rfl rfl rfl rfl rfl rfl) rfl rfl (step_pick rfl (ev_mk rfl) (ev_mk rfl)) trivial ?_
        refine rl0 (gn rfl) rfl rfl (step_pick rfl (ev_mk rfl) (ev_mk rfl)) trivial ?_
        refine runsL_nil ?_
        refine runs_cond false (ev_mk rfl) (fun h_ => nomatch h_) (fun _ => ?_)
        refine runs_skip ?_
        refine runs_region ?_
        refine rl0 (gn rfl) rfl rfl (step_add rfl (ev_mk rfl) (ev_mk rfl) (w64 (by omega))) trivial ?_
        refine rl0 (gn rfl) rfl rfl (step_mv rfl rfl) trivial ?_
        refine runsL_nil ?_
        have hq0_ : ((i : Int) + 1) = ((i + 1) : Int) := by omega
        refine ⟨_, _, ?_, sle ?_ (Nat.le_refl _), (i + 1), _, _, rfl, rfl, by omega, (fun k_ hk_ => by repeat (first | exact hf0 k_ hk_ | refine uN (by first | assumption | omega) ?_ | fail)), by first | ((repeat (first | exact uE | assumption | refine uN (by omega) ?_ | fail)); done) | exact tl_eq (by repeat (first | exact uE | assumption | refine uN (by omega) ?_ | fail)) (by first | rfl | (simp [bytesV, beB_len]; done) | (simp [bytesV, beB_len]; omega) | omega) | (rw [← hq0_]; (repeat (first | exact uE | assumption | refine uN (by omega) ?_ | fail)); done), by first | ((repeat (first | exact uE | assumption | refine uN (by omega) ?_ | fail)); done) | exact tl_eq (by repeat (first | exact uE | assumption | refine uN (by omega) ?_ | fail)) (by first | rfl | (simp [bytesV, beB_len]; done) | (simp [bytesV, beB_len]; omega) | omega) | (rw [← hq0_]; (repeat (first | exact uE | assumption | refine uN (by omega) ?_ | fail)); done), (by omega), hF0_1⟩
        · omega
        · (repeat' (first | exact trivial | refine ⟨⟨_, rfl, ?_⟩, ?_⟩ | fail)); all_goals (repeat' (first | exact VLe.refl _ | exact VLe.own_sl _ _ _ | exact VLe.fl_sl _ _ | exact VLe.nil_sl _ | exact VLe.nil_fl _ | exact VLes.refl _ | exact .nil | refine VLe.tup ?_ | refine VLe.agg ?_ | refine .cons ?_ ?_ | (rw [Int.natCast_add]; exact VLe.refl _) | exact vle_int (by omega) | exact vle_bool (by first | rfl | assumption | (simp_all; done) | fail) | (rw [← hq0_]; exact VLe.refl _) | (rw [hq0_]; exact VLe.refl _) | fail))
    · skip
      refine runsL_nil ?_
      refine runs_seq ?_
      refine runs_cond false (ev_mk rfl) (fun h_ => nomatch h_) (fun _ => ?_)
      refine runs_exit ?_
      refine runs_seq ?_
      refine runs_region ?_
      refine rl0 (gn rfl) rfl rfl (step_as rfl rfl) trivial ?_
      refine runsL_nil ?_
      refine runs_ret ?_
      refine ⟨by first | exact .inr rfl | exact .inl rfl, fin_mkg (rest rfl res0) ?_ ?_ ?_ ?_ ?_⟩
      · (repeat' (first | exact VLe.refl _ | exact VLe.own_sl _ _ _ | exact VLe.fl_sl _ _ | exact VLe.nil_sl _ | exact VLe.nil_fl _ | exact VLes.refl _ | exact .nil | refine VLe.tup ?_ | refine VLe.agg ?_ | refine .cons ?_ ?_ | (rw [Int.natCast_add]; exact VLe.refl _) | exact vle_int (by omega) | exact vle_bool (by first | rfl | assumption | (simp_all; done) | fail) | fail))
      · repeat (first | exact trivial | assumption | omega | (refine bdR_map (fun _ => ?_)) | (refine bdL_map (fun _ => ?_)) | refine ⟨?_, ?_⟩ | fail)
      · intro k_ hk_; exact ble (by repeat (first | exact rfl | refine uN (by omega) ?_ | assumption | exact hf0 _ (by omega) | fail))
      · intro p hp; cases hp
      · repeat (first | exact trivial | assumption | omega | (refine bdR_map (fun _ => ?_)) | (refine bdL_map (fun _ => ?_)) | refine ⟨?_, ?_⟩ | fail)
end Go.Proofs.Ytggeejghchnpaaa
