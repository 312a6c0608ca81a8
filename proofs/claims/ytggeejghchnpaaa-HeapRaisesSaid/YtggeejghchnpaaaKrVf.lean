/- Walks by the logic of values. -/
import Derived.Test.YtggeejghchnpaaaKrVmT
import Derived.Test.YtggeejghchnpaaaKrVmP
import Derived.Test.YtggeejghchnpaaaKrVmV
import Derived.Test.YtggeejghchnpaaaKrVmY
import Derived.Test.YtggeejghchnpaaaKrVa
import Derived.Test.YtggeejghchnpaaaKrVb
import Derived.Test.YtggeejghchnpaaaKrVc
import Derived.Test.YtggeejghchnpaaaKrVd
import Derived.Test.YtggeejghchnpaaaKrVe
namespace Go.Proofs.Ytggeejghchnpaaa
open Go.Vm
set_option linter.unusedVariables false
set_option linter.unusedSimpArgs false
theorem put_inj0 {h : Nat → Nat} {L c : Nat} (hj : InjH h L) (hc : ∀ j, j < L → h j < c) : InjH (upd1 h L c) (L + 1) := by
  intro a b ha hb e
  unfold upd1 at e
  by_cases qa : a = L <;> by_cases qb : b = L
  · omega
  · rw [if_pos qa, if_neg qb] at e; have := hc b (by omega); omega
  · rw [if_neg qa, if_pos qb] at e; have := hc a (by omega); omega
  · rw [if_neg qa, if_neg qb] at e; exact hj a b (by omega) (by omega) e
theorem put_lt {h : Nat → Nat} {L c : Nat} (hc : ∀ j, j < L → h j < c) : ∀ j, j < L + 1 → upd1 h L c j < c + 1 := by
  intro j hj; unfold upd1
  split
  · omega
  · have := hc j (by omega); omega
theorem pos_put_o {h : Nat → Nat} {L c a : Nat} (ha : a < c) : posF (upd1 h L c) (L + 1) a = posF h L a := by
  unfold posF
  have key : ∀ (l : List Nat), (∀ j ∈ l, j < L) → l.find? (fun j => upd1 h L c j == a) = l.find? (fun j => h j == a) := by
    intro l
    induction l with
    | nil => intro _; rfl
    | cons x l ih =>
      intro hl
      have hx := hl x (List.mem_cons_self ..)
      rw [List.find?_cons, List.find?_cons, ih fun j hj => hl j (List.mem_cons_of_mem _ hj), show upd1 h L c x = h x from if_neg (by omega)]
  rw [List.range_succ, List.find?_append, key _ fun j hj => List.mem_range.1 hj]
  have : List.find? (fun j => upd1 h L c j == a) [L] = none := by
    rw [List.find?_cons, show upd1 h L c L = c from if_pos rfl, show (c == a) = false from beq_eq_false_iff_ne.2 (by omega)]; rfl
  rw [this, Option.or_none]
theorem pos_put_c {h : Nat → Nat} {L c : Nat} (hj : InjH h L) (hc : ∀ j, j < L → h j < c) : posF (upd1 h L c) (L + 1) c = (L : Int) := by
  have := pos_at (put_inj0 hj hc) (show L < L + 1 by omega)
  rwa [show upd1 h L c L = c from if_pos rfl] at this
theorem fam_put {w : Nat → V} {bx b' : Nat → Box} {n0 L c : Nat} {h : Nat → Nat} (hf : ∀ a, a < c → bx (n0 + a) = .cells [w a, .sc (.int .i64 ((a : Nat) : Int)), .sc (.int .i64 (posF h L a))]) (hj : InjH h L) (hc : ∀ j, j < L → h j < c)
    (h1 : b' (n0 + c) = .cells [w c, .sc (.int .i64 ((c : Nat) : Int)), .sc (.int .i64 (L : Int))]) (h2 : ∀ a, a < c → b' (n0 + a) = bx (n0 + a)) : ∀ a, a < c + 1 → b' (n0 + a) = .cells [w a, .sc (.int .i64 ((a : Nat) : Int)), .sc (.int .i64 (posF (upd1 h L c) (L + 1) a))] := by
  intro a ha
  by_cases e : a = c
  · subst e; rw [h1, pos_put_c hj hc]
  · rw [h2 a (by omega), hf a (by omega), pos_put_o (by omega)]
theorem sw_injL {h : Nat → Nat} {L j : Nat} (hj : InjH h (L + 1)) (hjl : j < L + 1) : InjH (sw h j L) L := fun a b ha hb e => sw_inj hjl (by omega) hj a b (by omega) (by omega) e
theorem pos_rm {h : Nat → Nat} {L j a : Nat} (hj : InjH h (L + 1)) (hjl : j < L + 1) (ha : a ≠ h j) : posF (sw h j L) L a = posF (sw h j L) (L + 1) a := by
  have hi := sw_inj hjl (show L < L + 1 by omega) hj
  by_cases q : InH (sw h j L) L a
  · obtain ⟨i, hi1, hi2⟩ := q
    rw [← hi2, pos_at (sw_injL hj hjl) hi1, pos_at hi (by omega)]
  · rw [pos_none q]
    by_cases q2 : InH (sw h j L) (L + 1) a
    · obtain ⟨i, hi1, hi2⟩ := q2
      have : i = L := by
        refine Classical.byContradiction fun hn => q ⟨i, by omega, hi2⟩
      subst this
      have e : sw h j i i = h j := by
        by_cases q3 : i = j
        · subst q3; exact sw_i ..
        · exact sw_k q3
      rw [e] at hi2; exact absurd hi2.symm ha
    · rw [pos_none q2]
theorem pos_rm0 {h : Nat → Nat} {L j : Nat} (hj : InjH h (L + 1)) (hjl : j < L + 1) : posF (sw h j L) L (h j) = -1 := by
  refine pos_none fun ⟨i, hi1, hi2⟩ => ?_
  have hi := sw_inj hjl (show L < L + 1 by omega) hj
  have e : sw h j L L = h j := by
    by_cases q3 : L = j
    · subst q3; exact sw_i ..
    · exact sw_k q3
  have := hi i L (by omega) (by omega) (by rw [hi2, e])
  omega
/-- After a removal. -/
theorem fam_rm {w : Nat → V} {bx b' : Nat → Box} {n0 L c j : Nat} {h : Nat → Nat} (hf : ∀ a, a < c → bx (n0 + a) = .cells [w a, .sc (.int .i64 ((a : Nat) : Int)), .sc (.int .i64 (posF h (L + 1) a))]) (hj : InjH h (L + 1)) (hjl : j < L + 1)
    (h1 : b' (n0 + h j) = .cells [w (h j), .sc (.int .i64 ((h j : Nat) : Int)), .sc (.int .i64 (-1))]) (h2 : h L ≠ h j → b' (n0 + h L) = .cells [w (h L), .sc (.int .i64 ((h L : Nat) : Int)), .sc (.int .i64 (j : Int))]) (h3 : ∀ a, a < c → a ≠ h j → a ≠ h L → b' (n0 + a) = bx (n0 + a)) :
    ∀ a, a < c → b' (n0 + a) = .cells [w a, .sc (.int .i64 ((a : Nat) : Int)), .sc (.int .i64 (posF (sw h j L) L a))] := by
  intro a ha
  by_cases e : a = h j
  · subst e; rw [h1, pos_rm0 hj hjl]
  · rw [pos_rm hj hjl e]
    by_cases e2 : a = h L
    · subst e2; rw [h2 e, pos_sw_i hj hjl (by omega)]
    · rw [h3 a ha e e2, hf a ha, pos_sw_o hj e e2]
/-- What a removal makes of a heap. -/
def rmF (kf : Nat → Int) (h : Nat → Nat) (L j : Nat) : Nat → Nat := if j < L then dnF kf L L (upF kf j (sw h j L) j) j else h
set_option maxRecDepth 100000 in
set_option maxHeartbeats 4000000 in
theorem new_c (K : Nat) : Does Try.prog 7 [.sc (.func (.func 8) #[] #[])] [(K, .dead)] [(K, .cells [.sc (.slice none 0 0), .sc (.func (.func 8) #[] #[]), .sc (.int .i64 0)])] (.ref K 0) := by
  refine does_mkg 40 Try.func7 rfl rfl rfl (fun n B bx hd hpre hup hvs hbx hgx => ?_)
  have hp0 := hpre.1
  have hz0 := hp0
  have hu0 := hup.1
  refine runs_seq ?_
  refine runs_region ?_
  refine rl0 (gn rfl) rfl rfl (step_as rfl rfl) trivial ?_
  refine runsL_nil ?_
  refine runs_seq ?_
  refine runs_region ?_
  refine rl0 (gn rfl) rfl rfl (step_mv rfl rfl) trivial ?_
  refine rl0 (gn rfl) rfl rfl (step_build (ss := [1, 1, 1]) (zs := [.slice none 0 0, .nilFunc, .int .i64 0]) rfl Try.underlying57 (by kernel_rfl) F.zero57 rfl rfl rfl) trivial ?_
  refine rl1 (gn rfl) rfl rfl (step_box_agg (k := K) rfl rfl) ⟨by repeat (first | exact uE | refine uN (by omega) ?_ | assumption | exact hd _ (by omega) | fail), trivial⟩ (by omega) ?_
  refine rl0 (gn rfl) rfl rfl (step_as rfl rfl) trivial ?_
  refine runsL_nil ?_
  refine runs_ret ?_
  refine ⟨by first | exact .inr rfl | exact .inl rfl, fin_mkg (rest rfl res0) ?_ ?_ ?_ ?_ ?_⟩
  · (repeat' (first | exact VLe.refl _ | exact VLe.own_sl _ _ _ | exact VLe.fl_sl _ _ | exact VLe.nil_sl _ | exact VLe.nil_fl _ | exact VLes.refl _ | exact .nil | refine VLe.tup ?_ | refine VLe.agg ?_ | refine .cons ?_ ?_ | (rw [Int.natCast_add]; exact VLe.refl _) | exact vle_int (by omega) | exact vle_bool (by first | rfl | assumption | (simp_all; done) | fail) | fail))
  · repeat (first | exact trivial | assumption | omega | (refine bdR_map (fun _ => ?_)) | (refine bdL_map (fun _ => ?_)) | refine ⟨?_, ?_⟩ | fail)
  · intro k_ hk_; simp only [upds]; by_cases e_ : k_ = K; (focus subst e_; refine bl_eq ?_; first | (refine' blec ?hb ?hl; (case hb => repeat (first | exact uE | assumption | refine uN (by omega) ?_ | fail)); (case hl => first | exact VLes.refl _ | ((repeat' (first | exact VLe.refl _ | exact VLe.own_sl _ _ _ | exact VLe.fl_sl _ _ | exact VLe.nil_sl _ | exact VLe.nil_fl _ | exact VLes.refl _ | exact .nil | refine VLe.tup ?_ | refine VLe.agg ?_ | refine .cons ?_ ?_ | (rw [Int.natCast_add]; exact VLe.refl _) | exact vle_int (by omega) | exact vle_bool (by first | rfl | assumption | (simp_all; done) | fail) | fail)); done))) | (refine ble ?_; (repeat (first | exact uE | assumption | refine uN (by omega) ?_ | fail)); done) | exact ble (tl_eq (by repeat (first | exact uE | assumption | refine uN (by omega) ?_ | fail)) (by first | rfl | (simp [bytesV, beB_len]; done) | (simp [bytesV, beB_len]; omega) | omega))); refine bl_ne e_ ?_; exact ble (by repeat (first | exact rfl | refine uN (by omega) ?_ | assumption | fail))
  · intro p hp cs hcs; simp only [List.mem_cons, List.not_mem_nil, or_false] at hp; (first | (rcases hp with rfl)) <;> (first | (cases hcs; done) | (cases hcs; repeat (first | exact trivial | assumption | omega | (refine bdR_map (fun _ => ?_)) | (refine bdL_map (fun _ => ?_)) | refine ⟨?_, ?_⟩ | fail)))
  · repeat (first | exact trivial | assumption | omega | (refine bdR_map (fun _ => ?_)) | (refine bdL_map (fun _ => ?_)) | refine ⟨?_, ?_⟩ | fail)
set_option maxRecDepth 100000 in
set_option maxHeartbeats 4000000 in
theorem len_c (hb gb v L c : Nat) : Does Try.prog 16 [.ref hb 0] [(hb, .cells [.gsl gb v 0 L 1, .sc (.func (.func 8) #[] #[]), .sc (.int .i64 (c : Int))])] [] (.sc (.int .i64 (L : Int))) := by
  refine does_mkg 40 Try.func16 rfl rfl rfl (fun n B bx hd hpre hup hvs hbx hgx => ?_)
  have hp0 := hpre.1
  have hk0 := lt_cells hd hp0
  refine runs_seq ?_
  refine runs_region ?_
  refine rl0 (gn rfl) rfl rfl (step_as rfl rfl) trivial ?_
  refine runsL_nil ?_
  refine runs_seq ?_
  refine runs_region ?_
  refine rl0 (gn rfl) rfl rfl (step_mv rfl rfl) trivial ?_
  refine rl0 (gn rfl) rfl rfl (step_nilCheck rfl (ev_mk rfl) (.inl ⟨_, _, rfl⟩)) trivial ?_
  refine rl0 (gn rfl) rfl rfl (step_fieldAddr (off := 0) rfl (ev_mk rfl) Try.underlying57 rfl F.sz28 rfl) trivial ?_
  refine' rl0 (gn rfl) rfl rfl (step_load_one rfl (ev_mk rfl) F.one28 ?hv) ⟨?hb, trivial⟩ ?_
  case hb => repeat (first | exact uE | refine uN (by omega) ?_ | assumption | exact hd _ (by omega) | fail)
  case hv => rfl
  refine rl0 (gn rfl) rfl rfl (step_len_g rfl rfl (ev_mk rfl) Try.underlying28) trivial ?_
  refine rl0 (gn rfl) rfl rfl (step_as rfl rfl) trivial ?_
  refine runsL_nil ?_
  refine runs_ret ?_
  refine ⟨by first | exact .inr rfl | exact .inl rfl, fin_mkg (rest rfl res0) ?_ ?_ ?_ ?_ ?_⟩
  · (repeat' (first | exact VLe.refl _ | exact VLe.own_sl _ _ _ | exact VLe.fl_sl _ _ | exact VLe.nil_sl _ | exact VLe.nil_fl _ | exact VLes.refl _ | exact .nil | refine VLe.tup ?_ | refine VLe.agg ?_ | refine .cons ?_ ?_ | (rw [Int.natCast_add]; exact VLe.refl _) | exact vle_int (by omega) | exact vle_bool (by first | rfl | assumption | (simp_all; done) | fail) | fail))
  · repeat (first | exact trivial | assumption | omega | (refine bdR_map (fun _ => ?_)) | (refine bdL_map (fun _ => ?_)) | refine ⟨?_, ?_⟩ | fail)
  · intro k_ hk_; exact ble (by repeat (first | exact rfl | refine uN (by omega) ?_ | assumption | fail))
  · intro p hp; cases hp
  · repeat (first | exact trivial | assumption | omega | (refine bdR_map (fun _ => ?_)) | (refine bdL_map (fun _ => ?_)) | refine ⟨?_, ?_⟩ | fail)
set_option maxRecDepth 100000 in
set_option maxHeartbeats 4000000 in
theorem there_c (kf : Nat → Int) (n0 a : Nat) (p : Int) : Does Try.prog 18 [.ref (n0 + a) 0] [(n0 + a, .cells [.sc (.int .i64 (kf (a))), .sc (.int .i64 ((a : Nat) : Int)), .sc (.int .i64 p)])] [] (.sc (.bool (decide (0 ≤ p)))) := by
  refine does_mkg 40 Try.func18 rfl rfl rfl (fun n B bx hd hpre hup hvs hbx hgx => ?_)
  have hp0 := hpre.1
  have hk0 := lt_cells hd hp0
  refine runs_seq ?_
  refine runs_region ?_
  refine rl0 (gn rfl) rfl rfl (step_as rfl rfl) trivial ?_
  refine runsL_nil ?_
  refine runs_seq ?_
  refine runs_region ?_
  refine rl0 (gn rfl) rfl rfl (step_mv rfl rfl) trivial ?_
  refine rl0 (gn rfl) rfl rfl (step_eq_nil (b := true) rfl (ev_mk rfl) (ev_mk rfl) Try.underlying34 ⟨_, .inl ⟨.inl ⟨_, _, rfl⟩, rfl⟩, .inr ⟨rfl, rfl⟩⟩) trivial ?_
  refine rl0 (gn rfl) rfl rfl (step_mv rfl rfl) trivial ?_
  refine rl0 (gy rfl rfl rfl rfl rfl rfl) rfl rfl (step_mv rfl rfl) trivial ?_
  refine rl0 (gy rfl rfl rfl rfl rfl rfl) rfl rfl (step_nilCheck rfl (ev_mk rfl) (.inl ⟨_, _, rfl⟩)) trivial ?_
  refine rl0 (gy rfl rfl rfl rfl rfl rfl) rfl rfl (step_fieldAddr (off := 2) rfl (ev_mk rfl) Try.underlying59 rfl F.sz3 rfl) trivial ?_
  refine' rl0 (gy rfl rfl rfl rfl rfl rfl) rfl rfl (step_load_one rfl (ev_mk rfl) F.one3 ?hv) ⟨?hb, trivial⟩ ?_
  case hb => repeat (first | exact uE | refine uN (by omega) ?_ | assumption | exact hd _ (by omega) | fail)
  case hv => rfl
  refine rl0 (gy rfl rfl rfl rfl rfl rfl) rfl rfl (step_binOp rfl (ev_mk rfl) (ev_mk rfl) run_geq) trivial ?_
  refine rl0 (gn rfl) rfl rfl (step_pick rfl (ev_mk rfl) (ev_mk rfl)) trivial ?_
  refine rl0 (gn rfl) rfl rfl (step_as rfl rfl) trivial ?_
  refine runsL_nil ?_
  refine runs_ret ?_
  refine ⟨by first | exact .inr rfl | exact .inl rfl, fin_mkg (rest rfl res0) ?_ ?_ ?_ ?_ ?_⟩
  · (repeat' (first | exact VLe.refl _ | exact VLe.own_sl _ _ _ | exact VLe.fl_sl _ _ | exact VLe.nil_sl _ | exact VLe.nil_fl _ | exact VLes.refl _ | exact .nil | refine VLe.tup ?_ | refine VLe.agg ?_ | refine .cons ?_ ?_ | (rw [Int.natCast_add]; exact VLe.refl _) | exact vle_int (by omega) | exact vle_bool (by first | rfl | assumption | (simp_all; done) | fail) | (exact vle_bool (by simp [GE.ge])) | fail))
  · repeat (first | exact trivial | assumption | omega | (refine bdR_map (fun _ => ?_)) | (refine bdL_map (fun _ => ?_)) | refine ⟨?_, ?_⟩ | fail)
  · intro k_ hk_; exact ble (by repeat (first | exact rfl | refine uN (by omega) ?_ | assumption | fail))
  · intro p hp; cases hp
  · repeat (first | exact trivial | assumption | omega | (refine bdR_map (fun _ => ?_)) | (refine bdL_map (fun _ => ?_)) | refine ⟨?_, ?_⟩ | fail)
set_option maxRecDepth 100000 in
set_option maxHeartbeats 4000000 in
theorem mine_y (kf : Nat → Int) (h : Nat → Nat) (n0 hb gb v L M c j : Nat) (hj : j < L) (hLM : L ≤ M) : Does Try.prog 26 [.ref hb 0, .ref (n0 + h j) 0] [(hb, .cells [.gsl gb v 0 L 1, .sc (.func (.func 8) #[] #[]), .sc (.int .i64 (c : Int))]), (gb, .gcells v 1 (rowsH n0 h M)), (n0 + h j, .cells [.sc (.int .i64 (kf (h j))), .sc (.int .i64 ((h j : Nat) : Int)), .sc (.int .i64 (j : Int))])] [] (.sc (.bool true)) := by
  refine does_mkg 40 Try.func26 rfl rfl rfl (fun n B bx hd hpre hup hvs hbx hgx => ?_)
  have hp0 := hpre.1
  have hk0 := lt_cells hd hp0
  have hp1 := hpre.2.1
  have hk1 := lt_gcells hd hp1
  have hp2 := hpre.2.2.1
  have hk2 := lt_cells hd hp2
  have hrl_ := rowsH_len n0 h M
  refine runs_seq ?_
  refine runs_region ?_
  refine rl0 (gn rfl) rfl rfl (step_as rfl rfl) trivial ?_
  refine runsL_nil ?_
  refine runs_seq ?_
  refine runs_draw (by kernel_rfl) (by kernel_rfl) (by kernel_rfl) ?_
  refine dl0 (gn rfl) rfl rfl (step_mv rfl rfl) trivial ?_
  refine dl0 (gn rfl) rfl rfl (step_callc rfl Try.func18 rfl rfl rfl (there_c kf n0 (h j) (j : Int)) (by repeat (first | exact .nil | refine .cons ?_ ?_ | exact VLe.refl _ | exact VLe.own_sl _ _ _ | exact VLe.fl_sl _ _ | exact VLe.nil_sl _ | exact VLe.nil_fl _ | refine VLe.agg ?_))) ⟨by repeat (first | exact uE | refine uN (by omega) ?_ | assumption | exact hd _ (by omega) | fail), trivial⟩ ?_
  have ht_ : decide (0 ≤ (j : Int)) = true := decide_eq_true (by omega)
  refine dl_know (d := 6) (c := true) rfl (decide_eq_true (by omega)) ?_
  refine dl0 (gn rfl) rfl rfl (step_mv rfl rfl) trivial ?_
  refine dl0 (gy rfl rfl rfl rfl rfl rfl) rfl rfl (step_mv rfl rfl) trivial ?_
  refine dl0 (gy rfl rfl rfl rfl rfl rfl) rfl rfl (step_nilCheck rfl (ev_mk rfl) (.inl ⟨_, _, rfl⟩)) trivial ?_
  refine dl0 (gy rfl rfl rfl rfl rfl rfl) rfl rfl (step_fieldAddr (off := 2) rfl (ev_mk rfl) Try.underlying59 rfl F.sz3 rfl) trivial ?_
  refine' dl0 (gy rfl rfl rfl rfl rfl rfl) rfl rfl (step_load_one rfl (ev_mk rfl) F.one3 ?hv) ⟨?hb, trivial⟩ ?_
  case hb => repeat (first | exact uE | refine uN (by omega) ?_ | assumption | exact hd _ (by omega) | fail)
  case hv => rfl
  refine dl0 (gy rfl rfl rfl rfl rfl rfl) rfl rfl (step_mv rfl rfl) trivial ?_
  refine dl0 (gy rfl rfl rfl rfl rfl rfl) rfl rfl (step_nilCheck rfl (ev_mk rfl) (.inl ⟨_, _, rfl⟩)) trivial ?_
  refine dl0 (gy rfl rfl rfl rfl rfl rfl) rfl rfl (step_fieldAddr (off := 0) rfl (ev_mk rfl) Try.underlying57 rfl F.sz28 rfl) trivial ?_
  refine' dl0 (gy rfl rfl rfl rfl rfl rfl) rfl rfl (step_load_one rfl (ev_mk rfl) F.one28 ?hv) ⟨?hb, trivial⟩ ?_
  case hb => repeat (first | exact uE | refine uN (by omega) ?_ | assumption | exact hd _ (by omega) | fail)
  case hv => rfl
  refine dl0 (gy rfl rfl rfl rfl rfl rfl) rfl rfl (step_len_g rfl rfl (ev_mk rfl) Try.underlying28) trivial ?_
  refine dl_lss (gy rfl rfl rfl rfl rfl rfl) rfl rfl rfl rfl rfl (fun h1 => ?_) (fun h1 => ?_)
  rotate_left
  · exact False.elim (by omega)
  refine dl0 (gn rfl) rfl rfl (step_pick rfl (ev_mk rfl) (ev_mk rfl)) trivial ?_
  refine dl0 (gn rfl) rfl rfl (step_mv rfl rfl) trivial ?_
  refine dl0 (gy rfl rfl rfl rfl rfl rfl) rfl rfl (step_mv rfl rfl) trivial ?_
  refine dl0 (gy rfl rfl rfl rfl rfl rfl) rfl rfl (step_nilCheck rfl (ev_mk rfl) (.inl ⟨_, _, rfl⟩)) trivial ?_
  refine dl0 (gy rfl rfl rfl rfl rfl rfl) rfl rfl (step_fieldAddr (off := 0) rfl (ev_mk rfl) Try.underlying57 rfl F.sz28 rfl) trivial ?_
  refine' dl0 (gy rfl rfl rfl rfl rfl rfl) rfl rfl (step_load_one rfl (ev_mk rfl) F.one28 ?hv) ⟨?hb, trivial⟩ ?_
  case hb => repeat (first | exact uE | refine uN (by omega) ?_ | assumption | exact hd _ (by omega) | fail)
  case hv => rfl
  refine dl0 (gy rfl rfl rfl rfl rfl rfl) rfl rfl (step_mv rfl rfl) trivial ?_
  refine dl0 (gy rfl rfl rfl rfl rfl rfl) rfl rfl (step_nilCheck rfl (ev_mk rfl) (.inl ⟨_, _, rfl⟩)) trivial ?_
  refine dl0 (gy rfl rfl rfl rfl rfl rfl) rfl rfl (step_fieldAddr (off := 2) rfl (ev_mk rfl) Try.underlying59 rfl F.sz3 rfl) trivial ?_
  refine' dl0 (gy rfl rfl rfl rfl rfl rfl) rfl rfl (step_load_one rfl (ev_mk rfl) F.one3 ?hv) ⟨?hb, trivial⟩ ?_
  case hb => repeat (first | exact uE | refine uN (by omega) ?_ | assumption | exact hd _ (by omega) | fail)
  case hv => rfl
  refine' dl0 (gy rfl rfl rfl rfl rfl rfl) rfl rfl (step_index_g rfl (ev_mk rfl) (ev_mk rfl) Try.underlying28 F.sz34 (by omega) (by omega) ?hl) ⟨?hb, trivial⟩ ?_
  case hb => repeat (first | exact uE | refine uN (by omega) ?_ | assumption | exact hd _ (by omega) | fail)
  case hl => first | omega | (first | (simp; done) | (simp; omega) | omega)
  refine' dl0 (gy rfl rfl rfl rfl rfl rfl) rfl rfl (step_load_g1 (i := j) (c := 0) (r := [V.ref (n0 + h j) 0]) rfl (ev_mk rfl) F.one34 ?hi ?hc ?hq) ⟨?hb, trivial⟩ ?_
  case hb => repeat (first | exact uE | refine uN (by omega) ?_ | assumption | exact hd _ (by omega) | fail)
  case hi => exact row_at (by omega)
  case hc => first | rfl | (first | (simp; done) | (simp; omega) | omega)
  case hq => first | rfl | omega
  refine dl0 (gy rfl rfl rfl rfl rfl rfl) rfl rfl (step_mv rfl rfl) trivial ?_
  refine dl0 (gy rfl rfl rfl rfl rfl rfl) rfl rfl (step_eq_same rfl (ev_mk rfl) (ev_mk rfl) Try.underlying34 F.sz59) trivial ?_
  refine dl0 (gn rfl) rfl rfl (step_pick rfl (ev_mk rfl) (ev_mk rfl)) trivial ?_
  refine dl0 (gn rfl) rfl rfl (step_as rfl rfl) trivial ?_
  refine dlnil ?_ ?_
  · repeat' (first | exact trivial | exact .inr (ap0 _ _ _ _) | exact .inr (ap2 _ _ _ _) | exact .inr (ap3 _ _ _ _) | exact .inr ⟨by first | (simp; done) | (simp; omega), by first | (simp; done) | (simp; omega)⟩ | exact .inl (by kernel_rfl) | refine ⟨?_, ?_⟩ | fail)
  refine runs_ret ?_
  refine ⟨by first | exact .inr rfl | exact .inl rfl, fin_mkg (rest rfl res0) ?_ ?_ ?_ ?_ ?_⟩
  · (repeat' (first | exact VLe.refl _ | exact VLe.own_sl _ _ _ | exact VLe.fl_sl _ _ | exact VLe.nil_sl _ | exact VLe.nil_fl _ | exact VLes.refl _ | exact .nil | refine VLe.tup ?_ | refine VLe.agg ?_ | refine .cons ?_ ?_ | (rw [Int.natCast_add]; exact VLe.refl _) | exact vle_int (by omega) | exact vle_bool (by first | rfl | assumption | (simp_all; done) | fail) | fail))
  · repeat (first | exact trivial | assumption | omega | (refine bdR_map (fun _ => ?_)) | (refine bdL_map (fun _ => ?_)) | refine ⟨?_, ?_⟩ | fail)
  · intro k_ hk_; exact ble (by repeat (first | exact rfl | refine uN (by omega) ?_ | assumption | fail))
  · intro p hp; cases hp
  · repeat (first | exact trivial | assumption | omega | (refine bdR_map (fun _ => ?_)) | (refine bdL_map (fun _ => ?_)) | refine ⟨?_, ?_⟩ | fail)
set_option maxRecDepth 100000 in
set_option maxHeartbeats 4000000 in
theorem mine_n (kf : Nat → Int) (n0 hb gb v L c a : Nat) : Does Try.prog 26 [.ref hb 0, .ref (n0 + a) 0] [(hb, .cells [.gsl gb v 0 L 1, .sc (.func (.func 8) #[] #[]), .sc (.int .i64 (c : Int))]), (n0 + a, .cells [.sc (.int .i64 (kf (a))), .sc (.int .i64 ((a : Nat) : Int)), .sc (.int .i64 (-1))])] [] (.sc (.bool false)) := by
  refine does_mkg 40 Try.func26 rfl rfl rfl (fun n B bx hd hpre hup hvs hbx hgx => ?_)
  have hp0 := hpre.1
  have hk0 := lt_cells hd hp0
  have hp1 := hpre.2.1
  have hk1 := lt_cells hd hp1
  refine runs_seq ?_
  refine runs_region ?_
  refine rl0 (gn rfl) rfl rfl (step_as rfl rfl) trivial ?_
  refine runsL_nil ?_
  refine runs_seq ?_
  refine runs_draw (by kernel_rfl) (by kernel_rfl) (by kernel_rfl) ?_
  refine dl0 (gn rfl) rfl rfl (step_mv rfl rfl) trivial ?_
  refine dl0 (gn rfl) rfl rfl (step_callc rfl Try.func18 rfl rfl rfl (there_c kf n0 a (-1)) (by repeat (first | exact .nil | refine .cons ?_ ?_ | exact VLe.refl _ | exact VLe.own_sl _ _ _ | exact VLe.fl_sl _ _ | exact VLe.nil_sl _ | exact VLe.nil_fl _ | refine VLe.agg ?_))) ⟨by repeat (first | exact uE | refine uN (by omega) ?_ | assumption | exact hd _ (by omega) | fail), trivial⟩ ?_
  refine dl_know (d := 6) (c := false) rfl (rfl) ?_
  refine dl0 (gn rfl) rfl rfl (step_mv rfl rfl) trivial ?_
  refine dlk rfl rfl rfl rfl rfl (ngb rfl rfl) rfl rfl ?_
  refine dlk rfl rfl rfl rfl rfl (ngb rfl rfl) rfl rfl ?_
  refine dlk rfl rfl rfl rfl rfl (ngb rfl rfl) rfl rfl ?_
  refine dlk rfl rfl rfl rfl rfl (ngb rfl rfl) rfl rfl ?_
  refine dlk rfl rfl rfl rfl rfl (ngb rfl rfl) rfl rfl ?_
  refine dlk rfl rfl rfl rfl rfl (ngb rfl rfl) rfl rfl ?_
  refine dlk rfl rfl rfl rfl rfl (ngb rfl rfl) rfl rfl ?_
  refine dlk rfl rfl rfl rfl rfl (ngb rfl rfl) rfl rfl ?_
  refine dlk rfl rfl rfl rfl rfl (ngb rfl rfl) rfl rfl ?_
  refine dlk rfl rfl rfl rfl rfl (ngb rfl rfl) rfl rfl ?_
  refine dl0 (gn rfl) rfl rfl (step_pick rfl (ev_mk rfl) (ev_mk rfl)) trivial ?_
  refine dl0 (gn rfl) rfl rfl (step_mv rfl rfl) trivial ?_
  refine dlk rfl rfl rfl rfl rfl (ngb rfl rfl) rfl rfl ?_
  refine dlk rfl rfl rfl rfl rfl (ngb rfl rfl) rfl rfl ?_
  refine dlk rfl rfl rfl rfl rfl (ngb rfl rfl) rfl rfl ?_
  refine dlk rfl rfl rfl rfl rfl (ngb rfl rfl) rfl rfl ?_
  refine dlk rfl rfl rfl rfl rfl (ngb rfl rfl) rfl rfl ?_
  refine dlk rfl rfl rfl rfl rfl (ngb rfl rfl) rfl rfl ?_
  refine dlk rfl rfl rfl rfl rfl (ngb rfl rfl) rfl rfl ?_
  refine dlk rfl rfl rfl rfl rfl (ngb rfl rfl) rfl rfl ?_
  refine dlk rfl rfl rfl rfl rfl (ngb rfl rfl) rfl rfl ?_
  refine dlk rfl rfl rfl rfl rfl (ngb rfl rfl) rfl rfl ?_
  refine dlk rfl rfl rfl rfl rfl (ngb rfl rfl) rfl rfl ?_
  refine dlk rfl rfl rfl rfl rfl (ngb rfl rfl) rfl rfl ?_
  refine dl0 (gn rfl) rfl rfl (step_pick rfl (ev_mk rfl) (ev_mk rfl)) trivial ?_
  refine dl0 (gn rfl) rfl rfl (step_as rfl rfl) trivial ?_
  refine dlnil ?_ ?_
  · repeat' (first | exact trivial | exact .inr (ap0 _ _ _ _) | exact .inr (ap2 _ _ _ _) | exact .inr (ap3 _ _ _ _) | exact .inr ⟨by first | (simp; done) | (simp; omega), by first | (simp; done) | (simp; omega)⟩ | exact .inl (by kernel_rfl) | refine ⟨?_, ?_⟩ | fail)
  refine runs_ret ?_
  refine ⟨by first | exact .inr rfl | exact .inl rfl, fin_mkg (rest rfl res0) ?_ ?_ ?_ ?_ ?_⟩
  · (repeat' (first | exact VLe.refl _ | exact VLe.own_sl _ _ _ | exact VLe.fl_sl _ _ | exact VLe.nil_sl _ | exact VLe.nil_fl _ | exact VLes.refl _ | exact .nil | refine VLe.tup ?_ | refine VLe.agg ?_ | refine .cons ?_ ?_ | (rw [Int.natCast_add]; exact VLe.refl _) | exact vle_int (by omega) | exact vle_bool (by first | rfl | assumption | (simp_all; done) | fail) | fail))
  · repeat (first | exact trivial | assumption | omega | (refine bdR_map (fun _ => ?_)) | (refine bdL_map (fun _ => ?_)) | refine ⟨?_, ?_⟩ | fail)
  · intro k_ hk_; exact ble (by repeat (first | exact rfl | refine uN (by omega) ?_ | assumption | fail))
  · intro p hp; cases hp
  · repeat (first | exact trivial | assumption | omega | (refine bdR_map (fun _ => ?_)) | (refine bdL_map (fun _ => ?_)) | refine ⟨?_, ?_⟩ | fail)
set_option maxRecDepth 100000 in
set_option maxHeartbeats 4000000 in
theorem push_c (kf : Nat → Int) (h : Nat → Nat) (n0 hb gb v L M c : Nat) (hLM : L ≤ M) (hLb : L < 999999) (hcb : c < 999999) (hinj : InjH h L) (hc : ∀ j, j < L → h j < c) (hne : hb ≠ gb) (hhb : hb < n0) (hgb : gb < n0) : Does Try.prog 10 [.ref hb 0, .sc (.int .i64 (kf (c)))] ([(hb, .cells [.gsl gb v 0 L 1, .sc (.func (.func 8) #[] #[]), .sc (.int .i64 (c : Int))]), (gb, .gcells v 1 (rowsH n0 h M)), (n0 + c, .dead)] ++ famL n0 c (itC kf h L)) ([(hb, .cells [.gsl gb (v + 1) 0 (L + 1) 1, .sc (.func (.func 8) #[] #[]), .sc (.int .i64 ((c : Int) + 1 : Int))]), (gb, .gcells (v + 1) 1 (rowsH n0 (upF kf L (upd1 h L c) L) (L + 1)))] ++ famL n0 (c + 1) (itC kf (upF kf L (upd1 h L c) L) (L + 1))) (.ref (n0 + c) 0) := by
  refine does_mkg 40 Try.func10 rfl rfl rfl (fun n B bx hd hpre hup hvs hbx hgx => ?_)
  have hp0 := hpre.1
  have hk0 := lt_cells hd hp0
  have hp1 := hpre.2.1
  have hk1 := lt_gcells hd hp1
  have hp2 := hpre.2.2.1
  have hz2 := hp2
  have hu0 := hup.1
  have hu1 := hup.2.1
  have hfam0 := fam_of hpre.2.2.2
  have hfn0 := fam_lt hd hfam0
  have hfu0 := uplt_fam hup.2.2
  have hKn_ := hfu0 c (by omega)
  have hrl_ := rowsH_len n0 h M
  refine runs_seq ?_
  refine runs_region ?_
  refine rl0 (gn rfl) rfl rfl (step_as rfl rfl) trivial ?_
  refine runsL_nil ?_
  refine runs_seq ?_
  refine runs_draw (by kernel_rfl) (by kernel_rfl) (by kernel_rfl) ?_
  refine dl0 (gn rfl) rfl rfl (step_mv rfl rfl) trivial ?_
  refine dl0 (gn rfl) rfl rfl (step_mv rfl rfl) trivial ?_
  refine dl0 (gn rfl) rfl rfl (step_nilCheck rfl (ev_mk rfl) (.inl ⟨_, _, rfl⟩)) trivial ?_
  refine dl0 (gn rfl) rfl rfl (step_fieldAddr (off := 2) rfl (ev_mk rfl) Try.underlying57 rfl F.sz3 rfl) trivial ?_
  refine' dl0 (gn rfl) rfl rfl (step_load_one rfl (ev_mk rfl) F.one3 ?hv) ⟨?hb, trivial⟩ ?_
  case hb => repeat (first | exact uE | refine uN (by omega) ?_ | assumption | exact hd _ (by omega) | fail)
  case hv => rfl
  refine dl0 (gn rfl) rfl rfl (step_mv rfl rfl) trivial ?_
  refine dl0 (gn rfl) rfl rfl (step_nilCheck rfl (ev_mk rfl) (.inl ⟨_, _, rfl⟩)) trivial ?_
  refine dl0 (gn rfl) rfl rfl (step_fieldAddr (off := 0) rfl (ev_mk rfl) Try.underlying57 rfl F.sz28 rfl) trivial ?_
  refine' dl0 (gn rfl) rfl rfl (step_load_one rfl (ev_mk rfl) F.one28 ?hv) ⟨?hb, trivial⟩ ?_
  case hb => repeat (first | exact uE | refine uN (by omega) ?_ | assumption | exact hd _ (by omega) | fail)
  case hv => rfl
  refine dl0 (gn rfl) rfl rfl (step_len_g rfl rfl (ev_mk rfl) Try.underlying28) trivial ?_
  refine dl0 (gn rfl) rfl rfl (step_build (ss := [1, 1, 1]) (zs := [.int .i64 0, .int .i64 0, .int .i64 0]) rfl Try.underlying59 (by kernel_rfl) F.zero59 rfl rfl rfl) trivial ?_
  refine dl1 (gn rfl) rfl rfl (step_box_agg (k := n0 + c) rfl rfl) ⟨by repeat (first | exact uE | refine uN (by omega) ?_ | assumption | exact hd _ (by omega) | fail), trivial⟩ (by omega) ?_
  refine dl0 (gn rfl) rfl rfl (step_as rfl rfl) trivial ?_
  refine dlnil ?_ ?_
  · repeat' (first | exact trivial | exact .inr (ap0 _ _ _ _) | exact .inr (ap2 _ _ _ _) | exact .inr (ap3 _ _ _ _) | exact .inr ⟨by first | (simp; done) | (simp; omega), by first | (simp; done) | (simp; omega)⟩ | exact .inl (by kernel_rfl) | refine ⟨?_, ?_⟩ | fail)
  refine runs_seq ?_
  refine runs_region ?_
  refine rl0 (gn rfl) rfl rfl (step_mv rfl rfl) trivial ?_
  refine rl0 (gn rfl) rfl rfl (step_nilCheck rfl (ev_mk rfl) (.inl ⟨_, _, rfl⟩)) trivial ?_
  refine rl0 (gn rfl) rfl rfl (step_fieldAddr (off := 2) rfl (ev_mk rfl) Try.underlying57 rfl F.sz3 rfl) trivial ?_
  refine' rl0 (gn rfl) rfl rfl (step_load_one rfl (ev_mk rfl) F.one3 ?hv) ⟨?hb, trivial⟩ ?_
  case hb => repeat (first | exact uE | refine uN (by omega) ?_ | assumption | exact hd _ (by omega) | fail)
  case hv => rfl
  refine rl0 (gn rfl) rfl rfl (step_add rfl (ev_mk rfl) (ev_mk rfl) (w64 (by omega))) trivial ?_
  refine rl0 (gn rfl) rfl rfl (step_nilCheck rfl (ev_mk rfl) (.inl ⟨_, _, rfl⟩)) trivial ?_
  refine rl0 (gn rfl) rfl rfl (step_fieldAddr (off := 2) rfl (ev_mk rfl) Try.underlying57 rfl F.sz3 rfl) trivial ?_
  refine' rls (gn rfl) rfl (step_store1 rfl rfl rfl rfl F.one3 rfl rfl ?hl ?hc) ⟨?hb, trivial⟩ ?hk ?_
  case hb => repeat (first | exact uE | refine uN (by omega) ?_ | assumption | exact hd _ (by omega) | fail)
  case hl => first | exact Nat.le_of_ble_eq_true rfl | decide | (simp; done) | (simp; omega) | (first | (simp; done) | (simp; omega) | omega)
  case hc => first | (simp only [List.set_cons_succ, List.set_cons_zero]; rfl) | rfl
  case hk => omega
  refine runsL_nil ?_
  refine runs_seq ?_
  refine runs_region ?_
  refine rl0 (gn rfl) rfl rfl (step_mv rfl rfl) trivial ?_
  refine rl0 (gn rfl) rfl rfl (step_mv rfl rfl) trivial ?_
  refine rl0 (gn rfl) rfl rfl (step_nilCheck rfl (ev_mk rfl) (.inl ⟨_, _, rfl⟩)) trivial ?_
  refine rl0 (gn rfl) rfl rfl (step_fieldAddr (off := 0) rfl (ev_mk rfl) Try.underlying57 rfl F.sz28 rfl) trivial ?_
  refine' rl0 (gn rfl) rfl rfl (step_load_one rfl (ev_mk rfl) F.one28 ?hv) ⟨?hb, trivial⟩ ?_
  case hb => repeat (first | exact uE | refine uN (by omega) ?_ | assumption | exact hd _ (by omega) | fail)
  case hv => rfl
  refine rl0 (gn rfl) rfl rfl (step_mv rfl rfl) trivial ?_
  refine rl0 (gn rfl) rfl rfl (step_lit rfl Try.underlying28 F.sz34 F.zero34 (by first | rfl | simp) (by first | rfl | simp | decide) (by decide) rfl rfl (by first | (simp [V.cs, V.stor, oneV]; done) | (simp [V.cs, V.stor, oneV])) rfl) trivial ?_
  refine' rl1 (gn rfl) rfl rfl (step_append_g (xs' := (rowsH n0 (upd1 h L c) (L + 1))) rfl rfl rfl Try.underlying28 ⟨_, Try.underlying28, fun k_ => by intro h_; cases h_⟩ F.el34 (ev_mk rfl) (ev_mk rfl) (gives_sl (.inr (.inl rfl))) ?hl ?hg ?hx) ⟨?hb, trivial⟩ (by omega) ?_
  case hb => repeat (first | exact uE | refine uN (by omega) ?_ | assumption | exact hd _ (by omega) | fail)
  case hl => first | omega | (simp; done) | (first | (simp; done) | (simp; omega) | omega)
  case hg => (show L + 1 ≤ 1073741824; omega)
  case hx => exact rows_put hLM
  refine rl0 (gn rfl) rfl rfl (step_nilCheck rfl (ev_mk rfl) (.inl ⟨_, _, rfl⟩)) trivial ?_
  refine rl0 (gn rfl) rfl rfl (step_fieldAddr (off := 0) rfl (ev_mk rfl) Try.underlying57 rfl F.sz28 rfl) trivial ?_
  refine' rls (gn rfl) rfl (step_store1 rfl rfl rfl rfl F.one28 rfl rfl ?hl ?hc) ⟨?hb, trivial⟩ ?hk ?_
  case hb => repeat (first | exact uE | refine uN (by omega) ?_ | assumption | exact hd _ (by omega) | fail)
  case hl => first | exact Nat.le_of_ble_eq_true rfl | decide | (simp; done) | (simp; omega) | (first | (simp; done) | (simp; omega) | omega)
  case hc => first | (simp only [List.set_cons_succ, List.set_cons_zero]; rfl) | rfl
  case hk => omega
  refine runsL_nil ?_
  refine runs_seq ?_
  refine runs_region ?_
  refine rl0 (gn rfl) rfl rfl (step_mv rfl rfl) trivial ?_
  refine rl0 (gn rfl) rfl rfl (step_mv rfl rfl) trivial ?_
  refine rl0 (gn rfl) rfl rfl (step_nilCheck rfl (ev_mk rfl) (.inl ⟨_, _, rfl⟩)) trivial ?_
  refine rl0 (gn rfl) rfl rfl (step_fieldAddr (off := 2) rfl (ev_mk rfl) Try.underlying59 rfl F.sz3 rfl) trivial ?_
  refine' rl0 (gn rfl) rfl rfl (step_load_one rfl (ev_mk rfl) F.one3 ?hv) ⟨?hb, trivial⟩ ?_
  case hb => repeat (first | exact uE | refine uN (by omega) ?_ | assumption | exact hd _ (by omega) | fail)
  case hv => rfl
  refine rl_fam (gn rfl) rfl rfl (step_callc rfl Try.func25 rfl rfl rfl (up_c kf (upd1 h L c) n0 hb gb (v + 1) (L + 1) (L + 1) (c + 1) L (by omega) (by omega) (by omega) (put_inj0 hinj hc) (put_lt hc) hne hhb hgb) (by repeat (first | exact .nil | refine .cons ?_ ?_ | exact VLe.refl _ | exact vle_int (by omega) | exact VLe.own_sl _ _ _ | exact VLe.fl_sl _ _ | exact VLe.nil_sl _ | exact VLe.nil_fl _ | refine VLe.agg ?_))) ⟨by repeat (first | exact uE | refine uN (by omega) ?_ | assumption | exact hd _ (by omega) | fail), by repeat (first | exact uE | refine uN (by omega) ?_ | assumption | exact hd _ (by omega) | fail), fam_ok (fam_put (w := fun a => .sc (.int .i64 (kf (a)))) hfam0 hinj hc (by repeat (first | exact uE | refine uN (by omega) ?_ | assumption | exact hd _ (by omega) | fail)) (fun a_ ha_ => by repeat (first | exact rfl | refine uN (by omega) ?_ | assumption | fail)))⟩ (by repeat (first | exact trivial | refine ⟨by omega, ?_⟩)) (by omega) (fun bz1 hfam1 hfz1 => ?_)
  simp only [upds] at hfz1
  refine runsL_nil ?_
  refine runs_seq ?_
  refine runs_region ?_
  refine rl0 (gn rfl) rfl rfl (step_mv rfl rfl) trivial ?_
  refine rl0 (gn rfl) rfl rfl (step_as rfl rfl) trivial ?_
  refine runsL_nil ?_
  refine runs_ret ?_
  refine ⟨by first | exact .inr rfl | exact .inl rfl, fin_fam (rest rfl res0) ?_ ?_ ?_ ?_ ?_ ?_ ?_⟩
  · (repeat' (first | exact VLe.refl _ | exact VLe.own_sl _ _ _ | exact VLe.fl_sl _ _ | exact VLe.nil_sl _ | exact VLe.nil_fl _ | exact VLes.refl _ | exact .nil | refine VLe.tup ?_ | refine VLe.agg ?_ | refine .cons ?_ ?_ | (rw [Int.natCast_add]; exact VLe.refl _) | exact vle_int (by omega) | exact vle_bool (by first | rfl | assumption | (simp_all; done) | fail) | fail))
  · first | ((repeat (first | exact trivial | exact rows_bd (c := c + 1) (up_lt _ _ _ (by omega) (put_lt hc)) (.inr (by omega)) | assumption | omega | refine ⟨?_, ?_⟩ | fail)); done) | (repeat (first | exact trivial | assumption | omega | (refine bdR_map (fun _ => ?_)) | (refine bdL_map (fun _ => ?_)) | refine ⟨?_, ?_⟩ | fail))
  · exact hfam1
  · intro k_ hk_ hq_; simp only [upds]; by_cases e_ : k_ = gb; (focus subst e_; refine bl_eq ?_; first | (refine ble ?_; (repeat (first | exact uE | assumption | refine uN (by omega) ?_ | refine (hfz1 _ (by first | assumption | omega)).trans ?_ | fail)); done) | (refine' blec ?hb ?hl; (case hb => repeat (first | exact uE | assumption | refine uN (by omega) ?_ | refine (hfz1 _ (by first | assumption | omega)).trans ?_ | fail)); (case hl => first | exact VLes.refl _ | ((repeat' (first | exact VLe.refl _ | exact VLe.own_sl _ _ _ | exact VLe.fl_sl _ _ | exact VLe.nil_sl _ | exact VLe.nil_fl _ | exact VLes.refl _ | exact .nil | refine VLe.tup ?_ | refine VLe.agg ?_ | refine .cons ?_ ?_ | (rw [Int.natCast_add]; exact VLe.refl _) | exact vle_int (by omega) | exact vle_bool (by first | rfl | assumption | (simp_all; done) | fail) | fail)); done)))); refine bl_ne e_ ?_; by_cases e_ : k_ = hb; (focus subst e_; refine bl_eq ?_; first | (refine ble ?_; (repeat (first | exact uE | assumption | refine uN (by omega) ?_ | refine (hfz1 _ (by first | assumption | omega)).trans ?_ | fail)); done) | (refine' blec ?hb ?hl; (case hb => repeat (first | exact uE | assumption | refine uN (by omega) ?_ | refine (hfz1 _ (by first | assumption | omega)).trans ?_ | fail)); (case hl => first | exact VLes.refl _ | ((repeat' (first | exact VLe.refl _ | exact VLe.own_sl _ _ _ | exact VLe.fl_sl _ _ | exact VLe.nil_sl _ | exact VLe.nil_fl _ | exact VLes.refl _ | exact .nil | refine VLe.tup ?_ | refine VLe.agg ?_ | refine .cons ?_ ?_ | (rw [Int.natCast_add]; exact VLe.refl _) | exact vle_int (by omega) | exact vle_bool (by first | rfl | assumption | (simp_all; done) | fail) | fail)); done)))); refine bl_ne e_ ?_; exact ble (by repeat (first | exact rfl | refine uN (by omega) ?_ | assumption | refine (hfz1 _ (by first | assumption | omega)).trans ?_ | fail))
  · intro p hp cs hcs; simp only [List.mem_cons, List.not_mem_nil, or_false] at hp; (first | (cases hp; done) | (rcases hp with rfl | rfl) | (rcases hp with rfl)) <;> (first | (cases hcs; done) | (cases hcs; (first | ((repeat (first | exact trivial | exact rows_bd (c := c + 1) (up_lt _ _ _ (by omega) (put_lt hc)) (.inr (by omega)) | assumption | omega | refine ⟨?_, ?_⟩ | fail)); done) | (repeat (first | exact trivial | assumption | omega | (refine bdR_map (fun _ => ?_)) | (refine bdL_map (fun _ => ?_)) | refine ⟨?_, ?_⟩ | fail)))))
  · intro a_ ha_; exact ⟨trivial, trivial, trivial, trivial⟩
  · first | ((repeat (first | exact trivial | exact rows_bd (c := c + 1) (up_lt _ _ _ (by omega) (put_lt hc)) (.inr (by omega)) | assumption | omega | refine ⟨?_, ?_⟩ | fail)); done) | (repeat (first | exact trivial | assumption | omega | (refine bdR_map (fun _ => ?_)) | (refine bdL_map (fun _ => ?_)) | refine ⟨?_, ?_⟩ | fail))
end Go.Proofs.Ytggeejghchnpaaa
