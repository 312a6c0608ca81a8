/- Walks by the logic of values. -/
import Derived.Test.YtgfmjipdegkemaaKpVa
import Derived.Test.YtgfmjipdegkemaaKpVb
import Derived.Test.YtgfmjipdegkemaaKpWa
import Derived.Test.YtgfmjipdegkemaaKpWb
import Derived.Test.YtgfmjipdegkemaaKpWc
import Derived.Test.YtgfmjipdegkemaaKpWd
import Derived.Test.YtgfmjipdegkemaaKpWe
import Derived.Test.YtgfmjipdegkemaaKpVmT
import Derived.Test.YtgfmjipdegkemaaKpVmP
namespace Go.Proofs.Ytgfmjipdegkemaa
open Go.Vm
set_option linter.unusedVariables false
set_option linter.unusedSimpArgs false
theorem rows_tk (p : List Int) : ∀ i, i ≤ p.length → rowsOf 1 i (((p.map bV).drop 0).take (i * 1)) = bytesV (p.take i) := by
  intro i hi
  have key : ∀ (n : Nat) (xs : List Int), xs.length = n → rowsOf 1 n (xs.map bV) = bytesV xs := by
    intro n
    induction n with
    | zero => intro xs hx; rw [List.length_eq_zero_iff.1 hx]; rfl
    | succ n ih =>
      intro xs hx
      cases xs with
      | nil => simp at hx
      | cons x xs => simp only [rowsOf, List.map_cons, List.take_succ_cons, List.take_zero, List.drop_succ_cons, List.drop_zero]; rw [ih xs (by simpa using hx)]; rfl
  rw [List.drop_zero, Nat.mul_one, ← List.map_take]
  exact key i (p.take i) (by simp; omega)
def sqB (p : List Int) : List Int := (lnz p 224 : Int) :: p.take (lnz p 224)
theorem lnz_hit {p : List Int} {i : Nat} (h1 : 1 ≤ i) (h : ¬ at' p ((i : Int) - 1) = 0) : lnz p i = i := by
  obtain ⟨j, rfl⟩ : ∃ j, i = j + 1 := ⟨i - 1, by omega⟩
  unfold lnz
  rw [if_pos (by rw [show ((j + 1 : Nat) : Int) - 1 = (j : Int) by omega] at h; exact h)]
theorem lnz_miss {p : List Int} {i : Nat} (h1 : 1 ≤ i) (h : at' p ((i : Int) - 1) = 0) : lnz p i = lnz p (i - 1) := by
  obtain ⟨j, rfl⟩ : ∃ j, i = j + 1 := ⟨i - 1, by omega⟩
  rw [show ((j + 1 : Nat) : Int) - 1 = (j : Int) by omega] at h
  show lnz p (j + 1) = lnz p j
  rw [lnz, if_neg (by simpa using h)]
set_option maxRecDepth 100000 in
set_option maxHeartbeats 4000000 in
theorem sq_c (p : List Int) (hp : p.length = 224) : Does Try.prog 22 [.agg (p.map bV)] [] [] (.sl 1 (bytesV (sqB p))) := by
  refine does_mkg 40 Try.func22 rfl rfl rfl (fun n B bx hd hpre hup hvs hbx hgx => ?_)
  refine runs_seq ?_
  refine runs_region ?_
  refine rl1 (gn rfl) rfl rfl (step_box_agg (k := n + 0) rfl rfl) ⟨by repeat (first | exact uE | refine uN (by omega) ?_ | assumption | exact hd _ (by omega) | fail), trivial⟩ (by omega) ?_
  refine rl0 (gn rfl) rfl rfl (step_as rfl rfl) trivial ?_
  refine runsL_nil ?_
  refine runs_seq ?_
  refine runs_region ?_
  refine rl0 (gn rfl) rfl rfl (step_as rfl rfl) trivial ?_
  refine runsL_nil ?_
  refine runs_seq ?_
  refine runs_block ?_
  refine runs_loop (fun (ri_ : Nat) (st_ : Go.Vm.S) => ∃ (i : Nat) (m0 : Nat) (b0 : Nat → Box), (st_ = ⟨mk [(1, .ref (n + 0) 0), (2, .sc (.slice none 0 0)), (3, .sc (.int .i64 i))], m0, b0⟩) ∧ (ri_ = 1 + i) ∧ (n + 1 ≤ m0) ∧ (∀ k_, k_ < n → b0 k_ = bx k_) ∧ (b0 (n + 0) = .cells (p.map bV)) ∧ (i ≤ 224) ∧ (lnz p 224 = lnz p i)) (1 + 224) ⟨_, sle ?_ (Nat.le_refl _), 224, _, _, rfl, rfl, ?_⟩ ?_
  · (repeat' (first | exact trivial | refine ⟨⟨_, rfl, ?_⟩, ?_⟩ | fail)); all_goals (repeat' (first | exact VLe.refl _ | exact VLe.own_sl _ _ _ | exact VLe.fl_sl _ _ | exact VLe.nil_sl _ | exact VLe.nil_fl _ | exact VLes.refl _ | exact .nil | refine VLe.tup ?_ | refine VLe.agg ?_ | refine .cons ?_ ?_ | (rw [Int.natCast_add]; exact VLe.refl _) | exact vle_int (by omega) | exact vle_bool (by first | rfl | assumption | (simp_all; done)) | fail))
  · exact ⟨by omega, (fun k_ hk_ => by repeat (first | exact rfl | refine uN (by omega) ?_ | assumption | fail)), by first | ((repeat (first | exact uE | assumption | refine uN (by omega) ?_ | fail)); done) | exact tl_eq (by repeat (first | exact uE | assumption | refine uN (by omega) ?_ | fail)) (by first | rfl | (simp [bytesV, beB_len]; done) | (simp [bytesV, beB_len]; omega) | omega), by omega, rfl⟩
  · rintro _ _ ⟨i, m0, b0, rfl, rfl, hm0, hf0, hB0_0, hF0_0, hF0_1⟩
    refine runs_know (fun hd0 => ?_)
    refine runs_bump 20 ?_
    simp only at hd0
    refine runs_seq ?_
    refine runs_seq ?_
    refine runs_region ?_
    refine rl0 (gn rfl) rfl rfl (step_mv rfl rfl) trivial ?_
    refine rl_gtr (gn rfl) rfl rfl rfl rfl rfl (fun h1 => ?_) (fun h1 => ?_)
    · skip
      refine rl0 (gn rfl) rfl rfl (step_mv rfl rfl) trivial ?_
      refine rl0 (gy rfl rfl rfl rfl rfl rfl) rfl rfl (step_mv rfl rfl) trivial ?_
      refine rl0 (gy rfl rfl rfl rfl rfl rfl) rfl rfl (step_sub rfl (ev_mk rfl) (ev_mk rfl) (w64 (by omega))) trivial ?_
      refine rl0 (gy rfl rfl rfl rfl rfl rfl) rfl rfl (step_index_arr rfl (ev_mk rfl) (ev_mk rfl) Try.underlying49 F.sz5 (by omega) (by omega)) trivial ?_
      refine' rl0 (gy rfl rfl rfl rfl rfl rfl) rfl rfl (step_load_one (v := .sc (.int .u8 (at' p ((i : Int) - 1)))) rfl (ev_mk rfl) F.one5 ?hv) ⟨?hb, trivial⟩ ?_
      case hb => repeat (first | exact uE | refine uN (by omega) ?_ | assumption | exact hd _ (by omega) | exact hd0 _ (by omega) | fail)
      case hv => (rw [show (i : Int) - 1 = ((i - 1 : Nat) : Int) by omega]; exact p_at (by omega) (by omega))
      refine rl_eql (gy rfl rfl rfl rfl rfl rfl) rfl rfl rfl rfl rfl (fun h2 => ?_) (fun h2 => ?_)
      · skip
        refine rl0 (gn rfl) rfl rfl (step_pick rfl (ev_mk rfl) (ev_mk rfl)) trivial ?_
        refine runsL_nil ?_
        refine runs_cond true (ev_mk rfl) (fun _ => ?_) (fun h_ => nomatch h_)
        refine runs_skip ?_
        refine runs_block ?_
        refine runs_region ?_
        refine rl0 (gn rfl) rfl rfl (step_mv rfl rfl) trivial ?_
        refine rl0 (gn rfl) rfl rfl (step_sub rfl (ev_mk rfl) (ev_mk rfl) (w64 (by omega))) trivial ?_
        refine rl0 (gn rfl) rfl rfl (step_as rfl rfl) trivial ?_
        refine runsL_nil ?_
        refine ⟨_, _, ?_, sle ?_ (Nat.le_refl _), (i - 1), _, _, rfl, rfl, by omega, (fun k_ hk_ => by repeat (first | exact hf0 k_ hk_ | refine uN (by first | assumption | omega) ?_ | fail)), by first | ((repeat (first | exact uE | assumption | refine uN (by omega) ?_ | fail)); done) | exact tl_eq (by repeat (first | exact uE | assumption | refine uN (by omega) ?_ | fail)) (by first | rfl | (simp [bytesV, beB_len]; done) | (simp [bytesV, beB_len]; omega) | omega), by omega, by rw [hF0_1]; exact lnz_miss (by omega) (by assumption)⟩
        · omega
        · (repeat' (first | exact trivial | refine ⟨⟨_, rfl, ?_⟩, ?_⟩ | fail)); all_goals (repeat' (first | exact VLe.refl _ | exact VLe.own_sl _ _ _ | exact VLe.fl_sl _ _ | exact VLe.nil_sl _ | exact VLe.nil_fl _ | exact VLes.refl _ | exact .nil | refine VLe.tup ?_ | refine VLe.agg ?_ | refine .cons ?_ ?_ | (rw [Int.natCast_add]; exact VLe.refl _) | exact vle_int (by omega) | exact vle_bool (by first | rfl | assumption | (simp_all; done)) | fail))
      · skip
        refine rl0 (gn rfl) rfl rfl (step_pick rfl (ev_mk rfl) (ev_mk rfl)) trivial ?_
        refine runsL_nil ?_
        refine runs_cond false (ev_mk rfl) (fun h_ => nomatch h_) (fun _ => ?_)
        refine runs_exit ?_
        refine runs_seq ?_
        refine runs_region ?_
        refine rl0 (gn rfl) rfl rfl (step_mv rfl rfl) trivial ?_
        refine rl0 (gn rfl) rfl rfl (step_conv_id rfl rfl Try.underlying3 Try.underlying5 (wu8 (by omega))) trivial ?_
        refine rl0 (gn rfl) rfl rfl (step_lit rfl Try.underlying32 F.sz5 F.zero5 (by first | rfl | simp) (by first | rfl | simp | decide) (by decide) rfl rfl (by first | (simp [V.cs, V.stor, oneV]; done) | (simp [V.cs, V.stor, oneV])) rfl) trivial ?_
        refine rl0 (gn rfl) rfl rfl (step_mv rfl rfl) trivial ?_
        refine rl0 (gn rfl) rfl rfl (step_sl_arr (a := 0) (h := i) (m := 224) (q' := 0) (n' := i) (c' := 224) rfl (ev_mk rfl) Try.underlying49 F.sz5 bndLo_none (bndHi_nat (a := i) rfl (by first | omega | (split <;> omega) | (first | (rw [List.length_map]; exact hp) | (rw [List.length_map, hp]; omega)))) bndHi_none (fun h_ => by first | rfl | nomatch h_) (by omega) (by omega) (by omega) (by first | exact .inl ⟨by omega, by omega⟩ | exact .inr ⟨by omega, by omega⟩) (by first | rfl | omega) (by first | rfl | omega)) trivial ?_
        refine' rl1 (gn rfl) rfl rfl (step_append_new (k := m0 + 0) rfl rfl rfl Try.underlying32 ⟨_, Try.underlying32, fun k_ => by intro h_; cases h_⟩ F.el5 (ev_mk rfl) (.inl rfl) (ev_mk rfl) (gives_msl (ys := bytesV (p.take i)) ?gl ?gy) ?hg) ⟨?hb, ?gb, trivial⟩ (by omega) ?_
        case hb => repeat (first | exact uE | refine uN (by omega) ?_ | assumption | exact hd _ (by omega) | exact hd0 _ (by omega) | fail)
        case gb => repeat (first | exact uE | refine uN (by omega) ?_ | assumption | exact hd _ (by omega) | exact hd0 _ (by omega) | fail)
        case gl => rw [List.length_map, hp]; omega
        case gy => exact rows_tk p i (by omega)
        case hg => (simp [bytesV]; omega)
        refine rl0 (gn rfl) rfl rfl (step_as rfl rfl) trivial ?_
        refine runsL_nil ?_
        refine runs_ret ?_
        have hl_ : lnz p 224 = i := by first | (rw [hF0_1]; exact lnz_hit (by omega) (by assumption)) | (have hi_ : i = 0 := (by omega)); (subst hi_; exact hF0_1)
        refine ⟨by first | exact .inr rfl | exact .inl rfl, fin_mkg (rest rfl res0) ?_ ?_ ?_ ?_ ?_⟩
        · (repeat' (first | exact VLe.refl _ | exact VLe.own_sl _ _ _ | exact VLe.fl_sl _ _ | exact VLe.nil_sl _ | exact VLe.nil_fl _ | exact VLes.refl _ | exact .nil | refine VLe.tup ?_ | refine VLe.agg ?_ | refine .cons ?_ ?_ | (rw [Int.natCast_add]; exact VLe.refl _) | exact vle_int (by omega) | exact vle_bool (by first | rfl | assumption | (simp_all; done)) | ((unfold sqB; rw [hl_]; exact VLe.own_sl _ _ _)) | fail))
        · repeat (first | exact trivial | assumption | omega | (refine bdR_map (fun _ => ?_)) | (refine bdL_map (fun _ => ?_)) | refine ⟨?_, ?_⟩ | fail)
        · intro k_ hk_; exact ble (by repeat (first | exact rfl | refine uN (by omega) ?_ | assumption | exact hf0 _ (by omega) | fail))
        · intro p hp; cases hp
        · repeat (first | exact trivial | assumption | omega | (refine bdR_map (fun _ => ?_)) | (refine bdL_map (fun _ => ?_)) | refine ⟨?_, ?_⟩ | fail)
    · skip
      refine rl0 (gn rfl) rfl rfl (step_mv rfl rfl) trivial ?_
      refine rlk rfl rfl rfl rfl rfl (ngb rfl rfl) rfl rfl ?_
      refine rlk rfl rfl rfl rfl rfl (ngb rfl rfl) rfl rfl ?_
      refine rlk rfl rfl rfl rfl rfl (ngb rfl rfl) rfl rfl ?_
      refine rlk rfl rfl rfl rfl rfl (ngb rfl rfl) rfl rfl ?_
      refine rlk rfl rfl rfl rfl rfl (ngb rfl rfl) rfl rfl ?_
      refine rl0 (gn rfl) rfl rfl (step_pick rfl (ev_mk rfl) (ev_mk rfl)) trivial ?_
      refine runsL_nil ?_
      refine runs_cond false (ev_mk rfl) (fun h_ => nomatch h_) (fun _ => ?_)
      refine runs_exit ?_
      refine runs_seq ?_
      refine runs_region ?_
      refine rl0 (gn rfl) rfl rfl (step_mv rfl rfl) trivial ?_
      refine rl0 (gn rfl) rfl rfl (step_conv_id rfl rfl Try.underlying3 Try.underlying5 (wu8 (by omega))) trivial ?_
      refine rl0 (gn rfl) rfl rfl (step_lit rfl Try.underlying32 F.sz5 F.zero5 (by first | rfl | simp) (by first | rfl | simp | decide) (by decide) rfl rfl (by first | (simp [V.cs, V.stor, oneV]; done) | (simp [V.cs, V.stor, oneV])) rfl) trivial ?_
      refine rl0 (gn rfl) rfl rfl (step_mv rfl rfl) trivial ?_
      refine rl0 (gn rfl) rfl rfl (step_sl_arr (a := 0) (h := i) (m := 224) (q' := 0) (n' := i) (c' := 224) rfl (ev_mk rfl) Try.underlying49 F.sz5 bndLo_none (bndHi_nat (a := i) rfl (by first | omega | (split <;> omega) | (first | (rw [List.length_map]; exact hp) | (rw [List.length_map, hp]; omega)))) bndHi_none (fun h_ => by first | rfl | nomatch h_) (by omega) (by omega) (by omega) (by first | exact .inl ⟨by omega, by omega⟩ | exact .inr ⟨by omega, by omega⟩) (by first | rfl | omega) (by first | rfl | omega)) trivial ?_
      refine' rl1 (gn rfl) rfl rfl (step_append_new (k := m0 + 0) rfl rfl rfl Try.underlying32 ⟨_, Try.underlying32, fun k_ => by intro h_; cases h_⟩ F.el5 (ev_mk rfl) (.inl rfl) (ev_mk rfl) (gives_msl (ys := bytesV (p.take i)) ?gl ?gy) ?hg) ⟨?hb, ?gb, trivial⟩ (by omega) ?_
      case hb => repeat (first | exact uE | refine uN (by omega) ?_ | assumption | exact hd _ (by omega) | exact hd0 _ (by omega) | fail)
      case gb => repeat (first | exact uE | refine uN (by omega) ?_ | assumption | exact hd _ (by omega) | exact hd0 _ (by omega) | fail)
      case gl => rw [List.length_map, hp]; omega
      case gy => exact rows_tk p i (by omega)
      case hg => (simp [bytesV]; omega)
      refine rl0 (gn rfl) rfl rfl (step_as rfl rfl) trivial ?_
      refine runsL_nil ?_
      refine runs_ret ?_
      have hl_ : lnz p 224 = i := by first | (rw [hF0_1]; exact lnz_hit (by omega) (by assumption)) | (have hi_ : i = 0 := (by omega)); (subst hi_; exact hF0_1)
      refine ⟨by first | exact .inr rfl | exact .inl rfl, fin_mkg (rest rfl res0) ?_ ?_ ?_ ?_ ?_⟩
      · (repeat' (first | exact VLe.refl _ | exact VLe.own_sl _ _ _ | exact VLe.fl_sl _ _ | exact VLe.nil_sl _ | exact VLe.nil_fl _ | exact VLes.refl _ | exact .nil | refine VLe.tup ?_ | refine VLe.agg ?_ | refine .cons ?_ ?_ | (rw [Int.natCast_add]; exact VLe.refl _) | exact vle_int (by omega) | exact vle_bool (by first | rfl | assumption | (simp_all; done)) | ((unfold sqB; rw [hl_]; exact VLe.own_sl _ _ _)) | fail))
      · repeat (first | exact trivial | assumption | omega | (refine bdR_map (fun _ => ?_)) | (refine bdL_map (fun _ => ?_)) | refine ⟨?_, ?_⟩ | fail)
      · intro k_ hk_; exact ble (by repeat (first | exact rfl | refine uN (by omega) ?_ | assumption | exact hf0 _ (by omega) | fail))
      · intro p hp; cases hp
      · repeat (first | exact trivial | assumption | omega | (refine bdR_map (fun _ => ?_)) | (refine bdL_map (fun _ => ?_)) | refine ⟨?_, ?_⟩ | fail)
end Go.Proofs.Ytgfmjipdegkemaa
