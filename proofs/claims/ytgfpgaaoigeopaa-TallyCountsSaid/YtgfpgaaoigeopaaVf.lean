/- Walks by the logic of values. -/
import Derived.Test.YtgfpgaaoigeopaaVa
import Derived.Test.YtgfpgaaoigeopaaVb
import Derived.Test.YtgfpgaaoigeopaaVc
import Derived.Test.YtgfpgaaoigeopaaVd
import Derived.Test.YtgfpgaaoigeopaaVe
import Derived.Test.YtgfpgaaoigeopaaVmT
import Derived.Test.YtgfpgaaoigeopaaVmP
namespace Go.Proofs.Ytgfpgaaoigeopaa
open Go.Vm
set_option linter.unusedVariables false
set_option linter.unusedSimpArgs false
theorem seven {e : Int} (h : 1 ≤ e ∧ e ≤ 7) : e = 1 ∨ e = 2 ∨ e = 3 ∨ e = 4 ∨ e = 5 ∨ e = 6 ∨ e = 7 := by omega
theorem wh_in : ∀ e ∈ [(1 : Int), 2, 3, 4, 5, 6, 7], (emF 0 0 (e * 536870912 - 1) 4294967295 = false ∧ inn 0 (e * 536870912 - 1) 8 = (0, e - 1) ∧ tl (e * 536870912 - 1) 4294967295 % 8 = e.toNat - 1 ∧ tl (e * 536870912 - 1) 4294967295 / 8 = 7) ∧ (emF (e * 536870912) 0 4294967295 4294967295 = false ∧ inn (e * 536870912) 4294967295 8 = (e, 7) ∧ tl (e * 536870912) 0 % 8 = e.toNat ∧ tl (e * 536870912) 0 / 8 = 0) := by decide +kernel
theorem wh_all : inn 0 4294967295 8 = (0, 7) ∧ tl 0 0 = 0 ∧ tl 4294967295 4294967295 = 63 := by decide +kernel
theorem wh_F (g : Nat → Int) {e : Int} (h : 1 ≤ e ∧ e ≤ 7) : loF g 0 0 (e * 536870912 - 1) 4294967295 = boxF g 0 0 (e.toNat - 1) 7 ∧ hiF g 0 0 (e * 536870912 - 1) 4294967295 = boxF g 0 0 (e.toNat - 1) 7 ∧ loF g (e * 536870912) 0 4294967295 4294967295 = boxF g e.toNat 0 7 7 ∧ hiF g (e * 536870912) 0 4294967295 4294967295 = boxF g e.toNat 0 7 7 := by
  obtain ⟨⟨a1, a2, a3, a4⟩, b1, b2, b3, b4⟩ := wh_in e (by have := seven h; simp; omega)
  obtain ⟨c1, c2, c3⟩ := wh_all
  refine ⟨?_, ?_, ?_, ?_⟩
  · unfold loF leastF; rw [a1, if_neg (by simp), a2, c1, if_neg (by simp), show (e - 1).toNat = e.toNat - 1 by omega]; rfl
  · unfold hiF mostF; rw [a1, if_neg (by simp), a3, a4, c2]
  · unfold loF leastF; rw [b1, if_neg (by simp), b2, c1, if_neg (by simp; omega)]; rfl
  · unfold hiF mostF; rw [b1, if_neg (by simp), b3, b4, c3]
theorem bdl {l : List Pt} (hl : ∀ p ∈ l, okPt p) (hL : l.length ≤ 1000) : bdG (G (ptW l 1)) 100000 := bdG_mono (G_bd _ (ptW_ok hl (by omega))) (by rw [ptW_len]; omega)
theorem wh_b1 (k : Nat) (l : List Pt) (hl : ∀ p ∈ l, okPt p) (hL : l.length ≤ 1000) (m e : Int) (he : 1 ≤ e ∧ e ≤ 7) : Does Try.prog 15 [.ref k 0, .agg (rcB 0 0 (e * 536870912 - 1) 4294967295)] [(k, .cells (tB (G (ptW l 1)) m))] [] (.tup [.sc (.int .i64 (boxF (G (ptW l 1)) 0 0 (e.toNat - 1) 7)), .sc (.int .i64 (boxF (G (ptW l 1)) 0 0 (e.toNat - 1) 7))]) := by
  have h := bounds_c k (G (ptW l 1)) m (bdl hl hL) 0 0 (e * 536870912 - 1) 4294967295 (u32_k (by omega)) (u32_k (by omega)) (u32_k (by omega)) (u32_k (by omega))
  rw [(wh_F _ he).1, (wh_F _ he).2.1] at h; exact h
theorem wh_b2 (k : Nat) (l : List Pt) (hl : ∀ p ∈ l, okPt p) (hL : l.length ≤ 1000) (m e : Int) (he : 1 ≤ e ∧ e ≤ 7) : Does Try.prog 15 [.ref k 0, .agg (rcB (e * 536870912) 0 4294967295 4294967295)] [(k, .cells (tB (G (ptW l 1)) m))] [] (.tup [.sc (.int .i64 (boxF (G (ptW l 1)) e.toNat 0 7 7)), .sc (.int .i64 (boxF (G (ptW l 1)) e.toNat 0 7 7))]) := by
  have h := bounds_c k (G (ptW l 1)) m (bdl hl hL) (e * 536870912) 0 4294967295 4294967295 (u32_k (by omega)) (u32_k (by omega)) (u32_k (by omega)) (u32_k (by omega))
  rw [(wh_F _ he).2.2.1, (wh_F _ he).2.2.2] at h; exact h
theorem wh_sum {l : List Pt} (hl : ∀ p ∈ l, okPt p) {e : Int} (he : 1 ≤ e ∧ e ≤ 7) : boxF (G (ptW l 1)) 0 0 (e.toNat - 1) 7 + boxF (G (ptW l 1)) e.toNat 0 7 7 = l.length := by
  have hW := ptW_ok hl (n := 1) (by omega)
  rw [box_sem (by omega) (by omega) (by omega) (by omega) _ hW, box_sem (by omega) (by omega) (by omega) (by omega) _ hW, ← cn_all]
  exact cn_split fun p hp => by have := (hW p hp).1; unfold inBox; simp only [iff_true, true_iff]; omega
theorem sT_bd {g : Nat → Int} (hg : bdG g 100000) : ∀ j : Nat, -(3600000 * (j : Int)) ≤ sT (tF g) j ∧ sT (tF g) j ≤ 3600000 * j
  | 0 => by simp [sT]
  | j + 1 => by have h1 := sT_bd hg j; have h2 := boxF_bd hg (j % 8) (j / 8) (j % 8) (j / 8); unfold sT; have : tF g j = boxF g (j % 8) (j / 8) (j % 8) (j / 8) := rfl; omega
theorem G_app (P Q : List (Nat × Int)) (j : Nat) : G (P ++ Q) j = G P j + G Q j := by unfold G; simp
theorem ptW_app (l m : List Pt) : ptW (l ++ m) 1 = ptW l 1 ++ ptW m 1 := by unfold ptW; simp
theorem G_front (l m : List Pt) {i : Nat} (h1 : 1 ≤ i) (h2 : i ≤ m.length) : addO (G (ptW l 1 ++ ptW (m.drop i) 1)) 1 (tl (at' m ((i : Int) - 1)).x (at' m ((i : Int) - 1)).y % 8 + 1) (tl (at' m ((i : Int) - 1)).x (at' m ((i : Int) - 1)).y / 8 + 1) = G (ptW l 1 ++ ptW (m.drop (i - 1)) 1) := by
  rw [G_snoc]
  have e : (i : Int) - 1 = ((i - 1 : Nat) : Int) := by omega
  have hd : m.drop (i - 1) = at' m ((i : Int) - 1) :: m.drop i := by
    rw [e, at_nat _ _ (show i - 1 < m.length by omega), List.drop_eq_getElem_cons (show i - 1 < m.length by omega), show i - 1 + 1 = i by omega]
  rw [hd]
  funext j
  rw [G_app, G_app, G_app, show ptW (at' m ((i : Int) - 1) :: m.drop i) 1 = [(tl (at' m ((i : Int) - 1)).x (at' m ((i : Int) - 1)).y, 1)] ++ ptW (m.drop i) 1 from rfl, G_app]
  omega
theorem bdl2 {l m : List Pt} (hl : ∀ p ∈ l, okPt p) (hm : ∀ p ∈ m, okPt p) (hL : l.length ≤ 100) (hM : m.length ≤ 100) (i : Nat) : bdG (G (ptW l 1 ++ ptW (m.drop i) 1)) 100000 := by
  rw [← ptW_app]
  exact bdl (fun p hp => by rcases List.mem_append.1 hp with h | h; exact hl p h; exact hm p (List.mem_of_mem_drop h)) (by rw [List.length_append, List.length_drop]; omega)
theorem lo_le {l m : List Pt} (hl : ∀ p ∈ l, okPt p) (hm : ∀ p ∈ m, okPt p) {a b c d : Int} (ha : U32 a) (hb : U32 b) (hc : U32 c) (hd : U32 d) : loF (G (ptW m 1)) a b c d ≤ loF (G (ptW (l ++ m) 1)) a b c d ∧ hiF (G (ptW m 1)) a b c d ≤ hiF (G (ptW (l ++ m) 1)) a b c d := by
  have hW := ptW_ok hm (n := 1) (by omega)
  have hlm : ∀ p ∈ l ++ m, okPt p := fun p hp => by rcases List.mem_append.1 hp with h | h; exact hl p h; exact hm p h
  have hV := ptW_ok hlm (n := 1) (by omega)
  have key : ∀ x0 y0 x1 y1 : Nat, x0 ≤ 8 → y0 ≤ 8 → x1 ≤ 7 → y1 ≤ 7 → boxF (G (ptW m 1)) x0 y0 x1 y1 ≤ boxF (G (ptW (l ++ m) 1)) x0 y0 x1 y1 := fun x0 y0 x1 y1 h1 h2 h3 h4 => by
    rw [box_sem h1 h2 h3 h4 _ hW, box_sem h1 h2 h3 h4 _ hV, ptW_app, cn_app]
    have := cn_pos (inBox x0 y0 x1 y1) (ptW_pos l)
    omega
  have i1 := inn_bd a c 8
  have i2 := inn_bd b d 8
  have t1 := (tl_eq ha hb).2
  have t2 := (tl_eq hc hd).2
  constructor
  · unfold loF
    split
    · exact Int.le_refl _
    · unfold leastF
      split
      · exact Int.le_refl _
      · exact key _ _ _ _ (by omega) (by omega) (by omega) (by omega)
  · unfold hiF
    split
    · exact Int.le_refl _
    · exact key _ _ _ _ (by omega) (by omega) (by omega) (by omega)
set_option maxRecDepth 100000 in
set_option maxHeartbeats 800000 in
theorem whole_A (l : List Pt) (hLL : (l.length : Int) ≤ 9223372036854775807) (cut : Int) (h : 100 < l.length) : Does Try.prog 5 [.sl 4 (l.map ptR), .sc (.int .u8 cut)] [] [] (.sc (.bool true)) := by
  refine does_mkg 40 Try.func5 rfl rfl rfl (fun n B bx hd hpre hup hvs hbx hgx => ?_)
  refine runs_seq ?_
  refine runs_region ?_
  refine rl0 (gn rfl) rfl rfl (step_as rfl rfl) trivial ?_
  refine runsL_nil ?_
  refine runs_seq ?_
  refine runs_seq ?_
  refine runs_region ?_
  refine rl0 (gn rfl) rfl rfl (step_mv rfl rfl) trivial ?_
  refine rl0 (gn rfl) rfl rfl (step_len (m := l.length) rfl rfl (ev_mk rfl) (.inl ⟨⟨_, Try.underlying22⟩, .inl ⟨_, _, .inl rfl, List.length_map _⟩⟩)) trivial ?_
  refine rl_gtr (gn rfl) rfl rfl rfl rfl rfl (fun h1 => ?_) (fun h1 => ?_)
  · skip
    refine runsL_nil ?_
    refine runs_cond true (ev_mk rfl) (fun _ => ?_) (fun h_ => nomatch h_)
    refine runs_seq ?_
    refine runs_region ?_
    refine rl0 (gn rfl) rfl rfl (step_callc rfl Try.func6 rfl rfl rfl (works_c) (by repeat (first | exact .nil | refine .cons ?_ ?_ | exact VLe.refl _ | exact VLe.own_sl _ _ _ | exact VLe.fl_sl _ _ | exact VLe.nil_sl _ | exact VLe.nil_fl _ | refine VLe.agg ?_))) trivial ?_
    refine rl0 (gn rfl) rfl rfl (step_as rfl rfl) trivial ?_
    refine runsL_nil ?_
    refine runs_ret ?_
    refine ⟨by first | exact .inr rfl | exact .inl rfl, fin_mkg (rest rfl res0) ?_ ?_ ?_ ?_ ?_⟩
    · (repeat' (first | exact VLe.refl _ | exact VLe.own_sl _ _ _ | exact VLe.fl_sl _ _ | exact VLe.nil_sl _ | exact VLe.nil_fl _ | exact VLes.refl _ | exact .nil | refine VLe.tup ?_ | refine VLe.agg ?_ | refine .cons ?_ ?_ | (rw [Int.natCast_add]; exact VLe.refl _) | exact vle_int (by omega) | exact vle_bool (by first | rfl | assumption | (simp_all; done)) | fail))
    · repeat (first | exact trivial | assumption | omega | exact bd_bs | exact bd_row | exact bd_secs | exact bd_bools | (refine bdR_map (fun _ => ?_)) | (refine bdL_map (fun _ => ?_)) | refine ⟨?_, ?_⟩ | fail)
    · intro k_ hk_; exact ble (by first | exact rfl | (refine (upd_ne _ _ _ _ (by omega)).trans ?_; first | exact rfl | skip; repeat (first | exact rfl | refine (upd_ne _ _ _ _ (by omega)).trans ?_ | assumption | exact hf0 _ (by omega) | exact hf1 _ (by omega) | exact hf2 _ (by omega) | exact hf3 _ (by omega) | exact hf0 _ (by omega) (by first | assumption | omega) | exact hf1 _ (by omega) (by first | assumption | omega) | exact hf2 _ (by omega) (by first | assumption | omega) | exact hf3 _ (by omega) (by first | assumption | omega) | exact hf0 _ (by omega) (by first | assumption | omega) (by first | assumption | omega) | exact hf1 _ (by omega) (by first | assumption | omega) (by first | assumption | omega) | exact hf2 _ (by omega) (by first | assumption | omega) (by first | assumption | omega) | exact hf3 _ (by omega) (by first | assumption | omega) (by first | assumption | omega))) | exact hf0 _ (by omega) | exact hf1 _ (by omega) | exact hf2 _ (by omega) | exact hf3 _ (by omega) | exact hf0 _ (by omega) (by first | assumption | omega) | exact hf1 _ (by omega) (by first | assumption | omega) | exact hf2 _ (by omega) (by first | assumption | omega) | exact hf3 _ (by omega) (by first | assumption | omega) | exact hf0 _ (by omega) (by first | assumption | omega) (by first | assumption | omega) | exact hf1 _ (by omega) (by first | assumption | omega) (by first | assumption | omega) | exact hf2 _ (by omega) (by first | assumption | omega) (by first | assumption | omega) | exact hf3 _ (by omega) (by first | assumption | omega) (by first | assumption | omega))
    · intro p hp; cases hp
    · repeat (first | exact trivial | assumption | omega | exact bd_bs | exact bd_row | exact bd_secs | exact bd_bools | (refine bdR_map (fun _ => ?_)) | (refine bdL_map (fun _ => ?_)) | refine ⟨?_, ?_⟩ | fail)
  · skip
    refine runsL_nil ?_
    refine runs_cond false (ev_mk rfl) (fun h_ => nomatch h_) (fun _ => ?_)
    refine runs_skip ?_
    refine runs_seq ?_
    exfalso
    omega
set_option maxRecDepth 100000 in
set_option maxHeartbeats 800000 in
theorem whole_B (l : List Pt) (hl : ∀ p ∈ l, okPt p) (hL : l.length ≤ 100) (cut : Int) (hcut : 0 ≤ cut ∧ cut < 256) : Does Try.prog 5 [.sl 4 (l.map ptR), .sc (.int .u8 cut)] [] [] (.sc (.bool true)) := by
  refine does_mkg 40 Try.func5 rfl rfl rfl (fun n B bx hd hpre hup hvs hbx hgx => ?_)
  have hE : 1 ≤ (1 + cut % 7) ∧ (1 + cut % 7) ≤ 7 := by omega
  have hsum := wh_sum hl hE
  have hbd := bdl hl (show l.length ≤ 1000 by omega)
  have hsa := sT_all hl
  refine runs_seq ?_
  refine runs_region ?_
  refine rl0 (gn rfl) rfl rfl (step_as rfl rfl) trivial ?_
  refine runsL_nil ?_
  refine runs_seq ?_
  refine runs_seq ?_
  refine runs_region ?_
  refine rl0 (gn rfl) rfl rfl (step_mv rfl rfl) trivial ?_
  refine rl0 (gn rfl) rfl rfl (step_len (m := l.length) rfl rfl (ev_mk rfl) (.inl ⟨⟨_, Try.underlying22⟩, .inl ⟨_, _, .inl rfl, List.length_map _⟩⟩)) trivial ?_
  refine rl_gtr (gn rfl) rfl rfl rfl rfl rfl (fun h1 => ?_) (fun h1 => ?_)
  · exact False.elim (by omega)
  refine runsL_nil ?_
  refine runs_cond false (ev_mk rfl) (fun h_ => nomatch h_) (fun _ => ?_)
  refine runs_skip ?_
  refine runs_seq ?_
  refine runs_region ?_
  refine rl0 (gn rfl) rfl rfl (step_mv rfl rfl) trivial ?_
  refine rl1 (gn rfl) rfl rfl (step_callc rfl Try.func7 rfl rfl rfl (of_c l hl (by omega) (n + 0)) (by repeat (first | exact .nil | refine .cons ?_ ?_ | exact VLe.refl _ | exact vle_int (by omega) | exact VLe.own_sl _ _ _ | exact VLe.fl_sl _ _ | exact VLe.nil_sl _ | (rw [← List.map_append]; exact VLe.own_sl _ _ _)))) ⟨by repeat (first | exact upd_eq _ _ _ | refine (upd_ne _ _ _ _ (by omega)).trans ?_ | assumption | exact hd _ (by omega) | exact hd0 _ (by omega) | exact hd1 _ (by omega) | exact hd2 _ (by omega) | exact hd3 _ (by omega) | fail), trivial⟩ (by omega) ?_
  refine rl0 (gn rfl) rfl rfl (step_as rfl rfl) trivial ?_
  refine runsL_nil ?_
  refine runs_seq ?_
  refine runs_seq ?_
  refine runs_region ?_
  refine rl0 (gn rfl) rfl rfl (step_mv rfl rfl) trivial ?_
  refine rl0 (gn rfl) rfl rfl (step_eq_nil (b := false) rfl (ev_mk rfl) (ev_mk rfl) Try.underlying27 ⟨_, .inl ⟨.inl ⟨_, _, rfl⟩, rfl⟩, .inl ⟨rfl, rfl⟩⟩) trivial ?_
  refine runsL_nil ?_
  refine runs_cond false (ev_mk rfl) (fun h_ => nomatch h_) (fun _ => ?_)
  refine runs_skip ?_
  refine runs_seq ?_
  refine runs_region ?_
  refine rl0 (gn rfl) rfl rfl (step_as rfl rfl) trivial ?_
  refine runsL_nil ?_
  refine runs_seq ?_
  refine runs_seq ?_
  refine runs_region ?_
  refine rl0 (gn rfl) rfl rfl (step_as rfl rfl) trivial ?_
  refine runsL_nil ?_
  refine runs_block ?_
  have hs0_ : 0 = sT (tF (G (ptW l 1))) 0 := by rfl
  refine runs_loop (fun (ri_ : Nat) (st_ : Go.Vm.S) => ∃ (j : Nat) (m0 : Nat) (b0 : Nat → Box), (st_ = ⟨mk [(0, .sl 4 (l.map ptR)), (1, .sc (.int .u8 cut)), (4, .sc (.bool false)), (5, .ref (n + 0) 0), (6, .sc (.int .i64 (sT (tF (G (ptW l 1))) j))), (7, .sc (.int .i64 j))], m0, b0⟩) ∧ (ri_ = 64 - j) ∧ (n + 1 ≤ m0) ∧ (∀ k_, k_ < n → b0 k_ = bx k_) ∧ (b0 (n + 0) = .cells (tB (G (ptW l 1)) l.length)) ∧ (j ≤ 64)) (64 - 0) ⟨_, sle ?_ (Nat.le_refl _), 0, _, _, rfl, rfl, ?_⟩ ?_
  · (repeat' (first | exact trivial | refine ⟨⟨_, rfl, ?_⟩, ?_⟩ | fail)); all_goals (repeat' (first | exact VLe.refl _ | exact VLe.own_sl _ _ _ | exact VLe.fl_sl _ _ | exact VLe.nil_sl _ | exact VLe.nil_fl _ | exact VLes.refl _ | exact .nil | refine VLe.tup ?_ | refine VLe.agg ?_ | refine .cons ?_ ?_ | (rw [Int.natCast_add]; exact VLe.refl _) | exact vle_int (by omega) | exact vle_bool (by first | rfl | assumption | (simp_all; done)) | (rw [← hs0_]; exact VLe.refl _) | (rw [hs0_]; exact VLe.refl _) | fail))
  · exact ⟨by omega, (fun k_ hk_ => by first | exact rfl | (refine (upd_ne _ _ _ _ (by omega)).trans ?_; first | exact rfl | skip; repeat (first | exact rfl | refine (upd_ne _ _ _ _ (by omega)).trans ?_ | assumption | exact hf0 _ (by omega) | exact hf1 _ (by omega) | exact hf2 _ (by omega) | exact hf3 _ (by omega) | exact hf0 _ (by omega) (by first | assumption | omega) | exact hf1 _ (by omega) (by first | assumption | omega) | exact hf2 _ (by omega) (by first | assumption | omega) | exact hf3 _ (by omega) (by first | assumption | omega) | exact hf0 _ (by omega) (by first | assumption | omega) (by first | assumption | omega) | exact hf1 _ (by omega) (by first | assumption | omega) (by first | assumption | omega) | exact hf2 _ (by omega) (by first | assumption | omega) (by first | assumption | omega) | exact hf3 _ (by omega) (by first | assumption | omega) (by first | assumption | omega))) | exact hf0 _ (by omega) | exact hf1 _ (by omega) | exact hf2 _ (by omega) | exact hf3 _ (by omega) | exact hf0 _ (by omega) (by first | assumption | omega) | exact hf1 _ (by omega) (by first | assumption | omega) | exact hf2 _ (by omega) (by first | assumption | omega) | exact hf3 _ (by omega) (by first | assumption | omega) | exact hf0 _ (by omega) (by first | assumption | omega) (by first | assumption | omega) | exact hf1 _ (by omega) (by first | assumption | omega) (by first | assumption | omega) | exact hf2 _ (by omega) (by first | assumption | omega) (by first | assumption | omega) | exact hf3 _ (by omega) (by first | assumption | omega) (by first | assumption | omega)), by first | ((repeat (first | exact upd_eq _ _ _ | assumption | refine (upd_ne _ _ _ _ (by omega)).trans ?_ | fail)); done) | exact tl_eq (by repeat (first | exact upd_eq _ _ _ | assumption | refine (upd_ne _ _ _ _ (by omega)).trans ?_ | fail)) (by first | rfl | (simp [bytesV, beB_len]; done) | (simp [bytesV, beB_len]; omega) | omega) | (rw [← hs0_]; (repeat (first | exact upd_eq _ _ _ | assumption | refine (upd_ne _ _ _ _ (by omega)).trans ?_ | fail)); done), by omega⟩
  · rintro _ _ ⟨j, m0, b0, rfl, rfl, hm0, hf0, hB0_0, hF0_0⟩
    refine runs_know (fun hd0 => ?_)
    refine runs_bump 20 ?_
    simp only at hd0
    have hsb := sT_bd hbd j
    have htb := boxF_bd hbd (j % 8) (j / 8) (j % 8) (j / 8)
    have htq : tF (G (ptW l 1)) j = boxF (G (ptW l 1)) (j % 8) (j / 8) (j % 8) (j / 8) := rfl
    refine runs_seq ?_
    refine runs_seq ?_
    refine runs_region ?_
    refine rl0 (gn rfl) rfl rfl (step_mv rfl rfl) trivial ?_
    refine rl_lss (gn rfl) rfl rfl rfl rfl rfl (fun h2 => ?_) (fun h2 => ?_)
    · skip
      refine runsL_nil ?_
      refine runs_cond true (ev_mk rfl) (fun _ => ?_) (fun h_ => nomatch h_)
      refine runs_skip ?_
      refine runs_seq ?_
      refine runs_block ?_
      refine runs_region ?_
      refine rl0 (gn rfl) rfl rfl (step_mv rfl rfl) trivial ?_
      refine rl0 (gn rfl) rfl rfl (step_mv rfl rfl) trivial ?_
      refine rl0 (gn rfl) rfl rfl (step_mv rfl rfl) trivial ?_
      refine rl0 (gn rfl) rfl rfl (step_callc rfl Try.func10 rfl rfl rfl (tile_of (n + 0) (G (ptW l 1)) l.length hbd j (by omega)) (by repeat (first | exact .nil | refine .cons ?_ ?_ | exact VLe.refl _ | exact vle_int (by omega) | exact VLe.own_sl _ _ _ | exact VLe.fl_sl _ _ | exact VLe.nil_sl _ | (rw [← List.map_append]; exact VLe.own_sl _ _ _)))) ⟨by repeat (first | exact upd_eq _ _ _ | refine (upd_ne _ _ _ _ (by omega)).trans ?_ | assumption | exact hd _ (by omega) | exact hd0 _ (by omega) | exact hd1 _ (by omega) | exact hd2 _ (by omega) | exact hd3 _ (by omega) | fail), trivial⟩ ?_
      refine rl0 (gn rfl) rfl rfl (step_add rfl (ev_mk rfl) (ev_mk rfl) (w64 (by omega))) trivial ?_
      refine rl0 (gn rfl) rfl rfl (step_as rfl rfl) trivial ?_
      refine runsL_nil ?_
      refine runs_region ?_
      refine rl0 (gn rfl) rfl rfl (step_mv rfl rfl) trivial ?_
      refine rl0 (gn rfl) rfl rfl (step_add rfl (ev_mk rfl) (ev_mk rfl) (w64 (by omega))) trivial ?_
      refine rl0 (gn rfl) rfl rfl (step_as rfl rfl) trivial ?_
      refine runsL_nil ?_
      have hq0_ : (sT (tF (G (ptW l 1))) j) + (tF (G (ptW l 1)) j) = sT (tF (G (ptW l 1))) (j + 1) := by rfl
      refine ⟨_, _, ?_, sle ?_ (Nat.le_refl _), (j + 1), _, _, rfl, rfl, by omega, (fun k_ hk_ => by repeat (first | exact hf0 k_ hk_ | exact hf1 k_ hk_ | exact hf2 k_ hk_ | exact hf3 k_ hk_ | refine (upd_ne _ _ _ _ (by first | assumption | omega)).trans ?_ | fail)), by first | ((repeat (first | exact upd_eq _ _ _ | assumption | refine (upd_ne _ _ _ _ (by omega)).trans ?_ | fail)); done) | exact tl_eq (by repeat (first | exact upd_eq _ _ _ | assumption | refine (upd_ne _ _ _ _ (by omega)).trans ?_ | fail)) (by first | rfl | (simp [bytesV, beB_len]; done) | (simp [bytesV, beB_len]; omega) | omega) | (rw [← hq0_]; (repeat (first | exact upd_eq _ _ _ | assumption | refine (upd_ne _ _ _ _ (by omega)).trans ?_ | fail)); done), by omega⟩
      · omega
      · (repeat' (first | exact trivial | refine ⟨⟨_, rfl, ?_⟩, ?_⟩ | fail)); all_goals (repeat' (first | exact VLe.refl _ | exact VLe.own_sl _ _ _ | exact VLe.fl_sl _ _ | exact VLe.nil_sl _ | exact VLe.nil_fl _ | exact VLes.refl _ | exact .nil | refine VLe.tup ?_ | refine VLe.agg ?_ | refine .cons ?_ ?_ | (rw [Int.natCast_add]; exact VLe.refl _) | exact vle_int (by omega) | exact vle_bool (by first | rfl | assumption | (simp_all; done)) | (rw [← hq0_]; exact VLe.refl _) | (rw [hq0_]; exact VLe.refl _) | fail))
    · skip
      obtain rfl : j = 64 := by omega
      refine runsL_nil ?_
      refine runs_cond false (ev_mk rfl) (fun h_ => nomatch h_) (fun _ => ?_)
      refine runs_exit ?_
      refine runs_seq ?_
      refine runs_region ?_
      refine rl0 (gn rfl) rfl rfl (step_mv rfl rfl) trivial ?_
      refine rl0 (gn rfl) rfl rfl (step_rem rfl (ev_mk rfl) (ev_mk rfl) (by omega) (by omega)) trivial ?_
      refine rl0 (gn rfl) rfl rfl (step_add rfl (ev_mk rfl) (ev_mk rfl) (wu8 (by omega))) trivial ?_
      refine rl0 (gn rfl) rfl rfl (step_conv_id rfl rfl Try.underlying5 Try.underlying23 (wu32 (by omega))) trivial ?_
      refine rl0 (gn rfl) rfl rfl (step_shl (r := (1 + cut % 7) * 536870912) rfl (ev_mk rfl) (ev_mk rfl) (by omega) (shl29 (by omega))) trivial ?_
      refine rl0 (gn rfl) rfl rfl (step_as rfl rfl) trivial ?_
      refine runsL_nil ?_
      refine runs_seq ?_
      refine runs_region ?_
      refine rl0 (gn rfl) rfl rfl (step_mv rfl rfl) trivial ?_
      refine rl0 (gn rfl) rfl rfl (step_mv rfl rfl) trivial ?_
      refine rl0 (gn rfl) rfl rfl (step_sub rfl (ev_mk rfl) (ev_mk rfl) (wu32 (by omega))) trivial ?_
      refine rl0 (gn rfl) rfl rfl (step_build (ss := [1, 1, 1, 1]) (zs := [.int .u32 0, .int .u32 0, .int .u32 0, .int .u32 0]) rfl Try.underlying25 (by kernel_rfl) F.zero25 rfl rfl rfl) trivial ?_
      refine rl0 (gn rfl) rfl rfl (step_callc rfl Try.func15 rfl rfl rfl (wh_b1 (n + 0) l hl (by omega) l.length (1 + cut % 7) hE) (by repeat (first | exact .nil | refine .cons ?_ ?_ | exact VLe.refl _ | exact vle_int (by omega) | exact VLe.own_sl _ _ _ | exact VLe.fl_sl _ _ | exact VLe.nil_sl _ | (rw [← List.map_append]; exact VLe.own_sl _ _ _)))) ⟨by repeat (first | exact upd_eq _ _ _ | refine (upd_ne _ _ _ _ (by omega)).trans ?_ | assumption | exact hd _ (by omega) | exact hd0 _ (by omega) | exact hd1 _ (by omega) | exact hd2 _ (by omega) | exact hd3 _ (by omega) | fail), trivial⟩ ?_
      refine rl0 (gn rfl) rfl rfl (step_mv rfl rfl) trivial ?_
      refine rl0 (gn rfl) rfl rfl (step_extract rfl (ev_mk rfl) rfl) trivial ?_
      refine rl0 (gn rfl) rfl rfl (step_extract rfl (ev_mk rfl) rfl) trivial ?_
      refine rl0 (gn rfl) rfl rfl (step_as rfl rfl) trivial ?_
      refine rl0 (gn rfl) rfl rfl (step_as rfl rfl) trivial ?_
      refine runsL_nil ?_
      refine runs_seq ?_
      refine runs_region ?_
      refine rl0 (gn rfl) rfl rfl (step_mv rfl rfl) trivial ?_
      refine rl0 (gn rfl) rfl rfl (step_mv rfl rfl) trivial ?_
      refine rl0 (gn rfl) rfl rfl (step_build (ss := [1, 1, 1, 1]) (zs := [.int .u32 0, .int .u32 0, .int .u32 0, .int .u32 0]) rfl Try.underlying25 (by kernel_rfl) F.zero25 rfl rfl rfl) trivial ?_
      refine rl0 (gn rfl) rfl rfl (step_callc rfl Try.func15 rfl rfl rfl (wh_b2 (n + 0) l hl (by omega) l.length (1 + cut % 7) hE) (by repeat (first | exact .nil | refine .cons ?_ ?_ | exact VLe.refl _ | exact vle_int (by omega) | exact VLe.own_sl _ _ _ | exact VLe.fl_sl _ _ | exact VLe.nil_sl _ | (rw [← List.map_append]; exact VLe.own_sl _ _ _)))) ⟨by repeat (first | exact upd_eq _ _ _ | refine (upd_ne _ _ _ _ (by omega)).trans ?_ | assumption | exact hd _ (by omega) | exact hd0 _ (by omega) | exact hd1 _ (by omega) | exact hd2 _ (by omega) | exact hd3 _ (by omega) | fail), trivial⟩ ?_
      refine rl0 (gn rfl) rfl rfl (step_mv rfl rfl) trivial ?_
      refine rl0 (gn rfl) rfl rfl (step_extract rfl (ev_mk rfl) rfl) trivial ?_
      refine rl0 (gn rfl) rfl rfl (step_extract rfl (ev_mk rfl) rfl) trivial ?_
      refine rl0 (gn rfl) rfl rfl (step_as rfl rfl) trivial ?_
      refine rl0 (gn rfl) rfl rfl (step_as rfl rfl) trivial ?_
      refine runsL_nil ?_
      refine runs_seq ?_
      refine runs_region ?_
      refine rl0 (gn rfl) rfl rfl (step_mv rfl rfl) trivial ?_
      refine rl0 (gn rfl) rfl rfl (step_mv rfl rfl) trivial ?_
      refine rl0 (gn rfl) rfl rfl (step_len (m := l.length) rfl rfl (ev_mk rfl) (.inl ⟨⟨_, Try.underlying22⟩, .inl ⟨_, _, .inl rfl, List.length_map _⟩⟩)) trivial ?_
      refine rl_eql (gn rfl) rfl rfl rfl rfl rfl (fun h3 => ?_) (fun h3 => ?_)
      rotate_left
      · exact False.elim (by omega)
      refine rl0 (gn rfl) rfl rfl (step_mv rfl rfl) trivial ?_
      refine rl0 (gy rfl rfl rfl rfl rfl rfl) rfl rfl (step_mv rfl rfl) trivial ?_
      refine rl0 (gy rfl rfl rfl rfl rfl rfl) rfl rfl (step_callc rfl Try.func11 rfl rfl rfl (len_c (n + 0) (G (ptW l 1)) l.length) (by repeat (first | exact .nil | refine .cons ?_ ?_ | exact VLe.refl _ | exact vle_int (by omega) | exact VLe.own_sl _ _ _ | exact VLe.fl_sl _ _ | exact VLe.nil_sl _ | (rw [← List.map_append]; exact VLe.own_sl _ _ _)))) ⟨by repeat (first | exact upd_eq _ _ _ | refine (upd_ne _ _ _ _ (by omega)).trans ?_ | assumption | exact hd _ (by omega) | exact hd0 _ (by omega) | exact hd1 _ (by omega) | exact hd2 _ (by omega) | exact hd3 _ (by omega) | fail), trivial⟩ ?_
      refine rl0 (gy rfl rfl rfl rfl rfl rfl) rfl rfl (step_mv rfl rfl) trivial ?_
      refine rl_eql (gy rfl rfl rfl rfl rfl rfl) rfl rfl rfl rfl rfl (fun h4 => ?_) (fun h4 => ?_)
      rotate_left
      · exact False.elim (by omega)
      refine rl0 (gn rfl) rfl rfl (step_pick rfl (ev_mk rfl) (ev_mk rfl)) trivial ?_
      refine rl0 (gn rfl) rfl rfl (step_mv rfl rfl) trivial ?_
      refine rl0 (gy rfl rfl rfl rfl rfl rfl) rfl rfl (step_mv rfl rfl) trivial ?_
      refine rl0 (gy rfl rfl rfl rfl rfl rfl) rfl rfl (step_mv rfl rfl) trivial ?_
      refine rl_eql (gy rfl rfl rfl rfl rfl rfl) rfl rfl rfl rfl rfl (fun h5 => ?_) (fun h5 => ?_)
      rotate_left
      · exact False.elim (by exact h5 rfl)
      refine rl0 (gn rfl) rfl rfl (step_pick rfl (ev_mk rfl) (ev_mk rfl)) trivial ?_
      refine rl0 (gn rfl) rfl rfl (step_mv rfl rfl) trivial ?_
      refine rl0 (gy rfl rfl rfl rfl rfl rfl) rfl rfl (step_mv rfl rfl) trivial ?_
      refine rl0 (gy rfl rfl rfl rfl rfl rfl) rfl rfl (step_mv rfl rfl) trivial ?_
      refine rl_eql (gy rfl rfl rfl rfl rfl rfl) rfl rfl rfl rfl rfl (fun h6 => ?_) (fun h6 => ?_)
      rotate_left
      · exact False.elim (by exact h6 rfl)
      refine rl0 (gn rfl) rfl rfl (step_pick rfl (ev_mk rfl) (ev_mk rfl)) trivial ?_
      refine rl0 (gn rfl) rfl rfl (step_mv rfl rfl) trivial ?_
      refine rl0 (gy rfl rfl rfl rfl rfl rfl) rfl rfl (step_mv rfl rfl) trivial ?_
      refine rl0 (gy rfl rfl rfl rfl rfl rfl) rfl rfl (step_mv rfl rfl) trivial ?_
      refine rl0 (gy rfl rfl rfl rfl rfl rfl) rfl rfl (step_add rfl (ev_mk rfl) (ev_mk rfl) (w64 (by omega))) trivial ?_
      refine rl0 (gy rfl rfl rfl rfl rfl rfl) rfl rfl (step_mv rfl rfl) trivial ?_
      refine rl_eql (gy rfl rfl rfl rfl rfl rfl) rfl rfl rfl rfl rfl (fun h7 => ?_) (fun h7 => ?_)
      rotate_left
      · exact False.elim (by omega)
      refine rl0 (gn rfl) rfl rfl (step_pick rfl (ev_mk rfl) (ev_mk rfl)) trivial ?_
      refine rl0 (gn rfl) rfl rfl (step_mv rfl rfl) trivial ?_
      refine rl0 (gy rfl rfl rfl rfl rfl rfl) rfl rfl (step_callc rfl Try.func6 rfl rfl rfl (works_c) (by repeat (first | exact .nil | refine .cons ?_ ?_ | exact VLe.refl _ | exact vle_int (by omega) | exact VLe.own_sl _ _ _ | exact VLe.fl_sl _ _ | exact VLe.nil_sl _ | (rw [← List.map_append]; exact VLe.own_sl _ _ _)))) trivial ?_
      refine rl0 (gn rfl) rfl rfl (step_pick rfl (ev_mk rfl) (ev_mk rfl)) trivial ?_
      refine rl0 (gn rfl) rfl rfl (step_as rfl rfl) trivial ?_
      refine runsL_nil ?_
      refine runs_ret ?_
      refine ⟨by first | exact .inr rfl | exact .inl rfl, fin_mkg (rest rfl res0) ?_ ?_ ?_ ?_ ?_⟩
      · (repeat' (first | exact VLe.refl _ | exact VLe.own_sl _ _ _ | exact VLe.fl_sl _ _ | exact VLe.nil_sl _ | exact VLe.nil_fl _ | exact VLes.refl _ | exact .nil | refine VLe.tup ?_ | refine VLe.agg ?_ | refine .cons ?_ ?_ | (rw [Int.natCast_add]; exact VLe.refl _) | exact vle_int (by omega) | exact vle_bool (by first | rfl | assumption | (simp_all; done)) | fail))
      · repeat (first | exact trivial | assumption | omega | exact bd_bs | exact bd_row | exact bd_secs | exact bd_bools | (refine bdR_map (fun _ => ?_)) | (refine bdL_map (fun _ => ?_)) | refine ⟨?_, ?_⟩ | fail)
      · intro k_ hk_; exact ble (by first | exact rfl | (refine (upd_ne _ _ _ _ (by omega)).trans ?_; first | exact rfl | skip; repeat (first | exact rfl | refine (upd_ne _ _ _ _ (by omega)).trans ?_ | assumption | exact hf0 _ (by omega) | exact hf1 _ (by omega) | exact hf2 _ (by omega) | exact hf3 _ (by omega) | exact hf0 _ (by omega) (by first | assumption | omega) | exact hf1 _ (by omega) (by first | assumption | omega) | exact hf2 _ (by omega) (by first | assumption | omega) | exact hf3 _ (by omega) (by first | assumption | omega) | exact hf0 _ (by omega) (by first | assumption | omega) (by first | assumption | omega) | exact hf1 _ (by omega) (by first | assumption | omega) (by first | assumption | omega) | exact hf2 _ (by omega) (by first | assumption | omega) (by first | assumption | omega) | exact hf3 _ (by omega) (by first | assumption | omega) (by first | assumption | omega))) | exact hf0 _ (by omega) | exact hf1 _ (by omega) | exact hf2 _ (by omega) | exact hf3 _ (by omega) | exact hf0 _ (by omega) (by first | assumption | omega) | exact hf1 _ (by omega) (by first | assumption | omega) | exact hf2 _ (by omega) (by first | assumption | omega) | exact hf3 _ (by omega) (by first | assumption | omega) | exact hf0 _ (by omega) (by first | assumption | omega) (by first | assumption | omega) | exact hf1 _ (by omega) (by first | assumption | omega) (by first | assumption | omega) | exact hf2 _ (by omega) (by first | assumption | omega) (by first | assumption | omega) | exact hf3 _ (by omega) (by first | assumption | omega) (by first | assumption | omega))
      · intro p hp; cases hp
      · repeat (first | exact trivial | assumption | omega | exact bd_bs | exact bd_row | exact bd_secs | exact bd_bools | (refine bdR_map (fun _ => ?_)) | (refine bdL_map (fun _ => ?_)) | refine ⟨?_, ?_⟩ | fail)
end Go.Proofs.Ytgfpgaaoigeopaa
