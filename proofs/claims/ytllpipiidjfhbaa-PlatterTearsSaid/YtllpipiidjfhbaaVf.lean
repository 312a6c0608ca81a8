/- Walks of the platter, by the logic of values. -/
import Derived.Test.YtllpipiidjfhbaaVe
namespace Go.Proofs.Ytllpipiidjfhbaa
open Go.Vm
set_option linter.unusedVariables false
set_option linter.unusedSimpArgs false
theorem flat_drop : ∀ (S : List (List Int)) (x : Nat), (∀ r ∈ S, r.length = 64) → S.flatten.drop (x * 64) = (S.drop x).flatten := by
  intro S
  induction S with
  | nil => intro x _; simp
  | cons r S ih =>
    intro x hS
    cases x with
    | zero => simp
    | succ x =>
      have hr := hS r (List.mem_cons_self ..)
      rw [List.flatten_cons, List.drop_append, List.drop_of_length_le (by rw [hr]; omega), List.nil_append, hr, show (x + 1) * 64 - 64 = x * 64 by omega, ih x (fun r' hr' => hS r' (List.mem_cons_of_mem _ hr'))]
      rfl
theorem flat_take : ∀ (S : List (List Int)) (n : Nat), (∀ r ∈ S, r.length = 64) → S.flatten.take (n * 64) = (S.take n).flatten := by
  intro S
  induction S with
  | nil => intro x _; simp
  | cons r S ih =>
    intro n hS
    cases n with
    | zero => simp
    | succ n =>
      have hr := hS r (List.mem_cons_self ..)
      rw [List.flatten_cons, List.take_append, List.take_of_length_le (by rw [hr]; omega), hr, show (n + 1) * 64 - 64 = n * 64 by omega, ih n (fun r' hr' => hS r' (List.mem_cons_of_mem _ hr'))]
      rfl
theorem flat_seg (T M : List (List Int)) (i : Nat) (hT : ∀ r ∈ T, r.length = 64) (hM : ∀ r ∈ M, r.length = 64) : setSeg (T.flatten.map bV) (i * 64) (M.flatten.map bV) = (T.take i ++ M ++ T.drop (i + M.length)).flatten.map bV := by
  unfold setSeg
  rw [List.length_map, flat_len64 M hM, ← List.map_take, ← List.map_drop, flat_take T i hT, show i * 64 + M.length * 64 = (i + M.length) * 64 by omega, flat_drop T _ hT, List.flatten_append, List.flatten_append, List.map_append, List.map_append]
theorem flat_set (T : List (List Int)) (r : List Int) (i : Nat) (hT : ∀ r ∈ T, r.length = 64) (hr : r.length = 64) (hi : i < T.length) : setSeg (T.flatten.map bV) (i * 64) (r.map bV) = (T.set i r).flatten.map bV := by
  have := flat_seg T [r] i hT (fun q hq => by rw [List.mem_singleton] at hq; rw [hq]; exact hr)
  rw [List.set_eq_take_append_cons_drop, if_pos hi]
  simpa using this
def mixTo (S : List (List Int)) (x : Int) (l : List (List Int)) (kp : List Bool) : Nat → List (List Int)
  | 0 => S
  | j + 1 => if kp.getD j false = true then (mixTo S x l kp j).set (x.toNat + j) (at' l (j : Int)) else mixTo S x l kp j
theorem mixTo_len (S : List (List Int)) (x : Int) (l : List (List Int)) (kp : List Bool) : ∀ j, (mixTo S x l kp j).length = S.length
  | 0 => rfl
  | j + 1 => by unfold mixTo; split <;> simp [mixTo_len S x l kp j]
theorem mixTo_row (S : List (List Int)) (x : Int) (l : List (List Int)) (kp : List Bool) (hS : ∀ r ∈ S, r.length = 64) (hl : ∀ r ∈ l, r.length = 64) : ∀ j, j ≤ l.length → ∀ r ∈ mixTo S x l kp j, r.length = 64
  | 0, _ => hS
  | j + 1, h => by
    unfold mixTo
    split
    · intro r hr
      rcases List.mem_or_eq_of_mem_set hr with h1 | h1
      · exact mixTo_row S x l kp hS hl j (by omega) r h1
      · rw [h1]; exact at_len64 hl (by omega) (by omega)
    · exact mixTo_row S x l kp hS hl j (by omega)
theorem mixTo_yes {S : List (List Int)} {x : Int} {l : List (List Int)} {kp : List Bool} {j : Nat} (h : j < kp.length) (h2 : at' kp (j : Int) = true) : mixTo S x l kp (j + 1) = (mixTo S x l kp j).set (x.toNat + j) (at' l (j : Int)) := by
  rw [at_nat _ _ h] at h2
  show ite _ _ _ = _
  rw [if_pos (by simp [List.getD_eq_getElem?_getD, List.getElem?_eq_getElem h, h2])]
theorem mixTo_no {S : List (List Int)} {x : Int} {l : List (List Int)} {kp : List Bool} {j : Nat} (h : j < kp.length → at' kp (j : Int) = false) : mixTo S x l kp (j + 1) = mixTo S x l kp j := by
  show ite _ _ _ = _
  by_cases hl : j < kp.length
  · have h2 := h hl
    rw [at_nat _ _ hl] at h2
    rw [if_neg (by simp [List.getD_eq_getElem?_getD, List.getElem?_eq_getElem hl, h2])]
  · rw [if_neg (by simp [List.getD_eq_getElem?_getD, List.getElem?_eq_none (Nat.le_of_not_lt hl)])]
theorem mixTo_get (S : List (List Int)) (x : Int) (l : List (List Int)) (kp : List Bool) (hx : 0 ≤ x) (i : Nat) (hi : i < S.length) : ∀ j : Nat, (mixTo S x l kp j)[i]? = some (if x ≤ i ∧ (i : Int) - x < j ∧ keptB 0 kp ((i : Int) - x).toNat = true then at' l ((i : Int) - x) else at' S (i : Int))
  | 0 => by rw [if_neg (by omega), at_nat _ _ hi]; simp [mixTo, List.getElem?_eq_getElem hi]
  | j + 1 => by
    have ih := mixTo_get S x l kp hx i hi j
    have hk : ∀ q, keptB 0 kp q = kp.getD q false := fun q => by simp [keptB]
    show (ite _ _ _)[i]? = _
    by_cases hq : kp.getD j false = true
    · rw [if_pos hq]
      by_cases e : x.toNat + j = i
      · rw [e, List.getElem?_set_self (by rw [mixTo_len]; omega), if_pos ⟨by omega, by omega, by rw [hk, show ((i : Int) - x).toNat = j by omega]; exact hq⟩, show (i : Int) - x = (j : Int) by omega]
      · rw [List.getElem?_set_ne (by omega), ih]
        congr 1
        by_cases c : x ≤ i ∧ (i : Int) - x < j ∧ keptB 0 kp ((i : Int) - x).toNat = true
        · rw [if_pos c, if_pos ⟨c.1, by omega, c.2.2⟩]
        · rw [if_neg c, if_neg (fun c2 => c ⟨c2.1, by omega, c2.2.2⟩)]
    · rw [if_neg hq, ih]
      congr 1
      by_cases c : x ≤ i ∧ (i : Int) - x < j ∧ keptB 0 kp ((i : Int) - x).toNat = true
      · rw [if_pos c, if_pos ⟨c.1, by omega, c.2.2⟩]
      · rw [if_neg c, if_neg (fun c2 => c ⟨c2.1, by
          rcases Int.lt_or_eq_of_le (show (i : Int) - x ≤ j by omega) with h3 | h3
          · exact h3
          · exfalso; have h4 := c2.2.2; rw [hk, h3] at h4; exact hq h4, c2.2.2⟩)]
theorem mixTo_all (S : List (List Int)) (x : Int) (l : List (List Int)) (kp : List Bool) (hx : 0 ≤ x) : mixTo S x l kp l.length = mixS S x l 0 kp := by
  apply List.ext_getElem?
  intro i
  by_cases hi : i < S.length
  · rw [mixTo_get S x l kp hx i hi, mixS, List.getElem?_map, List.getElem?_range hi]
    rfl
  · rw [List.getElem?_eq_none (by rw [mixTo_len]; omega), List.getElem?_eq_none (by simp [mixS]; omega)]
theorem mixS_all (S : List (List Int)) (x : Int) (l : List (List Int)) (f : Int) (kp : List Bool) (hf : f ≠ 0) (hx : 0 ≤ x) (h : x + l.length ≤ S.length) : S.take x.toNat ++ l ++ S.drop (x.toNat + l.length) = mixS S x l f kp := by
  apply List.ext_getElem?
  intro i
  have hk : ∀ q, keptB f kp q = true := fun q => kept_t hf
  by_cases hi : i < S.length
  · rw [mixS, List.getElem?_map, List.getElem?_range hi, Option.map_some]
    by_cases h1 : i < x.toNat
    · rw [List.append_assoc, List.getElem?_append_left (by rw [List.length_take]; omega), List.getElem?_take_of_lt h1, mixAt_o1 (by omega), at_nat _ _ hi, List.getElem?_eq_getElem hi]
    · have hlt : (S.take x.toNat).length = x.toNat := by rw [List.length_take]; omega
      by_cases h2 : i < x.toNat + l.length
      · rw [List.getElem?_append_left (by rw [List.length_append, hlt]; omega), List.getElem?_append_right (by omega), hlt, mixAt_in (by omega) (by omega) (hk _), show (i : Int) - x = ((i - x.toNat : Nat) : Int) by omega, at_nat _ _ (by omega), List.getElem?_eq_getElem (by omega)]
      · rw [List.getElem?_append_right (by rw [List.length_append, hlt]; omega), List.length_append, hlt, mixAt_o2 (by omega), List.getElem?_drop, show x.toNat + l.length + (i - (x.toNat + l.length)) = i by omega, at_nat _ _ hi, List.getElem?_eq_getElem hi]
  · rw [List.getElem?_eq_none (by simp [List.length_take]; omega), List.getElem?_eq_none (by simp [mixS]; omega)]
theorem mixS_len (S : List (List Int)) (x : Int) (l : List (List Int)) (f : Int) (kp : List Bool) : (mixS S x l f kp).length = S.length := by simp [mixS]
theorem mixS_row (S : List (List Int)) (x : Int) (l : List (List Int)) (f : Int) (kp : List Bool) (hS : ∀ r ∈ S, r.length = 64) (hl : ∀ r ∈ l, r.length = 64) : ∀ r ∈ mixS S x l f kp, r.length = 64 := by
  intro r hr
  simp only [mixS, List.mem_map, List.mem_range] at hr
  obtain ⟨i, hi, rfl⟩ := hr
  unfold mixAt
  split
  · exact at_len64 hl (by omega) (by omega)
  · exact at_len64 hS (by omega) (by omega)
set_option maxRecDepth 100000 in
set_option maxHeartbeats 4000000 in
theorem write_out (k1 k2 : Nat) (S : List (List Int)) (w f : Int) (kp : List Bool) (dn : Bool) (hkk : k1 ≠ k2) (hS : ∀ r ∈ S, r.length = 64) (l : List (List Int)) (hl64 : ∀ r ∈ l, r.length = 64) (x : Int) (hl : l.length ≤ 100000) (hL : S.length ≤ 100000) (hx : -9223372036854775808 ≤ x ∧ x ≤ 9223372036854775807) (hi : insideB S.length x l.length = false) : Does Try.prog 15 [.ref k1 0, .sc (.int .i64 x), .sl 64 (secsV l)] [(k1, .cells [.msl k2 0 (S).length (S).length 64, .sc (.int .i64 (w)), .sc (.int .i64 (f)), .sl 1 (boolsV (kp)), .sc (.bool (dn))]), (k2, .cells (S.flatten.map bV))] [] (.sc (.int .i64 2)) := by
  refine does_mk 20 Try.func15 rfl rfl rfl (fun n B bx hd hpre hup hvs hbx => ?_)
  have hp0 := hpre.1
  have hk0 := lt_cells hd hp0
  have hp1 := hpre.2.1
  have hk1 := lt_cells hd hp1
  refine runs_seq ?_
  refine runs_region ?_
  refine rl0 (gn rfl) rfl rfl (step_as rfl rfl) trivial ?_
  refine runsL_nil ?_
  refine runs_seq ?_
  refine runs_block ?_
  refine runs_seq ?_
  refine runs_region ?_
  refine rl0 (gn rfl) rfl rfl (step_mv rfl rfl) trivial ?_
  refine rl0 (gn rfl) rfl rfl (step_mv rfl rfl) trivial ?_
  refine rl0 (gn rfl) rfl rfl (step_mv rfl rfl) trivial ?_
  first
    | refine rl0 (gn rfl) rfl rfl (step_len rfl rfl (ev_mk rfl) (.inl ⟨⟨_, Try.underlying29⟩, .inl ⟨_, _, .inl rfl, List.length_map _⟩⟩)) trivial ?_
    | refine rl0 (gn rfl) rfl rfl (step_len rfl rfl (ev_mk rfl) (.inl ⟨⟨_, Try.underlying29⟩, .inl ⟨_, _, .inl rfl, rfl⟩⟩)) trivial ?_
    | refine rl0 (gn rfl) rfl rfl (step_len rfl rfl (ev_mk rfl) (.inl ⟨⟨_, Try.underlying29⟩, .inl ⟨_, _, .inr (.inl rfl), List.length_map _⟩⟩)) trivial ?_
    | refine rl0 (gn rfl) rfl rfl (step_len rfl rfl (ev_mk rfl) (.inl ⟨⟨_, Try.underlying29⟩, .inl ⟨_, _, .inr (.inl rfl), rfl⟩⟩)) trivial ?_
    | refine rl0 (gn rfl) rfl rfl (step_len rfl rfl (ev_mk rfl) (.inl ⟨⟨_, Try.underlying29⟩, .inl ⟨_, _, .inr (.inr ⟨_, rfl⟩), List.length_map _⟩⟩)) trivial ?_
    | refine rl0 (gn rfl) rfl rfl (step_len rfl rfl (ev_mk rfl) (.inl ⟨⟨_, Try.underlying29⟩, .inl ⟨_, _, .inr (.inr ⟨_, rfl⟩), rfl⟩⟩)) trivial ?_
    | refine rl0 (gn rfl) rfl rfl (step_len rfl rfl (ev_mk rfl) (.inl ⟨⟨_, Try.underlying29⟩, .inr (.inl ⟨_, _, _, _, rfl⟩)⟩)) trivial ?_
    | refine rl0 (gn rfl) rfl rfl (step_len (m := 0) rfl rfl (ev_mk rfl) (.inl ⟨⟨_, Try.underlying29⟩, .inr (.inr ⟨_, _, rfl⟩)⟩)) trivial ?_
  refine rl0 (gn rfl) rfl rfl (step_callc rfl Try.func27 rfl rfl rfl (inside_q k1 k2 S.length _ _ _ _ x _ _ (by omega) hx (by omega) hi) (by repeat (first | exact .nil | refine .cons ?_ ?_ | exact VLe.refl _ | exact VLe.own_sl _ _ _ | exact VLe.fl_sl _ _ | exact VLe.nil_sl _ | exact VLe.nil_fl _ | refine VLe.agg ?_))) ⟨by repeat (first | exact upd_eq _ _ _ | refine (upd_ne _ _ _ _ (by omega)).trans ?_ | assumption | exact hd _ (by omega) | exact hd0 _ (by omega) | exact hd1 _ (by omega) | exact hd2 _ (by omega) | fail), trivial⟩ ?_
  refine rl0 (gn rfl) rfl rfl (step_unOp rfl (ev_mk rfl) (fun _ => rfl)) trivial ?_
  refine rl0 (gn rfl) rfl rfl (step_as rfl rfl) trivial ?_
  refine runsL_nil ?_
  refine runs_cond _ (ev_mk rfl) (fun h1 => ?_) (fun h1 => ?_)
  · skip
    refine runs_seq ?_
    refine runs_region ?_
    refine rl0 (gn rfl) rfl rfl (step_as rfl rfl) trivial ?_
    refine runsL_nil ?_
    refine runs_ret ?_
    refine ⟨by first | exact .inr rfl | exact .inl rfl, fin_mk (rest rfl res0) ?_ ?_ ?_ ?_⟩
    · first | exact VLe.refl _ | exact VLe.own_sl _ _ _ | exact VLe.fl_sl _ _
    · repeat (first | exact trivial | assumption | omega | exact bd_bs | exact bd_row | exact bd_secs | exact bd_bools | refine ⟨?_, ?_⟩ | fail)
    · intro k hk; exact ble (by first | exact rfl | (refine (upd_ne _ _ _ _ (by omega)).trans ?_; first | exact rfl | skip; repeat (first | exact rfl | refine (upd_ne _ _ _ _ (by omega)).trans ?_ | assumption | exact hf0 _ (by omega) | exact hf1 _ (by omega) | exact hf2 _ (by omega) | exact hf0 _ (by omega) (by first | assumption | omega) | exact hf1 _ (by omega) (by first | assumption | omega))) | exact hf0 _ (by omega) | exact hf1 _ (by omega) | exact hf2 _ (by omega) | exact hf0 _ (by omega) (by first | assumption | omega) | exact hf1 _ (by omega) (by first | assumption | omega))
    · intro p hp; cases hp
  · skip
    exact absurd ‹_› (by simp)
set_option maxRecDepth 100000 in
set_option maxHeartbeats 4000000 in
theorem write_down (k1 k2 : Nat) (S : List (List Int)) (w f : Int) (kp : List Bool) (dn : Bool) (hkk : k1 ≠ k2) (hS : ∀ r ∈ S, r.length = 64) (l : List (List Int)) (hl64 : ∀ r ∈ l, r.length = 64) (x : Int) (hl : l.length ≤ 100000) (hL : S.length ≤ 100000) (hx : -9223372036854775808 ≤ x ∧ x ≤ 9223372036854775807) (hi : insideB S.length x l.length = true) (hdn : dn = true) : Does Try.prog 15 [.ref k1 0, .sc (.int .i64 x), .sl 64 (secsV l)] [(k1, .cells [.msl k2 0 (S).length (S).length 64, .sc (.int .i64 (w)), .sc (.int .i64 (f)), .sl 1 (boolsV (kp)), .sc (.bool (dn))]), (k2, .cells (S.flatten.map bV))] [] (.sc (.int .i64 4)) := by
  refine does_mk 20 Try.func15 rfl rfl rfl (fun n B bx hd hpre hup hvs hbx => ?_)
  have hp0 := hpre.1
  have hk0 := lt_cells hd hp0
  have hp1 := hpre.2.1
  have hk1 := lt_cells hd hp1
  refine runs_seq ?_
  refine runs_region ?_
  refine rl0 (gn rfl) rfl rfl (step_as rfl rfl) trivial ?_
  refine runsL_nil ?_
  refine runs_seq ?_
  refine runs_block ?_
  refine runs_seq ?_
  refine runs_region ?_
  refine rl0 (gn rfl) rfl rfl (step_mv rfl rfl) trivial ?_
  refine rl0 (gn rfl) rfl rfl (step_mv rfl rfl) trivial ?_
  refine rl0 (gn rfl) rfl rfl (step_mv rfl rfl) trivial ?_
  first
    | refine rl0 (gn rfl) rfl rfl (step_len rfl rfl (ev_mk rfl) (.inl ⟨⟨_, Try.underlying29⟩, .inl ⟨_, _, .inl rfl, List.length_map _⟩⟩)) trivial ?_
    | refine rl0 (gn rfl) rfl rfl (step_len rfl rfl (ev_mk rfl) (.inl ⟨⟨_, Try.underlying29⟩, .inl ⟨_, _, .inl rfl, rfl⟩⟩)) trivial ?_
    | refine rl0 (gn rfl) rfl rfl (step_len rfl rfl (ev_mk rfl) (.inl ⟨⟨_, Try.underlying29⟩, .inl ⟨_, _, .inr (.inl rfl), List.length_map _⟩⟩)) trivial ?_
    | refine rl0 (gn rfl) rfl rfl (step_len rfl rfl (ev_mk rfl) (.inl ⟨⟨_, Try.underlying29⟩, .inl ⟨_, _, .inr (.inl rfl), rfl⟩⟩)) trivial ?_
    | refine rl0 (gn rfl) rfl rfl (step_len rfl rfl (ev_mk rfl) (.inl ⟨⟨_, Try.underlying29⟩, .inl ⟨_, _, .inr (.inr ⟨_, rfl⟩), List.length_map _⟩⟩)) trivial ?_
    | refine rl0 (gn rfl) rfl rfl (step_len rfl rfl (ev_mk rfl) (.inl ⟨⟨_, Try.underlying29⟩, .inl ⟨_, _, .inr (.inr ⟨_, rfl⟩), rfl⟩⟩)) trivial ?_
    | refine rl0 (gn rfl) rfl rfl (step_len rfl rfl (ev_mk rfl) (.inl ⟨⟨_, Try.underlying29⟩, .inr (.inl ⟨_, _, _, _, rfl⟩)⟩)) trivial ?_
    | refine rl0 (gn rfl) rfl rfl (step_len (m := 0) rfl rfl (ev_mk rfl) (.inl ⟨⟨_, Try.underlying29⟩, .inr (.inr ⟨_, _, rfl⟩)⟩)) trivial ?_
  refine rl0 (gn rfl) rfl rfl (step_callc rfl Try.func27 rfl rfl rfl (inside_q k1 k2 S.length _ _ _ _ x _ _ (by omega) hx (by omega) hi) (by repeat (first | exact .nil | refine .cons ?_ ?_ | exact VLe.refl _ | exact VLe.own_sl _ _ _ | exact VLe.fl_sl _ _ | exact VLe.nil_sl _ | exact VLe.nil_fl _ | refine VLe.agg ?_))) ⟨by repeat (first | exact upd_eq _ _ _ | refine (upd_ne _ _ _ _ (by omega)).trans ?_ | assumption | exact hd _ (by omega) | exact hd0 _ (by omega) | exact hd1 _ (by omega) | exact hd2 _ (by omega) | fail), trivial⟩ ?_
  refine rl0 (gn rfl) rfl rfl (step_unOp rfl (ev_mk rfl) (fun _ => rfl)) trivial ?_
  refine rl0 (gn rfl) rfl rfl (step_as rfl rfl) trivial ?_
  refine runsL_nil ?_
  refine runs_cond _ (ev_mk rfl) (fun h1 => ?_) (fun h1 => ?_)
  · skip
    exact absurd ‹_› (by simp)
  · skip
    refine runs_seq ?_
    refine runs_region ?_
    refine rl0 (gn rfl) rfl rfl (step_mv rfl rfl) trivial ?_
    first | refine rl0 (gn rfl) rfl rfl (step_nilCheck rfl (ev_mk rfl) (.inl ⟨_, _, rfl⟩)) trivial ?_ | refine rl0 (gn rfl) rfl rfl (step_nilCheck rfl (ev_mk rfl) (.inr ⟨_, rfl⟩)) trivial ?_
    first | refine rl0 (gn rfl) rfl rfl (step_fieldAddr (off := 4) rfl (ev_mk rfl) Try.underlying55 rfl F.sz4 rfl) trivial ?_ | refine rl0 (gn rfl) rfl rfl (step_fieldAddr_ro (off := 4) rfl (ev_mk rfl) Try.underlying55 rfl F.sz4 rfl rfl) trivial ?_
    first
      | (refine' rl0 (gn rfl) rfl rfl (step_load_one rfl (ev_mk rfl) F.one4 ?hv) ⟨?hb, trivial⟩ ?_; (case hb => repeat (first | exact upd_eq _ _ _ | refine (upd_ne _ _ _ _ (by omega)).trans ?_ | assumption | exact hd _ (by omega) | exact hd0 _ (by omega) | exact hd1 _ (by omega) | exact hd2 _ (by omega) | fail)); (case hv => exact rfl))
      | (refine rl0 (gn rfl) rfl rfl (step_load_ro rfl (ev_mk rfl) F.one4 rfl) trivial ?_)
    refine rl0 (gn rfl) rfl rfl (step_as rfl rfl) trivial ?_
    refine runsL_nil ?_
    refine runs_cond _ (ev_mk rfl) (fun h2 => ?_) (fun h2 => ?_)
    · skip
      refine runs_seq ?_
      refine runs_region ?_
      refine rl0 (gn rfl) rfl rfl (step_as rfl rfl) trivial ?_
      refine runsL_nil ?_
      refine runs_ret ?_
      refine ⟨by first | exact .inr rfl | exact .inl rfl, fin_mk (rest rfl res0) ?_ ?_ ?_ ?_⟩
      · first | exact VLe.refl _ | exact VLe.own_sl _ _ _ | exact VLe.fl_sl _ _
      · repeat (first | exact trivial | assumption | omega | exact bd_bs | exact bd_row | exact bd_secs | exact bd_bools | refine ⟨?_, ?_⟩ | fail)
      · intro k hk; exact ble (by first | exact rfl | (refine (upd_ne _ _ _ _ (by omega)).trans ?_; first | exact rfl | skip; repeat (first | exact rfl | refine (upd_ne _ _ _ _ (by omega)).trans ?_ | assumption | exact hf0 _ (by omega) | exact hf1 _ (by omega) | exact hf2 _ (by omega) | exact hf0 _ (by omega) (by first | assumption | omega) | exact hf1 _ (by omega) (by first | assumption | omega))) | exact hf0 _ (by omega) | exact hf1 _ (by omega) | exact hf2 _ (by omega) | exact hf0 _ (by omega) (by first | assumption | omega) | exact hf1 _ (by omega) (by first | assumption | omega))
      · intro p hp; cases hp
    · skip
      exact absurd ‹_› (by simp [hdn])
set_option maxRecDepth 100000 in
set_option maxHeartbeats 4000000 in
theorem write_tear (k1 k2 : Nat) (S : List (List Int)) (w f : Int) (kp : List Bool) (dn : Bool) (hkk : k1 ≠ k2) (hS : ∀ r ∈ S, r.length = 64) (l : List (List Int)) (hl64 : ∀ r ∈ l, r.length = 64) (x : Int) (hl : l.length ≤ 100000) (hL : S.length ≤ 100000) (hx : -9223372036854775808 ≤ x ∧ x ≤ 9223372036854775807) (hi : insideB S.length x l.length = true) (hdn : dn = false) (hf : f = 0) : Does Try.prog 15 [.ref k1 0, .sc (.int .i64 x), .sl 64 (secsV l)] [(k1, .cells [.msl k2 0 (S).length (S).length 64, .sc (.int .i64 (w)), .sc (.int .i64 (f)), .sl 1 (boolsV (kp)), .sc (.bool (dn))]), (k2, .cells (S.flatten.map bV))] [(k2, .cells ((mixS S x l 0 kp).flatten.map bV)), (k1, .cells [.msl k2 0 (S).length (S).length 64, .sc (.int .i64 (w)), .sc (.int .i64 (f)), .sl 1 (boolsV (kp)), .sc (.bool (true))])] (.sc (.int .i64 4)) := by
  refine does_mk 20 Try.func15 rfl rfl rfl (fun n B bx hd hpre hup hvs hbx => ?_)
  have hp0 := hpre.1
  have hk0 := lt_cells hd hp0
  have hp1 := hpre.2.1
  have hk1 := lt_cells hd hp1
  have hu0 := hup.1
  have hu1 := hup.2.1
  have hii := of_decide_eq_true hi
  refine runs_seq ?_
  refine runs_region ?_
  refine rl0 (gn rfl) rfl rfl (step_as rfl rfl) trivial ?_
  refine runsL_nil ?_
  refine runs_seq ?_
  refine runs_block ?_
  refine runs_seq ?_
  refine runs_region ?_
  refine rl0 (gn rfl) rfl rfl (step_mv rfl rfl) trivial ?_
  refine rl0 (gn rfl) rfl rfl (step_mv rfl rfl) trivial ?_
  refine rl0 (gn rfl) rfl rfl (step_mv rfl rfl) trivial ?_
  first
    | refine rl0 (gn rfl) rfl rfl (step_len rfl rfl (ev_mk rfl) (.inl ⟨⟨_, Try.underlying29⟩, .inl ⟨_, _, .inl rfl, List.length_map _⟩⟩)) trivial ?_
    | refine rl0 (gn rfl) rfl rfl (step_len rfl rfl (ev_mk rfl) (.inl ⟨⟨_, Try.underlying29⟩, .inl ⟨_, _, .inl rfl, rfl⟩⟩)) trivial ?_
    | refine rl0 (gn rfl) rfl rfl (step_len rfl rfl (ev_mk rfl) (.inl ⟨⟨_, Try.underlying29⟩, .inl ⟨_, _, .inr (.inl rfl), List.length_map _⟩⟩)) trivial ?_
    | refine rl0 (gn rfl) rfl rfl (step_len rfl rfl (ev_mk rfl) (.inl ⟨⟨_, Try.underlying29⟩, .inl ⟨_, _, .inr (.inl rfl), rfl⟩⟩)) trivial ?_
    | refine rl0 (gn rfl) rfl rfl (step_len rfl rfl (ev_mk rfl) (.inl ⟨⟨_, Try.underlying29⟩, .inl ⟨_, _, .inr (.inr ⟨_, rfl⟩), List.length_map _⟩⟩)) trivial ?_
    | refine rl0 (gn rfl) rfl rfl (step_len rfl rfl (ev_mk rfl) (.inl ⟨⟨_, Try.underlying29⟩, .inl ⟨_, _, .inr (.inr ⟨_, rfl⟩), rfl⟩⟩)) trivial ?_
    | refine rl0 (gn rfl) rfl rfl (step_len rfl rfl (ev_mk rfl) (.inl ⟨⟨_, Try.underlying29⟩, .inr (.inl ⟨_, _, _, _, rfl⟩)⟩)) trivial ?_
    | refine rl0 (gn rfl) rfl rfl (step_len (m := 0) rfl rfl (ev_mk rfl) (.inl ⟨⟨_, Try.underlying29⟩, .inr (.inr ⟨_, _, rfl⟩)⟩)) trivial ?_
  refine rl0 (gn rfl) rfl rfl (step_callc rfl Try.func27 rfl rfl rfl (inside_q k1 k2 S.length _ _ _ _ x _ _ (by omega) hx (by omega) hi) (by repeat (first | exact .nil | refine .cons ?_ ?_ | exact VLe.refl _ | exact VLe.own_sl _ _ _ | exact VLe.fl_sl _ _ | exact VLe.nil_sl _ | exact VLe.nil_fl _ | refine VLe.agg ?_))) ⟨by repeat (first | exact upd_eq _ _ _ | refine (upd_ne _ _ _ _ (by omega)).trans ?_ | assumption | exact hd _ (by omega) | exact hd0 _ (by omega) | exact hd1 _ (by omega) | exact hd2 _ (by omega) | fail), trivial⟩ ?_
  refine rl0 (gn rfl) rfl rfl (step_unOp rfl (ev_mk rfl) (fun _ => rfl)) trivial ?_
  refine rl0 (gn rfl) rfl rfl (step_as rfl rfl) trivial ?_
  refine runsL_nil ?_
  refine runs_cond _ (ev_mk rfl) (fun h1 => ?_) (fun h1 => ?_)
  · skip
    exact absurd ‹_› (by simp)
  · skip
    refine runs_seq ?_
    refine runs_region ?_
    refine rl0 (gn rfl) rfl rfl (step_mv rfl rfl) trivial ?_
    first | refine rl0 (gn rfl) rfl rfl (step_nilCheck rfl (ev_mk rfl) (.inl ⟨_, _, rfl⟩)) trivial ?_ | refine rl0 (gn rfl) rfl rfl (step_nilCheck rfl (ev_mk rfl) (.inr ⟨_, rfl⟩)) trivial ?_
    first | refine rl0 (gn rfl) rfl rfl (step_fieldAddr (off := 4) rfl (ev_mk rfl) Try.underlying55 rfl F.sz4 rfl) trivial ?_ | refine rl0 (gn rfl) rfl rfl (step_fieldAddr_ro (off := 4) rfl (ev_mk rfl) Try.underlying55 rfl F.sz4 rfl rfl) trivial ?_
    first
      | (refine' rl0 (gn rfl) rfl rfl (step_load_one rfl (ev_mk rfl) F.one4 ?hv) ⟨?hb, trivial⟩ ?_; (case hb => repeat (first | exact upd_eq _ _ _ | refine (upd_ne _ _ _ _ (by omega)).trans ?_ | assumption | exact hd _ (by omega) | exact hd0 _ (by omega) | exact hd1 _ (by omega) | exact hd2 _ (by omega) | fail)); (case hv => exact rfl))
      | (refine rl0 (gn rfl) rfl rfl (step_load_ro rfl (ev_mk rfl) F.one4 rfl) trivial ?_)
    refine rl0 (gn rfl) rfl rfl (step_as rfl rfl) trivial ?_
    refine runsL_nil ?_
    refine runs_cond _ (ev_mk rfl) (fun h2 => ?_) (fun h2 => ?_)
    · skip
      exact absurd ‹_› (by simp [hdn])
    · skip
      refine runs_skip ?_
      refine runs_seq ?_
      refine runs_seq ?_
      refine runs_region ?_
      refine rl0 (gn rfl) rfl rfl (step_mv rfl rfl) trivial ?_
      first | refine rl0 (gn rfl) rfl rfl (step_nilCheck rfl (ev_mk rfl) (.inl ⟨_, _, rfl⟩)) trivial ?_ | refine rl0 (gn rfl) rfl rfl (step_nilCheck rfl (ev_mk rfl) (.inr ⟨_, rfl⟩)) trivial ?_
      first | refine rl0 (gn rfl) rfl rfl (step_fieldAddr (off := 2) rfl (ev_mk rfl) Try.underlying55 rfl F.sz3 rfl) trivial ?_ | refine rl0 (gn rfl) rfl rfl (step_fieldAddr_ro (off := 2) rfl (ev_mk rfl) Try.underlying55 rfl F.sz3 rfl rfl) trivial ?_
      first
        | (refine' rl0 (gn rfl) rfl rfl (step_load_one rfl (ev_mk rfl) F.one3 ?hv) ⟨?hb, trivial⟩ ?_; (case hb => repeat (first | exact upd_eq _ _ _ | refine (upd_ne _ _ _ _ (by omega)).trans ?_ | assumption | exact hd _ (by omega) | exact hd0 _ (by omega) | exact hd1 _ (by omega) | exact hd2 _ (by omega) | fail)); (case hv => exact rfl))
        | (refine rl0 (gn rfl) rfl rfl (step_load_ro rfl (ev_mk rfl) F.one3 rfl) trivial ?_)
      refine rl_eql (gn rfl) rfl rfl rfl rfl rfl (fun h3 => ?_) (fun h3 => ?_)
      · skip
        refine runsL_nil ?_
        refine runs_cond true (ev_mk rfl) (fun _ => ?_) (fun h_ => nomatch h_)
        refine runs_seq ?_
        refine runs_seq ?_
        refine runs_region ?_
        refine rl0 (gn rfl) rfl rfl (step_mv rfl rfl) trivial ?_
        first
          | refine rl0 (gn rfl) rfl rfl (step_len rfl rfl (ev_mk rfl) (.inl ⟨⟨_, Try.underlying29⟩, .inl ⟨_, _, .inl rfl, List.length_map _⟩⟩)) trivial ?_
          | refine rl0 (gn rfl) rfl rfl (step_len rfl rfl (ev_mk rfl) (.inl ⟨⟨_, Try.underlying29⟩, .inl ⟨_, _, .inl rfl, rfl⟩⟩)) trivial ?_
          | refine rl0 (gn rfl) rfl rfl (step_len rfl rfl (ev_mk rfl) (.inl ⟨⟨_, Try.underlying29⟩, .inl ⟨_, _, .inr (.inl rfl), List.length_map _⟩⟩)) trivial ?_
          | refine rl0 (gn rfl) rfl rfl (step_len rfl rfl (ev_mk rfl) (.inl ⟨⟨_, Try.underlying29⟩, .inl ⟨_, _, .inr (.inl rfl), rfl⟩⟩)) trivial ?_
          | refine rl0 (gn rfl) rfl rfl (step_len rfl rfl (ev_mk rfl) (.inl ⟨⟨_, Try.underlying29⟩, .inl ⟨_, _, .inr (.inr ⟨_, rfl⟩), List.length_map _⟩⟩)) trivial ?_
          | refine rl0 (gn rfl) rfl rfl (step_len rfl rfl (ev_mk rfl) (.inl ⟨⟨_, Try.underlying29⟩, .inl ⟨_, _, .inr (.inr ⟨_, rfl⟩), rfl⟩⟩)) trivial ?_
          | refine rl0 (gn rfl) rfl rfl (step_len rfl rfl (ev_mk rfl) (.inl ⟨⟨_, Try.underlying29⟩, .inr (.inl ⟨_, _, _, _, rfl⟩)⟩)) trivial ?_
          | refine rl0 (gn rfl) rfl rfl (step_len (m := 0) rfl rfl (ev_mk rfl) (.inl ⟨⟨_, Try.underlying29⟩, .inr (.inr ⟨_, _, rfl⟩)⟩)) trivial ?_
        refine rl0 (gn rfl) rfl rfl (step_mv rfl rfl) trivial ?_
        refine runsL_nil ?_
        refine runs_block ?_
        refine runs_loop (fun (i : Nat) (s : Go.Vm.S) => ∃ (j : Nat) (m0 : Nat) (b0 : Nat → Box), (s = ⟨mk [(0, .ref k1 0), (1, .sc (.int .i64 x)), (2, .sl 64 (secsV l)), (6, .sc (.int .i64 0)), (26, .sl 64 (secsV l)), (27, .sc (.int .i64 l.length)), (28, .sc (.int .i64 j))], m0, b0⟩) ∧ (i = l.length - j) ∧ (n ≤ m0) ∧ (∀ k, k < n → k ≠ k2 → b0 k = bx k) ∧ (b0 k1 = .cells [.msl k2 0 (S).length (S).length 64, .sc (.int .i64 (w)), .sc (.int .i64 (f)), .sl 1 (boolsV (kp)), .sc (.bool (dn))]) ∧ (b0 k2 = .cells ((mixTo S x l kp j).flatten.map bV)) ∧ (j ≤ l.length)) (l.length) ⟨_, sle ?_ (Nat.le_refl _), 0, _, _, rfl, rfl, ?_⟩ ?_
        · (repeat' (first | exact trivial | refine ⟨⟨_, rfl, ?_⟩, ?_⟩ | fail)); (all_goals first | exact VLe.refl _ | (rw [Int.natCast_add]; exact VLe.refl _) | exact VLe.own_sl _ _ _ | exact VLe.fl_sl _ _ | exact VLe.nil_sl _)
        · exact ⟨by omega, (fun k hk e0_ => by first | exact rfl | (refine (upd_ne _ _ _ _ (by omega)).trans ?_; first | exact rfl | skip; repeat (first | exact rfl | refine (upd_ne _ _ _ _ (by omega)).trans ?_ | assumption | exact hf0 _ (by omega) | exact hf1 _ (by omega) | exact hf2 _ (by omega) | exact hf0 _ (by omega) (by first | assumption | omega) | exact hf1 _ (by omega) (by first | assumption | omega))) | exact hf0 _ (by omega) | exact hf1 _ (by omega) | exact hf2 _ (by omega) | exact hf0 _ (by omega) (by first | assumption | omega) | exact hf1 _ (by omega) (by first | assumption | omega)), by repeat (first | exact upd_eq _ _ _ | assumption | refine (upd_ne _ _ _ _ (by omega)).trans ?_ | fail), by repeat (first | exact upd_eq _ _ _ | assumption | refine (upd_ne _ _ _ _ (by omega)).trans ?_ | fail), by omega⟩
        · rintro _ _ ⟨j, m0, b0, rfl, rfl, hm0, hf0, hB0_0, hB0_1, hF0_0⟩
          refine runs_know (fun hd0 => ?_)
          refine runs_bump 8 ?_
          simp only at hd0
          refine runs_seq ?_
          refine runs_region ?_
          refine rl_lss (gn rfl) rfl rfl rfl rfl rfl (fun h4 => ?_) (fun h4 => ?_)
          · skip
            refine runsL_nil ?_
            refine runs_seq ?_
            refine runs_cond true (ev_mk rfl) (fun _ => ?_) (fun h_ => nomatch h_)
            refine runs_skip ?_
            refine runs_seq ?_
            refine runs_block ?_
            refine runs_seq ?_
            refine runs_region ?_
            refine rl0 (gn rfl) rfl rfl (step_mv rfl rfl) trivial ?_
            first
              | (refine' rl0 (gn rfl) rfl rfl (step_index rfl (ev_mk rfl) (.inl rfl) (ev_mk rfl) Try.underlying29 F.sz48 (by omega) ?hr) trivial ?_; (case hr => exact map_at _ _ _ (by omega) (by omega)))
              | (refine' rl0 (gn rfl) rfl rfl (step_index rfl (ev_mk rfl) (.inr (.inl rfl)) (ev_mk rfl) Try.underlying29 F.sz48 (by omega) ?hr) trivial ?_; (case hr => exact map_at _ _ _ (by omega) (by omega)))
              | (refine' rl0 (gn rfl) rfl rfl (step_index rfl (ev_mk rfl) (.inr (.inr ⟨_, rfl⟩)) (ev_mk rfl) Try.underlying29 F.sz48 (by omega) ?hr) trivial ?_; (case hr => exact map_at _ _ _ (by omega) (by omega)))
              | (refine rl0 (gn rfl) rfl rfl (step_index_msl rfl (ev_mk rfl) (ev_mk rfl) Try.underlying29 F.sz48 (by omega) (by omega)) trivial ?_)
            first
              | (refine' rl0 (gn rfl) rfl rfl (step_load_all rfl rfl F.agg48 ?hl) ⟨?hb, trivial⟩ ?_; (case hb => repeat (first | exact upd_eq _ _ _ | refine (upd_ne _ _ _ _ (by omega)).trans ?_ | assumption | exact hd _ (by omega) | exact hd0 _ (by omega) | exact hd1 _ (by omega) | exact hd2 _ (by omega) | fail)); (case hl => first | rfl | (simp; done) | (first | (rw [List.length_map]; exact at_len64 (by assumption) (by omega) (by omega)) | (rw [List.length_map, flat_len64 _ (mixTo_row S x l kp hS hl64 j (by omega)), mixTo_len]; omega))))
              | (refine rl0 (gn rfl) rfl rfl (step_load_ro_all rfl rfl F.agg48 (by first | rfl | (simp; done) | (first | (rw [List.length_map]; exact at_len64 (by assumption) (by omega) (by omega)) | (rw [List.length_map, flat_len64 _ (mixTo_row S x l kp hS hl64 j (by omega)), mixTo_len]; omega)))) trivial ?_)
              | (refine' rl0 (gn rfl) rfl rfl (step_load_agg rfl (ev_mk rfl) F.agg48 ?hc ?hl) ⟨?hb, trivial⟩ ?_; (case hb => repeat (first | exact upd_eq _ _ _ | refine (upd_ne _ _ _ _ (by omega)).trans ?_ | assumption | exact hd _ (by omega) | exact hd0 _ (by omega) | exact hd1 _ (by omega) | exact hd2 _ (by omega) | fail)); (case hc => rfl); (case hl => first | rfl | (simp; done)))
              | (refine rl0 (gn rfl) rfl rfl (step_load_ro_agg rfl (ev_mk rfl) F.agg48 rfl rfl) trivial ?_)
            refine rl1 (gn rfl) rfl rfl (step_allocc (k := m0 + 0) (zs := (List.replicate 64 (.int .u8 0))) (cs := List.replicate 64 (.sc (.int .u8 0))) rfl F.zero48 (by first | rfl | simp) (by first | rfl | decide | simp) (by first | rfl | simp)) ⟨by repeat (first | exact upd_eq _ _ _ | refine (upd_ne _ _ _ _ (by omega)).trans ?_ | assumption | exact hd _ (by omega) | exact hd0 _ (by omega) | exact hd1 _ (by omega) | exact hd2 _ (by omega) | fail), trivial⟩ (by omega) ?_
            refine rl0 (gn rfl) rfl rfl (step_as rfl rfl) trivial ?_
            first
              | (refine' rls (gn rfl) rfl (step_storeA rfl rfl rfl rfl F.agg48 ?hm ?hl) ⟨?hb, trivial⟩ ?hk ?_; (case hb => repeat (first | exact upd_eq _ _ _ | refine (upd_ne _ _ _ _ (by omega)).trans ?_ | assumption | exact hd _ (by omega) | exact hd0 _ (by omega) | exact hd1 _ (by omega) | exact hd2 _ (by omega) | fail)); (case hm => first | rfl | (simp; done) | (first | (rw [List.length_map]; exact at_len64 (by assumption) (by omega) (by omega)) | (rw [List.length_map, flat_len64 _ (mixTo_row S x l kp hS hl64 j (by omega)), mixTo_len]; omega))); (case hl => first | rfl | (simp; done) | (first | (rw [List.length_map]; exact at_len64 (by assumption) (by omega) (by omega)) | (rw [List.length_map, flat_len64 _ (mixTo_row S x l kp hS hl64 j (by omega)), mixTo_len]; omega))); (case hk => omega))
              | (refine' rls (gn rfl) rfl (step_storeS rfl rfl rfl rfl F.agg48 ?hm ?hl ?hc) ⟨?hb, trivial⟩ ?hk ?_; (case hb => repeat (first | exact upd_eq _ _ _ | refine (upd_ne _ _ _ _ (by omega)).trans ?_ | assumption | exact hd _ (by omega) | exact hd0 _ (by omega) | exact hd1 _ (by omega) | exact hd2 _ (by omega) | fail)); (case hm => first | rfl | (simp; done) | (first | (rw [List.length_map]; exact at_len64 (by assumption) (by omega) (by omega)) | (rw [List.length_map, flat_len64 _ (mixTo_row S x l kp hS hl64 j (by omega)), mixTo_len]; omega))); (case hl => first | decide | (simp; done) | (first | (rw [List.length_map]; exact at_len64 (by assumption) (by omega) (by omega)) | (rw [List.length_map, flat_len64 _ (mixTo_row S x l kp hS hl64 j (by omega)), mixTo_len]; omega))); (case hc => rfl); (case hk => omega))
            refine runsL_nil ?_
            refine runs_seq ?_
            refine runs_region ?_
            refine rl0 (gn rfl) rfl rfl (step_mv rfl rfl) trivial ?_
            refine rl0 (gn rfl) rfl rfl (step_mv rfl rfl) trivial ?_
            first | refine rl0 (gn rfl) rfl rfl (step_nilCheck rfl (ev_mk rfl) (.inl ⟨_, _, rfl⟩)) trivial ?_ | refine rl0 (gn rfl) rfl rfl (step_nilCheck rfl (ev_mk rfl) (.inr ⟨_, rfl⟩)) trivial ?_
            first | refine rl0 (gn rfl) rfl rfl (step_fieldAddr (off := 3) rfl (ev_mk rfl) Try.underlying55 rfl F.sz30 rfl) trivial ?_ | refine rl0 (gn rfl) rfl rfl (step_fieldAddr_ro (off := 3) rfl (ev_mk rfl) Try.underlying55 rfl F.sz30 rfl rfl) trivial ?_
            first
              | (refine' rl0 (gn rfl) rfl rfl (step_load_one rfl (ev_mk rfl) F.one30 ?hv) ⟨?hb, trivial⟩ ?_; (case hb => repeat (first | exact upd_eq _ _ _ | refine (upd_ne _ _ _ _ (by omega)).trans ?_ | assumption | exact hd _ (by omega) | exact hd0 _ (by omega) | exact hd1 _ (by omega) | exact hd2 _ (by omega) | fail)); (case hv => exact rfl))
              | (refine rl0 (gn rfl) rfl rfl (step_load_ro rfl (ev_mk rfl) F.one30 rfl) trivial ?_)
            first
              | refine rl0 (gn rfl) rfl rfl (step_len rfl rfl (ev_mk rfl) (.inl ⟨⟨_, Try.underlying30⟩, .inl ⟨_, _, .inl rfl, List.length_map _⟩⟩)) trivial ?_
              | refine rl0 (gn rfl) rfl rfl (step_len rfl rfl (ev_mk rfl) (.inl ⟨⟨_, Try.underlying30⟩, .inl ⟨_, _, .inl rfl, rfl⟩⟩)) trivial ?_
              | refine rl0 (gn rfl) rfl rfl (step_len rfl rfl (ev_mk rfl) (.inl ⟨⟨_, Try.underlying30⟩, .inl ⟨_, _, .inr (.inl rfl), List.length_map _⟩⟩)) trivial ?_
              | refine rl0 (gn rfl) rfl rfl (step_len rfl rfl (ev_mk rfl) (.inl ⟨⟨_, Try.underlying30⟩, .inl ⟨_, _, .inr (.inl rfl), rfl⟩⟩)) trivial ?_
              | refine rl0 (gn rfl) rfl rfl (step_len rfl rfl (ev_mk rfl) (.inl ⟨⟨_, Try.underlying30⟩, .inl ⟨_, _, .inr (.inr ⟨_, rfl⟩), List.length_map _⟩⟩)) trivial ?_
              | refine rl0 (gn rfl) rfl rfl (step_len rfl rfl (ev_mk rfl) (.inl ⟨⟨_, Try.underlying30⟩, .inl ⟨_, _, .inr (.inr ⟨_, rfl⟩), rfl⟩⟩)) trivial ?_
              | refine rl0 (gn rfl) rfl rfl (step_len rfl rfl (ev_mk rfl) (.inl ⟨⟨_, Try.underlying30⟩, .inr (.inl ⟨_, _, _, _, rfl⟩)⟩)) trivial ?_
              | refine rl0 (gn rfl) rfl rfl (step_len (m := 0) rfl rfl (ev_mk rfl) (.inl ⟨⟨_, Try.underlying30⟩, .inr (.inr ⟨_, _, rfl⟩)⟩)) trivial ?_
            refine rl_lss (gn rfl) rfl rfl rfl rfl rfl (fun h5 => ?_) (fun h5 => ?_)
            · skip
              refine rl0 (gn rfl) rfl rfl (step_mv rfl rfl) trivial ?_
              refine rl0 (gy rfl rfl rfl rfl rfl rfl) rfl rfl (step_mv rfl rfl) trivial ?_
              first | refine rl0 (gy rfl rfl rfl rfl rfl rfl) rfl rfl (step_nilCheck rfl (ev_mk rfl) (.inl ⟨_, _, rfl⟩)) trivial ?_ | refine rl0 (gy rfl rfl rfl rfl rfl rfl) rfl rfl (step_nilCheck rfl (ev_mk rfl) (.inr ⟨_, rfl⟩)) trivial ?_
              first | refine rl0 (gy rfl rfl rfl rfl rfl rfl) rfl rfl (step_fieldAddr (off := 3) rfl (ev_mk rfl) Try.underlying55 rfl F.sz30 rfl) trivial ?_ | refine rl0 (gy rfl rfl rfl rfl rfl rfl) rfl rfl (step_fieldAddr_ro (off := 3) rfl (ev_mk rfl) Try.underlying55 rfl F.sz30 rfl rfl) trivial ?_
              first
                | (refine' rl0 (gy rfl rfl rfl rfl rfl rfl) rfl rfl (step_load_one rfl (ev_mk rfl) F.one30 ?hv) ⟨?hb, trivial⟩ ?_; (case hb => repeat (first | exact upd_eq _ _ _ | refine (upd_ne _ _ _ _ (by omega)).trans ?_ | assumption | exact hd _ (by omega) | exact hd0 _ (by omega) | exact hd1 _ (by omega) | exact hd2 _ (by omega) | fail)); (case hv => exact rfl))
                | (refine rl0 (gy rfl rfl rfl rfl rfl rfl) rfl rfl (step_load_ro rfl (ev_mk rfl) F.one30 rfl) trivial ?_)
              refine rl0 (gy rfl rfl rfl rfl rfl rfl) rfl rfl (step_mv rfl rfl) trivial ?_
              first
                | (refine' rl0 (gy rfl rfl rfl rfl rfl rfl) rfl rfl (step_index rfl (ev_mk rfl) (.inl rfl) (ev_mk rfl) Try.underlying30 F.sz4 (by omega) ?hr) trivial ?_; (case hr => exact map_at _ _ _ (by omega) (by omega)))
                | (refine' rl0 (gy rfl rfl rfl rfl rfl rfl) rfl rfl (step_index rfl (ev_mk rfl) (.inr (.inl rfl)) (ev_mk rfl) Try.underlying30 F.sz4 (by omega) ?hr) trivial ?_; (case hr => exact map_at _ _ _ (by omega) (by omega)))
                | (refine' rl0 (gy rfl rfl rfl rfl rfl rfl) rfl rfl (step_index rfl (ev_mk rfl) (.inr (.inr ⟨_, rfl⟩)) (ev_mk rfl) Try.underlying30 F.sz4 (by omega) ?hr) trivial ?_; (case hr => exact map_at _ _ _ (by omega) (by omega)))
                | (refine rl0 (gy rfl rfl rfl rfl rfl rfl) rfl rfl (step_index_msl rfl (ev_mk rfl) (ev_mk rfl) Try.underlying30 F.sz4 (by omega) (by omega)) trivial ?_)
              first
                | (refine' rl0 (gy rfl rfl rfl rfl rfl rfl) rfl rfl (step_load_one rfl (ev_mk rfl) F.one4 ?hv) ⟨?hb, trivial⟩ ?_; (case hb => repeat (first | exact upd_eq _ _ _ | refine (upd_ne _ _ _ _ (by omega)).trans ?_ | assumption | exact hd _ (by omega) | exact hd0 _ (by omega) | exact hd1 _ (by omega) | exact hd2 _ (by omega) | fail)); (case hv => exact rfl))
                | (refine rl0 (gy rfl rfl rfl rfl rfl rfl) rfl rfl (step_load_ro rfl (ev_mk rfl) F.one4 rfl) trivial ?_)
              refine rl0 (gn rfl) rfl rfl (step_pick rfl (ev_mk rfl) (ev_mk rfl)) trivial ?_
              refine runsL_nil ?_
              refine runs_cond _ (ev_mk rfl) (fun h6 => ?_) (fun h6 => ?_)
              · skip
                refine runs_draw (by kernel_rfl) (by kernel_rfl) (by kernel_rfl) ?_
                refine dl0 (gn rfl) rfl rfl (step_mv rfl rfl) trivial ?_
                first | refine dl0 (gn rfl) rfl rfl (step_nilCheck rfl (ev_mk rfl) (.inl ⟨_, _, rfl⟩)) trivial ?_ | refine dl0 (gn rfl) rfl rfl (step_nilCheck rfl (ev_mk rfl) (.inr ⟨_, rfl⟩)) trivial ?_
                first | refine dl0 (gn rfl) rfl rfl (step_fieldAddr (off := 0) rfl (ev_mk rfl) Try.underlying55 rfl F.sz29 rfl) trivial ?_ | refine dl0 (gn rfl) rfl rfl (step_fieldAddr_ro (off := 0) rfl (ev_mk rfl) Try.underlying55 rfl F.sz29 rfl rfl) trivial ?_
                first
                  | (refine' dl0 (gn rfl) rfl rfl (step_load_one rfl (ev_mk rfl) F.one29 ?hv) ⟨?hb, trivial⟩ ?_; (case hb => repeat (first | exact upd_eq _ _ _ | refine (upd_ne _ _ _ _ (by omega)).trans ?_ | assumption | exact hd _ (by omega) | exact hd0 _ (by omega) | exact hd1 _ (by omega) | exact hd2 _ (by omega) | fail)); (case hv => exact rfl))
                  | (refine dl0 (gn rfl) rfl rfl (step_load_ro rfl (ev_mk rfl) F.one29 rfl) trivial ?_)
                refine dl0 (gn rfl) rfl rfl (step_mv rfl rfl) trivial ?_
                refine dl0 (gn rfl) rfl rfl (step_mv rfl rfl) trivial ?_
                refine dl0 (gn rfl) rfl rfl (step_add rfl (ev_mk rfl) (ev_mk rfl) (w64 (by omega))) trivial ?_
                first
                  | (refine' dl0 (gn rfl) rfl rfl (step_load_all rfl rfl F.agg48 ?hl) ⟨?hb, trivial⟩ ?_; (case hb => repeat (first | exact upd_eq _ _ _ | refine (upd_ne _ _ _ _ (by omega)).trans ?_ | assumption | exact hd _ (by omega) | exact hd0 _ (by omega) | exact hd1 _ (by omega) | exact hd2 _ (by omega) | fail)); (case hl => first | rfl | (simp; done) | (first | (rw [List.length_map]; exact at_len64 (by assumption) (by omega) (by omega)) | (rw [List.length_map, flat_len64 _ (mixTo_row S x l kp hS hl64 j (by omega)), mixTo_len]; omega))))
                  | (refine dl0 (gn rfl) rfl rfl (step_load_ro_all rfl rfl F.agg48 (by first | rfl | (simp; done) | (first | (rw [List.length_map]; exact at_len64 (by assumption) (by omega) (by omega)) | (rw [List.length_map, flat_len64 _ (mixTo_row S x l kp hS hl64 j (by omega)), mixTo_len]; omega)))) trivial ?_)
                  | (refine' dl0 (gn rfl) rfl rfl (step_load_agg rfl (ev_mk rfl) F.agg48 ?hc ?hl) ⟨?hb, trivial⟩ ?_; (case hb => repeat (first | exact upd_eq _ _ _ | refine (upd_ne _ _ _ _ (by omega)).trans ?_ | assumption | exact hd _ (by omega) | exact hd0 _ (by omega) | exact hd1 _ (by omega) | exact hd2 _ (by omega) | fail)); (case hc => rfl); (case hl => first | rfl | (simp; done)))
                  | (refine dl0 (gn rfl) rfl rfl (step_load_ro_agg rfl (ev_mk rfl) F.agg48 rfl rfl) trivial ?_)
                first
                  | (refine' dl0 (gn rfl) rfl rfl (step_index rfl (ev_mk rfl) (.inl rfl) (ev_mk rfl) Try.underlying29 F.sz48 (by omega) ?hr) trivial ?_; (case hr => exact map_at _ _ _ (by omega) (by omega)))
                  | (refine' dl0 (gn rfl) rfl rfl (step_index rfl (ev_mk rfl) (.inr (.inl rfl)) (ev_mk rfl) Try.underlying29 F.sz48 (by omega) ?hr) trivial ?_; (case hr => exact map_at _ _ _ (by omega) (by omega)))
                  | (refine' dl0 (gn rfl) rfl rfl (step_index rfl (ev_mk rfl) (.inr (.inr ⟨_, rfl⟩)) (ev_mk rfl) Try.underlying29 F.sz48 (by omega) ?hr) trivial ?_; (case hr => exact map_at _ _ _ (by omega) (by omega)))
                  | (refine dl0 (gn rfl) rfl rfl (step_index_msl rfl (ev_mk rfl) (ev_mk rfl) Try.underlying29 F.sz48 (by omega) (by omega)) trivial ?_)
                first
                  | (refine' dls (gn rfl) rfl (step_storeA rfl rfl rfl rfl F.agg48 ?hm ?hl) ⟨?hb, trivial⟩ ?hk ?_; (case hb => repeat (first | exact upd_eq _ _ _ | refine (upd_ne _ _ _ _ (by omega)).trans ?_ | assumption | exact hd _ (by omega) | exact hd0 _ (by omega) | exact hd1 _ (by omega) | exact hd2 _ (by omega) | fail)); (case hm => first | rfl | (simp; done) | (first | (rw [List.length_map]; exact at_len64 (by assumption) (by omega) (by omega)) | (rw [List.length_map, flat_len64 _ (mixTo_row S x l kp hS hl64 j (by omega)), mixTo_len]; omega))); (case hl => first | rfl | (simp; done) | (first | (rw [List.length_map]; exact at_len64 (by assumption) (by omega) (by omega)) | (rw [List.length_map, flat_len64 _ (mixTo_row S x l kp hS hl64 j (by omega)), mixTo_len]; omega))); (case hk => omega))
                  | (refine' dls (gn rfl) rfl (step_storeS rfl rfl rfl rfl F.agg48 ?hm ?hl ?hc) ⟨?hb, trivial⟩ ?hk ?_; (case hb => repeat (first | exact upd_eq _ _ _ | refine (upd_ne _ _ _ _ (by omega)).trans ?_ | assumption | exact hd _ (by omega) | exact hd0 _ (by omega) | exact hd1 _ (by omega) | exact hd2 _ (by omega) | fail)); (case hm => first | rfl | (simp; done) | (first | (rw [List.length_map]; exact at_len64 (by assumption) (by omega) (by omega)) | (rw [List.length_map, flat_len64 _ (mixTo_row S x l kp hS hl64 j (by omega)), mixTo_len]; omega))); (case hl => first | decide | (simp; done) | (first | (rw [List.length_map]; exact at_len64 (by assumption) (by omega) (by omega)) | (rw [List.length_map, flat_len64 _ (mixTo_row S x l kp hS hl64 j (by omega)), mixTo_len]; omega))); (case hc => rw [show 0 + (x + (j : Int)).toNat * 64 = (x.toNat + j) * 64 by omega, flat_set _ _ _ (mixTo_row S x l kp hS hl64 j (by omega)) (at_len64 hl64 (by omega) (by omega)) (by rw [mixTo_len]; omega), ← mixTo_yes (by omega) (by assumption)]); (case hk => omega))
                refine dlnil ?_ ?_
                · repeat' (first | exact trivial | exact .inr (ap0 _ _ _ _) | exact .inr (ap2 _ _ _ _) | exact .inr (ap3 _ _ _ _) | exact .inr ⟨by first | (simp; done) | (simp; omega), by first | (simp; done) | (simp; omega)⟩ | exact .inl (by kernel_rfl) | refine ⟨?_, ?_⟩ | fail)
                refine runs_region ?_
                refine rl0 (gn rfl) rfl rfl (step_add rfl (ev_mk rfl) (ev_mk rfl) (w64 (by omega))) trivial ?_
                refine rl0 (gn rfl) rfl rfl (step_mv rfl rfl) trivial ?_
                refine runsL_nil ?_
                have hmx_ := trivial
                refine ⟨_, _, ?_, sle ?_ (Nat.le_refl _), j + 1, _, _, rfl, rfl, by omega, (fun k hk e0_ => by repeat (first | exact hf0 k hk e0_ | refine (upd_ne _ _ _ _ (by first | assumption | omega)).trans ?_ | fail)), by repeat (first | exact upd_eq _ _ _ | assumption | refine (upd_ne _ _ _ _ (by omega)).trans ?_ | fail), by (try rw [hmx_]); repeat (first | exact upd_eq _ _ _ | assumption | refine (upd_ne _ _ _ _ (by omega)).trans ?_ | fail), by omega⟩
                · omega
                · (repeat' (first | exact trivial | refine ⟨⟨_, rfl, ?_⟩, ?_⟩ | fail)); (all_goals first | exact VLe.refl _ | (rw [Int.natCast_add]; exact VLe.refl _) | exact VLe.own_sl _ _ _ | exact VLe.fl_sl _ _ | exact VLe.nil_sl _)
              · skip
                refine runs_skip ?_
                refine runs_region ?_
                refine rl0 (gn rfl) rfl rfl (step_add rfl (ev_mk rfl) (ev_mk rfl) (w64 (by omega))) trivial ?_
                refine rl0 (gn rfl) rfl rfl (step_mv rfl rfl) trivial ?_
                refine runsL_nil ?_
                have hmx_ : mixTo S x l kp (j + 1) = mixTo S x l kp j := mixTo_no (fun h_ => by first | assumption | (exfalso; omega))
                refine ⟨_, _, ?_, sle ?_ (Nat.le_refl _), j + 1, _, _, rfl, rfl, by omega, (fun k hk e0_ => by repeat (first | exact hf0 k hk e0_ | refine (upd_ne _ _ _ _ (by first | assumption | omega)).trans ?_ | fail)), by repeat (first | exact upd_eq _ _ _ | assumption | refine (upd_ne _ _ _ _ (by omega)).trans ?_ | fail), by (try rw [hmx_]); repeat (first | exact upd_eq _ _ _ | assumption | refine (upd_ne _ _ _ _ (by omega)).trans ?_ | fail), by omega⟩
                · omega
                · (repeat' (first | exact trivial | refine ⟨⟨_, rfl, ?_⟩, ?_⟩ | fail)); (all_goals first | exact VLe.refl _ | (rw [Int.natCast_add]; exact VLe.refl _) | exact VLe.own_sl _ _ _ | exact VLe.fl_sl _ _ | exact VLe.nil_sl _)
            · skip
              refine rl0 (gn rfl) rfl rfl (step_mv rfl rfl) trivial ?_
              refine rlk rfl rfl rfl rfl rfl (ngb rfl rfl) rfl rfl ?_
              refine rlk rfl rfl rfl rfl rfl (ngb rfl rfl) rfl rfl ?_
              refine rlk rfl rfl rfl rfl rfl (ngb rfl rfl) rfl rfl ?_
              refine rlk rfl rfl rfl rfl rfl (ngb rfl rfl) rfl rfl ?_
              refine rlk rfl rfl rfl rfl rfl (ngb rfl rfl) rfl rfl ?_
              refine rlk rfl rfl rfl rfl rfl (ngb rfl rfl) rfl rfl ?_
              refine rlk rfl rfl rfl rfl rfl (ngb rfl rfl) rfl rfl ?_
              refine rl0 (gn rfl) rfl rfl (step_pick rfl (ev_mk rfl) (ev_mk rfl)) trivial ?_
              refine runsL_nil ?_
              refine runs_cond false (ev_mk rfl) (fun h_ => nomatch h_) (fun _ => ?_)
              refine runs_skip ?_
              refine runs_region ?_
              refine rl0 (gn rfl) rfl rfl (step_add rfl (ev_mk rfl) (ev_mk rfl) (w64 (by omega))) trivial ?_
              refine rl0 (gn rfl) rfl rfl (step_mv rfl rfl) trivial ?_
              refine runsL_nil ?_
              have hmx_ : mixTo S x l kp (j + 1) = mixTo S x l kp j := mixTo_no (fun h_ => by first | assumption | (exfalso; omega))
              refine ⟨_, _, ?_, sle ?_ (Nat.le_refl _), j + 1, _, _, rfl, rfl, by omega, (fun k hk e0_ => by repeat (first | exact hf0 k hk e0_ | refine (upd_ne _ _ _ _ (by first | assumption | omega)).trans ?_ | fail)), by repeat (first | exact upd_eq _ _ _ | assumption | refine (upd_ne _ _ _ _ (by omega)).trans ?_ | fail), by (try rw [hmx_]); repeat (first | exact upd_eq _ _ _ | assumption | refine (upd_ne _ _ _ _ (by omega)).trans ?_ | fail), by omega⟩
              · omega
              · (repeat' (first | exact trivial | refine ⟨⟨_, rfl, ?_⟩, ?_⟩ | fail)); (all_goals first | exact VLe.refl _ | (rw [Int.natCast_add]; exact VLe.refl _) | exact VLe.own_sl _ _ _ | exact VLe.fl_sl _ _ | exact VLe.nil_sl _)
          · skip
            have hj_ : j = l.length := by omega
            rw [hj_, mixTo_all S x l kp (by omega)] at hB0_1
            refine runsL_nil ?_
            refine runs_seq ?_
            refine runs_cond false (ev_mk rfl) (fun h_ => nomatch h_) (fun _ => ?_)
            refine runs_exit ?_
            refine runs_seq ?_
            refine runs_region ?_
            refine rl0 (gn rfl) rfl rfl (step_mv rfl rfl) trivial ?_
            first | refine rl0 (gn rfl) rfl rfl (step_nilCheck rfl (ev_mk rfl) (.inl ⟨_, _, rfl⟩)) trivial ?_ | refine rl0 (gn rfl) rfl rfl (step_nilCheck rfl (ev_mk rfl) (.inr ⟨_, rfl⟩)) trivial ?_
            first | refine rl0 (gn rfl) rfl rfl (step_fieldAddr (off := 4) rfl (ev_mk rfl) Try.underlying55 rfl F.sz4 rfl) trivial ?_ | refine rl0 (gn rfl) rfl rfl (step_fieldAddr_ro (off := 4) rfl (ev_mk rfl) Try.underlying55 rfl F.sz4 rfl rfl) trivial ?_
            refine' rls (gn rfl) rfl (step_store1 rfl rfl rfl rfl F.one4 rfl rfl ?hl ?hc) ⟨?hb, trivial⟩ ?hk ?_
            case hb => repeat (first | exact upd_eq _ _ _ | refine (upd_ne _ _ _ _ (by omega)).trans ?_ | assumption | exact hd _ (by omega) | exact hd0 _ (by omega) | exact hd1 _ (by omega) | exact hd2 _ (by omega) | fail)
            case hl => first | decide | (simp; done) | (simp; omega) | (first | (rw [List.length_map]; exact at_len64 (by assumption) (by omega) (by omega)) | (rw [List.length_map, flat_len64 _ (mixTo_row S x l kp hS hl64 j (by omega)), mixTo_len]; omega))
            case hc => first | (simp only [List.set_cons_succ, List.set_cons_zero]; rfl) | rfl
            case hk => omega
            refine runsL_nil ?_
            refine runs_seq ?_
            refine runs_region ?_
            refine rl0 (gn rfl) rfl rfl (step_as rfl rfl) trivial ?_
            refine runsL_nil ?_
            refine runs_ret ?_
            refine ⟨by first | exact .inr rfl | exact .inl rfl, fin_mk (rest rfl res0) ?_ ?_ ?_ ?_⟩
            · first | exact VLe.refl _ | exact VLe.own_sl _ _ _ | exact VLe.fl_sl _ _
            · repeat (first | exact trivial | assumption | omega | exact bd_bs | exact bd_row | exact bd_secs | exact bd_bools | refine ⟨?_, ?_⟩ | fail)
            · intro k hk; simp only [upds]; by_cases ek1 : k = k1; (focus subst ek1; refine bl_eq ?_; first | (refine' blec ?hb ?hl; (case hb => repeat (first | exact upd_eq _ _ _ | assumption | refine (upd_ne _ _ _ _ (by omega)).trans ?_ | fail)); (case hl => first | exact VLes.refl _ | ((repeat (first | exact .nil | refine .cons ?_ ?_ | exact VLe.refl _ | exact VLe.own_sl _ _ _ | exact VLe.nil_sl _)); done))) | (refine ble ?_; (repeat (first | exact upd_eq _ _ _ | assumption | refine (upd_ne _ _ _ _ (by omega)).trans ?_ | fail)); done)); refine bl_ne ek1 ?_; by_cases ek2 : k = k2; (focus subst ek2; refine bl_eq ?_; first | (refine' blec ?hb ?hl; (case hb => repeat (first | exact upd_eq _ _ _ | assumption | refine (upd_ne _ _ _ _ (by omega)).trans ?_ | fail)); (case hl => first | exact VLes.refl _ | ((repeat (first | exact .nil | refine .cons ?_ ?_ | exact VLe.refl _ | exact VLe.own_sl _ _ _ | exact VLe.nil_sl _)); done))) | (refine ble ?_; (repeat (first | exact upd_eq _ _ _ | assumption | refine (upd_ne _ _ _ _ (by omega)).trans ?_ | fail)); done)); refine bl_ne ek2 ?_; exact ble (by first | exact rfl | (refine (upd_ne _ _ _ _ (by omega)).trans ?_; first | exact rfl | skip; repeat (first | exact rfl | refine (upd_ne _ _ _ _ (by omega)).trans ?_ | assumption | exact hf0 _ (by omega) | exact hf1 _ (by omega) | exact hf2 _ (by omega) | exact hf0 _ (by omega) (by first | assumption | omega) | exact hf1 _ (by omega) (by first | assumption | omega))) | exact hf0 _ (by omega) | exact hf1 _ (by omega) | exact hf2 _ (by omega) | exact hf0 _ (by omega) (by first | assumption | omega) | exact hf1 _ (by omega) (by first | assumption | omega))
            · intro p hp cs hcs; simp only [List.mem_cons, List.not_mem_nil, or_false] at hp; (first | (rcases hp with rfl | rfl) | (subst hp)) <;> (cases hcs; repeat (first | exact trivial | assumption | omega | exact bd_bs | exact bd_row | exact bd_secs | exact bd_bools | refine ⟨?_, ?_⟩ | fail))
      · skip
        exact absurd hf (by assumption)
set_option maxRecDepth 100000 in
set_option maxHeartbeats 4000000 in
theorem write_ok (k1 k2 : Nat) (S : List (List Int)) (w f : Int) (kp : List Bool) (dn : Bool) (hkk : k1 ≠ k2) (hS : ∀ r ∈ S, r.length = 64) (l : List (List Int)) (hl64 : ∀ r ∈ l, r.length = 64) (x : Int) (hl : l.length ≤ 100000) (hL : S.length ≤ 100000) (hx : -9223372036854775808 ≤ x ∧ x ≤ 9223372036854775807) (hi : insideB S.length x l.length = true) (hdn : dn = false) (hf : f ≠ 0) (hw : 0 ≤ w ∧ w ≤ 1000000000000) (hff : -1 ≤ f ∧ f ≤ 9223372036854775807) : Does Try.prog 15 [.ref k1 0, .sc (.int .i64 x), .sl 64 (secsV l)] [(k1, .cells [.msl k2 0 (S).length (S).length 64, .sc (.int .i64 (w)), .sc (.int .i64 (f)), .sl 1 (boolsV (kp)), .sc (.bool (dn))]), (k2, .cells (S.flatten.map bV))] [(k2, .cells ((mixS S x l f kp).flatten.map bV)), (k1, .cells [.msl k2 0 (S).length (S).length 64, .sc (.int .i64 (w + 1)), .sc (.int .i64 (if f > 0 then f - 1 else f)), .sl 1 (boolsV (kp)), .sc (.bool (dn))])] (.sc (.int .i64 0)) := by
  refine does_mk 20 Try.func15 rfl rfl rfl (fun n B bx hd hpre hup hvs hbx => ?_)
  have hp0 := hpre.1
  have hk0 := lt_cells hd hp0
  have hp1 := hpre.2.1
  have hk1 := lt_cells hd hp1
  have hu0 := hup.1
  have hu1 := hup.2.1
  have hii := of_decide_eq_true hi
  refine runs_seq ?_
  refine runs_region ?_
  refine rl0 (gn rfl) rfl rfl (step_as rfl rfl) trivial ?_
  refine runsL_nil ?_
  refine runs_seq ?_
  refine runs_block ?_
  refine runs_seq ?_
  refine runs_region ?_
  refine rl0 (gn rfl) rfl rfl (step_mv rfl rfl) trivial ?_
  refine rl0 (gn rfl) rfl rfl (step_mv rfl rfl) trivial ?_
  refine rl0 (gn rfl) rfl rfl (step_mv rfl rfl) trivial ?_
  first
    | refine rl0 (gn rfl) rfl rfl (step_len rfl rfl (ev_mk rfl) (.inl ⟨⟨_, Try.underlying29⟩, .inl ⟨_, _, .inl rfl, List.length_map _⟩⟩)) trivial ?_
    | refine rl0 (gn rfl) rfl rfl (step_len rfl rfl (ev_mk rfl) (.inl ⟨⟨_, Try.underlying29⟩, .inl ⟨_, _, .inl rfl, rfl⟩⟩)) trivial ?_
    | refine rl0 (gn rfl) rfl rfl (step_len rfl rfl (ev_mk rfl) (.inl ⟨⟨_, Try.underlying29⟩, .inl ⟨_, _, .inr (.inl rfl), List.length_map _⟩⟩)) trivial ?_
    | refine rl0 (gn rfl) rfl rfl (step_len rfl rfl (ev_mk rfl) (.inl ⟨⟨_, Try.underlying29⟩, .inl ⟨_, _, .inr (.inl rfl), rfl⟩⟩)) trivial ?_
    | refine rl0 (gn rfl) rfl rfl (step_len rfl rfl (ev_mk rfl) (.inl ⟨⟨_, Try.underlying29⟩, .inl ⟨_, _, .inr (.inr ⟨_, rfl⟩), List.length_map _⟩⟩)) trivial ?_
    | refine rl0 (gn rfl) rfl rfl (step_len rfl rfl (ev_mk rfl) (.inl ⟨⟨_, Try.underlying29⟩, .inl ⟨_, _, .inr (.inr ⟨_, rfl⟩), rfl⟩⟩)) trivial ?_
    | refine rl0 (gn rfl) rfl rfl (step_len rfl rfl (ev_mk rfl) (.inl ⟨⟨_, Try.underlying29⟩, .inr (.inl ⟨_, _, _, _, rfl⟩)⟩)) trivial ?_
    | refine rl0 (gn rfl) rfl rfl (step_len (m := 0) rfl rfl (ev_mk rfl) (.inl ⟨⟨_, Try.underlying29⟩, .inr (.inr ⟨_, _, rfl⟩)⟩)) trivial ?_
  refine rl0 (gn rfl) rfl rfl (step_callc rfl Try.func27 rfl rfl rfl (inside_q k1 k2 S.length _ _ _ _ x _ _ (by omega) hx (by omega) hi) (by repeat (first | exact .nil | refine .cons ?_ ?_ | exact VLe.refl _ | exact VLe.own_sl _ _ _ | exact VLe.fl_sl _ _ | exact VLe.nil_sl _ | exact VLe.nil_fl _ | refine VLe.agg ?_))) ⟨by repeat (first | exact upd_eq _ _ _ | refine (upd_ne _ _ _ _ (by omega)).trans ?_ | assumption | exact hd _ (by omega) | exact hd0 _ (by omega) | exact hd1 _ (by omega) | exact hd2 _ (by omega) | fail), trivial⟩ ?_
  refine rl0 (gn rfl) rfl rfl (step_unOp rfl (ev_mk rfl) (fun _ => rfl)) trivial ?_
  refine rl0 (gn rfl) rfl rfl (step_as rfl rfl) trivial ?_
  refine runsL_nil ?_
  refine runs_cond _ (ev_mk rfl) (fun h1 => ?_) (fun h1 => ?_)
  · skip
    exact absurd ‹_› (by simp)
  · skip
    refine runs_seq ?_
    refine runs_region ?_
    refine rl0 (gn rfl) rfl rfl (step_mv rfl rfl) trivial ?_
    first | refine rl0 (gn rfl) rfl rfl (step_nilCheck rfl (ev_mk rfl) (.inl ⟨_, _, rfl⟩)) trivial ?_ | refine rl0 (gn rfl) rfl rfl (step_nilCheck rfl (ev_mk rfl) (.inr ⟨_, rfl⟩)) trivial ?_
    first | refine rl0 (gn rfl) rfl rfl (step_fieldAddr (off := 4) rfl (ev_mk rfl) Try.underlying55 rfl F.sz4 rfl) trivial ?_ | refine rl0 (gn rfl) rfl rfl (step_fieldAddr_ro (off := 4) rfl (ev_mk rfl) Try.underlying55 rfl F.sz4 rfl rfl) trivial ?_
    first
      | (refine' rl0 (gn rfl) rfl rfl (step_load_one rfl (ev_mk rfl) F.one4 ?hv) ⟨?hb, trivial⟩ ?_; (case hb => repeat (first | exact upd_eq _ _ _ | refine (upd_ne _ _ _ _ (by omega)).trans ?_ | assumption | exact hd _ (by omega) | exact hd0 _ (by omega) | exact hd1 _ (by omega) | exact hd2 _ (by omega) | fail)); (case hv => exact rfl))
      | (refine rl0 (gn rfl) rfl rfl (step_load_ro rfl (ev_mk rfl) F.one4 rfl) trivial ?_)
    refine rl0 (gn rfl) rfl rfl (step_as rfl rfl) trivial ?_
    refine runsL_nil ?_
    refine runs_cond _ (ev_mk rfl) (fun h2 => ?_) (fun h2 => ?_)
    · skip
      exact absurd ‹_› (by simp [hdn])
    · skip
      refine runs_skip ?_
      refine runs_seq ?_
      refine runs_seq ?_
      refine runs_region ?_
      refine rl0 (gn rfl) rfl rfl (step_mv rfl rfl) trivial ?_
      first | refine rl0 (gn rfl) rfl rfl (step_nilCheck rfl (ev_mk rfl) (.inl ⟨_, _, rfl⟩)) trivial ?_ | refine rl0 (gn rfl) rfl rfl (step_nilCheck rfl (ev_mk rfl) (.inr ⟨_, rfl⟩)) trivial ?_
      first | refine rl0 (gn rfl) rfl rfl (step_fieldAddr (off := 2) rfl (ev_mk rfl) Try.underlying55 rfl F.sz3 rfl) trivial ?_ | refine rl0 (gn rfl) rfl rfl (step_fieldAddr_ro (off := 2) rfl (ev_mk rfl) Try.underlying55 rfl F.sz3 rfl rfl) trivial ?_
      first
        | (refine' rl0 (gn rfl) rfl rfl (step_load_one rfl (ev_mk rfl) F.one3 ?hv) ⟨?hb, trivial⟩ ?_; (case hb => repeat (first | exact upd_eq _ _ _ | refine (upd_ne _ _ _ _ (by omega)).trans ?_ | assumption | exact hd _ (by omega) | exact hd0 _ (by omega) | exact hd1 _ (by omega) | exact hd2 _ (by omega) | fail)); (case hv => exact rfl))
        | (refine rl0 (gn rfl) rfl rfl (step_load_ro rfl (ev_mk rfl) F.one3 rfl) trivial ?_)
      refine rl_eql (gn rfl) rfl rfl rfl rfl rfl (fun h3 => ?_) (fun h3 => ?_)
      · skip
        exact absurd (by assumption) hf
      · skip
        refine runsL_nil ?_
        refine runs_cond false (ev_mk rfl) (fun h_ => nomatch h_) (fun _ => ?_)
        refine runs_skip ?_
        refine runs_seq ?_
        refine runs_seq ?_
        refine runs_region ?_
        refine rl0 (gn rfl) rfl rfl (step_mv rfl rfl) trivial ?_
        first | refine rl0 (gn rfl) rfl rfl (step_nilCheck rfl (ev_mk rfl) (.inl ⟨_, _, rfl⟩)) trivial ?_ | refine rl0 (gn rfl) rfl rfl (step_nilCheck rfl (ev_mk rfl) (.inr ⟨_, rfl⟩)) trivial ?_
        first | refine rl0 (gn rfl) rfl rfl (step_fieldAddr (off := 2) rfl (ev_mk rfl) Try.underlying55 rfl F.sz3 rfl) trivial ?_ | refine rl0 (gn rfl) rfl rfl (step_fieldAddr_ro (off := 2) rfl (ev_mk rfl) Try.underlying55 rfl F.sz3 rfl rfl) trivial ?_
        first
          | (refine' rl0 (gn rfl) rfl rfl (step_load_one rfl (ev_mk rfl) F.one3 ?hv) ⟨?hb, trivial⟩ ?_; (case hb => repeat (first | exact upd_eq _ _ _ | refine (upd_ne _ _ _ _ (by omega)).trans ?_ | assumption | exact hd _ (by omega) | exact hd0 _ (by omega) | exact hd1 _ (by omega) | exact hd2 _ (by omega) | fail)); (case hv => exact rfl))
          | (refine rl0 (gn rfl) rfl rfl (step_load_ro rfl (ev_mk rfl) F.one3 rfl) trivial ?_)
        refine rl_gtr (gn rfl) rfl rfl rfl rfl rfl (fun h4 => ?_) (fun h4 => ?_)
        · skip
          rw [show (if f > 0 then f - 1 else f) = f - 1 from if_pos (by omega)]
          refine runsL_nil ?_
          refine runs_cond true (ev_mk rfl) (fun _ => ?_) (fun h_ => nomatch h_)
          refine runs_region ?_
          refine rl0 (gn rfl) rfl rfl (step_mv rfl rfl) trivial ?_
          first | refine rl0 (gn rfl) rfl rfl (step_nilCheck rfl (ev_mk rfl) (.inl ⟨_, _, rfl⟩)) trivial ?_ | refine rl0 (gn rfl) rfl rfl (step_nilCheck rfl (ev_mk rfl) (.inr ⟨_, rfl⟩)) trivial ?_
          first | refine rl0 (gn rfl) rfl rfl (step_fieldAddr (off := 2) rfl (ev_mk rfl) Try.underlying55 rfl F.sz3 rfl) trivial ?_ | refine rl0 (gn rfl) rfl rfl (step_fieldAddr_ro (off := 2) rfl (ev_mk rfl) Try.underlying55 rfl F.sz3 rfl rfl) trivial ?_
          first
            | (refine' rl0 (gn rfl) rfl rfl (step_load_one rfl (ev_mk rfl) F.one3 ?hv) ⟨?hb, trivial⟩ ?_; (case hb => repeat (first | exact upd_eq _ _ _ | refine (upd_ne _ _ _ _ (by omega)).trans ?_ | assumption | exact hd _ (by omega) | exact hd0 _ (by omega) | exact hd1 _ (by omega) | exact hd2 _ (by omega) | fail)); (case hv => exact rfl))
            | (refine rl0 (gn rfl) rfl rfl (step_load_ro rfl (ev_mk rfl) F.one3 rfl) trivial ?_)
          refine rl0 (gn rfl) rfl rfl (step_sub rfl (ev_mk rfl) (ev_mk rfl) (w64 (by omega))) trivial ?_
          first | refine rl0 (gn rfl) rfl rfl (step_nilCheck rfl (ev_mk rfl) (.inl ⟨_, _, rfl⟩)) trivial ?_ | refine rl0 (gn rfl) rfl rfl (step_nilCheck rfl (ev_mk rfl) (.inr ⟨_, rfl⟩)) trivial ?_
          first | refine rl0 (gn rfl) rfl rfl (step_fieldAddr (off := 2) rfl (ev_mk rfl) Try.underlying55 rfl F.sz3 rfl) trivial ?_ | refine rl0 (gn rfl) rfl rfl (step_fieldAddr_ro (off := 2) rfl (ev_mk rfl) Try.underlying55 rfl F.sz3 rfl rfl) trivial ?_
          refine' rls (gn rfl) rfl (step_store1 rfl rfl rfl rfl F.one3 rfl rfl ?hl ?hc) ⟨?hb, trivial⟩ ?hk ?_
          case hb => repeat (first | exact upd_eq _ _ _ | refine (upd_ne _ _ _ _ (by omega)).trans ?_ | assumption | exact hd _ (by omega) | exact hd0 _ (by omega) | exact hd1 _ (by omega) | exact hd2 _ (by omega) | fail)
          case hl => first | decide | (simp; done) | (simp; omega) | (first | (rw [List.length_map]; exact at_len64 (by assumption) (by omega) (by omega)) | (rw [List.length_map, flat_len64 _ (mixTo_row S x l kp hS hl64 j (by omega)), mixTo_len]; omega))
          case hc => first | (simp only [List.set_cons_succ, List.set_cons_zero]; rfl) | rfl
          case hk => omega
          refine runsL_nil ?_
          refine runs_seq ?_
          refine runs_region ?_
          refine rl0 (gn rfl) rfl rfl (step_mv rfl rfl) trivial ?_
          first | refine rl0 (gn rfl) rfl rfl (step_nilCheck rfl (ev_mk rfl) (.inl ⟨_, _, rfl⟩)) trivial ?_ | refine rl0 (gn rfl) rfl rfl (step_nilCheck rfl (ev_mk rfl) (.inr ⟨_, rfl⟩)) trivial ?_
          first | refine rl0 (gn rfl) rfl rfl (step_fieldAddr (off := 0) rfl (ev_mk rfl) Try.underlying55 rfl F.sz29 rfl) trivial ?_ | refine rl0 (gn rfl) rfl rfl (step_fieldAddr_ro (off := 0) rfl (ev_mk rfl) Try.underlying55 rfl F.sz29 rfl rfl) trivial ?_
          first
            | (refine' rl0 (gn rfl) rfl rfl (step_load_one rfl (ev_mk rfl) F.one29 ?hv) ⟨?hb, trivial⟩ ?_; (case hb => repeat (first | exact upd_eq _ _ _ | refine (upd_ne _ _ _ _ (by omega)).trans ?_ | assumption | exact hd _ (by omega) | exact hd0 _ (by omega) | exact hd1 _ (by omega) | exact hd2 _ (by omega) | fail)); (case hv => exact rfl))
            | (refine rl0 (gn rfl) rfl rfl (step_load_ro rfl (ev_mk rfl) F.one29 rfl) trivial ?_)
          refine rl0 (gn rfl) rfl rfl (step_mv rfl rfl) trivial ?_
          refine rl0 (gn rfl) rfl rfl (step_slice_msl rfl (ev_mk rfl) Try.underlying29 F.sz48 (bndLo_some rfl (by omega)) bndHi_none bndHi_none (fun h_ => nomatch h_) (by omega) (by omega) (by omega)) trivial ?_
          rw [if_neg (show ¬ S.length = x.toNat by omega)]
          refine rl0 (gn rfl) rfl rfl (step_mv rfl rfl) trivial ?_
          refine' rl1 (gn rfl) rfl rfl (step_copy rfl rfl Try.underlying29 F.sz48 (ev_mk rfl) (ev_mk rfl) (gives_sl (.inl rfl)) ?hmn ?hl ?hcs) ⟨?hb, trivial⟩ (by omega) ?_
          case hb => repeat (first | exact upd_eq _ _ _ | refine (upd_ne _ _ _ _ (by omega)).trans ?_ | assumption | exact hd _ (by omega) | exact hd0 _ (by omega) | exact hd1 _ (by omega) | exact hd2 _ (by omega) | fail)
          case hmn => exact Nat.min_eq_left (by simp [secsV]; omega)
          case hl => rw [List.length_map, flat_len64 S hS]; omega
          case hcs => rw [List.take_of_length_le (Nat.le_refl _), show (secsV l).flatten = l.flatten.map bV by simp [secsV, List.map_flatten], show 0 + x.toNat * 64 = x.toNat * 64 by omega, flat_seg S l _ hS hl64, mixS_all S x l f kp hf (by omega) (by omega)]
          refine runsL_nil ?_
          refine runs_seq ?_
          refine runs_region ?_
          refine rl0 (gn rfl) rfl rfl (step_mv rfl rfl) trivial ?_
          first | refine rl0 (gn rfl) rfl rfl (step_nilCheck rfl (ev_mk rfl) (.inl ⟨_, _, rfl⟩)) trivial ?_ | refine rl0 (gn rfl) rfl rfl (step_nilCheck rfl (ev_mk rfl) (.inr ⟨_, rfl⟩)) trivial ?_
          first | refine rl0 (gn rfl) rfl rfl (step_fieldAddr (off := 1) rfl (ev_mk rfl) Try.underlying55 rfl F.sz3 rfl) trivial ?_ | refine rl0 (gn rfl) rfl rfl (step_fieldAddr_ro (off := 1) rfl (ev_mk rfl) Try.underlying55 rfl F.sz3 rfl rfl) trivial ?_
          first
            | (refine' rl0 (gn rfl) rfl rfl (step_load_one rfl (ev_mk rfl) F.one3 ?hv) ⟨?hb, trivial⟩ ?_; (case hb => repeat (first | exact upd_eq _ _ _ | refine (upd_ne _ _ _ _ (by omega)).trans ?_ | assumption | exact hd _ (by omega) | exact hd0 _ (by omega) | exact hd1 _ (by omega) | exact hd2 _ (by omega) | fail)); (case hv => exact rfl))
            | (refine rl0 (gn rfl) rfl rfl (step_load_ro rfl (ev_mk rfl) F.one3 rfl) trivial ?_)
          refine rl0 (gn rfl) rfl rfl (step_add rfl (ev_mk rfl) (ev_mk rfl) (w64 (by omega))) trivial ?_
          first | refine rl0 (gn rfl) rfl rfl (step_nilCheck rfl (ev_mk rfl) (.inl ⟨_, _, rfl⟩)) trivial ?_ | refine rl0 (gn rfl) rfl rfl (step_nilCheck rfl (ev_mk rfl) (.inr ⟨_, rfl⟩)) trivial ?_
          first | refine rl0 (gn rfl) rfl rfl (step_fieldAddr (off := 1) rfl (ev_mk rfl) Try.underlying55 rfl F.sz3 rfl) trivial ?_ | refine rl0 (gn rfl) rfl rfl (step_fieldAddr_ro (off := 1) rfl (ev_mk rfl) Try.underlying55 rfl F.sz3 rfl rfl) trivial ?_
          refine' rls (gn rfl) rfl (step_store1 rfl rfl rfl rfl F.one3 rfl rfl ?hl ?hc) ⟨?hb, trivial⟩ ?hk ?_
          case hb => repeat (first | exact upd_eq _ _ _ | refine (upd_ne _ _ _ _ (by omega)).trans ?_ | assumption | exact hd _ (by omega) | exact hd0 _ (by omega) | exact hd1 _ (by omega) | exact hd2 _ (by omega) | fail)
          case hl => first | decide | (simp; done) | (simp; omega) | (first | (rw [List.length_map]; exact at_len64 (by assumption) (by omega) (by omega)) | (rw [List.length_map, flat_len64 _ (mixTo_row S x l kp hS hl64 j (by omega)), mixTo_len]; omega))
          case hc => first | (simp only [List.set_cons_succ, List.set_cons_zero]; rfl) | rfl
          case hk => omega
          refine runsL_nil ?_
          refine runs_seq ?_
          refine runs_region ?_
          refine rl0 (gn rfl) rfl rfl (step_as rfl rfl) trivial ?_
          refine runsL_nil ?_
          refine runs_ret ?_
          refine ⟨by first | exact .inr rfl | exact .inl rfl, fin_mk (rest rfl res0) ?_ ?_ ?_ ?_⟩
          · first | exact VLe.refl _ | exact VLe.own_sl _ _ _ | exact VLe.fl_sl _ _
          · repeat (first | exact trivial | assumption | omega | exact bd_bs | exact bd_row | exact bd_secs | exact bd_bools | refine ⟨?_, ?_⟩ | fail)
          · intro k hk; simp only [upds]; by_cases ek1 : k = k1; (focus subst ek1; refine bl_eq ?_; first | (refine' blec ?hb ?hl; (case hb => repeat (first | exact upd_eq _ _ _ | assumption | refine (upd_ne _ _ _ _ (by omega)).trans ?_ | fail)); (case hl => first | exact VLes.refl _ | ((repeat (first | exact .nil | refine .cons ?_ ?_ | exact VLe.refl _ | exact VLe.own_sl _ _ _ | exact VLe.nil_sl _)); done))) | (refine ble ?_; (repeat (first | exact upd_eq _ _ _ | assumption | refine (upd_ne _ _ _ _ (by omega)).trans ?_ | fail)); done)); refine bl_ne ek1 ?_; by_cases ek2 : k = k2; (focus subst ek2; refine bl_eq ?_; first | (refine' blec ?hb ?hl; (case hb => repeat (first | exact upd_eq _ _ _ | assumption | refine (upd_ne _ _ _ _ (by omega)).trans ?_ | fail)); (case hl => first | exact VLes.refl _ | ((repeat (first | exact .nil | refine .cons ?_ ?_ | exact VLe.refl _ | exact VLe.own_sl _ _ _ | exact VLe.nil_sl _)); done))) | (refine ble ?_; (repeat (first | exact upd_eq _ _ _ | assumption | refine (upd_ne _ _ _ _ (by omega)).trans ?_ | fail)); done)); refine bl_ne ek2 ?_; exact ble (by first | exact rfl | (refine (upd_ne _ _ _ _ (by omega)).trans ?_; first | exact rfl | skip; repeat (first | exact rfl | refine (upd_ne _ _ _ _ (by omega)).trans ?_ | assumption | exact hf0 _ (by omega) | exact hf1 _ (by omega) | exact hf2 _ (by omega) | exact hf0 _ (by omega) (by first | assumption | omega) | exact hf1 _ (by omega) (by first | assumption | omega))) | exact hf0 _ (by omega) | exact hf1 _ (by omega) | exact hf2 _ (by omega) | exact hf0 _ (by omega) (by first | assumption | omega) | exact hf1 _ (by omega) (by first | assumption | omega))
          · intro p hp cs hcs; simp only [List.mem_cons, List.not_mem_nil, or_false] at hp; (first | (rcases hp with rfl | rfl) | (subst hp)) <;> (cases hcs; repeat (first | exact trivial | assumption | omega | exact bd_bs | exact bd_row | exact bd_secs | exact bd_bools | refine ⟨?_, ?_⟩ | fail))
        · skip
          rw [show (if f > 0 then f - 1 else f) = f from if_neg (by omega)]
          refine runsL_nil ?_
          refine runs_cond false (ev_mk rfl) (fun h_ => nomatch h_) (fun _ => ?_)
          refine runs_skip ?_
          refine runs_seq ?_
          refine runs_region ?_
          refine rl0 (gn rfl) rfl rfl (step_mv rfl rfl) trivial ?_
          first | refine rl0 (gn rfl) rfl rfl (step_nilCheck rfl (ev_mk rfl) (.inl ⟨_, _, rfl⟩)) trivial ?_ | refine rl0 (gn rfl) rfl rfl (step_nilCheck rfl (ev_mk rfl) (.inr ⟨_, rfl⟩)) trivial ?_
          first | refine rl0 (gn rfl) rfl rfl (step_fieldAddr (off := 0) rfl (ev_mk rfl) Try.underlying55 rfl F.sz29 rfl) trivial ?_ | refine rl0 (gn rfl) rfl rfl (step_fieldAddr_ro (off := 0) rfl (ev_mk rfl) Try.underlying55 rfl F.sz29 rfl rfl) trivial ?_
          first
            | (refine' rl0 (gn rfl) rfl rfl (step_load_one rfl (ev_mk rfl) F.one29 ?hv) ⟨?hb, trivial⟩ ?_; (case hb => repeat (first | exact upd_eq _ _ _ | refine (upd_ne _ _ _ _ (by omega)).trans ?_ | assumption | exact hd _ (by omega) | exact hd0 _ (by omega) | exact hd1 _ (by omega) | exact hd2 _ (by omega) | fail)); (case hv => exact rfl))
            | (refine rl0 (gn rfl) rfl rfl (step_load_ro rfl (ev_mk rfl) F.one29 rfl) trivial ?_)
          refine rl0 (gn rfl) rfl rfl (step_mv rfl rfl) trivial ?_
          refine rl0 (gn rfl) rfl rfl (step_slice_msl rfl (ev_mk rfl) Try.underlying29 F.sz48 (bndLo_some rfl (by omega)) bndHi_none bndHi_none (fun h_ => nomatch h_) (by omega) (by omega) (by omega)) trivial ?_
          rw [if_neg (show ¬ S.length = x.toNat by omega)]
          refine rl0 (gn rfl) rfl rfl (step_mv rfl rfl) trivial ?_
          refine' rl1 (gn rfl) rfl rfl (step_copy rfl rfl Try.underlying29 F.sz48 (ev_mk rfl) (ev_mk rfl) (gives_sl (.inl rfl)) ?hmn ?hl ?hcs) ⟨?hb, trivial⟩ (by omega) ?_
          case hb => repeat (first | exact upd_eq _ _ _ | refine (upd_ne _ _ _ _ (by omega)).trans ?_ | assumption | exact hd _ (by omega) | exact hd0 _ (by omega) | exact hd1 _ (by omega) | exact hd2 _ (by omega) | fail)
          case hmn => exact Nat.min_eq_left (by simp [secsV]; omega)
          case hl => rw [List.length_map, flat_len64 S hS]; omega
          case hcs => rw [List.take_of_length_le (Nat.le_refl _), show (secsV l).flatten = l.flatten.map bV by simp [secsV, List.map_flatten], show 0 + x.toNat * 64 = x.toNat * 64 by omega, flat_seg S l _ hS hl64, mixS_all S x l f kp hf (by omega) (by omega)]
          refine runsL_nil ?_
          refine runs_seq ?_
          refine runs_region ?_
          refine rl0 (gn rfl) rfl rfl (step_mv rfl rfl) trivial ?_
          first | refine rl0 (gn rfl) rfl rfl (step_nilCheck rfl (ev_mk rfl) (.inl ⟨_, _, rfl⟩)) trivial ?_ | refine rl0 (gn rfl) rfl rfl (step_nilCheck rfl (ev_mk rfl) (.inr ⟨_, rfl⟩)) trivial ?_
          first | refine rl0 (gn rfl) rfl rfl (step_fieldAddr (off := 1) rfl (ev_mk rfl) Try.underlying55 rfl F.sz3 rfl) trivial ?_ | refine rl0 (gn rfl) rfl rfl (step_fieldAddr_ro (off := 1) rfl (ev_mk rfl) Try.underlying55 rfl F.sz3 rfl rfl) trivial ?_
          first
            | (refine' rl0 (gn rfl) rfl rfl (step_load_one rfl (ev_mk rfl) F.one3 ?hv) ⟨?hb, trivial⟩ ?_; (case hb => repeat (first | exact upd_eq _ _ _ | refine (upd_ne _ _ _ _ (by omega)).trans ?_ | assumption | exact hd _ (by omega) | exact hd0 _ (by omega) | exact hd1 _ (by omega) | exact hd2 _ (by omega) | fail)); (case hv => exact rfl))
            | (refine rl0 (gn rfl) rfl rfl (step_load_ro rfl (ev_mk rfl) F.one3 rfl) trivial ?_)
          refine rl0 (gn rfl) rfl rfl (step_add rfl (ev_mk rfl) (ev_mk rfl) (w64 (by omega))) trivial ?_
          first | refine rl0 (gn rfl) rfl rfl (step_nilCheck rfl (ev_mk rfl) (.inl ⟨_, _, rfl⟩)) trivial ?_ | refine rl0 (gn rfl) rfl rfl (step_nilCheck rfl (ev_mk rfl) (.inr ⟨_, rfl⟩)) trivial ?_
          first | refine rl0 (gn rfl) rfl rfl (step_fieldAddr (off := 1) rfl (ev_mk rfl) Try.underlying55 rfl F.sz3 rfl) trivial ?_ | refine rl0 (gn rfl) rfl rfl (step_fieldAddr_ro (off := 1) rfl (ev_mk rfl) Try.underlying55 rfl F.sz3 rfl rfl) trivial ?_
          refine' rls (gn rfl) rfl (step_store1 rfl rfl rfl rfl F.one3 rfl rfl ?hl ?hc) ⟨?hb, trivial⟩ ?hk ?_
          case hb => repeat (first | exact upd_eq _ _ _ | refine (upd_ne _ _ _ _ (by omega)).trans ?_ | assumption | exact hd _ (by omega) | exact hd0 _ (by omega) | exact hd1 _ (by omega) | exact hd2 _ (by omega) | fail)
          case hl => first | decide | (simp; done) | (simp; omega) | (first | (rw [List.length_map]; exact at_len64 (by assumption) (by omega) (by omega)) | (rw [List.length_map, flat_len64 _ (mixTo_row S x l kp hS hl64 j (by omega)), mixTo_len]; omega))
          case hc => first | (simp only [List.set_cons_succ, List.set_cons_zero]; rfl) | rfl
          case hk => omega
          refine runsL_nil ?_
          refine runs_seq ?_
          refine runs_region ?_
          refine rl0 (gn rfl) rfl rfl (step_as rfl rfl) trivial ?_
          refine runsL_nil ?_
          refine runs_ret ?_
          refine ⟨by first | exact .inr rfl | exact .inl rfl, fin_mk (rest rfl res0) ?_ ?_ ?_ ?_⟩
          · first | exact VLe.refl _ | exact VLe.own_sl _ _ _ | exact VLe.fl_sl _ _
          · repeat (first | exact trivial | assumption | omega | exact bd_bs | exact bd_row | exact bd_secs | exact bd_bools | refine ⟨?_, ?_⟩ | fail)
          · intro k hk; simp only [upds]; by_cases ek1 : k = k1; (focus subst ek1; refine bl_eq ?_; first | (refine' blec ?hb ?hl; (case hb => repeat (first | exact upd_eq _ _ _ | assumption | refine (upd_ne _ _ _ _ (by omega)).trans ?_ | fail)); (case hl => first | exact VLes.refl _ | ((repeat (first | exact .nil | refine .cons ?_ ?_ | exact VLe.refl _ | exact VLe.own_sl _ _ _ | exact VLe.nil_sl _)); done))) | (refine ble ?_; (repeat (first | exact upd_eq _ _ _ | assumption | refine (upd_ne _ _ _ _ (by omega)).trans ?_ | fail)); done)); refine bl_ne ek1 ?_; by_cases ek2 : k = k2; (focus subst ek2; refine bl_eq ?_; first | (refine' blec ?hb ?hl; (case hb => repeat (first | exact upd_eq _ _ _ | assumption | refine (upd_ne _ _ _ _ (by omega)).trans ?_ | fail)); (case hl => first | exact VLes.refl _ | ((repeat (first | exact .nil | refine .cons ?_ ?_ | exact VLe.refl _ | exact VLe.own_sl _ _ _ | exact VLe.nil_sl _)); done))) | (refine ble ?_; (repeat (first | exact upd_eq _ _ _ | assumption | refine (upd_ne _ _ _ _ (by omega)).trans ?_ | fail)); done)); refine bl_ne ek2 ?_; exact ble (by first | exact rfl | (refine (upd_ne _ _ _ _ (by omega)).trans ?_; first | exact rfl | skip; repeat (first | exact rfl | refine (upd_ne _ _ _ _ (by omega)).trans ?_ | assumption | exact hf0 _ (by omega) | exact hf1 _ (by omega) | exact hf2 _ (by omega) | exact hf0 _ (by omega) (by first | assumption | omega) | exact hf1 _ (by omega) (by first | assumption | omega))) | exact hf0 _ (by omega) | exact hf1 _ (by omega) | exact hf2 _ (by omega) | exact hf0 _ (by omega) (by first | assumption | omega) | exact hf1 _ (by omega) (by first | assumption | omega))
          · intro p hp cs hcs; simp only [List.mem_cons, List.not_mem_nil, or_false] at hp; (first | (rcases hp with rfl | rfl) | (subst hp)) <;> (cases hcs; repeat (first | exact trivial | assumption | omega | exact bd_bs | exact bd_row | exact bd_secs | exact bd_bools | refine ⟨?_, ?_⟩ | fail))
end Go.Proofs.Ytllpipiidjfhbaa
