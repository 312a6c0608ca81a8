import Derived.Test.YtdmkhpnjjpeeaaaKcQq
import Derived.Test.YtdmkhpnjjpeeaaaKcWh
import Derived.Test.YtdmkhpnjjpeeaaaKcVmT
import Derived.Test.YtdmkhpnjjpeeaaaKcVmP
import Derived.Test.YtdmkhpnjjpeeaaaKcWa
import Derived.Scope
namespace Go.Proofs.Ytdmkhpnjjpeeaaa
open Go.Vm
set_option linter.unusedVariables false
set_option linter.unusedSimpArgs false
def mixAt (S : List (List Int)) (x : Int) (l : List (List Int)) (f : Int) (kp : List Bool) (i : Nat) : List Int :=
  if x ≤ i ∧ (i : Int) - x < l.length ∧ keptB f kp ((i : Int) - x).toNat = true then at' l ((i : Int) - x) else at' S (i : Int)
def mixS (S : List (List Int)) (x : Int) (l : List (List Int)) (f : Int) (kp : List Bool) : List (List Int) := (List.range S.length).map (mixAt S x l f kp)
theorem mixAt_in {S : List (List Int)} {x : Int} {l : List (List Int)} {f : Int} {kp : List Bool} {i : Nat} (h1 : x ≤ i) (h2 : (i : Int) - x < l.length) (h3 : keptB f kp ((i : Int) - x).toNat = true) : mixAt S x l f kp i = at' l ((i : Int) - x) := if_pos ⟨h1, h2, h3⟩
theorem mixAt_o1 {S : List (List Int)} {x : Int} {l : List (List Int)} {f : Int} {kp : List Bool} {i : Nat} (h1 : ¬ x ≤ i) : mixAt S x l f kp i = at' S (i : Int) := if_neg fun h => h1 h.1
theorem mixAt_o2 {S : List (List Int)} {x : Int} {l : List (List Int)} {f : Int} {kp : List Bool} {i : Nat} (h1 : ¬ (i : Int) - x < l.length) : mixAt S x l f kp i = at' S (i : Int) := if_neg fun h => h1 h.2.1
theorem flat_drop : ∀ (S : List (List Int)) (x : Nat), (∀ r ∈ S, r.length = 64) → S.flatten.drop (x * 64) = (S.drop x).flatten := by
  intro S
  induction S with
  | nil => intro x _; simp
  | cons r S ih =>
    intro x hS
    cases x with
    | zero => simp
    | succ x =>
      have hr := hS r (List.mem_cons_self ..)
      rw [List.flatten_cons, List.drop_append, List.drop_of_length_le (by rw [hr]; omega), List.nil_append, hr, show (x + 1) * 64 - 64 = x * 64 by omega, ih x (fun r' hr' => hS r' (List.mem_cons_of_mem _ hr'))]
      rfl
theorem flat_take : ∀ (S : List (List Int)) (n : Nat), (∀ r ∈ S, r.length = 64) → S.flatten.take (n * 64) = (S.take n).flatten := by
  intro S
  induction S with
  | nil => intro x _; simp
  | cons r S ih =>
    intro n hS
    cases n with
    | zero => simp
    | succ n =>
      have hr := hS r (List.mem_cons_self ..)
      rw [List.flatten_cons, List.take_append, List.take_of_length_le (by rw [hr]; omega), hr, show (n + 1) * 64 - 64 = n * 64 by omega, ih n (fun r' hr' => hS r' (List.mem_cons_of_mem _ hr'))]
      rfl
theorem flat_seg (T M : List (List Int)) (i : Nat) (hT : ∀ r ∈ T, r.length = 64) (hM : ∀ r ∈ M, r.length = 64) : setSeg (T.flatten.map bV) (i * 64) (M.flatten.map bV) = (T.take i ++ M ++ T.drop (i + M.length)).flatten.map bV := by
  unfold setSeg
  rw [List.length_map, flat_len64 M hM, ← List.map_take, ← List.map_drop, flat_take T i hT, show i * 64 + M.length * 64 = (i + M.length) * 64 by omega, flat_drop T _ hT, List.flatten_append, List.flatten_append, List.map_append, List.map_append]
def mixTo (S : List (List Int)) (x : Int) (l : List (List Int)) (kp : List Bool) : Nat → List (List Int)
  | 0 => S
  | j + 1 => if kp.getD j false = true then (mixTo S x l kp j).set (x.toNat + j) (at' l (j : Int)) else mixTo S x l kp j
theorem mixTo_len (S : List (List Int)) (x : Int) (l : List (List Int)) (kp : List Bool) : ∀ j, (mixTo S x l kp j).length = S.length
  | 0 => rfl
  | j + 1 => by unfold mixTo; split <;> simp [mixTo_len S x l kp j]
theorem mixTo_row (S : List (List Int)) (x : Int) (l : List (List Int)) (kp : List Bool) (hS : ∀ r ∈ S, r.length = 64) (hl : ∀ r ∈ l, r.length = 64) : ∀ j, j ≤ l.length → ∀ r ∈ mixTo S x l kp j, r.length = 64
  | 0, _ => hS
  | j + 1, h => by
    unfold mixTo
    split
    · intro r hr
      rcases List.mem_or_eq_of_mem_set hr with h1 | h1
      · exact mixTo_row S x l kp hS hl j (by omega) r h1
      · rw [h1]; exact at_len64 hl (by omega) (by omega)
    · exact mixTo_row S x l kp hS hl j (by omega)
theorem mixS_all (S : List (List Int)) (x : Int) (l : List (List Int)) (f : Int) (kp : List Bool) (hf : f ≠ 0) (hx : 0 ≤ x) (h : x + l.length ≤ S.length) : S.take x.toNat ++ l ++ S.drop (x.toNat + l.length) = mixS S x l f kp := by
  apply List.ext_getElem?
  intro i
  have hk : ∀ q, keptB f kp q = true := fun q => kept_t hf
  by_cases hi : i < S.length
  · rw [mixS, List.getElem?_map, List.getElem?_range hi, Option.map_some]
    by_cases h1 : i < x.toNat
    · rw [List.append_assoc, List.getElem?_append_left t_97, List.getElem?_take_of_lt h1, mixAt_o1 (by omega), at_nat _ _ hi, List.getElem?_eq_getElem hi]
    · have hlt : (S.take x.toNat).length = x.toNat := by rw [List.length_take]; omega
      by_cases h2 : i < x.toNat + l.length
      · rw [List.getElem?_append_left (by rw [List.length_append, hlt]; omega), List.getElem?_append_right (by omega), hlt, mixAt_in (by omega) (by omega) (hk _), show (i : Int) - x = ((i - x.toNat : Nat) : Int) by omega, at_nat _ _ (by omega), List.getElem?_eq_getElem (by omega)]
      · rw [List.getElem?_append_right (by rw [List.length_append, hlt]; omega), List.length_append, hlt, mixAt_o2 (by omega), List.getElem?_drop, show x.toNat + l.length + (i - (x.toNat + l.length)) = i by omega, at_nat _ _ hi, List.getElem?_eq_getElem hi]
  · rw [List.getElem?_eq_none (by simp [List.length_take]; omega), List.getElem?_eq_none (by simp [mixS]; omega)]
theorem mixS_len (S : List (List Int)) (x : Int) (l : List (List Int)) (f : Int) (kp : List Bool) : (mixS S x l f kp).length = S.length := by simp [mixS]
theorem mixS_row (S : List (List Int)) (x : Int) (l : List (List Int)) (f : Int) (kp : List Bool) (hS : ∀ r ∈ S, r.length = 64) (hl : ∀ r ∈ l, r.length = 64) : ∀ r ∈ mixS S x l f kp, r.length = 64 := by
  intro r hr
  simp only [mixS, List.mem_map, List.mem_range] at hr
  obtain ⟨i, hi, rfl⟩ := hr
  unfold mixAt
  split
  · exact at_len64 hl (by omega) (by omega)
  · exact at_len64 hS (by omega) (by omega)
set_option maxRecDepth 100000 in
set_option maxHeartbeats 4000000 in
theorem write_ok (k1 k2 : Nat) (S : List (List Int)) (w f : Int) (kp : List Bool) (dn : Bool) (hkk : k1 ≠ k2) (hS : ∀ r ∈ S, r.length = 64) (l : List (List Int)) (hl64 : ∀ r ∈ l, r.length = 64) (x : Int) (hl : l.length ≤ 100000) (hL : S.length ≤ 100000) (hx : -9223372036854775808 ≤ x ∧ x ≤ 9223372036854775807) (hi : insideB S.length x l.length = true) (hdn : dn = false) (hf : f ≠ 0) (hw : 0 ≤ w ∧ w ≤ 1000000000000) (hff : -1 ≤ f ∧ f ≤ 9223372036854775807) : Does Try.prog 44 [.ref k1 0, .sc (.int .i64 x), .sl 64 (secsV l)] [(k1, .cells [.msl k2 0 (S).length (S).length 64, .sc (.int .i64 (w)), .sc (.int .i64 (f)), .sl 1 (boolsV (kp)), .sc (.bool (dn))]), (k2, .cells (S.flatten.map bV))] [(k2, .cells ((mixS S x l f kp).flatten.map bV)), (k1, .cells [.msl k2 0 (S).length (S).length 64, .sc (.int .i64 (w + 1)), .sc (.int .i64 (if f > 0 then f - 1 else f)), .sl 1 (boolsV (kp)), .sc (.bool (dn))])] (.sc (.int .i64 0)) := by
  refine does_mk 20 Try.func44 rfl rfl rfl (fun n B bx hd hpre hup hvs hbx => ?_);have hp0 := hpre.1;have hk0 := lt_cells hd hp0;have hp1 := hpre.2.1;have hk1 := lt_cells hd hp1;have hu0 := hup.1;have hu1 := hup.2.1;have hii := of_decide_eq_true hi;refine runs_seq ?_;refine runs_region ?_;refine rl0 (gn rfl) rfl rfl (step_as rfl rfl) trivial ?_;refine runsL_nil ?_;refine runs_seq ?_;refine runs_block ?_;refine runs_seq ?_;refine runs_region ?_;refine rl0 (gn rfl) rfl rfl (step_mv rfl rfl) trivial ?_;refine rl0 (gn rfl) rfl rfl (step_mv rfl rfl) trivial ?_;refine rl0 (gn rfl) rfl rfl (step_mv rfl rfl) trivial ?_
  first
    | refine rl0 (gn rfl) rfl rfl (step_len rfl rfl (ev_mk rfl) (.inl ⟨⟨_, Try.underlying27⟩, .inl ⟨_, _, .inl rfl, List.length_map _⟩⟩)) trivial ?_
    | refine rl0 (gn rfl) rfl rfl (step_len rfl rfl (ev_mk rfl) (.inl ⟨⟨_, Try.underlying27⟩, .inl ⟨_, _, .inl rfl, rfl⟩⟩)) trivial ?_
    | refine rl0 (gn rfl) rfl rfl (step_len rfl rfl (ev_mk rfl) (.inl ⟨⟨_, Try.underlying27⟩, .inl ⟨_, _, .inr (.inl rfl), List.length_map _⟩⟩)) trivial ?_
    | refine rl0 (gn rfl) rfl rfl (step_len rfl rfl (ev_mk rfl) (.inl ⟨⟨_, Try.underlying27⟩, .inl ⟨_, _, .inr (.inl rfl), rfl⟩⟩)) trivial ?_
    | refine rl0 (gn rfl) rfl rfl (step_len rfl rfl (ev_mk rfl) (.inl ⟨⟨_, Try.underlying27⟩, .inl ⟨_, _, .inr (.inr ⟨_, rfl⟩), List.length_map _⟩⟩)) trivial ?_
    | refine rl0 (gn rfl) rfl rfl (step_len rfl rfl (ev_mk rfl) (.inl ⟨⟨_, Try.underlying27⟩, .inl ⟨_, _, .inr (.inr ⟨_, rfl⟩), rfl⟩⟩)) trivial ?_
    | refine rl0 (gn rfl) rfl rfl (step_len rfl rfl (ev_mk rfl) (.inl ⟨⟨_, Try.underlying27⟩, .inr (.inl ⟨_, _, _, _, rfl⟩)⟩)) trivial ?_
    | refine rl0 (gn rfl) rfl rfl (step_len (m := 0) rfl rfl (ev_mk rfl) (.inl ⟨⟨_, Try.underlying27⟩, .inr (.inr ⟨_, _, rfl⟩)⟩)) trivial ?_
  refine rl0 (gn rfl) rfl rfl (step_callc rfl Try.func61 rfl rfl rfl (inside_q k1 k2 S.length _ _ _ _ x _ _ (by omega) hx (by omega) hi) t_10) ⟨t_35, trivial⟩ ?_;refine rl0 (gn rfl) rfl rfl (step_unOp rfl (ev_mk rfl) (fun _ => rfl)) trivial ?_;refine rl0 (gn rfl) rfl rfl (step_as rfl rfl) trivial ?_;refine runsL_nil ?_;refine runs_cond _ (ev_mk rfl) (fun h1 => ?_) (fun h1 => ?_)
  · skip
    exact absurd ‹_› (by simp)
  · skip
    refine runs_seq ?_;refine runs_region ?_;refine rl0 (gn rfl) rfl rfl (step_mv rfl rfl) trivial ?_
    first | refine rl0 (gn rfl) rfl rfl (step_nilCheck rfl (ev_mk rfl) (.inl ⟨_, _, rfl⟩)) trivial ?_ | refine rl0 (gn rfl) rfl rfl (step_nilCheck rfl (ev_mk rfl) (.inr ⟨_, rfl⟩)) trivial ?_
    first | refine rl0 (gn rfl) rfl rfl (step_fieldAddr (off := 4) rfl (ev_mk rfl) Try.underlying94 rfl F.sz4 rfl) trivial ?_ | refine rl0 (gn rfl) rfl rfl (step_fieldAddr_ro (off := 4) rfl (ev_mk rfl) Try.underlying94 rfl F.sz4 rfl rfl) trivial ?_
    first
      | (refine' rl0 (gn rfl) rfl rfl (step_load_one rfl (ev_mk rfl) F.one4 ?hv) ⟨?hb, trivial⟩ ?_; (case hb => repeat (first | exact upd_eq _ _ _ | refine (upd_ne _ _ _ _ (by omega)).trans ?_ | assumption | exact hd _ (by omega) | exact hd0 _ (by omega) | exact hd1 _ (by omega) | exact hd2 _ (by omega) | fail)); (case hv => exact rfl))
      | (refine rl0 (gn rfl) rfl rfl (step_load_ro rfl (ev_mk rfl) F.one4 rfl) trivial ?_)
    refine rl0 (gn rfl) rfl rfl (step_as rfl rfl) trivial ?_;refine runsL_nil ?_;refine runs_cond _ (ev_mk rfl) (fun h2 => ?_) (fun h2 => ?_)
    · skip
      exact absurd ‹_› (by simp [hdn])
    · skip
      refine runs_skip ?_;refine runs_seq ?_;refine runs_seq ?_;refine runs_region ?_;refine rl0 (gn rfl) rfl rfl (step_mv rfl rfl) trivial ?_
      first | refine rl0 (gn rfl) rfl rfl (step_nilCheck rfl (ev_mk rfl) (.inl ⟨_, _, rfl⟩)) trivial ?_ | refine rl0 (gn rfl) rfl rfl (step_nilCheck rfl (ev_mk rfl) (.inr ⟨_, rfl⟩)) trivial ?_
      first | refine rl0 (gn rfl) rfl rfl (step_fieldAddr (off := 2) rfl (ev_mk rfl) Try.underlying94 rfl F.sz3 rfl) trivial ?_ | refine rl0 (gn rfl) rfl rfl (step_fieldAddr_ro (off := 2) rfl (ev_mk rfl) Try.underlying94 rfl F.sz3 rfl rfl) trivial ?_
      first
        | (refine' rl0 (gn rfl) rfl rfl (step_load_one rfl (ev_mk rfl) F.one3 ?hv) ⟨?hb, trivial⟩ ?_; (case hb => repeat (first | exact upd_eq _ _ _ | refine (upd_ne _ _ _ _ (by omega)).trans ?_ | assumption | exact hd _ (by omega) | exact hd0 _ (by omega) | exact hd1 _ (by omega) | exact hd2 _ (by omega) | fail)); (case hv => exact rfl))
        | (refine rl0 (gn rfl) rfl rfl (step_load_ro rfl (ev_mk rfl) F.one3 rfl) trivial ?_)
      refine rl_eql (gn rfl) rfl rfl rfl rfl rfl (fun h3 => ?_) (fun h3 => ?_)
      · skip
        exact absurd (by assumption) hf
      · skip
        refine runsL_nil ?_;refine runs_cond false (ev_mk rfl) (fun h_ => nomatch h_) (fun _ => ?_);refine runs_skip ?_;refine runs_seq ?_;refine runs_seq ?_;refine runs_region ?_;refine rl0 (gn rfl) rfl rfl (step_mv rfl rfl) trivial ?_
        first | refine rl0 (gn rfl) rfl rfl (step_nilCheck rfl (ev_mk rfl) (.inl ⟨_, _, rfl⟩)) trivial ?_ | refine rl0 (gn rfl) rfl rfl (step_nilCheck rfl (ev_mk rfl) (.inr ⟨_, rfl⟩)) trivial ?_
        first | refine rl0 (gn rfl) rfl rfl (step_fieldAddr (off := 2) rfl (ev_mk rfl) Try.underlying94 rfl F.sz3 rfl) trivial ?_ | refine rl0 (gn rfl) rfl rfl (step_fieldAddr_ro (off := 2) rfl (ev_mk rfl) Try.underlying94 rfl F.sz3 rfl rfl) trivial ?_
        first
          | (refine' rl0 (gn rfl) rfl rfl (step_load_one rfl (ev_mk rfl) F.one3 ?hv) ⟨?hb, trivial⟩ ?_; (case hb => repeat (first | exact upd_eq _ _ _ | refine (upd_ne _ _ _ _ (by omega)).trans ?_ | assumption | exact hd _ (by omega) | exact hd0 _ (by omega) | exact hd1 _ (by omega) | exact hd2 _ (by omega) | fail)); (case hv => exact rfl))
          | (refine rl0 (gn rfl) rfl rfl (step_load_ro rfl (ev_mk rfl) F.one3 rfl) trivial ?_)
        refine rl_gtr (gn rfl) rfl rfl rfl rfl rfl (fun h4 => ?_) (fun h4 => ?_)
        · skip
          rw [show (if f > 0 then f - 1 else f) = f - 1 from if_pos (by omega)]
          refine runsL_nil ?_;refine runs_cond true (ev_mk rfl) (fun _ => ?_) (fun h_ => nomatch h_);refine runs_region ?_;refine rl0 (gn rfl) rfl rfl (step_mv rfl rfl) trivial ?_
          first | refine rl0 (gn rfl) rfl rfl (step_nilCheck rfl (ev_mk rfl) (.inl ⟨_, _, rfl⟩)) trivial ?_ | refine rl0 (gn rfl) rfl rfl (step_nilCheck rfl (ev_mk rfl) (.inr ⟨_, rfl⟩)) trivial ?_
          first | refine rl0 (gn rfl) rfl rfl (step_fieldAddr (off := 2) rfl (ev_mk rfl) Try.underlying94 rfl F.sz3 rfl) trivial ?_ | refine rl0 (gn rfl) rfl rfl (step_fieldAddr_ro (off := 2) rfl (ev_mk rfl) Try.underlying94 rfl F.sz3 rfl rfl) trivial ?_
          first
            | (refine' rl0 (gn rfl) rfl rfl (step_load_one rfl (ev_mk rfl) F.one3 ?hv) ⟨?hb, trivial⟩ ?_; (case hb => repeat (first | exact upd_eq _ _ _ | refine (upd_ne _ _ _ _ (by omega)).trans ?_ | assumption | exact hd _ (by omega) | exact hd0 _ (by omega) | exact hd1 _ (by omega) | exact hd2 _ (by omega) | fail)); (case hv => exact rfl))
            | (refine rl0 (gn rfl) rfl rfl (step_load_ro rfl (ev_mk rfl) F.one3 rfl) trivial ?_)
          refine rl0 (gn rfl) rfl rfl (step_sub rfl (ev_mk rfl) (ev_mk rfl) (w64 (by omega))) trivial ?_
          first | refine rl0 (gn rfl) rfl rfl (step_nilCheck rfl (ev_mk rfl) (.inl ⟨_, _, rfl⟩)) trivial ?_ | refine rl0 (gn rfl) rfl rfl (step_nilCheck rfl (ev_mk rfl) (.inr ⟨_, rfl⟩)) trivial ?_
          first | refine rl0 (gn rfl) rfl rfl (step_fieldAddr (off := 2) rfl (ev_mk rfl) Try.underlying94 rfl F.sz3 rfl) trivial ?_ | refine rl0 (gn rfl) rfl rfl (step_fieldAddr_ro (off := 2) rfl (ev_mk rfl) Try.underlying94 rfl F.sz3 rfl rfl) trivial ?_
          refine' rls (gn rfl) rfl (step_store1 rfl rfl rfl rfl F.one3 rfl rfl ?hl ?hc) ⟨?hb, trivial⟩ ?hk ?_
          case hb => exact t_35
          case hl => exact t_77
          case hc => exact t_28
          case hk => omega
          refine runsL_nil ?_;refine runs_seq ?_;refine runs_region ?_;refine rl0 (gn rfl) rfl rfl (step_mv rfl rfl) trivial ?_
          first | refine rl0 (gn rfl) rfl rfl (step_nilCheck rfl (ev_mk rfl) (.inl ⟨_, _, rfl⟩)) trivial ?_ | refine rl0 (gn rfl) rfl rfl (step_nilCheck rfl (ev_mk rfl) (.inr ⟨_, rfl⟩)) trivial ?_
          first | refine rl0 (gn rfl) rfl rfl (step_fieldAddr (off := 0) rfl (ev_mk rfl) Try.underlying94 rfl F.sz27 rfl) trivial ?_ | refine rl0 (gn rfl) rfl rfl (step_fieldAddr_ro (off := 0) rfl (ev_mk rfl) Try.underlying94 rfl F.sz27 rfl rfl) trivial ?_
          first
            | (refine' rl0 (gn rfl) rfl rfl (step_load_one rfl (ev_mk rfl) F.one27 ?hv) ⟨?hb, trivial⟩ ?_; (case hb => repeat (first | exact upd_eq _ _ _ | refine (upd_ne _ _ _ _ (by omega)).trans ?_ | assumption | exact hd _ (by omega) | exact hd0 _ (by omega) | exact hd1 _ (by omega) | exact hd2 _ (by omega) | fail)); (case hv => exact rfl))
            | (refine rl0 (gn rfl) rfl rfl (step_load_ro rfl (ev_mk rfl) F.one27 rfl) trivial ?_)
          refine rl0 (gn rfl) rfl rfl (step_mv rfl rfl) trivial ?_;refine rl0 (gn rfl) rfl rfl (step_slice_msl rfl (ev_mk rfl) Try.underlying27 F.sz47 (bndLo_some rfl (by omega)) bndHi_none bndHi_none (fun h_ => nomatch h_) (by omega) (by omega) (by omega)) trivial ?_;rw [if_neg (show ¬ S.length = x.toNat by omega)];refine rl0 (gn rfl) rfl rfl (step_mv rfl rfl) trivial ?_;refine' rl1 (gn rfl) rfl rfl (step_copy rfl rfl Try.underlying27 F.sz47 (ev_mk rfl) (ev_mk rfl) (gives_sl (.inl rfl)) ?hmn ?hl ?hcs) ⟨?hb, trivial⟩ (by omega) ?_
          case hb => exact t_35
          case hmn => exact Nat.min_eq_left (by simp [secsV]; omega)
          case hl => rw [List.length_map, flat_len64 S hS]; omega
          case hcs => exact t_107
          refine runsL_nil ?_;refine runs_seq ?_;refine runs_region ?_;refine rl0 (gn rfl) rfl rfl (step_mv rfl rfl) trivial ?_
          first | refine rl0 (gn rfl) rfl rfl (step_nilCheck rfl (ev_mk rfl) (.inl ⟨_, _, rfl⟩)) trivial ?_ | refine rl0 (gn rfl) rfl rfl (step_nilCheck rfl (ev_mk rfl) (.inr ⟨_, rfl⟩)) trivial ?_
          first | refine rl0 (gn rfl) rfl rfl (step_fieldAddr (off := 1) rfl (ev_mk rfl) Try.underlying94 rfl F.sz3 rfl) trivial ?_ | refine rl0 (gn rfl) rfl rfl (step_fieldAddr_ro (off := 1) rfl (ev_mk rfl) Try.underlying94 rfl F.sz3 rfl rfl) trivial ?_
          first
            | (refine' rl0 (gn rfl) rfl rfl (step_load_one rfl (ev_mk rfl) F.one3 ?hv) ⟨?hb, trivial⟩ ?_; (case hb => repeat (first | exact upd_eq _ _ _ | refine (upd_ne _ _ _ _ (by omega)).trans ?_ | assumption | exact hd _ (by omega) | exact hd0 _ (by omega) | exact hd1 _ (by omega) | exact hd2 _ (by omega) | fail)); (case hv => exact rfl))
            | (refine rl0 (gn rfl) rfl rfl (step_load_ro rfl (ev_mk rfl) F.one3 rfl) trivial ?_)
          refine rl0 (gn rfl) rfl rfl (step_add rfl (ev_mk rfl) (ev_mk rfl) (w64 (by omega))) trivial ?_
          first | refine rl0 (gn rfl) rfl rfl (step_nilCheck rfl (ev_mk rfl) (.inl ⟨_, _, rfl⟩)) trivial ?_ | refine rl0 (gn rfl) rfl rfl (step_nilCheck rfl (ev_mk rfl) (.inr ⟨_, rfl⟩)) trivial ?_
          first | refine rl0 (gn rfl) rfl rfl (step_fieldAddr (off := 1) rfl (ev_mk rfl) Try.underlying94 rfl F.sz3 rfl) trivial ?_ | refine rl0 (gn rfl) rfl rfl (step_fieldAddr_ro (off := 1) rfl (ev_mk rfl) Try.underlying94 rfl F.sz3 rfl rfl) trivial ?_
          refine' rls (gn rfl) rfl (step_store1 rfl rfl rfl rfl F.one3 rfl rfl ?hl ?hc) ⟨?hb, trivial⟩ ?hk ?_
          case hb => exact t_35
          case hl => exact t_77
          case hc => exact t_28
          case hk => omega
          refine runsL_nil ?_;refine runs_seq ?_;refine runs_region ?_;refine rl0 (gn rfl) rfl rfl (step_as rfl rfl) trivial ?_;refine runsL_nil ?_;refine runs_ret ?_;refine ⟨t_17, fin_mk (rest rfl res0) ?_ ?_ ?_ ?_⟩
          · exact t_163
          · exact t_40
          · exact t_141
          · exact t_148
        · skip
          rw [show (if f > 0 then f - 1 else f) = f from if_neg (by omega)]
          refine runsL_nil ?_;refine runs_cond false (ev_mk rfl) (fun h_ => nomatch h_) (fun _ => ?_);refine runs_skip ?_;refine runs_seq ?_;refine runs_region ?_;refine rl0 (gn rfl) rfl rfl (step_mv rfl rfl) trivial ?_
          first | refine rl0 (gn rfl) rfl rfl (step_nilCheck rfl (ev_mk rfl) (.inl ⟨_, _, rfl⟩)) trivial ?_ | refine rl0 (gn rfl) rfl rfl (step_nilCheck rfl (ev_mk rfl) (.inr ⟨_, rfl⟩)) trivial ?_
          first | refine rl0 (gn rfl) rfl rfl (step_fieldAddr (off := 0) rfl (ev_mk rfl) Try.underlying94 rfl F.sz27 rfl) trivial ?_ | refine rl0 (gn rfl) rfl rfl (step_fieldAddr_ro (off := 0) rfl (ev_mk rfl) Try.underlying94 rfl F.sz27 rfl rfl) trivial ?_
          first
            | (refine' rl0 (gn rfl) rfl rfl (step_load_one rfl (ev_mk rfl) F.one27 ?hv) ⟨?hb, trivial⟩ ?_; (case hb => repeat (first | exact upd_eq _ _ _ | refine (upd_ne _ _ _ _ (by omega)).trans ?_ | assumption | exact hd _ (by omega) | exact hd0 _ (by omega) | exact hd1 _ (by omega) | exact hd2 _ (by omega) | fail)); (case hv => exact rfl))
            | (refine rl0 (gn rfl) rfl rfl (step_load_ro rfl (ev_mk rfl) F.one27 rfl) trivial ?_)
          refine rl0 (gn rfl) rfl rfl (step_mv rfl rfl) trivial ?_;refine rl0 (gn rfl) rfl rfl (step_slice_msl rfl (ev_mk rfl) Try.underlying27 F.sz47 (bndLo_some rfl (by omega)) bndHi_none bndHi_none (fun h_ => nomatch h_) (by omega) (by omega) (by omega)) trivial ?_;rw [if_neg (show ¬ S.length = x.toNat by omega)];refine rl0 (gn rfl) rfl rfl (step_mv rfl rfl) trivial ?_;refine' rl1 (gn rfl) rfl rfl (step_copy rfl rfl Try.underlying27 F.sz47 (ev_mk rfl) (ev_mk rfl) (gives_sl (.inl rfl)) ?hmn ?hl ?hcs) ⟨?hb, trivial⟩ (by omega) ?_
          case hb => exact t_35
          case hmn => exact Nat.min_eq_left (by simp [secsV]; omega)
          case hl => rw [List.length_map, flat_len64 S hS]; omega
          case hcs => exact t_107
          refine runsL_nil ?_;refine runs_seq ?_;refine runs_region ?_;refine rl0 (gn rfl) rfl rfl (step_mv rfl rfl) trivial ?_
          first | refine rl0 (gn rfl) rfl rfl (step_nilCheck rfl (ev_mk rfl) (.inl ⟨_, _, rfl⟩)) trivial ?_ | refine rl0 (gn rfl) rfl rfl (step_nilCheck rfl (ev_mk rfl) (.inr ⟨_, rfl⟩)) trivial ?_
          first | refine rl0 (gn rfl) rfl rfl (step_fieldAddr (off := 1) rfl (ev_mk rfl) Try.underlying94 rfl F.sz3 rfl) trivial ?_ | refine rl0 (gn rfl) rfl rfl (step_fieldAddr_ro (off := 1) rfl (ev_mk rfl) Try.underlying94 rfl F.sz3 rfl rfl) trivial ?_
          first
            | (refine' rl0 (gn rfl) rfl rfl (step_load_one rfl (ev_mk rfl) F.one3 ?hv) ⟨?hb, trivial⟩ ?_; (case hb => repeat (first | exact upd_eq _ _ _ | refine (upd_ne _ _ _ _ (by omega)).trans ?_ | assumption | exact hd _ (by omega) | exact hd0 _ (by omega) | exact hd1 _ (by omega) | exact hd2 _ (by omega) | fail)); (case hv => exact rfl))
            | (refine rl0 (gn rfl) rfl rfl (step_load_ro rfl (ev_mk rfl) F.one3 rfl) trivial ?_)
          refine rl0 (gn rfl) rfl rfl (step_add rfl (ev_mk rfl) (ev_mk rfl) (w64 (by omega))) trivial ?_
          first | refine rl0 (gn rfl) rfl rfl (step_nilCheck rfl (ev_mk rfl) (.inl ⟨_, _, rfl⟩)) trivial ?_ | refine rl0 (gn rfl) rfl rfl (step_nilCheck rfl (ev_mk rfl) (.inr ⟨_, rfl⟩)) trivial ?_
          first | refine rl0 (gn rfl) rfl rfl (step_fieldAddr (off := 1) rfl (ev_mk rfl) Try.underlying94 rfl F.sz3 rfl) trivial ?_ | refine rl0 (gn rfl) rfl rfl (step_fieldAddr_ro (off := 1) rfl (ev_mk rfl) Try.underlying94 rfl F.sz3 rfl rfl) trivial ?_
          refine' rls (gn rfl) rfl (step_store1 rfl rfl rfl rfl F.one3 rfl rfl ?hl ?hc) ⟨?hb, trivial⟩ ?hk ?_
          case hb => exact t_35
          case hl => exact t_77
          case hc => exact t_28
          case hk => omega
          refine runsL_nil ?_;refine runs_seq ?_;refine runs_region ?_;refine rl0 (gn rfl) rfl rfl (step_as rfl rfl) trivial ?_;refine runsL_nil ?_;refine runs_ret ?_;refine ⟨t_17, fin_mk (rest rfl res0) ?_ ?_ ?_ ?_⟩
          · exact t_163
          · exact t_40
          · exact t_141
          · exact t_148
end Go.Proofs.Ytdmkhpnjjpeeaaa
set_option linter.unusedVariables false
set_option linter.unusedSimpArgs false
namespace Go.Vm
theorem stepR_scope {P : Program} {b : Frame} {a : Act} {k : List Item} {cs : List Frame} {w : World} {c : Code} : step P (lone (b.atR a (.code (.scope c) :: k)) cs w) = .next (lone (b.atR a (.code c :: .inScope c :: k)) cs w) :=
  step_lone_go (by simp [stepG, stepG.exec, Frame.atR])
theorem stepR_inScope {P : Program} {b : Frame} {a : Act} {k : List Item} {cs : List Frame} {w : World} {c : Code} : step P (lone (b.atR a (.inScope c :: k)) cs w) = .next (lone (b.atR a k) cs w) :=
  step_lone_go (by simp [stepG, stepG.exec, Frame.atR])
theorem wpIn_scope {F : Fence} {n : Nat} {P : Program} {Q : Exit → Act → World → Prop} {a : Act} {w : World} {c : Code} (h : c.wpIn F n P (Exit.noGoto Q) a w) : (Code.scope c).wpIn F n P Q a w := by
  intro b k cs hro hb hr
  have h0 : (lone (b.atR a (.code (.scope c) :: k)) cs w).fenced P F := fenced_calm hb hr rfl
  obtain ⟨e, a₁, w₁, hq, harr⟩ := h b (.inScope c :: k) cs hro hb hr
  cases e with
  | normal => exact ⟨.normal, a₁, w₁, hq, .head h0 stepR_scope (StepsIn.trans harr (.one (fenced_calm hb hr rfl) stepR_inScope))⟩
  | exit id' =>
    have hx : exitTo id' (.inScope c :: k) = exitTo id' k := by simp [exitTo]
    exact ⟨.exit id', a₁, w₁, hq, fun k' hk => .head h0 stepR_scope (harr.1 k' (by rw [hx]; exact hk)),
      fun hr' hk => let ⟨k₁, h1, h2⟩ := harr.2 hr' (by rw [hx]; exact hk); ⟨k₁, h1, .head h0 stepR_scope h2⟩⟩
  | goto l => exact hq.elim
  | ret => exact ⟨_, a₁, w₁, hq, .of_steps (.one h0 stepR_scope) harr⟩
  | panic ch => exact ⟨_, a₁, w₁, hq, .of_steps (.one h0 stepR_scope) harr⟩
  | outgrown => exact ⟨_, a₁, w₁, hq, .of_steps (.one h0 stepR_scope) harr⟩
def noGotoS (Q : Exit → S → Prop) : Exit → S → Prop
  | .goto _, _ => False
  | e, s => Q e s
section
variable {P : Program} {B : Bas} {N : Nat} {s : S} {Q : Exit → S → Prop}
theorem runs_label {l : Nat} (h : Q .normal s) : Runs P B N (.label l) s Q := fun X a hs => wpIn_label (.inl ⟨s, X, h, rfl, hs⟩)
theorem runs_scope {c : Code} (h : Runs P B N c s (noGotoS Q)) : Runs P B N (.scope c) s Q := by
  intro X a hs
  refine wpIn_scope (wpIn_mono (h X a hs) ?_)
  rintro e a' w' (⟨s', X', h1, rfl, h3⟩ | ⟨rfl, hE⟩)
  · cases e with
    | goto l => exact h1.elim
    | _ => exact .inl ⟨s', X', h1, rfl, h3⟩
  · exact .inr ⟨rfl, hE⟩
end
end Go.Vm
