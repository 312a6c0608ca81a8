/- The functions that the laws of this seat reach, as plain functions with proofs that the calls answer just so (written by a program of this session on the kit's print). -/
import Derived.Test.YtmmeioifbiakjaaPAllx0
import Derived.Test.YtmmeioifbiakjaaPAllx11
namespace Go.Proofs.Ytmmeioifbiakjaa.PAll
open Go.RowKit Go.Proofs.YtmmeioifbiakjaaW.PrintWords Go.Proofs.YtmmeioifbiakjaaW.PrintLast Go.Proofs.YtmmeioifbiakjaaW.PrintMore
attribute [local go_sem] max2_int min2_int max_two min_two max_three min_three max_four min_four   -- for this text's walks alone
set_option linter.unusedVariables false
set_option linter.unusedSimpArgs false

/-! ### counterpanelaw01_WordStops: function 5 -/
-- GIVEN rounds=0 making=1

instance (xs : List Int) : Decidable (Bytes xs) := inferInstanceAs (Decidable (∀ x ∈ xs, 0 ≤ x ∧ x < 256))
theorem takeF_bad (xs : List Int) (n : Int) : takeF xs true n = ([], xs, true) := by unfold takeF; rw [if_pos (.inl rfl)]
theorem textF_bad (xs : List Int) (n : Int) : textF xs true n = ([], xs, true) := by unfold textF; rw [takeF_bad, textG_bad]
def counterpanelaw01_WordStops.f (l0 : List Int) (a1 : Int) (l2 : List Int) : Option Bool := if Bytes l0 then some true else none
set_option maxHeartbeats 4000000 in
set_option maxRecDepth 100000 in
theorem counterpanelaw01_WordStops.calls (A0 : Option Addr) (c0 : Nat) (l0 : List Int) (a1 : Int) (A2 : Option Addr) (c2 : Nat) (l2 : List Int) (r : Bool) (w : World) (hr0 : Kd.C (Kd.int .u8) w A0 l0.length l0) (hc0 : l0.length ≤ c0) (hr2 : Kd.C (Kd.int .u8) w A2 l2.length l2) (hc2 : l2.length ≤ c2) (h : counterpanelaw01_WordStops.f l0 a1 l2 = some r) :
    Calls Try.prog 5 #[.slice A0 l0.length c0, .int .i64 a1, .slice A2 l2.length c2] w fun e w' => e = .returned (.bool r) ∧ Below w.heap.size w w' := by
  unfold counterpanelaw01_WordStops.f at h
  split at h
  case isFalse => cases h
  case isTrue hx =>
  obtain rfl := Option.some.inj h
  clear h
  have HR0 := Aside0.mk hr0
  have HR2 := Aside0.mk hr2
  have HX := Aside0.mk hx
  clear hr0 hr2 hx
  have works := fun W => counterpanelaw01_works.calls0 W
  by_cases c1 : l0.length > 300 ∨ l2.length > 30 ∨ (0 ≤ a1 ∧ a1 ≤ l0.length)
  · have d1 : (decide ((300 : Int) < (l0.length : Int)) || (decide ((30 : Int) < (l2.length : Int)) || (decide (0 ≤ a1) && decide (a1 ≤ (l0.length : Int))))) = true := by
      simp only [Bool.or_eq_true, Bool.and_eq_true, decide_eq_true_eq]
      omega
    go_enter Try.func5, Try.ntmps5
    by_cases q1 : (300 : Int) < (l0.length : Int)
    · go_wp2_with (go_at_call 6; refine (counterpanelaw01_works.calls0 _).mono ?_; rintro e w1 ⟨rfl, hb⟩)
      go_ret
      exact ⟨rfl, hb⟩
    · by_cases q2 : (30 : Int) < (l2.length : Int)
      · go_wp2_with (go_at_call 6; refine (counterpanelaw01_works.calls0 _).mono ?_; rintro e w1 ⟨rfl, hb⟩)
        go_ret
        exact ⟨rfl, hb⟩
      · have q3 : 0 ≤ a1 := by omega
        have q4 : a1 ≤ (l0.length : Int) := by omega
        go_wp2_with (go_at_call 6; refine (counterpanelaw01_works.calls0 _).mono ?_; rintro e w1 ⟨rfl, hb⟩)
        go_ret
        exact ⟨rfl, hb⟩
  · have q1 : ¬ (300 : Int) < (l0.length : Int) := by omega
    have q2 : ¬ (30 : Int) < (l2.length : Int) := by omega
    have ht : takeF l0 false a1 = ([], l0, true) := by unfold takeF; rw [if_pos (by right; omega)]
    have q3 : decide (0 ≤ a1) = false ∨ decide (a1 ≤ (l0.length : Int)) = false := by
      simp only [decide_eq_false_iff_not]; omega
    have hlen : l0.length < 140737488355328 := by omega
    have hlen2 : l2.length < 100 := by omega
    go_enter Try.func5, Try.ntmps5
    have q5 : 0 ≤ a1 → ¬ a1 ≤ (l0.length : Int) := by omega
    clear q3 c1
    by_cases q3 : 0 ≤ a1
    case' pos => have q4 : ¬ a1 ≤ (l0.length : Int) := q5 q3
    all_goals
      clear q5
      go_wp2_with fail
      refine (read_c A0 c0 l0 w HR0.out hc0 hlen).mono ?_
      rintro e w1 ⟨g, rfl, hg, hR1, hb1⟩
      replace hR1 := Aside0.mk hR1
      go_wp2_with fail
      refine (take_c g _ _ a1 w _ hR1.out hb1 hg).mono ?_
      rintro e w2 ⟨A2', c2', rfl, hc2', hC2', hf2', hp2⟩
      rw [ht] at hp2 hc2' ⊢
      replace hp2 : Aside0 (RdPost w w1 g l0 true w2) := ⟨hp2⟩
      go_wp2_with fail
      refine (right_c g _ _ w _ hp2.out.1 hp2.out.2.1).mono ?_
      rintro e w3 ⟨rfl, hp3⟩
      replace hp3 := Aside0.mk hp3
      go_wp2_with fail
      go_loopg [8] (l2.length) (fun kq v8 w' => ∃ (i : Nat), v8 = .int .i64 (i : Int) ∧ Aside0 (kq + i = l2.length) ∧ Aside0 (∃ w9, RdPost w w9 g l0 true w'))
      case atStart => exact ⟨0, rfl, ⟨by omega⟩, ⟨_, hp3.out⟩⟩
      case round =>
        obtain ⟨i, rfl, HK1, HP⟩ := hrel
        by_cases hi : i < l2.length
        · obtain ⟨k1, rfl⟩ : ∃ k1, gk = k1 + 1 := ⟨gk - 1, by have := HK1.out; omega⟩
          have p1 := eq_true (show (i : Int) < (l2.length : Int) by omega)
          have p1' := eq_true hi
          have p2 := eq_true (show 0 ≤ (i : Int) by omega)
          obtain ⟨ad5, e, hx⟩ := Kd.at_int HR2.out (i : Int) (by omega) (by omega)
          cases e
          obtain ⟨w9, hP⟩ := HP.out
          replace hx := pw_cell_below hP.2.1 hx
          simp only [Int.toNat_natCast] at hx
          generalize rd l2 (i : Int) = z at hx
          have hl0 : l0.length ≤ 9223372036854775806 := by omega
          have HL0 := Aside0.mk hl0
          clear hl0
          go_wp2_with fail
          refine (num_c g _ _ _ w _ hP.1 hP.2.1 hg HL0.out).mono ?_
          rintro e w5 ⟨rfl, hp5⟩
          rw [takeF_bad] at hp5 ⊢
          have e5 : getN (([], l0, true) : List Int × List Int × Bool).1 = 0 := rfl
          rw [e5]
          replace hp5 : Aside0 (RdPost w wr g l0 true w5) := ⟨hp5⟩
          go_wp2_with fail
          refine (text_c g _ _ _ w _ hp5.out.1 hp5.out.2.1 hg HL0.out HX.out).mono ?_
          rintro e w6 ⟨rfl, hp6⟩
          rw [textF_bad] at hp6 ⊢
          have e6 : strOfNums (([], l0, true) : List Int × List Int × Bool).1 = ⟨#[]⟩ := rfl
          rw [e6]
          replace hp6 : Aside0 (RdPost w w5 g l0 true w6) := ⟨hp6⟩
          go_wp2_with fail
          refine (take_c g _ _ _ w _ hp6.out.1 hp6.out.2.1 hg).mono ?_
          rintro e w7 ⟨A7, c7, rfl, hc7, hC7, hf7, hp7⟩
          rw [takeF_bad] at hp7 hc7 ⊢
          replace hp7 : Aside0 (RdPost w w6 g l0 true w7) := ⟨hp7⟩
          go_wp2_with fail
          refine (right_c g _ _ w _ hp7.out.1 hp7.out.2.1).mono ?_
          rintro e w8 ⟨rfl, hp8⟩
          replace hp8 := Aside0.mk hp8
          go_wp2_with fail
          refine (noughts_c g _ _ w _ hp8.out.1 hp8.out.2.1).mono ?_
          rintro e w10 ⟨rfl, hp10⟩
          replace hp10 := Aside0.mk hp10
          have e10 : (noughts l0 && !true) = false := by simp
          rw [e10]
          go_wp2_with fail
          refine (left_c g _ _ w _ hp10.out.1 hp10.out.2.1).mono ?_
          rintro e w11 ⟨rfl, hp11⟩
          replace hp11 := Aside0.mk hp11
          have hlt : i < 100 := by omega
          clear p1'
          go_wp2_with fail
          go_roundg k1
          case measure => exact Nat.lt_succ_self _
          case rel => exact ⟨i + 1, by first | rfl | (congr 1; unfold wrap64; omega), ⟨by have := HK1.out; omega⟩, ⟨_, hp11.out⟩⟩
        · have p1 := eq_false (show ¬ (i : Int) < (l2.length : Int) by omega)
          have p1' := eq_false hi
          obtain ⟨w9, hP⟩ := HP.out
          replace hP := Aside0.mk hP.2.1
          go_wp2_with (go_at_call 6; refine (counterpanelaw01_works.calls0 _).mono ?_; rintro e w4 ⟨rfl, hb⟩)
          go_ret
          exact ⟨rfl, below_step hP.out hb⟩

/-- THE ONE PURE STATEMENT of counterpanelaw01_WordStops: yours. -/
def counterpanelaw01_WordStops.Pure : Prop := ∀ (l0 : List Int) (a1 : Int) (l2 : List Int), l0.length ≤ maxLen → l0.length * 1 ≤ 140737488351232 → (∀ x ∈ l0, (Lit.int .u8 x).wf = true) → (Lit.int .i64 a1).wf = true → l2.length ≤ maxLen → l2.length * 1 ≤ 140737488351232 → (∀ x ∈ l2, (Lit.int .u8 x).wf = true) → counterpanelaw01_WordStops.f l0 a1 l2 = some true
theorem counterpanelaw01_WordStops.walk (P : counterpanelaw01_WordStops.Pure) (a0 : Option Addr) (len0 cap0 : Nat) (z0 : List Int) (a1 : Int) (a2 : Option Addr) (len2 cap2 : Nat) (z2 : List Int) (w : World) (w0 : (a0 = none ∧ len0 = 0 ∧ cap0 = 0 ∧ z0 = []) ∨ ∃ x, a0 = some x ∧ len0 ≤ cap0 ∧ cap0 ≤ maxLen ∧ z0.length = cap0 ∧ (∀ i, i < z0.length → w.cell? (x.add i) = some (.int .u8 (z0.getD i 0))) ∧ ∀ n ∈ z0, (Lit.int .u8 n).wf = true) (y0 : len0 * 1 ≤ 140737488351232) (w1 : (Lit.int .i64 a1).wf = true) (w2 : (a2 = none ∧ len2 = 0 ∧ cap2 = 0 ∧ z2 = []) ∨ ∃ x, a2 = some x ∧ len2 ≤ cap2 ∧ cap2 ≤ maxLen ∧ z2.length = cap2 ∧ (∀ i, i < z2.length → w.cell? (x.add i) = some (.int .u8 (z2.getD i 0))) ∧ ∀ n ∈ z2, (Lit.int .u8 n).wf = true) (y2 : len2 * 1 ≤ 140737488351232) :
    Calls Try.prog 5 #[.slice a0 len0 cap0, .int .i64 a1, .slice a2 len2 cap2] w fun e w' => e = .returned (.bool true) ∧ Below w.heap.size w w' := by
  obtain ⟨l0, rfl, hr0, hm0, hw0, hc0⟩ := ReadsInt.ofRowC w0
  obtain ⟨l2, rfl, hr2, hm2, hw2, hc2⟩ := ReadsInt.ofRowC w2
  have h := P l0 a1 l2 hm0 y0 hw0 w1 hm2 y2 hw2
  refine (counterpanelaw01_WordStops.calls _ _ l0 a1 _ _ l2 true w (Kd.C_of_reads (d := (0 : Int)) (h1 := fun _ => rfl) hr0) hc0 (Kd.C_of_reads (d := (0 : Int)) (h1 := fun _ => rfl) hr2) hc2 h).mono ?_
  rintro e w' ⟨rfl, hd⟩
  exact ⟨rfl, hd⟩

end Go.Proofs.Ytmmeioifbiakjaa.PAll
