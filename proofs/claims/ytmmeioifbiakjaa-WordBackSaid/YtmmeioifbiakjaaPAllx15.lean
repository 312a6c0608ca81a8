/- The functions that the laws of this seat reach, as plain functions with proofs that the calls answer just so (written by a program of this session on the kit's print). -/
import Derived.Test.YtmmeioifbiakjaaPAllx0
import Derived.Test.YtmmeioifbiakjaaPAllx1
import Derived.Test.YtmmeioifbiakjaaPAllx11
import Derived.Test.YtmmeioifbiakjaaPAllx12
import Derived.Test.YtmmeioifbiakjaaPAllx13
import Derived.Test.YtmmeioifbiakjaaPAllx14
import Derived.Test.YtmmeioifbiakjaaPAllx20
namespace Go.Proofs.Ytmmeioifbiakjaa.PAll
open Go.RowKit Go.Proofs.YtmmeioifbiakjaaW.PrintWords Go.Proofs.YtmmeioifbiakjaaW.PrintLast Go.Proofs.YtmmeioifbiakjaaW.PrintMore
attribute [local go_sem] max2_int min2_int max_two min_two max_three min_three max_four min_four   -- for this text's walks alone
set_option linter.unusedVariables false
set_option linter.unusedSimpArgs false

/-! ### counterpanelaw01_WordTexts: function 3 -/
-- GIVEN rounds=0 making=1
-- uses takeF_bad of counterpanelaw01_WordStops.f

/-- A text in a field of n bytes, and the code. -/
def fieldOf (s : ByteArray) (n : Int) : List Int := [(s.size : Int)] ++ bytesOf s ++ List.replicate (n.toNat - 1 - s.size) 0
def textC (s : ByteArray) (n : Int) : Int := if n < 1 ∨ n > 256 then 2 else if (s.size : Int) ≥ n then 9 else 0
theorem textC_2 {s : ByteArray} {n : Int} (h : n < 1 ∨ n > 256) : textC s n = 2 := by unfold textC; rw [if_pos h]
theorem textC_9 {s : ByteArray} {n : Int} (h : ¬ (n < 1 ∨ n > 256)) (h2 : (s.size : Int) ≥ n) : textC s n = 9 := by unfold textC; rw [if_neg h, if_pos h2]
theorem textC_0 {s : ByteArray} {n : Int} (h : ¬ (n < 1 ∨ n > 256)) (h2 : ¬ (s.size : Int) ≥ n) : textC s n = 0 := by unfold textC; rw [if_neg h, if_neg h2]
theorem word_text_f (k : Nat) (l0 : List Int) (s : ByteArray) (n : Int) (hl : l0.length < 1000000000) (hs : s.size < 1000000000) (hn : -9223372036854775808 ≤ n ∧ n ≤ 9223372036854775807) :
    word_Text.f (k + 1) l0 s n = some (if textC s n = 0 then l0 ++ fieldOf s n else [], textC s n) := by
  unfold word_Text.f
  by_cases h1 : n < 1
  · rw [if_pos h1, textC_2 (.inl h1)]; rw [word_Text.j0]; rfl
  · by_cases h2 : n > 256
    · rw [if_neg h1, textC_2 (.inr h2)]; rw [word_Text.j0]; simp [h2]
    · have e1 : wrap64 (wrap64 (n - 1) - (s.size : Int)) = n - 1 - s.size := by unfold wrap64; omega
      have h12 : ¬ (n < 1 ∨ n > 256) := by omega
      rw [if_neg h1]
      rw [word_Text.j0]
      rw [if_neg (by simpa using h2)]
      by_cases h3 : (s.size : Int) ≥ n
      · rw [if_pos h3, textC_9 h12 h3]; rfl
      · rw [if_neg h3, textC_0 h12 h3]
        have e2 : (s.size : Int) % 256 = s.size := by omega
        have e3 : (n - 1 - (s.size : Int)).toNat = n.toNat - 1 - s.size := by omega
        have e4 : n.toNat ≤ 256 := by omega
        simp only [Option.bind_some, e1, e2, e3, List.nil_append, List.length_nil, List.length_append, List.length_singleton, bytesOf_length]
        rw [if_pos (by omega), if_pos (by omega), if_pos (by omega), if_pos (by omega), if_pos (by omega)]
        simp [fieldOf]
theorem ref_l0 (n : Int) (hn : n ≤ 256) : ∀ (m : Nat) (xs : List Int), (xs.length : Int) + m = max n xs.length → counterpaneref01_Text.l0 (m + 1) n xs = some (xs ++ List.replicate m 0, 0)
  | 0, xs, h => by
    unfold counterpaneref01_Text.l0
    rw [if_neg (by omega)]
    simp
  | m + 1, xs, h => by
    unfold counterpaneref01_Text.l0
    rw [if_pos (by omega), if_pos (by omega), ref_l0 n hn m (xs ++ [0]) (by rw [List.length_append]; simp only [List.length_singleton]; omega)]
    rw [List.append_assoc, List.replicate_succ]
    rfl
theorem ref_text_f (s : ByteArray) (n : Int) (hs : s.size < 1000000000) (hn : -9223372036854775808 ≤ n ∧ n ≤ 9223372036854775807) :
    ∃ k, counterpaneref01_Text.f k s n = some (if textC s n = 0 then fieldOf s n else [], textC s n) := by
  by_cases h1 : n < 1
  · refine ⟨0 + 1, ?_⟩
    unfold counterpaneref01_Text.f
    rw [if_pos h1, textC_2 (.inl h1)]; rw [counterpaneref01_Text.j0]; rfl
  · by_cases h2 : n > 256
    · refine ⟨0 + 1, ?_⟩
      unfold counterpaneref01_Text.f
      rw [if_neg h1, textC_2 (.inr h2)]; rw [counterpaneref01_Text.j0]; simp [h2]
    · refine ⟨n.toNat - 1 - s.size + 2, ?_⟩
      unfold counterpaneref01_Text.f
      have e1 : wrap64 (n - 1) = n - 1 := by unfold wrap64; omega
      have h12 : ¬ (n < 1 ∨ n > 256) := by omega
      rw [if_neg h1]
      rw [counterpaneref01_Text.j0]
      rw [if_neg (by simpa using h2)]
      by_cases h3 : (s.size : Int) ≥ n
      · rw [e1, if_pos (by omega), textC_9 h12 h3]; rfl
      · have e2 : (s.size : Int) % 256 = s.size := by omega
        rw [e1, if_neg (by omega), textC_0 h12 h3]
        simp only [Option.bind_some, e2, List.length_singleton]
        rw [if_pos (by omega), ref_l0 n (by omega) (n.toNat - 1 - s.size) _ (by simp only [List.length_append, List.length_singleton, bytesOf_length]; omega)]
        simp [fieldOf]
theorem is_l0 (b : List Int) (z : Nat) (hz : z < b.length) (hb : b.length < 1000000000) : ∀ (m i : Nat), z + 1 ≤ i → i + m = b.length →
    counterpaneref01_IsText.l0 (m + 1) b (z : Int) (i : Int) = some (if noughts (b.drop i) then (strOfNums ((b.take (1 + z)).drop 1), true) else (⟨#[]⟩, false))
  | 0, i, h1, h2 => by
    unfold counterpaneref01_IsText.l0
    have e1 : wrap64 (1 + (z : Int)) = ((1 + z : Nat) : Int) := by unfold wrap64; omega
    have e2 : noughts (b.drop i) = true := by rw [List.drop_of_length_le (by omega)]; rfl
    rw [if_neg (by omega), e1, e2, if_pos (by omega), if_pos (by omega), Int.toNat_natCast, if_pos rfl]
  | m + 1, i, h1, h2 => by
    unfold counterpaneref01_IsText.l0
    have e1 : wrap64 ((i : Int) + 1) = ((i + 1 : Nat) : Int) := by unfold wrap64; omega
    rw [if_pos (by omega), if_pos (by omega), e1, is_l0 b z hz hb m (i + 1) (by omega) (by omega), rd_get (by omega : i < b.length)]
    have e2 : noughts (b.drop i) = ((b[i]'(by omega)) == 0 && noughts (b.drop (i + 1))) := by
      rw [List.drop_eq_getElem_cons (by omega : i < b.length)]; rfl
    rw [e2]
    by_cases h0 : b[i]'(by omega) = 0
    · rw [if_pos h0]; simp [h0]
    · rw [if_neg h0]; simp [h0]
theorem is_text_f (b : List Int) (hb : b.length < 1000000000) (hx : Bytes b) :
    ∃ k, counterpaneref01_IsText.f k b = some (match fieldF b with | some t => (strOfNums t, true) | none => (⟨#[]⟩, false)) := by
  unfold counterpaneref01_IsText.f fieldF
  by_cases h1 : (b.length : Int) = 0
  · refine ⟨0 + 1, ?_⟩
    rw [if_pos h1, if_pos (.inl (by omega))]; rw [counterpaneref01_IsText.j0]; rfl
  · have hp : 0 < b.length := by omega
    have hr := hx (rd b 0) (by rw [show (0 : Int) = ((0 : Nat) : Int) from rfl, rd_get hp]; exact List.getElem_mem _)
    obtain ⟨z, hz⟩ : ∃ z : Nat, rd b 0 = z := ⟨(rd b 0).toNat, by omega⟩
    have e1 : wrap64 (z : Int) = z := by unfold wrap64; omega
    have e2 : wrap64 ((b.length : Int) - 1) = b.length - 1 := by unfold wrap64; omega
    have e3 : wrap64 ((z : Int) + 1) = ((z + 1 : Nat) : Int) := by unfold wrap64; omega
    rw [hz]
    by_cases h2 : (z : Int) ≥ b.length
    · refine ⟨0 + 1, ?_⟩
      rw [if_neg h1, if_pos (by omega), if_pos (.inr h2), e1, e2]
      rw [counterpaneref01_IsText.j0]
      rw [if_pos (by simp; omega)]
    · refine ⟨b.length - (z + 1) + 2, ?_⟩
      rw [if_neg h1, if_pos (by omega), if_neg (by omega), e1, e2]
      rw [counterpaneref01_IsText.j0]
      rw [if_neg (by simp; omega), if_pos (by omega), hz, e1, e3, is_l0 b z (by omega) hb (b.length - (z + 1)) (z + 1) (by omega) (by omega)]
      rw [Int.toNat_natCast, Nat.add_comm 1 z]
      cases noughts (b.drop (z + 1)) <;> rfl

theorem same_c (W : World) (A B : Option Addr) (n c m d : Nat) (xs ys : List Int) (hn : n = xs.length) (hm : m = ys.length) (hA : Kd.C (Kd.int .u8) W A xs.length xs) (hc : n ≤ c) (hB : Kd.C (Kd.int .u8) W B ys.length ys) (hd : m ≤ d) (h : xs = ys) :
    Calls Try.prog 12 #[.slice A n c, .slice B m d] W fun e w' => e = .returned (.bool true) ∧ Below W.heap.size W w' := by
  subst hn hm h
  exact (counterpaneref01_Same.calls A c xs B d xs true W hA hc hB hd (by unfold counterpaneref01_Same.f; simp)).mono fun e w' ⟨h1, h2⟩ => ⟨h1, h2.below⟩
theorem text_cc (A0 : Option Addr) (c0 : Nat) (l0 : List Int) (s : ByteArray) (n : Int) (w : World) (hr0 : Kd.C (Kd.int .u8) w A0 l0.length l0) (hc0 : l0.length ≤ c0) (hl : l0.length < 1000000000) (hs : s.size < 1000000000) (hn : -9223372036854775808 ≤ n ∧ n ≤ 9223372036854775807) (X : List Int) (hX : X = if textC s n = 0 then l0 ++ fieldOf s n else []) :
    Calls Try.prog 7 #[.slice A0 l0.length c0, .string s, .int .i64 n] w fun e w' => ∃ A c, e = .returned (.tuple #[.slice A X.length c, .int .i64 (textC s n)]) ∧ X.length ≤ c ∧ Kd.C (Kd.int .u8) w' A X.length X ∧ Below w.heap.size w w' := by
  subst hX
  exact (word_Text.calls 1 A0 c0 l0 s n _ _ w hr0 hc0 (word_text_f 0 l0 s n hl hs hn)).mono fun e w' ⟨v, h1, hr, h2⟩ => by
    obtain ⟨A, c, rfl⟩ := Kd.R_slice hr
    exact ⟨A, c, h1, (Kd.R_reads' hr).2.1, (Kd.R_reads' hr).2.2, h2⟩
theorem rtext_cc (s : ByteArray) (n : Int) (w : World) (hs : s.size < 1000000000) (hn : -9223372036854775808 ≤ n ∧ n ≤ 9223372036854775807) (X : List Int) (hX : X = if textC s n = 0 then fieldOf s n else []) :
    Calls Try.prog 8 #[.string s, .int .i64 n] w fun e w' => ∃ A c, e = .returned (.tuple #[.slice A X.length c, .int .i64 (textC s n)]) ∧ X.length ≤ c ∧ Kd.C (Kd.int .u8) w' A X.length X ∧ Below w.heap.size w w' := by
  subst hX
  obtain ⟨k, hk⟩ := ref_text_f s n hs hn
  exact (counterpaneref01_Text.calls k s n _ _ w hk).mono fun e w' ⟨v, h1, hr, h2⟩ => by
    obtain ⟨A, c, rfl⟩ := Kd.R_slice hr
    exact ⟨A, c, h1, (Kd.R_reads' hr).2.1, (Kd.R_reads' hr).2.2, h2⟩
/-- The text that a field is told to be. -/
def textOf (b : List Int) : List Int := match fieldF b with | some t => t | none => []
theorem istext_cc (A0 : Option Addr) (c0 : Nat) (l0 : List Int) (w : World) (hr0 : Kd.C (Kd.int .u8) w A0 l0.length l0) (hc0 : l0.length ≤ c0) (hl : l0.length < 1000000000) (hx : Bytes l0) :
    Calls Try.prog 11 #[.slice A0 l0.length c0] w fun e w' => e = .returned (.tuple #[.string (strOfNums (textOf l0)), .bool (fieldF l0).isSome]) ∧ Below w.heap.size w w' := by
  obtain ⟨k, hk⟩ := is_text_f l0 hl hx
  have hk2 : counterpaneref01_IsText.f k l0 = some (strOfNums (textOf l0), (fieldF l0).isSome) := by
    rw [hk]; unfold textOf; cases fieldF l0 <;> rfl
  exact (counterpaneref01_IsText.calls k A0 c0 l0 _ _ w hr0 hc0 hk2).mono fun e w' ⟨h1, h2⟩ => ⟨h1, h2.below⟩
theorem textF_all (b : List Int) : textF b false b.length = (textOf b, [], !(fieldF b).isSome) := by
  unfold textF
  have e : takeF b false b.length = (b, [], false) := by unfold takeF; rw [if_neg (by simp)]; simp
  rw [e]
  unfold textOf
  cases h : fieldF b with
  | none => rw [textG_none h]; rfl
  | some t => rw [textG_some h]; rfl

def counterpanelaw01_WordTexts.f (l0 : List Int) (a1 : ByteArray) (a2 : Int) (l3 : List Int) : Option Bool :=
  if Bytes l3 ∧ -9223372036854775808 ≤ a2 ∧ a2 ≤ 9223372036854775807 then some true else none
set_option maxHeartbeats 4000000 in
set_option maxRecDepth 100000 in
theorem counterpanelaw01_WordTexts.calls (A0 : Option Addr) (c0 : Nat) (l0 : List Int) (a1 : ByteArray) (a2 : Int) (A3 : Option Addr) (c3 : Nat) (l3 : List Int) (r : Bool) (w : World) (hr0 : Kd.C (Kd.int .u8) w A0 l0.length l0) (hc0 : l0.length ≤ c0) (hr3 : Kd.C (Kd.int .u8) w A3 l3.length l3) (hc3 : l3.length ≤ c3) (h : counterpanelaw01_WordTexts.f l0 a1 a2 l3 = some r) :
    Calls Try.prog 3 #[.slice A0 l0.length c0, .string a1, .int .i64 a2, .slice A3 l3.length c3] w fun e w' => e = .returned (.bool r) ∧ Below w.heap.size w w' := by
  unfold counterpanelaw01_WordTexts.f at h
  split at h
  case isFalse => cases h
  case isTrue hx =>
  obtain ⟨hx, hn⟩ := hx
  obtain rfl := Option.some.inj h
  clear h
  have HR0 := Aside0.mk hr0
  have HR3 := Aside0.mk hr3
  have HX := Aside0.mk hx
  clear hr0 hr3 hx
  by_cases q1 : (300 : Int) < (l0.length : Int)
  · go_enter Try.func3, Try.ntmps3
    go_wp2_with (go_at_call 6; refine (counterpanelaw01_works.calls0 _).mono ?_; rintro e w1 ⟨rfl, hb⟩)
    go_ret
    exact ⟨rfl, hb⟩
  by_cases q2 : (600 : Int) < (a1.size : Int)
  · go_enter Try.func3, Try.ntmps3
    go_wp2_with (go_at_call 6; refine (counterpanelaw01_works.calls0 _).mono ?_; rintro e w1 ⟨rfl, hb⟩)
    go_ret
    exact ⟨rfl, hb⟩
  by_cases q3 : (300 : Int) < (l3.length : Int)
  · go_enter Try.func3, Try.ntmps3
    go_wp2_with (go_at_call 6; refine (counterpanelaw01_works.calls0 _).mono ?_; rintro e w1 ⟨rfl, hb⟩)
    go_ret
    exact ⟨rfl, hb⟩
  have z0 := Aside0.mk (show l0.length < 1000000000 by omega)
  have z1 := Aside0.mk (show a1.size < 1000000000 by omega)
  have z3 := Aside0.mk (show l3.length < 1000000000 by omega)
  have hN := Aside0.mk hn
  clear hn
  obtain ⟨X, hX⟩ : ∃ X, X = if textC a1 a2 = 0 then l0 ++ fieldOf a1 a2 else [] := ⟨_, rfl⟩
  obtain ⟨Y, hY⟩ : ∃ Y, Y = if textC a1 a2 = 0 then fieldOf a1 a2 else [] := ⟨_, rfl⟩
  have T1 := fun W hW => text_cc A0 c0 l0 a1 a2 W hW hc0 z0.out z1.out hN.out X hX
  have T2 := fun W => rtext_cc a1 a2 W z1.out hN.out Y hY
  have hYl : Y.length < 1000000000 := by
    rw [hY]
    split
    · rename_i hc
      have : a2.toNat ≤ 256 := by
        unfold textC at hc
        split at hc
        · cases hc
        · omega
      simp only [fieldOf, List.length_append, List.length_singleton, bytesOf_length, List.length_replicate]
      omega
    · simp
  replace hYl := Aside0.mk hYl
  generalize textC a1 a2 = k at hX hY T1 T2
  replace T1 := Aside0.mk T1
  replace T2 := Aside0.mk T2
  replace hX := Aside0.mk hX
  replace hY := Aside0.mk hY
  go_enter Try.func3, Try.ntmps3
  go_wp2_with fail
  refine (T1.out _ HR0.out).mono ?_
  rintro e w1 ⟨A1, c1, rfl, hc1, hC1, hb1⟩
  replace hC1 := Aside0.mk hC1
  go_wp2_with fail
  refine (T2.out _).mono ?_
  rintro e w2 ⟨A2, c2, rfl, hc2, hC2, hb2⟩
  replace hC2 := Aside0.mk hC2
  have HB := Aside0.mk (below_step hb1 hb2)
  by_cases hk : k = 0
  · have hk1 := beq_iff_eq.mpr hk
    have hXe : X = l0 ++ Y := by rw [hX.out, hY.out, if_pos hk, if_pos hk]
    replace hXe := Aside0.mk hXe
    have zL : Aside0 (l0.length + Y.length < 140737488355328) := ⟨by have := hYl.out; have := z0.out; omega⟩
    have k2 := Aside0.mk (Below.refl w2.heap.size w2)
    go_wp2_with (first | ((with_reducible refine gate_builtin (b := .append) (xs := #[.tmp 47, .tmp 48]) rfl ?_); at_builtin; refine Kd.R_append_rows (Kd.int .u8) (w0 := w2) w2.heap.size rfl (.tmp 47) (.tmp 48) 22 5 (.int .u8 0) 1 rfl Try.underlying22 info5 rfl (by decide) (by omega) (.slice none 0 0) ([] : List Int) l0 _ _ _ (fun _ => True) (fun _ => False) rfl rfl ?aO ?aR (fun _ _ h => h) (fun _ h => h.elim) ?aF ?aB ?aS ?aL ?_; (case aR => exact (Kd.C_below HR0.out (below_step HB.out k2.out))); (case aB => exact k2.out); (case aF => exact (fun _ _ => trivial)); (case aO => exact (Kd.R_nil _ _ _ _ _)); (case aS => exact (below_size k2.out)); (case aL => exact by have := z0.out; simp; omega); intro v3 w3 ho hb hg hat; obtain ⟨A3b, c3b, rfl⟩ := Kd.R_slice ho; rw [List.nil_append] at ho; have n0_ := Aside0.mk (hb); have n1_ := Aside0.mk (ho); clear k2; have k2 := n0_; have HO3 := n1_; clear n0_ n1_; clear ho hb hg hat) | ((with_reducible refine gate_builtin (b := .append) (xs := #[.tmp 49, .tmp 50]) rfl ?_); at_builtin; refine Kd.R_append_rows (Kd.int .u8) (w0 := w2) w2.heap.size rfl (.tmp 49) (.tmp 50) 22 5 (.int .u8 0) 1 rfl Try.underlying22 info5 rfl (by decide) (by omega) (.slice A3b l0.length c3b) l0 Y _ _ _ (fun _ => True) (fun _ => False) rfl rfl ?aO ?aR (fun _ _ h => h) (fun _ h => h.elim) ?aF ?aB ?aS ?aL ?_; (case aR => exact (Kd.C_below hC2.out k2.out)); (case aB => exact k2.out); (case aF => exact (fun _ _ => trivial)); (case aO => exact HO3.out); (case aS => exact (below_size k2.out)); (case aL => exact by have := zL.out; omega); intro v4 w4 ho hb hg hat; obtain ⟨A4, c4, rfl⟩ := Kd.R_slice ho; skip; have n0_ := Aside0.mk (hb); have n1_ := Aside0.mk (ho); clear k2; have k2 := n0_; have HO4 := n1_; clear n0_ n1_; clear ho hb hg hat))
    replace HB := Aside0.mk (below_step HB.out k2.out)
    have hl4 : (l0 ++ Y).length = l0.length + Y.length := List.length_append
    have hR4 : Aside0 ((l0.length + Y.length ≤ c4) ∧ Kd.C (Kd.int .u8) w4 A4 (l0 ++ Y).length (l0 ++ Y)) := ⟨by have := Kd.R_reads' HO4.out; rw [← hl4]; exact this.2⟩
    clear hl4
    go_wp2_with fail
    refine (read_c A3 c3 l3 _ (Kd.C_below HR3.out HB.out) hc3 (by have := z3.out; omega)).mono ?_
    rintro e w5 ⟨g, rfl, hg, hR5, hb5⟩
    replace hR5 := Aside0.mk hR5
    replace hg := Aside0.mk hg
    replace hb5 := Aside0.mk hb5
    go_wp2_with fail
    refine (text_c g _ _ _ _ _ hR5.out hb5.out hg.out (by have := z3.out; omega) HX.out).mono ?_
    rintro e w6 ⟨rfl, hp6⟩
    rw [textF_all] at hp6 ⊢
    replace hp6 := Aside0.mk hp6
    have HB6 := Aside0.mk (below_step HB.out hp6.out.2.1)
    go_wp2_with fail
    refine (istext_cc A3 c3 l3 _ (Kd.C_below HR3.out HB6.out) hc3 z3.out HX.out).mono ?_
    rintro e w7 ⟨rfl, hb7⟩
    replace hb7 := Aside0.mk hb7
    go_wp2_with fail
    refine (same_c _ _ _ _ _ _ _ X ((l0 ++ Y)) rfl (by simp) (Kd.C_below hC1.out (below_step hb2 (below_step k2.out (below_step hp6.out.2.1 hb7.out)))) hc1 (Kd.C_below hR4.out.2 (below_step hp6.out.2.1 hb7.out)) hR4.out.1 hXe.out).mono ?_
    rintro e w8 ⟨rfl, hb8⟩
    replace hb8 := Aside0.mk hb8
    go_wp2_with fail
    refine (right_c g _ _ w4 _ (hp6.out.1.keep (below_step hb7.out hb8.out)) (below_step hp6.out.2.1 (below_step hb7.out hb8.out))).mono ?_
    rintro e w9 ⟨rfl, hp9⟩
    replace hp9 := Aside0.mk hp9
    have HB9 := Aside0.mk (below_step HB.out hp9.out.2.1)
    have eb : (!(!(fieldF l3).isSome)) = (fieldF l3).isSome := by simp
    go_wp2_with (go_at_call 6; refine (counterpanelaw01_works.calls0 _).mono ?_; rintro e w10 ⟨rfl, hb10⟩)
    go_ret
    exact ⟨by simp, below_step HB9.out hb10⟩
  · have hk1 := beq_eq_false_iff_ne.mpr hk
    have hXe : X = [] := by rw [hX.out, if_neg hk]
    replace hXe := Aside0.mk hXe
    go_wp2_with fail
    refine (read_c A3 c3 l3 _ (Kd.C_below HR3.out HB.out) hc3 (by have := z3.out; omega)).mono ?_
    rintro e w5 ⟨g, rfl, hg, hR5, hb5⟩
    replace hR5 := Aside0.mk hR5
    replace hg := Aside0.mk hg
    replace hb5 := Aside0.mk hb5
    go_wp2_with fail
    refine (text_c g _ _ _ _ _ hR5.out hb5.out hg.out (by have := z3.out; omega) HX.out).mono ?_
    rintro e w6 ⟨rfl, hp6⟩
    rw [textF_all] at hp6 ⊢
    replace hp6 := Aside0.mk hp6
    have HB6 := Aside0.mk (below_step HB.out hp6.out.2.1)
    go_wp2_with fail
    refine (istext_cc A3 c3 l3 _ (Kd.C_below HR3.out HB6.out) hc3 z3.out HX.out).mono ?_
    rintro e w7 ⟨rfl, hb7⟩
    replace hb7 := Aside0.mk hb7
    go_wp2_with fail
    refine (same_c _ _ _ _ _ _ _ X ([]) rfl rfl (Kd.C_below hC1.out (below_step hb2 (below_step hp6.out.2.1 hb7.out))) hc1 (Kd.C_nil _ _) (Nat.le_refl _) hXe.out).mono ?_
    rintro e w8 ⟨rfl, hb8⟩
    replace hb8 := Aside0.mk hb8
    go_wp2_with fail
    refine (right_c g _ _ w2 _ (hp6.out.1.keep (below_step hb7.out hb8.out)) (below_step hp6.out.2.1 (below_step hb7.out hb8.out))).mono ?_
    rintro e w9 ⟨rfl, hp9⟩
    replace hp9 := Aside0.mk hp9
    have HB9 := Aside0.mk (below_step HB.out hp9.out.2.1)
    have eb : (!(!(fieldF l3).isSome)) = (fieldF l3).isSome := by simp
    go_wp2_with (go_at_call 6; refine (counterpanelaw01_works.calls0 _).mono ?_; rintro e w10 ⟨rfl, hb10⟩)
    go_ret
    exact ⟨by simp, below_step HB9.out hb10⟩

/-- THE ONE PURE STATEMENT of counterpanelaw01_WordTexts: yours. -/
def counterpanelaw01_WordTexts.Pure : Prop := ∀ (l0 : List Int) (a1 : ByteArray) (a2 : Int) (l3 : List Int), l0.length ≤ maxLen → l0.length * 1 ≤ 140737488351232 → (∀ x ∈ l0, (Lit.int .u8 x).wf = true) → a1.size ≤ 140737488351232 → (Lit.int .i64 a2).wf = true → l3.length ≤ maxLen → l3.length * 1 ≤ 140737488351232 → (∀ x ∈ l3, (Lit.int .u8 x).wf = true) → counterpanelaw01_WordTexts.f l0 a1 a2 l3 = some true
theorem counterpanelaw01_WordTexts.walk (P : counterpanelaw01_WordTexts.Pure) (a0 : Option Addr) (len0 cap0 : Nat) (z0 : List Int) (a1 : ByteArray) (a2 : Int) (a3 : Option Addr) (len3 cap3 : Nat) (z3 : List Int) (w : World) (w0 : (a0 = none ∧ len0 = 0 ∧ cap0 = 0 ∧ z0 = []) ∨ ∃ x, a0 = some x ∧ len0 ≤ cap0 ∧ cap0 ≤ maxLen ∧ z0.length = cap0 ∧ (∀ i, i < z0.length → w.cell? (x.add i) = some (.int .u8 (z0.getD i 0))) ∧ ∀ n ∈ z0, (Lit.int .u8 n).wf = true) (y0 : len0 * 1 ≤ 140737488351232) (w1 : a1.size ≤ 140737488351232) (w2 : (Lit.int .i64 a2).wf = true) (w3 : (a3 = none ∧ len3 = 0 ∧ cap3 = 0 ∧ z3 = []) ∨ ∃ x, a3 = some x ∧ len3 ≤ cap3 ∧ cap3 ≤ maxLen ∧ z3.length = cap3 ∧ (∀ i, i < z3.length → w.cell? (x.add i) = some (.int .u8 (z3.getD i 0))) ∧ ∀ n ∈ z3, (Lit.int .u8 n).wf = true) (y3 : len3 * 1 ≤ 140737488351232) :
    Calls Try.prog 3 #[.slice a0 len0 cap0, .string a1, .int .i64 a2, .slice a3 len3 cap3] w fun e w' => e = .returned (.bool true) ∧ Below w.heap.size w w' := by
  obtain ⟨l0, rfl, hr0, hm0, hw0, hc0⟩ := ReadsInt.ofRowC w0
  obtain ⟨l3, rfl, hr3, hm3, hw3, hc3⟩ := ReadsInt.ofRowC w3
  have h := P l0 a1 a2 l3 hm0 y0 hw0 w1 w2 hm3 y3 hw3
  refine (counterpanelaw01_WordTexts.calls _ _ l0 a1 a2 _ _ l3 true w (Kd.C_of_reads (d := (0 : Int)) (h1 := fun _ => rfl) hr0) hc0 (Kd.C_of_reads (d := (0 : Int)) (h1 := fun _ => rfl) hr3) hc3 h).mono ?_
  rintro e w' ⟨rfl, hd⟩
  exact ⟨rfl, hd⟩

end Go.Proofs.Ytmmeioifbiakjaa.PAll
