/- The functions that the laws of this seat reach, as plain functions with proofs that the calls answer just so (written by a program of this session on the kit's print). -/
import Derived.Test.YtbmkkehbmkcinaaPAllx0
import Derived.Test.YtbmkkehbmkcinaaPAllx3
import Derived.Test.YtbmkkehbmkcinaaPAllx6
namespace Go.Proofs.Ytbmkkehbmkcinaa.PAll
open Go.RowKit Go.Proofs.YtbmkkehbmkcinaaW.PrintWords Go.Proofs.YtbmkkehbmkcinaaW.PrintLast Go.Proofs.YtbmkkehbmkcinaaW.PrintMore
attribute [local go_sem] max2_int min2_int max_two min_two max_three min_three max_four min_four   -- for this text's walks alone
set_option linter.unusedVariables false
set_option linter.unusedSimpArgs false

/-! ### mix_Split: function 9 -/
-- GIVEN rounds=0 making=1
def mix_Split.bit (x at_ : Int) : Bool := (mix_Bit.f x at_).getD false
theorem mix_Split.bit_at (x at_ : Int) : mix_Bit.f x at_ = some (mix_Split.bit x at_) := by
  have h : ∃ r, mix_Bit.f x at_ = some r := by
    unfold mix_Bit.f mix_Mix.f
    by_cases h0 : at_ ≥ 0
    · by_cases h1 : at_ < 64
      · simp [h0, h1]
      · simp [h0, h1]
    · simp [h0]
  obtain ⟨r, hr⟩ := h
  rw [mix_Split.bit, hr]; rfl
theorem mix_Split.bit_c (x at_ : Int) (w : World) : Calls Try.prog 13 #[.int .u64 x, .int .i64 at_] w fun e w' => e = .returned (.bool (mix_Split.bit x at_)) ∧ Drawn0 w w' :=
  mix_Bit.calls x at_ _ w (mix_Split.bit_at x at_)
theorem mix_Split.info22 : (Try.prog.info? 22).map (fun i => (i.zero, i.size, i.bytes)) = some (some (.int .u64 0), 1, 8) := by kernel_rfl
def mix_Split.keep (b : Bool) (at_ : Int) (l : List Int) : List Int := l.filter fun x => mix_Split.bit x at_ == b
set_option maxHeartbeats 1000000 in
set_option maxRecDepth 100000 in
theorem mix_Split.one (b : Bool) (A : Option Addr) (c : Nat) (l : List Int) (at_ : Int) (p2 p3 : Nat) (w : World) (h2 : w.cell? ⟨p2, 0, none⟩ = some (.slice A l.length c)) (h3 : w.cell? ⟨p3, 0, none⟩ = some (.int .i64 at_))
    (hr : Kd.C (Kd.int .u64) w A l.length l) (hl : l.length ≤ 1000000) :
    Calls Try.prog 16 #[.bool b, .pointer (some ⟨p2, 0, none⟩), .pointer (some ⟨p3, 0, none⟩)] w fun e w' => ∃ v : Value, e = .returned v ∧ Kd.R (Kd.int .u64) 22 w' w.heap.size (fun _ => True) v (mix_Split.keep b at_ l) ∧ Below w.heap.size w w' := by
  have HR := Aside0.mk hr
  clear hr
  go_enter Try.func16, Try.ntmps16
  go_wp2
  go_loopw [5, 10] (fun v5 v10 wr => ∃ k : Nat, k ≤ l.length ∧ v10 = .int .i64 k ∧ Aside0 (Kd.R (Kd.int .u64) 22 wr w.heap.size (fun _ => True) v5 (mix_Split.keep b at_ (l.take k))) ∧ Aside0 (Below w.heap.size w wr)) (fun _ v10 _ => l.length - (intOf v10).toNat)
  case atStart => exact ⟨0, by omega, rfl, ⟨Kd.R_nil _ _ _ _ _⟩, ⟨Below.refl _ _⟩⟩
  case round =>
    obtain ⟨k, hk, rfl, ho, hb⟩ := hrel
    by_cases hlt : k < l.length
    · obtain ⟨ad, ead, hx0⟩ := Kd.at_int HR.out (k : Int) (by omega) (by omega)
      subst ead
      have hx : wr.cell? (ad.add k) = some (.int .u64 (rd l k)) := (hb.out.cell (p := ad.add k) (block_lt_of_cell hx0)).trans hx0
      have hat : wr.cell? ⟨p3, 0, none⟩ = some (.int .i64 at_) := (hb.out.cell (p := ⟨p3, 0, none⟩) (block_lt_of_cell h3)).trans h3
      have hstep : Aside0 (mix_Split.keep b at_ (l.take (k + 1)) = mix_Split.keep b at_ (l.take k) ++ if (mix_Split.bit (rd l k) at_ == b) then [rd l k] else []) := by
        constructor
        rw [mix_Split.keep, List.take_succ_eq_append_getElem hlt, List.filter_append]
        have e : l[k] = rd l k := by simp [rd, hlt]
        rw [e]
        simp [mix_Split.keep, List.filter_cons]
      have hlen : Aside0 ((mix_Split.keep b at_ (l.take k)).length ≤ 1000000) := ⟨Nat.le_trans (List.length_filter_le _ _) (by rw [List.length_take]; omega)⟩
      obtain ⟨xx, hxx⟩ : ∃ xx, rd l k = xx := ⟨_, rfl⟩
      rw [hxx] at hx hstep
      clear hx0 hxx h2 h3
      cases hbit : (mix_Split.bit xx at_ == b)
      · have hf : Aside0 (mix_Split.keep b at_ (l.take (k + 1)) = mix_Split.keep b at_ (l.take k)) := ⟨by rw [hstep.out, hbit]; simp⟩
        clear hstep
        go_wp2_with (go_at_call 13; (with_reducible refine (mix_Split.bit_c xx at_ _).mono ?_); rintro e w1 ⟨rfl, ⟨⟨n1, rfl⟩⟩⟩)
        go_roundw
        case rel => exact ⟨k + 1, by omega, by go_num, ⟨by rw [hf.out]; repeat (first | exact ho.out | apply Kd.R_drewN)⟩, ⟨by repeat (first | exact hb.out | apply pw_below_drewN)⟩⟩
        case measure => simp [intOf]; omega
      · have hf : Aside0 (mix_Split.keep b at_ (l.take (k + 1)) = mix_Split.keep b at_ (l.take k) ++ [xx]) := ⟨by rw [hstep.out, hbit]; simp⟩
        clear hstep
        go_wp2_with (first
          | (go_at_call 13; (with_reducible refine (mix_Split.bit_c xx at_ _).mono ?_); rintro e w1 ⟨rfl, ⟨⟨n1, rfl⟩⟩⟩)
          | (at_builtin; refine Kd.R_append (Kd.int .u64) (w0 := w) w.heap.size rfl (.tmp 19) (.tmp 21) 26 22 (.int .u64 0) 8 rfl Try.underlying26 mix_Split.info22 rfl (by decide) (by decide) u5 (mix_Split.keep b at_ (l.take k)) xx [.int .u64 xx] (fun _ => True) (fun _ => False) rfl rfl rfl (fun _ h => h.elim) (fun _ _ => trivial) ?aO ?aB ?aS ?aL ?_; (case aO => repeat (first | exact ho.out | apply Kd.R_drewN)); (case aB => repeat (first | exact hb.out | apply pw_below_drewN)); (case aS => exact Nat.le_trans hb.out.size (by simp)); (case aL => have := hlen.out; omega); intro v1 w2 ho1 hb1 hg1 hat1))
        go_roundw
        case rel => exact ⟨k + 1, by omega, by go_num, ⟨by rw [hf.out]; exact ho1⟩, ⟨hb1⟩⟩
        case measure => simp [intOf]; omega
    · obtain rfl : k = l.length := by omega
      rw [List.take_length] at ho
      go_wp2
      go_ret
      exact ⟨_, rfl, ho.out, hb.out⟩
def mix_Split.f (l0 : List Int) (a1 : Int) : Option (List Int × List Int) := if l0.length ≤ 1000000 then some (mix_Split.keep false a1 l0, mix_Split.keep true a1 l0) else none
set_option maxHeartbeats 1000000 in
set_option maxRecDepth 100000 in
theorem mix_Split.calls (A0 : Option Addr) (c0 : Nat) (l0 : List Int) (a1 : Int) (r1 : List Int) (r2 : List Int) (w : World) (hr0 : Kd.C (Kd.int .u64) w A0 l0.length l0) (hc0 : l0.length ≤ c0) (h : mix_Split.f l0 a1 = some (r1, r2)) :
    Calls Try.prog 9 #[.slice A0 l0.length c0, .int .i64 a1] w fun e w' => ∃ v0_ v1_ : Value, e = .returned (.tuple #[v0_, v1_]) ∧ Kd.R (Kd.int .u64) 22 w' w.heap.size (fun k_ => some k_ ≠ (v1_ : Value).ownBlock) v0_ r1 ∧ Kd.R (Kd.int .u64) 22 w' w.heap.size (fun k_ => some k_ ≠ (v0_ : Value).ownBlock) v1_ r2 ∧ Below w.heap.size w w' := by
  have hlen : l0.length ≤ 1000000 := by
    by_cases hl : l0.length ≤ 1000000
    · exact hl
    · rw [mix_Split.f, if_neg hl] at h; cases h
  rw [mix_Split.f, if_pos hlen] at h
  simp only [Option.some.injEq, Prod.mk.injEq] at h
  obtain ⟨rfl, rfl⟩ := h
  have HR := Aside0.mk hr0
  clear hr0
  go_enter Try.func9, Try.ntmps9
  go_wp2_with fail
  have hx2 : ((w.alloc (.cells #[.slice A0 l0.length c0] 26)).alloc (.cells #[.int .i64 a1] 3)).cell? ⟨w.heap.size, 0, none⟩ = some (.slice A0 l0.length c0) := by
    rw [cell_of_row _ _ _ _ _ _ (heap_alloc2_old ..)]; rfl
  have hx3 : ((w.alloc (.cells #[.slice A0 l0.length c0] 26)).alloc (.cells #[.int .i64 a1] 3)).cell? ⟨w.heap.size + 1, 0, none⟩ = some (.int .i64 a1) := by
    rw [cell_of_row _ _ _ _ _ _ (heap_alloc2_new ..)]; rfl
  have hbw : Below w.heap.size w ((w.alloc (.cells #[.slice A0 l0.length c0] 26)).alloc (.cells #[.int .i64 a1] 3)) := below_alloc (below_alloc (Below.refl _ _) _) _
  have HX2 := Aside0.mk hx2
  have HX3 := Aside0.mk hx3
  have HBW := Aside0.mk hbw
  clear hx2 hx3 hbw
  refine (mix_Split.one false A0 c0 l0 a1 _ _ _ HX2.out HX3.out (Kd.C_below HR.out HBW.out) hlen).mono ?_
  rintro e w1 ⟨v1, rfl, ho1, hb1⟩
  have hy2 := (hb1.cell (p := ⟨w.heap.size, 0, none⟩) (block_lt_of_cell HX2.out)).trans HX2.out
  have hy3 := (hb1.cell (p := ⟨w.heap.size + 1, 0, none⟩) (block_lt_of_cell HX3.out)).trans HX3.out
  have HB1 : Aside0 (Below w.heap.size w w1) := ⟨HBW.out.trans (hb1.mono HBW.out.size)⟩
  have HO1 : Aside0 (Kd.R (Kd.int .u64) 22 w1 w.heap.size (fun _ => True) v1 (mix_Split.keep false a1 l0)) := ⟨Kd.R_lower ho1 HBW.out.size⟩
  have HY2 := Aside0.mk hy2
  have HY3 := Aside0.mk hy3
  clear ho1 hb1 hy2 hy3
  go_wp2_with fail
  refine (mix_Split.one true A0 c0 l0 a1 _ _ _ HY2.out HY3.out (Kd.C_below HR.out HB1.out) hlen).mono ?_
  rintro e w2 ⟨v2, rfl, ho2, hb2⟩
  have HR1 : Aside0 (Kd.R (Kd.int .u64) 22 w2 w.heap.size (fun k_ => some k_ ≠ (v2 : Value).ownBlock) v1 (mix_Split.keep false a1 l0)) := ⟨Kd.R_mono (Kd.R_elder' HO1.out (Kd.R_base ho2) hb2) (fun _ hk => hk.2)⟩
  have HR2 : Aside0 (Kd.R (Kd.int .u64) 22 w2 w.heap.size (fun k_ => some k_ ≠ (v1 : Value).ownBlock) v2 (mix_Split.keep true a1 l0)) := ⟨Kd.R_mono (Kd.R_lower (Kd.R_new' ho2 (Kd.R_lt HO1.out)) HB1.out.size) (fun _ hk => hk.2)⟩
  have HB2 : Aside0 (Below w.heap.size w w2) := ⟨HB1.out.trans (hb2.mono HB1.out.size)⟩
  clear ho2 hb2
  go_wp2_with fail
  go_ret2
  exact ⟨_, _, rfl, HR1.out, HR2.out, HB2.out⟩

end Go.Proofs.Ytbmkkehbmkcinaa.PAll
