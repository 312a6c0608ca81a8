/- Walks by the logic of values. -/
import Derived.Test.YtldlmmpniddbcaaKpWa
import Derived.Test.YtldlmmpniddbcaaKpWb
import Derived.Test.YtldlmmpniddbcaaKpWc
import Derived.Test.YtldlmmpniddbcaaKpVa
import Derived.Test.YtldlmmpniddbcaaKpVmT
import Derived.Test.YtldlmmpniddbcaaKpVmP
namespace Go.Proofs.Ytldlmmpniddbcaa
open Go.Vm
set_option linter.unusedVariables false
set_option linter.unusedSimpArgs false
def rN (s : List Int × Bool) (m : Int) : Int := beN (low8 (rdT s.1 s.2 m))
def rS (s : List Int × Bool) (m : Int) : List Int × Bool := (rdX s.1 s.2 m, rdE s.1 s.2 m)
def okS (s : List Int × Bool) : Prop := Byts s.1 ∧ s.1.length ≤ 1000000000
theorem okS_rS {s : List Int × Bool} (h : okS s) (m : Int) : okS (rS s m) := ⟨rdX_bytes h.1 _ _, Nat.le_trans (rdX_len _ _ _) h.2⟩
theorem rdT_sz (xs : List Int) (bad : Bool) (m : Nat) : (rdT xs bad m).length ≤ m := by
  unfold rdT; split
  · simp; omega
  · simp
theorem rN_lt {s : List Int × Bool} (h : okS s) (m : Nat) (hm : m ≤ 8) : 0 ≤ rN s m ∧ rN s m < 256 ^ m := by
  have h1 := rdT_sz s.1 s.2 m
  have hb := rdT_bytes h.1 s.2 (m : Int)
  have h2 := beN_lt (rdT s.1 s.2 m).length (rdT s.1 s.2 m) hb (Nat.le_refl _)
  rw [List.take_length] at h2
  unfold rN; rw [low8_id (by omega)]
  refine ⟨h2.1, Int.lt_of_lt_of_le h2.2 ?_⟩
  have h3 : 256 ^ (rdT s.1 s.2 (m : Int)).length ≤ 256 ^ m := Nat.pow_le_pow_right (by decide) h1
  have h5 : ((256 ^ (rdT s.1 s.2 (m : Int)).length : Nat) : Int) ≤ ((256 ^ m : Nat) : Int) := Int.ofNat_le.2 h3
  rw [Int.natCast_pow, Int.natCast_pow] at h5
  exact h5
theorem rN_lt4 {s : List Int × Bool} (h : okS s) : 0 ≤ beN (low8 (rdT s.1 s.2 4)) ∧ beN (low8 (rdT s.1 s.2 4)) < 4294967296 := rN_lt h 4 (by omega)
theorem rN_lt1 {s : List Int × Bool} (h : okS s) : 0 ≤ beN (low8 (rdT s.1 s.2 1)) ∧ beN (low8 (rdT s.1 s.2 1)) < 256 := rN_lt h 1 (by omega)
def q1 (s : List Int × Bool) := rS s 8
def q2 (s : List Int × Bool) := rS (q1 s) 8
def q3 (s : List Int × Bool) := rS (q2 s) 4
def q4 (s : List Int × Bool) := rS (q3 s) 4
def q5 (s : List Int × Bool) := rS (q4 s) 1
def q6 (s : List Int × Bool) : List Int × Bool := (rdX (q5 s).1 (q5 s).2 16, !txOK (q5 s).1 (q5 s).2 16)
def rrV (s : List Int × Bool) : Rc := ⟨rN s 8, rN (q1 s) 8, rN (q2 s) 4, rN (q3 s) 4, txS (q5 s).1 (q5 s).2 16, rN (q4 s) 1 == 1⟩
def rrOK (s : List Int × Bool) : Bool := decide (rN (q4 s) 1 ≤ 1) && txOK (q5 s).1 (q5 s).2 16
set_option maxRecDepth 100000 in
set_option maxHeartbeats 4000000 in
theorem rr_ok (k : Nat) (xs : List Int) (bad : Bool) (hb : Byts xs) (hl : xs.length ≤ 1000000000) (h : rrOK (xs, bad) = true) : Does Try.prog 44 [.ref k 0] [(k, .cells (rdB xs bad))] [(k, .cells (rdB (q6 (xs, bad)).1 (q6 (xs, bad)).2))] (.tup [.agg (rcC (rrV (xs, bad))), .sc (.bool true)]) := by
  refine does_mkg 40 Try.func44 rfl rfl rfl (fun n B bx hd hpre hup hvs hbx hgx => ?_)
  have hp0 := hpre.1
  have hk0 := lt_cells hd hp0
  have hu0 := hup.1
  have o0 : okS (xs, bad) := ⟨hb, hl⟩
  have o1 : okS (q1 (xs, bad)) := okS_rS o0 8
  have o2 : okS (q2 (xs, bad)) := okS_rS o1 8
  have o3 : okS (q3 (xs, bad)) := okS_rS o2 4
  have o4 : okS (q4 (xs, bad)) := okS_rS o3 4
  have o5 : okS (q5 (xs, bad)) := okS_rS o4 1
  have n2 := rN_lt4 o2
  have n3 := rN_lt4 o3
  have n4 := rN_lt1 o4
  have hx1 : rN (q4 (xs, bad)) 1 ≤ 1 ∧ txOK (q5 (xs, bad)).1 (q5 (xs, bad)).2 16 = true := by unfold rrOK at h; simpa using h
  have hx2 : (q6 (xs, bad)).2 = false := by unfold q6; rw [hx1.2]; rfl
  refine runs_seq ?_
  refine runs_region ?_
  refine rl1 (gn rfl) rfl rfl (step_allocc (k := n + 0) (zs := [.int .u64 0, .int .u64 0, .int .u32 0, .int .u32 0, .string ByteArray.empty, .bool false]) (cs := [.sc (.int .u64 0), .sc (.int .u64 0), .sc (.int .u32 0), .sc (.int .u32 0), .sc (.string ByteArray.empty), .sc (.bool false)]) rfl F.zero52 (by first | rfl | simp) (by first | rfl | decide | simp) (by first | rfl | simp)) ⟨by repeat (first | exact uE | refine uN (by omega) ?_ | assumption | exact hd _ (by omega) | fail), trivial⟩ (by omega) ?_
  refine rl0 (gn rfl) rfl rfl (step_as rfl rfl) trivial ?_
  refine runsL_nil ?_
  refine runs_seq ?_
  refine runs_region ?_
  refine rl0 (gn rfl) rfl rfl (step_mv rfl rfl) trivial ?_
  refine rl1 (gn rfl) rfl rfl (step_callc rfl Try.func43 rfl rfl rfl (num_c k (xs, bad).1 (xs, bad).2 8 (by constructor <;> omega) o0.1 o0.2) (by repeat (first | exact .nil | refine .cons ?_ ?_ | exact VLe.refl _ | exact VLe.own_sl _ _ _ | exact VLe.fl_sl _ _ | exact VLe.nil_sl _ | exact VLe.nil_fl _ | refine VLe.agg ?_))) ⟨by repeat (first | exact uE | refine uN (by omega) ?_ | assumption | exact hd _ (by omega) | fail), trivial⟩ (by omega) ?_
  refine rl0 (gn rfl) rfl rfl (step_mv rfl rfl) trivial ?_
  refine rl1 (gn rfl) rfl rfl (step_callc rfl Try.func43 rfl rfl rfl (num_c k (q1 (xs, bad)).1 (q1 (xs, bad)).2 8 (by constructor <;> omega) o1.1 o1.2) (by repeat (first | exact .nil | refine .cons ?_ ?_ | exact VLe.refl _ | exact VLe.own_sl _ _ _ | exact VLe.fl_sl _ _ | exact VLe.nil_sl _ | exact VLe.nil_fl _ | refine VLe.agg ?_))) ⟨by repeat (first | exact uE | refine uN (by omega) ?_ | assumption | exact hd _ (by omega) | fail), trivial⟩ (by omega) ?_
  refine rl0 (gn rfl) rfl rfl (step_mv rfl rfl) trivial ?_
  refine rl1 (gn rfl) rfl rfl (step_callc rfl Try.func43 rfl rfl rfl (num_c k (q2 (xs, bad)).1 (q2 (xs, bad)).2 4 (by constructor <;> omega) o2.1 o2.2) (by repeat (first | exact .nil | refine .cons ?_ ?_ | exact VLe.refl _ | exact VLe.own_sl _ _ _ | exact VLe.fl_sl _ _ | exact VLe.nil_sl _ | exact VLe.nil_fl _ | refine VLe.agg ?_))) ⟨by repeat (first | exact uE | refine uN (by omega) ?_ | assumption | exact hd _ (by omega) | fail), trivial⟩ (by omega) ?_
  refine rl0 (gn rfl) rfl rfl (step_conv_id rfl rfl Try.underlying23 Try.underlying50 (wu32 (by exact ⟨n2.1, by have := n2.2; omega⟩))) trivial ?_
  refine rl0 (gn rfl) rfl rfl (step_mv rfl rfl) trivial ?_
  refine rl1 (gn rfl) rfl rfl (step_callc rfl Try.func43 rfl rfl rfl (num_c k (q3 (xs, bad)).1 (q3 (xs, bad)).2 4 (by constructor <;> omega) o3.1 o3.2) (by repeat (first | exact .nil | refine .cons ?_ ?_ | exact VLe.refl _ | exact VLe.own_sl _ _ _ | exact VLe.fl_sl _ _ | exact VLe.nil_sl _ | exact VLe.nil_fl _ | refine VLe.agg ?_))) ⟨by repeat (first | exact uE | refine uN (by omega) ?_ | assumption | exact hd _ (by omega) | fail), trivial⟩ (by omega) ?_
  refine rl0 (gn rfl) rfl rfl (step_conv_id rfl rfl Try.underlying23 Try.underlying50 (wu32 (by exact ⟨n3.1, by have := n3.2; omega⟩))) trivial ?_
  refine rl0 (gn rfl) rfl rfl (step_build (ss := [1, 1, 1, 1, 1, 1]) (zs := [.int .u64 0, .int .u64 0, .int .u32 0, .int .u32 0, .string ByteArray.empty, .bool false]) rfl Try.underlying52 (by kernel_rfl) F.zero52 rfl rfl rfl) trivial ?_
  refine rl1 (gn rfl) rfl rfl (step_allocc (k := n + 1) (zs := [.int .u64 0, .int .u64 0, .int .u32 0, .int .u32 0, .string ByteArray.empty, .bool false]) (cs := [.sc (.int .u64 0), .sc (.int .u64 0), .sc (.int .u32 0), .sc (.int .u32 0), .sc (.string ByteArray.empty), .sc (.bool false)]) rfl F.zero52 (by first | rfl | simp) (by first | rfl | decide | simp) (by first | rfl | simp)) ⟨by repeat (first | exact uE | refine uN (by omega) ?_ | assumption | exact hd _ (by omega) | fail), trivial⟩ (by omega) ?_
  refine' rls (gn rfl) rfl (step_storeA rfl rfl rfl rfl F.agg52 ?hm ?hl) ⟨?hb, trivial⟩ ?hk ?_
  case hb => repeat (first | exact uE | refine uN (by omega) ?_ | assumption | exact hd _ (by omega) | fail)
  case hm => first | rfl | (simp; done) | (first | (simp; done) | (simp; omega) | omega)
  case hl => first | rfl | (simp; done) | (first | (simp; done) | (simp; omega) | omega)
  case hk => omega
  refine runsL_nil ?_
  refine runs_seq ?_
  refine runs_region ?_
  refine rl0 (gn rfl) rfl rfl (step_mv rfl rfl) trivial ?_
  refine rl1 (gn rfl) rfl rfl (step_callc rfl Try.func43 rfl rfl rfl (num_c k (q4 (xs, bad)).1 (q4 (xs, bad)).2 1 (by constructor <;> omega) o4.1 o4.2) (by repeat (first | exact .nil | refine .cons ?_ ?_ | exact VLe.refl _ | exact VLe.own_sl _ _ _ | exact VLe.fl_sl _ _ | exact VLe.nil_sl _ | exact VLe.nil_fl _ | refine VLe.agg ?_))) ⟨by repeat (first | exact uE | refine uN (by omega) ?_ | assumption | exact hd _ (by omega) | fail), trivial⟩ (by omega) ?_
  refine rl0 (gn rfl) rfl rfl (step_as rfl rfl) trivial ?_
  refine runsL_nil ?_
  refine runs_seq ?_
  refine runs_region ?_
  refine rl0 (gn rfl) rfl rfl (step_mv rfl rfl) trivial ?_
  refine rl0 (gn rfl) rfl rfl (step_binOp rfl (ev_mk rfl) (ev_mk rfl) run_eql) trivial ?_
  refine rl0 (gn rfl) rfl rfl (step_mv rfl rfl) trivial ?_
  refine rl1 (gn rfl) rfl rfl (step_callc rfl Try.func51 rfl rfl rfl (rtext_c k (q5 (xs, bad)).1 (q5 (xs, bad)).2 16 (by constructor <;> omega) o5.1 o5.2) (by repeat (first | exact .nil | refine .cons ?_ ?_ | exact VLe.refl _ | exact VLe.own_sl _ _ _ | exact VLe.fl_sl _ _ | exact VLe.nil_sl _ | exact VLe.nil_fl _ | refine VLe.agg ?_))) ⟨by repeat (first | exact uE | refine uN (by omega) ?_ | assumption | exact hd _ (by omega) | fail), trivial⟩ (by omega) ?_
  refine rl0 (gn rfl) rfl rfl (step_fieldAddr (off := 5) rfl (ev_mk rfl) Try.underlying52 rfl F.sz4 rfl) trivial ?_
  refine' rls (gn rfl) rfl (step_store1 rfl rfl rfl rfl F.one4 rfl rfl ?hl ?hc) ⟨?hb, trivial⟩ ?hk ?_
  case hb => repeat (first | exact uE | refine uN (by omega) ?_ | assumption | exact hd _ (by omega) | fail)
  case hl => first | exact Nat.le_of_ble_eq_true rfl | decide | (simp; done) | (simp; omega) | (first | (simp; done) | (simp; omega) | omega)
  case hc => first | (simp only [List.set_cons_succ, List.set_cons_zero]; rfl) | rfl
  case hk => omega
  refine rl0 (gn rfl) rfl rfl (step_fieldAddr (off := 4) rfl (ev_mk rfl) Try.underlying52 rfl F.sz9 rfl) trivial ?_
  refine' rls (gn rfl) rfl (step_store1 rfl rfl rfl rfl F.one9 rfl rfl ?hl ?hc) ⟨?hb, trivial⟩ ?hk ?_
  case hb => repeat (first | exact uE | refine uN (by omega) ?_ | assumption | exact hd _ (by omega) | fail)
  case hl => first | exact Nat.le_of_ble_eq_true rfl | decide | (simp; done) | (simp; omega) | (first | (simp; done) | (simp; omega) | omega)
  case hc => first | (simp only [List.set_cons_succ, List.set_cons_zero]; rfl) | rfl
  case hk => omega
  refine runsL_nil ?_
  refine runs_seq ?_
  refine runs_seq ?_
  refine runs_region ?_
  refine rl0 (gn rfl) rfl rfl (step_mv rfl rfl) trivial ?_
  refine rl_gtr (gn rfl) rfl rfl rfl rfl rfl (fun h1 => ?_) (fun h1 => ?_)
  · exact False.elim (by exact absurd hx1.1 (Int.not_le.2 h1))
  refine rl0 (gn rfl) rfl rfl (step_mv rfl rfl) trivial ?_
  refine rl0 (gy rfl rfl rfl rfl rfl rfl) rfl rfl (step_mv rfl rfl) trivial ?_
  refine rl0 (gy rfl rfl rfl rfl rfl rfl) rfl rfl (step_callc rfl Try.func52 rfl rfl rfl (right_c k (q6 (xs, bad)).1 (q6 (xs, bad)).2) (by repeat (first | exact .nil | refine .cons ?_ ?_ | exact VLe.refl _ | exact VLe.own_sl _ _ _ | exact VLe.fl_sl _ _ | exact VLe.nil_sl _ | exact VLe.nil_fl _ | refine VLe.agg ?_))) ⟨by repeat (first | exact uE | refine uN (by omega) ?_ | assumption | exact hd _ (by omega) | fail), trivial⟩ ?_
  refine rl0 (gy rfl rfl rfl rfl rfl rfl) rfl rfl (step_unOp rfl (ev_mk rfl) (fun _ => rfl)) trivial ?_
  refine rl_know (d := 30) (c := false) rfl (by rw [hx2]; rfl) ?_
  refine rl0 (gn rfl) rfl rfl (step_pick rfl (ev_mk rfl) (ev_mk rfl)) trivial ?_
  refine runsL_nil ?_
  refine runs_cond false (ev_mk rfl) (fun h_ => nomatch h_) (fun _ => ?_)
  refine runs_skip ?_
  refine runs_seq ?_
  refine runs_region ?_
  refine' rl0 (gn rfl) rfl rfl (step_load_all rfl rfl F.agg52 ?hl) ⟨?hb, trivial⟩ ?_
  case hb => repeat (first | exact uE | refine uN (by omega) ?_ | assumption | exact hd _ (by omega) | fail)
  case hl => first | rfl | (simp; done) | (first | (simp; done) | (simp; omega) | omega)
  refine' rls (gn rfl) rfl (step_storeA rfl rfl rfl rfl F.agg52 ?hm ?hl) ⟨?hb, trivial⟩ ?hk ?_
  case hb => repeat (first | exact uE | refine uN (by omega) ?_ | assumption | exact hd _ (by omega) | fail)
  case hm => first | rfl | (simp; done) | (first | (simp; done) | (simp; omega) | omega)
  case hl => first | rfl | (simp; done) | (first | (simp; done) | (simp; omega) | omega)
  case hk => omega
  refine rl0 (gn rfl) rfl rfl (step_as rfl rfl) trivial ?_
  refine runsL_nil ?_
  refine runs_ret ?_
  refine ⟨by first | exact .inr rfl | exact .inl rfl, fin_mkg (resc rfl (by repeat (first | exact uE | refine uN (by omega) ?_ | assumption | exact hd _ (by omega) | fail)) F.agg52 (by first | rfl | (simp; done) | (first | (simp; done) | (simp; omega) | omega)) (rest rfl res0)) ?_ ?_ ?_ ?_ ?_⟩
  · (repeat' (first | exact VLe.refl _ | exact VLe.own_sl _ _ _ | exact VLe.fl_sl _ _ | exact VLe.nil_sl _ | exact VLe.nil_fl _ | exact VLes.refl _ | exact .nil | refine VLe.tup ?_ | refine VLe.agg ?_ | refine .cons ?_ ?_ | (rw [Int.natCast_add]; exact VLe.refl _) | exact vle_int (by omega) | exact vle_bool (by first | rfl | assumption | (simp_all; done) | fail) | fail))
  · repeat (first | exact trivial | assumption | omega | (refine bdR_map (fun _ => ?_)) | (refine bdL_map (fun _ => ?_)) | refine ⟨?_, ?_⟩ | fail)
  · intro k_ hk_; simp only [upds]; by_cases e_ : k_ = k; (focus subst e_; refine bl_eq ?_; first | (refine' blec ?hb ?hl; (case hb => repeat (first | exact uE | assumption | refine uN (by omega) ?_ | fail)); (case hl => first | exact VLes.refl _ | ((repeat' (first | exact VLe.refl _ | exact VLe.own_sl _ _ _ | exact VLe.fl_sl _ _ | exact VLe.nil_sl _ | exact VLe.nil_fl _ | exact VLes.refl _ | exact .nil | refine VLe.tup ?_ | refine VLe.agg ?_ | refine .cons ?_ ?_ | (rw [Int.natCast_add]; exact VLe.refl _) | exact vle_int (by omega) | exact vle_bool (by first | rfl | assumption | (simp_all; done) | fail) | fail)); done))) | (refine ble ?_; (repeat (first | exact uE | assumption | refine uN (by omega) ?_ | fail)); done) | exact ble (tl_eq (by repeat (first | exact uE | assumption | refine uN (by omega) ?_ | fail)) (by first | rfl | (simp [bytesV, beB_len]; done) | (simp [bytesV, beB_len]; omega) | omega))); refine bl_ne e_ ?_; exact ble (by repeat (first | exact rfl | refine uN (by omega) ?_ | assumption | fail))
  · intro p hp cs hcs; simp only [List.mem_cons, List.not_mem_nil, or_false] at hp; (first | (rcases hp with rfl)) <;> (first | (cases hcs; done) | (cases hcs; repeat (first | exact trivial | assumption | omega | (refine bdR_map (fun _ => ?_)) | (refine bdL_map (fun _ => ?_)) | refine ⟨?_, ?_⟩ | fail)))
  · repeat (first | exact trivial | assumption | omega | (refine bdR_map (fun _ => ?_)) | (refine bdL_map (fun _ => ?_)) | refine ⟨?_, ?_⟩ | fail)
def zRc : Rc := ⟨0, 0, 0, 0, ByteArray.empty, false⟩
theorem rr_bad {s : List Int × Bool} (h : rrOK s = false) (h1 : ¬ beN (low8 (rdT (q4 s).1 (q4 s).2 1)) > 1) : (q6 s).2 = true := by
  have h2 : decide (rN (q4 s) 1 ≤ 1) = true := decide_eq_true (Int.not_lt.1 h1)
  unfold rrOK at h; rw [h2, Bool.true_and] at h
  unfold q6; rw [h]; rfl
set_option maxRecDepth 100000 in
set_option maxHeartbeats 4000000 in
theorem rr_no (k : Nat) (xs : List Int) (bad : Bool) (hb : Byts xs) (hl : xs.length ≤ 1000000000) (h : rrOK (xs, bad) = false) : Does Try.prog 44 [.ref k 0] [(k, .cells (rdB xs bad))] [(k, .cells (rdB (q6 (xs, bad)).1 (q6 (xs, bad)).2))] (.tup [.agg (rcC zRc), .sc (.bool false)]) := by
  refine does_mkg 40 Try.func44 rfl rfl rfl (fun n B bx hd hpre hup hvs hbx hgx => ?_)
  have hp0 := hpre.1
  have hk0 := lt_cells hd hp0
  have hu0 := hup.1
  have o0 : okS (xs, bad) := ⟨hb, hl⟩
  have o1 : okS (q1 (xs, bad)) := okS_rS o0 8
  have o2 : okS (q2 (xs, bad)) := okS_rS o1 8
  have o3 : okS (q3 (xs, bad)) := okS_rS o2 4
  have o4 : okS (q4 (xs, bad)) := okS_rS o3 4
  have o5 : okS (q5 (xs, bad)) := okS_rS o4 1
  have n2 := rN_lt4 o2
  have n3 := rN_lt4 o3
  have n4 := rN_lt1 o4
  refine runs_seq ?_
  refine runs_region ?_
  refine rl1 (gn rfl) rfl rfl (step_allocc (k := n + 0) (zs := [.int .u64 0, .int .u64 0, .int .u32 0, .int .u32 0, .string ByteArray.empty, .bool false]) (cs := [.sc (.int .u64 0), .sc (.int .u64 0), .sc (.int .u32 0), .sc (.int .u32 0), .sc (.string ByteArray.empty), .sc (.bool false)]) rfl F.zero52 (by first | rfl | simp) (by first | rfl | decide | simp) (by first | rfl | simp)) ⟨by repeat (first | exact uE | refine uN (by omega) ?_ | assumption | exact hd _ (by omega) | fail), trivial⟩ (by omega) ?_
  refine rl0 (gn rfl) rfl rfl (step_as rfl rfl) trivial ?_
  refine runsL_nil ?_
  refine runs_seq ?_
  refine runs_region ?_
  refine rl0 (gn rfl) rfl rfl (step_mv rfl rfl) trivial ?_
  refine rl1 (gn rfl) rfl rfl (step_callc rfl Try.func43 rfl rfl rfl (num_c k (xs, bad).1 (xs, bad).2 8 (by constructor <;> omega) o0.1 o0.2) (by repeat (first | exact .nil | refine .cons ?_ ?_ | exact VLe.refl _ | exact VLe.own_sl _ _ _ | exact VLe.fl_sl _ _ | exact VLe.nil_sl _ | exact VLe.nil_fl _ | refine VLe.agg ?_))) ⟨by repeat (first | exact uE | refine uN (by omega) ?_ | assumption | exact hd _ (by omega) | fail), trivial⟩ (by omega) ?_
  refine rl0 (gn rfl) rfl rfl (step_mv rfl rfl) trivial ?_
  refine rl1 (gn rfl) rfl rfl (step_callc rfl Try.func43 rfl rfl rfl (num_c k (q1 (xs, bad)).1 (q1 (xs, bad)).2 8 (by constructor <;> omega) o1.1 o1.2) (by repeat (first | exact .nil | refine .cons ?_ ?_ | exact VLe.refl _ | exact VLe.own_sl _ _ _ | exact VLe.fl_sl _ _ | exact VLe.nil_sl _ | exact VLe.nil_fl _ | refine VLe.agg ?_))) ⟨by repeat (first | exact uE | refine uN (by omega) ?_ | assumption | exact hd _ (by omega) | fail), trivial⟩ (by omega) ?_
  refine rl0 (gn rfl) rfl rfl (step_mv rfl rfl) trivial ?_
  refine rl1 (gn rfl) rfl rfl (step_callc rfl Try.func43 rfl rfl rfl (num_c k (q2 (xs, bad)).1 (q2 (xs, bad)).2 4 (by constructor <;> omega) o2.1 o2.2) (by repeat (first | exact .nil | refine .cons ?_ ?_ | exact VLe.refl _ | exact VLe.own_sl _ _ _ | exact VLe.fl_sl _ _ | exact VLe.nil_sl _ | exact VLe.nil_fl _ | refine VLe.agg ?_))) ⟨by repeat (first | exact uE | refine uN (by omega) ?_ | assumption | exact hd _ (by omega) | fail), trivial⟩ (by omega) ?_
  refine rl0 (gn rfl) rfl rfl (step_conv_id rfl rfl Try.underlying23 Try.underlying50 (wu32 (by exact ⟨n2.1, by have := n2.2; omega⟩))) trivial ?_
  refine rl0 (gn rfl) rfl rfl (step_mv rfl rfl) trivial ?_
  refine rl1 (gn rfl) rfl rfl (step_callc rfl Try.func43 rfl rfl rfl (num_c k (q3 (xs, bad)).1 (q3 (xs, bad)).2 4 (by constructor <;> omega) o3.1 o3.2) (by repeat (first | exact .nil | refine .cons ?_ ?_ | exact VLe.refl _ | exact VLe.own_sl _ _ _ | exact VLe.fl_sl _ _ | exact VLe.nil_sl _ | exact VLe.nil_fl _ | refine VLe.agg ?_))) ⟨by repeat (first | exact uE | refine uN (by omega) ?_ | assumption | exact hd _ (by omega) | fail), trivial⟩ (by omega) ?_
  refine rl0 (gn rfl) rfl rfl (step_conv_id rfl rfl Try.underlying23 Try.underlying50 (wu32 (by exact ⟨n3.1, by have := n3.2; omega⟩))) trivial ?_
  refine rl0 (gn rfl) rfl rfl (step_build (ss := [1, 1, 1, 1, 1, 1]) (zs := [.int .u64 0, .int .u64 0, .int .u32 0, .int .u32 0, .string ByteArray.empty, .bool false]) rfl Try.underlying52 (by kernel_rfl) F.zero52 rfl rfl rfl) trivial ?_
  refine rl1 (gn rfl) rfl rfl (step_allocc (k := n + 1) (zs := [.int .u64 0, .int .u64 0, .int .u32 0, .int .u32 0, .string ByteArray.empty, .bool false]) (cs := [.sc (.int .u64 0), .sc (.int .u64 0), .sc (.int .u32 0), .sc (.int .u32 0), .sc (.string ByteArray.empty), .sc (.bool false)]) rfl F.zero52 (by first | rfl | simp) (by first | rfl | decide | simp) (by first | rfl | simp)) ⟨by repeat (first | exact uE | refine uN (by omega) ?_ | assumption | exact hd _ (by omega) | fail), trivial⟩ (by omega) ?_
  refine' rls (gn rfl) rfl (step_storeA rfl rfl rfl rfl F.agg52 ?hm ?hl) ⟨?hb, trivial⟩ ?hk ?_
  case hb => repeat (first | exact uE | refine uN (by omega) ?_ | assumption | exact hd _ (by omega) | fail)
  case hm => first | rfl | (simp; done) | (first | (simp; done) | (simp; omega) | omega)
  case hl => first | rfl | (simp; done) | (first | (simp; done) | (simp; omega) | omega)
  case hk => omega
  refine runsL_nil ?_
  refine runs_seq ?_
  refine runs_region ?_
  refine rl0 (gn rfl) rfl rfl (step_mv rfl rfl) trivial ?_
  refine rl1 (gn rfl) rfl rfl (step_callc rfl Try.func43 rfl rfl rfl (num_c k (q4 (xs, bad)).1 (q4 (xs, bad)).2 1 (by constructor <;> omega) o4.1 o4.2) (by repeat (first | exact .nil | refine .cons ?_ ?_ | exact VLe.refl _ | exact VLe.own_sl _ _ _ | exact VLe.fl_sl _ _ | exact VLe.nil_sl _ | exact VLe.nil_fl _ | refine VLe.agg ?_))) ⟨by repeat (first | exact uE | refine uN (by omega) ?_ | assumption | exact hd _ (by omega) | fail), trivial⟩ (by omega) ?_
  refine rl0 (gn rfl) rfl rfl (step_as rfl rfl) trivial ?_
  refine runsL_nil ?_
  refine runs_seq ?_
  refine runs_region ?_
  refine rl0 (gn rfl) rfl rfl (step_mv rfl rfl) trivial ?_
  refine rl0 (gn rfl) rfl rfl (step_binOp rfl (ev_mk rfl) (ev_mk rfl) run_eql) trivial ?_
  refine rl0 (gn rfl) rfl rfl (step_mv rfl rfl) trivial ?_
  refine rl1 (gn rfl) rfl rfl (step_callc rfl Try.func51 rfl rfl rfl (rtext_c k (q5 (xs, bad)).1 (q5 (xs, bad)).2 16 (by constructor <;> omega) o5.1 o5.2) (by repeat (first | exact .nil | refine .cons ?_ ?_ | exact VLe.refl _ | exact VLe.own_sl _ _ _ | exact VLe.fl_sl _ _ | exact VLe.nil_sl _ | exact VLe.nil_fl _ | refine VLe.agg ?_))) ⟨by repeat (first | exact uE | refine uN (by omega) ?_ | assumption | exact hd _ (by omega) | fail), trivial⟩ (by omega) ?_
  refine rl0 (gn rfl) rfl rfl (step_fieldAddr (off := 5) rfl (ev_mk rfl) Try.underlying52 rfl F.sz4 rfl) trivial ?_
  refine' rls (gn rfl) rfl (step_store1 rfl rfl rfl rfl F.one4 rfl rfl ?hl ?hc) ⟨?hb, trivial⟩ ?hk ?_
  case hb => repeat (first | exact uE | refine uN (by omega) ?_ | assumption | exact hd _ (by omega) | fail)
  case hl => first | exact Nat.le_of_ble_eq_true rfl | decide | (simp; done) | (simp; omega) | (first | (simp; done) | (simp; omega) | omega)
  case hc => first | (simp only [List.set_cons_succ, List.set_cons_zero]; rfl) | rfl
  case hk => omega
  refine rl0 (gn rfl) rfl rfl (step_fieldAddr (off := 4) rfl (ev_mk rfl) Try.underlying52 rfl F.sz9 rfl) trivial ?_
  refine' rls (gn rfl) rfl (step_store1 rfl rfl rfl rfl F.one9 rfl rfl ?hl ?hc) ⟨?hb, trivial⟩ ?hk ?_
  case hb => repeat (first | exact uE | refine uN (by omega) ?_ | assumption | exact hd _ (by omega) | fail)
  case hl => first | exact Nat.le_of_ble_eq_true rfl | decide | (simp; done) | (simp; omega) | (first | (simp; done) | (simp; omega) | omega)
  case hc => first | (simp only [List.set_cons_succ, List.set_cons_zero]; rfl) | rfl
  case hk => omega
  refine runsL_nil ?_
  refine runs_seq ?_
  refine runs_seq ?_
  refine runs_region ?_
  refine rl0 (gn rfl) rfl rfl (step_mv rfl rfl) trivial ?_
  refine rl_gtr (gn rfl) rfl rfl rfl rfl rfl (fun h1 => ?_) (fun h1 => ?_)
  · skip
    refine rl0 (gn rfl) rfl rfl (step_mv rfl rfl) trivial ?_
    refine rlk rfl rfl rfl rfl rfl (ngb rfl rfl) rfl rfl ?_
    refine rlk rfl rfl rfl rfl rfl (ngb rfl rfl) rfl rfl ?_
    refine rlk rfl rfl rfl rfl rfl (ngb rfl rfl) rfl rfl ?_
    refine rl0 (gn rfl) rfl rfl (step_pick rfl (ev_mk rfl) (ev_mk rfl)) trivial ?_
    refine runsL_nil ?_
    refine runs_cond true (ev_mk rfl) (fun _ => ?_) (fun h_ => nomatch h_)
    refine runs_seq ?_
    refine runs_region ?_
    refine rl0 (gn rfl) rfl rfl (step_build (ss := [1, 1, 1, 1, 1, 1]) (zs := [.int .u64 0, .int .u64 0, .int .u32 0, .int .u32 0, .string ByteArray.empty, .bool false]) rfl Try.underlying52 (by kernel_rfl) F.zero52 rfl rfl rfl) trivial ?_
    refine' rls (gn rfl) rfl (step_storeA rfl rfl rfl rfl F.agg52 ?hm ?hl) ⟨?hb, trivial⟩ ?hk ?_
    case hb => repeat (first | exact uE | refine uN (by omega) ?_ | assumption | exact hd _ (by omega) | fail)
    case hm => first | rfl | (simp; done) | (first | (simp; done) | (simp; omega) | omega)
    case hl => first | rfl | (simp; done) | (first | (simp; done) | (simp; omega) | omega)
    case hk => omega
    refine rl0 (gn rfl) rfl rfl (step_as rfl rfl) trivial ?_
    refine runsL_nil ?_
    refine runs_ret ?_
    refine ⟨by first | exact .inr rfl | exact .inl rfl, fin_mkg (resc rfl (by repeat (first | exact uE | refine uN (by omega) ?_ | assumption | exact hd _ (by omega) | fail)) F.agg52 (by first | rfl | (simp; done) | (first | (simp; done) | (simp; omega) | omega)) (rest rfl res0)) ?_ ?_ ?_ ?_ ?_⟩
    · (repeat' (first | exact VLe.refl _ | exact VLe.own_sl _ _ _ | exact VLe.fl_sl _ _ | exact VLe.nil_sl _ | exact VLe.nil_fl _ | exact VLes.refl _ | exact .nil | refine VLe.tup ?_ | refine VLe.agg ?_ | refine .cons ?_ ?_ | (rw [Int.natCast_add]; exact VLe.refl _) | exact vle_int (by omega) | exact vle_bool (by first | rfl | assumption | (simp_all; done) | fail) | fail))
    · repeat (first | exact trivial | assumption | omega | (refine bdR_map (fun _ => ?_)) | (refine bdL_map (fun _ => ?_)) | refine ⟨?_, ?_⟩ | fail)
    · intro k_ hk_; simp only [upds]; by_cases e_ : k_ = k; (focus subst e_; refine bl_eq ?_; first | (refine' blec ?hb ?hl; (case hb => repeat (first | exact uE | assumption | refine uN (by omega) ?_ | fail)); (case hl => first | exact VLes.refl _ | ((repeat' (first | exact VLe.refl _ | exact VLe.own_sl _ _ _ | exact VLe.fl_sl _ _ | exact VLe.nil_sl _ | exact VLe.nil_fl _ | exact VLes.refl _ | exact .nil | refine VLe.tup ?_ | refine VLe.agg ?_ | refine .cons ?_ ?_ | (rw [Int.natCast_add]; exact VLe.refl _) | exact vle_int (by omega) | exact vle_bool (by first | rfl | assumption | (simp_all; done) | fail) | fail)); done))) | (refine ble ?_; (repeat (first | exact uE | assumption | refine uN (by omega) ?_ | fail)); done) | exact ble (tl_eq (by repeat (first | exact uE | assumption | refine uN (by omega) ?_ | fail)) (by first | rfl | (simp [bytesV, beB_len]; done) | (simp [bytesV, beB_len]; omega) | omega))); refine bl_ne e_ ?_; exact ble (by repeat (first | exact rfl | refine uN (by omega) ?_ | assumption | fail))
    · intro p hp cs hcs; simp only [List.mem_cons, List.not_mem_nil, or_false] at hp; (first | (rcases hp with rfl)) <;> (first | (cases hcs; done) | (cases hcs; repeat (first | exact trivial | assumption | omega | (refine bdR_map (fun _ => ?_)) | (refine bdL_map (fun _ => ?_)) | refine ⟨?_, ?_⟩ | fail)))
    · repeat (first | exact trivial | assumption | omega | (refine bdR_map (fun _ => ?_)) | (refine bdL_map (fun _ => ?_)) | refine ⟨?_, ?_⟩ | fail)
  · skip
    refine rl0 (gn rfl) rfl rfl (step_mv rfl rfl) trivial ?_
    refine rl0 (gy rfl rfl rfl rfl rfl rfl) rfl rfl (step_mv rfl rfl) trivial ?_
    refine rl0 (gy rfl rfl rfl rfl rfl rfl) rfl rfl (step_callc rfl Try.func52 rfl rfl rfl (right_c k (q6 (xs, bad)).1 (q6 (xs, bad)).2) (by repeat (first | exact .nil | refine .cons ?_ ?_ | exact VLe.refl _ | exact VLe.own_sl _ _ _ | exact VLe.fl_sl _ _ | exact VLe.nil_sl _ | exact VLe.nil_fl _ | refine VLe.agg ?_))) ⟨by repeat (first | exact uE | refine uN (by omega) ?_ | assumption | exact hd _ (by omega) | fail), trivial⟩ ?_
    refine rl0 (gy rfl rfl rfl rfl rfl rfl) rfl rfl (step_unOp rfl (ev_mk rfl) (fun _ => rfl)) trivial ?_
    refine rl_know (d := 30) (c := true) rfl (by have hz_ : (q6 (xs, bad)).2 = true := rr_bad h (by assumption); rw [hz_]; rfl) ?_
    refine rl0 (gn rfl) rfl rfl (step_pick rfl (ev_mk rfl) (ev_mk rfl)) trivial ?_
    refine runsL_nil ?_
    refine runs_cond true (ev_mk rfl) (fun _ => ?_) (fun h_ => nomatch h_)
    refine runs_seq ?_
    refine runs_region ?_
    refine rl0 (gn rfl) rfl rfl (step_build (ss := [1, 1, 1, 1, 1, 1]) (zs := [.int .u64 0, .int .u64 0, .int .u32 0, .int .u32 0, .string ByteArray.empty, .bool false]) rfl Try.underlying52 (by kernel_rfl) F.zero52 rfl rfl rfl) trivial ?_
    refine' rls (gn rfl) rfl (step_storeA rfl rfl rfl rfl F.agg52 ?hm ?hl) ⟨?hb, trivial⟩ ?hk ?_
    case hb => repeat (first | exact uE | refine uN (by omega) ?_ | assumption | exact hd _ (by omega) | fail)
    case hm => first | rfl | (simp; done) | (first | (simp; done) | (simp; omega) | omega)
    case hl => first | rfl | (simp; done) | (first | (simp; done) | (simp; omega) | omega)
    case hk => omega
    refine rl0 (gn rfl) rfl rfl (step_as rfl rfl) trivial ?_
    refine runsL_nil ?_
    refine runs_ret ?_
    refine ⟨by first | exact .inr rfl | exact .inl rfl, fin_mkg (resc rfl (by repeat (first | exact uE | refine uN (by omega) ?_ | assumption | exact hd _ (by omega) | fail)) F.agg52 (by first | rfl | (simp; done) | (first | (simp; done) | (simp; omega) | omega)) (rest rfl res0)) ?_ ?_ ?_ ?_ ?_⟩
    · (repeat' (first | exact VLe.refl _ | exact VLe.own_sl _ _ _ | exact VLe.fl_sl _ _ | exact VLe.nil_sl _ | exact VLe.nil_fl _ | exact VLes.refl _ | exact .nil | refine VLe.tup ?_ | refine VLe.agg ?_ | refine .cons ?_ ?_ | (rw [Int.natCast_add]; exact VLe.refl _) | exact vle_int (by omega) | exact vle_bool (by first | rfl | assumption | (simp_all; done) | fail) | fail))
    · repeat (first | exact trivial | assumption | omega | (refine bdR_map (fun _ => ?_)) | (refine bdL_map (fun _ => ?_)) | refine ⟨?_, ?_⟩ | fail)
    · intro k_ hk_; simp only [upds]; by_cases e_ : k_ = k; (focus subst e_; refine bl_eq ?_; first | (refine' blec ?hb ?hl; (case hb => repeat (first | exact uE | assumption | refine uN (by omega) ?_ | fail)); (case hl => first | exact VLes.refl _ | ((repeat' (first | exact VLe.refl _ | exact VLe.own_sl _ _ _ | exact VLe.fl_sl _ _ | exact VLe.nil_sl _ | exact VLe.nil_fl _ | exact VLes.refl _ | exact .nil | refine VLe.tup ?_ | refine VLe.agg ?_ | refine .cons ?_ ?_ | (rw [Int.natCast_add]; exact VLe.refl _) | exact vle_int (by omega) | exact vle_bool (by first | rfl | assumption | (simp_all; done) | fail) | fail)); done))) | (refine ble ?_; (repeat (first | exact uE | assumption | refine uN (by omega) ?_ | fail)); done) | exact ble (tl_eq (by repeat (first | exact uE | assumption | refine uN (by omega) ?_ | fail)) (by first | rfl | (simp [bytesV, beB_len]; done) | (simp [bytesV, beB_len]; omega) | omega))); refine bl_ne e_ ?_; exact ble (by repeat (first | exact rfl | refine uN (by omega) ?_ | assumption | fail))
    · intro p hp cs hcs; simp only [List.mem_cons, List.not_mem_nil, or_false] at hp; (first | (rcases hp with rfl)) <;> (first | (cases hcs; done) | (cases hcs; repeat (first | exact trivial | assumption | omega | (refine bdR_map (fun _ => ?_)) | (refine bdL_map (fun _ => ?_)) | refine ⟨?_, ?_⟩ | fail)))
    · repeat (first | exact trivial | assumption | omega | (refine bdR_map (fun _ => ?_)) | (refine bdL_map (fun _ => ?_)) | refine ⟨?_, ?_⟩ | fail)
end Go.Proofs.Ytldlmmpniddbcaa
