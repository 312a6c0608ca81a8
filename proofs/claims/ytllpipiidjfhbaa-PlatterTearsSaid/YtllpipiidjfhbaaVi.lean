/- Walks of the platter, by the logic of values. -/
import Derived.Test.YtllpipiidjfhbaaVh
namespace Go.Proofs.Ytllpipiidjfhbaa
open Go.Vm
set_option linter.unusedVariables false
set_option linter.unusedSimpArgs false
def r_ (b : Int) : List Int := List.replicate 64 b
theorem r_len (b : Int) : (r_ b).length = 64 := by simp [r_]
def T1 : List (List Int) := [r_ 0, r_ 5, r_ 6, r_ 0]
def T2 : List (List Int) := [r_ 0, r_ 8, r_ 6, r_ 0]
def T3 : List (List Int) := [r_ 0, r_ 8, r_ 6]
theorem T1_row : ∀ r ∈ T1, r.length = 64 := by intro r hr; simp only [T1, List.mem_cons, List.not_mem_nil, or_false] at hr; rcases hr with rfl | rfl | rfl | rfl <;> exact r_len _
theorem T2_row : ∀ r ∈ T2, r.length = 64 := by intro r hr; simp only [T2, List.mem_cons, List.not_mem_nil, or_false] at hr; rcases hr with rfl | rfl | rfl | rfl <;> exact r_len _
theorem T3_row : ∀ r ∈ T3, r.length = 64 := by intro r hr; simp only [T3, List.mem_cons, List.not_mem_nil, or_false] at hr; rcases hr with rfl | rfl | rfl <;> exact r_len _
theorem T1_len : T1.length = 4 := rfl
theorem T2_len : T2.length = 4 := rfl
theorem step_eql48t {o : Oper} {l : List (Nat × V)} {x y : Operand} {a b : List Int} {ty2 : TypeId} (ho : o.op = .binOp .eql 48 x y ty2) (hx : lko l x = some (.agg (a.map bV))) (hy : lko l y = some (.agg (b.map bV))) (ha : a.length = 64) (hab : a = b) : StepOK Try.prog o (mk l) [] [] (.sc (.bool true)) := by
  subst hab
  rw [bV_sc] at hx hy
  refine step_eq_agg (xs := a.map fun x => Value.int .u8 x) (ys := a.map fun x => Value.int .u8 x) ho (ev_mk hx) (ev_mk hy) shape48 (by omega) ⟨_, Try.underlying48, rfl⟩ eqg48 (fits_ints a 64 ha) (fits_ints a 64 ha) (.inl ⟨rfl, ?_⟩)
  rw [eqCs_ints a a rfl]; simp
theorem ok_0 : okS ⟨zS 4, 0, -1, [], false⟩ := ⟨zS_row 4, by show (zS 4).length ≤ 16384; rw [zS_len]; omega, by constructor <;> simp, by constructor <;> simp, by simp⟩
theorem ok_1 : okS ⟨T1, 1, -1, [], false⟩ := ⟨T1_row, by show (T1).length ≤ 16384; rw [T1_len]; omega, by constructor <;> simp, by constructor <;> simp, by simp⟩
theorem ok_2 : okS ⟨T1, 1, 0, [false, true], false⟩ := ⟨T1_row, by show (T1).length ≤ 16384; rw [T1_len]; omega, by constructor <;> simp, by constructor <;> simp, by simp⟩
theorem ok_3 : okS ⟨T2, 1, 0, [false, true], true⟩ := ⟨T2_row, by show (T2).length ≤ 16384; rw [T2_len]; omega, by constructor <;> simp, by constructor <;> simp, by simp⟩
theorem ok_4 : okS ⟨T2, 1, -1, [], false⟩ := ⟨T2_row, by show (T2).length ≤ 16384; rw [T2_len]; omega, by constructor <;> simp, by constructor <;> simp, by simp⟩
theorem wk_w1 (k1 k2 : Nat) (hkk : k1 ≠ k2) : Does Try.prog 15 [.ref k1 0, .sc (.int .i64 1), .sl 64 (secsV (secs [5, 6]))] [(k1, .cells [.msl k2 0 (zS 4).length (zS 4).length 64, .sc (.int .i64 (0)), .sc (.int .i64 (-1)), .sl 1 (boolsV ([])), .sc (.bool (false))]), (k2, .cells ((zS 4).flatten.map bV))] [(k2, .cells ((T1).flatten.map bV)), (k1, .cells [.msl k2 0 (T1).length (T1).length 64, .sc (.int .i64 (1)), .sc (.int .i64 (-1)), .sl 1 (boolsV ([])), .sc (.bool (false))])] (.sc (.int .i64 0)) := by
  have h := write_all k1 k2 ⟨zS 4, 0, -1, [], false⟩ hkk (ok_0) (secs [5, 6]) (secs_row _) 1 (by simp [secs]) ⟨by omega, by omega⟩
  rw [show stepW ⟨zS 4, 0, -1, [], false⟩ 1 (secs [5, 6]) = ⟨T1, 1, -1, [], false⟩ by kernel_rfl, show codeW ⟨zS 4, 0, -1, [], false⟩ 1 (secs [5, 6]) = 0 by kernel_rfl] at h
  exact h
theorem wk_w2 (k1 k2 : Nat) (hkk : k1 ≠ k2) : Does Try.prog 15 [.ref k1 0, .sc (.int .i64 3), .sl 64 (secsV (secs [5, 6]))] [(k1, .cells [.msl k2 0 (T1).length (T1).length 64, .sc (.int .i64 (1)), .sc (.int .i64 (-1)), .sl 1 (boolsV ([])), .sc (.bool (false))]), (k2, .cells ((T1).flatten.map bV))] [(k2, .cells ((T1).flatten.map bV)), (k1, .cells [.msl k2 0 (T1).length (T1).length 64, .sc (.int .i64 (1)), .sc (.int .i64 (-1)), .sl 1 (boolsV ([])), .sc (.bool (false))])] (.sc (.int .i64 2)) := by
  have h := write_all k1 k2 ⟨T1, 1, -1, [], false⟩ hkk (ok_1) (secs [5, 6]) (secs_row _) 3 (by simp [secs]) ⟨by omega, by omega⟩
  rw [show stepW ⟨T1, 1, -1, [], false⟩ 3 (secs [5, 6]) = ⟨T1, 1, -1, [], false⟩ by kernel_rfl, show codeW ⟨T1, 1, -1, [], false⟩ 3 (secs [5, 6]) = 2 by kernel_rfl] at h
  exact h
theorem wk_w3 (k1 k2 : Nat) (hkk : k1 ≠ k2) : Does Try.prog 15 [.ref k1 0, .sc (.int .i64 0), .sl 64 (secsV (secs [7, 8]))] [(k1, .cells [.msl k2 0 (T1).length (T1).length 64, .sc (.int .i64 (1)), .sc (.int .i64 (0)), .sl 1 (boolsV ([false, true])), .sc (.bool (false))]), (k2, .cells ((T1).flatten.map bV))] [(k2, .cells ((T2).flatten.map bV)), (k1, .cells [.msl k2 0 (T2).length (T2).length 64, .sc (.int .i64 (1)), .sc (.int .i64 (0)), .sl 1 (boolsV ([false, true])), .sc (.bool (true))])] (.sc (.int .i64 4)) := by
  have h := write_all k1 k2 ⟨T1, 1, 0, [false, true], false⟩ hkk (ok_2) (secs [7, 8]) (secs_row _) 0 (by simp [secs]) ⟨by omega, by omega⟩
  rw [show stepW ⟨T1, 1, 0, [false, true], false⟩ 0 (secs [7, 8]) = ⟨T2, 1, 0, [false, true], true⟩ by kernel_rfl, show codeW ⟨T1, 1, 0, [false, true], false⟩ 0 (secs [7, 8]) = 4 by kernel_rfl] at h
  exact h
theorem wk_r1 (k1 k2 : Nat) (hkk : k1 ≠ k2) : Does Try.prog 20 [.ref k1 0, .sc (.int .i64 0), .sc (.int .i64 1)] [(k1, .cells [.msl k2 0 (T2).length (T2).length 64, .sc (.int .i64 (1)), .sc (.int .i64 (0)), .sl 1 (boolsV ([false, true])), .sc (.bool (true))]), (k2, .cells ((T2).flatten.map bV))] [] (.tup [.sl 64 (secsV []), .sc (.int .i64 4)]) := by
  have h := read_all k1 k2 ⟨T2, 1, 0, [false, true], true⟩ (ok_3) 0 1 ⟨by omega, by omega⟩ ⟨by omega, by omega⟩
  rw [show readS ⟨T2, 1, 0, [false, true], true⟩ 0 1 = [] by kernel_rfl, show codeR ⟨T2, 1, 0, [false, true], true⟩ 0 1 = 4 by kernel_rfl] at h
  exact h
theorem wk_r2 (k1 k2 : Nat) (hkk : k1 ≠ k2) : Does Try.prog 20 [.ref k1 0, .sc (.int .i64 0), .sc (.int .i64 3)] [(k1, .cells [.msl k2 0 (T2).length (T2).length 64, .sc (.int .i64 (1)), .sc (.int .i64 (-1)), .sl 1 (boolsV ([])), .sc (.bool (false))]), (k2, .cells ((T2).flatten.map bV))] [] (.tup [.sl 64 (secsV T3), .sc (.int .i64 0)]) := by
  have h := read_all k1 k2 ⟨T2, 1, -1, [], false⟩ (ok_4) 0 3 ⟨by omega, by omega⟩ ⟨by omega, by omega⟩
  rw [show readS ⟨T2, 1, -1, [], false⟩ 0 3 = T3 by kernel_rfl, show codeR ⟨T2, 1, -1, [], false⟩ 0 3 = 0 by kernel_rfl] at h
  exact h
theorem wk_fuse (k1 k2 : Nat) (hkk : k1 ≠ k2) : Does Try.prog 14 [.ref k1 0, .sc (.int .i64 0), .sl 1 (boolsV [false, true])] [(k1, .cells [.msl k2 0 (T1).length (T1).length 64, .sc (.int .i64 (1)), .sc (.int .i64 (-1)), .sl 1 (boolsV ([])), .sc (.bool (false))]), (k2, .cells ((T1).flatten.map bV))] [(k1, .cells [.msl k2 0 (T1).length (T1).length 64, .sc (.int .i64 (1)), .sc (.int .i64 (0)), .sl 1 (boolsV ([false, true])), .sc (.bool (false))])] (.tup []) := by
  exact fuse_c k1 k2 T1 1 (-1) [] false 0 [false, true] (by simp)
set_option maxRecDepth 100000 in
set_option maxHeartbeats 4000000 in
theorem works_c  : Does Try.prog 6 [] [] [] (.sc (.bool true)) := by
  refine does_mk 20 Try.func6 rfl rfl rfl (fun n B bx hd hpre hup hvs hbx => ?_)
  refine runs_seq ?_
  refine runs_region ?_
  refine rl0 (gn rfl) rfl rfl (step_as rfl rfl) trivial ?_
  refine runsL_nil ?_
  refine runs_seq ?_
  refine runs_region ?_
  refine rl2 (gn rfl) rfl rfl (step_callc rfl Try.func7 rfl rfl rfl (new_ok 4 (by omega) (by omega) (n + 0) (n + 1) (by omega)) (by repeat (first | exact .nil | refine .cons ?_ ?_ | exact VLe.refl _ | exact VLe.own_sl _ _ _ | exact VLe.fl_sl _ _ | exact VLe.nil_sl _ | exact VLe.nil_fl _ | refine VLe.agg ?_))) ⟨by repeat (first | exact upd_eq _ _ _ | refine (upd_ne _ _ _ _ (by omega)).trans ?_ | assumption | exact hd _ (by omega) | exact hd0 _ (by omega) | exact hd1 _ (by omega) | exact hd2 _ (by omega) | fail), ⟨by repeat (first | exact upd_eq _ _ _ | refine (upd_ne _ _ _ _ (by omega)).trans ?_ | assumption | exact hd _ (by omega) | exact hd0 _ (by omega) | exact hd1 _ (by omega) | exact hd2 _ (by omega) | fail), trivial⟩⟩ (by omega) (by omega) ?_
  refine rl0 (gn rfl) rfl rfl (step_mv rfl rfl) trivial ?_
  refine rl0 (gn rfl) rfl rfl (step_extract rfl (ev_mk rfl) rfl) trivial ?_
  refine rl0 (gn rfl) rfl rfl (step_extract rfl (ev_mk rfl) rfl) trivial ?_
  refine rl0 (gn rfl) rfl rfl (step_as rfl rfl) trivial ?_
  refine rl0 (gn rfl) rfl rfl (step_as rfl rfl) trivial ?_
  refine runsL_nil ?_
  refine runs_seq ?_
  refine runs_region ?_
  refine rl0 (gn rfl) rfl rfl (step_callc rfl Try.func7 rfl rfl rfl (new_bad 0 (.inl (by omega))) (by repeat (first | exact .nil | refine .cons ?_ ?_ | exact VLe.refl _ | exact VLe.own_sl _ _ _ | exact VLe.fl_sl _ _ | exact VLe.nil_sl _ | exact VLe.nil_fl _ | refine VLe.agg ?_))) trivial ?_
  refine rl0 (gn rfl) rfl rfl (step_mv rfl rfl) trivial ?_
  refine rl0 (gn rfl) rfl rfl (step_extract rfl (ev_mk rfl) rfl) trivial ?_
  refine rl0 (gn rfl) rfl rfl (step_extract rfl (ev_mk rfl) rfl) trivial ?_
  refine rl0 (gn rfl) rfl rfl (step_as rfl rfl) trivial ?_
  refine rl0 (gn rfl) rfl rfl (step_as rfl rfl) trivial ?_
  refine runsL_nil ?_
  refine runs_seq ?_
  refine runs_seq ?_
  refine runs_region ?_
  refine rl0 (gn rfl) rfl rfl (step_mv rfl rfl) trivial ?_
  refine rl0 (gn rfl) rfl rfl (step_eq_nil (b := false) rfl (ev_mk rfl) (ev_mk rfl) Try.underlying25 ⟨_, .inl ⟨.inl ⟨_, _, rfl⟩, rfl⟩, .inl ⟨rfl, rfl⟩⟩) trivial ?_
  refine runsL_nil ?_
  refine runs_cond false (ev_mk rfl) (fun h_ => nomatch h_) (fun _ => ?_)
  refine runs_skip ?_
  refine runs_seq ?_
  refine runs_region ?_
  refine rl0 (gn rfl) rfl rfl (step_mv rfl rfl) trivial ?_
  refine rl0 (gn rfl) rfl rfl (step_lit rfl Try.underlying38 F.sz5 F.zero5 (by first | rfl | simp) (by first | rfl | simp | decide) (by decide) rfl rfl (by first | (simp [V.cs, V.stor, oneV]; done) | (simp [V.cs, V.stor, oneV])) rfl) trivial ?_
  refine rl0 (gn rfl) rfl rfl (step_callc rfl Try.func16 rfl rfl rfl (sectors_c [5, 6] (by simp)) (by repeat (first | exact .nil | refine .cons ?_ ?_ | exact VLe.refl _ | exact VLe.own_sl _ _ _ | exact VLe.fl_sl _ _ | exact VLe.nil_sl _ | exact VLe.nil_fl _ | refine VLe.agg ?_))) trivial ?_
  refine rl2 (gn rfl) rfl rfl (step_callc rfl Try.func15 rfl rfl rfl (wk_w1 (n + 0) (n + 1) (by omega)) (by repeat (first | exact .nil | refine .cons ?_ ?_ | exact VLe.refl _ | exact VLe.own_sl _ _ _ | exact VLe.fl_sl _ _ | exact VLe.nil_sl _ | exact VLe.nil_fl _ | refine VLe.agg ?_))) ⟨by repeat (first | exact upd_eq _ _ _ | refine (upd_ne _ _ _ _ (by omega)).trans ?_ | assumption | exact hd _ (by omega) | exact hd0 _ (by omega) | exact hd1 _ (by omega) | exact hd2 _ (by omega) | fail), ⟨by repeat (first | exact upd_eq _ _ _ | refine (upd_ne _ _ _ _ (by omega)).trans ?_ | assumption | exact hd _ (by omega) | exact hd0 _ (by omega) | exact hd1 _ (by omega) | exact hd2 _ (by omega) | fail), trivial⟩⟩ (by omega) (by omega) ?_
  refine rl0 (gn rfl) rfl rfl (step_as rfl rfl) trivial ?_
  refine runsL_nil ?_
  refine runs_seq ?_
  refine runs_region ?_
  refine rl0 (gn rfl) rfl rfl (step_mv rfl rfl) trivial ?_
  refine rl0 (gn rfl) rfl rfl (step_lit rfl Try.underlying38 F.sz5 F.zero5 (by first | rfl | simp) (by first | rfl | simp | decide) (by decide) rfl rfl (by first | (simp [V.cs, V.stor, oneV]; done) | (simp [V.cs, V.stor, oneV])) rfl) trivial ?_
  refine rl0 (gn rfl) rfl rfl (step_callc rfl Try.func16 rfl rfl rfl (sectors_c [5, 6] (by simp)) (by repeat (first | exact .nil | refine .cons ?_ ?_ | exact VLe.refl _ | exact VLe.own_sl _ _ _ | exact VLe.fl_sl _ _ | exact VLe.nil_sl _ | exact VLe.nil_fl _ | refine VLe.agg ?_))) trivial ?_
  refine rl2 (gn rfl) rfl rfl (step_callc rfl Try.func15 rfl rfl rfl (wk_w2 (n + 0) (n + 1) (by omega)) (by repeat (first | exact .nil | refine .cons ?_ ?_ | exact VLe.refl _ | exact VLe.own_sl _ _ _ | exact VLe.fl_sl _ _ | exact VLe.nil_sl _ | exact VLe.nil_fl _ | refine VLe.agg ?_))) ⟨by repeat (first | exact upd_eq _ _ _ | refine (upd_ne _ _ _ _ (by omega)).trans ?_ | assumption | exact hd _ (by omega) | exact hd0 _ (by omega) | exact hd1 _ (by omega) | exact hd2 _ (by omega) | fail), ⟨by repeat (first | exact upd_eq _ _ _ | refine (upd_ne _ _ _ _ (by omega)).trans ?_ | assumption | exact hd _ (by omega) | exact hd0 _ (by omega) | exact hd1 _ (by omega) | exact hd2 _ (by omega) | fail), trivial⟩⟩ (by omega) (by omega) ?_
  refine rl0 (gn rfl) rfl rfl (step_as rfl rfl) trivial ?_
  refine runsL_nil ?_
  refine runs_seq ?_
  refine runs_region ?_
  refine rl0 (gn rfl) rfl rfl (step_mv rfl rfl) trivial ?_
  refine rl1 (gn rfl) rfl rfl (step_callc rfl Try.func9 rfl rfl rfl (twin_c (n + 0) (n + 1) (n + 2) T1 1 (-1) [] false (by omega) (by omega) T1_row (by rw [T1_len]; omega) (by simp)) (by repeat (first | exact .nil | refine .cons ?_ ?_ | exact VLe.refl _ | exact VLe.own_sl _ _ _ | exact VLe.fl_sl _ _ | exact VLe.nil_sl _ | exact VLe.nil_fl _ | refine VLe.agg ?_))) ⟨by repeat (first | exact upd_eq _ _ _ | refine (upd_ne _ _ _ _ (by omega)).trans ?_ | assumption | exact hd _ (by omega) | exact hd0 _ (by omega) | exact hd1 _ (by omega) | exact hd2 _ (by omega) | fail), ⟨by repeat (first | exact upd_eq _ _ _ | refine (upd_ne _ _ _ _ (by omega)).trans ?_ | assumption | exact hd _ (by omega) | exact hd0 _ (by omega) | exact hd1 _ (by omega) | exact hd2 _ (by omega) | fail), ⟨by repeat (first | exact upd_eq _ _ _ | refine (upd_ne _ _ _ _ (by omega)).trans ?_ | assumption | exact hd _ (by omega) | exact hd0 _ (by omega) | exact hd1 _ (by omega) | exact hd2 _ (by omega) | fail), trivial⟩⟩⟩ (by omega) ?_
  refine rl0 (gn rfl) rfl rfl (step_as rfl rfl) trivial ?_
  refine runsL_nil ?_
  refine runs_seq ?_
  refine runs_region ?_
  refine rl0 (gn rfl) rfl rfl (step_mv rfl rfl) trivial ?_
  refine rl0 (gn rfl) rfl rfl (step_lit rfl Try.underlying30 F.sz4 F.zero4 (by first | rfl | simp) (by first | rfl | simp | decide) (by decide) rfl rfl (by first | (simp [V.cs, V.stor, oneV]; done) | (simp [V.cs, V.stor, oneV])) rfl) trivial ?_
  refine rl1 (gn rfl) rfl rfl (step_callc rfl Try.func14 rfl rfl rfl (wk_fuse (n + 0) (n + 1) (by omega)) (by repeat (first | exact .nil | refine .cons ?_ ?_ | exact VLe.refl _ | exact VLe.own_sl _ _ _ | exact VLe.fl_sl _ _ | exact VLe.nil_sl _ | exact VLe.nil_fl _ | refine VLe.agg ?_))) ⟨by repeat (first | exact upd_eq _ _ _ | refine (upd_ne _ _ _ _ (by omega)).trans ?_ | assumption | exact hd _ (by omega) | exact hd0 _ (by omega) | exact hd1 _ (by omega) | exact hd2 _ (by omega) | fail), ⟨by repeat (first | exact upd_eq _ _ _ | refine (upd_ne _ _ _ _ (by omega)).trans ?_ | assumption | exact hd _ (by omega) | exact hd0 _ (by omega) | exact hd1 _ (by omega) | exact hd2 _ (by omega) | fail), trivial⟩⟩ (by omega) ?_
  refine runsL_nil ?_
  refine runs_seq ?_
  refine runs_region ?_
  refine rl0 (gn rfl) rfl rfl (step_mv rfl rfl) trivial ?_
  refine rl0 (gn rfl) rfl rfl (step_lit rfl Try.underlying38 F.sz5 F.zero5 (by first | rfl | simp) (by first | rfl | simp | decide) (by decide) rfl rfl (by first | (simp [V.cs, V.stor, oneV]; done) | (simp [V.cs, V.stor, oneV])) rfl) trivial ?_
  refine rl0 (gn rfl) rfl rfl (step_callc rfl Try.func16 rfl rfl rfl (sectors_c [7, 8] (by simp)) (by repeat (first | exact .nil | refine .cons ?_ ?_ | exact VLe.refl _ | exact VLe.own_sl _ _ _ | exact VLe.fl_sl _ _ | exact VLe.nil_sl _ | exact VLe.nil_fl _ | refine VLe.agg ?_))) trivial ?_
  refine rl2 (gn rfl) rfl rfl (step_callc rfl Try.func15 rfl rfl rfl (wk_w3 (n + 0) (n + 1) (by omega)) (by repeat (first | exact .nil | refine .cons ?_ ?_ | exact VLe.refl _ | exact VLe.own_sl _ _ _ | exact VLe.fl_sl _ _ | exact VLe.nil_sl _ | exact VLe.nil_fl _ | refine VLe.agg ?_))) ⟨by repeat (first | exact upd_eq _ _ _ | refine (upd_ne _ _ _ _ (by omega)).trans ?_ | assumption | exact hd _ (by omega) | exact hd0 _ (by omega) | exact hd1 _ (by omega) | exact hd2 _ (by omega) | fail), ⟨by repeat (first | exact upd_eq _ _ _ | refine (upd_ne _ _ _ _ (by omega)).trans ?_ | assumption | exact hd _ (by omega) | exact hd0 _ (by omega) | exact hd1 _ (by omega) | exact hd2 _ (by omega) | fail), trivial⟩⟩ (by omega) (by omega) ?_
  refine rl0 (gn rfl) rfl rfl (step_as rfl rfl) trivial ?_
  refine runsL_nil ?_
  refine runs_seq ?_
  refine runs_region ?_
  refine rl0 (gn rfl) rfl rfl (step_mv rfl rfl) trivial ?_
  refine rl0 (gn rfl) rfl rfl (step_callc rfl Try.func20 rfl rfl rfl (wk_r1 (n + 0) (n + 1) (by omega)) (by repeat (first | exact .nil | refine .cons ?_ ?_ | exact VLe.refl _ | exact VLe.own_sl _ _ _ | exact VLe.fl_sl _ _ | exact VLe.nil_sl _ | exact VLe.nil_fl _ | refine VLe.agg ?_))) ⟨by repeat (first | exact upd_eq _ _ _ | refine (upd_ne _ _ _ _ (by omega)).trans ?_ | assumption | exact hd _ (by omega) | exact hd0 _ (by omega) | exact hd1 _ (by omega) | exact hd2 _ (by omega) | fail), ⟨by repeat (first | exact upd_eq _ _ _ | refine (upd_ne _ _ _ _ (by omega)).trans ?_ | assumption | exact hd _ (by omega) | exact hd0 _ (by omega) | exact hd1 _ (by omega) | exact hd2 _ (by omega) | fail), trivial⟩⟩ ?_
  refine rl0 (gn rfl) rfl rfl (step_mv rfl rfl) trivial ?_
  refine rl0 (gn rfl) rfl rfl (step_extract rfl (ev_mk rfl) rfl) trivial ?_
  refine rl0 (gn rfl) rfl rfl (step_extract rfl (ev_mk rfl) rfl) trivial ?_
  refine rl0 (gn rfl) rfl rfl (step_as rfl rfl) trivial ?_
  refine rl0 (gn rfl) rfl rfl (step_as rfl rfl) trivial ?_
  refine runsL_nil ?_
  refine runs_seq ?_
  refine runs_region ?_
  refine rl0 (gn rfl) rfl rfl (step_mv rfl rfl) trivial ?_
  refine rl0 (gn rfl) rfl rfl (step_callc rfl Try.func18 rfl rfl rfl (down_c (n + 0) _ _ _ _ _) (by repeat (first | exact .nil | refine .cons ?_ ?_ | exact VLe.refl _ | exact VLe.own_sl _ _ _ | exact VLe.fl_sl _ _ | exact VLe.nil_sl _ | exact VLe.nil_fl _ | refine VLe.agg ?_))) ⟨by repeat (first | exact upd_eq _ _ _ | refine (upd_ne _ _ _ _ (by omega)).trans ?_ | assumption | exact hd _ (by omega) | exact hd0 _ (by omega) | exact hd1 _ (by omega) | exact hd2 _ (by omega) | fail), trivial⟩ ?_
  refine rl0 (gn rfl) rfl rfl (step_as rfl rfl) trivial ?_
  refine runsL_nil ?_
  refine runs_seq ?_
  refine runs_region ?_
  refine rl0 (gn rfl) rfl rfl (step_mv rfl rfl) trivial ?_
  refine rl1 (gn rfl) rfl rfl (step_callc rfl Try.func12 rfl rfl rfl (up_c (n + 0) (n + 1) T2 1 0 [false, true] true) (by repeat (first | exact .nil | refine .cons ?_ ?_ | exact VLe.refl _ | exact VLe.own_sl _ _ _ | exact VLe.fl_sl _ _ | exact VLe.nil_sl _ | exact VLe.nil_fl _ | refine VLe.agg ?_))) ⟨by repeat (first | exact upd_eq _ _ _ | refine (upd_ne _ _ _ _ (by omega)).trans ?_ | assumption | exact hd _ (by omega) | exact hd0 _ (by omega) | exact hd1 _ (by omega) | exact hd2 _ (by omega) | fail), ⟨by repeat (first | exact upd_eq _ _ _ | refine (upd_ne _ _ _ _ (by omega)).trans ?_ | assumption | exact hd _ (by omega) | exact hd0 _ (by omega) | exact hd1 _ (by omega) | exact hd2 _ (by omega) | fail), trivial⟩⟩ (by omega) ?_
  refine runsL_nil ?_
  refine runs_seq ?_
  refine runs_region ?_
  refine rl0 (gn rfl) rfl rfl (step_mv rfl rfl) trivial ?_
  refine rl0 (gn rfl) rfl rfl (step_callc rfl Try.func20 rfl rfl rfl (wk_r2 (n + 0) (n + 1) (by omega)) (by repeat (first | exact .nil | refine .cons ?_ ?_ | exact VLe.refl _ | exact VLe.own_sl _ _ _ | exact VLe.fl_sl _ _ | exact VLe.nil_sl _ | exact VLe.nil_fl _ | refine VLe.agg ?_))) ⟨by repeat (first | exact upd_eq _ _ _ | refine (upd_ne _ _ _ _ (by omega)).trans ?_ | assumption | exact hd _ (by omega) | exact hd0 _ (by omega) | exact hd1 _ (by omega) | exact hd2 _ (by omega) | fail), ⟨by repeat (first | exact upd_eq _ _ _ | refine (upd_ne _ _ _ _ (by omega)).trans ?_ | assumption | exact hd _ (by omega) | exact hd0 _ (by omega) | exact hd1 _ (by omega) | exact hd2 _ (by omega) | fail), trivial⟩⟩ ?_
  refine rl0 (gn rfl) rfl rfl (step_mv rfl rfl) trivial ?_
  refine rl0 (gn rfl) rfl rfl (step_extract rfl (ev_mk rfl) rfl) trivial ?_
  refine rl0 (gn rfl) rfl rfl (step_extract rfl (ev_mk rfl) rfl) trivial ?_
  refine rl0 (gn rfl) rfl rfl (step_as rfl rfl) trivial ?_
  refine rl0 (gn rfl) rfl rfl (step_as rfl rfl) trivial ?_
  refine runsL_nil ?_
  refine runs_seq ?_
  refine runs_seq ?_
  refine runs_region ?_
  refine rl0 (gn rfl) rfl rfl (step_mv rfl rfl) trivial ?_
  refine rl0 (gn rfl) rfl rfl (step_eq_nil (b := false) rfl (ev_mk rfl) (ev_mk rfl) Try.underlying25 ⟨_, .inl ⟨.inl ⟨_, _, rfl⟩, rfl⟩, .inl ⟨rfl, rfl⟩⟩) trivial ?_
  refine rl0 (gn rfl) rfl rfl (step_mv rfl rfl) trivial ?_
  refine rl0 (gy rfl rfl rfl rfl rfl rfl) rfl rfl (step_mv rfl rfl) trivial ?_
  first
    | refine rl0 (gy rfl rfl rfl rfl rfl rfl) rfl rfl (step_len rfl rfl (ev_mk rfl) (.inl ⟨⟨_, Try.underlying29⟩, .inl ⟨_, _, .inl rfl, List.length_map _⟩⟩)) trivial ?_
    | refine rl0 (gy rfl rfl rfl rfl rfl rfl) rfl rfl (step_len rfl rfl (ev_mk rfl) (.inl ⟨⟨_, Try.underlying29⟩, .inl ⟨_, _, .inl rfl, rfl⟩⟩)) trivial ?_
    | refine rl0 (gy rfl rfl rfl rfl rfl rfl) rfl rfl (step_len rfl rfl (ev_mk rfl) (.inl ⟨⟨_, Try.underlying29⟩, .inl ⟨_, _, .inr (.inl rfl), List.length_map _⟩⟩)) trivial ?_
    | refine rl0 (gy rfl rfl rfl rfl rfl rfl) rfl rfl (step_len rfl rfl (ev_mk rfl) (.inl ⟨⟨_, Try.underlying29⟩, .inl ⟨_, _, .inr (.inl rfl), rfl⟩⟩)) trivial ?_
    | refine rl0 (gy rfl rfl rfl rfl rfl rfl) rfl rfl (step_len rfl rfl (ev_mk rfl) (.inl ⟨⟨_, Try.underlying29⟩, .inl ⟨_, _, .inr (.inr ⟨_, rfl⟩), List.length_map _⟩⟩)) trivial ?_
    | refine rl0 (gy rfl rfl rfl rfl rfl rfl) rfl rfl (step_len rfl rfl (ev_mk rfl) (.inl ⟨⟨_, Try.underlying29⟩, .inl ⟨_, _, .inr (.inr ⟨_, rfl⟩), rfl⟩⟩)) trivial ?_
    | refine rl0 (gy rfl rfl rfl rfl rfl rfl) rfl rfl (step_len rfl rfl (ev_mk rfl) (.inl ⟨⟨_, Try.underlying29⟩, .inr (.inl ⟨_, _, _, _, rfl⟩)⟩)) trivial ?_
    | refine rl0 (gy rfl rfl rfl rfl rfl rfl) rfl rfl (step_len (m := 0) rfl rfl (ev_mk rfl) (.inl ⟨⟨_, Try.underlying29⟩, .inr (.inr ⟨_, _, rfl⟩)⟩)) trivial ?_
  refine rl_neq (gy rfl rfl rfl rfl rfl rfl) rfl rfl rfl rfl rfl (fun h1 => ?_) (fun h1 => ?_)
  · exact absurd (by first | rfl | decide) h1
  refine rl0 (gn rfl) rfl rfl (step_pick rfl (ev_mk rfl) (ev_mk rfl)) trivial ?_
  refine runsL_nil ?_
  refine runs_cond false (ev_mk rfl) (fun h_ => nomatch h_) (fun _ => ?_)
  refine runs_skip ?_
  refine runs_seq ?_
  refine runs_draw (by kernel_rfl) (by kernel_rfl) (by kernel_rfl) ?_
  refine dl0 (gn rfl) rfl rfl (step_mv rfl rfl) trivial ?_
  refine dl_eql (gn rfl) rfl rfl rfl rfl rfl (fun h2 => ?_) (fun h2 => ?_)
  rotate_left
  · exact absurd (by first | rfl | decide) h2
  refine dl0 (gn rfl) rfl rfl (step_mv rfl rfl) trivial ?_
  refine dl0 (gy rfl rfl rfl rfl rfl rfl) rfl rfl (step_mv rfl rfl) trivial ?_
  refine dl_eql (gy rfl rfl rfl rfl rfl rfl) rfl rfl rfl rfl rfl (fun h3 => ?_) (fun h3 => ?_)
  rotate_left
  · exact absurd (by first | rfl | decide) h3
  refine dl0 (gn rfl) rfl rfl (step_pick rfl (ev_mk rfl) (ev_mk rfl)) trivial ?_
  refine dl0 (gn rfl) rfl rfl (step_mv rfl rfl) trivial ?_
  refine dl0 (gy rfl rfl rfl rfl rfl rfl) rfl rfl (step_mv rfl rfl) trivial ?_
  refine dl_eql (gy rfl rfl rfl rfl rfl rfl) rfl rfl rfl rfl rfl (fun h4 => ?_) (fun h4 => ?_)
  rotate_left
  · exact absurd (by first | rfl | decide) h4
  refine dl0 (gn rfl) rfl rfl (step_pick rfl (ev_mk rfl) (ev_mk rfl)) trivial ?_
  refine dl0 (gn rfl) rfl rfl (step_mv rfl rfl) trivial ?_
  refine dl0 (gy rfl rfl rfl rfl rfl rfl) rfl rfl (step_mv rfl rfl) trivial ?_
  refine dl_eql (gy rfl rfl rfl rfl rfl rfl) rfl rfl rfl rfl rfl (fun h5 => ?_) (fun h5 => ?_)
  rotate_left
  · exact absurd (by first | rfl | decide) h5
  refine dl0 (gn rfl) rfl rfl (step_pick rfl (ev_mk rfl) (ev_mk rfl)) trivial ?_
  refine dl0 (gn rfl) rfl rfl (step_mv rfl rfl) trivial ?_
  refine dl0 (gy rfl rfl rfl rfl rfl rfl) rfl rfl (step_mv rfl rfl) trivial ?_
  refine dl_eql (gy rfl rfl rfl rfl rfl rfl) rfl rfl rfl rfl rfl (fun h6 => ?_) (fun h6 => ?_)
  rotate_left
  · exact absurd (by first | rfl | decide) h6
  refine dl0 (gn rfl) rfl rfl (step_pick rfl (ev_mk rfl) (ev_mk rfl)) trivial ?_
  refine dl0 (gn rfl) rfl rfl (step_mv rfl rfl) trivial ?_
  refine dl0 (gy rfl rfl rfl rfl rfl rfl) rfl rfl (step_mv rfl rfl) trivial ?_
  refine dl_eql (gy rfl rfl rfl rfl rfl rfl) rfl rfl rfl rfl rfl (fun h7 => ?_) (fun h7 => ?_)
  rotate_left
  · exact absurd (by first | rfl | decide) h7
  refine dl0 (gn rfl) rfl rfl (step_pick rfl (ev_mk rfl) (ev_mk rfl)) trivial ?_
  refine dl0 (gn rfl) rfl rfl (step_mv rfl rfl) trivial ?_
  refine dl0 (gy rfl rfl rfl rfl rfl rfl) rfl rfl (step_mv rfl rfl) trivial ?_
  refine dl0 (gn rfl) rfl rfl (step_pick rfl (ev_mk rfl) (ev_mk rfl)) trivial ?_
  refine dl0 (gn rfl) rfl rfl (step_mv rfl rfl) trivial ?_
  refine dl0 (gy rfl rfl rfl rfl rfl rfl) rfl rfl (step_mv rfl rfl) trivial ?_
  refine dl0 (gy rfl rfl rfl rfl rfl rfl) rfl rfl (step_callc rfl Try.func18 rfl rfl rfl (down_c (n + 0) _ _ _ _ _) (by repeat (first | exact .nil | refine .cons ?_ ?_ | exact VLe.refl _ | exact VLe.own_sl _ _ _ | exact VLe.fl_sl _ _ | exact VLe.nil_sl _ | exact VLe.nil_fl _ | refine VLe.agg ?_))) ⟨by repeat (first | exact upd_eq _ _ _ | refine (upd_ne _ _ _ _ (by omega)).trans ?_ | assumption | exact hd _ (by omega) | exact hd0 _ (by omega) | exact hd1 _ (by omega) | exact hd2 _ (by omega) | fail), trivial⟩ ?_
  refine dl0 (gy rfl rfl rfl rfl rfl rfl) rfl rfl (step_unOp (c := .bool true) rfl (ev_mk rfl) (fun _ => rfl)) trivial ?_
  refine dl0 (gn rfl) rfl rfl (step_pick rfl (ev_mk rfl) (ev_mk rfl)) trivial ?_
  refine dl0 (gn rfl) rfl rfl (step_mv rfl rfl) trivial ?_
  refine dl0 (gy rfl rfl rfl rfl rfl rfl) rfl rfl (step_mv rfl rfl) trivial ?_
  refine dl_eql (gy rfl rfl rfl rfl rfl rfl) rfl rfl rfl rfl rfl (fun h8 => ?_) (fun h8 => ?_)
  rotate_left
  · exact absurd (by first | rfl | decide) h8
  refine dl0 (gn rfl) rfl rfl (step_pick rfl (ev_mk rfl) (ev_mk rfl)) trivial ?_
  refine dl0 (gn rfl) rfl rfl (step_mv rfl rfl) trivial ?_
  refine dl0 (gy rfl rfl rfl rfl rfl rfl) rfl rfl (step_mv rfl rfl) trivial ?_
  first
    | (refine' dl0 (gy rfl rfl rfl rfl rfl rfl) rfl rfl (step_index rfl (ev_mk rfl) (.inl rfl) (ev_mk rfl) Try.underlying29 F.sz48 (by decide) ?hr) trivial ?_; (case hr => exact map_at _ _ _ (by decide) (by decide)))
    | (refine' dl0 (gy rfl rfl rfl rfl rfl rfl) rfl rfl (step_index rfl (ev_mk rfl) (.inr (.inl rfl)) (ev_mk rfl) Try.underlying29 F.sz48 (by decide) ?hr) trivial ?_; (case hr => exact map_at _ _ _ (by decide) (by decide)))
    | (refine' dl0 (gy rfl rfl rfl rfl rfl rfl) rfl rfl (step_index rfl (ev_mk rfl) (.inr (.inr ⟨_, rfl⟩)) (ev_mk rfl) Try.underlying29 F.sz48 (by decide) ?hr) trivial ?_; (case hr => exact map_at _ _ _ (by decide) (by decide)))
    | (refine dl0 (gy rfl rfl rfl rfl rfl rfl) rfl rfl (step_index_msl rfl (ev_mk rfl) (ev_mk rfl) Try.underlying29 F.sz48 (by decide) (by decide)) trivial ?_)
  first
    | (refine' dl0 (gy rfl rfl rfl rfl rfl rfl) rfl rfl (step_load_all rfl rfl F.agg48 ?hl) ⟨?hb, trivial⟩ ?_; (case hb => repeat (first | exact upd_eq _ _ _ | refine (upd_ne _ _ _ _ (by omega)).trans ?_ | assumption | exact hd _ (by omega) | exact hd0 _ (by omega) | exact hd1 _ (by omega) | exact hd2 _ (by omega) | fail)); (case hl => first | rfl | (simp; done) | (first | exact at_len64 T3_row (by omega) (by decide) | exact at_len64 T1_row (by omega) (by decide) | (rw [List.length_map]; exact at_len64 T3_row (by omega) (by decide)) | (rw [List.length_map]; exact at_len64 T1_row (by omega) (by decide)))))
    | (refine dl0 (gy rfl rfl rfl rfl rfl rfl) rfl rfl (step_load_ro_all rfl rfl F.agg48 (by first | rfl | (simp; done) | (first | exact at_len64 T3_row (by omega) (by decide) | exact at_len64 T1_row (by omega) (by decide) | (rw [List.length_map]; exact at_len64 T3_row (by omega) (by decide)) | (rw [List.length_map]; exact at_len64 T1_row (by omega) (by decide))))) trivial ?_)
    | (refine' dl0 (gy rfl rfl rfl rfl rfl rfl) rfl rfl (step_load_agg rfl (ev_mk rfl) F.agg48 ?hc ?hl) ⟨?hb, trivial⟩ ?_; (case hb => repeat (first | exact upd_eq _ _ _ | refine (upd_ne _ _ _ _ (by omega)).trans ?_ | assumption | exact hd _ (by omega) | exact hd0 _ (by omega) | exact hd1 _ (by omega) | exact hd2 _ (by omega) | fail)); (case hc => rfl); (case hl => first | rfl | (simp; done)))
    | (refine dl0 (gy rfl rfl rfl rfl rfl rfl) rfl rfl (step_load_ro_agg rfl (ev_mk rfl) F.agg48 rfl rfl) trivial ?_)
  refine dl0 (gy rfl rfl rfl rfl rfl rfl) rfl rfl (step_callc rfl Try.func19 rfl rfl rfl (filled_c 0) (by repeat (first | exact .nil | refine .cons ?_ ?_ | exact VLe.refl _ | exact VLe.own_sl _ _ _ | exact VLe.fl_sl _ _ | exact VLe.nil_sl _ | exact VLe.nil_fl _ | refine VLe.agg ?_))) trivial ?_
  refine dl0 (gy rfl rfl rfl rfl rfl rfl) rfl rfl (step_eql48t rfl rfl rfl (by first | exact r_len _ | exact at_len64 T3_row (by omega) (by decide) | exact at_len64 T1_row (by omega) (by decide)) (by kernel_rfl)) trivial ?_
  refine dl0 (gn rfl) rfl rfl (step_pick rfl (ev_mk rfl) (ev_mk rfl)) trivial ?_
  refine dl0 (gn rfl) rfl rfl (step_mv rfl rfl) trivial ?_
  refine dl0 (gy rfl rfl rfl rfl rfl rfl) rfl rfl (step_mv rfl rfl) trivial ?_
  first
    | (refine' dl0 (gy rfl rfl rfl rfl rfl rfl) rfl rfl (step_index rfl (ev_mk rfl) (.inl rfl) (ev_mk rfl) Try.underlying29 F.sz48 (by decide) ?hr) trivial ?_; (case hr => exact map_at _ _ _ (by decide) (by decide)))
    | (refine' dl0 (gy rfl rfl rfl rfl rfl rfl) rfl rfl (step_index rfl (ev_mk rfl) (.inr (.inl rfl)) (ev_mk rfl) Try.underlying29 F.sz48 (by decide) ?hr) trivial ?_; (case hr => exact map_at _ _ _ (by decide) (by decide)))
    | (refine' dl0 (gy rfl rfl rfl rfl rfl rfl) rfl rfl (step_index rfl (ev_mk rfl) (.inr (.inr ⟨_, rfl⟩)) (ev_mk rfl) Try.underlying29 F.sz48 (by decide) ?hr) trivial ?_; (case hr => exact map_at _ _ _ (by decide) (by decide)))
    | (refine dl0 (gy rfl rfl rfl rfl rfl rfl) rfl rfl (step_index_msl rfl (ev_mk rfl) (ev_mk rfl) Try.underlying29 F.sz48 (by decide) (by decide)) trivial ?_)
  first
    | (refine' dl0 (gy rfl rfl rfl rfl rfl rfl) rfl rfl (step_load_all rfl rfl F.agg48 ?hl) ⟨?hb, trivial⟩ ?_; (case hb => repeat (first | exact upd_eq _ _ _ | refine (upd_ne _ _ _ _ (by omega)).trans ?_ | assumption | exact hd _ (by omega) | exact hd0 _ (by omega) | exact hd1 _ (by omega) | exact hd2 _ (by omega) | fail)); (case hl => first | rfl | (simp; done) | (first | exact at_len64 T3_row (by omega) (by decide) | exact at_len64 T1_row (by omega) (by decide) | (rw [List.length_map]; exact at_len64 T3_row (by omega) (by decide)) | (rw [List.length_map]; exact at_len64 T1_row (by omega) (by decide)))))
    | (refine dl0 (gy rfl rfl rfl rfl rfl rfl) rfl rfl (step_load_ro_all rfl rfl F.agg48 (by first | rfl | (simp; done) | (first | exact at_len64 T3_row (by omega) (by decide) | exact at_len64 T1_row (by omega) (by decide) | (rw [List.length_map]; exact at_len64 T3_row (by omega) (by decide)) | (rw [List.length_map]; exact at_len64 T1_row (by omega) (by decide))))) trivial ?_)
    | (refine' dl0 (gy rfl rfl rfl rfl rfl rfl) rfl rfl (step_load_agg rfl (ev_mk rfl) F.agg48 ?hc ?hl) ⟨?hb, trivial⟩ ?_; (case hb => repeat (first | exact upd_eq _ _ _ | refine (upd_ne _ _ _ _ (by omega)).trans ?_ | assumption | exact hd _ (by omega) | exact hd0 _ (by omega) | exact hd1 _ (by omega) | exact hd2 _ (by omega) | fail)); (case hc => rfl); (case hl => first | rfl | (simp; done)))
    | (refine dl0 (gy rfl rfl rfl rfl rfl rfl) rfl rfl (step_load_ro_agg rfl (ev_mk rfl) F.agg48 rfl rfl) trivial ?_)
  refine dl0 (gy rfl rfl rfl rfl rfl rfl) rfl rfl (step_callc rfl Try.func19 rfl rfl rfl (filled_c 8) (by repeat (first | exact .nil | refine .cons ?_ ?_ | exact VLe.refl _ | exact VLe.own_sl _ _ _ | exact VLe.fl_sl _ _ | exact VLe.nil_sl _ | exact VLe.nil_fl _ | refine VLe.agg ?_))) trivial ?_
  refine dl0 (gy rfl rfl rfl rfl rfl rfl) rfl rfl (step_eql48t rfl rfl rfl (by first | exact r_len _ | exact at_len64 T3_row (by omega) (by decide) | exact at_len64 T1_row (by omega) (by decide)) (by kernel_rfl)) trivial ?_
  refine dl0 (gn rfl) rfl rfl (step_pick rfl (ev_mk rfl) (ev_mk rfl)) trivial ?_
  refine dl0 (gn rfl) rfl rfl (step_mv rfl rfl) trivial ?_
  refine dl0 (gy rfl rfl rfl rfl rfl rfl) rfl rfl (step_mv rfl rfl) trivial ?_
  first
    | (refine' dl0 (gy rfl rfl rfl rfl rfl rfl) rfl rfl (step_index rfl (ev_mk rfl) (.inl rfl) (ev_mk rfl) Try.underlying29 F.sz48 (by decide) ?hr) trivial ?_; (case hr => exact map_at _ _ _ (by decide) (by decide)))
    | (refine' dl0 (gy rfl rfl rfl rfl rfl rfl) rfl rfl (step_index rfl (ev_mk rfl) (.inr (.inl rfl)) (ev_mk rfl) Try.underlying29 F.sz48 (by decide) ?hr) trivial ?_; (case hr => exact map_at _ _ _ (by decide) (by decide)))
    | (refine' dl0 (gy rfl rfl rfl rfl rfl rfl) rfl rfl (step_index rfl (ev_mk rfl) (.inr (.inr ⟨_, rfl⟩)) (ev_mk rfl) Try.underlying29 F.sz48 (by decide) ?hr) trivial ?_; (case hr => exact map_at _ _ _ (by decide) (by decide)))
    | (refine dl0 (gy rfl rfl rfl rfl rfl rfl) rfl rfl (step_index_msl rfl (ev_mk rfl) (ev_mk rfl) Try.underlying29 F.sz48 (by decide) (by decide)) trivial ?_)
  first
    | (refine' dl0 (gy rfl rfl rfl rfl rfl rfl) rfl rfl (step_load_all rfl rfl F.agg48 ?hl) ⟨?hb, trivial⟩ ?_; (case hb => repeat (first | exact upd_eq _ _ _ | refine (upd_ne _ _ _ _ (by omega)).trans ?_ | assumption | exact hd _ (by omega) | exact hd0 _ (by omega) | exact hd1 _ (by omega) | exact hd2 _ (by omega) | fail)); (case hl => first | rfl | (simp; done) | (first | exact at_len64 T3_row (by omega) (by decide) | exact at_len64 T1_row (by omega) (by decide) | (rw [List.length_map]; exact at_len64 T3_row (by omega) (by decide)) | (rw [List.length_map]; exact at_len64 T1_row (by omega) (by decide)))))
    | (refine dl0 (gy rfl rfl rfl rfl rfl rfl) rfl rfl (step_load_ro_all rfl rfl F.agg48 (by first | rfl | (simp; done) | (first | exact at_len64 T3_row (by omega) (by decide) | exact at_len64 T1_row (by omega) (by decide) | (rw [List.length_map]; exact at_len64 T3_row (by omega) (by decide)) | (rw [List.length_map]; exact at_len64 T1_row (by omega) (by decide))))) trivial ?_)
    | (refine' dl0 (gy rfl rfl rfl rfl rfl rfl) rfl rfl (step_load_agg rfl (ev_mk rfl) F.agg48 ?hc ?hl) ⟨?hb, trivial⟩ ?_; (case hb => repeat (first | exact upd_eq _ _ _ | refine (upd_ne _ _ _ _ (by omega)).trans ?_ | assumption | exact hd _ (by omega) | exact hd0 _ (by omega) | exact hd1 _ (by omega) | exact hd2 _ (by omega) | fail)); (case hc => rfl); (case hl => first | rfl | (simp; done)))
    | (refine dl0 (gy rfl rfl rfl rfl rfl rfl) rfl rfl (step_load_ro_agg rfl (ev_mk rfl) F.agg48 rfl rfl) trivial ?_)
  refine dl0 (gy rfl rfl rfl rfl rfl rfl) rfl rfl (step_callc rfl Try.func19 rfl rfl rfl (filled_c 6) (by repeat (first | exact .nil | refine .cons ?_ ?_ | exact VLe.refl _ | exact VLe.own_sl _ _ _ | exact VLe.fl_sl _ _ | exact VLe.nil_sl _ | exact VLe.nil_fl _ | refine VLe.agg ?_))) trivial ?_
  refine dl0 (gy rfl rfl rfl rfl rfl rfl) rfl rfl (step_eql48t rfl rfl rfl (by first | exact r_len _ | exact at_len64 T3_row (by omega) (by decide) | exact at_len64 T1_row (by omega) (by decide)) (by kernel_rfl)) trivial ?_
  refine dl0 (gn rfl) rfl rfl (step_pick rfl (ev_mk rfl) (ev_mk rfl)) trivial ?_
  refine dl0 (gn rfl) rfl rfl (step_mv rfl rfl) trivial ?_
  refine dl0 (gy rfl rfl rfl rfl rfl rfl) rfl rfl (step_mv rfl rfl) trivial ?_
  refine dl0 (gy rfl rfl rfl rfl rfl rfl) rfl rfl (step_callc rfl Try.func21 rfl rfl rfl (writes_c (n + 0) _ _ _ _ _) (by repeat (first | exact .nil | refine .cons ?_ ?_ | exact VLe.refl _ | exact VLe.own_sl _ _ _ | exact VLe.fl_sl _ _ | exact VLe.nil_sl _ | exact VLe.nil_fl _ | refine VLe.agg ?_))) ⟨by repeat (first | exact upd_eq _ _ _ | refine (upd_ne _ _ _ _ (by omega)).trans ?_ | assumption | exact hd _ (by omega) | exact hd0 _ (by omega) | exact hd1 _ (by omega) | exact hd2 _ (by omega) | fail), trivial⟩ ?_
  refine dl_eql (gy rfl rfl rfl rfl rfl rfl) rfl rfl rfl rfl rfl (fun h9 => ?_) (fun h9 => ?_)
  rotate_left
  · exact absurd (by first | rfl | decide) h9
  refine dl0 (gn rfl) rfl rfl (step_pick rfl (ev_mk rfl) (ev_mk rfl)) trivial ?_
  refine dl0 (gn rfl) rfl rfl (step_mv rfl rfl) trivial ?_
  refine dl0 (gy rfl rfl rfl rfl rfl rfl) rfl rfl (step_mv rfl rfl) trivial ?_
  refine dl0 (gy rfl rfl rfl rfl rfl rfl) rfl rfl (step_callc rfl Try.func22 rfl rfl rfl (size_c (n + 0) (n + 1) 4 _ _ _ _) (by repeat (first | exact .nil | refine .cons ?_ ?_ | exact VLe.refl _ | exact VLe.own_sl _ _ _ | exact VLe.fl_sl _ _ | exact VLe.nil_sl _ | exact VLe.nil_fl _ | refine VLe.agg ?_))) ⟨by repeat (first | exact upd_eq _ _ _ | refine (upd_ne _ _ _ _ (by omega)).trans ?_ | assumption | exact hd _ (by omega) | exact hd0 _ (by omega) | exact hd1 _ (by omega) | exact hd2 _ (by omega) | fail), trivial⟩ ?_
  refine dl_eql (gy rfl rfl rfl rfl rfl rfl) rfl rfl rfl rfl rfl (fun h10 => ?_) (fun h10 => ?_)
  rotate_left
  · exact absurd (by first | rfl | decide) h10
  refine dl0 (gn rfl) rfl rfl (step_pick rfl (ev_mk rfl) (ev_mk rfl)) trivial ?_
  refine dl0 (gn rfl) rfl rfl (step_mv rfl rfl) trivial ?_
  refine dl0 (gy rfl rfl rfl rfl rfl rfl) rfl rfl (step_mv rfl rfl) trivial ?_
  refine dl0 (gy rfl rfl rfl rfl rfl rfl) rfl rfl (step_callc rfl Try.func13 rfl rfl rfl (image_t (n + 2) T1 _ _ _ _ (by rw [T1_len]; omega)) (by repeat (first | exact .nil | refine .cons ?_ ?_ | exact VLe.refl _ | exact VLe.own_sl _ _ _ | exact VLe.fl_sl _ _ | exact VLe.nil_sl _ | exact VLe.nil_fl _ | refine VLe.agg ?_))) ⟨by repeat (first | exact upd_eq _ _ _ | refine (upd_ne _ _ _ _ (by omega)).trans ?_ | assumption | exact hd _ (by omega) | exact hd0 _ (by omega) | exact hd1 _ (by omega) | exact hd2 _ (by omega) | fail), trivial⟩ ?_
  first
    | refine dl0 (gy rfl rfl rfl rfl rfl rfl) rfl rfl (step_len rfl rfl (ev_mk rfl) (.inl ⟨⟨_, Try.underlying29⟩, .inl ⟨_, _, .inl rfl, List.length_map _⟩⟩)) trivial ?_
    | refine dl0 (gy rfl rfl rfl rfl rfl rfl) rfl rfl (step_len rfl rfl (ev_mk rfl) (.inl ⟨⟨_, Try.underlying29⟩, .inl ⟨_, _, .inl rfl, rfl⟩⟩)) trivial ?_
    | refine dl0 (gy rfl rfl rfl rfl rfl rfl) rfl rfl (step_len rfl rfl (ev_mk rfl) (.inl ⟨⟨_, Try.underlying29⟩, .inl ⟨_, _, .inr (.inl rfl), List.length_map _⟩⟩)) trivial ?_
    | refine dl0 (gy rfl rfl rfl rfl rfl rfl) rfl rfl (step_len rfl rfl (ev_mk rfl) (.inl ⟨⟨_, Try.underlying29⟩, .inl ⟨_, _, .inr (.inl rfl), rfl⟩⟩)) trivial ?_
    | refine dl0 (gy rfl rfl rfl rfl rfl rfl) rfl rfl (step_len rfl rfl (ev_mk rfl) (.inl ⟨⟨_, Try.underlying29⟩, .inl ⟨_, _, .inr (.inr ⟨_, rfl⟩), List.length_map _⟩⟩)) trivial ?_
    | refine dl0 (gy rfl rfl rfl rfl rfl rfl) rfl rfl (step_len rfl rfl (ev_mk rfl) (.inl ⟨⟨_, Try.underlying29⟩, .inl ⟨_, _, .inr (.inr ⟨_, rfl⟩), rfl⟩⟩)) trivial ?_
    | refine dl0 (gy rfl rfl rfl rfl rfl rfl) rfl rfl (step_len rfl rfl (ev_mk rfl) (.inl ⟨⟨_, Try.underlying29⟩, .inr (.inl ⟨_, _, _, _, rfl⟩)⟩)) trivial ?_
    | refine dl0 (gy rfl rfl rfl rfl rfl rfl) rfl rfl (step_len (m := 0) rfl rfl (ev_mk rfl) (.inl ⟨⟨_, Try.underlying29⟩, .inr (.inr ⟨_, _, rfl⟩)⟩)) trivial ?_
  refine dl_eql (gy rfl rfl rfl rfl rfl rfl) rfl rfl rfl rfl rfl (fun h11 => ?_) (fun h11 => ?_)
  rotate_left
  · exact absurd (by first | rfl | decide) h11
  refine dl0 (gn rfl) rfl rfl (step_pick rfl (ev_mk rfl) (ev_mk rfl)) trivial ?_
  refine dl0 (gn rfl) rfl rfl (step_mv rfl rfl) trivial ?_
  refine dl0 (gy rfl rfl rfl rfl rfl rfl) rfl rfl (step_mv rfl rfl) trivial ?_
  refine dl0 (gy rfl rfl rfl rfl rfl rfl) rfl rfl (step_callc rfl Try.func13 rfl rfl rfl (image_t (n + 2) T1 _ _ _ _ (by rw [T1_len]; omega)) (by repeat (first | exact .nil | refine .cons ?_ ?_ | exact VLe.refl _ | exact VLe.own_sl _ _ _ | exact VLe.fl_sl _ _ | exact VLe.nil_sl _ | exact VLe.nil_fl _ | refine VLe.agg ?_))) ⟨by repeat (first | exact upd_eq _ _ _ | refine (upd_ne _ _ _ _ (by omega)).trans ?_ | assumption | exact hd _ (by omega) | exact hd0 _ (by omega) | exact hd1 _ (by omega) | exact hd2 _ (by omega) | fail), trivial⟩ ?_
  first
    | (refine' dl0 (gy rfl rfl rfl rfl rfl rfl) rfl rfl (step_index rfl (ev_mk rfl) (.inl rfl) (ev_mk rfl) Try.underlying29 F.sz48 (by decide) ?hr) trivial ?_; (case hr => exact map_at _ _ _ (by decide) (by decide)))
    | (refine' dl0 (gy rfl rfl rfl rfl rfl rfl) rfl rfl (step_index rfl (ev_mk rfl) (.inr (.inl rfl)) (ev_mk rfl) Try.underlying29 F.sz48 (by decide) ?hr) trivial ?_; (case hr => exact map_at _ _ _ (by decide) (by decide)))
    | (refine' dl0 (gy rfl rfl rfl rfl rfl rfl) rfl rfl (step_index rfl (ev_mk rfl) (.inr (.inr ⟨_, rfl⟩)) (ev_mk rfl) Try.underlying29 F.sz48 (by decide) ?hr) trivial ?_; (case hr => exact map_at _ _ _ (by decide) (by decide)))
    | (refine dl0 (gy rfl rfl rfl rfl rfl rfl) rfl rfl (step_index_msl rfl (ev_mk rfl) (ev_mk rfl) Try.underlying29 F.sz48 (by decide) (by decide)) trivial ?_)
  first
    | (refine' dl0 (gy rfl rfl rfl rfl rfl rfl) rfl rfl (step_load_all rfl rfl F.agg48 ?hl) ⟨?hb, trivial⟩ ?_; (case hb => repeat (first | exact upd_eq _ _ _ | refine (upd_ne _ _ _ _ (by omega)).trans ?_ | assumption | exact hd _ (by omega) | exact hd0 _ (by omega) | exact hd1 _ (by omega) | exact hd2 _ (by omega) | fail)); (case hl => first | rfl | (simp; done) | (first | exact at_len64 T3_row (by omega) (by decide) | exact at_len64 T1_row (by omega) (by decide) | (rw [List.length_map]; exact at_len64 T3_row (by omega) (by decide)) | (rw [List.length_map]; exact at_len64 T1_row (by omega) (by decide)))))
    | (refine dl0 (gy rfl rfl rfl rfl rfl rfl) rfl rfl (step_load_ro_all rfl rfl F.agg48 (by first | rfl | (simp; done) | (first | exact at_len64 T3_row (by omega) (by decide) | exact at_len64 T1_row (by omega) (by decide) | (rw [List.length_map]; exact at_len64 T3_row (by omega) (by decide)) | (rw [List.length_map]; exact at_len64 T1_row (by omega) (by decide))))) trivial ?_)
    | (refine' dl0 (gy rfl rfl rfl rfl rfl rfl) rfl rfl (step_load_agg rfl (ev_mk rfl) F.agg48 ?hc ?hl) ⟨?hb, trivial⟩ ?_; (case hb => repeat (first | exact upd_eq _ _ _ | refine (upd_ne _ _ _ _ (by omega)).trans ?_ | assumption | exact hd _ (by omega) | exact hd0 _ (by omega) | exact hd1 _ (by omega) | exact hd2 _ (by omega) | fail)); (case hc => rfl); (case hl => first | rfl | (simp; done)))
    | (refine dl0 (gy rfl rfl rfl rfl rfl rfl) rfl rfl (step_load_ro_agg rfl (ev_mk rfl) F.agg48 rfl rfl) trivial ?_)
  refine dl0 (gy rfl rfl rfl rfl rfl rfl) rfl rfl (step_callc rfl Try.func19 rfl rfl rfl (filled_c 5) (by repeat (first | exact .nil | refine .cons ?_ ?_ | exact VLe.refl _ | exact VLe.own_sl _ _ _ | exact VLe.fl_sl _ _ | exact VLe.nil_sl _ | exact VLe.nil_fl _ | refine VLe.agg ?_))) trivial ?_
  refine dl0 (gy rfl rfl rfl rfl rfl rfl) rfl rfl (step_eql48t rfl rfl rfl (by first | exact r_len _ | exact at_len64 T3_row (by omega) (by decide) | exact at_len64 T1_row (by omega) (by decide)) (by kernel_rfl)) trivial ?_
  refine dl0 (gn rfl) rfl rfl (step_pick rfl (ev_mk rfl) (ev_mk rfl)) trivial ?_
  refine dl0 (gn rfl) rfl rfl (step_as rfl rfl) trivial ?_
  refine dlnil ?_ ?_
  · repeat' (first | exact trivial | exact .inr (ap0 _ _ _ _) | exact .inr (ap2 _ _ _ _) | exact .inr (ap3 _ _ _ _) | exact .inr ⟨by first | (simp; done) | (simp; omega), by first | (simp; done) | (simp; omega)⟩ | exact .inl (by kernel_rfl) | refine ⟨?_, ?_⟩ | fail)
  refine runs_ret ?_
  refine ⟨by first | exact .inr rfl | exact .inl rfl, fin_mk (rest rfl res0) ?_ ?_ ?_ ?_⟩
  · first | exact VLe.refl _ | exact VLe.own_sl _ _ _ | exact VLe.fl_sl _ _
  · repeat (first | exact trivial | assumption | omega | exact bd_bs | exact bd_row | exact bd_secs | exact bd_bools | refine ⟨?_, ?_⟩ | fail)
  · intro k hk; exact ble (by first | exact rfl | (refine (upd_ne _ _ _ _ (by omega)).trans ?_; first | exact rfl | skip; repeat (first | exact rfl | refine (upd_ne _ _ _ _ (by omega)).trans ?_ | assumption | exact hf0 _ (by omega) | exact hf1 _ (by omega) | exact hf2 _ (by omega) | exact hf0 _ (by omega) (by first | assumption | omega) | exact hf1 _ (by omega) (by first | assumption | omega))) | exact hf0 _ (by omega) | exact hf1 _ (by omega) | exact hf2 _ (by omega) | exact hf0 _ (by omega) (by first | assumption | omega) | exact hf1 _ (by omega) (by first | assumption | omega))
  · intro p hp; cases hp
end Go.Proofs.Ytllpipiidjfhbaa
